/-
  No cell of these rows narrows 'for every input' (looked for: loops, veiled, ifaces, maps, wideKeys, modest, calm, conditions, laid).
  DERIVED. THE GIVEN ROWS OF THIS SEAT. 14 by the template 'for every input the law returns true; each argument reads behind the call as it read before'; 0 by the template 'total and deterministic' (their statements: YtlmeofmhklpfdaaTotals.lean).
  GIVEN WITH THE SEED: the statements are not yours to turn. If you find one false, say at which input.
  Laid BY PROGRAM, IN A SANDBOX (cutbox-rows.mjs): the forced cells as the released guide's own fill.sh prints them over the translation 4420a4889a9d5b05… (all of the seat's roots in one cut). By AI agents, Wed Nov 11 2026. No macro, syntax, notation, axiom, sorry.
-/
import Derived.Test.YtlmeofmhklpfdaaChecked
import GoSem.Claim
import GoSem.ClaimJoined
import GoSem.ClaimMapViews
import Derived.JoinedTies
import Derived.KernelRfl
namespace Go.Proofs.Ytlmeofmhklpfdaa
/- THE CELL 'sum', in the pinned program and in every row, IS THE sha256 OF THE DUMP (.gsa) THAT YtlmeofmhklpfdaaProg.lean LOADS. Nothing in Lean hashes anything: it is a label: what it is worth is what the hold of that sum in a sandbox is worth. -/
noncomputable def Try.pinned : Pinned := { name := "ytlmeofmhklpfdaa", sum := "4420a4889a9d5b05f74a945904c71f4b439d27a515008d3c686d9ec74bebbbc9", checked := Try.checked }
namespace Rows
def none {H : Type} : Left H := { results := [], args := [] }

/-- 'latchetlaw03.TriTells': WHATEVER THE INPUT: true; the input reads as it did. -/
def triTellsSpec : ChangeSpec := { name := "triTells", fn := fun _ => fun
  | [d1, d2] => { results := [.lit (.bool true)], args := [d1, d2] }
  | _ => none }
def triTellsRow : OpenClaim := { program := "ytlmeofmhklpfdaa", sum := "4420a4889a9d5b05f74a945904c71f4b439d27a515008d3c686d9ec74bebbbc9", func := "latchet/latchetlaw03.TriTells", spec := "triTells", plainKeys := false, apart := false }
def TriTellsSaid : Prop := triTellsRow.holds Try.pinned (OpenSpec.ofChange triTellsSpec)

/-- ITS FALSE NEIGHBOUR: 'it returns false'. Refute it at one input. -/
def triTellsWrong : ChangeSpec := { name := "triTells", fn := fun _ => fun
  | [d1, d2] => { results := [.lit (.bool false)], args := [d1, d2] }
  | _ => none }
def TriTellsWrongFalsely : Prop := triTellsRow.holds Try.pinned (OpenSpec.ofChange triTellsWrong)

/-- 'latchetlaw03.TriSays': WHATEVER THE INPUT: true; the input reads as it did. -/
def triSaysSpec : ChangeSpec := { name := "triSays", fn := fun _ => fun
  | [d1, d2, d3] => { results := [.lit (.bool true)], args := [d1, d2, d3] }
  | _ => none }
def triSaysRow : OpenClaim := { program := "ytlmeofmhklpfdaa", sum := "4420a4889a9d5b05f74a945904c71f4b439d27a515008d3c686d9ec74bebbbc9", func := "latchet/latchetlaw03.TriSays", spec := "triSays", plainKeys := false, apart := false }
def TriSaysSaid : Prop := triSaysRow.holds Try.pinned (OpenSpec.ofChange triSaysSpec)

/-- ITS FALSE NEIGHBOUR: 'it returns false'. Refute it at one input. -/
def triSaysWrong : ChangeSpec := { name := "triSays", fn := fun _ => fun
  | [d1, d2, d3] => { results := [.lit (.bool false)], args := [d1, d2, d3] }
  | _ => none }
def TriSaysWrongFalsely : Prop := triSaysRow.holds Try.pinned (OpenSpec.ofChange triSaysWrong)

/-- 'latchetlaw03.TriLits': WHATEVER THE INPUT: true; the input reads as it did. -/
def triLitsSpec : ChangeSpec := { name := "triLits", fn := fun _ => fun
  | [d1, d2] => { results := [.lit (.bool true)], args := [d1, d2] }
  | _ => none }
def triLitsRow : OpenClaim := { program := "ytlmeofmhklpfdaa", sum := "4420a4889a9d5b05f74a945904c71f4b439d27a515008d3c686d9ec74bebbbc9", func := "latchet/latchetlaw03.TriLits", spec := "triLits", unfollowed := true, recurses := true, plainKeys := false, apart := false }
def TriLitsSaid : Prop := triLitsRow.holds Try.pinned (OpenSpec.ofChange triLitsSpec)

/-- ITS FALSE NEIGHBOUR: 'it returns false'. Refute it at one input. -/
def triLitsWrong : ChangeSpec := { name := "triLits", fn := fun _ => fun
  | [d1, d2] => { results := [.lit (.bool false)], args := [d1, d2] }
  | _ => none }
def TriLitsWrongFalsely : Prop := triLitsRow.holds Try.pinned (OpenSpec.ofChange triLitsWrong)

/-- 'latchetlaw09.SimWords': WHATEVER THE INPUT: true; the input reads as it did. -/
def simWordsSpec : ChangeSpec := { name := "simWords", fn := fun _ => fun
  | [d1, d2, d3] => { results := [.lit (.bool true)], args := [d1, d2, d3] }
  | _ => none }
def simWordsRow : OpenClaim := { program := "ytlmeofmhklpfdaa", sum := "4420a4889a9d5b05f74a945904c71f4b439d27a515008d3c686d9ec74bebbbc9", func := "latchet/latchetlaw09.SimWords", spec := "simWords", plainKeys := false, apart := false }
def SimWordsSaid : Prop := simWordsRow.holds Try.pinned (OpenSpec.ofChange simWordsSpec)

/-- ITS FALSE NEIGHBOUR: 'it returns false'. Refute it at one input. -/
def simWordsWrong : ChangeSpec := { name := "simWords", fn := fun _ => fun
  | [d1, d2, d3] => { results := [.lit (.bool false)], args := [d1, d2, d3] }
  | _ => none }
def SimWordsWrongFalsely : Prop := simWordsRow.holds Try.pinned (OpenSpec.ofChange simWordsWrong)

/-- 'latchetlaw09.SimLanes': WHATEVER THE INPUT: true; the input reads as it did. -/
def simLanesSpec : ChangeSpec := { name := "simLanes", fn := fun _ => fun
  | [d1, d2, d3] => { results := [.lit (.bool true)], args := [d1, d2, d3] }
  | _ => none }
def simLanesRow : OpenClaim := { program := "ytlmeofmhklpfdaa", sum := "4420a4889a9d5b05f74a945904c71f4b439d27a515008d3c686d9ec74bebbbc9", func := "latchet/latchetlaw09.SimLanes", spec := "simLanes", plainKeys := false, apart := false }
def SimLanesSaid : Prop := simLanesRow.holds Try.pinned (OpenSpec.ofChange simLanesSpec)

/-- ITS FALSE NEIGHBOUR: 'it returns false'. Refute it at one input. -/
def simLanesWrong : ChangeSpec := { name := "simLanes", fn := fun _ => fun
  | [d1, d2, d3] => { results := [.lit (.bool false)], args := [d1, d2, d3] }
  | _ => none }
def SimLanesWrongFalsely : Prop := simLanesRow.holds Try.pinned (OpenSpec.ofChange simLanesWrong)

/-- 'latchetlaw03.TriWords': WHATEVER THE INPUT: true; the input reads as it did. -/
def triWordsSpec : ChangeSpec := { name := "triWords", fn := fun _ => fun
  | [d1, d2, d3, d4] => { results := [.lit (.bool true)], args := [d1, d2, d3, d4] }
  | _ => none }
def triWordsRow : OpenClaim := { program := "ytlmeofmhklpfdaa", sum := "4420a4889a9d5b05f74a945904c71f4b439d27a515008d3c686d9ec74bebbbc9", func := "latchet/latchetlaw03.TriWords", spec := "triWords", plainKeys := false, apart := false }
def TriWordsSaid : Prop := triWordsRow.holds Try.pinned (OpenSpec.ofChange triWordsSpec)

/-- ITS FALSE NEIGHBOUR: 'it returns false'. Refute it at one input. -/
def triWordsWrong : ChangeSpec := { name := "triWords", fn := fun _ => fun
  | [d1, d2, d3, d4] => { results := [.lit (.bool false)], args := [d1, d2, d3, d4] }
  | _ => none }
def TriWordsWrongFalsely : Prop := triWordsRow.holds Try.pinned (OpenSpec.ofChange triWordsWrong)

/-- 'latchetlaw09.SimEvals': WHATEVER THE INPUT: true; the input reads as it did. -/
def simEvalsSpec : ChangeSpec := { name := "simEvals", fn := fun _ => fun
  | [d1, d2, d3, d4] => { results := [.lit (.bool true)], args := [d1, d2, d3, d4] }
  | _ => none }
def simEvalsRow : OpenClaim := { program := "ytlmeofmhklpfdaa", sum := "4420a4889a9d5b05f74a945904c71f4b439d27a515008d3c686d9ec74bebbbc9", func := "latchet/latchetlaw09.SimEvals", spec := "simEvals", plainKeys := false, apart := false }
def SimEvalsSaid : Prop := simEvalsRow.holds Try.pinned (OpenSpec.ofChange simEvalsSpec)

/-- ITS FALSE NEIGHBOUR: 'it returns false'. Refute it at one input. -/
def simEvalsWrong : ChangeSpec := { name := "simEvals", fn := fun _ => fun
  | [d1, d2, d3, d4] => { results := [.lit (.bool false)], args := [d1, d2, d3, d4] }
  | _ => none }
def SimEvalsWrongFalsely : Prop := simEvalsRow.holds Try.pinned (OpenSpec.ofChange simEvalsWrong)

/-- 'latchetlaw08.ConeMeans': WHATEVER THE INPUT: true; the input reads as it did. -/
def coneMeansSpec : ChangeSpec := { name := "coneMeans", fn := fun _ => fun
  | [d1, d2, d3, d4] => { results := [.lit (.bool true)], args := [d1, d2, d3, d4] }
  | _ => none }
def coneMeansRow : OpenClaim := { program := "ytlmeofmhklpfdaa", sum := "4420a4889a9d5b05f74a945904c71f4b439d27a515008d3c686d9ec74bebbbc9", func := "latchet/latchetlaw08.ConeMeans", spec := "coneMeans", unfollowed := true, recurses := true, plainKeys := false, apart := false }
def ConeMeansSaid : Prop := coneMeansRow.holds Try.pinned (OpenSpec.ofChange coneMeansSpec)

/-- ITS FALSE NEIGHBOUR: 'it returns false'. Refute it at one input. -/
def coneMeansWrong : ChangeSpec := { name := "coneMeans", fn := fun _ => fun
  | [d1, d2, d3, d4] => { results := [.lit (.bool false)], args := [d1, d2, d3, d4] }
  | _ => none }
def ConeMeansWrongFalsely : Prop := coneMeansRow.holds Try.pinned (OpenSpec.ofChange coneMeansWrong)

/-- 'latchetlaw08.ConeAbove': WHATEVER THE INPUT: true; the input reads as it did. -/
def coneAboveSpec : ChangeSpec := { name := "coneAbove", fn := fun _ => fun
  | [d1, d2] => { results := [.lit (.bool true)], args := [d1, d2] }
  | _ => none }
def coneAboveRow : OpenClaim := { program := "ytlmeofmhklpfdaa", sum := "4420a4889a9d5b05f74a945904c71f4b439d27a515008d3c686d9ec74bebbbc9", func := "latchet/latchetlaw08.ConeAbove", spec := "coneAbove", unfollowed := true, recurses := true, plainKeys := false, apart := false }
def ConeAboveSaid : Prop := coneAboveRow.holds Try.pinned (OpenSpec.ofChange coneAboveSpec)

/-- ITS FALSE NEIGHBOUR: 'it returns false'. Refute it at one input. -/
def coneAboveWrong : ChangeSpec := { name := "coneAbove", fn := fun _ => fun
  | [d1, d2] => { results := [.lit (.bool false)], args := [d1, d2] }
  | _ => none }
def ConeAboveWrongFalsely : Prop := coneAboveRow.holds Try.pinned (OpenSpec.ofChange coneAboveWrong)

/-- 'latchetlaw08.ConeTells': WHATEVER THE INPUT: true; the input reads as it did. -/
def coneTellsSpec : ChangeSpec := { name := "coneTells", fn := fun _ => fun
  | [d1, d2] => { results := [.lit (.bool true)], args := [d1, d2] }
  | _ => none }
def coneTellsRow : OpenClaim := { program := "ytlmeofmhklpfdaa", sum := "4420a4889a9d5b05f74a945904c71f4b439d27a515008d3c686d9ec74bebbbc9", func := "latchet/latchetlaw08.ConeTells", spec := "coneTells", unfollowed := true, recurses := true, plainKeys := false, apart := false }
def ConeTellsSaid : Prop := coneTellsRow.holds Try.pinned (OpenSpec.ofChange coneTellsSpec)

/-- ITS FALSE NEIGHBOUR: 'it returns false'. Refute it at one input. -/
def coneTellsWrong : ChangeSpec := { name := "coneTells", fn := fun _ => fun
  | [d1, d2] => { results := [.lit (.bool false)], args := [d1, d2] }
  | _ => none }
def ConeTellsWrongFalsely : Prop := coneTellsRow.holds Try.pinned (OpenSpec.ofChange coneTellsWrong)

/-- 'latchetlaw08.ConeCuts': WHATEVER THE INPUT: true; the input reads as it did. -/
def coneCutsSpec : ChangeSpec := { name := "coneCuts", fn := fun _ => fun
  | [d1, d2, d3] => { results := [.lit (.bool true)], args := [d1, d2, d3] }
  | _ => none }
def coneCutsRow : OpenClaim := { program := "ytlmeofmhklpfdaa", sum := "4420a4889a9d5b05f74a945904c71f4b439d27a515008d3c686d9ec74bebbbc9", func := "latchet/latchetlaw08.ConeCuts", spec := "coneCuts", unfollowed := true, recurses := true, plainKeys := false, apart := false }
def ConeCutsSaid : Prop := coneCutsRow.holds Try.pinned (OpenSpec.ofChange coneCutsSpec)

/-- ITS FALSE NEIGHBOUR: 'it returns false'. Refute it at one input. -/
def coneCutsWrong : ChangeSpec := { name := "coneCuts", fn := fun _ => fun
  | [d1, d2, d3] => { results := [.lit (.bool false)], args := [d1, d2, d3] }
  | _ => none }
def ConeCutsWrongFalsely : Prop := coneCutsRow.holds Try.pinned (OpenSpec.ofChange coneCutsWrong)

/-- 'latchetlaw10.TernDrops': WHATEVER THE INPUT: true; the input reads as it did. -/
def ternDropsSpec : ChangeSpec := { name := "ternDrops", fn := fun _ => fun
  | [d1, d2, d3, d4] => { results := [.lit (.bool true)], args := [d1, d2, d3, d4] }
  | _ => none }
def ternDropsRow : OpenClaim := { program := "ytlmeofmhklpfdaa", sum := "4420a4889a9d5b05f74a945904c71f4b439d27a515008d3c686d9ec74bebbbc9", func := "latchet/latchetlaw10.TernDrops", spec := "ternDrops", unfollowed := true, recurses := true, plainKeys := false, apart := false }
def TernDropsSaid : Prop := ternDropsRow.holds Try.pinned (OpenSpec.ofChange ternDropsSpec)

/-- ITS FALSE NEIGHBOUR: 'it returns false'. Refute it at one input. -/
def ternDropsWrong : ChangeSpec := { name := "ternDrops", fn := fun _ => fun
  | [d1, d2, d3, d4] => { results := [.lit (.bool false)], args := [d1, d2, d3, d4] }
  | _ => none }
def TernDropsWrongFalsely : Prop := ternDropsRow.holds Try.pinned (OpenSpec.ofChange ternDropsWrong)

/-- 'latchetlaw10.TernSound': WHATEVER THE INPUT: true; the input reads as it did. -/
def ternSoundSpec : ChangeSpec := { name := "ternSound", fn := fun _ => fun
  | [d1, d2, d3] => { results := [.lit (.bool true)], args := [d1, d2, d3] }
  | _ => none }
def ternSoundRow : OpenClaim := { program := "ytlmeofmhklpfdaa", sum := "4420a4889a9d5b05f74a945904c71f4b439d27a515008d3c686d9ec74bebbbc9", func := "latchet/latchetlaw10.TernSound", spec := "ternSound", unfollowed := true, recurses := true, plainKeys := false, apart := false }
def TernSoundSaid : Prop := ternSoundRow.holds Try.pinned (OpenSpec.ofChange ternSoundSpec)

/-- ITS FALSE NEIGHBOUR: 'it returns false'. Refute it at one input. -/
def ternSoundWrong : ChangeSpec := { name := "ternSound", fn := fun _ => fun
  | [d1, d2, d3] => { results := [.lit (.bool false)], args := [d1, d2, d3] }
  | _ => none }
def TernSoundWrongFalsely : Prop := ternSoundRow.holds Try.pinned (OpenSpec.ofChange ternSoundWrong)

/-- 'latchetlaw07.AigNets': WHATEVER THE INPUT: true; the input reads as it did. -/
def aigNetsSpec : ChangeSpec := { name := "aigNets", fn := fun _ => fun
  | [d] => { results := [.lit (.bool true)], args := [d] }
  | _ => none }
def aigNetsRow : OpenClaim := { program := "ytlmeofmhklpfdaa", sum := "4420a4889a9d5b05f74a945904c71f4b439d27a515008d3c686d9ec74bebbbc9", func := "latchet/latchetlaw07.AigNets", spec := "aigNets", unfollowed := true, recurses := true, plainKeys := false, apart := false }
def AigNetsSaid : Prop := aigNetsRow.holds Try.pinned (OpenSpec.ofChange aigNetsSpec)

/-- ITS FALSE NEIGHBOUR: 'it returns false'. Refute it at one input. -/
def aigNetsWrong : ChangeSpec := { name := "aigNets", fn := fun _ => fun
  | [d] => { results := [.lit (.bool false)], args := [d] }
  | _ => none }
def AigNetsWrongFalsely : Prop := aigNetsRow.holds Try.pinned (OpenSpec.ofChange aigNetsWrong)

/- THE SECOND FORM. 'bulk': how many values and letters a reading holds, each counted each time it is reached (what is shared counts as often as it is met; a slice's spare places count too). A statement '..UptoSaid' is the law's where the arguments, and the package variables that the reading takes, are together of bulk at most 1048576: NARROWER than '..Said'. Prove '..Said' where nothing that the law and all that it calls make is longer than what came in: it says more and counts as full. Else prove '..UptoSaid'. A law counts once. -/
mutual
def uptoBulk {H : Type} : DataW H → Nat
  | .lit (.string bytes) => bytes.length + 1
  | .lit _ => 1
  | .nil => 1
  | .ptr d => uptoBulk d + 1
  | .slice elems spare => uptoBulkAll elems + uptoBulkAll spare + 1
  | .agg parts => uptoBulkAll parts + 1
  | .iface _ d => uptoBulk d + 1
  | .map entries => uptoBulkEntries entries + 1
  | .held _ => 1
def uptoBulkAll {H : Type} : List (DataW H) → Nat
  | [] => 0
  | d :: r => uptoBulk d + uptoBulkAll r
def uptoBulkEntries {H : Type} : List (Lit × DataW H) → Nat
  | [] => 0
  | x :: r => uptoBulkEntry x + uptoBulkEntries r
def uptoBulkEntry {H : Type} : Lit × DataW H → Nat
  | (.string bytes, d) => bytes.length + uptoBulk d + 1
  | (_, d) => uptoBulk d + 1
 end
def uptoSmall : (H : Type) → List (DataW H) → Bool := fun _ ds => decide (uptoBulkAll ds ≤ 1048576)
def OpenSpec.upto (s : _root_.Go.ChangeSpec) : _root_.Go.OpenSpec := { _root_.Go.OpenSpec.ofChange s with cond := some uptoSmall }

/-- 'latchetlaw03.TriTells', WHERE WHAT IT READS IS OF BULK AT MOST 1048576: true; the input reads as it did. -/
def triTellsUptoRow : OpenClaim := { program := "ytlmeofmhklpfdaa", sum := "4420a4889a9d5b05f74a945904c71f4b439d27a515008d3c686d9ec74bebbbc9", func := "latchet/latchetlaw03.TriTells", spec := "triTells", plainKeys := false, apart := false, narrowed := true }
def TriTellsUptoSaid : Prop := triTellsUptoRow.holds Try.pinned (OpenSpec.upto triTellsSpec)

/-- 'latchetlaw03.TriSays', WHERE WHAT IT READS IS OF BULK AT MOST 1048576: true; the input reads as it did. -/
def triSaysUptoRow : OpenClaim := { program := "ytlmeofmhklpfdaa", sum := "4420a4889a9d5b05f74a945904c71f4b439d27a515008d3c686d9ec74bebbbc9", func := "latchet/latchetlaw03.TriSays", spec := "triSays", plainKeys := false, apart := false, narrowed := true }
def TriSaysUptoSaid : Prop := triSaysUptoRow.holds Try.pinned (OpenSpec.upto triSaysSpec)

/-- 'latchetlaw03.TriLits', WHERE WHAT IT READS IS OF BULK AT MOST 1048576: true; the input reads as it did. -/
def triLitsUptoRow : OpenClaim := { program := "ytlmeofmhklpfdaa", sum := "4420a4889a9d5b05f74a945904c71f4b439d27a515008d3c686d9ec74bebbbc9", func := "latchet/latchetlaw03.TriLits", spec := "triLits", unfollowed := true, recurses := true, plainKeys := false, apart := false, narrowed := true }
def TriLitsUptoSaid : Prop := triLitsUptoRow.holds Try.pinned (OpenSpec.upto triLitsSpec)

/-- 'latchetlaw09.SimWords', WHERE WHAT IT READS IS OF BULK AT MOST 1048576: true; the input reads as it did. -/
def simWordsUptoRow : OpenClaim := { program := "ytlmeofmhklpfdaa", sum := "4420a4889a9d5b05f74a945904c71f4b439d27a515008d3c686d9ec74bebbbc9", func := "latchet/latchetlaw09.SimWords", spec := "simWords", plainKeys := false, apart := false, narrowed := true }
def SimWordsUptoSaid : Prop := simWordsUptoRow.holds Try.pinned (OpenSpec.upto simWordsSpec)

/-- 'latchetlaw09.SimLanes', WHERE WHAT IT READS IS OF BULK AT MOST 1048576: true; the input reads as it did. -/
def simLanesUptoRow : OpenClaim := { program := "ytlmeofmhklpfdaa", sum := "4420a4889a9d5b05f74a945904c71f4b439d27a515008d3c686d9ec74bebbbc9", func := "latchet/latchetlaw09.SimLanes", spec := "simLanes", plainKeys := false, apart := false, narrowed := true }
def SimLanesUptoSaid : Prop := simLanesUptoRow.holds Try.pinned (OpenSpec.upto simLanesSpec)

/-- 'latchetlaw03.TriWords', WHERE WHAT IT READS IS OF BULK AT MOST 1048576: true; the input reads as it did. -/
def triWordsUptoRow : OpenClaim := { program := "ytlmeofmhklpfdaa", sum := "4420a4889a9d5b05f74a945904c71f4b439d27a515008d3c686d9ec74bebbbc9", func := "latchet/latchetlaw03.TriWords", spec := "triWords", plainKeys := false, apart := false, narrowed := true }
def TriWordsUptoSaid : Prop := triWordsUptoRow.holds Try.pinned (OpenSpec.upto triWordsSpec)

/-- 'latchetlaw09.SimEvals', WHERE WHAT IT READS IS OF BULK AT MOST 1048576: true; the input reads as it did. -/
def simEvalsUptoRow : OpenClaim := { program := "ytlmeofmhklpfdaa", sum := "4420a4889a9d5b05f74a945904c71f4b439d27a515008d3c686d9ec74bebbbc9", func := "latchet/latchetlaw09.SimEvals", spec := "simEvals", plainKeys := false, apart := false, narrowed := true }
def SimEvalsUptoSaid : Prop := simEvalsUptoRow.holds Try.pinned (OpenSpec.upto simEvalsSpec)

/-- 'latchetlaw08.ConeMeans', WHERE WHAT IT READS IS OF BULK AT MOST 1048576: true; the input reads as it did. -/
def coneMeansUptoRow : OpenClaim := { program := "ytlmeofmhklpfdaa", sum := "4420a4889a9d5b05f74a945904c71f4b439d27a515008d3c686d9ec74bebbbc9", func := "latchet/latchetlaw08.ConeMeans", spec := "coneMeans", unfollowed := true, recurses := true, plainKeys := false, apart := false, narrowed := true }
def ConeMeansUptoSaid : Prop := coneMeansUptoRow.holds Try.pinned (OpenSpec.upto coneMeansSpec)

/-- 'latchetlaw08.ConeAbove', WHERE WHAT IT READS IS OF BULK AT MOST 1048576: true; the input reads as it did. -/
def coneAboveUptoRow : OpenClaim := { program := "ytlmeofmhklpfdaa", sum := "4420a4889a9d5b05f74a945904c71f4b439d27a515008d3c686d9ec74bebbbc9", func := "latchet/latchetlaw08.ConeAbove", spec := "coneAbove", unfollowed := true, recurses := true, plainKeys := false, apart := false, narrowed := true }
def ConeAboveUptoSaid : Prop := coneAboveUptoRow.holds Try.pinned (OpenSpec.upto coneAboveSpec)

/-- 'latchetlaw08.ConeTells', WHERE WHAT IT READS IS OF BULK AT MOST 1048576: true; the input reads as it did. -/
def coneTellsUptoRow : OpenClaim := { program := "ytlmeofmhklpfdaa", sum := "4420a4889a9d5b05f74a945904c71f4b439d27a515008d3c686d9ec74bebbbc9", func := "latchet/latchetlaw08.ConeTells", spec := "coneTells", unfollowed := true, recurses := true, plainKeys := false, apart := false, narrowed := true }
def ConeTellsUptoSaid : Prop := coneTellsUptoRow.holds Try.pinned (OpenSpec.upto coneTellsSpec)

/-- 'latchetlaw08.ConeCuts', WHERE WHAT IT READS IS OF BULK AT MOST 1048576: true; the input reads as it did. -/
def coneCutsUptoRow : OpenClaim := { program := "ytlmeofmhklpfdaa", sum := "4420a4889a9d5b05f74a945904c71f4b439d27a515008d3c686d9ec74bebbbc9", func := "latchet/latchetlaw08.ConeCuts", spec := "coneCuts", unfollowed := true, recurses := true, plainKeys := false, apart := false, narrowed := true }
def ConeCutsUptoSaid : Prop := coneCutsUptoRow.holds Try.pinned (OpenSpec.upto coneCutsSpec)

/-- 'latchetlaw10.TernDrops', WHERE WHAT IT READS IS OF BULK AT MOST 1048576: true; the input reads as it did. -/
def ternDropsUptoRow : OpenClaim := { program := "ytlmeofmhklpfdaa", sum := "4420a4889a9d5b05f74a945904c71f4b439d27a515008d3c686d9ec74bebbbc9", func := "latchet/latchetlaw10.TernDrops", spec := "ternDrops", unfollowed := true, recurses := true, plainKeys := false, apart := false, narrowed := true }
def TernDropsUptoSaid : Prop := ternDropsUptoRow.holds Try.pinned (OpenSpec.upto ternDropsSpec)

/-- 'latchetlaw10.TernSound', WHERE WHAT IT READS IS OF BULK AT MOST 1048576: true; the input reads as it did. -/
def ternSoundUptoRow : OpenClaim := { program := "ytlmeofmhklpfdaa", sum := "4420a4889a9d5b05f74a945904c71f4b439d27a515008d3c686d9ec74bebbbc9", func := "latchet/latchetlaw10.TernSound", spec := "ternSound", unfollowed := true, recurses := true, plainKeys := false, apart := false, narrowed := true }
def TernSoundUptoSaid : Prop := ternSoundUptoRow.holds Try.pinned (OpenSpec.upto ternSoundSpec)

/-- 'latchetlaw07.AigNets', WHERE WHAT IT READS IS OF BULK AT MOST 1048576: true; the input reads as it did. -/
def aigNetsUptoRow : OpenClaim := { program := "ytlmeofmhklpfdaa", sum := "4420a4889a9d5b05f74a945904c71f4b439d27a515008d3c686d9ec74bebbbc9", func := "latchet/latchetlaw07.AigNets", spec := "aigNets", unfollowed := true, recurses := true, plainKeys := false, apart := false, narrowed := true }
def AigNetsUptoSaid : Prop := aigNetsUptoRow.holds Try.pinned (OpenSpec.upto aigNetsSpec)

end Rows
end Go.Proofs.Ytlmeofmhklpfdaa
