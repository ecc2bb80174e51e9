/-
  No cell of these rows narrows 'for every input' (looked for: loops, veiled, ifaces, maps, wideKeys, modest, calm, conditions, laid).
  DERIVED. THE GIVEN ROWS OF THIS SEAT. 9 by the template 'for every input the law returns true; each argument reads behind the call as it read before'; 0 by the template 'total and deterministic' (their statements: YtmaekaflpbenmaaTotals.lean).
  GIVEN WITH THE SEED: the statements are not yours to turn. If you find one false, say at which input.
  Laid BY PROGRAM, IN A SANDBOX (cutbox-rows.mjs): the forced cells as the released guide's own fill.sh prints them over the translation 4def4457a489716e… (all of the seat's roots in one cut). By AI agents, Wed Nov 11 2026. No macro, syntax, notation, axiom, sorry.
-/
import Derived.Test.YtmaekaflpbenmaaChecked
import GoSem.Claim
import GoSem.ClaimJoined
import GoSem.ClaimMapViews
import Derived.JoinedTies
import Derived.KernelRfl
namespace Go.Proofs.Ytmaekaflpbenmaa
/- THE CELL 'sum', in the pinned program and in every row, IS THE sha256 OF THE DUMP (.gsa) THAT YtmaekaflpbenmaaProg.lean LOADS. Nothing in Lean hashes anything: it is a label: what it is worth is what the hold of that sum in a sandbox is worth. -/
noncomputable def Try.pinned : Pinned := { name := "ytmaekaflpbenmaa", sum := "4def4457a489716e8396c75387c3a11c91332c370bac53d31406235ac93d5028", checked := Try.checked }
namespace Rows
def none {H : Type} : Left H := { results := [], args := [] }

/-- 'latchetlaw48.BalanceMeans': WHATEVER THE INPUT: true; the input reads as it did. -/
def balanceMeansSpec : ChangeSpec := { name := "balanceMeans", fn := fun _ => fun
  | [d1, d2, d3] => { results := [.lit (.bool true)], args := [d1, d2, d3] }
  | _ => none }
def balanceMeansRow : OpenClaim := { program := "ytmaekaflpbenmaa", sum := "4def4457a489716e8396c75387c3a11c91332c370bac53d31406235ac93d5028", func := "latchet/latchetlaw48.BalanceMeans", spec := "balanceMeans", unfollowed := true, recurses := true, plainKeys := false, apart := false }
def BalanceMeansSaid : Prop := balanceMeansRow.holds Try.pinned (OpenSpec.ofChange balanceMeansSpec)

/-- ITS FALSE NEIGHBOUR: 'it returns false'. Refute it at one input. -/
def balanceMeansWrong : ChangeSpec := { name := "balanceMeans", fn := fun _ => fun
  | [d1, d2, d3] => { results := [.lit (.bool false)], args := [d1, d2, d3] }
  | _ => none }
def BalanceMeansWrongFalsely : Prop := balanceMeansRow.holds Try.pinned (OpenSpec.ofChange balanceMeansWrong)

/-- 'latchetlaw48.BalanceTells': WHATEVER THE INPUT: true; the input reads as it did. -/
def balanceTellsSpec : ChangeSpec := { name := "balanceTells", fn := fun _ => fun
  | [d1, d2, d3] => { results := [.lit (.bool true)], args := [d1, d2, d3] }
  | _ => none }
def balanceTellsRow : OpenClaim := { program := "ytmaekaflpbenmaa", sum := "4def4457a489716e8396c75387c3a11c91332c370bac53d31406235ac93d5028", func := "latchet/latchetlaw48.BalanceTells", spec := "balanceTells", unfollowed := true, recurses := true, plainKeys := false, apart := false }
def BalanceTellsSaid : Prop := balanceTellsRow.holds Try.pinned (OpenSpec.ofChange balanceTellsSpec)

/-- ITS FALSE NEIGHBOUR: 'it returns false'. Refute it at one input. -/
def balanceTellsWrong : ChangeSpec := { name := "balanceTells", fn := fun _ => fun
  | [d1, d2, d3] => { results := [.lit (.bool false)], args := [d1, d2, d3] }
  | _ => none }
def BalanceTellsWrongFalsely : Prop := balanceTellsRow.holds Try.pinned (OpenSpec.ofChange balanceTellsWrong)

/-- 'latchetlaw11.CircChecks': WHATEVER THE INPUT: true; the input reads as it did. -/
def circChecksSpec : ChangeSpec := { name := "circChecks", fn := fun _ => fun
  | [d] => { results := [.lit (.bool true)], args := [d] }
  | _ => none }
def circChecksRow : OpenClaim := { program := "ytmaekaflpbenmaa", sum := "4def4457a489716e8396c75387c3a11c91332c370bac53d31406235ac93d5028", func := "latchet/latchetlaw11.CircChecks", spec := "circChecks", unfollowed := true, recurses := true, plainKeys := false, apart := false }
def CircChecksSaid : Prop := circChecksRow.holds Try.pinned (OpenSpec.ofChange circChecksSpec)

/-- ITS FALSE NEIGHBOUR: 'it returns false'. Refute it at one input. -/
def circChecksWrong : ChangeSpec := { name := "circChecks", fn := fun _ => fun
  | [d] => { results := [.lit (.bool false)], args := [d] }
  | _ => none }
def CircChecksWrongFalsely : Prop := circChecksRow.holds Try.pinned (OpenSpec.ofChange circChecksWrong)

/-- 'latchetlaw11.CircNets': WHATEVER THE INPUT: true; the input reads as it did. -/
def circNetsSpec : ChangeSpec := { name := "circNets", fn := fun _ => fun
  | [d] => { results := [.lit (.bool true)], args := [d] }
  | _ => none }
def circNetsRow : OpenClaim := { program := "ytmaekaflpbenmaa", sum := "4def4457a489716e8396c75387c3a11c91332c370bac53d31406235ac93d5028", func := "latchet/latchetlaw11.CircNets", spec := "circNets", unfollowed := true, recurses := true, plainKeys := false, apart := false }
def CircNetsSaid : Prop := circNetsRow.holds Try.pinned (OpenSpec.ofChange circNetsSpec)

/-- ITS FALSE NEIGHBOUR: 'it returns false'. Refute it at one input. -/
def circNetsWrong : ChangeSpec := { name := "circNets", fn := fun _ => fun
  | [d] => { results := [.lit (.bool false)], args := [d] }
  | _ => none }
def CircNetsWrongFalsely : Prop := circNetsRow.holds Try.pinned (OpenSpec.ofChange circNetsWrong)

/-- 'latchetlaw11.CircSame': WHATEVER THE INPUT: true; the input reads as it did. -/
def circSameSpec : ChangeSpec := { name := "circSame", fn := fun _ => fun
  | [d1, d2] => { results := [.lit (.bool true)], args := [d1, d2] }
  | _ => none }
def circSameRow : OpenClaim := { program := "ytmaekaflpbenmaa", sum := "4def4457a489716e8396c75387c3a11c91332c370bac53d31406235ac93d5028", func := "latchet/latchetlaw11.CircSame", spec := "circSame", unfollowed := true, recurses := true, plainKeys := false, apart := false }
def CircSameSaid : Prop := circSameRow.holds Try.pinned (OpenSpec.ofChange circSameSpec)

/-- ITS FALSE NEIGHBOUR: 'it returns false'. Refute it at one input. -/
def circSameWrong : ChangeSpec := { name := "circSame", fn := fun _ => fun
  | [d1, d2] => { results := [.lit (.bool false)], args := [d1, d2] }
  | _ => none }
def CircSameWrongFalsely : Prop := circSameRow.holds Try.pinned (OpenSpec.ofChange circSameWrong)

/-- 'latchetlaw22.ImplyCloses': WHATEVER THE INPUT: true; the input reads as it did. -/
def implyClosesSpec : ChangeSpec := { name := "implyCloses", fn := fun _ => fun
  | [d1, d2, d3] => { results := [.lit (.bool true)], args := [d1, d2, d3] }
  | _ => none }
def implyClosesRow : OpenClaim := { program := "ytmaekaflpbenmaa", sum := "4def4457a489716e8396c75387c3a11c91332c370bac53d31406235ac93d5028", func := "latchet/latchetlaw22.ImplyCloses", spec := "implyCloses", unfollowed := true, recurses := true, plainKeys := false, apart := false }
def ImplyClosesSaid : Prop := implyClosesRow.holds Try.pinned (OpenSpec.ofChange implyClosesSpec)

/-- ITS FALSE NEIGHBOUR: 'it returns false'. Refute it at one input. -/
def implyClosesWrong : ChangeSpec := { name := "implyCloses", fn := fun _ => fun
  | [d1, d2, d3] => { results := [.lit (.bool false)], args := [d1, d2, d3] }
  | _ => none }
def ImplyClosesWrongFalsely : Prop := implyClosesRow.holds Try.pinned (OpenSpec.ofChange implyClosesWrong)

/-- 'latchetlaw22.ImplySound': WHATEVER THE INPUT: true; the input reads as it did. -/
def implySoundSpec : ChangeSpec := { name := "implySound", fn := fun _ => fun
  | [d1, d2, d3, d4] => { results := [.lit (.bool true)], args := [d1, d2, d3, d4] }
  | _ => none }
def implySoundRow : OpenClaim := { program := "ytmaekaflpbenmaa", sum := "4def4457a489716e8396c75387c3a11c91332c370bac53d31406235ac93d5028", func := "latchet/latchetlaw22.ImplySound", spec := "implySound", unfollowed := true, recurses := true, plainKeys := false, apart := false }
def ImplySoundSaid : Prop := implySoundRow.holds Try.pinned (OpenSpec.ofChange implySoundSpec)

/-- ITS FALSE NEIGHBOUR: 'it returns false'. Refute it at one input. -/
def implySoundWrong : ChangeSpec := { name := "implySound", fn := fun _ => fun
  | [d1, d2, d3, d4] => { results := [.lit (.bool false)], args := [d1, d2, d3, d4] }
  | _ => none }
def ImplySoundWrongFalsely : Prop := implySoundRow.holds Try.pinned (OpenSpec.ofChange implySoundWrong)

/-- 'latchetlaw22.ImplyNone': WHATEVER THE INPUT: true; the input reads as it did. -/
def implyNoneSpec : ChangeSpec := { name := "implyNone", fn := fun _ => fun
  | [d1, d2] => { results := [.lit (.bool true)], args := [d1, d2] }
  | _ => none }
def implyNoneRow : OpenClaim := { program := "ytmaekaflpbenmaa", sum := "4def4457a489716e8396c75387c3a11c91332c370bac53d31406235ac93d5028", func := "latchet/latchetlaw22.ImplyNone", spec := "implyNone", unfollowed := true, recurses := true, plainKeys := false, apart := false }
def ImplyNoneSaid : Prop := implyNoneRow.holds Try.pinned (OpenSpec.ofChange implyNoneSpec)

/-- ITS FALSE NEIGHBOUR: 'it returns false'. Refute it at one input. -/
def implyNoneWrong : ChangeSpec := { name := "implyNone", fn := fun _ => fun
  | [d1, d2] => { results := [.lit (.bool false)], args := [d1, d2] }
  | _ => none }
def ImplyNoneWrongFalsely : Prop := implyNoneRow.holds Try.pinned (OpenSpec.ofChange implyNoneWrong)

/-- 'latchetlaw22.ImplyRuns': WHATEVER THE INPUT: true; the input reads as it did. -/
def implyRunsSpec : ChangeSpec := { name := "implyRuns", fn := fun _ => fun
  | [d1, d2, d3] => { results := [.lit (.bool true)], args := [d1, d2, d3] }
  | _ => none }
def implyRunsRow : OpenClaim := { program := "ytmaekaflpbenmaa", sum := "4def4457a489716e8396c75387c3a11c91332c370bac53d31406235ac93d5028", func := "latchet/latchetlaw22.ImplyRuns", spec := "implyRuns", unfollowed := true, recurses := true, plainKeys := false, apart := false }
def ImplyRunsSaid : Prop := implyRunsRow.holds Try.pinned (OpenSpec.ofChange implyRunsSpec)

/-- ITS FALSE NEIGHBOUR: 'it returns false'. Refute it at one input. -/
def implyRunsWrong : ChangeSpec := { name := "implyRuns", fn := fun _ => fun
  | [d1, d2, d3] => { results := [.lit (.bool false)], args := [d1, d2, d3] }
  | _ => none }
def ImplyRunsWrongFalsely : Prop := implyRunsRow.holds Try.pinned (OpenSpec.ofChange implyRunsWrong)

/- THE SECOND FORM. 'bulk': how many values and letters a reading holds, each counted each time it is reached (what is shared counts as often as it is met; a slice's spare places count too). A statement '..UptoSaid' is the law's where the arguments, and the package variables that the reading takes, are together of bulk at most 1048576: NARROWER than '..Said'. Prove '..Said' where nothing that the law and all that it calls make is longer than what came in: it says more and counts as full. Else prove '..UptoSaid'. A law counts once. -/
mutual
def uptoBulk {H : Type} : DataW H → Nat
  | .lit (.string bytes) => bytes.length + 1
  | .lit _ => 1
  | .nil => 1
  | .ptr d => uptoBulk d + 1
  | .slice elems spare => uptoBulkAll elems + uptoBulkAll spare + 1
  | .agg parts => uptoBulkAll parts + 1
  | .iface _ d => uptoBulk d + 1
  | .map entries => uptoBulkEntries entries + 1
  | .held _ => 1
def uptoBulkAll {H : Type} : List (DataW H) → Nat
  | [] => 0
  | d :: r => uptoBulk d + uptoBulkAll r
def uptoBulkEntries {H : Type} : List (Lit × DataW H) → Nat
  | [] => 0
  | x :: r => uptoBulkEntry x + uptoBulkEntries r
def uptoBulkEntry {H : Type} : Lit × DataW H → Nat
  | (.string bytes, d) => bytes.length + uptoBulk d + 1
  | (_, d) => uptoBulk d + 1
 end
def uptoSmall : (H : Type) → List (DataW H) → Bool := fun _ ds => decide (uptoBulkAll ds ≤ 1048576)
def OpenSpec.upto (s : _root_.Go.ChangeSpec) : _root_.Go.OpenSpec := { _root_.Go.OpenSpec.ofChange s with cond := some uptoSmall }

/-- 'latchetlaw48.BalanceMeans', WHERE WHAT IT READS IS OF BULK AT MOST 1048576: true; the input reads as it did. -/
def balanceMeansUptoRow : OpenClaim := { program := "ytmaekaflpbenmaa", sum := "4def4457a489716e8396c75387c3a11c91332c370bac53d31406235ac93d5028", func := "latchet/latchetlaw48.BalanceMeans", spec := "balanceMeans", unfollowed := true, recurses := true, plainKeys := false, apart := false, narrowed := true }
def BalanceMeansUptoSaid : Prop := balanceMeansUptoRow.holds Try.pinned (OpenSpec.upto balanceMeansSpec)

/-- 'latchetlaw48.BalanceTells', WHERE WHAT IT READS IS OF BULK AT MOST 1048576: true; the input reads as it did. -/
def balanceTellsUptoRow : OpenClaim := { program := "ytmaekaflpbenmaa", sum := "4def4457a489716e8396c75387c3a11c91332c370bac53d31406235ac93d5028", func := "latchet/latchetlaw48.BalanceTells", spec := "balanceTells", unfollowed := true, recurses := true, plainKeys := false, apart := false, narrowed := true }
def BalanceTellsUptoSaid : Prop := balanceTellsUptoRow.holds Try.pinned (OpenSpec.upto balanceTellsSpec)

/-- 'latchetlaw11.CircChecks', WHERE WHAT IT READS IS OF BULK AT MOST 1048576: true; the input reads as it did. -/
def circChecksUptoRow : OpenClaim := { program := "ytmaekaflpbenmaa", sum := "4def4457a489716e8396c75387c3a11c91332c370bac53d31406235ac93d5028", func := "latchet/latchetlaw11.CircChecks", spec := "circChecks", unfollowed := true, recurses := true, plainKeys := false, apart := false, narrowed := true }
def CircChecksUptoSaid : Prop := circChecksUptoRow.holds Try.pinned (OpenSpec.upto circChecksSpec)

/-- 'latchetlaw11.CircNets', WHERE WHAT IT READS IS OF BULK AT MOST 1048576: true; the input reads as it did. -/
def circNetsUptoRow : OpenClaim := { program := "ytmaekaflpbenmaa", sum := "4def4457a489716e8396c75387c3a11c91332c370bac53d31406235ac93d5028", func := "latchet/latchetlaw11.CircNets", spec := "circNets", unfollowed := true, recurses := true, plainKeys := false, apart := false, narrowed := true }
def CircNetsUptoSaid : Prop := circNetsUptoRow.holds Try.pinned (OpenSpec.upto circNetsSpec)

/-- 'latchetlaw11.CircSame', WHERE WHAT IT READS IS OF BULK AT MOST 1048576: true; the input reads as it did. -/
def circSameUptoRow : OpenClaim := { program := "ytmaekaflpbenmaa", sum := "4def4457a489716e8396c75387c3a11c91332c370bac53d31406235ac93d5028", func := "latchet/latchetlaw11.CircSame", spec := "circSame", unfollowed := true, recurses := true, plainKeys := false, apart := false, narrowed := true }
def CircSameUptoSaid : Prop := circSameUptoRow.holds Try.pinned (OpenSpec.upto circSameSpec)

/-- 'latchetlaw22.ImplyCloses', WHERE WHAT IT READS IS OF BULK AT MOST 1048576: true; the input reads as it did. -/
def implyClosesUptoRow : OpenClaim := { program := "ytmaekaflpbenmaa", sum := "4def4457a489716e8396c75387c3a11c91332c370bac53d31406235ac93d5028", func := "latchet/latchetlaw22.ImplyCloses", spec := "implyCloses", unfollowed := true, recurses := true, plainKeys := false, apart := false, narrowed := true }
def ImplyClosesUptoSaid : Prop := implyClosesUptoRow.holds Try.pinned (OpenSpec.upto implyClosesSpec)

/-- 'latchetlaw22.ImplySound', WHERE WHAT IT READS IS OF BULK AT MOST 1048576: true; the input reads as it did. -/
def implySoundUptoRow : OpenClaim := { program := "ytmaekaflpbenmaa", sum := "4def4457a489716e8396c75387c3a11c91332c370bac53d31406235ac93d5028", func := "latchet/latchetlaw22.ImplySound", spec := "implySound", unfollowed := true, recurses := true, plainKeys := false, apart := false, narrowed := true }
def ImplySoundUptoSaid : Prop := implySoundUptoRow.holds Try.pinned (OpenSpec.upto implySoundSpec)

/-- 'latchetlaw22.ImplyNone', WHERE WHAT IT READS IS OF BULK AT MOST 1048576: true; the input reads as it did. -/
def implyNoneUptoRow : OpenClaim := { program := "ytmaekaflpbenmaa", sum := "4def4457a489716e8396c75387c3a11c91332c370bac53d31406235ac93d5028", func := "latchet/latchetlaw22.ImplyNone", spec := "implyNone", unfollowed := true, recurses := true, plainKeys := false, apart := false, narrowed := true }
def ImplyNoneUptoSaid : Prop := implyNoneUptoRow.holds Try.pinned (OpenSpec.upto implyNoneSpec)

/-- 'latchetlaw22.ImplyRuns', WHERE WHAT IT READS IS OF BULK AT MOST 1048576: true; the input reads as it did. -/
def implyRunsUptoRow : OpenClaim := { program := "ytmaekaflpbenmaa", sum := "4def4457a489716e8396c75387c3a11c91332c370bac53d31406235ac93d5028", func := "latchet/latchetlaw22.ImplyRuns", spec := "implyRuns", unfollowed := true, recurses := true, plainKeys := false, apart := false, narrowed := true }
def ImplyRunsUptoSaid : Prop := implyRunsUptoRow.holds Try.pinned (OpenSpec.upto implyRunsSpec)

end Rows
end Go.Proofs.Ytmaekaflpbenmaa
