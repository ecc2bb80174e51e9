/-
  No cell of these rows narrows 'for every input' (looked for: loops, veiled, ifaces, maps, wideKeys, modest, calm, conditions, laid).
  DERIVED. THE GIVEN ROWS OF THIS SEAT. 4 by the template 'for every input the law returns true; each argument reads behind the call as it read before'; 0 by the template 'total and deterministic' (their statements: YteidpnpbfagaeaaTotals.lean).
  GIVEN WITH THE SEED: the statements are not yours to turn. If you find one false, say at which input.
  Laid BY PROGRAM, IN A SANDBOX (cutbox-rows.mjs): the forced cells as the released guide's own fill.sh prints them over the translation 9fadfc720a4c8723… (all of the seat's roots in one cut). By AI agents, Wed Nov 11 2026. No macro, syntax, notation, axiom, sorry.
-/
import Derived.Test.YteidpnpbfagaeaaChecked
import GoSem.Claim
import GoSem.ClaimJoined
import GoSem.ClaimMapViews
import Derived.JoinedTies
import Derived.KernelRfl
namespace Go.Proofs.Yteidpnpbfagaeaa
/- THE CELL 'sum', in the pinned program and in every row, IS THE sha256 OF THE DUMP (.gsa) THAT YteidpnpbfagaeaaProg.lean LOADS. Nothing in Lean hashes anything: it is a label: what it is worth is what the hold of that sum in a sandbox is worth. -/
noncomputable def Try.pinned : Pinned := { name := "yteidpnpbfagaeaa", sum := "9fadfc720a4c872319450cffe4eeb5aa17f5076735d2121320dca9c61758dcaf", checked := Try.checked }
namespace Rows
def none {H : Type} : Left H := { results := [], args := [] }

/-- 'latchetlaw34.LiftAsks': WHATEVER THE INPUT: true; the input reads as it did. -/
def liftAsksSpec : ChangeSpec := { name := "liftAsks", fn := fun _ => fun
  | [d1, d2, d3] => { results := [.lit (.bool true)], args := [d1, d2, d3] }
  | _ => none }
def liftAsksRow : OpenClaim := { program := "yteidpnpbfagaeaa", sum := "9fadfc720a4c872319450cffe4eeb5aa17f5076735d2121320dca9c61758dcaf", func := "latchet/latchetlaw34.LiftAsks", spec := "liftAsks", unfollowed := true, recurses := true, plainKeys := false, apart := false }
def LiftAsksSaid : Prop := liftAsksRow.holds Try.pinned (OpenSpec.ofChange liftAsksSpec)

/-- ITS FALSE NEIGHBOUR: 'it returns false'. Refute it at one input. -/
def liftAsksWrong : ChangeSpec := { name := "liftAsks", fn := fun _ => fun
  | [d1, d2, d3] => { results := [.lit (.bool false)], args := [d1, d2, d3] }
  | _ => none }
def LiftAsksWrongFalsely : Prop := liftAsksRow.holds Try.pinned (OpenSpec.ofChange liftAsksWrong)

/-- 'latchetlaw42.CoiMeans': WHATEVER THE INPUT: true; the input reads as it did. -/
def coiMeansSpec : ChangeSpec := { name := "coiMeans", fn := fun _ => fun
  | [d1, d2, d3] => { results := [.lit (.bool true)], args := [d1, d2, d3] }
  | _ => none }
def coiMeansRow : OpenClaim := { program := "yteidpnpbfagaeaa", sum := "9fadfc720a4c872319450cffe4eeb5aa17f5076735d2121320dca9c61758dcaf", func := "latchet/latchetlaw42.CoiMeans", spec := "coiMeans", unfollowed := true, recurses := true, plainKeys := false, apart := false }
def CoiMeansSaid : Prop := coiMeansRow.holds Try.pinned (OpenSpec.ofChange coiMeansSpec)

/-- ITS FALSE NEIGHBOUR: 'it returns false'. Refute it at one input. -/
def coiMeansWrong : ChangeSpec := { name := "coiMeans", fn := fun _ => fun
  | [d1, d2, d3] => { results := [.lit (.bool false)], args := [d1, d2, d3] }
  | _ => none }
def CoiMeansWrongFalsely : Prop := coiMeansRow.holds Try.pinned (OpenSpec.ofChange coiMeansWrong)

/-- 'latchetlaw19.UnrollMeans': WHATEVER THE INPUT: true; the input reads as it did. -/
def unrollMeansSpec : ChangeSpec := { name := "unrollMeans", fn := fun _ => fun
  | [d1, d2, d3, d4] => { results := [.lit (.bool true)], args := [d1, d2, d3, d4] }
  | _ => none }
def unrollMeansRow : OpenClaim := { program := "yteidpnpbfagaeaa", sum := "9fadfc720a4c872319450cffe4eeb5aa17f5076735d2121320dca9c61758dcaf", func := "latchet/latchetlaw19.UnrollMeans", spec := "unrollMeans", unfollowed := true, recurses := true, plainKeys := false, apart := false }
def UnrollMeansSaid : Prop := unrollMeansRow.holds Try.pinned (OpenSpec.ofChange unrollMeansSpec)

/-- ITS FALSE NEIGHBOUR: 'it returns false'. Refute it at one input. -/
def unrollMeansWrong : ChangeSpec := { name := "unrollMeans", fn := fun _ => fun
  | [d1, d2, d3, d4] => { results := [.lit (.bool false)], args := [d1, d2, d3, d4] }
  | _ => none }
def UnrollMeansWrongFalsely : Prop := unrollMeansRow.holds Try.pinned (OpenSpec.ofChange unrollMeansWrong)

/-- 'latchetlaw19.UnrollNone': WHATEVER THE INPUT: true; the input reads as it did. -/
def unrollNoneSpec : ChangeSpec := { name := "unrollNone", fn := fun _ => fun
  | [d1, d2, d3] => { results := [.lit (.bool true)], args := [d1, d2, d3] }
  | _ => none }
def unrollNoneRow : OpenClaim := { program := "yteidpnpbfagaeaa", sum := "9fadfc720a4c872319450cffe4eeb5aa17f5076735d2121320dca9c61758dcaf", func := "latchet/latchetlaw19.UnrollNone", spec := "unrollNone", unfollowed := true, recurses := true, plainKeys := false, apart := false }
def UnrollNoneSaid : Prop := unrollNoneRow.holds Try.pinned (OpenSpec.ofChange unrollNoneSpec)

/-- ITS FALSE NEIGHBOUR: 'it returns false'. Refute it at one input. -/
def unrollNoneWrong : ChangeSpec := { name := "unrollNone", fn := fun _ => fun
  | [d1, d2, d3] => { results := [.lit (.bool false)], args := [d1, d2, d3] }
  | _ => none }
def UnrollNoneWrongFalsely : Prop := unrollNoneRow.holds Try.pinned (OpenSpec.ofChange unrollNoneWrong)

/- THE SECOND FORM. 'bulk': how many values and letters a reading holds, each counted each time it is reached (what is shared counts as often as it is met; a slice's spare places count too). A statement '..UptoSaid' is the law's where the arguments, and the package variables that the reading takes, are together of bulk at most 1048576: NARROWER than '..Said'. Prove '..Said' where nothing that the law and all that it calls make is longer than what came in: it says more and counts as full. Else prove '..UptoSaid'. A law counts once. -/
mutual
def uptoBulk {H : Type} : DataW H → Nat
  | .lit (.string bytes) => bytes.length + 1
  | .lit _ => 1
  | .nil => 1
  | .ptr d => uptoBulk d + 1
  | .slice elems spare => uptoBulkAll elems + uptoBulkAll spare + 1
  | .agg parts => uptoBulkAll parts + 1
  | .iface _ d => uptoBulk d + 1
  | .map entries => uptoBulkEntries entries + 1
  | .held _ => 1
def uptoBulkAll {H : Type} : List (DataW H) → Nat
  | [] => 0
  | d :: r => uptoBulk d + uptoBulkAll r
def uptoBulkEntries {H : Type} : List (Lit × DataW H) → Nat
  | [] => 0
  | x :: r => uptoBulkEntry x + uptoBulkEntries r
def uptoBulkEntry {H : Type} : Lit × DataW H → Nat
  | (.string bytes, d) => bytes.length + uptoBulk d + 1
  | (_, d) => uptoBulk d + 1
 end
def uptoSmall : (H : Type) → List (DataW H) → Bool := fun _ ds => decide (uptoBulkAll ds ≤ 1048576)
def OpenSpec.upto (s : _root_.Go.ChangeSpec) : _root_.Go.OpenSpec := { _root_.Go.OpenSpec.ofChange s with cond := some uptoSmall }

/-- 'latchetlaw34.LiftAsks', WHERE WHAT IT READS IS OF BULK AT MOST 1048576: true; the input reads as it did. -/
def liftAsksUptoRow : OpenClaim := { program := "yteidpnpbfagaeaa", sum := "9fadfc720a4c872319450cffe4eeb5aa17f5076735d2121320dca9c61758dcaf", func := "latchet/latchetlaw34.LiftAsks", spec := "liftAsks", unfollowed := true, recurses := true, plainKeys := false, apart := false, narrowed := true }
def LiftAsksUptoSaid : Prop := liftAsksUptoRow.holds Try.pinned (OpenSpec.upto liftAsksSpec)

/-- 'latchetlaw42.CoiMeans', WHERE WHAT IT READS IS OF BULK AT MOST 1048576: true; the input reads as it did. -/
def coiMeansUptoRow : OpenClaim := { program := "yteidpnpbfagaeaa", sum := "9fadfc720a4c872319450cffe4eeb5aa17f5076735d2121320dca9c61758dcaf", func := "latchet/latchetlaw42.CoiMeans", spec := "coiMeans", unfollowed := true, recurses := true, plainKeys := false, apart := false, narrowed := true }
def CoiMeansUptoSaid : Prop := coiMeansUptoRow.holds Try.pinned (OpenSpec.upto coiMeansSpec)

/-- 'latchetlaw19.UnrollMeans', WHERE WHAT IT READS IS OF BULK AT MOST 1048576: true; the input reads as it did. -/
def unrollMeansUptoRow : OpenClaim := { program := "yteidpnpbfagaeaa", sum := "9fadfc720a4c872319450cffe4eeb5aa17f5076735d2121320dca9c61758dcaf", func := "latchet/latchetlaw19.UnrollMeans", spec := "unrollMeans", unfollowed := true, recurses := true, plainKeys := false, apart := false, narrowed := true }
def UnrollMeansUptoSaid : Prop := unrollMeansUptoRow.holds Try.pinned (OpenSpec.upto unrollMeansSpec)

/-- 'latchetlaw19.UnrollNone', WHERE WHAT IT READS IS OF BULK AT MOST 1048576: true; the input reads as it did. -/
def unrollNoneUptoRow : OpenClaim := { program := "yteidpnpbfagaeaa", sum := "9fadfc720a4c872319450cffe4eeb5aa17f5076735d2121320dca9c61758dcaf", func := "latchet/latchetlaw19.UnrollNone", spec := "unrollNone", unfollowed := true, recurses := true, plainKeys := false, apart := false, narrowed := true }
def UnrollNoneUptoSaid : Prop := unrollNoneUptoRow.holds Try.pinned (OpenSpec.upto unrollNoneSpec)

end Rows
end Go.Proofs.Yteidpnpbfagaeaa
