/-
  No cell of these rows narrows 'for every input' (looked for: loops, veiled, ifaces, maps, wideKeys, modest, calm, conditions, laid).
  DERIVED. THE GIVEN ROWS OF THIS SEAT. 4 by the template 'for every input the law returns true; each argument reads behind the call as it read before'; 0 by the template 'total and deterministic' (their statements: YtlcenenkloicjaaTotals.lean).
  GIVEN WITH THE SEED: the statements are not yours to turn. If you find one false, say at which input.
  Laid BY PROGRAM, IN A SANDBOX (cutbox-rows.mjs): the forced cells as the released guide's own fill.sh prints them over the translation c8d2d7d0e7938141… (all of the seat's roots in one cut). By AI agents, Wed Nov 11 2026. No macro, syntax, notation, axiom, sorry.
-/
import Derived.Test.YtlcenenkloicjaaChecked
import GoSem.Claim
import GoSem.ClaimJoined
import GoSem.ClaimMapViews
import Derived.JoinedTies
import Derived.KernelRfl
namespace Go.Proofs.Ytlcenenkloicjaa
/- THE CELL 'sum', in the pinned program and in every row, IS THE sha256 OF THE DUMP (.gsa) THAT YtlcenenkloicjaaProg.lean LOADS. Nothing in Lean hashes anything: it is a label: what it is worth is what the hold of that sum in a sandbox is worth. -/
noncomputable def Try.pinned : Pinned := { name := "ytlcenenkloicjaa", sum := "c8d2d7d0e793814109b3af204cc70663da30cdf25c3abc8332644b377e00f014", checked := Try.checked }
namespace Rows
def none {H : Type} : Left H := { results := [], args := [] }

/-- 'latchetlaw30.SigTells': WHATEVER THE INPUT: true; the input reads as it did. -/
def sigTellsSpec : ChangeSpec := { name := "sigTells", fn := fun _ => fun
  | [d1, d2, d3] => { results := [.lit (.bool true)], args := [d1, d2, d3] }
  | _ => none }
def sigTellsRow : OpenClaim := { program := "ytlcenenkloicjaa", sum := "c8d2d7d0e793814109b3af204cc70663da30cdf25c3abc8332644b377e00f014", func := "latchet/latchetlaw30.SigTells", spec := "sigTells", plainKeys := false, apart := false }
def SigTellsSaid : Prop := sigTellsRow.holds Try.pinned (OpenSpec.ofChange sigTellsSpec)

/-- ITS FALSE NEIGHBOUR: 'it returns false'. Refute it at one input. -/
def sigTellsWrong : ChangeSpec := { name := "sigTells", fn := fun _ => fun
  | [d1, d2, d3] => { results := [.lit (.bool false)], args := [d1, d2, d3] }
  | _ => none }
def SigTellsWrongFalsely : Prop := sigTellsRow.holds Try.pinned (OpenSpec.ofChange sigTellsWrong)

/-- 'latchetlaw30.SigCompares': WHATEVER THE INPUT: true; the input reads as it did. -/
def sigComparesSpec : ChangeSpec := { name := "sigCompares", fn := fun _ => fun
  | [d1, d2] => { results := [.lit (.bool true)], args := [d1, d2] }
  | _ => none }
def sigComparesRow : OpenClaim := { program := "ytlcenenkloicjaa", sum := "c8d2d7d0e793814109b3af204cc70663da30cdf25c3abc8332644b377e00f014", func := "latchet/latchetlaw30.SigCompares", spec := "sigCompares", plainKeys := false, apart := false }
def SigComparesSaid : Prop := sigComparesRow.holds Try.pinned (OpenSpec.ofChange sigComparesSpec)

/-- ITS FALSE NEIGHBOUR: 'it returns false'. Refute it at one input. -/
def sigComparesWrong : ChangeSpec := { name := "sigCompares", fn := fun _ => fun
  | [d1, d2] => { results := [.lit (.bool false)], args := [d1, d2] }
  | _ => none }
def SigComparesWrongFalsely : Prop := sigComparesRow.holds Try.pinned (OpenSpec.ofChange sigComparesWrong)

/-- 'latchetlaw34.LiftLifts': WHATEVER THE INPUT: true; the input reads as it did. -/
def liftLiftsSpec : ChangeSpec := { name := "liftLifts", fn := fun _ => fun
  | [d1, d2, d3, d4, d5] => { results := [.lit (.bool true)], args := [d1, d2, d3, d4, d5] }
  | _ => none }
def liftLiftsRow : OpenClaim := { program := "ytlcenenkloicjaa", sum := "c8d2d7d0e793814109b3af204cc70663da30cdf25c3abc8332644b377e00f014", func := "latchet/latchetlaw34.LiftLifts", spec := "liftLifts", unfollowed := true, recurses := true, plainKeys := false, apart := false }
def LiftLiftsSaid : Prop := liftLiftsRow.holds Try.pinned (OpenSpec.ofChange liftLiftsSpec)

/-- ITS FALSE NEIGHBOUR: 'it returns false'. Refute it at one input. -/
def liftLiftsWrong : ChangeSpec := { name := "liftLifts", fn := fun _ => fun
  | [d1, d2, d3, d4, d5] => { results := [.lit (.bool false)], args := [d1, d2, d3, d4, d5] }
  | _ => none }
def LiftLiftsWrongFalsely : Prop := liftLiftsRow.holds Try.pinned (OpenSpec.ofChange liftLiftsWrong)

/-- 'latchetlaw34.LiftAsks': WHATEVER THE INPUT: true; the input reads as it did. -/
def liftAsksSpec : ChangeSpec := { name := "liftAsks", fn := fun _ => fun
  | [d1, d2, d3] => { results := [.lit (.bool true)], args := [d1, d2, d3] }
  | _ => none }
def liftAsksRow : OpenClaim := { program := "ytlcenenkloicjaa", sum := "c8d2d7d0e793814109b3af204cc70663da30cdf25c3abc8332644b377e00f014", func := "latchet/latchetlaw34.LiftAsks", spec := "liftAsks", unfollowed := true, recurses := true, plainKeys := false, apart := false }
def LiftAsksSaid : Prop := liftAsksRow.holds Try.pinned (OpenSpec.ofChange liftAsksSpec)

/-- ITS FALSE NEIGHBOUR: 'it returns false'. Refute it at one input. -/
def liftAsksWrong : ChangeSpec := { name := "liftAsks", fn := fun _ => fun
  | [d1, d2, d3] => { results := [.lit (.bool false)], args := [d1, d2, d3] }
  | _ => none }
def LiftAsksWrongFalsely : Prop := liftAsksRow.holds Try.pinned (OpenSpec.ofChange liftAsksWrong)

/- THE SECOND FORM. 'bulk': how many values and letters a reading holds, each counted each time it is reached (what is shared counts as often as it is met; a slice's spare places count too). A statement '..UptoSaid' is the law's where the arguments, and the package variables that the reading takes, are together of bulk at most 1048576: NARROWER than '..Said'. Prove '..Said' where nothing that the law and all that it calls make is longer than what came in: it says more and counts as full. Else prove '..UptoSaid'. A law counts once. -/
mutual
def uptoBulk {H : Type} : DataW H → Nat
  | .lit (.string bytes) => bytes.length + 1
  | .lit _ => 1
  | .nil => 1
  | .ptr d => uptoBulk d + 1
  | .slice elems spare => uptoBulkAll elems + uptoBulkAll spare + 1
  | .agg parts => uptoBulkAll parts + 1
  | .iface _ d => uptoBulk d + 1
  | .map entries => uptoBulkEntries entries + 1
  | .held _ => 1
def uptoBulkAll {H : Type} : List (DataW H) → Nat
  | [] => 0
  | d :: r => uptoBulk d + uptoBulkAll r
def uptoBulkEntries {H : Type} : List (Lit × DataW H) → Nat
  | [] => 0
  | x :: r => uptoBulkEntry x + uptoBulkEntries r
def uptoBulkEntry {H : Type} : Lit × DataW H → Nat
  | (.string bytes, d) => bytes.length + uptoBulk d + 1
  | (_, d) => uptoBulk d + 1
 end
def uptoSmall : (H : Type) → List (DataW H) → Bool := fun _ ds => decide (uptoBulkAll ds ≤ 1048576)
def OpenSpec.upto (s : _root_.Go.ChangeSpec) : _root_.Go.OpenSpec := { _root_.Go.OpenSpec.ofChange s with cond := some uptoSmall }

/-- 'latchetlaw30.SigTells', WHERE WHAT IT READS IS OF BULK AT MOST 1048576: true; the input reads as it did. -/
def sigTellsUptoRow : OpenClaim := { program := "ytlcenenkloicjaa", sum := "c8d2d7d0e793814109b3af204cc70663da30cdf25c3abc8332644b377e00f014", func := "latchet/latchetlaw30.SigTells", spec := "sigTells", plainKeys := false, apart := false, narrowed := true }
def SigTellsUptoSaid : Prop := sigTellsUptoRow.holds Try.pinned (OpenSpec.upto sigTellsSpec)

/-- 'latchetlaw30.SigCompares', WHERE WHAT IT READS IS OF BULK AT MOST 1048576: true; the input reads as it did. -/
def sigComparesUptoRow : OpenClaim := { program := "ytlcenenkloicjaa", sum := "c8d2d7d0e793814109b3af204cc70663da30cdf25c3abc8332644b377e00f014", func := "latchet/latchetlaw30.SigCompares", spec := "sigCompares", plainKeys := false, apart := false, narrowed := true }
def SigComparesUptoSaid : Prop := sigComparesUptoRow.holds Try.pinned (OpenSpec.upto sigComparesSpec)

/-- 'latchetlaw34.LiftLifts', WHERE WHAT IT READS IS OF BULK AT MOST 1048576: true; the input reads as it did. -/
def liftLiftsUptoRow : OpenClaim := { program := "ytlcenenkloicjaa", sum := "c8d2d7d0e793814109b3af204cc70663da30cdf25c3abc8332644b377e00f014", func := "latchet/latchetlaw34.LiftLifts", spec := "liftLifts", unfollowed := true, recurses := true, plainKeys := false, apart := false, narrowed := true }
def LiftLiftsUptoSaid : Prop := liftLiftsUptoRow.holds Try.pinned (OpenSpec.upto liftLiftsSpec)

/-- 'latchetlaw34.LiftAsks', WHERE WHAT IT READS IS OF BULK AT MOST 1048576: true; the input reads as it did. -/
def liftAsksUptoRow : OpenClaim := { program := "ytlcenenkloicjaa", sum := "c8d2d7d0e793814109b3af204cc70663da30cdf25c3abc8332644b377e00f014", func := "latchet/latchetlaw34.LiftAsks", spec := "liftAsks", unfollowed := true, recurses := true, plainKeys := false, apart := false, narrowed := true }
def LiftAsksUptoSaid : Prop := liftAsksUptoRow.holds Try.pinned (OpenSpec.upto liftAsksSpec)

end Rows
end Go.Proofs.Ytlcenenkloicjaa
