/-
  No cell of these rows narrows 'for every input' (looked for: loops, veiled, ifaces, maps, wideKeys, modest, calm, conditions, laid).
  DERIVED. THE GIVEN ROWS OF THIS SEAT. 14 by the template 'for every input the law returns true; each argument reads behind the call as it read before'; 0 by the template 'total and deterministic' (their statements: YthpnahapiodflaaTotals.lean).
  GIVEN WITH THE SEED: the statements are not yours to turn. If you find one false, say at which input.
  Laid BY PROGRAM, IN A SANDBOX (cutbox-rows.mjs): the forced cells as the released guide's own fill.sh prints them over the translation 61d58452f45ca00a… (all of the seat's roots in one cut). By AI agents, Wed Nov 11 2026. No macro, syntax, notation, axiom, sorry.
-/
import Derived.Test.YthpnahapiodflaaChecked
import GoSem.Claim
import GoSem.ClaimJoined
import GoSem.ClaimMapViews
import Derived.JoinedTies
import Derived.KernelRfl
namespace Go.Proofs.Ythpnahapiodflaa
/- THE CELL 'sum', in the pinned program and in every row, IS THE sha256 OF THE DUMP (.gsa) THAT YthpnahapiodflaaProg.lean LOADS. Nothing in Lean hashes anything: it is a label: what it is worth is what the hold of that sum in a sandbox is worth. -/
noncomputable def Try.pinned : Pinned := { name := "ythpnahapiodflaa", sum := "61d58452f45ca00addce4231a5f24c85b5da3ad4c16e9b6cb7bf641b1fcbfbaa", checked := Try.checked }
namespace Rows
def none {H : Type} : Left H := { results := [], args := [] }

/-- 'latchetlaw49.GenCounts': WHATEVER THE INPUT: true; the input reads as it did. -/
def genCountsSpec : ChangeSpec := { name := "genCounts", fn := fun _ => fun
  | [d1, d2, d3] => { results := [.lit (.bool true)], args := [d1, d2, d3] }
  | _ => none }
def genCountsRow : OpenClaim := { program := "ythpnahapiodflaa", sum := "61d58452f45ca00addce4231a5f24c85b5da3ad4c16e9b6cb7bf641b1fcbfbaa", func := "latchet/latchetlaw49.GenCounts", spec := "genCounts", unfollowed := true, recurses := true, plainKeys := false, apart := false }
def GenCountsSaid : Prop := genCountsRow.holds Try.pinned (OpenSpec.ofChange genCountsSpec)

/-- ITS FALSE NEIGHBOUR: 'it returns false'. Refute it at one input. -/
def genCountsWrong : ChangeSpec := { name := "genCounts", fn := fun _ => fun
  | [d1, d2, d3] => { results := [.lit (.bool false)], args := [d1, d2, d3] }
  | _ => none }
def GenCountsWrongFalsely : Prop := genCountsRow.holds Try.pinned (OpenSpec.ofChange genCountsWrong)

/-- 'latchetlaw49.GenShifts': WHATEVER THE INPUT: true; the input reads as it did. -/
def genShiftsSpec : ChangeSpec := { name := "genShifts", fn := fun _ => fun
  | [d1, d2] => { results := [.lit (.bool true)], args := [d1, d2] }
  | _ => none }
def genShiftsRow : OpenClaim := { program := "ythpnahapiodflaa", sum := "61d58452f45ca00addce4231a5f24c85b5da3ad4c16e9b6cb7bf641b1fcbfbaa", func := "latchet/latchetlaw49.GenShifts", spec := "genShifts", unfollowed := true, recurses := true, plainKeys := false, apart := false }
def GenShiftsSaid : Prop := genShiftsRow.holds Try.pinned (OpenSpec.ofChange genShiftsSpec)

/-- ITS FALSE NEIGHBOUR: 'it returns false'. Refute it at one input. -/
def genShiftsWrong : ChangeSpec := { name := "genShifts", fn := fun _ => fun
  | [d1, d2] => { results := [.lit (.bool false)], args := [d1, d2] }
  | _ => none }
def GenShiftsWrongFalsely : Prop := genShiftsRow.holds Try.pinned (OpenSpec.ofChange genShiftsWrong)

/-- 'latchetlaw49.GenRings': WHATEVER THE INPUT: true; the input reads as it did. -/
def genRingsSpec : ChangeSpec := { name := "genRings", fn := fun _ => fun
  | [d1, d2, d3] => { results := [.lit (.bool true)], args := [d1, d2, d3] }
  | _ => none }
def genRingsRow : OpenClaim := { program := "ythpnahapiodflaa", sum := "61d58452f45ca00addce4231a5f24c85b5da3ad4c16e9b6cb7bf641b1fcbfbaa", func := "latchet/latchetlaw49.GenRings", spec := "genRings", unfollowed := true, recurses := true, plainKeys := false, apart := false }
def GenRingsSaid : Prop := genRingsRow.holds Try.pinned (OpenSpec.ofChange genRingsSpec)

/-- ITS FALSE NEIGHBOUR: 'it returns false'. Refute it at one input. -/
def genRingsWrong : ChangeSpec := { name := "genRings", fn := fun _ => fun
  | [d1, d2, d3] => { results := [.lit (.bool false)], args := [d1, d2, d3] }
  | _ => none }
def GenRingsWrongFalsely : Prop := genRingsRow.holds Try.pinned (OpenSpec.ofChange genRingsWrong)

/-- 'latchetlaw16.RenumNumbers': WHATEVER THE INPUT: true; the input reads as it did. -/
def renumNumbersSpec : ChangeSpec := { name := "renumNumbers", fn := fun _ => fun
  | [d] => { results := [.lit (.bool true)], args := [d] }
  | _ => none }
def renumNumbersRow : OpenClaim := { program := "ythpnahapiodflaa", sum := "61d58452f45ca00addce4231a5f24c85b5da3ad4c16e9b6cb7bf641b1fcbfbaa", func := "latchet/latchetlaw16.RenumNumbers", spec := "renumNumbers", unfollowed := true, recurses := true, plainKeys := false, apart := false }
def RenumNumbersSaid : Prop := renumNumbersRow.holds Try.pinned (OpenSpec.ofChange renumNumbersSpec)

/-- ITS FALSE NEIGHBOUR: 'it returns false'. Refute it at one input. -/
def renumNumbersWrong : ChangeSpec := { name := "renumNumbers", fn := fun _ => fun
  | [d] => { results := [.lit (.bool false)], args := [d] }
  | _ => none }
def RenumNumbersWrongFalsely : Prop := renumNumbersRow.holds Try.pinned (OpenSpec.ofChange renumNumbersWrong)

/-- 'latchetlaw49.GenLocks': WHATEVER THE INPUT: true; the input reads as it did. -/
def genLocksSpec : ChangeSpec := { name := "genLocks", fn := fun _ => fun
  | [d1, d2] => { results := [.lit (.bool true)], args := [d1, d2] }
  | _ => none }
def genLocksRow : OpenClaim := { program := "ythpnahapiodflaa", sum := "61d58452f45ca00addce4231a5f24c85b5da3ad4c16e9b6cb7bf641b1fcbfbaa", func := "latchet/latchetlaw49.GenLocks", spec := "genLocks", unfollowed := true, recurses := true, plainKeys := false, apart := false }
def GenLocksSaid : Prop := genLocksRow.holds Try.pinned (OpenSpec.ofChange genLocksSpec)

/-- ITS FALSE NEIGHBOUR: 'it returns false'. Refute it at one input. -/
def genLocksWrong : ChangeSpec := { name := "genLocks", fn := fun _ => fun
  | [d1, d2] => { results := [.lit (.bool false)], args := [d1, d2] }
  | _ => none }
def GenLocksWrongFalsely : Prop := genLocksRow.holds Try.pinned (OpenSpec.ofChange genLocksWrong)

/-- 'latchetlaw48.BalanceMeans': WHATEVER THE INPUT: true; the input reads as it did. -/
def balanceMeansSpec : ChangeSpec := { name := "balanceMeans", fn := fun _ => fun
  | [d1, d2, d3] => { results := [.lit (.bool true)], args := [d1, d2, d3] }
  | _ => none }
def balanceMeansRow : OpenClaim := { program := "ythpnahapiodflaa", sum := "61d58452f45ca00addce4231a5f24c85b5da3ad4c16e9b6cb7bf641b1fcbfbaa", func := "latchet/latchetlaw48.BalanceMeans", spec := "balanceMeans", unfollowed := true, recurses := true, plainKeys := false, apart := false }
def BalanceMeansSaid : Prop := balanceMeansRow.holds Try.pinned (OpenSpec.ofChange balanceMeansSpec)

/-- ITS FALSE NEIGHBOUR: 'it returns false'. Refute it at one input. -/
def balanceMeansWrong : ChangeSpec := { name := "balanceMeans", fn := fun _ => fun
  | [d1, d2, d3] => { results := [.lit (.bool false)], args := [d1, d2, d3] }
  | _ => none }
def BalanceMeansWrongFalsely : Prop := balanceMeansRow.holds Try.pinned (OpenSpec.ofChange balanceMeansWrong)

/-- 'latchetlaw48.BalanceTells': WHATEVER THE INPUT: true; the input reads as it did. -/
def balanceTellsSpec : ChangeSpec := { name := "balanceTells", fn := fun _ => fun
  | [d1, d2, d3] => { results := [.lit (.bool true)], args := [d1, d2, d3] }
  | _ => none }
def balanceTellsRow : OpenClaim := { program := "ythpnahapiodflaa", sum := "61d58452f45ca00addce4231a5f24c85b5da3ad4c16e9b6cb7bf641b1fcbfbaa", func := "latchet/latchetlaw48.BalanceTells", spec := "balanceTells", unfollowed := true, recurses := true, plainKeys := false, apart := false }
def BalanceTellsSaid : Prop := balanceTellsRow.holds Try.pinned (OpenSpec.ofChange balanceTellsSpec)

/-- ITS FALSE NEIGHBOUR: 'it returns false'. Refute it at one input. -/
def balanceTellsWrong : ChangeSpec := { name := "balanceTells", fn := fun _ => fun
  | [d1, d2, d3] => { results := [.lit (.bool false)], args := [d1, d2, d3] }
  | _ => none }
def BalanceTellsWrongFalsely : Prop := balanceTellsRow.holds Try.pinned (OpenSpec.ofChange balanceTellsWrong)

/-- 'latchetlaw16.RenumTrims': WHATEVER THE INPUT: true; the input reads as it did. -/
def renumTrimsSpec : ChangeSpec := { name := "renumTrims", fn := fun _ => fun
  | [d] => { results := [.lit (.bool true)], args := [d] }
  | _ => none }
def renumTrimsRow : OpenClaim := { program := "ythpnahapiodflaa", sum := "61d58452f45ca00addce4231a5f24c85b5da3ad4c16e9b6cb7bf641b1fcbfbaa", func := "latchet/latchetlaw16.RenumTrims", spec := "renumTrims", unfollowed := true, recurses := true, plainKeys := false, apart := false }
def RenumTrimsSaid : Prop := renumTrimsRow.holds Try.pinned (OpenSpec.ofChange renumTrimsSpec)

/-- ITS FALSE NEIGHBOUR: 'it returns false'. Refute it at one input. -/
def renumTrimsWrong : ChangeSpec := { name := "renumTrims", fn := fun _ => fun
  | [d] => { results := [.lit (.bool false)], args := [d] }
  | _ => none }
def RenumTrimsWrongFalsely : Prop := renumTrimsRow.holds Try.pinned (OpenSpec.ofChange renumTrimsWrong)

/-- 'latchetlaw16.RenumMeans': WHATEVER THE INPUT: true; the input reads as it did. -/
def renumMeansSpec : ChangeSpec := { name := "renumMeans", fn := fun _ => fun
  | [d1, d2] => { results := [.lit (.bool true)], args := [d1, d2] }
  | _ => none }
def renumMeansRow : OpenClaim := { program := "ythpnahapiodflaa", sum := "61d58452f45ca00addce4231a5f24c85b5da3ad4c16e9b6cb7bf641b1fcbfbaa", func := "latchet/latchetlaw16.RenumMeans", spec := "renumMeans", unfollowed := true, recurses := true, plainKeys := false, apart := false }
def RenumMeansSaid : Prop := renumMeansRow.holds Try.pinned (OpenSpec.ofChange renumMeansSpec)

/-- ITS FALSE NEIGHBOUR: 'it returns false'. Refute it at one input. -/
def renumMeansWrong : ChangeSpec := { name := "renumMeans", fn := fun _ => fun
  | [d1, d2] => { results := [.lit (.bool false)], args := [d1, d2] }
  | _ => none }
def RenumMeansWrongFalsely : Prop := renumMeansRow.holds Try.pinned (OpenSpec.ofChange renumMeansWrong)

/-- 'latchetlaw16.RenumMatches': WHATEVER THE INPUT: true; the input reads as it did. -/
def renumMatchesSpec : ChangeSpec := { name := "renumMatches", fn := fun _ => fun
  | [d1, d2] => { results := [.lit (.bool true)], args := [d1, d2] }
  | _ => none }
def renumMatchesRow : OpenClaim := { program := "ythpnahapiodflaa", sum := "61d58452f45ca00addce4231a5f24c85b5da3ad4c16e9b6cb7bf641b1fcbfbaa", func := "latchet/latchetlaw16.RenumMatches", spec := "renumMatches", unfollowed := true, recurses := true, plainKeys := false, apart := false }
def RenumMatchesSaid : Prop := renumMatchesRow.holds Try.pinned (OpenSpec.ofChange renumMatchesSpec)

/-- ITS FALSE NEIGHBOUR: 'it returns false'. Refute it at one input. -/
def renumMatchesWrong : ChangeSpec := { name := "renumMatches", fn := fun _ => fun
  | [d1, d2] => { results := [.lit (.bool false)], args := [d1, d2] }
  | _ => none }
def RenumMatchesWrongFalsely : Prop := renumMatchesRow.holds Try.pinned (OpenSpec.ofChange renumMatchesWrong)

/-- 'latchetlaw17.StepTells': WHATEVER THE INPUT: true; the input reads as it did. -/
def stepTellsSpec : ChangeSpec := { name := "stepTells", fn := fun _ => fun
  | [d1, d2, d3, d4] => { results := [.lit (.bool true)], args := [d1, d2, d3, d4] }
  | _ => none }
def stepTellsRow : OpenClaim := { program := "ythpnahapiodflaa", sum := "61d58452f45ca00addce4231a5f24c85b5da3ad4c16e9b6cb7bf641b1fcbfbaa", func := "latchet/latchetlaw17.StepTells", spec := "stepTells", unfollowed := true, recurses := true, plainKeys := false, apart := false }
def StepTellsSaid : Prop := stepTellsRow.holds Try.pinned (OpenSpec.ofChange stepTellsSpec)

/-- ITS FALSE NEIGHBOUR: 'it returns false'. Refute it at one input. -/
def stepTellsWrong : ChangeSpec := { name := "stepTells", fn := fun _ => fun
  | [d1, d2, d3, d4] => { results := [.lit (.bool false)], args := [d1, d2, d3, d4] }
  | _ => none }
def StepTellsWrongFalsely : Prop := stepTellsRow.holds Try.pinned (OpenSpec.ofChange stepTellsWrong)

/-- 'latchetlaw17.StepRuns': WHATEVER THE INPUT: true; the input reads as it did. -/
def stepRunsSpec : ChangeSpec := { name := "stepRuns", fn := fun _ => fun
  | [d1, d2, d3] => { results := [.lit (.bool true)], args := [d1, d2, d3] }
  | _ => none }
def stepRunsRow : OpenClaim := { program := "ythpnahapiodflaa", sum := "61d58452f45ca00addce4231a5f24c85b5da3ad4c16e9b6cb7bf641b1fcbfbaa", func := "latchet/latchetlaw17.StepRuns", spec := "stepRuns", unfollowed := true, recurses := true, plainKeys := false, apart := false }
def StepRunsSaid : Prop := stepRunsRow.holds Try.pinned (OpenSpec.ofChange stepRunsSpec)

/-- ITS FALSE NEIGHBOUR: 'it returns false'. Refute it at one input. -/
def stepRunsWrong : ChangeSpec := { name := "stepRuns", fn := fun _ => fun
  | [d1, d2, d3] => { results := [.lit (.bool false)], args := [d1, d2, d3] }
  | _ => none }
def StepRunsWrongFalsely : Prop := stepRunsRow.holds Try.pinned (OpenSpec.ofChange stepRunsWrong)

/-- 'latchetlaw17.StepMeans': WHATEVER THE INPUT: true; the input reads as it did. -/
def stepMeansSpec : ChangeSpec := { name := "stepMeans", fn := fun _ => fun
  | [d1, d2, d3] => { results := [.lit (.bool true)], args := [d1, d2, d3] }
  | _ => none }
def stepMeansRow : OpenClaim := { program := "ythpnahapiodflaa", sum := "61d58452f45ca00addce4231a5f24c85b5da3ad4c16e9b6cb7bf641b1fcbfbaa", func := "latchet/latchetlaw17.StepMeans", spec := "stepMeans", unfollowed := true, recurses := true, plainKeys := false, apart := false }
def StepMeansSaid : Prop := stepMeansRow.holds Try.pinned (OpenSpec.ofChange stepMeansSpec)

/-- ITS FALSE NEIGHBOUR: 'it returns false'. Refute it at one input. -/
def stepMeansWrong : ChangeSpec := { name := "stepMeans", fn := fun _ => fun
  | [d1, d2, d3] => { results := [.lit (.bool false)], args := [d1, d2, d3] }
  | _ => none }
def StepMeansWrongFalsely : Prop := stepMeansRow.holds Try.pinned (OpenSpec.ofChange stepMeansWrong)

/-- 'latchetlaw17.StepNone': WHATEVER THE INPUT: true; the input reads as it did. -/
def stepNoneSpec : ChangeSpec := { name := "stepNone", fn := fun _ => fun
  | [d1, d2, d3, d4] => { results := [.lit (.bool true)], args := [d1, d2, d3, d4] }
  | _ => none }
def stepNoneRow : OpenClaim := { program := "ythpnahapiodflaa", sum := "61d58452f45ca00addce4231a5f24c85b5da3ad4c16e9b6cb7bf641b1fcbfbaa", func := "latchet/latchetlaw17.StepNone", spec := "stepNone", unfollowed := true, recurses := true, plainKeys := false, apart := false }
def StepNoneSaid : Prop := stepNoneRow.holds Try.pinned (OpenSpec.ofChange stepNoneSpec)

/-- ITS FALSE NEIGHBOUR: 'it returns false'. Refute it at one input. -/
def stepNoneWrong : ChangeSpec := { name := "stepNone", fn := fun _ => fun
  | [d1, d2, d3, d4] => { results := [.lit (.bool false)], args := [d1, d2, d3, d4] }
  | _ => none }
def StepNoneWrongFalsely : Prop := stepNoneRow.holds Try.pinned (OpenSpec.ofChange stepNoneWrong)

/- THE SECOND FORM. 'bulk': how many values and letters a reading holds, each counted each time it is reached (what is shared counts as often as it is met; a slice's spare places count too). A statement '..UptoSaid' is the law's where the arguments, and the package variables that the reading takes, are together of bulk at most 1048576: NARROWER than '..Said'. Prove '..Said' where nothing that the law and all that it calls make is longer than what came in: it says more and counts as full. Else prove '..UptoSaid'. A law counts once. -/
mutual
def uptoBulk {H : Type} : DataW H → Nat
  | .lit (.string bytes) => bytes.length + 1
  | .lit _ => 1
  | .nil => 1
  | .ptr d => uptoBulk d + 1
  | .slice elems spare => uptoBulkAll elems + uptoBulkAll spare + 1
  | .agg parts => uptoBulkAll parts + 1
  | .iface _ d => uptoBulk d + 1
  | .map entries => uptoBulkEntries entries + 1
  | .held _ => 1
def uptoBulkAll {H : Type} : List (DataW H) → Nat
  | [] => 0
  | d :: r => uptoBulk d + uptoBulkAll r
def uptoBulkEntries {H : Type} : List (Lit × DataW H) → Nat
  | [] => 0
  | x :: r => uptoBulkEntry x + uptoBulkEntries r
def uptoBulkEntry {H : Type} : Lit × DataW H → Nat
  | (.string bytes, d) => bytes.length + uptoBulk d + 1
  | (_, d) => uptoBulk d + 1
 end
def uptoSmall : (H : Type) → List (DataW H) → Bool := fun _ ds => decide (uptoBulkAll ds ≤ 1048576)
def OpenSpec.upto (s : _root_.Go.ChangeSpec) : _root_.Go.OpenSpec := { _root_.Go.OpenSpec.ofChange s with cond := some uptoSmall }

/-- 'latchetlaw49.GenCounts', WHERE WHAT IT READS IS OF BULK AT MOST 1048576: true; the input reads as it did. -/
def genCountsUptoRow : OpenClaim := { program := "ythpnahapiodflaa", sum := "61d58452f45ca00addce4231a5f24c85b5da3ad4c16e9b6cb7bf641b1fcbfbaa", func := "latchet/latchetlaw49.GenCounts", spec := "genCounts", unfollowed := true, recurses := true, plainKeys := false, apart := false, narrowed := true }
def GenCountsUptoSaid : Prop := genCountsUptoRow.holds Try.pinned (OpenSpec.upto genCountsSpec)

/-- 'latchetlaw49.GenShifts', WHERE WHAT IT READS IS OF BULK AT MOST 1048576: true; the input reads as it did. -/
def genShiftsUptoRow : OpenClaim := { program := "ythpnahapiodflaa", sum := "61d58452f45ca00addce4231a5f24c85b5da3ad4c16e9b6cb7bf641b1fcbfbaa", func := "latchet/latchetlaw49.GenShifts", spec := "genShifts", unfollowed := true, recurses := true, plainKeys := false, apart := false, narrowed := true }
def GenShiftsUptoSaid : Prop := genShiftsUptoRow.holds Try.pinned (OpenSpec.upto genShiftsSpec)

/-- 'latchetlaw49.GenRings', WHERE WHAT IT READS IS OF BULK AT MOST 1048576: true; the input reads as it did. -/
def genRingsUptoRow : OpenClaim := { program := "ythpnahapiodflaa", sum := "61d58452f45ca00addce4231a5f24c85b5da3ad4c16e9b6cb7bf641b1fcbfbaa", func := "latchet/latchetlaw49.GenRings", spec := "genRings", unfollowed := true, recurses := true, plainKeys := false, apart := false, narrowed := true }
def GenRingsUptoSaid : Prop := genRingsUptoRow.holds Try.pinned (OpenSpec.upto genRingsSpec)

/-- 'latchetlaw16.RenumNumbers', WHERE WHAT IT READS IS OF BULK AT MOST 1048576: true; the input reads as it did. -/
def renumNumbersUptoRow : OpenClaim := { program := "ythpnahapiodflaa", sum := "61d58452f45ca00addce4231a5f24c85b5da3ad4c16e9b6cb7bf641b1fcbfbaa", func := "latchet/latchetlaw16.RenumNumbers", spec := "renumNumbers", unfollowed := true, recurses := true, plainKeys := false, apart := false, narrowed := true }
def RenumNumbersUptoSaid : Prop := renumNumbersUptoRow.holds Try.pinned (OpenSpec.upto renumNumbersSpec)

/-- 'latchetlaw49.GenLocks', WHERE WHAT IT READS IS OF BULK AT MOST 1048576: true; the input reads as it did. -/
def genLocksUptoRow : OpenClaim := { program := "ythpnahapiodflaa", sum := "61d58452f45ca00addce4231a5f24c85b5da3ad4c16e9b6cb7bf641b1fcbfbaa", func := "latchet/latchetlaw49.GenLocks", spec := "genLocks", unfollowed := true, recurses := true, plainKeys := false, apart := false, narrowed := true }
def GenLocksUptoSaid : Prop := genLocksUptoRow.holds Try.pinned (OpenSpec.upto genLocksSpec)

/-- 'latchetlaw48.BalanceMeans', WHERE WHAT IT READS IS OF BULK AT MOST 1048576: true; the input reads as it did. -/
def balanceMeansUptoRow : OpenClaim := { program := "ythpnahapiodflaa", sum := "61d58452f45ca00addce4231a5f24c85b5da3ad4c16e9b6cb7bf641b1fcbfbaa", func := "latchet/latchetlaw48.BalanceMeans", spec := "balanceMeans", unfollowed := true, recurses := true, plainKeys := false, apart := false, narrowed := true }
def BalanceMeansUptoSaid : Prop := balanceMeansUptoRow.holds Try.pinned (OpenSpec.upto balanceMeansSpec)

/-- 'latchetlaw48.BalanceTells', WHERE WHAT IT READS IS OF BULK AT MOST 1048576: true; the input reads as it did. -/
def balanceTellsUptoRow : OpenClaim := { program := "ythpnahapiodflaa", sum := "61d58452f45ca00addce4231a5f24c85b5da3ad4c16e9b6cb7bf641b1fcbfbaa", func := "latchet/latchetlaw48.BalanceTells", spec := "balanceTells", unfollowed := true, recurses := true, plainKeys := false, apart := false, narrowed := true }
def BalanceTellsUptoSaid : Prop := balanceTellsUptoRow.holds Try.pinned (OpenSpec.upto balanceTellsSpec)

/-- 'latchetlaw16.RenumTrims', WHERE WHAT IT READS IS OF BULK AT MOST 1048576: true; the input reads as it did. -/
def renumTrimsUptoRow : OpenClaim := { program := "ythpnahapiodflaa", sum := "61d58452f45ca00addce4231a5f24c85b5da3ad4c16e9b6cb7bf641b1fcbfbaa", func := "latchet/latchetlaw16.RenumTrims", spec := "renumTrims", unfollowed := true, recurses := true, plainKeys := false, apart := false, narrowed := true }
def RenumTrimsUptoSaid : Prop := renumTrimsUptoRow.holds Try.pinned (OpenSpec.upto renumTrimsSpec)

/-- 'latchetlaw16.RenumMeans', WHERE WHAT IT READS IS OF BULK AT MOST 1048576: true; the input reads as it did. -/
def renumMeansUptoRow : OpenClaim := { program := "ythpnahapiodflaa", sum := "61d58452f45ca00addce4231a5f24c85b5da3ad4c16e9b6cb7bf641b1fcbfbaa", func := "latchet/latchetlaw16.RenumMeans", spec := "renumMeans", unfollowed := true, recurses := true, plainKeys := false, apart := false, narrowed := true }
def RenumMeansUptoSaid : Prop := renumMeansUptoRow.holds Try.pinned (OpenSpec.upto renumMeansSpec)

/-- 'latchetlaw16.RenumMatches', WHERE WHAT IT READS IS OF BULK AT MOST 1048576: true; the input reads as it did. -/
def renumMatchesUptoRow : OpenClaim := { program := "ythpnahapiodflaa", sum := "61d58452f45ca00addce4231a5f24c85b5da3ad4c16e9b6cb7bf641b1fcbfbaa", func := "latchet/latchetlaw16.RenumMatches", spec := "renumMatches", unfollowed := true, recurses := true, plainKeys := false, apart := false, narrowed := true }
def RenumMatchesUptoSaid : Prop := renumMatchesUptoRow.holds Try.pinned (OpenSpec.upto renumMatchesSpec)

/-- 'latchetlaw17.StepTells', WHERE WHAT IT READS IS OF BULK AT MOST 1048576: true; the input reads as it did. -/
def stepTellsUptoRow : OpenClaim := { program := "ythpnahapiodflaa", sum := "61d58452f45ca00addce4231a5f24c85b5da3ad4c16e9b6cb7bf641b1fcbfbaa", func := "latchet/latchetlaw17.StepTells", spec := "stepTells", unfollowed := true, recurses := true, plainKeys := false, apart := false, narrowed := true }
def StepTellsUptoSaid : Prop := stepTellsUptoRow.holds Try.pinned (OpenSpec.upto stepTellsSpec)

/-- 'latchetlaw17.StepRuns', WHERE WHAT IT READS IS OF BULK AT MOST 1048576: true; the input reads as it did. -/
def stepRunsUptoRow : OpenClaim := { program := "ythpnahapiodflaa", sum := "61d58452f45ca00addce4231a5f24c85b5da3ad4c16e9b6cb7bf641b1fcbfbaa", func := "latchet/latchetlaw17.StepRuns", spec := "stepRuns", unfollowed := true, recurses := true, plainKeys := false, apart := false, narrowed := true }
def StepRunsUptoSaid : Prop := stepRunsUptoRow.holds Try.pinned (OpenSpec.upto stepRunsSpec)

/-- 'latchetlaw17.StepMeans', WHERE WHAT IT READS IS OF BULK AT MOST 1048576: true; the input reads as it did. -/
def stepMeansUptoRow : OpenClaim := { program := "ythpnahapiodflaa", sum := "61d58452f45ca00addce4231a5f24c85b5da3ad4c16e9b6cb7bf641b1fcbfbaa", func := "latchet/latchetlaw17.StepMeans", spec := "stepMeans", unfollowed := true, recurses := true, plainKeys := false, apart := false, narrowed := true }
def StepMeansUptoSaid : Prop := stepMeansUptoRow.holds Try.pinned (OpenSpec.upto stepMeansSpec)

/-- 'latchetlaw17.StepNone', WHERE WHAT IT READS IS OF BULK AT MOST 1048576: true; the input reads as it did. -/
def stepNoneUptoRow : OpenClaim := { program := "ythpnahapiodflaa", sum := "61d58452f45ca00addce4231a5f24c85b5da3ad4c16e9b6cb7bf641b1fcbfbaa", func := "latchet/latchetlaw17.StepNone", spec := "stepNone", unfollowed := true, recurses := true, plainKeys := false, apart := false, narrowed := true }
def StepNoneUptoSaid : Prop := stepNoneUptoRow.holds Try.pinned (OpenSpec.upto stepNoneSpec)

end Rows
end Go.Proofs.Ythpnahapiodflaa
