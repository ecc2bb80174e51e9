/-
  No cell of these rows narrows 'for every input' (looked for: loops, veiled, ifaces, maps, wideKeys, modest, calm, conditions, laid).
  DERIVED. THE GIVEN ROWS OF THIS SEAT. 14 by the template 'for every input the law returns true; each argument reads behind the call as it read before'; 0 by the template 'total and deterministic' (their statements: YtfkdlepemiepdaaTotals.lean).
  GIVEN WITH THE SEED: the statements are not yours to turn. If you find one false, say at which input.
  Laid BY PROGRAM, IN A SANDBOX (cutbox-rows.mjs): the forced cells as the released guide's own fill.sh prints them over the translation b451553d38ceb1cf… (all of the seat's roots in one cut). By AI agents, Wed Nov 11 2026. No macro, syntax, notation, axiom, sorry.
-/
import Derived.Test.YtfkdlepemiepdaaChecked
import GoSem.Claim
import GoSem.ClaimJoined
import GoSem.ClaimMapViews
import Derived.JoinedTies
import Derived.KernelRfl
namespace Go.Proofs.Ytfkdlepemiepdaa
/- THE CELL 'sum', in the pinned program and in every row, IS THE sha256 OF THE DUMP (.gsa) THAT YtfkdlepemiepdaaProg.lean LOADS. Nothing in Lean hashes anything: it is a label: what it is worth is what the hold of that sum in a sandbox is worth. -/
noncomputable def Try.pinned : Pinned := { name := "ytfkdlepemiepdaa", sum := "b451553d38ceb1cf5b2659d2018df720602bda888a7e915402adcfc45cae501d", checked := Try.checked }
namespace Rows
def none {H : Type} : Left H := { results := [], args := [] }

/-- 'latchetlaw23.FrontTells': WHATEVER THE INPUT: true; the input reads as it did. -/
def frontTellsSpec : ChangeSpec := { name := "frontTells", fn := fun _ => fun
  | [d1, d2, d3, d4] => { results := [.lit (.bool true)], args := [d1, d2, d3, d4] }
  | _ => none }
def frontTellsRow : OpenClaim := { program := "ytfkdlepemiepdaa", sum := "b451553d38ceb1cf5b2659d2018df720602bda888a7e915402adcfc45cae501d", func := "latchet/latchetlaw23.FrontTells", spec := "frontTells", unfollowed := true, recurses := true, plainKeys := false, apart := false }
def FrontTellsSaid : Prop := frontTellsRow.holds Try.pinned (OpenSpec.ofChange frontTellsSpec)

/-- ITS FALSE NEIGHBOUR: 'it returns false'. Refute it at one input. -/
def frontTellsWrong : ChangeSpec := { name := "frontTells", fn := fun _ => fun
  | [d1, d2, d3, d4] => { results := [.lit (.bool false)], args := [d1, d2, d3, d4] }
  | _ => none }
def FrontTellsWrongFalsely : Prop := frontTellsRow.holds Try.pinned (OpenSpec.ofChange frontTellsWrong)

/-- 'latchetlaw23.FrontLeads': WHATEVER THE INPUT: true; the input reads as it did. -/
def frontLeadsSpec : ChangeSpec := { name := "frontLeads", fn := fun _ => fun
  | [d1, d2, d3] => { results := [.lit (.bool true)], args := [d1, d2, d3] }
  | _ => none }
def frontLeadsRow : OpenClaim := { program := "ytfkdlepemiepdaa", sum := "b451553d38ceb1cf5b2659d2018df720602bda888a7e915402adcfc45cae501d", func := "latchet/latchetlaw23.FrontLeads", spec := "frontLeads", unfollowed := true, recurses := true, plainKeys := false, apart := false }
def FrontLeadsSaid : Prop := frontLeadsRow.holds Try.pinned (OpenSpec.ofChange frontLeadsSpec)

/-- ITS FALSE NEIGHBOUR: 'it returns false'. Refute it at one input. -/
def frontLeadsWrong : ChangeSpec := { name := "frontLeads", fn := fun _ => fun
  | [d1, d2, d3] => { results := [.lit (.bool false)], args := [d1, d2, d3] }
  | _ => none }
def FrontLeadsWrongFalsely : Prop := frontLeadsRow.holds Try.pinned (OpenSpec.ofChange frontLeadsWrong)

/-- 'latchetlaw23.FrontFills': WHATEVER THE INPUT: true; the input reads as it did. -/
def frontFillsSpec : ChangeSpec := { name := "frontFills", fn := fun _ => fun
  | [d1, d2, d3] => { results := [.lit (.bool true)], args := [d1, d2, d3] }
  | _ => none }
def frontFillsRow : OpenClaim := { program := "ytfkdlepemiepdaa", sum := "b451553d38ceb1cf5b2659d2018df720602bda888a7e915402adcfc45cae501d", func := "latchet/latchetlaw23.FrontFills", spec := "frontFills", unfollowed := true, recurses := true, plainKeys := false, apart := false }
def FrontFillsSaid : Prop := frontFillsRow.holds Try.pinned (OpenSpec.ofChange frontFillsSpec)

/-- ITS FALSE NEIGHBOUR: 'it returns false'. Refute it at one input. -/
def frontFillsWrong : ChangeSpec := { name := "frontFills", fn := fun _ => fun
  | [d1, d2, d3] => { results := [.lit (.bool false)], args := [d1, d2, d3] }
  | _ => none }
def FrontFillsWrongFalsely : Prop := frontFillsRow.holds Try.pinned (OpenSpec.ofChange frontFillsWrong)

/-- 'latchetlaw30.SigTells': WHATEVER THE INPUT: true; the input reads as it did. -/
def sigTellsSpec : ChangeSpec := { name := "sigTells", fn := fun _ => fun
  | [d1, d2, d3] => { results := [.lit (.bool true)], args := [d1, d2, d3] }
  | _ => none }
def sigTellsRow : OpenClaim := { program := "ytfkdlepemiepdaa", sum := "b451553d38ceb1cf5b2659d2018df720602bda888a7e915402adcfc45cae501d", func := "latchet/latchetlaw30.SigTells", spec := "sigTells", plainKeys := false, apart := false }
def SigTellsSaid : Prop := sigTellsRow.holds Try.pinned (OpenSpec.ofChange sigTellsSpec)

/-- ITS FALSE NEIGHBOUR: 'it returns false'. Refute it at one input. -/
def sigTellsWrong : ChangeSpec := { name := "sigTells", fn := fun _ => fun
  | [d1, d2, d3] => { results := [.lit (.bool false)], args := [d1, d2, d3] }
  | _ => none }
def SigTellsWrongFalsely : Prop := sigTellsRow.holds Try.pinned (OpenSpec.ofChange sigTellsWrong)

/-- 'latchetlaw45.FsimDetects': WHATEVER THE INPUT: true; the input reads as it did. -/
def fsimDetectsSpec : ChangeSpec := { name := "fsimDetects", fn := fun _ => fun
  | [d1, d2, d3, d4, d5] => { results := [.lit (.bool true)], args := [d1, d2, d3, d4, d5] }
  | _ => none }
def fsimDetectsRow : OpenClaim := { program := "ytfkdlepemiepdaa", sum := "b451553d38ceb1cf5b2659d2018df720602bda888a7e915402adcfc45cae501d", func := "latchet/latchetlaw45.FsimDetects", spec := "fsimDetects", unfollowed := true, recurses := true, plainKeys := false, apart := false }
def FsimDetectsSaid : Prop := fsimDetectsRow.holds Try.pinned (OpenSpec.ofChange fsimDetectsSpec)

/-- ITS FALSE NEIGHBOUR: 'it returns false'. Refute it at one input. -/
def fsimDetectsWrong : ChangeSpec := { name := "fsimDetects", fn := fun _ => fun
  | [d1, d2, d3, d4, d5] => { results := [.lit (.bool false)], args := [d1, d2, d3, d4, d5] }
  | _ => none }
def FsimDetectsWrongFalsely : Prop := fsimDetectsRow.holds Try.pinned (OpenSpec.ofChange fsimDetectsWrong)

/-- 'latchetlaw30.SigCompares': WHATEVER THE INPUT: true; the input reads as it did. -/
def sigComparesSpec : ChangeSpec := { name := "sigCompares", fn := fun _ => fun
  | [d1, d2] => { results := [.lit (.bool true)], args := [d1, d2] }
  | _ => none }
def sigComparesRow : OpenClaim := { program := "ytfkdlepemiepdaa", sum := "b451553d38ceb1cf5b2659d2018df720602bda888a7e915402adcfc45cae501d", func := "latchet/latchetlaw30.SigCompares", spec := "sigCompares", plainKeys := false, apart := false }
def SigComparesSaid : Prop := sigComparesRow.holds Try.pinned (OpenSpec.ofChange sigComparesSpec)

/-- ITS FALSE NEIGHBOUR: 'it returns false'. Refute it at one input. -/
def sigComparesWrong : ChangeSpec := { name := "sigCompares", fn := fun _ => fun
  | [d1, d2] => { results := [.lit (.bool false)], args := [d1, d2] }
  | _ => none }
def SigComparesWrongFalsely : Prop := sigComparesRow.holds Try.pinned (OpenSpec.ofChange sigComparesWrong)

/-- 'latchetlaw07.AigMeans': WHATEVER THE INPUT: true; the input reads as it did. -/
def aigMeansSpec : ChangeSpec := { name := "aigMeans", fn := fun _ => fun
  | [d1, d2, d3] => { results := [.lit (.bool true)], args := [d1, d2, d3] }
  | _ => none }
def aigMeansRow : OpenClaim := { program := "ytfkdlepemiepdaa", sum := "b451553d38ceb1cf5b2659d2018df720602bda888a7e915402adcfc45cae501d", func := "latchet/latchetlaw07.AigMeans", spec := "aigMeans", unfollowed := true, recurses := true, plainKeys := false, apart := false }
def AigMeansSaid : Prop := aigMeansRow.holds Try.pinned (OpenSpec.ofChange aigMeansSpec)

/-- ITS FALSE NEIGHBOUR: 'it returns false'. Refute it at one input. -/
def aigMeansWrong : ChangeSpec := { name := "aigMeans", fn := fun _ => fun
  | [d1, d2, d3] => { results := [.lit (.bool false)], args := [d1, d2, d3] }
  | _ => none }
def AigMeansWrongFalsely : Prop := aigMeansRow.holds Try.pinned (OpenSpec.ofChange aigMeansWrong)

/-- 'latchetlaw10.TernEvals': WHATEVER THE INPUT: true; the input reads as it did. -/
def ternEvalsSpec : ChangeSpec := { name := "ternEvals", fn := fun _ => fun
  | [d1, d2, d3] => { results := [.lit (.bool true)], args := [d1, d2, d3] }
  | _ => none }
def ternEvalsRow : OpenClaim := { program := "ytfkdlepemiepdaa", sum := "b451553d38ceb1cf5b2659d2018df720602bda888a7e915402adcfc45cae501d", func := "latchet/latchetlaw10.TernEvals", spec := "ternEvals", unfollowed := true, recurses := true, plainKeys := false, apart := false }
def TernEvalsSaid : Prop := ternEvalsRow.holds Try.pinned (OpenSpec.ofChange ternEvalsSpec)

/-- ITS FALSE NEIGHBOUR: 'it returns false'. Refute it at one input. -/
def ternEvalsWrong : ChangeSpec := { name := "ternEvals", fn := fun _ => fun
  | [d1, d2, d3] => { results := [.lit (.bool false)], args := [d1, d2, d3] }
  | _ => none }
def TernEvalsWrongFalsely : Prop := ternEvalsRow.holds Try.pinned (OpenSpec.ofChange ternEvalsWrong)

/-- 'latchetlaw07.AigTidy': WHATEVER THE INPUT: true; the input reads as it did. -/
def aigTidySpec : ChangeSpec := { name := "aigTidy", fn := fun _ => fun
  | [d] => { results := [.lit (.bool true)], args := [d] }
  | _ => none }
def aigTidyRow : OpenClaim := { program := "ytfkdlepemiepdaa", sum := "b451553d38ceb1cf5b2659d2018df720602bda888a7e915402adcfc45cae501d", func := "latchet/latchetlaw07.AigTidy", spec := "aigTidy", unfollowed := true, recurses := true, plainKeys := false, apart := false }
def AigTidySaid : Prop := aigTidyRow.holds Try.pinned (OpenSpec.ofChange aigTidySpec)

/-- ITS FALSE NEIGHBOUR: 'it returns false'. Refute it at one input. -/
def aigTidyWrong : ChangeSpec := { name := "aigTidy", fn := fun _ => fun
  | [d] => { results := [.lit (.bool false)], args := [d] }
  | _ => none }
def AigTidyWrongFalsely : Prop := aigTidyRow.holds Try.pinned (OpenSpec.ofChange aigTidyWrong)

/-- 'latchetlaw49.GenCounts': WHATEVER THE INPUT: true; the input reads as it did. -/
def genCountsSpec : ChangeSpec := { name := "genCounts", fn := fun _ => fun
  | [d1, d2, d3] => { results := [.lit (.bool true)], args := [d1, d2, d3] }
  | _ => none }
def genCountsRow : OpenClaim := { program := "ytfkdlepemiepdaa", sum := "b451553d38ceb1cf5b2659d2018df720602bda888a7e915402adcfc45cae501d", func := "latchet/latchetlaw49.GenCounts", spec := "genCounts", unfollowed := true, recurses := true, plainKeys := false, apart := false }
def GenCountsSaid : Prop := genCountsRow.holds Try.pinned (OpenSpec.ofChange genCountsSpec)

/-- ITS FALSE NEIGHBOUR: 'it returns false'. Refute it at one input. -/
def genCountsWrong : ChangeSpec := { name := "genCounts", fn := fun _ => fun
  | [d1, d2, d3] => { results := [.lit (.bool false)], args := [d1, d2, d3] }
  | _ => none }
def GenCountsWrongFalsely : Prop := genCountsRow.holds Try.pinned (OpenSpec.ofChange genCountsWrong)

/-- 'latchetlaw07.AigPlays': WHATEVER THE INPUT: true; the input reads as it did. -/
def aigPlaysSpec : ChangeSpec := { name := "aigPlays", fn := fun _ => fun
  | [d] => { results := [.lit (.bool true)], args := [d] }
  | _ => none }
def aigPlaysRow : OpenClaim := { program := "ytfkdlepemiepdaa", sum := "b451553d38ceb1cf5b2659d2018df720602bda888a7e915402adcfc45cae501d", func := "latchet/latchetlaw07.AigPlays", spec := "aigPlays", inPlace := ["maps.clone"], unfollowed := true, recurses := true, plainKeys := false, apart := false }
def AigPlaysSaid : Prop := aigPlaysRow.holds Try.pinned (OpenSpec.ofChange aigPlaysSpec)

/-- ITS FALSE NEIGHBOUR: 'it returns false'. Refute it at one input. -/
def aigPlaysWrong : ChangeSpec := { name := "aigPlays", fn := fun _ => fun
  | [d] => { results := [.lit (.bool false)], args := [d] }
  | _ => none }
def AigPlaysWrongFalsely : Prop := aigPlaysRow.holds Try.pinned (OpenSpec.ofChange aigPlaysWrong)

/-- 'latchetlaw49.GenShifts': WHATEVER THE INPUT: true; the input reads as it did. -/
def genShiftsSpec : ChangeSpec := { name := "genShifts", fn := fun _ => fun
  | [d1, d2] => { results := [.lit (.bool true)], args := [d1, d2] }
  | _ => none }
def genShiftsRow : OpenClaim := { program := "ytfkdlepemiepdaa", sum := "b451553d38ceb1cf5b2659d2018df720602bda888a7e915402adcfc45cae501d", func := "latchet/latchetlaw49.GenShifts", spec := "genShifts", unfollowed := true, recurses := true, plainKeys := false, apart := false }
def GenShiftsSaid : Prop := genShiftsRow.holds Try.pinned (OpenSpec.ofChange genShiftsSpec)

/-- ITS FALSE NEIGHBOUR: 'it returns false'. Refute it at one input. -/
def genShiftsWrong : ChangeSpec := { name := "genShifts", fn := fun _ => fun
  | [d1, d2] => { results := [.lit (.bool false)], args := [d1, d2] }
  | _ => none }
def GenShiftsWrongFalsely : Prop := genShiftsRow.holds Try.pinned (OpenSpec.ofChange genShiftsWrong)

/-- 'latchetlaw49.GenRings': WHATEVER THE INPUT: true; the input reads as it did. -/
def genRingsSpec : ChangeSpec := { name := "genRings", fn := fun _ => fun
  | [d1, d2, d3] => { results := [.lit (.bool true)], args := [d1, d2, d3] }
  | _ => none }
def genRingsRow : OpenClaim := { program := "ytfkdlepemiepdaa", sum := "b451553d38ceb1cf5b2659d2018df720602bda888a7e915402adcfc45cae501d", func := "latchet/latchetlaw49.GenRings", spec := "genRings", unfollowed := true, recurses := true, plainKeys := false, apart := false }
def GenRingsSaid : Prop := genRingsRow.holds Try.pinned (OpenSpec.ofChange genRingsSpec)

/-- ITS FALSE NEIGHBOUR: 'it returns false'. Refute it at one input. -/
def genRingsWrong : ChangeSpec := { name := "genRings", fn := fun _ => fun
  | [d1, d2, d3] => { results := [.lit (.bool false)], args := [d1, d2, d3] }
  | _ => none }
def GenRingsWrongFalsely : Prop := genRingsRow.holds Try.pinned (OpenSpec.ofChange genRingsWrong)

/-- 'latchetlaw49.GenLocks': WHATEVER THE INPUT: true; the input reads as it did. -/
def genLocksSpec : ChangeSpec := { name := "genLocks", fn := fun _ => fun
  | [d1, d2] => { results := [.lit (.bool true)], args := [d1, d2] }
  | _ => none }
def genLocksRow : OpenClaim := { program := "ytfkdlepemiepdaa", sum := "b451553d38ceb1cf5b2659d2018df720602bda888a7e915402adcfc45cae501d", func := "latchet/latchetlaw49.GenLocks", spec := "genLocks", unfollowed := true, recurses := true, plainKeys := false, apart := false }
def GenLocksSaid : Prop := genLocksRow.holds Try.pinned (OpenSpec.ofChange genLocksSpec)

/-- ITS FALSE NEIGHBOUR: 'it returns false'. Refute it at one input. -/
def genLocksWrong : ChangeSpec := { name := "genLocks", fn := fun _ => fun
  | [d1, d2] => { results := [.lit (.bool false)], args := [d1, d2] }
  | _ => none }
def GenLocksWrongFalsely : Prop := genLocksRow.holds Try.pinned (OpenSpec.ofChange genLocksWrong)

/- THE SECOND FORM. 'bulk': how many values and letters a reading holds, each counted each time it is reached (what is shared counts as often as it is met; a slice's spare places count too). A statement '..UptoSaid' is the law's where the arguments, and the package variables that the reading takes, are together of bulk at most 1048576: NARROWER than '..Said'. Prove '..Said' where nothing that the law and all that it calls make is longer than what came in: it says more and counts as full. Else prove '..UptoSaid'. A law counts once. -/
mutual
def uptoBulk {H : Type} : DataW H → Nat
  | .lit (.string bytes) => bytes.length + 1
  | .lit _ => 1
  | .nil => 1
  | .ptr d => uptoBulk d + 1
  | .slice elems spare => uptoBulkAll elems + uptoBulkAll spare + 1
  | .agg parts => uptoBulkAll parts + 1
  | .iface _ d => uptoBulk d + 1
  | .map entries => uptoBulkEntries entries + 1
  | .held _ => 1
def uptoBulkAll {H : Type} : List (DataW H) → Nat
  | [] => 0
  | d :: r => uptoBulk d + uptoBulkAll r
def uptoBulkEntries {H : Type} : List (Lit × DataW H) → Nat
  | [] => 0
  | x :: r => uptoBulkEntry x + uptoBulkEntries r
def uptoBulkEntry {H : Type} : Lit × DataW H → Nat
  | (.string bytes, d) => bytes.length + uptoBulk d + 1
  | (_, d) => uptoBulk d + 1
 end
def uptoSmall : (H : Type) → List (DataW H) → Bool := fun _ ds => decide (uptoBulkAll ds ≤ 1048576)
def OpenSpec.upto (s : _root_.Go.ChangeSpec) : _root_.Go.OpenSpec := { _root_.Go.OpenSpec.ofChange s with cond := some uptoSmall }

/-- 'latchetlaw23.FrontTells', WHERE WHAT IT READS IS OF BULK AT MOST 1048576: true; the input reads as it did. -/
def frontTellsUptoRow : OpenClaim := { program := "ytfkdlepemiepdaa", sum := "b451553d38ceb1cf5b2659d2018df720602bda888a7e915402adcfc45cae501d", func := "latchet/latchetlaw23.FrontTells", spec := "frontTells", unfollowed := true, recurses := true, plainKeys := false, apart := false, narrowed := true }
def FrontTellsUptoSaid : Prop := frontTellsUptoRow.holds Try.pinned (OpenSpec.upto frontTellsSpec)

/-- 'latchetlaw23.FrontLeads', WHERE WHAT IT READS IS OF BULK AT MOST 1048576: true; the input reads as it did. -/
def frontLeadsUptoRow : OpenClaim := { program := "ytfkdlepemiepdaa", sum := "b451553d38ceb1cf5b2659d2018df720602bda888a7e915402adcfc45cae501d", func := "latchet/latchetlaw23.FrontLeads", spec := "frontLeads", unfollowed := true, recurses := true, plainKeys := false, apart := false, narrowed := true }
def FrontLeadsUptoSaid : Prop := frontLeadsUptoRow.holds Try.pinned (OpenSpec.upto frontLeadsSpec)

/-- 'latchetlaw23.FrontFills', WHERE WHAT IT READS IS OF BULK AT MOST 1048576: true; the input reads as it did. -/
def frontFillsUptoRow : OpenClaim := { program := "ytfkdlepemiepdaa", sum := "b451553d38ceb1cf5b2659d2018df720602bda888a7e915402adcfc45cae501d", func := "latchet/latchetlaw23.FrontFills", spec := "frontFills", unfollowed := true, recurses := true, plainKeys := false, apart := false, narrowed := true }
def FrontFillsUptoSaid : Prop := frontFillsUptoRow.holds Try.pinned (OpenSpec.upto frontFillsSpec)

/-- 'latchetlaw30.SigTells', WHERE WHAT IT READS IS OF BULK AT MOST 1048576: true; the input reads as it did. -/
def sigTellsUptoRow : OpenClaim := { program := "ytfkdlepemiepdaa", sum := "b451553d38ceb1cf5b2659d2018df720602bda888a7e915402adcfc45cae501d", func := "latchet/latchetlaw30.SigTells", spec := "sigTells", plainKeys := false, apart := false, narrowed := true }
def SigTellsUptoSaid : Prop := sigTellsUptoRow.holds Try.pinned (OpenSpec.upto sigTellsSpec)

/-- 'latchetlaw45.FsimDetects', WHERE WHAT IT READS IS OF BULK AT MOST 1048576: true; the input reads as it did. -/
def fsimDetectsUptoRow : OpenClaim := { program := "ytfkdlepemiepdaa", sum := "b451553d38ceb1cf5b2659d2018df720602bda888a7e915402adcfc45cae501d", func := "latchet/latchetlaw45.FsimDetects", spec := "fsimDetects", unfollowed := true, recurses := true, plainKeys := false, apart := false, narrowed := true }
def FsimDetectsUptoSaid : Prop := fsimDetectsUptoRow.holds Try.pinned (OpenSpec.upto fsimDetectsSpec)

/-- 'latchetlaw30.SigCompares', WHERE WHAT IT READS IS OF BULK AT MOST 1048576: true; the input reads as it did. -/
def sigComparesUptoRow : OpenClaim := { program := "ytfkdlepemiepdaa", sum := "b451553d38ceb1cf5b2659d2018df720602bda888a7e915402adcfc45cae501d", func := "latchet/latchetlaw30.SigCompares", spec := "sigCompares", plainKeys := false, apart := false, narrowed := true }
def SigComparesUptoSaid : Prop := sigComparesUptoRow.holds Try.pinned (OpenSpec.upto sigComparesSpec)

/-- 'latchetlaw07.AigMeans', WHERE WHAT IT READS IS OF BULK AT MOST 1048576: true; the input reads as it did. -/
def aigMeansUptoRow : OpenClaim := { program := "ytfkdlepemiepdaa", sum := "b451553d38ceb1cf5b2659d2018df720602bda888a7e915402adcfc45cae501d", func := "latchet/latchetlaw07.AigMeans", spec := "aigMeans", unfollowed := true, recurses := true, plainKeys := false, apart := false, narrowed := true }
def AigMeansUptoSaid : Prop := aigMeansUptoRow.holds Try.pinned (OpenSpec.upto aigMeansSpec)

/-- 'latchetlaw10.TernEvals', WHERE WHAT IT READS IS OF BULK AT MOST 1048576: true; the input reads as it did. -/
def ternEvalsUptoRow : OpenClaim := { program := "ytfkdlepemiepdaa", sum := "b451553d38ceb1cf5b2659d2018df720602bda888a7e915402adcfc45cae501d", func := "latchet/latchetlaw10.TernEvals", spec := "ternEvals", unfollowed := true, recurses := true, plainKeys := false, apart := false, narrowed := true }
def TernEvalsUptoSaid : Prop := ternEvalsUptoRow.holds Try.pinned (OpenSpec.upto ternEvalsSpec)

/-- 'latchetlaw07.AigTidy', WHERE WHAT IT READS IS OF BULK AT MOST 1048576: true; the input reads as it did. -/
def aigTidyUptoRow : OpenClaim := { program := "ytfkdlepemiepdaa", sum := "b451553d38ceb1cf5b2659d2018df720602bda888a7e915402adcfc45cae501d", func := "latchet/latchetlaw07.AigTidy", spec := "aigTidy", unfollowed := true, recurses := true, plainKeys := false, apart := false, narrowed := true }
def AigTidyUptoSaid : Prop := aigTidyUptoRow.holds Try.pinned (OpenSpec.upto aigTidySpec)

/-- 'latchetlaw49.GenCounts', WHERE WHAT IT READS IS OF BULK AT MOST 1048576: true; the input reads as it did. -/
def genCountsUptoRow : OpenClaim := { program := "ytfkdlepemiepdaa", sum := "b451553d38ceb1cf5b2659d2018df720602bda888a7e915402adcfc45cae501d", func := "latchet/latchetlaw49.GenCounts", spec := "genCounts", unfollowed := true, recurses := true, plainKeys := false, apart := false, narrowed := true }
def GenCountsUptoSaid : Prop := genCountsUptoRow.holds Try.pinned (OpenSpec.upto genCountsSpec)

/-- 'latchetlaw07.AigPlays', WHERE WHAT IT READS IS OF BULK AT MOST 1048576: true; the input reads as it did. -/
def aigPlaysUptoRow : OpenClaim := { program := "ytfkdlepemiepdaa", sum := "b451553d38ceb1cf5b2659d2018df720602bda888a7e915402adcfc45cae501d", func := "latchet/latchetlaw07.AigPlays", spec := "aigPlays", inPlace := ["maps.clone"], unfollowed := true, recurses := true, plainKeys := false, apart := false, narrowed := true }
def AigPlaysUptoSaid : Prop := aigPlaysUptoRow.holds Try.pinned (OpenSpec.upto aigPlaysSpec)

/-- 'latchetlaw49.GenShifts', WHERE WHAT IT READS IS OF BULK AT MOST 1048576: true; the input reads as it did. -/
def genShiftsUptoRow : OpenClaim := { program := "ytfkdlepemiepdaa", sum := "b451553d38ceb1cf5b2659d2018df720602bda888a7e915402adcfc45cae501d", func := "latchet/latchetlaw49.GenShifts", spec := "genShifts", unfollowed := true, recurses := true, plainKeys := false, apart := false, narrowed := true }
def GenShiftsUptoSaid : Prop := genShiftsUptoRow.holds Try.pinned (OpenSpec.upto genShiftsSpec)

/-- 'latchetlaw49.GenRings', WHERE WHAT IT READS IS OF BULK AT MOST 1048576: true; the input reads as it did. -/
def genRingsUptoRow : OpenClaim := { program := "ytfkdlepemiepdaa", sum := "b451553d38ceb1cf5b2659d2018df720602bda888a7e915402adcfc45cae501d", func := "latchet/latchetlaw49.GenRings", spec := "genRings", unfollowed := true, recurses := true, plainKeys := false, apart := false, narrowed := true }
def GenRingsUptoSaid : Prop := genRingsUptoRow.holds Try.pinned (OpenSpec.upto genRingsSpec)

/-- 'latchetlaw49.GenLocks', WHERE WHAT IT READS IS OF BULK AT MOST 1048576: true; the input reads as it did. -/
def genLocksUptoRow : OpenClaim := { program := "ytfkdlepemiepdaa", sum := "b451553d38ceb1cf5b2659d2018df720602bda888a7e915402adcfc45cae501d", func := "latchet/latchetlaw49.GenLocks", spec := "genLocks", unfollowed := true, recurses := true, plainKeys := false, apart := false, narrowed := true }
def GenLocksUptoSaid : Prop := genLocksUptoRow.holds Try.pinned (OpenSpec.upto genLocksSpec)

end Rows
end Go.Proofs.Ytfkdlepemiepdaa
