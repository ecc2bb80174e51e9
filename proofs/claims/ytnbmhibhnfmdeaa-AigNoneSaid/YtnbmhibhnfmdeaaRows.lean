/-
  No cell of these rows narrows 'for every input' (looked for: loops, veiled, ifaces, maps, wideKeys, modest, calm, conditions, laid).
  DERIVED. THE GIVEN ROWS OF THIS SEAT. 20 by the template 'for every input the law returns true; each argument reads behind the call as it read before'; 0 by the template 'total and deterministic' (their statements: YtnbmhibhnfmdeaaTotals.lean).
  GIVEN WITH THE SEED: the statements are not yours to turn. If you find one false, say at which input.
  Laid BY PROGRAM, IN A SANDBOX (cutbox-rows.mjs): the forced cells as the released guide's own fill.sh prints them over the translation 218e4e3cbdcbd303… (all of the seat's roots in one cut). By AI agents, Wed Nov 11 2026. No macro, syntax, notation, axiom, sorry.
-/
import Derived.Test.YtnbmhibhnfmdeaaChecked
import GoSem.Claim
import GoSem.ClaimJoined
import GoSem.ClaimMapViews
import Derived.JoinedTies
import Derived.KernelRfl
namespace Go.Proofs.Ytnbmhibhnfmdeaa
/- THE CELL 'sum', in the pinned program and in every row, IS THE sha256 OF THE DUMP (.gsa) THAT YtnbmhibhnfmdeaaProg.lean LOADS. Nothing in Lean hashes anything: it is a label: what it is worth is what the hold of that sum in a sandbox is worth. -/
noncomputable def Try.pinned : Pinned := { name := "ytnbmhibhnfmdeaa", sum := "218e4e3cbdcbd303385aa5be25848a12e606b22b1d45eb802a7fc8f96c4716b8", checked := Try.checked }
namespace Rows
def none {H : Type} : Left H := { results := [], args := [] }

/-- 'latchetlaw03.TriWords': WHATEVER THE INPUT: true; the input reads as it did. -/
def triWordsSpec : ChangeSpec := { name := "triWords", fn := fun _ => fun
  | [d1, d2, d3, d4] => { results := [.lit (.bool true)], args := [d1, d2, d3, d4] }
  | _ => none }
def triWordsRow : OpenClaim := { program := "ytnbmhibhnfmdeaa", sum := "218e4e3cbdcbd303385aa5be25848a12e606b22b1d45eb802a7fc8f96c4716b8", func := "latchet/latchetlaw03.TriWords", spec := "triWords", plainKeys := false, apart := false }
def TriWordsSaid : Prop := triWordsRow.holds Try.pinned (OpenSpec.ofChange triWordsSpec)

/-- ITS FALSE NEIGHBOUR: 'it returns false'. Refute it at one input. -/
def triWordsWrong : ChangeSpec := { name := "triWords", fn := fun _ => fun
  | [d1, d2, d3, d4] => { results := [.lit (.bool false)], args := [d1, d2, d3, d4] }
  | _ => none }
def TriWordsWrongFalsely : Prop := triWordsRow.holds Try.pinned (OpenSpec.ofChange triWordsWrong)

/-- 'latchetlaw09.SimEvals': WHATEVER THE INPUT: true; the input reads as it did. -/
def simEvalsSpec : ChangeSpec := { name := "simEvals", fn := fun _ => fun
  | [d1, d2, d3, d4] => { results := [.lit (.bool true)], args := [d1, d2, d3, d4] }
  | _ => none }
def simEvalsRow : OpenClaim := { program := "ytnbmhibhnfmdeaa", sum := "218e4e3cbdcbd303385aa5be25848a12e606b22b1d45eb802a7fc8f96c4716b8", func := "latchet/latchetlaw09.SimEvals", spec := "simEvals", plainKeys := false, apart := false }
def SimEvalsSaid : Prop := simEvalsRow.holds Try.pinned (OpenSpec.ofChange simEvalsSpec)

/-- ITS FALSE NEIGHBOUR: 'it returns false'. Refute it at one input. -/
def simEvalsWrong : ChangeSpec := { name := "simEvals", fn := fun _ => fun
  | [d1, d2, d3, d4] => { results := [.lit (.bool false)], args := [d1, d2, d3, d4] }
  | _ => none }
def SimEvalsWrongFalsely : Prop := simEvalsRow.holds Try.pinned (OpenSpec.ofChange simEvalsWrong)

/-- 'latchetlaw08.ConeAbove': WHATEVER THE INPUT: true; the input reads as it did. -/
def coneAboveSpec : ChangeSpec := { name := "coneAbove", fn := fun _ => fun
  | [d1, d2] => { results := [.lit (.bool true)], args := [d1, d2] }
  | _ => none }
def coneAboveRow : OpenClaim := { program := "ytnbmhibhnfmdeaa", sum := "218e4e3cbdcbd303385aa5be25848a12e606b22b1d45eb802a7fc8f96c4716b8", func := "latchet/latchetlaw08.ConeAbove", spec := "coneAbove", unfollowed := true, recurses := true, plainKeys := false, apart := false }
def ConeAboveSaid : Prop := coneAboveRow.holds Try.pinned (OpenSpec.ofChange coneAboveSpec)

/-- ITS FALSE NEIGHBOUR: 'it returns false'. Refute it at one input. -/
def coneAboveWrong : ChangeSpec := { name := "coneAbove", fn := fun _ => fun
  | [d1, d2] => { results := [.lit (.bool false)], args := [d1, d2] }
  | _ => none }
def ConeAboveWrongFalsely : Prop := coneAboveRow.holds Try.pinned (OpenSpec.ofChange coneAboveWrong)

/-- 'latchetlaw08.ConeTells': WHATEVER THE INPUT: true; the input reads as it did. -/
def coneTellsSpec : ChangeSpec := { name := "coneTells", fn := fun _ => fun
  | [d1, d2] => { results := [.lit (.bool true)], args := [d1, d2] }
  | _ => none }
def coneTellsRow : OpenClaim := { program := "ytnbmhibhnfmdeaa", sum := "218e4e3cbdcbd303385aa5be25848a12e606b22b1d45eb802a7fc8f96c4716b8", func := "latchet/latchetlaw08.ConeTells", spec := "coneTells", unfollowed := true, recurses := true, plainKeys := false, apart := false }
def ConeTellsSaid : Prop := coneTellsRow.holds Try.pinned (OpenSpec.ofChange coneTellsSpec)

/-- ITS FALSE NEIGHBOUR: 'it returns false'. Refute it at one input. -/
def coneTellsWrong : ChangeSpec := { name := "coneTells", fn := fun _ => fun
  | [d1, d2] => { results := [.lit (.bool false)], args := [d1, d2] }
  | _ => none }
def ConeTellsWrongFalsely : Prop := coneTellsRow.holds Try.pinned (OpenSpec.ofChange coneTellsWrong)

/-- 'latchetlaw10.TernDrops': WHATEVER THE INPUT: true; the input reads as it did. -/
def ternDropsSpec : ChangeSpec := { name := "ternDrops", fn := fun _ => fun
  | [d1, d2, d3, d4] => { results := [.lit (.bool true)], args := [d1, d2, d3, d4] }
  | _ => none }
def ternDropsRow : OpenClaim := { program := "ytnbmhibhnfmdeaa", sum := "218e4e3cbdcbd303385aa5be25848a12e606b22b1d45eb802a7fc8f96c4716b8", func := "latchet/latchetlaw10.TernDrops", spec := "ternDrops", unfollowed := true, recurses := true, plainKeys := false, apart := false }
def TernDropsSaid : Prop := ternDropsRow.holds Try.pinned (OpenSpec.ofChange ternDropsSpec)

/-- ITS FALSE NEIGHBOUR: 'it returns false'. Refute it at one input. -/
def ternDropsWrong : ChangeSpec := { name := "ternDrops", fn := fun _ => fun
  | [d1, d2, d3, d4] => { results := [.lit (.bool false)], args := [d1, d2, d3, d4] }
  | _ => none }
def TernDropsWrongFalsely : Prop := ternDropsRow.holds Try.pinned (OpenSpec.ofChange ternDropsWrong)

/-- 'latchetlaw07.AigNets': WHATEVER THE INPUT: true; the input reads as it did. -/
def aigNetsSpec : ChangeSpec := { name := "aigNets", fn := fun _ => fun
  | [d] => { results := [.lit (.bool true)], args := [d] }
  | _ => none }
def aigNetsRow : OpenClaim := { program := "ytnbmhibhnfmdeaa", sum := "218e4e3cbdcbd303385aa5be25848a12e606b22b1d45eb802a7fc8f96c4716b8", func := "latchet/latchetlaw07.AigNets", spec := "aigNets", unfollowed := true, recurses := true, plainKeys := false, apart := false }
def AigNetsSaid : Prop := aigNetsRow.holds Try.pinned (OpenSpec.ofChange aigNetsSpec)

/-- ITS FALSE NEIGHBOUR: 'it returns false'. Refute it at one input. -/
def aigNetsWrong : ChangeSpec := { name := "aigNets", fn := fun _ => fun
  | [d] => { results := [.lit (.bool false)], args := [d] }
  | _ => none }
def AigNetsWrongFalsely : Prop := aigNetsRow.holds Try.pinned (OpenSpec.ofChange aigNetsWrong)

/-- 'latchetlaw23.FrontTells': WHATEVER THE INPUT: true; the input reads as it did. -/
def frontTellsSpec : ChangeSpec := { name := "frontTells", fn := fun _ => fun
  | [d1, d2, d3, d4] => { results := [.lit (.bool true)], args := [d1, d2, d3, d4] }
  | _ => none }
def frontTellsRow : OpenClaim := { program := "ytnbmhibhnfmdeaa", sum := "218e4e3cbdcbd303385aa5be25848a12e606b22b1d45eb802a7fc8f96c4716b8", func := "latchet/latchetlaw23.FrontTells", spec := "frontTells", unfollowed := true, recurses := true, plainKeys := false, apart := false }
def FrontTellsSaid : Prop := frontTellsRow.holds Try.pinned (OpenSpec.ofChange frontTellsSpec)

/-- ITS FALSE NEIGHBOUR: 'it returns false'. Refute it at one input. -/
def frontTellsWrong : ChangeSpec := { name := "frontTells", fn := fun _ => fun
  | [d1, d2, d3, d4] => { results := [.lit (.bool false)], args := [d1, d2, d3, d4] }
  | _ => none }
def FrontTellsWrongFalsely : Prop := frontTellsRow.holds Try.pinned (OpenSpec.ofChange frontTellsWrong)

/-- 'latchetlaw23.FrontLeads': WHATEVER THE INPUT: true; the input reads as it did. -/
def frontLeadsSpec : ChangeSpec := { name := "frontLeads", fn := fun _ => fun
  | [d1, d2, d3] => { results := [.lit (.bool true)], args := [d1, d2, d3] }
  | _ => none }
def frontLeadsRow : OpenClaim := { program := "ytnbmhibhnfmdeaa", sum := "218e4e3cbdcbd303385aa5be25848a12e606b22b1d45eb802a7fc8f96c4716b8", func := "latchet/latchetlaw23.FrontLeads", spec := "frontLeads", unfollowed := true, recurses := true, plainKeys := false, apart := false }
def FrontLeadsSaid : Prop := frontLeadsRow.holds Try.pinned (OpenSpec.ofChange frontLeadsSpec)

/-- ITS FALSE NEIGHBOUR: 'it returns false'. Refute it at one input. -/
def frontLeadsWrong : ChangeSpec := { name := "frontLeads", fn := fun _ => fun
  | [d1, d2, d3] => { results := [.lit (.bool false)], args := [d1, d2, d3] }
  | _ => none }
def FrontLeadsWrongFalsely : Prop := frontLeadsRow.holds Try.pinned (OpenSpec.ofChange frontLeadsWrong)

/-- 'latchetlaw23.FrontFills': WHATEVER THE INPUT: true; the input reads as it did. -/
def frontFillsSpec : ChangeSpec := { name := "frontFills", fn := fun _ => fun
  | [d1, d2, d3] => { results := [.lit (.bool true)], args := [d1, d2, d3] }
  | _ => none }
def frontFillsRow : OpenClaim := { program := "ytnbmhibhnfmdeaa", sum := "218e4e3cbdcbd303385aa5be25848a12e606b22b1d45eb802a7fc8f96c4716b8", func := "latchet/latchetlaw23.FrontFills", spec := "frontFills", unfollowed := true, recurses := true, plainKeys := false, apart := false }
def FrontFillsSaid : Prop := frontFillsRow.holds Try.pinned (OpenSpec.ofChange frontFillsSpec)

/-- ITS FALSE NEIGHBOUR: 'it returns false'. Refute it at one input. -/
def frontFillsWrong : ChangeSpec := { name := "frontFills", fn := fun _ => fun
  | [d1, d2, d3] => { results := [.lit (.bool false)], args := [d1, d2, d3] }
  | _ => none }
def FrontFillsWrongFalsely : Prop := frontFillsRow.holds Try.pinned (OpenSpec.ofChange frontFillsWrong)

/-- 'latchetlaw30.SigTells': WHATEVER THE INPUT: true; the input reads as it did. -/
def sigTellsSpec : ChangeSpec := { name := "sigTells", fn := fun _ => fun
  | [d1, d2, d3] => { results := [.lit (.bool true)], args := [d1, d2, d3] }
  | _ => none }
def sigTellsRow : OpenClaim := { program := "ytnbmhibhnfmdeaa", sum := "218e4e3cbdcbd303385aa5be25848a12e606b22b1d45eb802a7fc8f96c4716b8", func := "latchet/latchetlaw30.SigTells", spec := "sigTells", plainKeys := false, apart := false }
def SigTellsSaid : Prop := sigTellsRow.holds Try.pinned (OpenSpec.ofChange sigTellsSpec)

/-- ITS FALSE NEIGHBOUR: 'it returns false'. Refute it at one input. -/
def sigTellsWrong : ChangeSpec := { name := "sigTells", fn := fun _ => fun
  | [d1, d2, d3] => { results := [.lit (.bool false)], args := [d1, d2, d3] }
  | _ => none }
def SigTellsWrongFalsely : Prop := sigTellsRow.holds Try.pinned (OpenSpec.ofChange sigTellsWrong)

/-- 'latchetlaw45.FsimDetects': WHATEVER THE INPUT: true; the input reads as it did. -/
def fsimDetectsSpec : ChangeSpec := { name := "fsimDetects", fn := fun _ => fun
  | [d1, d2, d3, d4, d5] => { results := [.lit (.bool true)], args := [d1, d2, d3, d4, d5] }
  | _ => none }
def fsimDetectsRow : OpenClaim := { program := "ytnbmhibhnfmdeaa", sum := "218e4e3cbdcbd303385aa5be25848a12e606b22b1d45eb802a7fc8f96c4716b8", func := "latchet/latchetlaw45.FsimDetects", spec := "fsimDetects", unfollowed := true, recurses := true, plainKeys := false, apart := false }
def FsimDetectsSaid : Prop := fsimDetectsRow.holds Try.pinned (OpenSpec.ofChange fsimDetectsSpec)

/-- ITS FALSE NEIGHBOUR: 'it returns false'. Refute it at one input. -/
def fsimDetectsWrong : ChangeSpec := { name := "fsimDetects", fn := fun _ => fun
  | [d1, d2, d3, d4, d5] => { results := [.lit (.bool false)], args := [d1, d2, d3, d4, d5] }
  | _ => none }
def FsimDetectsWrongFalsely : Prop := fsimDetectsRow.holds Try.pinned (OpenSpec.ofChange fsimDetectsWrong)

/-- 'latchetlaw21.TrailKeeps': WHATEVER THE INPUT: true; the input reads as it did. -/
def trailKeepsSpec : ChangeSpec := { name := "trailKeeps", fn := fun _ => fun
  | [d1, d2] => { results := [.lit (.bool true)], args := [d1, d2] }
  | _ => none }
def trailKeepsRow : OpenClaim := { program := "ytnbmhibhnfmdeaa", sum := "218e4e3cbdcbd303385aa5be25848a12e606b22b1d45eb802a7fc8f96c4716b8", func := "latchet/latchetlaw21.TrailKeeps", spec := "trailKeeps", unfollowed := true, recurses := true, plainKeys := false, apart := false }
def TrailKeepsSaid : Prop := trailKeepsRow.holds Try.pinned (OpenSpec.ofChange trailKeepsSpec)

/-- ITS FALSE NEIGHBOUR: 'it returns false'. Refute it at one input. -/
def trailKeepsWrong : ChangeSpec := { name := "trailKeeps", fn := fun _ => fun
  | [d1, d2] => { results := [.lit (.bool false)], args := [d1, d2] }
  | _ => none }
def TrailKeepsWrongFalsely : Prop := trailKeepsRow.holds Try.pinned (OpenSpec.ofChange trailKeepsWrong)

/-- 'latchetlaw30.SigCompares': WHATEVER THE INPUT: true; the input reads as it did. -/
def sigComparesSpec : ChangeSpec := { name := "sigCompares", fn := fun _ => fun
  | [d1, d2] => { results := [.lit (.bool true)], args := [d1, d2] }
  | _ => none }
def sigComparesRow : OpenClaim := { program := "ytnbmhibhnfmdeaa", sum := "218e4e3cbdcbd303385aa5be25848a12e606b22b1d45eb802a7fc8f96c4716b8", func := "latchet/latchetlaw30.SigCompares", spec := "sigCompares", plainKeys := false, apart := false }
def SigComparesSaid : Prop := sigComparesRow.holds Try.pinned (OpenSpec.ofChange sigComparesSpec)

/-- ITS FALSE NEIGHBOUR: 'it returns false'. Refute it at one input. -/
def sigComparesWrong : ChangeSpec := { name := "sigCompares", fn := fun _ => fun
  | [d1, d2] => { results := [.lit (.bool false)], args := [d1, d2] }
  | _ => none }
def SigComparesWrongFalsely : Prop := sigComparesRow.holds Try.pinned (OpenSpec.ofChange sigComparesWrong)

/-- 'latchetlaw07.AigMeans': WHATEVER THE INPUT: true; the input reads as it did. -/
def aigMeansSpec : ChangeSpec := { name := "aigMeans", fn := fun _ => fun
  | [d1, d2, d3] => { results := [.lit (.bool true)], args := [d1, d2, d3] }
  | _ => none }
def aigMeansRow : OpenClaim := { program := "ytnbmhibhnfmdeaa", sum := "218e4e3cbdcbd303385aa5be25848a12e606b22b1d45eb802a7fc8f96c4716b8", func := "latchet/latchetlaw07.AigMeans", spec := "aigMeans", unfollowed := true, recurses := true, plainKeys := false, apart := false }
def AigMeansSaid : Prop := aigMeansRow.holds Try.pinned (OpenSpec.ofChange aigMeansSpec)

/-- ITS FALSE NEIGHBOUR: 'it returns false'. Refute it at one input. -/
def aigMeansWrong : ChangeSpec := { name := "aigMeans", fn := fun _ => fun
  | [d1, d2, d3] => { results := [.lit (.bool false)], args := [d1, d2, d3] }
  | _ => none }
def AigMeansWrongFalsely : Prop := aigMeansRow.holds Try.pinned (OpenSpec.ofChange aigMeansWrong)

/-- 'latchetlaw21.TrailPlays': WHATEVER THE INPUT: true; the input reads as it did. -/
def trailPlaysSpec : ChangeSpec := { name := "trailPlays", fn := fun _ => fun
  | [d1, d2] => { results := [.lit (.bool true)], args := [d1, d2] }
  | _ => none }
def trailPlaysRow : OpenClaim := { program := "ytnbmhibhnfmdeaa", sum := "218e4e3cbdcbd303385aa5be25848a12e606b22b1d45eb802a7fc8f96c4716b8", func := "latchet/latchetlaw21.TrailPlays", spec := "trailPlays", unfollowed := true, recurses := true, plainKeys := false, apart := false }
def TrailPlaysSaid : Prop := trailPlaysRow.holds Try.pinned (OpenSpec.ofChange trailPlaysSpec)

/-- ITS FALSE NEIGHBOUR: 'it returns false'. Refute it at one input. -/
def trailPlaysWrong : ChangeSpec := { name := "trailPlays", fn := fun _ => fun
  | [d1, d2] => { results := [.lit (.bool false)], args := [d1, d2] }
  | _ => none }
def TrailPlaysWrongFalsely : Prop := trailPlaysRow.holds Try.pinned (OpenSpec.ofChange trailPlaysWrong)

/-- 'latchetlaw21.TrailNone': WHATEVER THE INPUT: true; the input reads as it did. -/
def trailNoneSpec : ChangeSpec := { name := "trailNone", fn := fun _ => fun
  | [d1, d2] => { results := [.lit (.bool true)], args := [d1, d2] }
  | _ => none }
def trailNoneRow : OpenClaim := { program := "ytnbmhibhnfmdeaa", sum := "218e4e3cbdcbd303385aa5be25848a12e606b22b1d45eb802a7fc8f96c4716b8", func := "latchet/latchetlaw21.TrailNone", spec := "trailNone", unfollowed := true, recurses := true, plainKeys := false, apart := false }
def TrailNoneSaid : Prop := trailNoneRow.holds Try.pinned (OpenSpec.ofChange trailNoneSpec)

/-- ITS FALSE NEIGHBOUR: 'it returns false'. Refute it at one input. -/
def trailNoneWrong : ChangeSpec := { name := "trailNone", fn := fun _ => fun
  | [d1, d2] => { results := [.lit (.bool false)], args := [d1, d2] }
  | _ => none }
def TrailNoneWrongFalsely : Prop := trailNoneRow.holds Try.pinned (OpenSpec.ofChange trailNoneWrong)

/-- 'latchetlaw10.TernEvals': WHATEVER THE INPUT: true; the input reads as it did. -/
def ternEvalsSpec : ChangeSpec := { name := "ternEvals", fn := fun _ => fun
  | [d1, d2, d3] => { results := [.lit (.bool true)], args := [d1, d2, d3] }
  | _ => none }
def ternEvalsRow : OpenClaim := { program := "ytnbmhibhnfmdeaa", sum := "218e4e3cbdcbd303385aa5be25848a12e606b22b1d45eb802a7fc8f96c4716b8", func := "latchet/latchetlaw10.TernEvals", spec := "ternEvals", unfollowed := true, recurses := true, plainKeys := false, apart := false }
def TernEvalsSaid : Prop := ternEvalsRow.holds Try.pinned (OpenSpec.ofChange ternEvalsSpec)

/-- ITS FALSE NEIGHBOUR: 'it returns false'. Refute it at one input. -/
def ternEvalsWrong : ChangeSpec := { name := "ternEvals", fn := fun _ => fun
  | [d1, d2, d3] => { results := [.lit (.bool false)], args := [d1, d2, d3] }
  | _ => none }
def TernEvalsWrongFalsely : Prop := ternEvalsRow.holds Try.pinned (OpenSpec.ofChange ternEvalsWrong)

/-- 'latchetlaw07.AigTidy': WHATEVER THE INPUT: true; the input reads as it did. -/
def aigTidySpec : ChangeSpec := { name := "aigTidy", fn := fun _ => fun
  | [d] => { results := [.lit (.bool true)], args := [d] }
  | _ => none }
def aigTidyRow : OpenClaim := { program := "ytnbmhibhnfmdeaa", sum := "218e4e3cbdcbd303385aa5be25848a12e606b22b1d45eb802a7fc8f96c4716b8", func := "latchet/latchetlaw07.AigTidy", spec := "aigTidy", unfollowed := true, recurses := true, plainKeys := false, apart := false }
def AigTidySaid : Prop := aigTidyRow.holds Try.pinned (OpenSpec.ofChange aigTidySpec)

/-- ITS FALSE NEIGHBOUR: 'it returns false'. Refute it at one input. -/
def aigTidyWrong : ChangeSpec := { name := "aigTidy", fn := fun _ => fun
  | [d] => { results := [.lit (.bool false)], args := [d] }
  | _ => none }
def AigTidyWrongFalsely : Prop := aigTidyRow.holds Try.pinned (OpenSpec.ofChange aigTidyWrong)

/-- 'latchetlaw07.AigNone': WHATEVER THE INPUT: true; the input reads as it did. -/
def aigNoneSpec : ChangeSpec := { name := "aigNone", fn := fun _ => fun
  | [d1, d2, d3] => { results := [.lit (.bool true)], args := [d1, d2, d3] }
  | _ => none }
def aigNoneRow : OpenClaim := { program := "ytnbmhibhnfmdeaa", sum := "218e4e3cbdcbd303385aa5be25848a12e606b22b1d45eb802a7fc8f96c4716b8", func := "latchet/latchetlaw07.AigNone", spec := "aigNone", inPlace := ["maps.clone"], unfollowed := true, recurses := true, plainKeys := false, apart := false }
def AigNoneSaid : Prop := aigNoneRow.holds Try.pinned (OpenSpec.ofChange aigNoneSpec)

/-- ITS FALSE NEIGHBOUR: 'it returns false'. Refute it at one input. -/
def aigNoneWrong : ChangeSpec := { name := "aigNone", fn := fun _ => fun
  | [d1, d2, d3] => { results := [.lit (.bool false)], args := [d1, d2, d3] }
  | _ => none }
def AigNoneWrongFalsely : Prop := aigNoneRow.holds Try.pinned (OpenSpec.ofChange aigNoneWrong)

/-- 'latchetlaw07.AigPlays': WHATEVER THE INPUT: true; the input reads as it did. -/
def aigPlaysSpec : ChangeSpec := { name := "aigPlays", fn := fun _ => fun
  | [d] => { results := [.lit (.bool true)], args := [d] }
  | _ => none }
def aigPlaysRow : OpenClaim := { program := "ytnbmhibhnfmdeaa", sum := "218e4e3cbdcbd303385aa5be25848a12e606b22b1d45eb802a7fc8f96c4716b8", func := "latchet/latchetlaw07.AigPlays", spec := "aigPlays", inPlace := ["maps.clone"], unfollowed := true, recurses := true, plainKeys := false, apart := false }
def AigPlaysSaid : Prop := aigPlaysRow.holds Try.pinned (OpenSpec.ofChange aigPlaysSpec)

/-- ITS FALSE NEIGHBOUR: 'it returns false'. Refute it at one input. -/
def aigPlaysWrong : ChangeSpec := { name := "aigPlays", fn := fun _ => fun
  | [d] => { results := [.lit (.bool false)], args := [d] }
  | _ => none }
def AigPlaysWrongFalsely : Prop := aigPlaysRow.holds Try.pinned (OpenSpec.ofChange aigPlaysWrong)

/- THE SECOND FORM. 'bulk': how many values and letters a reading holds, each counted each time it is reached (what is shared counts as often as it is met; a slice's spare places count too). A statement '..UptoSaid' is the law's where the arguments, and the package variables that the reading takes, are together of bulk at most 1048576: NARROWER than '..Said'. Prove '..Said' where nothing that the law and all that it calls make is longer than what came in: it says more and counts as full. Else prove '..UptoSaid'. A law counts once. -/
mutual
def uptoBulk {H : Type} : DataW H → Nat
  | .lit (.string bytes) => bytes.length + 1
  | .lit _ => 1
  | .nil => 1
  | .ptr d => uptoBulk d + 1
  | .slice elems spare => uptoBulkAll elems + uptoBulkAll spare + 1
  | .agg parts => uptoBulkAll parts + 1
  | .iface _ d => uptoBulk d + 1
  | .map entries => uptoBulkEntries entries + 1
  | .held _ => 1
def uptoBulkAll {H : Type} : List (DataW H) → Nat
  | [] => 0
  | d :: r => uptoBulk d + uptoBulkAll r
def uptoBulkEntries {H : Type} : List (Lit × DataW H) → Nat
  | [] => 0
  | x :: r => uptoBulkEntry x + uptoBulkEntries r
def uptoBulkEntry {H : Type} : Lit × DataW H → Nat
  | (.string bytes, d) => bytes.length + uptoBulk d + 1
  | (_, d) => uptoBulk d + 1
 end
def uptoSmall : (H : Type) → List (DataW H) → Bool := fun _ ds => decide (uptoBulkAll ds ≤ 1048576)
def OpenSpec.upto (s : _root_.Go.ChangeSpec) : _root_.Go.OpenSpec := { _root_.Go.OpenSpec.ofChange s with cond := some uptoSmall }

/-- 'latchetlaw03.TriWords', WHERE WHAT IT READS IS OF BULK AT MOST 1048576: true; the input reads as it did. -/
def triWordsUptoRow : OpenClaim := { program := "ytnbmhibhnfmdeaa", sum := "218e4e3cbdcbd303385aa5be25848a12e606b22b1d45eb802a7fc8f96c4716b8", func := "latchet/latchetlaw03.TriWords", spec := "triWords", plainKeys := false, apart := false, narrowed := true }
def TriWordsUptoSaid : Prop := triWordsUptoRow.holds Try.pinned (OpenSpec.upto triWordsSpec)

/-- 'latchetlaw09.SimEvals', WHERE WHAT IT READS IS OF BULK AT MOST 1048576: true; the input reads as it did. -/
def simEvalsUptoRow : OpenClaim := { program := "ytnbmhibhnfmdeaa", sum := "218e4e3cbdcbd303385aa5be25848a12e606b22b1d45eb802a7fc8f96c4716b8", func := "latchet/latchetlaw09.SimEvals", spec := "simEvals", plainKeys := false, apart := false, narrowed := true }
def SimEvalsUptoSaid : Prop := simEvalsUptoRow.holds Try.pinned (OpenSpec.upto simEvalsSpec)

/-- 'latchetlaw08.ConeAbove', WHERE WHAT IT READS IS OF BULK AT MOST 1048576: true; the input reads as it did. -/
def coneAboveUptoRow : OpenClaim := { program := "ytnbmhibhnfmdeaa", sum := "218e4e3cbdcbd303385aa5be25848a12e606b22b1d45eb802a7fc8f96c4716b8", func := "latchet/latchetlaw08.ConeAbove", spec := "coneAbove", unfollowed := true, recurses := true, plainKeys := false, apart := false, narrowed := true }
def ConeAboveUptoSaid : Prop := coneAboveUptoRow.holds Try.pinned (OpenSpec.upto coneAboveSpec)

/-- 'latchetlaw08.ConeTells', WHERE WHAT IT READS IS OF BULK AT MOST 1048576: true; the input reads as it did. -/
def coneTellsUptoRow : OpenClaim := { program := "ytnbmhibhnfmdeaa", sum := "218e4e3cbdcbd303385aa5be25848a12e606b22b1d45eb802a7fc8f96c4716b8", func := "latchet/latchetlaw08.ConeTells", spec := "coneTells", unfollowed := true, recurses := true, plainKeys := false, apart := false, narrowed := true }
def ConeTellsUptoSaid : Prop := coneTellsUptoRow.holds Try.pinned (OpenSpec.upto coneTellsSpec)

/-- 'latchetlaw10.TernDrops', WHERE WHAT IT READS IS OF BULK AT MOST 1048576: true; the input reads as it did. -/
def ternDropsUptoRow : OpenClaim := { program := "ytnbmhibhnfmdeaa", sum := "218e4e3cbdcbd303385aa5be25848a12e606b22b1d45eb802a7fc8f96c4716b8", func := "latchet/latchetlaw10.TernDrops", spec := "ternDrops", unfollowed := true, recurses := true, plainKeys := false, apart := false, narrowed := true }
def TernDropsUptoSaid : Prop := ternDropsUptoRow.holds Try.pinned (OpenSpec.upto ternDropsSpec)

/-- 'latchetlaw07.AigNets', WHERE WHAT IT READS IS OF BULK AT MOST 1048576: true; the input reads as it did. -/
def aigNetsUptoRow : OpenClaim := { program := "ytnbmhibhnfmdeaa", sum := "218e4e3cbdcbd303385aa5be25848a12e606b22b1d45eb802a7fc8f96c4716b8", func := "latchet/latchetlaw07.AigNets", spec := "aigNets", unfollowed := true, recurses := true, plainKeys := false, apart := false, narrowed := true }
def AigNetsUptoSaid : Prop := aigNetsUptoRow.holds Try.pinned (OpenSpec.upto aigNetsSpec)

/-- 'latchetlaw23.FrontTells', WHERE WHAT IT READS IS OF BULK AT MOST 1048576: true; the input reads as it did. -/
def frontTellsUptoRow : OpenClaim := { program := "ytnbmhibhnfmdeaa", sum := "218e4e3cbdcbd303385aa5be25848a12e606b22b1d45eb802a7fc8f96c4716b8", func := "latchet/latchetlaw23.FrontTells", spec := "frontTells", unfollowed := true, recurses := true, plainKeys := false, apart := false, narrowed := true }
def FrontTellsUptoSaid : Prop := frontTellsUptoRow.holds Try.pinned (OpenSpec.upto frontTellsSpec)

/-- 'latchetlaw23.FrontLeads', WHERE WHAT IT READS IS OF BULK AT MOST 1048576: true; the input reads as it did. -/
def frontLeadsUptoRow : OpenClaim := { program := "ytnbmhibhnfmdeaa", sum := "218e4e3cbdcbd303385aa5be25848a12e606b22b1d45eb802a7fc8f96c4716b8", func := "latchet/latchetlaw23.FrontLeads", spec := "frontLeads", unfollowed := true, recurses := true, plainKeys := false, apart := false, narrowed := true }
def FrontLeadsUptoSaid : Prop := frontLeadsUptoRow.holds Try.pinned (OpenSpec.upto frontLeadsSpec)

/-- 'latchetlaw23.FrontFills', WHERE WHAT IT READS IS OF BULK AT MOST 1048576: true; the input reads as it did. -/
def frontFillsUptoRow : OpenClaim := { program := "ytnbmhibhnfmdeaa", sum := "218e4e3cbdcbd303385aa5be25848a12e606b22b1d45eb802a7fc8f96c4716b8", func := "latchet/latchetlaw23.FrontFills", spec := "frontFills", unfollowed := true, recurses := true, plainKeys := false, apart := false, narrowed := true }
def FrontFillsUptoSaid : Prop := frontFillsUptoRow.holds Try.pinned (OpenSpec.upto frontFillsSpec)

/-- 'latchetlaw30.SigTells', WHERE WHAT IT READS IS OF BULK AT MOST 1048576: true; the input reads as it did. -/
def sigTellsUptoRow : OpenClaim := { program := "ytnbmhibhnfmdeaa", sum := "218e4e3cbdcbd303385aa5be25848a12e606b22b1d45eb802a7fc8f96c4716b8", func := "latchet/latchetlaw30.SigTells", spec := "sigTells", plainKeys := false, apart := false, narrowed := true }
def SigTellsUptoSaid : Prop := sigTellsUptoRow.holds Try.pinned (OpenSpec.upto sigTellsSpec)

/-- 'latchetlaw45.FsimDetects', WHERE WHAT IT READS IS OF BULK AT MOST 1048576: true; the input reads as it did. -/
def fsimDetectsUptoRow : OpenClaim := { program := "ytnbmhibhnfmdeaa", sum := "218e4e3cbdcbd303385aa5be25848a12e606b22b1d45eb802a7fc8f96c4716b8", func := "latchet/latchetlaw45.FsimDetects", spec := "fsimDetects", unfollowed := true, recurses := true, plainKeys := false, apart := false, narrowed := true }
def FsimDetectsUptoSaid : Prop := fsimDetectsUptoRow.holds Try.pinned (OpenSpec.upto fsimDetectsSpec)

/-- 'latchetlaw21.TrailKeeps', WHERE WHAT IT READS IS OF BULK AT MOST 1048576: true; the input reads as it did. -/
def trailKeepsUptoRow : OpenClaim := { program := "ytnbmhibhnfmdeaa", sum := "218e4e3cbdcbd303385aa5be25848a12e606b22b1d45eb802a7fc8f96c4716b8", func := "latchet/latchetlaw21.TrailKeeps", spec := "trailKeeps", unfollowed := true, recurses := true, plainKeys := false, apart := false, narrowed := true }
def TrailKeepsUptoSaid : Prop := trailKeepsUptoRow.holds Try.pinned (OpenSpec.upto trailKeepsSpec)

/-- 'latchetlaw30.SigCompares', WHERE WHAT IT READS IS OF BULK AT MOST 1048576: true; the input reads as it did. -/
def sigComparesUptoRow : OpenClaim := { program := "ytnbmhibhnfmdeaa", sum := "218e4e3cbdcbd303385aa5be25848a12e606b22b1d45eb802a7fc8f96c4716b8", func := "latchet/latchetlaw30.SigCompares", spec := "sigCompares", plainKeys := false, apart := false, narrowed := true }
def SigComparesUptoSaid : Prop := sigComparesUptoRow.holds Try.pinned (OpenSpec.upto sigComparesSpec)

/-- 'latchetlaw07.AigMeans', WHERE WHAT IT READS IS OF BULK AT MOST 1048576: true; the input reads as it did. -/
def aigMeansUptoRow : OpenClaim := { program := "ytnbmhibhnfmdeaa", sum := "218e4e3cbdcbd303385aa5be25848a12e606b22b1d45eb802a7fc8f96c4716b8", func := "latchet/latchetlaw07.AigMeans", spec := "aigMeans", unfollowed := true, recurses := true, plainKeys := false, apart := false, narrowed := true }
def AigMeansUptoSaid : Prop := aigMeansUptoRow.holds Try.pinned (OpenSpec.upto aigMeansSpec)

/-- 'latchetlaw21.TrailPlays', WHERE WHAT IT READS IS OF BULK AT MOST 1048576: true; the input reads as it did. -/
def trailPlaysUptoRow : OpenClaim := { program := "ytnbmhibhnfmdeaa", sum := "218e4e3cbdcbd303385aa5be25848a12e606b22b1d45eb802a7fc8f96c4716b8", func := "latchet/latchetlaw21.TrailPlays", spec := "trailPlays", unfollowed := true, recurses := true, plainKeys := false, apart := false, narrowed := true }
def TrailPlaysUptoSaid : Prop := trailPlaysUptoRow.holds Try.pinned (OpenSpec.upto trailPlaysSpec)

/-- 'latchetlaw21.TrailNone', WHERE WHAT IT READS IS OF BULK AT MOST 1048576: true; the input reads as it did. -/
def trailNoneUptoRow : OpenClaim := { program := "ytnbmhibhnfmdeaa", sum := "218e4e3cbdcbd303385aa5be25848a12e606b22b1d45eb802a7fc8f96c4716b8", func := "latchet/latchetlaw21.TrailNone", spec := "trailNone", unfollowed := true, recurses := true, plainKeys := false, apart := false, narrowed := true }
def TrailNoneUptoSaid : Prop := trailNoneUptoRow.holds Try.pinned (OpenSpec.upto trailNoneSpec)

/-- 'latchetlaw10.TernEvals', WHERE WHAT IT READS IS OF BULK AT MOST 1048576: true; the input reads as it did. -/
def ternEvalsUptoRow : OpenClaim := { program := "ytnbmhibhnfmdeaa", sum := "218e4e3cbdcbd303385aa5be25848a12e606b22b1d45eb802a7fc8f96c4716b8", func := "latchet/latchetlaw10.TernEvals", spec := "ternEvals", unfollowed := true, recurses := true, plainKeys := false, apart := false, narrowed := true }
def TernEvalsUptoSaid : Prop := ternEvalsUptoRow.holds Try.pinned (OpenSpec.upto ternEvalsSpec)

/-- 'latchetlaw07.AigTidy', WHERE WHAT IT READS IS OF BULK AT MOST 1048576: true; the input reads as it did. -/
def aigTidyUptoRow : OpenClaim := { program := "ytnbmhibhnfmdeaa", sum := "218e4e3cbdcbd303385aa5be25848a12e606b22b1d45eb802a7fc8f96c4716b8", func := "latchet/latchetlaw07.AigTidy", spec := "aigTidy", unfollowed := true, recurses := true, plainKeys := false, apart := false, narrowed := true }
def AigTidyUptoSaid : Prop := aigTidyUptoRow.holds Try.pinned (OpenSpec.upto aigTidySpec)

/-- 'latchetlaw07.AigNone', WHERE WHAT IT READS IS OF BULK AT MOST 1048576: true; the input reads as it did. -/
def aigNoneUptoRow : OpenClaim := { program := "ytnbmhibhnfmdeaa", sum := "218e4e3cbdcbd303385aa5be25848a12e606b22b1d45eb802a7fc8f96c4716b8", func := "latchet/latchetlaw07.AigNone", spec := "aigNone", inPlace := ["maps.clone"], unfollowed := true, recurses := true, plainKeys := false, apart := false, narrowed := true }
def AigNoneUptoSaid : Prop := aigNoneUptoRow.holds Try.pinned (OpenSpec.upto aigNoneSpec)

/-- 'latchetlaw07.AigPlays', WHERE WHAT IT READS IS OF BULK AT MOST 1048576: true; the input reads as it did. -/
def aigPlaysUptoRow : OpenClaim := { program := "ytnbmhibhnfmdeaa", sum := "218e4e3cbdcbd303385aa5be25848a12e606b22b1d45eb802a7fc8f96c4716b8", func := "latchet/latchetlaw07.AigPlays", spec := "aigPlays", inPlace := ["maps.clone"], unfollowed := true, recurses := true, plainKeys := false, apart := false, narrowed := true }
def AigPlaysUptoSaid : Prop := aigPlaysUptoRow.holds Try.pinned (OpenSpec.upto aigPlaysSpec)

end Rows
end Go.Proofs.Ytnbmhibhnfmdeaa
