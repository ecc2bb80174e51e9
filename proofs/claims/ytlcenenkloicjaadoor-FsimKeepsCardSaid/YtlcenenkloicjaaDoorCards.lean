/-
  DERIVED. GIVEN WITH THE SEED: THE CARDS: each row of YtlcenenkloicjaaDoorRows.lean that lists a variable, with what it lists TIED to the program's text (the seventh form; the later family's looks); each row that meets fmt, with fmt's text TOLD by the authors' own Lean function (tested against real Go, not proved from fmt's source: count such statements apart). THE CARD IS WHAT COUNTS. Prove the row's statement (the work); the ties are given (YtlcenenkloicjaaDoorTie.lean); close each card by the builder's one call (the guide's Derived/Test/ToyasCard.lean, 'card_holds'). Laid BY PROGRAM, IN A SANDBOX (cutbox-door.mjs). By AI agents, Wed Nov 11 2026. No macro, syntax, notation, axiom, sorry.
-/
import Derived.Test.YtlcenenkloicjaaDoorRows
import GoSem.ClaimSeven
namespace Go.Proofs.YtlcenenkloicjaaDoor
namespace Rows

/-- THE TIED CARD OF 'latchetlaw03.TriTexts'. -/
def triTextsCard : Claim7 := { stood := { row := triTextsRow, standIns := [], harness := (true, "48c0deb9cac288eb0dd9f0fad882ac34a9a6e4b33cd5699ebdd31122410cfa4c"), looks := false }, kinds := [], alts := [], laidByText := true, laidKinds := [.data], laidTests := true, laidLooks := .later }
def TriTextsCardSaid : Prop := Claim7.holds Tryd.pinned (.plain (OpenSpec.ofChange triTextsSpec)) triTextsCard

/-- THE TIED CARD OF 'latchetlaw45.FsimFirst'. -/
def fsimFirstCard : Claim7 := { stood := { row := fsimFirstRow, standIns := [], harness := (true, "48c0deb9cac288eb0dd9f0fad882ac34a9a6e4b33cd5699ebdd31122410cfa4c"), looks := false }, kinds := [], alts := [], laidByText := true, laidKinds := [.data], laidTests := true, laidLooks := .later }
def FsimFirstCardSaid : Prop := Claim7.holds Tryd.pinned (.plain (OpenSpec.ofChange fsimFirstSpec)) fsimFirstCard

/-- THE TIED CARD OF 'latchetlaw45.FsimKeeps'. -/
def fsimKeepsCard : Claim7 := { stood := { row := fsimKeepsRow, standIns := [], harness := (true, "48c0deb9cac288eb0dd9f0fad882ac34a9a6e4b33cd5699ebdd31122410cfa4c"), looks := false }, kinds := [], alts := [], laidByText := true, laidKinds := [.data], laidTests := true, laidLooks := .later }
def FsimKeepsCardSaid : Prop := Claim7.holds Tryd.pinned (.plain (OpenSpec.ofChange fsimKeepsSpec)) fsimKeepsCard

/-- THE SECOND FORM's CARD OF 'latchetlaw03.TriTexts'. -/
def triTextsUptoCard : Claim7 := { stood := { row := triTextsUptoRow, standIns := [], harness := (true, "48c0deb9cac288eb0dd9f0fad882ac34a9a6e4b33cd5699ebdd31122410cfa4c"), looks := false }, kinds := [], alts := [], laidByText := true, laidKinds := [.data], laidTests := true, laidLooks := .later }
def TriTextsUptoCardSaid : Prop := Claim7.holds Tryd.pinned (.plain (OpenSpec.upto triTextsSpec)) triTextsUptoCard

/-- THE SECOND FORM's CARD OF 'latchetlaw45.FsimFirst'. -/
def fsimFirstUptoCard : Claim7 := { stood := { row := fsimFirstUptoRow, standIns := [], harness := (true, "48c0deb9cac288eb0dd9f0fad882ac34a9a6e4b33cd5699ebdd31122410cfa4c"), looks := false }, kinds := [], alts := [], laidByText := true, laidKinds := [.data], laidTests := true, laidLooks := .later }
def FsimFirstUptoCardSaid : Prop := Claim7.holds Tryd.pinned (.plain (OpenSpec.upto fsimFirstSpec)) fsimFirstUptoCard

/-- THE SECOND FORM's CARD OF 'latchetlaw45.FsimKeeps'. -/
def fsimKeepsUptoCard : Claim7 := { stood := { row := fsimKeepsUptoRow, standIns := [], harness := (true, "48c0deb9cac288eb0dd9f0fad882ac34a9a6e4b33cd5699ebdd31122410cfa4c"), looks := false }, kinds := [], alts := [], laidByText := true, laidKinds := [.data], laidTests := true, laidLooks := .later }
def FsimKeepsUptoCardSaid : Prop := Claim7.holds Tryd.pinned (.plain (OpenSpec.upto fsimKeepsSpec)) fsimKeepsUptoCard
end Rows
end Go.Proofs.YtlcenenkloicjaaDoor
