/- Facts of the whole program that each row asks for. No conditions. -/
import Derived.Test.YtfkdlepemiepdaaRows
import Derived.Lib.SmallJoins
import Derived.KernelRfl
namespace Go.Proofs.Ytfkdlepemiepdaa
open Go Go.ChangeShapes Go.WideShapes Go.ChangeAt Go.RowKit
set_option linter.unusedVariables false
set_option linter.unusedSimpArgs false
theorem band {a b : Bool} (h : a = true) (k : b = true) : (a && b) = true := by rw [h, k]; rfl
theorem factLaid : (laidOutB Try.prog) = true := by kernel_rfl
theorem factMaps : (mapsRowed Try.prog) = true := by kernel_rfl
theorem factStops : ((Try.prog.stops == [])) = true := by kernel_rfl
theorem factKnobs : ((Try.prog.stopKnobs == [])) = true := by kernel_rfl
theorem factKeys : ((Rows.frontTellsRow.plainKeys == Try.prog.plainKeys)) = true := by kernel_rfl
theorem factHeard : (Try.prog.stopsHeard) = true := by kernel_rfl
theorem factEnter : (Try.prog.mayEnter) = true := by kernel_rfl
theorem factLifts : ((Rows.frontTellsRow.lifted == Try.prog.liftsFinal)) = true := by kernel_rfl
theorem factMake : ((Try.prog.make == some Rows.frontTellsRow.make)) = true := by kernel_rfl
end Go.Proofs.Ytfkdlepemiepdaa
