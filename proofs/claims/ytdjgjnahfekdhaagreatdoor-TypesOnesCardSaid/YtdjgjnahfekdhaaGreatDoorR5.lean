/- Closed facts of the card. Conditions: none beyond the hypotheses of each theorem. -/
import Derived.Test.YtdjgjnahfekdhaaGreatDoorR1
set_option linter.unusedSectionVars false
set_option linter.unusedVariables false
set_option linter.unusedSimpArgs false
namespace Go.Proofs.YtdjgjnahfekdhaaGreatDoor.typesOnes
open Go.ChangeShapes Go.WideShapes Go.ChangeAt Go.RowKit Go.Joins
set_option maxRecDepth 100000
theorem wf7 : Rows.typesOnesRow.wfByText (OpenSpec.ofChange Rows.typesOnesSpec) = true := by kernel_rfl
theorem main7 : Tryz.pinned.checked.prog.mainIs = some (true, "4eab83aaf2d0ca1a5989b1e42fa88737c379655a955bfcfa7b25187439ffc77d".toList) := by kernel_rfl
theorem goes7 : false = Rows.typesOnesRow.goesBy Tryz.pinned.checked.prog := by kernel_rfl
end Go.Proofs.YtdjgjnahfekdhaaGreatDoor.typesOnes
