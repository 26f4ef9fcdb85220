/- Part 8 of the proof: models of the functions, and laws on them. -/
import Derived.Test.YtelhcngnnnhfpaaGreatDoorW7
set_option linter.unusedVariables false
set_option linter.unusedSimpArgs false
set_option linter.unusedSectionVars false
section
namespace Go.Proofs.Tryz
open Go Go.Am
set_option maxRecDepth 1000000
theorem runNA : chkRun Pr GZ1 3000 20 6 [zp33] znA = true := by kernel_rfl
theorem runNC : chkRun Pr GZ1 3000 20 6 [zp30] znC = true := by kernel_rfl
end Go.Proofs.Tryz
end
