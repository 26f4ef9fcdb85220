/- Part 11 of the proof: models of the functions, and laws on them. -/
import Derived.Test.YtelhcngnnnhfpaaGreatDoorW10
set_option linter.unusedVariables false
set_option linter.unusedSimpArgs false
set_option linter.unusedSectionVars false
section
namespace Go.Proofs.Tryz
open Go Go.Am
set_option maxRecDepth 1000000
theorem runXC : chkRun Pr GZ1 3000 20 8 [zp30, zd1] zxC = true := by kernel_rfl
end Go.Proofs.Tryz
end
