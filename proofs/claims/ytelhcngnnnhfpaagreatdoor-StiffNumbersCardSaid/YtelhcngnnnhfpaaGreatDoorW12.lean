/- Part 12 of the proof: models of the functions, and laws on them. -/
import Derived.Test.YtelhcngnnnhfpaaGreatDoorW11
set_option linter.unusedVariables false
set_option linter.unusedSimpArgs false
set_option linter.unusedSectionVars false
section
namespace Go.Proofs.Tryz
open Go Go.Am
set_option maxRecDepth 1000000
theorem runX2 : chkRun Pr GZ1 3000 20 8 [zp30, zd2] zx2 = true := by kernel_rfl
theorem runX4 : chkRun Pr GZ1 3000 20 8 [zp30, zd0] zx4 = true := by kernel_rfl
theorem runXh : chkRun Pr GZ1 3000 20 8 [zp30, zdh] zx2 = true := by kernel_rfl
end Go.Proofs.Tryz
end
