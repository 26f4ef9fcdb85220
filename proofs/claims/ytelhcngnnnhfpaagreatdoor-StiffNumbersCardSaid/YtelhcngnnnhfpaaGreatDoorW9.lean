/- Part 9 of the proof: models of the functions, and laws on them. -/
import Derived.Test.YtelhcngnnnhfpaaGreatDoorW8
set_option linter.unusedVariables false
set_option linter.unusedSimpArgs false
set_option linter.unusedSectionVars false
section
namespace Go.Proofs.Tryz
open Go Go.Am
set_option maxRecDepth 1000000
theorem runNB : chkRun Pr GZ1 3000 20 6 [zp00] znB = true := by kernel_rfl
end Go.Proofs.Tryz
end
