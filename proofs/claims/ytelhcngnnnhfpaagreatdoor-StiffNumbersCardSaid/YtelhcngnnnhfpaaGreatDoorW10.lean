/- Part 10 of the proof: models of the functions, and laws on them. -/
import Derived.Test.YtelhcngnnnhfpaaGreatDoorW9
set_option linter.unusedVariables false
set_option linter.unusedSimpArgs false
set_option linter.unusedSectionVars false
section
namespace Go.Proofs.Tryz
open Go Go.Am
set_option maxRecDepth 1000000
theorem runSC : chkRun Pr GZ1 3000 20 10 [zp30] zsC = true := by kernel_rfl
end Go.Proofs.Tryz
end
