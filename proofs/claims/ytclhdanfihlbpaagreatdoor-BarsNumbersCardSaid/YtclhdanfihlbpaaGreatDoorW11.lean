/- Part 11 of the proof: models of the functions, and laws on them. -/
import Derived.Test.YtclhdanfihlbpaaGreatDoorW10
set_option linter.unusedVariables false
set_option linter.unusedSimpArgs false
set_option linter.unusedSectionVars false
section
namespace Go.Proofs.Tryz
open Go Go.Am
set_option maxRecDepth 1000000
theorem runI0 : chkRun Pr GZ0 3000 20 11 [.int .i64 0] (.agg (tR false [] [1])) = true := by kernel_rfl
theorem runI1 : chkRun Pr GZ0 3000 20 11 [.int .i64 1] (.agg (tR false [1] [1])) = true := by kernel_rfl
theorem runI2 : chkRun Pr GZ0 3000 20 11 [.int .i64 (-3)] (.agg (tR true [3] [1])) = true := by kernel_rfl
theorem runI3 : chkRun Pr GZ0 3000 20 11 [.int .i64 25] (.agg (tR false [25] [1])) = true := by kernel_rfl
theorem runI4 : chkRun Pr GZ0 3000 20 11 [.int .i64 (-1)] (.agg (tR true [1] [1])) = true := by kernel_rfl
theorem runA : runZ Pr GZ0 3000 20 14 = some (.bool true) := by kernel_rfl
end Go.Proofs.Tryz
end
