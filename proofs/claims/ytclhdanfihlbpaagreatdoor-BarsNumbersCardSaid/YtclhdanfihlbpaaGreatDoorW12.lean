/- Part 12 of the proof: models of the functions, and laws on them. -/
import Derived.Test.YtclhdanfihlbpaaGreatDoorW11
set_option linter.unusedVariables false
set_option linter.unusedSimpArgs false
set_option linter.unusedSectionVars false
section
namespace Go.Proofs.Tryz
open Go Go.Am
set_option maxRecDepth 1000000
def TStr : List (List AV × AV) := [(tX, tXr), (tY, tYr), (tE, tNo), (tW, tNo)]
def TInt : List (List AV × AV) := [([.int .i64 0], .agg (tR false [] [1])), ([.int .i64 1], .agg (tR false [1] [1])), ([.int .i64 (-3)], .agg (tR true [3] [1])), ([.int .i64 25], .agg (tR false [25] [1])), ([.int .i64 (-1)], .agg (tR true [1] [1]))]
theorem TStrOk : ∀ p ∈ TStr, chkRun Pr GZ1 3000 20 12 p.1 p.2 = true := by
  intro p hp
  simp only [TStr, List.mem_cons, List.not_mem_nil, or_false] at hp
  rcases hp with rfl | rfl | rfl | rfl
  · exact runX
  · exact runY
  · exact runE
  · exact runW
theorem TIntOk : ∀ p ∈ TInt, chkRun Pr GZ0 3000 20 11 p.1 p.2 = true := by
  intro p hp
  simp only [TInt, List.mem_cons, List.not_mem_nil, or_false] at hp
  rcases hp with rfl | rfl | rfl | rfl | rfl
  · exact runI0
  · exact runI1
  · exact runI2
  · exact runI3
  · exact runI4
noncomputable def GZ2 : Gam := (12, smM [RS.one (LK.l 3), RS.one (LK.i .i64)] (tabM TStr)) :: (11, smM [RS.agg [LK.b, LK.l 1, LK.l 1]] (tabM TInt)) :: (14, smM [RS.one .b] (ansB true)) :: GZ0
theorem GZ2ok : GamOk Pr GZ2 := .cons (smT GZ1ok namesA TStrOk) rfl (.cons (smT GZ0ok namesA TIntOk) rfl (.cons (smZ GZ0ok namesA runA) rfl GZ0ok))
end Go.Proofs.Tryz
end
