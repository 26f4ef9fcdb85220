/- Part 13 of the proof: models of the functions, and laws on them. -/
import Derived.Test.YtelhcngnnnhfpaaGreatDoorW12
set_option linter.unusedVariables false
set_option linter.unusedSimpArgs false
set_option linter.unusedSectionVars false
section
namespace Go.Proofs.Tryz
open Go Go.Am
set_option maxRecDepth 1000000
def TNear : List (List AV × AV) := [([zp33], znA), ([zp00], znB), ([zp30], znC)]
def TSure : List (List AV × AV) := [([zp30], zsC)]
def TExact : List (List AV × AV) := [([zp30, zd1], zxC), ([zp30, zd2], zx2), ([zp30, zd0], zx4), ([zp30, zdh], zx2)]
def X1 : XS := { pat := [none], nb := [], out := [.one, .one] }
def X2 : XS := { pat := [none, none], nb := [], out := [.one, .one] }
theorem nearOk : XOk Pr 6 (smXT TNear X1) X1 := by
  refine xT (fuel := 3000) (depth := 20) GZ1ok namesA rfl (fun p hp => ?_) (fun p hp => ?_)
  all_goals
    simp only [TNear, List.mem_cons, List.not_mem_nil, or_false] at hp
    rcases hp with rfl | rfl | rfl
  · exact runNA
  · exact runNB
  · exact runNC
  all_goals exact ⟨rfl, rfl⟩
theorem sureOk : XOk Pr 10 (smXT TSure X1) X1 := by
  refine xT (fuel := 3000) (depth := 20) GZ1ok namesA rfl (fun p hp => ?_) (fun p hp => ?_)
  all_goals
    simp only [TSure, List.mem_cons, List.not_mem_nil, or_false] at hp
    subst hp
  · exact runSC
  · exact ⟨rfl, rfl⟩
theorem exactOk : XOk Pr 8 (smXT TExact X2) X2 := by
  refine xT (fuel := 3000) (depth := 20) GZ1ok namesA rfl (fun p hp => ?_) (fun p hp => ?_)
  all_goals
    simp only [TExact, List.mem_cons, List.not_mem_nil, or_false] at hp
    rcases hp with rfl | rfl | rfl | rfl
  · exact runXC
  · exact runX2
  · exact runX4
  · exact runXh
  all_goals exact ⟨rfl, rfl⟩
noncomputable def GZ2 : Gam := (6, smXT TNear X1) :: (10, smXT TSure X1) :: (8, smXT TExact X2) :: GZ0
theorem GZ2ok : GamOk Pr GZ2 := .consX rfl nearOk (.consX rfl sureOk (.consX rfl exactOk GZ0ok))
end Go.Proofs.Tryz
end
