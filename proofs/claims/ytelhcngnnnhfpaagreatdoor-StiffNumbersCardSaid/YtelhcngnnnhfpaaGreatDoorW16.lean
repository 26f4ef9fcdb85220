/- Part 16 of the proof: models of the functions, and laws on them. -/
import Derived.Test.YtelhcngnnnhfpaaGreatDoorW15
import Derived.Test.YtelhcngnnnhfpaaGreatDoorRows
import Derived.MakeChecks
set_option linter.unusedVariables false
set_option linter.unusedSimpArgs false
set_option linter.unusedSectionVars false
section
namespace Go.Proofs.Tryz
open Go Go.Am
set_option maxRecDepth 100000
theorem laidT : laidOutB prog = true := by kernel_rfl
theorem sizeT : prog.types.size = 291 := by kernel_rfl
theorem posT : ∀ t e, t < prog.types.size → prog.underlying t = some (.slice e) → 0 < prog.cellsOf e := by
  have h : ((List.range 291).all fun t => match prog.underlying t with | some (.slice e) => decide (0 < prog.cellsOf e) | _ => true) = true := by kernel_rfl
  intro t e ht hu
  rw [sizeT] at ht
  have := List.all_eq_true.1 h t (by simpa using ht)
  rw [hu] at this
  simpa using this

end Go.Proofs.Tryz
namespace Go.Proofs.YtelhcngnnnhfpaaGreatDoor
open Go Go.Am Go.ChangeShapes Go.WideShapes Go.RowKit
set_option maxRecDepth 100000
/-- The listed variable, as the executor knows it. -/
theorem glob_laid {W : World} (h : laidMetH Tryz.prog [("math/bits.deBruijn64tab", Rows.laid_math_bits_deBruijn64tab)] W) : Glob W (fun b => b < W.heap.size) := by
  rw [Go.MakeChecks.laidMetH_plain _ _ _ (by kernel_rfl)] at h
  obtain ⟨ps, hv, -, -⟩ := h
  obtain ⟨g, t, cs, fuel, p, q, hg, ht, hvar, htrod, -, -⟩ := hv
  have hg1 : Tryz.prog.globalNamed "math/bits.deBruijn64tab" = some 1 := by kernel_rfl
  obtain rfl : g = 1 := Option.some.inj (hg.symm.trans hg1)
  obtain rfl : t = 257 := Option.some.inj (ht.symm.trans (by kernel_rfl))
  have hu : Tryz.prog.underlying 257 = some (.array 64 5) := by kernel_rfl
  have hu5 : Tryz.prog.underlying 5 = some (.int .u8) := by kernel_rfl
  have hcs : ∃ ty f, W.heap[1]? = some (.cells cs ty f) := by
    unfold World.var? at hvar
    rw [hg1] at hvar
    simp only [Option.bind_some] at hvar
    split at hvar
    · rename_i c ty f h1
      cases hvar
      exact ⟨ty, f, h1⟩
    · cases hvar
  obtain ⟨ty, f, hcs⟩ := hcs
  have hRL : RLs W (fun b => b < W.heap.size) cs.toList (Tryz.tab0.map fun n => AV.int .u8 n) := by
    rcases fuel with _ | _ | n
    · simp [DataW.trod] at htrod
    · rw [DataW.trod_step] at htrod
      unfold DataW.trodStep at htrod
      rw [hu] at htrod
      simp only at htrod
      split at htrod
      · cases htrod
      · cases htrod
    · have h1 := trod_rd Tryz.laidT (fun t e ht hu => Tryz.posT t e ht hu) (fun _ h => h) (n + 2) 257 cs.toList _ (by rw [Tryz.sizeT]; decide) htrod
      have e : avL Tryz.prog (n + 2) 257 (Rows.laid_math_bits_deBruijn64tab : DataW Unit) = Tryz.tab0.map fun n => AV.int .u8 n := by
        unfold Rows.laid_math_bits_deBruijn64tab
        simp only [avL, hu, hu5, List.flatMap_cons, List.flatMap_nil]
        rfl
      rw [← e]
      exact h1
  intro g
  by_cases hg : g = 1
  · subst hg
    have hlt : 1 < W.heap.size := by
      rcases Nat.lt_or_ge 1 W.heap.size with h' | h'
      · exact h'
      · rw [Array.getElem?_eq_none h'] at hcs; cases hcs
    show Rd W _ none _ (.rp 64 fun j => AV.int .u8 (Tryz.tab0.getD j 0))
    have hlen : cs.toList.length = 64 := by rw [hRL.1]; rfl
    refine .rp _ _ _ ⟨1, 0, none⟩ (fun j => cs.getD j undef) hlt (fun j hj => ?_) (fun j hj => ?_)
    · have hj' : j < cs.size := by simpa using (show j < cs.toList.length by omega)
      rw [add_cell]
      simp [World.cell?, hcs, hj']
    · have hj' : j < cs.size := by simpa using (show j < cs.toList.length by omega)
      have hj2 : j < Tryz.tab0.length := hj
      have := hRL.2 j cs[j] (AV.int .u8 (Tryz.tab0.getD j 0)) (by simp [hj']) (by rw [List.getElem?_map, List.getElem?_eq_getElem hj2]; simp [List.getD, hj2])
      have e : cs.getD j undef = cs[j] := by simp [hj']
      rw [e]
      exact this.1
  · have : glook (default : GlobT).gl g = .dead := by
      show (bif 1 == g then AV.rp 64 _ else .dead) = .dead
      have : (1 == g) = false := by simpa using fun h : 1 = g => hg h.symm
      rw [this]; rfl
    rw [this]
    exact .dead _ _

end Go.Proofs.YtelhcngnnnhfpaaGreatDoor
end
