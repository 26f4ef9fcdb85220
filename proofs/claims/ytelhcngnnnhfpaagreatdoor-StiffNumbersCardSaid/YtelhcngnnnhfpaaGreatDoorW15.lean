/- Part 15 of the proof: models of the functions, and laws on them. -/
import Derived.Test.YtelhcngnnnhfpaaGreatDoorW14
set_option linter.unusedVariables false
set_option linter.unusedSimpArgs false
set_option linter.unusedSectionVars false
section
namespace Go.Proofs.Tryz
open Go Go.Am
set_option maxRecDepth 100000
theorem calls3 (w : World) (hG : Glob w (fun b => b < w.heap.size)) : Calls prog 3 #[] w fun e w' => e = .returned (.bool true) ∧ Ev w.heap.size (fun _ => False) w w' := by
  have hrun := (smZ (rs := [RS.one .b]) GZ2ok namesA runAll).run [] #[] w (fun b => b < w.heap.size) rfl (fun j u a hu ha => by simp at hu) (fun _ h => h) hG rfl
  have hf : prog.funcs[3]? = some f3 := by kernel_rfl
  have hb : f3.body.isSome = true := by kernel_rfl
  obtain ⟨c, hc⟩ := Option.isSome_iff_exists.1 hb
  have hnm : ¬ f3.name = "runtime.NumGoroutine" := by simpa using namesA 3 f3 hf hb
  have hcall : (callFunc 3 #[]).run prog w = .ok (.enter 3 #[]) w := by simp [callFunc, hf, hc, hnm]
  unfold CallOk at hrun
  rw [hcall] at hrun
  refine hrun.mono fun e w' ⟨v', he, S', h1, _, _, _, h5⟩ => ?_
  have hval : (smM [RS.one .b] (ansB true)).val [] = .bool true := rfl
  rw [hval] at h1
  obtain rfl := rd_bool h1
  exact ⟨he, h5⟩
end Go.Proofs.Tryz
end
