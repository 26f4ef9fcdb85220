/- Proved: whatever the sketch and the three numbers, girderlaw19.BarsTurned returns true without a panic, and what it is handed reads afterwards as it read before. Conditions: those of the given card alone: the listed package-level variable (math/bits.deBruijn64tab) starts as the program's text lays it, which the card ties; each row of the sketch is within the form's reach. -/
import Derived.Test.YtikdidijaphjmaaGreatDoorCards
import Derived.Test.YtikdidijaphjmaaGreatDoorTie
import Derived.LaidMore
import Derived.Carry
import Derived.Test.YtikdidijaphjmaaGreatDoorW6
import Derived.Test.YtikdidijaphjmaaGreatDoorTie
namespace Go.Proofs.YtikdidijaphjmaaGreatDoor
open Go Go.Am Go.ChangeShapes Go.WideShapes Go.RowKit
set_option maxRecDepth 100000

theorem own : ownKnob Tryz.prog.godebug = none := by kernel_rfl

/-- What the call gives, whatever the arguments. -/
theorem contract (H : Type) (enc : TypeId × Value → H) (W : World) (base : Nat) (args : Array Value) (ds gs : List (DataW H)) (before : List MemPlace)
    (hval : ∀ (j : Nat) t v, Tryz.f4.params[j]? = some t → args[j]? = some v → Value.okWide Tryz.prog W .any base t v)
    (hW : DataW.Whole enc Tryz.prog Tryz.f4.params.toList Rows.barsTurnedSpec.vars false W args.toList ds gs before)
    (hsz : (DataW.weightsEach Tryz.prog (Tryz.f4.params.toList ++ Rows.barsTurnedSpec.plain.varTypes Tryz.prog) (ds ++ gs)).all (· ≤ reachBytes) = true) :
    Calls Tryz.prog 4 args W fun e W' => ∃ v, e = .returned v ∧ Rows.barsTurnedSpec.post enc Tryz.prog Tryz.f4 false true false false W args v W' := by
  have hW' := hW
  obtain ⟨p, q, hA0, hV, rfl, hfz, hnd⟩ := hW
  have hA : DataW.TrodAll enc Tryz.prog W 0 (fun _ => true) true Tryz.f4.params.toList args.toList ds p := hA0
  rw [Tryz.params4] at hA hval
  have hA2 := hA
  obtain ⟨v0, v1, v2, v3, d0, d1, d2, d3, p0, p1, p2, p3, rfl, rfl, rfl, -, -, -, -⟩ := trodAll_four hA2
  obtain ⟨rfl, rfl⟩ := trodVars_none hV
  obtain ⟨cs, rfl, _⟩ := okWide_struct Tryz.underlying25 (hval 0 25 v0 rfl rfl)
  obtain ⟨m1, rfl⟩ := okWide_int Tryz.underlying3 (hval 1 3 v1 rfl rfl)
  obtain ⟨m2, rfl⟩ := okWide_int Tryz.underlying3 (hval 2 3 v2 rfl rfl)
  obtain ⟨m3, rfl⟩ := okWide_int Tryz.underlying3 (hval 3 3 v3 rfl rfl)
  have hvt : Rows.barsTurnedSpec.plain.varTypes Tryz.prog = [] := rfl
  rw [hvt, List.append_nil, List.append_nil, Tryz.params4] at hsz
  have hall := all_read Tryz.laidT Tryz.posT (S := fun b => b < W.heap.size) (fun _ h => h) [25, 3, 3, 3] _ _ _ (fun t ht => by
    have : t = 25 ∨ t = 3 := by simpa using ht
    rcases this with rfl | rfl <;> rw [Tryz.sizeT] <;> decide) hA hsz
  obtain ⟨n0, s0, r0⟩ := hall 0 25 (.agg cs) d0 rfl rfl rfl
  obtain ⟨n1, s1, r1⟩ := hall 1 3 _ d1 rfl rfl rfl
  obtain ⟨n2, s2, r2⟩ := hall 2 3 _ d2 rfl rfl rfl
  obtain ⟨n3, s3, r3⟩ := hall 3 3 _ d3 rfl rfl rfl
  obtain ⟨N, k1, g1, k2, g2, k3, g3, k4, g4, e0, o1, o2, o3, o4⟩ := Tryz.sh_sketch s0
  obtain ⟨i1, e1⟩ := Tryz.sh_int Tryz.underlying3 s1
  obtain ⟨i2, e2⟩ := Tryz.sh_int Tryz.underlying3 s2
  obtain ⟨i3, e3⟩ := Tryz.sh_int Tryz.underlying3 s3
  rw [e0] at r0
  rw [e1] at r1
  rw [e2] at r2
  rw [e3] at r3
  refine (Tryz.calls4 o1 o2 o3 o4 W (fun b => b < W.heap.size) (fun _ h => h) (.agg cs) _ _ _ r0.agg (r1.2 0 _ _ rfl rfl).1 (r2.2 0 _ _ rfl rfl).1 (r3.2 0 _ _ rfl rfl).1).mono fun e W' ⟨he, hev⟩ => ?_
  subst he
  exact ⟨_, rfl, true_post Tryz.laidT (by kernel_rfl) (tb := 4) (by kernel_rfl) Tryz.underlying4 rfl hW' ⟨rfl, rfl, rfl⟩ hev⟩

noncomputable def arg0 : Value := .agg #[.int .i64 0, .slice none 0 0, .slice none 0 0, .slice none 0 0, .slice none 0 0]
noncomputable def args0 : Array Value := #[arg0, .int .i64 0, .int .i64 0, .int .i64 0]
theorem met (os : Os) : laidMetH Tryz.prog Rows.barsTurnedRow.laid ((World.doorLaid Tryz.prog 400 os).forCall (fun _ _ => 0) ⟨#[], args0, []⟩).memory :=
  laidMetH_of_parts3 (fuel := 8) (laidMet_of_run' 8 (by kernel_rfl) (by kernel_rfl)) (by kernel_rfl) (by kernel_rfl)
theorem reads (os : Os) {H : Type} (enc : TypeId × Value → H) : ∃ places, DataW.whole enc Tryz.prog ((World.doorLaid Tryz.prog 400 os).forCall (fun _ _ => 0) ⟨#[], args0, []⟩).memory Tryz.f4.params.toList Rows.barsTurnedSpec.vars false args0.toList 8 = some ([.agg [.lit (.int .i64 0), .nil, .nil, .nil, .nil], .lit (.int .i64 0), .lit (.int .i64 0), .lit (.int .i64 0)], [], places) :=
  ⟨[], by kernel_rfl⟩
theorem lifted (os : Os) (started : os.Started) (H : Type) (enc : TypeId × Value → H) (F : Stop.Interp) :
    ReturnsInHanded {} Tryz.checked os 4 .any ((OpenSpec.ofChange Rows.barsTurnedSpec).preRow enc Tryz.prog Tryz.f4 Rows.barsTurnedRow.domain false Rows.barsTurnedRow.laid) (((OpenSpec.ofChange Rows.barsTurnedSpec).at F).post enc Tryz.prog Tryz.f4 false true false false) := by
  obtain ⟨places, hx⟩ := reads os enc
  refine returnsInHanded_of_row (C := Tryz.checked) (s := OpenSpec.ofChange Rows.barsTurnedSpec) own started (by kernel_rfl) Tryz.func4
    (witness_row_at (enc := enc) (C := Tryz.checked) false (World.doorLaid Tryz.prog 400 os) args0 rfl (by kernel_rfl) (by kernel_rfl) (by kernel_rfl)
      (OpenSpec.preRow_of_cond 8 hx (by kernel_rfl) (fun k hk => by cases hk) (by kernel_rfl) (met os))) ?_
  intro W base args ds gs before hval hW _ _ hsz _ _ _
  exact contract H enc W base args ds gs before hval hW hsz

theorem said : Rows.BarsTurnedSaid :=
  OpenClaim.holds_of_cond 4 Tryz.f4 rfl rfl rfl rfl rfl rfl rfl ⟨rfl, rfl, rfl, rfl, rfl⟩ rfl rfl rfl rfl rfl (by kernel_rfl) Tryz.func4 (by kernel_rfl)
    (of_decide_eq_true (by kernel_rfl)) (by unfold Func.isWrapper; first | (rw [if_pos (by decide +kernel)]; kernel_rfl) | (rw [if_neg (by decide +kernel)]; exact ⟨rfl, rfl⟩))
    (fun os started H enc _ F => by rw [OpenClaim.pre_eq_preRow]; exact lifted os started H enc F)

/-- No parameter wants a stand-in; the program's own looks are off: what the card asks. -/
theorem plain (f : FuncId) (fn : Func) (hf : Tryz.pinned.checked.prog.funcNamed "girder/girderlaw19.BarsTurned" = some f) (hfn : Tryz.pinned.checked.prog.funcs[f]? = some fn) :
    false = Tryz.pinned.checked.prog.looks [] ∧ ∀ (j : Nat) t, fn.params[j]? = some t → Tryz.pinned.checked.prog.wantsStandIn t = false := by
  obtain rfl : f = 4 := Option.some.inj ((show Tryz.prog.funcNamed "girder/girderlaw19.BarsTurned" = some 4 by kernel_rfl).symm.trans hf) |>.symm
  obtain rfl : fn = Tryz.f4 := (Option.some.inj (Tryz.func4.symm.trans hfn)).symm
  refine ⟨by kernel_rfl, fun j t ht => ?_⟩
  rw [Tryz.params4] at ht
  have : t = 25 ∨ t = 3 := by simpa using Array.mem_of_getElem? ht
  rcases this with rfl | rfl
  · exact (show Tryz.prog.wantsStandIn 25 = false by kernel_rfl)
  · exact (show Tryz.prog.wantsStandIn 3 = false by kernel_rfl)

theorem barsTurned_card : Rows.BarsTurnedCardSaid :=
  Claim7.holds_tied_plain_at .later [] _ _ _ _ said (fun _ h => by cases h) (by kernel_rfl) (fun _ h => by cases h) barsTurned_row_tie rfl ⟨rfl, rfl⟩ (by kernel_rfl) rfl plain (by kernel_rfl)
end Go.Proofs.YtikdidijaphjmaaGreatDoor
