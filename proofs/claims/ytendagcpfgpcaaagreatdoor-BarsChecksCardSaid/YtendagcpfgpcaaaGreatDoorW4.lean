/- Part 4 of the proof: models of the functions, and laws on them. -/
import Derived.Test.YtendagcpfgpcaaaGreatDoorW3
import Derived.Test.YtendagcpfgpcaaaGreatDoorProg
import Derived.KernelRfl
import Derived.Laws.BitsLemmas
import Derived.Laws.RangeAny
import Derived.Laws.RangeString
import Derived.MapKept
section
namespace Go.Proofs.Tryz
open Go Go.Am
set_option linter.unusedVariables false
set_option maxRecDepth 1000000
/-! ### function 9 -/
noncomputable def S9_0 (ui5 : Int) (h0_0n : Nat) (h0_0r : Nat) (h0_0g : Nat → Nat → AV) (h0_1 : Int) (h1_0n : Nat) (h1_0r : Nat) (h1_0g : Nat → Nat → AV) (h1_1 : Int) : St := { env := [((2 : Nat), AV.ptr (0 : Nat) (0 : Nat)), ((3 : Nat), AV.ptr (1 : Nat) (0 : Nat)), ((5 : Nat), AV.int IntKind.i64 ui5)], h := [Blk.box [AV.ro (3 : Nat) h0_0n h0_0r h0_0g, AV.int IntKind.i64 h0_1], Blk.box [AV.ro (3 : Nat) h1_0n h1_0r h1_0g, AV.int IntKind.i64 h1_1]], kd := [] }
noncomputable def X9_0_0 (xu4_1 : Bool) (xh0_0n_2 : Nat) (xh0_0r_2 : Nat) (xh0_0g_2 : Nat → Nat → AV) (xh0_1_2 : Int) (xh1_0n_2 : Nat) (xh1_0r_2 : Nat) (xh1_0g_2 : Nat → Nat → AV) (xh1_1_2 : Int) : St := { env := [((4 : Nat), AV.bool xu4_1)], h := [Blk.box [AV.ro (3 : Nat) xh0_0n_2 xh0_0r_2 xh0_0g_2, AV.int IntKind.i64 xh0_1_2], Blk.box [AV.ro (3 : Nat) xh1_0n_2 xh1_0r_2 xh1_0g_2, AV.int IntKind.i64 xh1_1_2]], kd := [] }
noncomputable def X9_0_1 (xh0_0n_3 : Nat) (xh0_0r_3 : Nat) (xh0_0g_3 : Nat → Nat → AV) (xh0_1_3 : Int) (xh1_0n_3 : Nat) (xh1_0r_3 : Nat) (xh1_0g_3 : Nat → Nat → AV) (xh1_1_3 : Int) : St := { env := [], h := [Blk.box [AV.ro (3 : Nat) xh0_0n_3 xh0_0r_3 xh0_0g_3, AV.int IntKind.i64 xh0_1_3], Blk.box [AV.ro (3 : Nat) xh1_0n_3 xh1_0r_3 xh1_0g_3, AV.int IntKind.i64 xh1_1_3]], kd := [] }
noncomputable def g9_l0_step (fuel : Nat) (kn : Int → Option AV) (kx0 : Bool → Nat → Nat → (Nat → Nat → AV) → Int → Nat → Nat → (Nat → Nat → AV) → Int → Option AV) (kx1 : Nat → Nat → (Nat → Nat → AV) → Int → Nat → Nat → (Nat → Nat → AV) → Int → Option AV) (h0_0n : Nat) (h0_0r : Nat) (h0_0g : Nat → Nat → AV) (h0_1 : Int) (h1_0n : Nat) (h1_0r : Nat) (h1_0g : Nat → Nat → AV) (h1_1 : Int) (ui5 : Int) : Option AV :=
  bif decide (ui5 < (↑h0_0n : Int)) then bif decide ((0 : Int) ≤ ui5) then bif decide (ui5 < (↑h0_0n : Int)) then bif fitKs [LK.i IntKind.i64, LK.i IntKind.i64, LK.i IntKind.i64] [h0_0g ui5.toNat (0 : Nat), h0_0g ui5.toNat (1 : Nat), h0_0g ui5.toNat (2 : Nat)] then bif decide ((0 : Int) ≤ ui5) then bif decide (ui5 < (↑h1_0n : Int)) then bif fitKs [LK.i IntKind.i64, LK.i IntKind.i64, LK.i IntKind.i64] [h1_0g ui5.toNat (0 : Nat), h1_0g ui5.toNat (1 : Nat), h1_0g ui5.toNat (2 : Nat)] then bif !bif toI (h0_0g ui5.toNat (0 : Nat)) == toI (h1_0g ui5.toNat (0 : Nat)) then bif toI (h0_0g ui5.toNat (1 : Nat)) == toI (h1_0g ui5.toNat (1 : Nat)) then bif toI (h0_0g ui5.toNat (2 : Nat)) == toI (h1_0g ui5.toNat (2 : Nat)) then true else false else false else false then kx0 (false) (h0_0n) (h0_0r) (h0_0g) (h0_1) (h1_0n) (h1_0r) (h1_0g) (h1_1)
                else kn (IntKind.i64.wrap (ui5 + (1 : Int)))
              else none
            else none
          else none
        else none
      else none
    else none
  else kx1 (h0_0n) (h0_0r) (h0_0g) (h0_1) (h1_0n) (h1_0r) (h1_0g) (h1_1)
noncomputable def g9_l0 (fuel : Nat) (kx0 : Bool → Nat → Nat → (Nat → Nat → AV) → Int → Nat → Nat → (Nat → Nat → AV) → Int → Option AV) (kx1 : Nat → Nat → (Nat → Nat → AV) → Int → Nat → Nat → (Nat → Nat → AV) → Int → Option AV) (h0_0n : Nat) (h0_0r : Nat) (h0_0g : Nat → Nat → AV) (h0_1 : Int) (h1_0n : Nat) (h1_0r : Nat) (h1_0g : Nat → Nat → AV) (h1_1 : Int) : Nat → Int → Option AV
  | 0, _ => none
  | n' + 1, ui5 => g9_l0_step fuel (g9_l0 fuel kx0 kx1 h0_0n h0_0r h0_0g h0_1 h1_0n h1_0r h1_0g h1_1 n') kx0 kx1 h0_0n h0_0r h0_0g h0_1 h1_0n h1_0r h1_0g h1_1 ui5
noncomputable def T9_0 : TS' := ⟨[(2, TA.ptr 0 0), (3, TA.ptr 1 0), (5, TA.i IntKind.i64)], [TB.box [TA.ro 3, TA.i IntKind.i64], TB.box [TA.ro 3, TA.i IntKind.i64]], []⟩
noncomputable def F9_0 (fuel : Nat) (ps : List Pay) (K : Ex → St → Option AV) : Option AV := match ps with
  | .i ui5 :: .n h0_0n :: .n h0_0r :: .g h0_0g :: .i h0_1 :: .n h1_0n :: .n h1_0r :: .g h1_0g :: .i h1_1 :: [] => g9_l0 fuel (fun xu4_1 xh0_0n_2 xh0_0r_2 xh0_0g_2 xh0_1_2 xh1_0n_2 xh1_0r_2 xh1_0g_2 xh1_1_2 => K (Ex.ret) (X9_0_0 xu4_1 xh0_0n_2 xh0_0r_2 xh0_0g_2 xh0_1_2 xh1_0n_2 xh1_0r_2 xh1_0g_2 xh1_1_2)) (fun xh0_0n_3 xh0_0r_3 xh0_0g_3 xh0_1_3 xh1_0n_3 xh1_0r_3 xh1_0g_3 xh1_1_3 => K (Ex.exit (0 : Nat)) (X9_0_1 xh0_0n_3 xh0_0r_3 xh0_0g_3 xh0_1_3 xh1_0n_3 xh1_0r_3 xh1_0g_3 xh1_1_3)) h0_0n h0_0r h0_0g h0_1 h1_0n h1_0r h1_0g h1_1 fuel ui5
  | _ => none
noncomputable def L9 (fuel : Nat) : Lam AV := [(274876858416, lam T9_0 (F9_0 fuel))]
noncomputable def G9 : Gam := []
theorem g9_l0_eq (fuel : Nat) (call : CallI AV) (kn : St → Option AV) (K : Ex → St → Option AV) (h0_0n : Nat) (h0_0r : Nat) (h0_0g : Nat → Nat → AV) (h0_1 : Int) (h1_0n : Nat) (h1_0r : Nat) (h1_0g : Nat → Nat → AV) (h1_1 : Int) (ui50 : Int) (ui5 : Int) :
    exec Pr (G9) (L9 fuel) (fnNt Pr 9) fuel call (lp Pr 9 0).1 (lp Pr 9 0).2 (live (lp Pr 9 0).1 (lp Pr 9 0).2 0) (S9_0 ui5 h0_0n h0_0r h0_0g h0_1 h1_0n h1_0r h1_0g h1_1) (fun e s => match e with | .normal => kn (headN (live (lp Pr 9 0).1 (lp Pr 9 0).2 0) (writes (lp Pr 9 0).1) (S9_0 ui50 h0_0n h0_0r h0_0g h0_1 h1_0n h1_0r h1_0g h1_1) s) | e => K e s) =
    g9_l0_step fuel (fun ui5 => kn (S9_0 ui5 h0_0n h0_0r h0_0g h0_1 h1_0n h1_0r h1_0g h1_1)) (fun xu4 xh0_0n xh0_0r xh0_0g xh0_1 xh1_0n xh1_0r xh1_0g xh1_1 => K (Ex.ret) (X9_0_0 xu4 xh0_0n xh0_0r xh0_0g xh0_1 xh1_0n xh1_0r xh1_0g xh1_1)) (fun xh0_0n xh0_0r xh0_0g xh0_1 xh1_0n xh1_0r xh1_0g xh1_1 => K (Ex.exit (0 : Nat)) (X9_0_1 xh0_0n xh0_0r xh0_0g xh0_1 xh1_0n xh1_0r xh1_0g xh1_1)) h0_0n h0_0r h0_0g h0_1 h1_0n h1_0r h1_0g h1_1 ui5 := by kernel_rfl
theorem g9_l0_ok (fuel : Nat) (call : CallI AV) (K : Ex → St → Option AV) (h0_0n : Nat) (h0_0r : Nat) (h0_0g : Nat → Nat → AV) (h0_1 : Int) (h1_0n : Nat) (h1_0r : Nat) (h1_0g : Nat → Nat → AV) (h1_1 : Int) (ui50 : Int) : ∀ (n' : Nat) (ui5 : Int),
    loopK (exec Pr (G9) (L9 fuel) (fnNt Pr 9) fuel call (lp Pr 9 0).1 (lp Pr 9 0).2 (live (lp Pr 9 0).1 (lp Pr 9 0).2 0)) (headN (live (lp Pr 9 0).1 (lp Pr 9 0).2 0) (writes (lp Pr 9 0).1) (S9_0 ui50 h0_0n h0_0r h0_0g h0_1 h1_0n h1_0r h1_0g h1_1)) n' (S9_0 ui5 h0_0n h0_0r h0_0g h0_1 h1_0n h1_0r h1_0g h1_1) K = g9_l0 fuel (fun xu4 xh0_0n xh0_0r xh0_0g xh0_1 xh1_0n xh1_0r xh1_0g xh1_1 => K (Ex.ret) (X9_0_0 xu4 xh0_0n xh0_0r xh0_0g xh0_1 xh1_0n xh1_0r xh1_0g xh1_1)) (fun xh0_0n xh0_0r xh0_0g xh0_1 xh1_0n xh1_0r xh1_0g xh1_1 => K (Ex.exit (0 : Nat)) (X9_0_1 xh0_0n xh0_0r xh0_0g xh0_1 xh1_0n xh1_0r xh1_0g xh1_1)) h0_0n h0_0r h0_0g h0_1 h1_0n h1_0r h1_0g h1_1 n' ui5
  | 0, _ => rfl
  | n' + 1, ui5 => (g9_l0_eq fuel call (fun s => loopK (exec Pr (G9) (L9 fuel) (fnNt Pr 9) fuel call (lp Pr 9 0).1 (lp Pr 9 0).2 (live (lp Pr 9 0).1 (lp Pr 9 0).2 0)) (headN (live (lp Pr 9 0).1 (lp Pr 9 0).2 0) (writes (lp Pr 9 0).1) (S9_0 ui50 h0_0n h0_0r h0_0g h0_1 h1_0n h1_0r h1_0g h1_1)) n' s K) K h0_0n h0_0r h0_0g h0_1 h1_0n h1_0r h1_0g h1_1 ui50 ui5).trans
    (congrArg (fun kn => g9_l0_step fuel kn (fun xu4 xh0_0n xh0_0r xh0_0g xh0_1 xh1_0n xh1_0r xh1_0g xh1_1 => K (Ex.ret) (X9_0_0 xu4 xh0_0n xh0_0r xh0_0g xh0_1 xh1_0n xh1_0r xh1_0g xh1_1)) (fun xh0_0n xh0_0r xh0_0g xh0_1 xh1_0n xh1_0r xh1_0g xh1_1 => K (Ex.exit (0 : Nat)) (X9_0_1 xh0_0n xh0_0r xh0_0g xh0_1 xh1_0n xh1_0r xh1_0g xh1_1)) h0_0n h0_0r h0_0g h0_1 h1_0n h1_0r h1_0g h1_1 ui5) (funext fun _ => g9_l0_ok fuel call K h0_0n h0_0r h0_0g h0_1 h1_0n h1_0r h1_0g h1_1 ui50 n' _))
theorem g9_L0 (fuel : Nat) (call : CallI AV) : LOk Pr (G9) (L9 fuel) (fnNt Pr 9) fuel call (lp Pr 9 0) := by
  refine .of T9_0 (F9_0 fuel) (fun L h => ?_) (fun ps st K r he hr => ?_)
  · have e : (L9 fuel).get (writes (lp Pr 9 0).1) = some (lam T9_0 (F9_0 fuel)) := by kernel_rfl
    exact (Option.some.inj (e.symm.trans h)).symm
  · unfold F9_0 at hr
    split at hr
    · obtain rfl := (Option.some.inj he).symm
      exact (g9_l0_ok fuel call K _ _ _ _ _ _ _ _ _ fuel _).trans hr
    · cases hr
noncomputable def g9 (fuel : Nat) (ua0_0n : Nat) (ua0_0r : Nat) (ua0_0g : Nat → Nat → AV) (ua0_1 : Int) (ub1_0n : Nat) (ub1_0r : Nat) (ub1_0g : Nat → Nat → AV) (ub1_1 : Int) : Option AV :=
  bif bif !ua0_1 != ub1_1 then true else true then bif bif !ua0_1 != ub1_1 then true else true then bif bif ua0_1 != ub1_1 then true else (↑ua0_0n : Int) != (↑ub1_0n : Int) then some (AV.bool false)
      else g9_l0 fuel
        (fun (xu4 : Bool) (_ : Nat) (_ : Nat) (_ : Nat → Nat → AV) (_ : Int) (_ : Nat) (_ : Nat) (_ : Nat → Nat → AV) (_ : Int) => some (AV.bool xu4))
        (fun (_ : Nat) (_ : Nat) (_ : Nat → Nat → AV) (_ : Int) (_ : Nat) (_ : Nat) (_ : Nat → Nat → AV) (_ : Int) => some (AV.bool true))
        (ua0_0n)
        (ua0_0r)
        (ua0_0g)
        (ua0_1)
        (ub1_0n)
        (ub1_0r)
        (ub1_0g)
        (ub1_1) fuel ((0 : Int))
    else none
  else none
theorem g9_run (fuel : Nat) (ua0_0n : Nat) (ua0_0r : Nat) (ua0_0g : Nat → Nat → AV) (ua0_1 : Int) (ub1_0n : Nat) (ub1_0r : Nat) (ub1_0g : Nat → Nat → AV) (ub1_1 : Int) : run Pr (G9) [((0, 9), L9 fuel)] fuel 1 9 [AV.agg [AV.ro (3 : Nat) ua0_0n ua0_0r ua0_0g, AV.int IntKind.i64 ua0_1], AV.agg [AV.ro (3 : Nat) ub1_0n ub1_0r ub1_0g, AV.int IntKind.i64 ub1_1]] = g9 fuel ua0_0n ua0_0r ua0_0g ua0_1 ub1_0n ub1_0r ub1_0g ub1_1 := by kernel_rfl
noncomputable def m9 (fuel : Nat) (xs : List AV) : Option AV := match xs with
  | [AV.agg [AV.ro (3 : Nat) ua0_0n ua0_0r ua0_0g, AV.int IntKind.i64 ua0_1], AV.agg [AV.ro (3 : Nat) ub1_0n ub1_0r ub1_0g, AV.int IntKind.i64 ub1_1]] => g9 fuel ua0_0n ua0_0r ua0_0g ua0_1 ub1_0n ub1_0r ub1_0g ub1_1
  | _ => none
abbrev R9 : List RS := [RS.one LK.b]
theorem g9_sm (fuel : Nat) (hΓ : ∀ f s, (G9).get f = some s → SmOk Pr f s) (hP : NamesOk Pr) : SmOk Pr 9 (smM R9 (m9 fuel)) := by
  refine smM_ok (fuel := fuel) hΓ hP (LamOk.of 9 (L9 fuel) 1 (by kernel_rfl) (fun i hi => ?_)) 1 9 R9 _ (fun xs v h => ?_)
  · match i, hi with
    | 0, _ => exact g9_L0 fuel _
    | i + 1, hi => exact absurd hi (by omega)
  · unfold m9 at h
    split at h
    · exact (g9_run fuel _ _ _ _ _ _ _ _).trans h
    · cases h

/-! ### function 45 -/
noncomputable def L45 (fuel : Nat) : Lam AV := []
noncomputable def G45 : Gam := [(32, Go.Am.sBits)]
noncomputable def g45 (fuel : Nat) (ua0 : Option Nat) (ub1 : Option Nat) : Option AV :=
  bif sBits.ok [AV.flt FloatKind.f64 ua0] then bif sBits.ok [AV.flt FloatKind.f64 ub1] then some (AV.bool (bif (↑(ua0.getD (0 : Nat)) : Int) == (↑(ub1.getD (0 : Nat)) : Int) then true else bif ford FloatKind.f64 ua0 ua0 != some Ordering.eq then ford FloatKind.f64 ub1 ub1 != some Ordering.eq else false))
    else none
  else none
theorem g45_run (fuel : Nat) (ua0 : Option Nat) (ub1 : Option Nat) : run Pr (G45) [((0, 45), L45 fuel)] fuel 1 45 [AV.flt FloatKind.f64 ua0, AV.flt FloatKind.f64 ub1] = g45 fuel ua0 ub1 := by kernel_rfl
noncomputable def m45 (fuel : Nat) (xs : List AV) : Option AV := match xs with
  | [AV.flt FloatKind.f64 ua0, AV.flt FloatKind.f64 ub1] => g45 fuel ua0 ub1
  | _ => none
abbrev R45 : List RS := [RS.one LK.b]
theorem g45_sm (fuel : Nat) (hΓ : ∀ f s, (G45).get f = some s → SmOk Pr f s) (hP : NamesOk Pr) : SmOk Pr 45 (smM R45 (m45 fuel)) := by
  refine smM_ok (fuel := fuel) hΓ hP (LamOk.of 45 (L45 fuel) 0 (by kernel_rfl) (fun i hi => ?_)) 1 45 R45 _ (fun xs v h => ?_)
  · match i, hi with
    | i + 0, hi => exact absurd hi (by omega)
  · unfold m45 at h
    split at h
    · exact (g45_run fuel _ _).trans h
    · cases h

/-! ### function 40 -/
noncomputable def L40 (M45 : List AV → Option AV) (fuel : Nat) : Lam AV := []
noncomputable def G40 (M45 : List AV → Option AV) : Gam := [(45, smM [RS.one LK.b] M45)]
noncomputable def g40 (M45 : List AV → Option AV) (fuel : Nat) (ua0_0 : ByteArray) (ua0_1 : Int) (ua0_2 : Int) (ua0_3 : Int) (ua0_4 : Bool) (ua0_5 : Bool) (ua0_6 : Option Nat) (ua0_7 : Option Nat) (ua0_8 : Option Nat) (ub1_0 : ByteArray) (ub1_1 : Int) (ub1_2 : Int) (ub1_3 : Int) (ub1_4 : Bool) (ub1_5 : Bool) (ub1_6 : Option Nat) (ub1_7 : Option Nat) (ub1_8 : Option Nat) : Option AV :=
  bif bif strEq ua0_0 ub1_0 then true else true then bif bif strEq ua0_0 ub1_0 then true else true then bif bif bif strEq ua0_0 ub1_0 then ua0_1 == ub1_1 else false then true else true then bif bif bif strEq ua0_0 ub1_0 then ua0_1 == ub1_1 else false then true else true then bif bif bif bif strEq ua0_0 ub1_0 then ua0_1 == ub1_1 else false then ua0_2 == ub1_2 else false then true else true then bif bif bif bif strEq ua0_0 ub1_0 then ua0_1 == ub1_1 else false then ua0_2 == ub1_2 else false then true else true then bif bif bif bif bif strEq ua0_0 ub1_0 then ua0_1 == ub1_1 else false then ua0_2 == ub1_2 else false then ua0_3 == ub1_3 else false then true else true then bif bif bif bif bif strEq ua0_0 ub1_0 then ua0_1 == ub1_1 else false then ua0_2 == ub1_2 else false then ua0_3 == ub1_3 else false then true else true then bif bif bif bif bif bif strEq ua0_0 ub1_0 then ua0_1 == ub1_1 else false then ua0_2 == ub1_2 else false then ua0_3 == ub1_3 else false then ua0_4 == ub1_4 else false then true else true then bif bif bif bif bif bif strEq ua0_0 ub1_0 then ua0_1 == ub1_1 else false then ua0_2 == ub1_2 else false then ua0_3 == ub1_3 else false then ua0_4 == ub1_4 else false then true else true then bif bif bif bif bif bif bif strEq ua0_0 ub1_0 then ua0_1 == ub1_1 else false then ua0_2 == ub1_2 else false then ua0_3 == ub1_3 else false then ua0_4 == ub1_4 else false then ua0_5 == ub1_5 else false then true else true then bif bif bif bif bif bif bif strEq ua0_0 ub1_0 then ua0_1 == ub1_1 else false then ua0_2 == ub1_2 else false then ua0_3 == ub1_3 else false then ua0_4 == ub1_4 else false then ua0_5 == ub1_5 else false then true else true then bif bif bif bif bif bif bif strEq ua0_0 ub1_0 then ua0_1 == ub1_1 else false then ua0_2 == ub1_2 else false then ua0_3 == ub1_3 else false then ua0_4 == ub1_4 else false then ua0_5 == ub1_5 else false then okM [RS.one LK.b] (M45 [AV.flt FloatKind.f64 ua0_6, AV.flt FloatKind.f64 ub1_6]) else true then bif bif bif bif bif bif bif bif strEq ua0_0 ub1_0 then ua0_1 == ub1_1 else false then ua0_2 == ub1_2 else false then ua0_3 == ub1_3 else false then ua0_4 == ub1_4 else false then ua0_5 == ub1_5 else false then toB (getV (M45 [AV.flt FloatKind.f64 ua0_6, AV.flt FloatKind.f64 ub1_6])) else false then true else true then bif bif bif bif bif bif bif bif strEq ua0_0 ub1_0 then ua0_1 == ub1_1 else false then ua0_2 == ub1_2 else false then ua0_3 == ub1_3 else false then ua0_4 == ub1_4 else false then ua0_5 == ub1_5 else false then toB (getV (M45 [AV.flt FloatKind.f64 ua0_6, AV.flt FloatKind.f64 ub1_6])) else false then true else true then bif bif bif bif bif bif bif bif strEq ua0_0 ub1_0 then ua0_1 == ub1_1 else false then ua0_2 == ub1_2 else false then ua0_3 == ub1_3 else false then ua0_4 == ub1_4 else false then ua0_5 == ub1_5 else false then toB (getV (M45 [AV.flt FloatKind.f64 ua0_6, AV.flt FloatKind.f64 ub1_6])) else false then okM [RS.one LK.b] (M45 [AV.flt FloatKind.f64 ua0_7, AV.flt FloatKind.f64 ub1_7]) else true then bif bif bif bif bif bif bif bif bif strEq ua0_0 ub1_0 then ua0_1 == ub1_1 else false then ua0_2 == ub1_2 else false then ua0_3 == ub1_3 else false then ua0_4 == ub1_4 else false then ua0_5 == ub1_5 else false then toB (getV (M45 [AV.flt FloatKind.f64 ua0_6, AV.flt FloatKind.f64 ub1_6])) else false then toB (getV (M45 [AV.flt FloatKind.f64 ua0_7, AV.flt FloatKind.f64 ub1_7])) else false then true else true then bif bif bif bif bif bif bif bif bif strEq ua0_0 ub1_0 then ua0_1 == ub1_1 else false then ua0_2 == ub1_2 else false then ua0_3 == ub1_3 else false then ua0_4 == ub1_4 else false then ua0_5 == ub1_5 else false then toB (getV (M45 [AV.flt FloatKind.f64 ua0_6, AV.flt FloatKind.f64 ub1_6])) else false then toB (getV (M45 [AV.flt FloatKind.f64 ua0_7, AV.flt FloatKind.f64 ub1_7])) else false then true else true then bif bif bif bif bif bif bif bif bif strEq ua0_0 ub1_0 then ua0_1 == ub1_1 else false then ua0_2 == ub1_2 else false then ua0_3 == ub1_3 else false then ua0_4 == ub1_4 else false then ua0_5 == ub1_5 else false then toB (getV (M45 [AV.flt FloatKind.f64 ua0_6, AV.flt FloatKind.f64 ub1_6])) else false then toB (getV (M45 [AV.flt FloatKind.f64 ua0_7, AV.flt FloatKind.f64 ub1_7])) else false then okM [RS.one LK.b] (M45 [AV.flt FloatKind.f64 ua0_8, AV.flt FloatKind.f64 ub1_8]) else true then some (AV.bool (bif bif bif bif bif bif bif bif strEq ua0_0 ub1_0 then ua0_1 == ub1_1 else false then ua0_2 == ub1_2 else false then ua0_3 == ub1_3 else false then ua0_4 == ub1_4 else false then ua0_5 == ub1_5 else false then toB (getV (M45 [AV.flt FloatKind.f64 ua0_6, AV.flt FloatKind.f64 ub1_6])) else false then toB (getV (M45 [AV.flt FloatKind.f64 ua0_7, AV.flt FloatKind.f64 ub1_7])) else false then toB (getV (M45 [AV.flt FloatKind.f64 ua0_8, AV.flt FloatKind.f64 ub1_8])) else false))
                                      else none
                                    else none
                                  else none
                                else none
                              else none
                            else none
                          else none
                        else none
                      else none
                    else none
                  else none
                else none
              else none
            else none
          else none
        else none
      else none
    else none
  else none
theorem g40_run (M45 : List AV → Option AV) (fuel : Nat) (ua0_0 : ByteArray) (ua0_1 : Int) (ua0_2 : Int) (ua0_3 : Int) (ua0_4 : Bool) (ua0_5 : Bool) (ua0_6 : Option Nat) (ua0_7 : Option Nat) (ua0_8 : Option Nat) (ub1_0 : ByteArray) (ub1_1 : Int) (ub1_2 : Int) (ub1_3 : Int) (ub1_4 : Bool) (ub1_5 : Bool) (ub1_6 : Option Nat) (ub1_7 : Option Nat) (ub1_8 : Option Nat) : run Pr (G40 M45) [((0, 40), L40 M45 fuel)] fuel 1 40 [AV.agg [AV.str ua0_0, AV.int IntKind.u8 ua0_1, AV.int IntKind.i64 ua0_2, AV.int IntKind.i64 ua0_3, AV.bool ua0_4, AV.bool ua0_5, AV.flt FloatKind.f64 ua0_6, AV.flt FloatKind.f64 ua0_7, AV.flt FloatKind.f64 ua0_8], AV.agg [AV.str ub1_0, AV.int IntKind.u8 ub1_1, AV.int IntKind.i64 ub1_2, AV.int IntKind.i64 ub1_3, AV.bool ub1_4, AV.bool ub1_5, AV.flt FloatKind.f64 ub1_6, AV.flt FloatKind.f64 ub1_7, AV.flt FloatKind.f64 ub1_8]] = g40 M45 fuel ua0_0 ua0_1 ua0_2 ua0_3 ua0_4 ua0_5 ua0_6 ua0_7 ua0_8 ub1_0 ub1_1 ub1_2 ub1_3 ub1_4 ub1_5 ub1_6 ub1_7 ub1_8 := by kernel_rfl
noncomputable def m40 (M45 : List AV → Option AV) (fuel : Nat) (xs : List AV) : Option AV := match xs with
  | [AV.agg [AV.str ua0_0, AV.int IntKind.u8 ua0_1, AV.int IntKind.i64 ua0_2, AV.int IntKind.i64 ua0_3, AV.bool ua0_4, AV.bool ua0_5, AV.flt FloatKind.f64 ua0_6, AV.flt FloatKind.f64 ua0_7, AV.flt FloatKind.f64 ua0_8], AV.agg [AV.str ub1_0, AV.int IntKind.u8 ub1_1, AV.int IntKind.i64 ub1_2, AV.int IntKind.i64 ub1_3, AV.bool ub1_4, AV.bool ub1_5, AV.flt FloatKind.f64 ub1_6, AV.flt FloatKind.f64 ub1_7, AV.flt FloatKind.f64 ub1_8]] => g40 M45 fuel ua0_0 ua0_1 ua0_2 ua0_3 ua0_4 ua0_5 ua0_6 ua0_7 ua0_8 ub1_0 ub1_1 ub1_2 ub1_3 ub1_4 ub1_5 ub1_6 ub1_7 ub1_8
  | _ => none
abbrev R40 : List RS := [RS.one LK.b]
theorem g40_sm (M45 : List AV → Option AV) (fuel : Nat) (hΓ : ∀ f s, (G40 M45).get f = some s → SmOk Pr f s) (hP : NamesOk Pr) : SmOk Pr 40 (smM R40 (m40 M45 fuel)) := by
  refine smM_ok (fuel := fuel) hΓ hP (LamOk.of 40 (L40 M45 fuel) 0 (by kernel_rfl) (fun i hi => ?_)) 1 40 R40 _ (fun xs v h => ?_)
  · match i, hi with
    | i + 0, hi => exact absurd hi (by omega)
  · unfold m40 at h
    split at h
    · exact (g40_run M45 fuel _ _ _ _ _ _ _ _ _ _ _ _ _ _ _ _ _ _).trans h
    · cases h

/-! ### function 38 -/
noncomputable def S38_0 (ua0n_1 : Nat) (ua0r_1 : Nat) (ua0g_1 : Nat → Nat → AV) (ub1n_1 : Nat) (ub1r_1 : Nat) (ub1g_1 : Nat → Nat → AV) (ui5 : Int) : St := { env := [((0 : Nat), AV.ro (4 : Nat) ua0n_1 ua0r_1 ua0g_1), ((1 : Nat), AV.ro (4 : Nat) ub1n_1 ub1r_1 ub1g_1), ((5 : Nat), AV.int IntKind.i64 ui5)], h := [], kd := [] }
noncomputable def X38_0_0 (xu4_1 : Bool) : St := { env := [((4 : Nat), AV.bool xu4_1)], h := [], kd := [] }
noncomputable def X38_0_1 : St := { env := [], h := [], kd := [] }
noncomputable def g38_l0_step (fuel : Nat) (kn : Int → Option AV) (kx0 : Bool → Option AV) (kx1 : Option AV) (ua0n_1 : Nat) (ua0r_1 : Nat) (ua0g_1 : Nat → Nat → AV) (ub1n_1 : Nat) (ub1r_1 : Nat) (ub1g_1 : Nat → Nat → AV) (ui5 : Int) : Option AV :=
  bif decide (ui5 < (↑ua0n_1 : Int)) then bif decide ((0 : Int) ≤ ui5) then bif decide (ui5 < (↑ua0n_1 : Int)) then bif fitKs [LK.s, LK.i IntKind.i32, LK.i IntKind.i32, LK.i IntKind.u8] [ua0g_1 ui5.toNat (0 : Nat), ua0g_1 ui5.toNat (1 : Nat), ua0g_1 ui5.toNat (2 : Nat), ua0g_1 ui5.toNat (3 : Nat)] then bif decide ((0 : Int) ≤ ui5) then bif decide (ui5 < (↑ub1n_1 : Int)) then bif fitKs [LK.s, LK.i IntKind.i32, LK.i IntKind.i32, LK.i IntKind.u8] [ub1g_1 ui5.toNat (0 : Nat), ub1g_1 ui5.toNat (1 : Nat), ub1g_1 ui5.toNat (2 : Nat), ub1g_1 ui5.toNat (3 : Nat)] then bif !bif strEq (toS (ua0g_1 ui5.toNat (0 : Nat))) (toS (ub1g_1 ui5.toNat (0 : Nat))) then bif toI (ua0g_1 ui5.toNat (1 : Nat)) == toI (ub1g_1 ui5.toNat (1 : Nat)) then bif toI (ua0g_1 ui5.toNat (2 : Nat)) == toI (ub1g_1 ui5.toNat (2 : Nat)) then bif toI (ua0g_1 ui5.toNat (3 : Nat)) == toI (ub1g_1 ui5.toNat (3 : Nat)) then true else false else false else false else false then kx0 (false)
                else kn (IntKind.i64.wrap (ui5 + (1 : Int)))
              else none
            else none
          else none
        else none
      else none
    else none
  else kx1
noncomputable def g38_l0 (fuel : Nat) (kx0 : Bool → Option AV) (kx1 : Option AV) (ua0n_1 : Nat) (ua0r_1 : Nat) (ua0g_1 : Nat → Nat → AV) (ub1n_1 : Nat) (ub1r_1 : Nat) (ub1g_1 : Nat → Nat → AV) : Nat → Int → Option AV
  | 0, _ => none
  | n' + 1, ui5 => g38_l0_step fuel (g38_l0 fuel kx0 kx1 ua0n_1 ua0r_1 ua0g_1 ub1n_1 ub1r_1 ub1g_1 n') kx0 kx1 ua0n_1 ua0r_1 ua0g_1 ub1n_1 ub1r_1 ub1g_1 ui5
noncomputable def T38_0 : TS' := ⟨[(0, TA.ro 4), (1, TA.ro 4), (5, TA.i IntKind.i64)], [], []⟩
noncomputable def F38_0 (fuel : Nat) (ps : List Pay) (K : Ex → St → Option AV) : Option AV := match ps with
  | .n ua0n_1 :: .n ua0r_1 :: .g ua0g_1 :: .n ub1n_1 :: .n ub1r_1 :: .g ub1g_1 :: .i ui5 :: [] => g38_l0 fuel (fun xu4_1 => K (Ex.ret) (X38_0_0 xu4_1)) (K (Ex.exit (0 : Nat)) X38_0_1) ua0n_1 ua0r_1 ua0g_1 ub1n_1 ub1r_1 ub1g_1 fuel ui5
  | _ => none
noncomputable def L38 (fuel : Nat) : Lam AV := [(67106864, lam T38_0 (F38_0 fuel))]
noncomputable def G38 : Gam := []
theorem g38_l0_eq (fuel : Nat) (call : CallI AV) (kn : St → Option AV) (K : Ex → St → Option AV) (ua0n_1 : Nat) (ua0r_1 : Nat) (ua0g_1 : Nat → Nat → AV) (ub1n_1 : Nat) (ub1r_1 : Nat) (ub1g_1 : Nat → Nat → AV) (ui50 : Int) (ui5 : Int) :
    exec Pr (G38) (L38 fuel) (fnNt Pr 38) fuel call (lp Pr 38 0).1 (lp Pr 38 0).2 (live (lp Pr 38 0).1 (lp Pr 38 0).2 0) (S38_0 ua0n_1 ua0r_1 ua0g_1 ub1n_1 ub1r_1 ub1g_1 ui5) (fun e s => match e with | .normal => kn (headN (live (lp Pr 38 0).1 (lp Pr 38 0).2 0) (writes (lp Pr 38 0).1) (S38_0 ua0n_1 ua0r_1 ua0g_1 ub1n_1 ub1r_1 ub1g_1 ui50) s) | e => K e s) =
    g38_l0_step fuel (fun ui5 => kn (S38_0 ua0n_1 ua0r_1 ua0g_1 ub1n_1 ub1r_1 ub1g_1 ui5)) (fun xu4 => K (Ex.ret) (X38_0_0 xu4)) (K (Ex.exit (0 : Nat)) X38_0_1) ua0n_1 ua0r_1 ua0g_1 ub1n_1 ub1r_1 ub1g_1 ui5 := by kernel_rfl
theorem g38_l0_ok (fuel : Nat) (call : CallI AV) (K : Ex → St → Option AV) (ua0n_1 : Nat) (ua0r_1 : Nat) (ua0g_1 : Nat → Nat → AV) (ub1n_1 : Nat) (ub1r_1 : Nat) (ub1g_1 : Nat → Nat → AV) (ui50 : Int) : ∀ (n' : Nat) (ui5 : Int),
    loopK (exec Pr (G38) (L38 fuel) (fnNt Pr 38) fuel call (lp Pr 38 0).1 (lp Pr 38 0).2 (live (lp Pr 38 0).1 (lp Pr 38 0).2 0)) (headN (live (lp Pr 38 0).1 (lp Pr 38 0).2 0) (writes (lp Pr 38 0).1) (S38_0 ua0n_1 ua0r_1 ua0g_1 ub1n_1 ub1r_1 ub1g_1 ui50)) n' (S38_0 ua0n_1 ua0r_1 ua0g_1 ub1n_1 ub1r_1 ub1g_1 ui5) K = g38_l0 fuel (fun xu4 => K (Ex.ret) (X38_0_0 xu4)) (K (Ex.exit (0 : Nat)) X38_0_1) ua0n_1 ua0r_1 ua0g_1 ub1n_1 ub1r_1 ub1g_1 n' ui5
  | 0, _ => rfl
  | n' + 1, ui5 => (g38_l0_eq fuel call (fun s => loopK (exec Pr (G38) (L38 fuel) (fnNt Pr 38) fuel call (lp Pr 38 0).1 (lp Pr 38 0).2 (live (lp Pr 38 0).1 (lp Pr 38 0).2 0)) (headN (live (lp Pr 38 0).1 (lp Pr 38 0).2 0) (writes (lp Pr 38 0).1) (S38_0 ua0n_1 ua0r_1 ua0g_1 ub1n_1 ub1r_1 ub1g_1 ui50)) n' s K) K ua0n_1 ua0r_1 ua0g_1 ub1n_1 ub1r_1 ub1g_1 ui50 ui5).trans
    (congrArg (fun kn => g38_l0_step fuel kn (fun xu4 => K (Ex.ret) (X38_0_0 xu4)) (K (Ex.exit (0 : Nat)) X38_0_1) ua0n_1 ua0r_1 ua0g_1 ub1n_1 ub1r_1 ub1g_1 ui5) (funext fun _ => g38_l0_ok fuel call K ua0n_1 ua0r_1 ua0g_1 ub1n_1 ub1r_1 ub1g_1 ui50 n' _))
theorem g38_L0 (fuel : Nat) (call : CallI AV) : LOk Pr (G38) (L38 fuel) (fnNt Pr 38) fuel call (lp Pr 38 0) := by
  refine .of T38_0 (F38_0 fuel) (fun L h => ?_) (fun ps st K r he hr => ?_)
  · have e : (L38 fuel).get (writes (lp Pr 38 0).1) = some (lam T38_0 (F38_0 fuel)) := by kernel_rfl
    exact (Option.some.inj (e.symm.trans h)).symm
  · unfold F38_0 at hr
    split at hr
    · obtain rfl := (Option.some.inj he).symm
      exact (g38_l0_ok fuel call K _ _ _ _ _ _ _ fuel _).trans hr
    · cases hr
noncomputable def g38 (fuel : Nat) (ua0n : Nat) (ua0r : Nat) (ua0g : Nat → Nat → AV) (ub1n : Nat) (ub1r : Nat) (ub1g : Nat → Nat → AV) : Option AV :=
  bif (↑ua0n : Int) != (↑ub1n : Int) then some (AV.bool false)
  else g38_l0 fuel
    (fun (xu4 : Bool) => some (AV.bool xu4))
    (some (AV.bool true))
    (ua0n)
    (ua0r)
    (ua0g)
    (ub1n)
    (ub1r)
    (ub1g) fuel ((0 : Int))
theorem g38_run (fuel : Nat) (ua0n : Nat) (ua0r : Nat) (ua0g : Nat → Nat → AV) (ub1n : Nat) (ub1r : Nat) (ub1g : Nat → Nat → AV) : run Pr (G38) [((0, 38), L38 fuel)] fuel 1 38 [AV.ro (4 : Nat) ua0n ua0r ua0g, AV.ro (4 : Nat) ub1n ub1r ub1g] = g38 fuel ua0n ua0r ua0g ub1n ub1r ub1g := by kernel_rfl
noncomputable def m38 (fuel : Nat) (xs : List AV) : Option AV := match xs with
  | [AV.ro (4 : Nat) ua0n ua0r ua0g, AV.ro (4 : Nat) ub1n ub1r ub1g] => g38 fuel ua0n ua0r ua0g ub1n ub1r ub1g
  | _ => none
abbrev R38 : List RS := [RS.one LK.b]
theorem g38_sm (fuel : Nat) (hΓ : ∀ f s, (G38).get f = some s → SmOk Pr f s) (hP : NamesOk Pr) : SmOk Pr 38 (smM R38 (m38 fuel)) := by
  refine smM_ok (fuel := fuel) hΓ hP (LamOk.of 38 (L38 fuel) 1 (by kernel_rfl) (fun i hi => ?_)) 1 38 R38 _ (fun xs v h => ?_)
  · match i, hi with
    | 0, _ => exact g38_L0 fuel _
    | i + 1, hi => exact absurd hi (by omega)
  · unfold m38 at h
    split at h
    · exact (g38_run fuel _ _ _ _ _ _).trans h
    · cases h

/-! ### function 39 -/
noncomputable def S39_0 (ua0n_1 : Nat) (ua0r_1 : Nat) (ua0g_1 : Nat → Nat → AV) (ub1n_1 : Nat) (ub1r_1 : Nat) (ub1g_1 : Nat → Nat → AV) (ui5 : Int) : St := { env := [((0 : Nat), AV.ro (9 : Nat) ua0n_1 ua0r_1 ua0g_1), ((1 : Nat), AV.ro (9 : Nat) ub1n_1 ub1r_1 ub1g_1), ((5 : Nat), AV.int IntKind.i64 ui5)], h := [], kd := [] }
noncomputable def X39_0_0 (xu4_1 : Bool) : St := { env := [((4 : Nat), AV.bool xu4_1)], h := [], kd := [] }
noncomputable def X39_0_1 : St := { env := [], h := [], kd := [] }
noncomputable def g39_l0_step (M40 : List AV → Option AV) (fuel : Nat) (kn : Int → Option AV) (kx0 : Bool → Option AV) (kx1 : Option AV) (ua0n_1 : Nat) (ua0r_1 : Nat) (ua0g_1 : Nat → Nat → AV) (ub1n_1 : Nat) (ub1r_1 : Nat) (ub1g_1 : Nat → Nat → AV) (ui5 : Int) : Option AV :=
  bif decide (ui5 < (↑ua0n_1 : Int)) then bif decide ((0 : Int) ≤ ui5) then bif decide (ui5 < (↑ua0n_1 : Int)) then bif fitKs [LK.s, LK.i IntKind.u8, LK.i IntKind.i64, LK.i IntKind.i64, LK.b, LK.b, LK.f FloatKind.f64, LK.f FloatKind.f64, LK.f FloatKind.f64] [ua0g_1 ui5.toNat (0 : Nat), ua0g_1 ui5.toNat (1 : Nat), ua0g_1 ui5.toNat (2 : Nat), ua0g_1 ui5.toNat (3 : Nat), ua0g_1 ui5.toNat (4 : Nat), ua0g_1 ui5.toNat (5 : Nat), ua0g_1 ui5.toNat (6 : Nat), ua0g_1 ui5.toNat (7 : Nat), ua0g_1 ui5.toNat (8 : Nat)] then bif decide ((0 : Int) ≤ ui5) then bif decide (ui5 < (↑ub1n_1 : Int)) then bif fitKs [LK.s, LK.i IntKind.u8, LK.i IntKind.i64, LK.i IntKind.i64, LK.b, LK.b, LK.f FloatKind.f64, LK.f FloatKind.f64, LK.f FloatKind.f64] [ub1g_1 ui5.toNat (0 : Nat), ub1g_1 ui5.toNat (1 : Nat), ub1g_1 ui5.toNat (2 : Nat), ub1g_1 ui5.toNat (3 : Nat), ub1g_1 ui5.toNat (4 : Nat), ub1g_1 ui5.toNat (5 : Nat), ub1g_1 ui5.toNat (6 : Nat), ub1g_1 ui5.toNat (7 : Nat), ub1g_1 ui5.toNat (8 : Nat)] then bif okM [RS.one LK.b] (M40 [AV.agg [AV.str (toS (ua0g_1 ui5.toNat (0 : Nat))), AV.int IntKind.u8 (toI (ua0g_1 ui5.toNat (1 : Nat))), AV.int IntKind.i64 (toI (ua0g_1 ui5.toNat (2 : Nat))), AV.int IntKind.i64 (toI (ua0g_1 ui5.toNat (3 : Nat))), AV.bool (toB (ua0g_1 ui5.toNat (4 : Nat))), AV.bool (toB (ua0g_1 ui5.toNat (5 : Nat))), AV.flt FloatKind.f64 (toF (ua0g_1 ui5.toNat (6 : Nat))), AV.flt FloatKind.f64 (toF (ua0g_1 ui5.toNat (7 : Nat))), AV.flt FloatKind.f64 (toF (ua0g_1 ui5.toNat (8 : Nat)))], AV.agg [AV.str (toS (ub1g_1 ui5.toNat (0 : Nat))), AV.int IntKind.u8 (toI (ub1g_1 ui5.toNat (1 : Nat))), AV.int IntKind.i64 (toI (ub1g_1 ui5.toNat (2 : Nat))), AV.int IntKind.i64 (toI (ub1g_1 ui5.toNat (3 : Nat))), AV.bool (toB (ub1g_1 ui5.toNat (4 : Nat))), AV.bool (toB (ub1g_1 ui5.toNat (5 : Nat))), AV.flt FloatKind.f64 (toF (ub1g_1 ui5.toNat (6 : Nat))), AV.flt FloatKind.f64 (toF (ub1g_1 ui5.toNat (7 : Nat))), AV.flt FloatKind.f64 (toF (ub1g_1 ui5.toNat (8 : Nat)))]]) then bif !toB (getV (M40 [AV.agg [AV.str (toS (ua0g_1 ui5.toNat (0 : Nat))), AV.int IntKind.u8 (toI (ua0g_1 ui5.toNat (1 : Nat))), AV.int IntKind.i64 (toI (ua0g_1 ui5.toNat (2 : Nat))), AV.int IntKind.i64 (toI (ua0g_1 ui5.toNat (3 : Nat))), AV.bool (toB (ua0g_1 ui5.toNat (4 : Nat))), AV.bool (toB (ua0g_1 ui5.toNat (5 : Nat))), AV.flt FloatKind.f64 (toF (ua0g_1 ui5.toNat (6 : Nat))), AV.flt FloatKind.f64 (toF (ua0g_1 ui5.toNat (7 : Nat))), AV.flt FloatKind.f64 (toF (ua0g_1 ui5.toNat (8 : Nat)))], AV.agg [AV.str (toS (ub1g_1 ui5.toNat (0 : Nat))), AV.int IntKind.u8 (toI (ub1g_1 ui5.toNat (1 : Nat))), AV.int IntKind.i64 (toI (ub1g_1 ui5.toNat (2 : Nat))), AV.int IntKind.i64 (toI (ub1g_1 ui5.toNat (3 : Nat))), AV.bool (toB (ub1g_1 ui5.toNat (4 : Nat))), AV.bool (toB (ub1g_1 ui5.toNat (5 : Nat))), AV.flt FloatKind.f64 (toF (ub1g_1 ui5.toNat (6 : Nat))), AV.flt FloatKind.f64 (toF (ub1g_1 ui5.toNat (7 : Nat))), AV.flt FloatKind.f64 (toF (ub1g_1 ui5.toNat (8 : Nat)))]])) then kx0 (false)
                  else kn (IntKind.i64.wrap (ui5 + (1 : Int)))
                else none
              else none
            else none
          else none
        else none
      else none
    else none
  else kx1
noncomputable def g39_l0 (M40 : List AV → Option AV) (fuel : Nat) (kx0 : Bool → Option AV) (kx1 : Option AV) (ua0n_1 : Nat) (ua0r_1 : Nat) (ua0g_1 : Nat → Nat → AV) (ub1n_1 : Nat) (ub1r_1 : Nat) (ub1g_1 : Nat → Nat → AV) : Nat → Int → Option AV
  | 0, _ => none
  | n' + 1, ui5 => g39_l0_step M40 fuel (g39_l0 M40 fuel kx0 kx1 ua0n_1 ua0r_1 ua0g_1 ub1n_1 ub1r_1 ub1g_1 n') kx0 kx1 ua0n_1 ua0r_1 ua0g_1 ub1n_1 ub1r_1 ub1g_1 ui5
noncomputable def T39_0 : TS' := ⟨[(0, TA.ro 9), (1, TA.ro 9), (5, TA.i IntKind.i64)], [], []⟩
noncomputable def F39_0 (M40 : List AV → Option AV) (fuel : Nat) (ps : List Pay) (K : Ex → St → Option AV) : Option AV := match ps with
  | .n ua0n_1 :: .n ua0r_1 :: .g ua0g_1 :: .n ub1n_1 :: .n ub1r_1 :: .g ub1g_1 :: .i ui5 :: [] => g39_l0 M40 fuel (fun xu4_1 => K (Ex.ret) (X39_0_0 xu4_1)) (K (Ex.exit (0 : Nat)) X39_0_1) ua0n_1 ua0r_1 ua0g_1 ub1n_1 ub1r_1 ub1g_1 fuel ui5
  | _ => none
noncomputable def L39 (M40 : List AV → Option AV) (fuel : Nat) : Lam AV := [(134215728, lam T39_0 (F39_0 M40 fuel))]
noncomputable def G39 (M40 : List AV → Option AV) : Gam := [(40, smM [RS.one LK.b] M40)]
theorem g39_l0_eq (M40 : List AV → Option AV) (fuel : Nat) (call : CallI AV) (kn : St → Option AV) (K : Ex → St → Option AV) (ua0n_1 : Nat) (ua0r_1 : Nat) (ua0g_1 : Nat → Nat → AV) (ub1n_1 : Nat) (ub1r_1 : Nat) (ub1g_1 : Nat → Nat → AV) (ui50 : Int) (ui5 : Int) :
    exec Pr (G39 M40) (L39 M40 fuel) (fnNt Pr 39) fuel call (lp Pr 39 0).1 (lp Pr 39 0).2 (live (lp Pr 39 0).1 (lp Pr 39 0).2 0) (S39_0 ua0n_1 ua0r_1 ua0g_1 ub1n_1 ub1r_1 ub1g_1 ui5) (fun e s => match e with | .normal => kn (headN (live (lp Pr 39 0).1 (lp Pr 39 0).2 0) (writes (lp Pr 39 0).1) (S39_0 ua0n_1 ua0r_1 ua0g_1 ub1n_1 ub1r_1 ub1g_1 ui50) s) | e => K e s) =
    g39_l0_step M40 fuel (fun ui5 => kn (S39_0 ua0n_1 ua0r_1 ua0g_1 ub1n_1 ub1r_1 ub1g_1 ui5)) (fun xu4 => K (Ex.ret) (X39_0_0 xu4)) (K (Ex.exit (0 : Nat)) X39_0_1) ua0n_1 ua0r_1 ua0g_1 ub1n_1 ub1r_1 ub1g_1 ui5 := by kernel_rfl
theorem g39_l0_ok (M40 : List AV → Option AV) (fuel : Nat) (call : CallI AV) (K : Ex → St → Option AV) (ua0n_1 : Nat) (ua0r_1 : Nat) (ua0g_1 : Nat → Nat → AV) (ub1n_1 : Nat) (ub1r_1 : Nat) (ub1g_1 : Nat → Nat → AV) (ui50 : Int) : ∀ (n' : Nat) (ui5 : Int),
    loopK (exec Pr (G39 M40) (L39 M40 fuel) (fnNt Pr 39) fuel call (lp Pr 39 0).1 (lp Pr 39 0).2 (live (lp Pr 39 0).1 (lp Pr 39 0).2 0)) (headN (live (lp Pr 39 0).1 (lp Pr 39 0).2 0) (writes (lp Pr 39 0).1) (S39_0 ua0n_1 ua0r_1 ua0g_1 ub1n_1 ub1r_1 ub1g_1 ui50)) n' (S39_0 ua0n_1 ua0r_1 ua0g_1 ub1n_1 ub1r_1 ub1g_1 ui5) K = g39_l0 M40 fuel (fun xu4 => K (Ex.ret) (X39_0_0 xu4)) (K (Ex.exit (0 : Nat)) X39_0_1) ua0n_1 ua0r_1 ua0g_1 ub1n_1 ub1r_1 ub1g_1 n' ui5
  | 0, _ => rfl
  | n' + 1, ui5 => (g39_l0_eq M40 fuel call (fun s => loopK (exec Pr (G39 M40) (L39 M40 fuel) (fnNt Pr 39) fuel call (lp Pr 39 0).1 (lp Pr 39 0).2 (live (lp Pr 39 0).1 (lp Pr 39 0).2 0)) (headN (live (lp Pr 39 0).1 (lp Pr 39 0).2 0) (writes (lp Pr 39 0).1) (S39_0 ua0n_1 ua0r_1 ua0g_1 ub1n_1 ub1r_1 ub1g_1 ui50)) n' s K) K ua0n_1 ua0r_1 ua0g_1 ub1n_1 ub1r_1 ub1g_1 ui50 ui5).trans
    (congrArg (fun kn => g39_l0_step M40 fuel kn (fun xu4 => K (Ex.ret) (X39_0_0 xu4)) (K (Ex.exit (0 : Nat)) X39_0_1) ua0n_1 ua0r_1 ua0g_1 ub1n_1 ub1r_1 ub1g_1 ui5) (funext fun _ => g39_l0_ok M40 fuel call K ua0n_1 ua0r_1 ua0g_1 ub1n_1 ub1r_1 ub1g_1 ui50 n' _))
theorem g39_L0 (M40 : List AV → Option AV) (fuel : Nat) (call : CallI AV) : LOk Pr (G39 M40) (L39 M40 fuel) (fnNt Pr 39) fuel call (lp Pr 39 0) := by
  refine .of T39_0 (F39_0 M40 fuel) (fun L h => ?_) (fun ps st K r he hr => ?_)
  · have e : (L39 M40 fuel).get (writes (lp Pr 39 0).1) = some (lam T39_0 (F39_0 M40 fuel)) := by kernel_rfl
    exact (Option.some.inj (e.symm.trans h)).symm
  · unfold F39_0 at hr
    split at hr
    · obtain rfl := (Option.some.inj he).symm
      exact (g39_l0_ok M40 fuel call K _ _ _ _ _ _ _ fuel _).trans hr
    · cases hr
noncomputable def g39 (M40 : List AV → Option AV) (fuel : Nat) (ua0n : Nat) (ua0r : Nat) (ua0g : Nat → Nat → AV) (ub1n : Nat) (ub1r : Nat) (ub1g : Nat → Nat → AV) : Option AV :=
  bif (↑ua0n : Int) != (↑ub1n : Int) then some (AV.bool false)
  else g39_l0 M40 fuel
    (fun (xu4 : Bool) => some (AV.bool xu4))
    (some (AV.bool true))
    (ua0n)
    (ua0r)
    (ua0g)
    (ub1n)
    (ub1r)
    (ub1g) fuel ((0 : Int))
theorem g39_run (M40 : List AV → Option AV) (fuel : Nat) (ua0n : Nat) (ua0r : Nat) (ua0g : Nat → Nat → AV) (ub1n : Nat) (ub1r : Nat) (ub1g : Nat → Nat → AV) : run Pr (G39 M40) [((0, 39), L39 M40 fuel)] fuel 1 39 [AV.ro (9 : Nat) ua0n ua0r ua0g, AV.ro (9 : Nat) ub1n ub1r ub1g] = g39 M40 fuel ua0n ua0r ua0g ub1n ub1r ub1g := by kernel_rfl
noncomputable def m39 (M40 : List AV → Option AV) (fuel : Nat) (xs : List AV) : Option AV := match xs with
  | [AV.ro (9 : Nat) ua0n ua0r ua0g, AV.ro (9 : Nat) ub1n ub1r ub1g] => g39 M40 fuel ua0n ua0r ua0g ub1n ub1r ub1g
  | _ => none
abbrev R39 : List RS := [RS.one LK.b]
theorem g39_sm (M40 : List AV → Option AV) (fuel : Nat) (hΓ : ∀ f s, (G39 M40).get f = some s → SmOk Pr f s) (hP : NamesOk Pr) : SmOk Pr 39 (smM R39 (m39 M40 fuel)) := by
  refine smM_ok (fuel := fuel) hΓ hP (LamOk.of 39 (L39 M40 fuel) 1 (by kernel_rfl) (fun i hi => ?_)) 1 39 R39 _ (fun xs v h => ?_)
  · match i, hi with
    | 0, _ => exact g39_L0 M40 fuel _
    | i + 1, hi => exact absurd hi (by omega)
  · unfold m39 at h
    split at h
    · exact (g39_run M40 fuel _ _ _ _ _ _).trans h
    · cases h

/-! ### function 20 -/
noncomputable def L20 (M38 : List AV → Option AV) (M39 : List AV → Option AV) (fuel : Nat) : Lam AV := []
noncomputable def G20 (M38 : List AV → Option AV) (M39 : List AV → Option AV) : Gam := [(38, smM [RS.one LK.b] M38), (39, smM [RS.one LK.b] M39)]
noncomputable def g20 (M38 : List AV → Option AV) (M39 : List AV → Option AV) (fuel : Nat) (ua0_0n : Nat) (ua0_0r : Nat) (ua0_0g : Nat → Nat → AV) (ua0_1n : Nat) (ua0_1r : Nat) (ua0_1g : Nat → Nat → AV) (ub1_0n : Nat) (ub1_0r : Nat) (ub1_0g : Nat → Nat → AV) (ub1_1n : Nat) (ub1_1r : Nat) (ub1_1g : Nat → Nat → AV) : Option AV :=
  bif okM [RS.one LK.b] (M38 [AV.ro (4 : Nat) ua0_0n ua0_0r ua0_0g, AV.ro (4 : Nat) ub1_0n ub1_0r ub1_0g]) then bif bif toB (getV (M38 [AV.ro (4 : Nat) ua0_0n ua0_0r ua0_0g, AV.ro (4 : Nat) ub1_0n ub1_0r ub1_0g])) then true else true then bif bif toB (getV (M38 [AV.ro (4 : Nat) ua0_0n ua0_0r ua0_0g, AV.ro (4 : Nat) ub1_0n ub1_0r ub1_0g])) then true else true then bif bif toB (getV (M38 [AV.ro (4 : Nat) ua0_0n ua0_0r ua0_0g, AV.ro (4 : Nat) ub1_0n ub1_0r ub1_0g])) then okM [RS.one LK.b] (M39 [AV.ro (9 : Nat) ua0_1n ua0_1r ua0_1g, AV.ro (9 : Nat) ub1_1n ub1_1r ub1_1g]) else true then some (AV.bool (bif toB (getV (M38 [AV.ro (4 : Nat) ua0_0n ua0_0r ua0_0g, AV.ro (4 : Nat) ub1_0n ub1_0r ub1_0g])) then toB (getV (M39 [AV.ro (9 : Nat) ua0_1n ua0_1r ua0_1g, AV.ro (9 : Nat) ub1_1n ub1_1r ub1_1g])) else false))
        else none
      else none
    else none
  else none
theorem g20_run (M38 : List AV → Option AV) (M39 : List AV → Option AV) (fuel : Nat) (ua0_0n : Nat) (ua0_0r : Nat) (ua0_0g : Nat → Nat → AV) (ua0_1n : Nat) (ua0_1r : Nat) (ua0_1g : Nat → Nat → AV) (ub1_0n : Nat) (ub1_0r : Nat) (ub1_0g : Nat → Nat → AV) (ub1_1n : Nat) (ub1_1r : Nat) (ub1_1g : Nat → Nat → AV) : run Pr (G20 M38 M39) [((0, 20), L20 M38 M39 fuel)] fuel 1 20 [AV.agg [AV.ro (4 : Nat) ua0_0n ua0_0r ua0_0g, AV.ro (9 : Nat) ua0_1n ua0_1r ua0_1g], AV.agg [AV.ro (4 : Nat) ub1_0n ub1_0r ub1_0g, AV.ro (9 : Nat) ub1_1n ub1_1r ub1_1g]] = g20 M38 M39 fuel ua0_0n ua0_0r ua0_0g ua0_1n ua0_1r ua0_1g ub1_0n ub1_0r ub1_0g ub1_1n ub1_1r ub1_1g := by kernel_rfl
noncomputable def m20 (M38 : List AV → Option AV) (M39 : List AV → Option AV) (fuel : Nat) (xs : List AV) : Option AV := match xs with
  | [AV.agg [AV.ro (4 : Nat) ua0_0n ua0_0r ua0_0g, AV.ro (9 : Nat) ua0_1n ua0_1r ua0_1g], AV.agg [AV.ro (4 : Nat) ub1_0n ub1_0r ub1_0g, AV.ro (9 : Nat) ub1_1n ub1_1r ub1_1g]] => g20 M38 M39 fuel ua0_0n ua0_0r ua0_0g ua0_1n ua0_1r ua0_1g ub1_0n ub1_0r ub1_0g ub1_1n ub1_1r ub1_1g
  | _ => none
abbrev R20 : List RS := [RS.one LK.b]
theorem g20_sm (M38 : List AV → Option AV) (M39 : List AV → Option AV) (fuel : Nat) (hΓ : ∀ f s, (G20 M38 M39).get f = some s → SmOk Pr f s) (hP : NamesOk Pr) : SmOk Pr 20 (smM R20 (m20 M38 M39 fuel)) := by
  refine smM_ok (fuel := fuel) hΓ hP (LamOk.of 20 (L20 M38 M39 fuel) 0 (by kernel_rfl) (fun i hi => ?_)) 1 20 R20 _ (fun xs v h => ?_)
  · match i, hi with
    | i + 0, hi => exact absurd hi (by omega)
  · unfold m20 at h
    split at h
    · exact (g20_run M38 M39 fuel _ _ _ _ _ _ _ _ _ _ _ _).trans h
    · cases h

/-! ### function 21 -/
noncomputable def S21_0 (ul1n_1 : Nat) (ul1r_1 : Nat) (ul1g_1 : Nat → Nat → AV) (all5n : Nat) (all5r : Nat) (all5g : Nat → Nat → AV) (ui6 : Int) : St := { env := [((1 : Nat), AV.ro (4 : Nat) ul1n_1 ul1r_1 ul1g_1), ((5 : Nat), AV.ro (4 : Nat) all5n all5r all5g), ((6 : Nat), AV.int IntKind.i64 ui6)], h := [], kd := [] }
noncomputable def X21_0_0 (xu4_1 : Bool) : St := { env := [((4 : Nat), AV.bool xu4_1)], h := [], kd := [] }
noncomputable def X21_0_1 : St := { env := [], h := [], kd := [] }
noncomputable def g21_l0_step (M26 : List AV → Option AV) (fuel : Nat) (kn : Int → Option AV) (kx0 : Bool → Option AV) (kx1 : Option AV) (ul1n_1 : Nat) (ul1r_1 : Nat) (ul1g_1 : Nat → Nat → AV) (all5n : Nat) (all5r : Nat) (all5g : Nat → Nat → AV) (ui6 : Int) : Option AV :=
  bif decide (ui6 < (↑all5n : Int)) then bif bif decide (ui6 < (↑ul1n_1 : Int)) then decide ((0 : Int) ≤ ui6) else true then bif bif decide (ui6 < (↑ul1n_1 : Int)) then decide (ui6 < (↑all5n : Int)) else true then bif bif decide (ui6 < (↑ul1n_1 : Int)) then true else true then bif bif decide (ui6 < (↑ul1n_1 : Int)) then fitKs [LK.s, LK.i IntKind.i32, LK.i IntKind.i32, LK.i IntKind.u8] [all5g ui6.toNat (0 : Nat), all5g ui6.toNat (1 : Nat), all5g ui6.toNat (2 : Nat), all5g ui6.toNat (3 : Nat)] else true then bif bif decide (ui6 < (↑ul1n_1 : Int)) then decide ((0 : Int) ≤ ui6) else true then bif bif decide (ui6 < (↑ul1n_1 : Int)) then decide (ui6 < (↑ul1n_1 : Int)) else true then bif bif decide (ui6 < (↑ul1n_1 : Int)) then true else true then bif bif decide (ui6 < (↑ul1n_1 : Int)) then fitKs [LK.s, LK.i IntKind.i32, LK.i IntKind.i32, LK.i IntKind.u8] [ul1g_1 ui6.toNat (0 : Nat), ul1g_1 ui6.toNat (1 : Nat), ul1g_1 ui6.toNat (2 : Nat), ul1g_1 ui6.toNat (3 : Nat)] else true then bif bif decide (ui6 ≥ (↑ul1n_1 : Int)) then decide ((0 : Int) ≤ ui6) else true then bif bif decide (ui6 ≥ (↑ul1n_1 : Int)) then decide (ui6 < (↑all5n : Int)) else true then bif bif decide (ui6 ≥ (↑ul1n_1 : Int)) then true else true then bif bif decide (ui6 ≥ (↑ul1n_1 : Int)) then fitKs [LK.s, LK.i IntKind.i32, LK.i IntKind.i32, LK.i IntKind.u8] [all5g ui6.toNat (0 : Nat), all5g ui6.toNat (1 : Nat), all5g ui6.toNat (2 : Nat), all5g ui6.toNat (3 : Nat)] else true then bif bif decide (ui6 ≥ (↑ul1n_1 : Int)) then okM [RS.agg [LK.s, LK.i IntKind.i32, LK.i IntKind.i32, LK.i IntKind.u8]] (M26 [AV.int IntKind.i64 (1 : Int), AV.int IntKind.i64 (IntKind.i64.wrap (ui6 - (↑ul1n_1 : Int)))]) else true then bif bif bif decide (ui6 < (↑ul1n_1 : Int)) then !bif strEq (toS (all5g ui6.toNat (0 : Nat))) (toS (ul1g_1 ui6.toNat (0 : Nat))) then bif toI (all5g ui6.toNat (1 : Nat)) == toI (ul1g_1 ui6.toNat (1 : Nat)) then bif toI (all5g ui6.toNat (2 : Nat)) == toI (ul1g_1 ui6.toNat (2 : Nat)) then bif toI (all5g ui6.toNat (3 : Nat)) == toI (ul1g_1 ui6.toNat (3 : Nat)) then true else false else false else false else false else false then true else bif decide (ui6 ≥ (↑ul1n_1 : Int)) then !bif strEq (toS (all5g ui6.toNat (0 : Nat))) (toS ((toC (getV (M26 [AV.int IntKind.i64 (1 : Int), AV.int IntKind.i64 (IntKind.i64.wrap (ui6 - (↑ul1n_1 : Int)))]))).headD AV.dead)) then bif toI (all5g ui6.toNat (1 : Nat)) == toI ((toC (getV (M26 [AV.int IntKind.i64 (1 : Int), AV.int IntKind.i64 (IntKind.i64.wrap (ui6 - (↑ul1n_1 : Int)))]))).tail.headD AV.dead) then bif toI (all5g ui6.toNat (2 : Nat)) == toI ((toC (getV (M26 [AV.int IntKind.i64 (1 : Int), AV.int IntKind.i64 (IntKind.i64.wrap (ui6 - (↑ul1n_1 : Int)))]))).tail.tail.headD AV.dead) then bif toI (all5g ui6.toNat (3 : Nat)) == toI ((toC (getV (M26 [AV.int IntKind.i64 (1 : Int), AV.int IntKind.i64 (IntKind.i64.wrap (ui6 - (↑ul1n_1 : Int)))]))).tail.tail.tail.headD AV.dead) then true else false else false else false else false else false then kx0 (false)
                              else kn (IntKind.i64.wrap (ui6 + (1 : Int)))
                            else none
                          else none
                        else none
                      else none
                    else none
                  else none
                else none
              else none
            else none
          else none
        else none
      else none
    else none
  else kx1
noncomputable def g21_l0 (M26 : List AV → Option AV) (fuel : Nat) (kx0 : Bool → Option AV) (kx1 : Option AV) (ul1n_1 : Nat) (ul1r_1 : Nat) (ul1g_1 : Nat → Nat → AV) (all5n : Nat) (all5r : Nat) (all5g : Nat → Nat → AV) : Nat → Int → Option AV
  | 0, _ => none
  | n' + 1, ui6 => g21_l0_step M26 fuel (g21_l0 M26 fuel kx0 kx1 ul1n_1 ul1r_1 ul1g_1 all5n all5r all5g n') kx0 kx1 ul1n_1 ul1r_1 ul1g_1 all5n all5r all5g ui6
noncomputable def T21_0 : TS' := ⟨[(1, TA.ro 4), (5, TA.ro 4), (6, TA.i IntKind.i64)], [], []⟩
noncomputable def F21_0 (M26 : List AV → Option AV) (fuel : Nat) (ps : List Pay) (K : Ex → St → Option AV) : Option AV := match ps with
  | .n ul1n_1 :: .n ul1r_1 :: .g ul1g_1 :: .n all5n :: .n all5r :: .g all5g :: .i ui6 :: [] => g21_l0 M26 fuel (fun xu4_1 => K (Ex.ret) (X21_0_0 xu4_1)) (K (Ex.exit (0 : Nat)) X21_0_1) ul1n_1 ul1r_1 ul1g_1 all5n all5r all5g fuel ui6
  | _ => none
noncomputable def L21 (M26 : List AV → Option AV) (fuel : Nat) : Lam AV := [(288230376151580752, lam T21_0 (F21_0 M26 fuel))]
noncomputable def G21 (M26 : List AV → Option AV) : Gam := [(26, smM [RS.agg [LK.s, LK.i IntKind.i32, LK.i IntKind.i32, LK.i IntKind.u8]] M26)]
theorem g21_l0_eq (M26 : List AV → Option AV) (fuel : Nat) (call : CallI AV) (kn : St → Option AV) (K : Ex → St → Option AV) (ul1n_1 : Nat) (ul1r_1 : Nat) (ul1g_1 : Nat → Nat → AV) (all5n : Nat) (all5r : Nat) (all5g : Nat → Nat → AV) (ui60 : Int) (ui6 : Int) :
    exec Pr (G21 M26) (L21 M26 fuel) (fnNt Pr 21) fuel call (lp Pr 21 0).1 (lp Pr 21 0).2 (live (lp Pr 21 0).1 (lp Pr 21 0).2 0) (S21_0 ul1n_1 ul1r_1 ul1g_1 all5n all5r all5g ui6) (fun e s => match e with | .normal => kn (headN (live (lp Pr 21 0).1 (lp Pr 21 0).2 0) (writes (lp Pr 21 0).1) (S21_0 ul1n_1 ul1r_1 ul1g_1 all5n all5r all5g ui60) s) | e => K e s) =
    g21_l0_step M26 fuel (fun ui6 => kn (S21_0 ul1n_1 ul1r_1 ul1g_1 all5n all5r all5g ui6)) (fun xu4 => K (Ex.ret) (X21_0_0 xu4)) (K (Ex.exit (0 : Nat)) X21_0_1) ul1n_1 ul1r_1 ul1g_1 all5n all5r all5g ui6 := by kernel_rfl
theorem g21_l0_ok (M26 : List AV → Option AV) (fuel : Nat) (call : CallI AV) (K : Ex → St → Option AV) (ul1n_1 : Nat) (ul1r_1 : Nat) (ul1g_1 : Nat → Nat → AV) (all5n : Nat) (all5r : Nat) (all5g : Nat → Nat → AV) (ui60 : Int) : ∀ (n' : Nat) (ui6 : Int),
    loopK (exec Pr (G21 M26) (L21 M26 fuel) (fnNt Pr 21) fuel call (lp Pr 21 0).1 (lp Pr 21 0).2 (live (lp Pr 21 0).1 (lp Pr 21 0).2 0)) (headN (live (lp Pr 21 0).1 (lp Pr 21 0).2 0) (writes (lp Pr 21 0).1) (S21_0 ul1n_1 ul1r_1 ul1g_1 all5n all5r all5g ui60)) n' (S21_0 ul1n_1 ul1r_1 ul1g_1 all5n all5r all5g ui6) K = g21_l0 M26 fuel (fun xu4 => K (Ex.ret) (X21_0_0 xu4)) (K (Ex.exit (0 : Nat)) X21_0_1) ul1n_1 ul1r_1 ul1g_1 all5n all5r all5g n' ui6
  | 0, _ => rfl
  | n' + 1, ui6 => (g21_l0_eq M26 fuel call (fun s => loopK (exec Pr (G21 M26) (L21 M26 fuel) (fnNt Pr 21) fuel call (lp Pr 21 0).1 (lp Pr 21 0).2 (live (lp Pr 21 0).1 (lp Pr 21 0).2 0)) (headN (live (lp Pr 21 0).1 (lp Pr 21 0).2 0) (writes (lp Pr 21 0).1) (S21_0 ul1n_1 ul1r_1 ul1g_1 all5n all5r all5g ui60)) n' s K) K ul1n_1 ul1r_1 ul1g_1 all5n all5r all5g ui60 ui6).trans
    (congrArg (fun kn => g21_l0_step M26 fuel kn (fun xu4 => K (Ex.ret) (X21_0_0 xu4)) (K (Ex.exit (0 : Nat)) X21_0_1) ul1n_1 ul1r_1 ul1g_1 all5n all5r all5g ui6) (funext fun _ => g21_l0_ok M26 fuel call K ul1n_1 ul1r_1 ul1g_1 all5n all5r all5g ui60 n' _))
theorem g21_L0 (M26 : List AV → Option AV) (fuel : Nat) (call : CallI AV) : LOk Pr (G21 M26) (L21 M26 fuel) (fnNt Pr 21) fuel call (lp Pr 21 0) := by
  refine .of T21_0 (F21_0 M26 fuel) (fun L h => ?_) (fun ps st K r he hr => ?_)
  · have e : (L21 M26 fuel).get (writes (lp Pr 21 0).1) = some (lam T21_0 (F21_0 M26 fuel)) := by kernel_rfl
    exact (Option.some.inj (e.symm.trans h)).symm
  · unfold F21_0 at hr
    split at hr
    · obtain rfl := (Option.some.inj he).symm
      exact (g21_l0_ok M26 fuel call K _ _ _ _ _ _ _ fuel _).trans hr
    · cases hr
noncomputable def g21 (M26 : List AV → Option AV) (fuel : Nat) (out0n : Nat) (out0r : Nat) (out0g : Nat → Nat → AV) (ul1n : Nat) (ul1r : Nat) (ul1g : Nat → Nat → AV) : Option AV :=
  bif (↑out0n : Int) != (↑ul1n : Int) then some (AV.bool false)
  else bif decide ((0 : Int) ≤ IntKind.i64.wrap ((↑ul1n : Int) + (12 : Int))) then bif decide (IntKind.i64.wrap ((↑ul1n : Int) + (12 : Int)) ≤ (↑out0r : Int)) then g21_l0 M26 fuel
        (fun (xu4 : Bool) => some (AV.bool xu4))
        (some (AV.bool true))
        (ul1n)
        (ul1r)
        (ul1g)
        ((IntKind.i64.wrap ((↑ul1n : Int) + (12 : Int))).toNat - (0 : Nat))
        (out0r - (0 : Nat))
        (fun (i : Nat) => out0g ((0 : Nat) + i)) fuel ((0 : Int))
    else none
  else none
theorem g21_run (M26 : List AV → Option AV) (fuel : Nat) (out0n : Nat) (out0r : Nat) (out0g : Nat → Nat → AV) (ul1n : Nat) (ul1r : Nat) (ul1g : Nat → Nat → AV) : run Pr (G21 M26) [((0, 21), L21 M26 fuel)] fuel 1 21 [AV.ro (4 : Nat) out0n out0r out0g, AV.ro (4 : Nat) ul1n ul1r ul1g] = g21 M26 fuel out0n out0r out0g ul1n ul1r ul1g := by kernel_rfl
noncomputable def m21 (M26 : List AV → Option AV) (fuel : Nat) (xs : List AV) : Option AV := match xs with
  | [AV.ro (4 : Nat) out0n out0r out0g, AV.ro (4 : Nat) ul1n ul1r ul1g] => g21 M26 fuel out0n out0r out0g ul1n ul1r ul1g
  | _ => none
abbrev R21 : List RS := [RS.one LK.b]
theorem g21_sm (M26 : List AV → Option AV) (fuel : Nat) (hΓ : ∀ f s, (G21 M26).get f = some s → SmOk Pr f s) (hP : NamesOk Pr) : SmOk Pr 21 (smM R21 (m21 M26 fuel)) := by
  refine smM_ok (fuel := fuel) hΓ hP (LamOk.of 21 (L21 M26 fuel) 1 (by kernel_rfl) (fun i hi => ?_)) 1 21 R21 _ (fun xs v h => ?_)
  · match i, hi with
    | 0, _ => exact g21_L0 M26 fuel _
    | i + 1, hi => exact absurd hi (by omega)
  · unfold m21 at h
    split at h
    · exact (g21_run M26 fuel _ _ _ _ _ _).trans h
    · cases h

/-! ### function 22 -/
noncomputable def S22_0 (ul1n_1 : Nat) (ul1r_1 : Nat) (ul1g_1 : Nat → Nat → AV) (all5n : Nat) (all5r : Nat) (all5g : Nat → Nat → AV) (ui6 : Int) : St := { env := [((1 : Nat), AV.ro (9 : Nat) ul1n_1 ul1r_1 ul1g_1), ((5 : Nat), AV.ro (9 : Nat) all5n all5r all5g), ((6 : Nat), AV.int IntKind.i64 ui6)], h := [], kd := [] }
noncomputable def X22_0_0 (xu4_1 : Bool) : St := { env := [((4 : Nat), AV.bool xu4_1)], h := [], kd := [] }
noncomputable def X22_0_1 : St := { env := [], h := [], kd := [] }
noncomputable def g22_l0_step (M27 : List AV → Option AV) (M40 : List AV → Option AV) (fuel : Nat) (kn : Int → Option AV) (kx0 : Bool → Option AV) (kx1 : Option AV) (ul1n_1 : Nat) (ul1r_1 : Nat) (ul1g_1 : Nat → Nat → AV) (all5n : Nat) (all5r : Nat) (all5g : Nat → Nat → AV) (ui6 : Int) : Option AV :=
  bif decide (ui6 < (↑all5n : Int)) then bif bif decide (ui6 < (↑ul1n_1 : Int)) then decide ((0 : Int) ≤ ui6) else true then bif bif decide (ui6 < (↑ul1n_1 : Int)) then decide (ui6 < (↑all5n : Int)) else true then bif bif decide (ui6 < (↑ul1n_1 : Int)) then true else true then bif bif decide (ui6 < (↑ul1n_1 : Int)) then fitKs [LK.s, LK.i IntKind.u8, LK.i IntKind.i64, LK.i IntKind.i64, LK.b, LK.b, LK.f FloatKind.f64, LK.f FloatKind.f64, LK.f FloatKind.f64] [all5g ui6.toNat (0 : Nat), all5g ui6.toNat (1 : Nat), all5g ui6.toNat (2 : Nat), all5g ui6.toNat (3 : Nat), all5g ui6.toNat (4 : Nat), all5g ui6.toNat (5 : Nat), all5g ui6.toNat (6 : Nat), all5g ui6.toNat (7 : Nat), all5g ui6.toNat (8 : Nat)] else true then bif bif decide (ui6 < (↑ul1n_1 : Int)) then decide ((0 : Int) ≤ ui6) else true then bif bif decide (ui6 < (↑ul1n_1 : Int)) then decide (ui6 < (↑ul1n_1 : Int)) else true then bif bif decide (ui6 < (↑ul1n_1 : Int)) then true else true then bif bif decide (ui6 < (↑ul1n_1 : Int)) then fitKs [LK.s, LK.i IntKind.u8, LK.i IntKind.i64, LK.i IntKind.i64, LK.b, LK.b, LK.f FloatKind.f64, LK.f FloatKind.f64, LK.f FloatKind.f64] [ul1g_1 ui6.toNat (0 : Nat), ul1g_1 ui6.toNat (1 : Nat), ul1g_1 ui6.toNat (2 : Nat), ul1g_1 ui6.toNat (3 : Nat), ul1g_1 ui6.toNat (4 : Nat), ul1g_1 ui6.toNat (5 : Nat), ul1g_1 ui6.toNat (6 : Nat), ul1g_1 ui6.toNat (7 : Nat), ul1g_1 ui6.toNat (8 : Nat)] else true then bif bif decide (ui6 < (↑ul1n_1 : Int)) then okM [RS.one LK.b] (M40 [AV.agg [AV.str (toS (all5g ui6.toNat (0 : Nat))), AV.int IntKind.u8 (toI (all5g ui6.toNat (1 : Nat))), AV.int IntKind.i64 (toI (all5g ui6.toNat (2 : Nat))), AV.int IntKind.i64 (toI (all5g ui6.toNat (3 : Nat))), AV.bool (toB (all5g ui6.toNat (4 : Nat))), AV.bool (toB (all5g ui6.toNat (5 : Nat))), AV.flt FloatKind.f64 (toF (all5g ui6.toNat (6 : Nat))), AV.flt FloatKind.f64 (toF (all5g ui6.toNat (7 : Nat))), AV.flt FloatKind.f64 (toF (all5g ui6.toNat (8 : Nat)))], AV.agg [AV.str (toS (ul1g_1 ui6.toNat (0 : Nat))), AV.int IntKind.u8 (toI (ul1g_1 ui6.toNat (1 : Nat))), AV.int IntKind.i64 (toI (ul1g_1 ui6.toNat (2 : Nat))), AV.int IntKind.i64 (toI (ul1g_1 ui6.toNat (3 : Nat))), AV.bool (toB (ul1g_1 ui6.toNat (4 : Nat))), AV.bool (toB (ul1g_1 ui6.toNat (5 : Nat))), AV.flt FloatKind.f64 (toF (ul1g_1 ui6.toNat (6 : Nat))), AV.flt FloatKind.f64 (toF (ul1g_1 ui6.toNat (7 : Nat))), AV.flt FloatKind.f64 (toF (ul1g_1 ui6.toNat (8 : Nat)))]]) else true then bif bif decide (ui6 ≥ (↑ul1n_1 : Int)) then decide ((0 : Int) ≤ ui6) else true then bif bif decide (ui6 ≥ (↑ul1n_1 : Int)) then decide (ui6 < (↑all5n : Int)) else true then bif bif decide (ui6 ≥ (↑ul1n_1 : Int)) then true else true then bif bif decide (ui6 ≥ (↑ul1n_1 : Int)) then fitKs [LK.s, LK.i IntKind.u8, LK.i IntKind.i64, LK.i IntKind.i64, LK.b, LK.b, LK.f FloatKind.f64, LK.f FloatKind.f64, LK.f FloatKind.f64] [all5g ui6.toNat (0 : Nat), all5g ui6.toNat (1 : Nat), all5g ui6.toNat (2 : Nat), all5g ui6.toNat (3 : Nat), all5g ui6.toNat (4 : Nat), all5g ui6.toNat (5 : Nat), all5g ui6.toNat (6 : Nat), all5g ui6.toNat (7 : Nat), all5g ui6.toNat (8 : Nat)] else true then bif bif decide (ui6 ≥ (↑ul1n_1 : Int)) then okM [RS.agg [LK.s, LK.i IntKind.u8, LK.i IntKind.i64, LK.i IntKind.i64, LK.b, LK.b, LK.f FloatKind.f64, LK.f FloatKind.f64, LK.f FloatKind.f64]] (M27 [AV.int IntKind.i64 (1 : Int), AV.int IntKind.i64 (IntKind.i64.wrap (ui6 - (↑ul1n_1 : Int)))]) else true then bif bif decide (ui6 ≥ (↑ul1n_1 : Int)) then okM [RS.one LK.b] (M40 [AV.agg [AV.str (toS (all5g ui6.toNat (0 : Nat))), AV.int IntKind.u8 (toI (all5g ui6.toNat (1 : Nat))), AV.int IntKind.i64 (toI (all5g ui6.toNat (2 : Nat))), AV.int IntKind.i64 (toI (all5g ui6.toNat (3 : Nat))), AV.bool (toB (all5g ui6.toNat (4 : Nat))), AV.bool (toB (all5g ui6.toNat (5 : Nat))), AV.flt FloatKind.f64 (toF (all5g ui6.toNat (6 : Nat))), AV.flt FloatKind.f64 (toF (all5g ui6.toNat (7 : Nat))), AV.flt FloatKind.f64 (toF (all5g ui6.toNat (8 : Nat)))], AV.agg [AV.str (toS ((toC (getV (M27 [AV.int IntKind.i64 (1 : Int), AV.int IntKind.i64 (IntKind.i64.wrap (ui6 - (↑ul1n_1 : Int)))]))).headD AV.dead)), AV.int IntKind.u8 (toI ((toC (getV (M27 [AV.int IntKind.i64 (1 : Int), AV.int IntKind.i64 (IntKind.i64.wrap (ui6 - (↑ul1n_1 : Int)))]))).tail.headD AV.dead)), AV.int IntKind.i64 (toI ((toC (getV (M27 [AV.int IntKind.i64 (1 : Int), AV.int IntKind.i64 (IntKind.i64.wrap (ui6 - (↑ul1n_1 : Int)))]))).tail.tail.headD AV.dead)), AV.int IntKind.i64 (toI ((toC (getV (M27 [AV.int IntKind.i64 (1 : Int), AV.int IntKind.i64 (IntKind.i64.wrap (ui6 - (↑ul1n_1 : Int)))]))).tail.tail.tail.headD AV.dead)), AV.bool (toB ((toC (getV (M27 [AV.int IntKind.i64 (1 : Int), AV.int IntKind.i64 (IntKind.i64.wrap (ui6 - (↑ul1n_1 : Int)))]))).tail.tail.tail.tail.headD AV.dead)), AV.bool (toB ((toC (getV (M27 [AV.int IntKind.i64 (1 : Int), AV.int IntKind.i64 (IntKind.i64.wrap (ui6 - (↑ul1n_1 : Int)))]))).tail.tail.tail.tail.tail.headD AV.dead)), AV.flt FloatKind.f64 (toF ((toC (getV (M27 [AV.int IntKind.i64 (1 : Int), AV.int IntKind.i64 (IntKind.i64.wrap (ui6 - (↑ul1n_1 : Int)))]))).tail.tail.tail.tail.tail.tail.headD AV.dead)), AV.flt FloatKind.f64 (toF ((toC (getV (M27 [AV.int IntKind.i64 (1 : Int), AV.int IntKind.i64 (IntKind.i64.wrap (ui6 - (↑ul1n_1 : Int)))]))).tail.tail.tail.tail.tail.tail.tail.headD AV.dead)), AV.flt FloatKind.f64 (toF ((toC (getV (M27 [AV.int IntKind.i64 (1 : Int), AV.int IntKind.i64 (IntKind.i64.wrap (ui6 - (↑ul1n_1 : Int)))]))).tail.tail.tail.tail.tail.tail.tail.tail.headD AV.dead))]]) else true then bif bif bif decide (ui6 < (↑ul1n_1 : Int)) then !toB (getV (M40 [AV.agg [AV.str (toS (all5g ui6.toNat (0 : Nat))), AV.int IntKind.u8 (toI (all5g ui6.toNat (1 : Nat))), AV.int IntKind.i64 (toI (all5g ui6.toNat (2 : Nat))), AV.int IntKind.i64 (toI (all5g ui6.toNat (3 : Nat))), AV.bool (toB (all5g ui6.toNat (4 : Nat))), AV.bool (toB (all5g ui6.toNat (5 : Nat))), AV.flt FloatKind.f64 (toF (all5g ui6.toNat (6 : Nat))), AV.flt FloatKind.f64 (toF (all5g ui6.toNat (7 : Nat))), AV.flt FloatKind.f64 (toF (all5g ui6.toNat (8 : Nat)))], AV.agg [AV.str (toS (ul1g_1 ui6.toNat (0 : Nat))), AV.int IntKind.u8 (toI (ul1g_1 ui6.toNat (1 : Nat))), AV.int IntKind.i64 (toI (ul1g_1 ui6.toNat (2 : Nat))), AV.int IntKind.i64 (toI (ul1g_1 ui6.toNat (3 : Nat))), AV.bool (toB (ul1g_1 ui6.toNat (4 : Nat))), AV.bool (toB (ul1g_1 ui6.toNat (5 : Nat))), AV.flt FloatKind.f64 (toF (ul1g_1 ui6.toNat (6 : Nat))), AV.flt FloatKind.f64 (toF (ul1g_1 ui6.toNat (7 : Nat))), AV.flt FloatKind.f64 (toF (ul1g_1 ui6.toNat (8 : Nat)))]])) else false then true else bif decide (ui6 ≥ (↑ul1n_1 : Int)) then !toB (getV (M40 [AV.agg [AV.str (toS (all5g ui6.toNat (0 : Nat))), AV.int IntKind.u8 (toI (all5g ui6.toNat (1 : Nat))), AV.int IntKind.i64 (toI (all5g ui6.toNat (2 : Nat))), AV.int IntKind.i64 (toI (all5g ui6.toNat (3 : Nat))), AV.bool (toB (all5g ui6.toNat (4 : Nat))), AV.bool (toB (all5g ui6.toNat (5 : Nat))), AV.flt FloatKind.f64 (toF (all5g ui6.toNat (6 : Nat))), AV.flt FloatKind.f64 (toF (all5g ui6.toNat (7 : Nat))), AV.flt FloatKind.f64 (toF (all5g ui6.toNat (8 : Nat)))], AV.agg [AV.str (toS ((toC (getV (M27 [AV.int IntKind.i64 (1 : Int), AV.int IntKind.i64 (IntKind.i64.wrap (ui6 - (↑ul1n_1 : Int)))]))).headD AV.dead)), AV.int IntKind.u8 (toI ((toC (getV (M27 [AV.int IntKind.i64 (1 : Int), AV.int IntKind.i64 (IntKind.i64.wrap (ui6 - (↑ul1n_1 : Int)))]))).tail.headD AV.dead)), AV.int IntKind.i64 (toI ((toC (getV (M27 [AV.int IntKind.i64 (1 : Int), AV.int IntKind.i64 (IntKind.i64.wrap (ui6 - (↑ul1n_1 : Int)))]))).tail.tail.headD AV.dead)), AV.int IntKind.i64 (toI ((toC (getV (M27 [AV.int IntKind.i64 (1 : Int), AV.int IntKind.i64 (IntKind.i64.wrap (ui6 - (↑ul1n_1 : Int)))]))).tail.tail.tail.headD AV.dead)), AV.bool (toB ((toC (getV (M27 [AV.int IntKind.i64 (1 : Int), AV.int IntKind.i64 (IntKind.i64.wrap (ui6 - (↑ul1n_1 : Int)))]))).tail.tail.tail.tail.headD AV.dead)), AV.bool (toB ((toC (getV (M27 [AV.int IntKind.i64 (1 : Int), AV.int IntKind.i64 (IntKind.i64.wrap (ui6 - (↑ul1n_1 : Int)))]))).tail.tail.tail.tail.tail.headD AV.dead)), AV.flt FloatKind.f64 (toF ((toC (getV (M27 [AV.int IntKind.i64 (1 : Int), AV.int IntKind.i64 (IntKind.i64.wrap (ui6 - (↑ul1n_1 : Int)))]))).tail.tail.tail.tail.tail.tail.headD AV.dead)), AV.flt FloatKind.f64 (toF ((toC (getV (M27 [AV.int IntKind.i64 (1 : Int), AV.int IntKind.i64 (IntKind.i64.wrap (ui6 - (↑ul1n_1 : Int)))]))).tail.tail.tail.tail.tail.tail.tail.headD AV.dead)), AV.flt FloatKind.f64 (toF ((toC (getV (M27 [AV.int IntKind.i64 (1 : Int), AV.int IntKind.i64 (IntKind.i64.wrap (ui6 - (↑ul1n_1 : Int)))]))).tail.tail.tail.tail.tail.tail.tail.tail.headD AV.dead))]])) else false then kx0 (false)
                                  else kn (IntKind.i64.wrap (ui6 + (1 : Int)))
                                else none
                              else none
                            else none
                          else none
                        else none
                      else none
                    else none
                  else none
                else none
              else none
            else none
          else none
        else none
      else none
    else none
  else kx1
noncomputable def g22_l0 (M27 : List AV → Option AV) (M40 : List AV → Option AV) (fuel : Nat) (kx0 : Bool → Option AV) (kx1 : Option AV) (ul1n_1 : Nat) (ul1r_1 : Nat) (ul1g_1 : Nat → Nat → AV) (all5n : Nat) (all5r : Nat) (all5g : Nat → Nat → AV) : Nat → Int → Option AV
  | 0, _ => none
  | n' + 1, ui6 => g22_l0_step M27 M40 fuel (g22_l0 M27 M40 fuel kx0 kx1 ul1n_1 ul1r_1 ul1g_1 all5n all5r all5g n') kx0 kx1 ul1n_1 ul1r_1 ul1g_1 all5n all5r all5g ui6
noncomputable def T22_0 : TS' := ⟨[(1, TA.ro 9), (5, TA.ro 9), (6, TA.i IntKind.i64)], [], []⟩
noncomputable def F22_0 (M27 : List AV → Option AV) (M40 : List AV → Option AV) (fuel : Nat) (ps : List Pay) (K : Ex → St → Option AV) : Option AV := match ps with
  | .n ul1n_1 :: .n ul1r_1 :: .g ul1g_1 :: .n all5n :: .n all5r :: .g all5g :: .i ui6 :: [] => g22_l0 M27 M40 fuel (fun xu4_1 => K (Ex.ret) (X22_0_0 xu4_1)) (K (Ex.exit (0 : Nat)) X22_0_1) ul1n_1 ul1r_1 ul1g_1 all5n all5r all5g fuel ui6
  | _ => none
noncomputable def L22 (M27 : List AV → Option AV) (M40 : List AV → Option AV) (fuel : Nat) : Lam AV := [(288230376151580752, lam T22_0 (F22_0 M27 M40 fuel))]
noncomputable def G22 (M27 : List AV → Option AV) (M40 : List AV → Option AV) : Gam := [(27, smM [RS.agg [LK.s, LK.i IntKind.u8, LK.i IntKind.i64, LK.i IntKind.i64, LK.b, LK.b, LK.f FloatKind.f64, LK.f FloatKind.f64, LK.f FloatKind.f64]] M27), (40, smM [RS.one LK.b] M40)]
theorem g22_l0_eq (M27 : List AV → Option AV) (M40 : List AV → Option AV) (fuel : Nat) (call : CallI AV) (kn : St → Option AV) (K : Ex → St → Option AV) (ul1n_1 : Nat) (ul1r_1 : Nat) (ul1g_1 : Nat → Nat → AV) (all5n : Nat) (all5r : Nat) (all5g : Nat → Nat → AV) (ui60 : Int) (ui6 : Int) :
    exec Pr (G22 M27 M40) (L22 M27 M40 fuel) (fnNt Pr 22) fuel call (lp Pr 22 0).1 (lp Pr 22 0).2 (live (lp Pr 22 0).1 (lp Pr 22 0).2 0) (S22_0 ul1n_1 ul1r_1 ul1g_1 all5n all5r all5g ui6) (fun e s => match e with | .normal => kn (headN (live (lp Pr 22 0).1 (lp Pr 22 0).2 0) (writes (lp Pr 22 0).1) (S22_0 ul1n_1 ul1r_1 ul1g_1 all5n all5r all5g ui60) s) | e => K e s) =
    g22_l0_step M27 M40 fuel (fun ui6 => kn (S22_0 ul1n_1 ul1r_1 ul1g_1 all5n all5r all5g ui6)) (fun xu4 => K (Ex.ret) (X22_0_0 xu4)) (K (Ex.exit (0 : Nat)) X22_0_1) ul1n_1 ul1r_1 ul1g_1 all5n all5r all5g ui6 := by kernel_rfl
theorem g22_l0_ok (M27 : List AV → Option AV) (M40 : List AV → Option AV) (fuel : Nat) (call : CallI AV) (K : Ex → St → Option AV) (ul1n_1 : Nat) (ul1r_1 : Nat) (ul1g_1 : Nat → Nat → AV) (all5n : Nat) (all5r : Nat) (all5g : Nat → Nat → AV) (ui60 : Int) : ∀ (n' : Nat) (ui6 : Int),
    loopK (exec Pr (G22 M27 M40) (L22 M27 M40 fuel) (fnNt Pr 22) fuel call (lp Pr 22 0).1 (lp Pr 22 0).2 (live (lp Pr 22 0).1 (lp Pr 22 0).2 0)) (headN (live (lp Pr 22 0).1 (lp Pr 22 0).2 0) (writes (lp Pr 22 0).1) (S22_0 ul1n_1 ul1r_1 ul1g_1 all5n all5r all5g ui60)) n' (S22_0 ul1n_1 ul1r_1 ul1g_1 all5n all5r all5g ui6) K = g22_l0 M27 M40 fuel (fun xu4 => K (Ex.ret) (X22_0_0 xu4)) (K (Ex.exit (0 : Nat)) X22_0_1) ul1n_1 ul1r_1 ul1g_1 all5n all5r all5g n' ui6
  | 0, _ => rfl
  | n' + 1, ui6 => (g22_l0_eq M27 M40 fuel call (fun s => loopK (exec Pr (G22 M27 M40) (L22 M27 M40 fuel) (fnNt Pr 22) fuel call (lp Pr 22 0).1 (lp Pr 22 0).2 (live (lp Pr 22 0).1 (lp Pr 22 0).2 0)) (headN (live (lp Pr 22 0).1 (lp Pr 22 0).2 0) (writes (lp Pr 22 0).1) (S22_0 ul1n_1 ul1r_1 ul1g_1 all5n all5r all5g ui60)) n' s K) K ul1n_1 ul1r_1 ul1g_1 all5n all5r all5g ui60 ui6).trans
    (congrArg (fun kn => g22_l0_step M27 M40 fuel kn (fun xu4 => K (Ex.ret) (X22_0_0 xu4)) (K (Ex.exit (0 : Nat)) X22_0_1) ul1n_1 ul1r_1 ul1g_1 all5n all5r all5g ui6) (funext fun _ => g22_l0_ok M27 M40 fuel call K ul1n_1 ul1r_1 ul1g_1 all5n all5r all5g ui60 n' _))
theorem g22_L0 (M27 : List AV → Option AV) (M40 : List AV → Option AV) (fuel : Nat) (call : CallI AV) : LOk Pr (G22 M27 M40) (L22 M27 M40 fuel) (fnNt Pr 22) fuel call (lp Pr 22 0) := by
  refine .of T22_0 (F22_0 M27 M40 fuel) (fun L h => ?_) (fun ps st K r he hr => ?_)
  · have e : (L22 M27 M40 fuel).get (writes (lp Pr 22 0).1) = some (lam T22_0 (F22_0 M27 M40 fuel)) := by kernel_rfl
    exact (Option.some.inj (e.symm.trans h)).symm
  · unfold F22_0 at hr
    split at hr
    · obtain rfl := (Option.some.inj he).symm
      exact (g22_l0_ok M27 M40 fuel call K _ _ _ _ _ _ _ fuel _).trans hr
    · cases hr
noncomputable def g22 (M27 : List AV → Option AV) (M40 : List AV → Option AV) (fuel : Nat) (out0n : Nat) (out0r : Nat) (out0g : Nat → Nat → AV) (ul1n : Nat) (ul1r : Nat) (ul1g : Nat → Nat → AV) : Option AV :=
  bif (↑out0n : Int) != (↑ul1n : Int) then some (AV.bool false)
  else bif decide ((0 : Int) ≤ IntKind.i64.wrap ((↑ul1n : Int) + (12 : Int))) then bif decide (IntKind.i64.wrap ((↑ul1n : Int) + (12 : Int)) ≤ (↑out0r : Int)) then g22_l0 M27 M40 fuel
        (fun (xu4 : Bool) => some (AV.bool xu4))
        (some (AV.bool true))
        (ul1n)
        (ul1r)
        (ul1g)
        ((IntKind.i64.wrap ((↑ul1n : Int) + (12 : Int))).toNat - (0 : Nat))
        (out0r - (0 : Nat))
        (fun (i : Nat) => out0g ((0 : Nat) + i)) fuel ((0 : Int))
    else none
  else none
theorem g22_run (M27 : List AV → Option AV) (M40 : List AV → Option AV) (fuel : Nat) (out0n : Nat) (out0r : Nat) (out0g : Nat → Nat → AV) (ul1n : Nat) (ul1r : Nat) (ul1g : Nat → Nat → AV) : run Pr (G22 M27 M40) [((0, 22), L22 M27 M40 fuel)] fuel 1 22 [AV.ro (9 : Nat) out0n out0r out0g, AV.ro (9 : Nat) ul1n ul1r ul1g] = g22 M27 M40 fuel out0n out0r out0g ul1n ul1r ul1g := by kernel_rfl
noncomputable def m22 (M27 : List AV → Option AV) (M40 : List AV → Option AV) (fuel : Nat) (xs : List AV) : Option AV := match xs with
  | [AV.ro (9 : Nat) out0n out0r out0g, AV.ro (9 : Nat) ul1n ul1r ul1g] => g22 M27 M40 fuel out0n out0r out0g ul1n ul1r ul1g
  | _ => none
abbrev R22 : List RS := [RS.one LK.b]
theorem g22_sm (M27 : List AV → Option AV) (M40 : List AV → Option AV) (fuel : Nat) (hΓ : ∀ f s, (G22 M27 M40).get f = some s → SmOk Pr f s) (hP : NamesOk Pr) : SmOk Pr 22 (smM R22 (m22 M27 M40 fuel)) := by
  refine smM_ok (fuel := fuel) hΓ hP (LamOk.of 22 (L22 M27 M40 fuel) 1 (by kernel_rfl) (fun i hi => ?_)) 1 22 R22 _ (fun xs v h => ?_)
  · match i, hi with
    | 0, _ => exact g22_L0 M27 M40 fuel _
    | i + 1, hi => exact absurd hi (by omega)
  · unfold m22 at h
    split at h
    · exact (g22_run M27 M40 fuel _ _ _ _ _ _).trans h
    · cases h

/-! ### function 10 -/
noncomputable def L10 (M20 : List AV → Option AV) (M21 : List AV → Option AV) (M22 : List AV → Option AV) (fuel : Nat) : Lam AV := []
noncomputable def G10 (M20 : List AV → Option AV) (M21 : List AV → Option AV) (M22 : List AV → Option AV) : Gam := [(20, smM [RS.one LK.b] M20), (21, smM [RS.one LK.b] M21), (22, smM [RS.one LK.b] M22)]
noncomputable def g10 (M20 : List AV → Option AV) (M21 : List AV → Option AV) (M22 : List AV → Option AV) (fuel : Nat) (ux0_0n : Nat) (ux0_0r : Nat) (ux0_0g : Nat → Nat → AV) (ux0_1n : Nat) (ux0_1r : Nat) (ux0_1g : Nat → Nat → AV) (uy1_0n : Nat) (uy1_0r : Nat) (uy1_0g : Nat → Nat → AV) (uy1_1n : Nat) (uy1_1r : Nat) (uy1_1g : Nat → Nat → AV) : Option AV :=
  bif okM [RS.one LK.b] (M20 [AV.agg [AV.ro (4 : Nat) ux0_0n ux0_0r ux0_0g, AV.ro (9 : Nat) ux0_1n ux0_1r ux0_1g], AV.agg [AV.ro (4 : Nat) uy1_0n uy1_0r uy1_0g, AV.ro (9 : Nat) uy1_1n uy1_1r uy1_1g]]) then bif bif toB (getV (M20 [AV.agg [AV.ro (4 : Nat) ux0_0n ux0_0r ux0_0g, AV.ro (9 : Nat) ux0_1n ux0_1r ux0_1g], AV.agg [AV.ro (4 : Nat) uy1_0n uy1_0r uy1_0g, AV.ro (9 : Nat) uy1_1n uy1_1r uy1_1g]])) then true else true then bif bif toB (getV (M20 [AV.agg [AV.ro (4 : Nat) ux0_0n ux0_0r ux0_0g, AV.ro (9 : Nat) ux0_1n ux0_1r ux0_1g], AV.agg [AV.ro (4 : Nat) uy1_0n uy1_0r uy1_0g, AV.ro (9 : Nat) uy1_1n uy1_1r uy1_1g]])) then true else true then bif bif toB (getV (M20 [AV.agg [AV.ro (4 : Nat) ux0_0n ux0_0r ux0_0g, AV.ro (9 : Nat) ux0_1n ux0_1r ux0_1g], AV.agg [AV.ro (4 : Nat) uy1_0n uy1_0r uy1_0g, AV.ro (9 : Nat) uy1_1n uy1_1r uy1_1g]])) then okM [RS.one LK.b] (M21 [AV.ro (4 : Nat) ux0_0n ux0_0r ux0_0g, AV.ro (4 : Nat) uy1_0n uy1_0r uy1_0g]) else true then bif bif bif toB (getV (M20 [AV.agg [AV.ro (4 : Nat) ux0_0n ux0_0r ux0_0g, AV.ro (9 : Nat) ux0_1n ux0_1r ux0_1g], AV.agg [AV.ro (4 : Nat) uy1_0n uy1_0r uy1_0g, AV.ro (9 : Nat) uy1_1n uy1_1r uy1_1g]])) then toB (getV (M21 [AV.ro (4 : Nat) ux0_0n ux0_0r ux0_0g, AV.ro (4 : Nat) uy1_0n uy1_0r uy1_0g])) else false then true else true then bif bif bif toB (getV (M20 [AV.agg [AV.ro (4 : Nat) ux0_0n ux0_0r ux0_0g, AV.ro (9 : Nat) ux0_1n ux0_1r ux0_1g], AV.agg [AV.ro (4 : Nat) uy1_0n uy1_0r uy1_0g, AV.ro (9 : Nat) uy1_1n uy1_1r uy1_1g]])) then toB (getV (M21 [AV.ro (4 : Nat) ux0_0n ux0_0r ux0_0g, AV.ro (4 : Nat) uy1_0n uy1_0r uy1_0g])) else false then true else true then bif bif bif toB (getV (M20 [AV.agg [AV.ro (4 : Nat) ux0_0n ux0_0r ux0_0g, AV.ro (9 : Nat) ux0_1n ux0_1r ux0_1g], AV.agg [AV.ro (4 : Nat) uy1_0n uy1_0r uy1_0g, AV.ro (9 : Nat) uy1_1n uy1_1r uy1_1g]])) then toB (getV (M21 [AV.ro (4 : Nat) ux0_0n ux0_0r ux0_0g, AV.ro (4 : Nat) uy1_0n uy1_0r uy1_0g])) else false then okM [RS.one LK.b] (M22 [AV.ro (9 : Nat) ux0_1n ux0_1r ux0_1g, AV.ro (9 : Nat) uy1_1n uy1_1r uy1_1g]) else true then some (AV.bool (bif bif toB (getV (M20 [AV.agg [AV.ro (4 : Nat) ux0_0n ux0_0r ux0_0g, AV.ro (9 : Nat) ux0_1n ux0_1r ux0_1g], AV.agg [AV.ro (4 : Nat) uy1_0n uy1_0r uy1_0g, AV.ro (9 : Nat) uy1_1n uy1_1r uy1_1g]])) then toB (getV (M21 [AV.ro (4 : Nat) ux0_0n ux0_0r ux0_0g, AV.ro (4 : Nat) uy1_0n uy1_0r uy1_0g])) else false then toB (getV (M22 [AV.ro (9 : Nat) ux0_1n ux0_1r ux0_1g, AV.ro (9 : Nat) uy1_1n uy1_1r uy1_1g])) else false))
              else none
            else none
          else none
        else none
      else none
    else none
  else none
theorem g10_run (M20 : List AV → Option AV) (M21 : List AV → Option AV) (M22 : List AV → Option AV) (fuel : Nat) (ux0_0n : Nat) (ux0_0r : Nat) (ux0_0g : Nat → Nat → AV) (ux0_1n : Nat) (ux0_1r : Nat) (ux0_1g : Nat → Nat → AV) (uy1_0n : Nat) (uy1_0r : Nat) (uy1_0g : Nat → Nat → AV) (uy1_1n : Nat) (uy1_1r : Nat) (uy1_1g : Nat → Nat → AV) : run Pr (G10 M20 M21 M22) [((0, 10), L10 M20 M21 M22 fuel)] fuel 1 10 [AV.agg [AV.ro (4 : Nat) ux0_0n ux0_0r ux0_0g, AV.ro (9 : Nat) ux0_1n ux0_1r ux0_1g], AV.agg [AV.ro (4 : Nat) uy1_0n uy1_0r uy1_0g, AV.ro (9 : Nat) uy1_1n uy1_1r uy1_1g]] = g10 M20 M21 M22 fuel ux0_0n ux0_0r ux0_0g ux0_1n ux0_1r ux0_1g uy1_0n uy1_0r uy1_0g uy1_1n uy1_1r uy1_1g := by kernel_rfl
noncomputable def m10 (M20 : List AV → Option AV) (M21 : List AV → Option AV) (M22 : List AV → Option AV) (fuel : Nat) (xs : List AV) : Option AV := match xs with
  | [AV.agg [AV.ro (4 : Nat) ux0_0n ux0_0r ux0_0g, AV.ro (9 : Nat) ux0_1n ux0_1r ux0_1g], AV.agg [AV.ro (4 : Nat) uy1_0n uy1_0r uy1_0g, AV.ro (9 : Nat) uy1_1n uy1_1r uy1_1g]] => g10 M20 M21 M22 fuel ux0_0n ux0_0r ux0_0g ux0_1n ux0_1r ux0_1g uy1_0n uy1_0r uy1_0g uy1_1n uy1_1r uy1_1g
  | _ => none
abbrev R10 : List RS := [RS.one LK.b]
theorem g10_sm (M20 : List AV → Option AV) (M21 : List AV → Option AV) (M22 : List AV → Option AV) (fuel : Nat) (hΓ : ∀ f s, (G10 M20 M21 M22).get f = some s → SmOk Pr f s) (hP : NamesOk Pr) : SmOk Pr 10 (smM R10 (m10 M20 M21 M22 fuel)) := by
  refine smM_ok (fuel := fuel) hΓ hP (LamOk.of 10 (L10 M20 M21 M22 fuel) 0 (by kernel_rfl) (fun i hi => ?_)) 1 10 R10 _ (fun xs v h => ?_)
  · match i, hi with
    | i + 0, hi => exact absurd hi (by omega)
  · unfold m10 at h
    split at h
    · exact (g10_run M20 M21 M22 fuel _ _ _ _ _ _ _ _ _ _ _ _).trans h
    · cases h

/-! ### function 3 -/
noncomputable def L3 (M4 : List AV → Option AV) (M5 : List AV → Option AV) (M6 : List AV → Option AV) (M7 : List AV → Option AV) (M8 : List AV → Option AV) (M9 : List AV → Option AV) (M10 : List AV → Option AV) (M11 : List AV → Option AV) (fuel : Nat) : Lam AV := []
noncomputable def G3 (M4 : List AV → Option AV) (M5 : List AV → Option AV) (M6 : List AV → Option AV) (M7 : List AV → Option AV) (M8 : List AV → Option AV) (M9 : List AV → Option AV) (M10 : List AV → Option AV) (M11 : List AV → Option AV) : Gam := [(4, smM [RS.agg [LK.l (nat_lit 4), LK.l (nat_lit 9)]] M4), (5, smM [RS.one (LK.i IntKind.i64), RS.one (LK.i IntKind.i64)] M5), (6, smM [RS.one (LK.i IntKind.i64), RS.one (LK.i IntKind.i64)] M6), (7, smM [RS.agg [LK.l (nat_lit 3), LK.i IntKind.i64], RS.one (LK.i IntKind.i64)] M7), (8, smM [RS.agg [LK.l (nat_lit 3), LK.i IntKind.i64], RS.one (LK.i IntKind.i64)] M8), (9, smM [RS.one LK.b] M9), (10, smM [RS.one LK.b] M10), (11, smM [RS.one LK.b] M11)]
noncomputable def g3 (M4 : List AV → Option AV) (M5 : List AV → Option AV) (M6 : List AV → Option AV) (M7 : List AV → Option AV) (M8 : List AV → Option AV) (M9 : List AV → Option AV) (M10 : List AV → Option AV) (M11 : List AV → Option AV) (fuel : Nat) (up0_0n : Nat) (up0_0r : Nat) (up0_0g : Nat → Nat → AV) (up0_1n : Nat) (up0_1r : Nat) (up0_1g : Nat → Nat → AV) : Option AV :=
  bif okM [RS.agg [LK.l (nat_lit 4), LK.l (nat_lit 9)]] (M4 [AV.agg [AV.ro (4 : Nat) up0_0n up0_0r up0_0g, AV.ro (9 : Nat) up0_1n up0_1r up0_1g]]) then bif okM [RS.one (LK.i IntKind.i64), RS.one (LK.i IntKind.i64)] (M5 [AV.agg [AV.ro (4 : Nat) (toN ((toC (getV (M4 [AV.agg [AV.ro (4 : Nat) up0_0n up0_0r up0_0g, AV.ro (9 : Nat) up0_1n up0_1r up0_1g]]))).headD AV.dead)) (toR ((toC (getV (M4 [AV.agg [AV.ro (4 : Nat) up0_0n up0_0r up0_0g, AV.ro (9 : Nat) up0_1n up0_1r up0_1g]]))).headD AV.dead)) (toG ((toC (getV (M4 [AV.agg [AV.ro (4 : Nat) up0_0n up0_0r up0_0g, AV.ro (9 : Nat) up0_1n up0_1r up0_1g]]))).headD AV.dead)), AV.ro (9 : Nat) (toN ((toC (getV (M4 [AV.agg [AV.ro (4 : Nat) up0_0n up0_0r up0_0g, AV.ro (9 : Nat) up0_1n up0_1r up0_1g]]))).tail.headD AV.dead)) (toR ((toC (getV (M4 [AV.agg [AV.ro (4 : Nat) up0_0n up0_0r up0_0g, AV.ro (9 : Nat) up0_1n up0_1r up0_1g]]))).tail.headD AV.dead)) (toG ((toC (getV (M4 [AV.agg [AV.ro (4 : Nat) up0_0n up0_0r up0_0g, AV.ro (9 : Nat) up0_1n up0_1r up0_1g]]))).tail.headD AV.dead))]]) then bif okM [RS.one (LK.i IntKind.i64), RS.one (LK.i IntKind.i64)] (M6 [AV.agg [AV.ro (4 : Nat) up0_0n up0_0r up0_0g, AV.ro (9 : Nat) up0_1n up0_1r up0_1g]]) then bif okM [RS.agg [LK.l (nat_lit 3), LK.i IntKind.i64], RS.one (LK.i IntKind.i64)] (M7 [AV.agg [AV.ro (4 : Nat) (toN ((toC (getV (M4 [AV.agg [AV.ro (4 : Nat) up0_0n up0_0r up0_0g, AV.ro (9 : Nat) up0_1n up0_1r up0_1g]]))).headD AV.dead)) (toR ((toC (getV (M4 [AV.agg [AV.ro (4 : Nat) up0_0n up0_0r up0_0g, AV.ro (9 : Nat) up0_1n up0_1r up0_1g]]))).headD AV.dead)) (toG ((toC (getV (M4 [AV.agg [AV.ro (4 : Nat) up0_0n up0_0r up0_0g, AV.ro (9 : Nat) up0_1n up0_1r up0_1g]]))).headD AV.dead)), AV.ro (9 : Nat) (toN ((toC (getV (M4 [AV.agg [AV.ro (4 : Nat) up0_0n up0_0r up0_0g, AV.ro (9 : Nat) up0_1n up0_1r up0_1g]]))).tail.headD AV.dead)) (toR ((toC (getV (M4 [AV.agg [AV.ro (4 : Nat) up0_0n up0_0r up0_0g, AV.ro (9 : Nat) up0_1n up0_1r up0_1g]]))).tail.headD AV.dead)) (toG ((toC (getV (M4 [AV.agg [AV.ro (4 : Nat) up0_0n up0_0r up0_0g, AV.ro (9 : Nat) up0_1n up0_1r up0_1g]]))).tail.headD AV.dead))]]) then bif okM [RS.agg [LK.l (nat_lit 3), LK.i IntKind.i64], RS.one (LK.i IntKind.i64)] (M8 [AV.agg [AV.ro (4 : Nat) up0_0n up0_0r up0_0g, AV.ro (9 : Nat) up0_1n up0_1r up0_1g]]) then bif bif bif bif toI ((toT (getV (M5 [AV.agg [AV.ro (4 : Nat) (toN ((toC (getV (M4 [AV.agg [AV.ro (4 : Nat) up0_0n up0_0r up0_0g, AV.ro (9 : Nat) up0_1n up0_1r up0_1g]]))).headD AV.dead)) (toR ((toC (getV (M4 [AV.agg [AV.ro (4 : Nat) up0_0n up0_0r up0_0g, AV.ro (9 : Nat) up0_1n up0_1r up0_1g]]))).headD AV.dead)) (toG ((toC (getV (M4 [AV.agg [AV.ro (4 : Nat) up0_0n up0_0r up0_0g, AV.ro (9 : Nat) up0_1n up0_1r up0_1g]]))).headD AV.dead)), AV.ro (9 : Nat) (toN ((toC (getV (M4 [AV.agg [AV.ro (4 : Nat) up0_0n up0_0r up0_0g, AV.ro (9 : Nat) up0_1n up0_1r up0_1g]]))).tail.headD AV.dead)) (toR ((toC (getV (M4 [AV.agg [AV.ro (4 : Nat) up0_0n up0_0r up0_0g, AV.ro (9 : Nat) up0_1n up0_1r up0_1g]]))).tail.headD AV.dead)) (toG ((toC (getV (M4 [AV.agg [AV.ro (4 : Nat) up0_0n up0_0r up0_0g, AV.ro (9 : Nat) up0_1n up0_1r up0_1g]]))).tail.headD AV.dead))]]))).headD AV.dead) == toI ((toT (getV (M6 [AV.agg [AV.ro (4 : Nat) up0_0n up0_0r up0_0g, AV.ro (9 : Nat) up0_1n up0_1r up0_1g]]))).headD AV.dead) then toI ((toT (getV (M5 [AV.agg [AV.ro (4 : Nat) (toN ((toC (getV (M4 [AV.agg [AV.ro (4 : Nat) up0_0n up0_0r up0_0g, AV.ro (9 : Nat) up0_1n up0_1r up0_1g]]))).headD AV.dead)) (toR ((toC (getV (M4 [AV.agg [AV.ro (4 : Nat) up0_0n up0_0r up0_0g, AV.ro (9 : Nat) up0_1n up0_1r up0_1g]]))).headD AV.dead)) (toG ((toC (getV (M4 [AV.agg [AV.ro (4 : Nat) up0_0n up0_0r up0_0g, AV.ro (9 : Nat) up0_1n up0_1r up0_1g]]))).headD AV.dead)), AV.ro (9 : Nat) (toN ((toC (getV (M4 [AV.agg [AV.ro (4 : Nat) up0_0n up0_0r up0_0g, AV.ro (9 : Nat) up0_1n up0_1r up0_1g]]))).tail.headD AV.dead)) (toR ((toC (getV (M4 [AV.agg [AV.ro (4 : Nat) up0_0n up0_0r up0_0g, AV.ro (9 : Nat) up0_1n up0_1r up0_1g]]))).tail.headD AV.dead)) (toG ((toC (getV (M4 [AV.agg [AV.ro (4 : Nat) up0_0n up0_0r up0_0g, AV.ro (9 : Nat) up0_1n up0_1r up0_1g]]))).tail.headD AV.dead))]]))).tail.headD AV.dead) == toI ((toT (getV (M6 [AV.agg [AV.ro (4 : Nat) up0_0n up0_0r up0_0g, AV.ro (9 : Nat) up0_1n up0_1r up0_1g]]))).tail.headD AV.dead) else false then toI ((toT (getV (M7 [AV.agg [AV.ro (4 : Nat) (toN ((toC (getV (M4 [AV.agg [AV.ro (4 : Nat) up0_0n up0_0r up0_0g, AV.ro (9 : Nat) up0_1n up0_1r up0_1g]]))).headD AV.dead)) (toR ((toC (getV (M4 [AV.agg [AV.ro (4 : Nat) up0_0n up0_0r up0_0g, AV.ro (9 : Nat) up0_1n up0_1r up0_1g]]))).headD AV.dead)) (toG ((toC (getV (M4 [AV.agg [AV.ro (4 : Nat) up0_0n up0_0r up0_0g, AV.ro (9 : Nat) up0_1n up0_1r up0_1g]]))).headD AV.dead)), AV.ro (9 : Nat) (toN ((toC (getV (M4 [AV.agg [AV.ro (4 : Nat) up0_0n up0_0r up0_0g, AV.ro (9 : Nat) up0_1n up0_1r up0_1g]]))).tail.headD AV.dead)) (toR ((toC (getV (M4 [AV.agg [AV.ro (4 : Nat) up0_0n up0_0r up0_0g, AV.ro (9 : Nat) up0_1n up0_1r up0_1g]]))).tail.headD AV.dead)) (toG ((toC (getV (M4 [AV.agg [AV.ro (4 : Nat) up0_0n up0_0r up0_0g, AV.ro (9 : Nat) up0_1n up0_1r up0_1g]]))).tail.headD AV.dead))]]))).tail.headD AV.dead) == toI ((toT (getV (M8 [AV.agg [AV.ro (4 : Nat) up0_0n up0_0r up0_0g, AV.ro (9 : Nat) up0_1n up0_1r up0_1g]]))).tail.headD AV.dead) else false then true else true then bif bif bif bif toI ((toT (getV (M5 [AV.agg [AV.ro (4 : Nat) (toN ((toC (getV (M4 [AV.agg [AV.ro (4 : Nat) up0_0n up0_0r up0_0g, AV.ro (9 : Nat) up0_1n up0_1r up0_1g]]))).headD AV.dead)) (toR ((toC (getV (M4 [AV.agg [AV.ro (4 : Nat) up0_0n up0_0r up0_0g, AV.ro (9 : Nat) up0_1n up0_1r up0_1g]]))).headD AV.dead)) (toG ((toC (getV (M4 [AV.agg [AV.ro (4 : Nat) up0_0n up0_0r up0_0g, AV.ro (9 : Nat) up0_1n up0_1r up0_1g]]))).headD AV.dead)), AV.ro (9 : Nat) (toN ((toC (getV (M4 [AV.agg [AV.ro (4 : Nat) up0_0n up0_0r up0_0g, AV.ro (9 : Nat) up0_1n up0_1r up0_1g]]))).tail.headD AV.dead)) (toR ((toC (getV (M4 [AV.agg [AV.ro (4 : Nat) up0_0n up0_0r up0_0g, AV.ro (9 : Nat) up0_1n up0_1r up0_1g]]))).tail.headD AV.dead)) (toG ((toC (getV (M4 [AV.agg [AV.ro (4 : Nat) up0_0n up0_0r up0_0g, AV.ro (9 : Nat) up0_1n up0_1r up0_1g]]))).tail.headD AV.dead))]]))).headD AV.dead) == toI ((toT (getV (M6 [AV.agg [AV.ro (4 : Nat) up0_0n up0_0r up0_0g, AV.ro (9 : Nat) up0_1n up0_1r up0_1g]]))).headD AV.dead) then toI ((toT (getV (M5 [AV.agg [AV.ro (4 : Nat) (toN ((toC (getV (M4 [AV.agg [AV.ro (4 : Nat) up0_0n up0_0r up0_0g, AV.ro (9 : Nat) up0_1n up0_1r up0_1g]]))).headD AV.dead)) (toR ((toC (getV (M4 [AV.agg [AV.ro (4 : Nat) up0_0n up0_0r up0_0g, AV.ro (9 : Nat) up0_1n up0_1r up0_1g]]))).headD AV.dead)) (toG ((toC (getV (M4 [AV.agg [AV.ro (4 : Nat) up0_0n up0_0r up0_0g, AV.ro (9 : Nat) up0_1n up0_1r up0_1g]]))).headD AV.dead)), AV.ro (9 : Nat) (toN ((toC (getV (M4 [AV.agg [AV.ro (4 : Nat) up0_0n up0_0r up0_0g, AV.ro (9 : Nat) up0_1n up0_1r up0_1g]]))).tail.headD AV.dead)) (toR ((toC (getV (M4 [AV.agg [AV.ro (4 : Nat) up0_0n up0_0r up0_0g, AV.ro (9 : Nat) up0_1n up0_1r up0_1g]]))).tail.headD AV.dead)) (toG ((toC (getV (M4 [AV.agg [AV.ro (4 : Nat) up0_0n up0_0r up0_0g, AV.ro (9 : Nat) up0_1n up0_1r up0_1g]]))).tail.headD AV.dead))]]))).tail.headD AV.dead) == toI ((toT (getV (M6 [AV.agg [AV.ro (4 : Nat) up0_0n up0_0r up0_0g, AV.ro (9 : Nat) up0_1n up0_1r up0_1g]]))).tail.headD AV.dead) else false then toI ((toT (getV (M7 [AV.agg [AV.ro (4 : Nat) (toN ((toC (getV (M4 [AV.agg [AV.ro (4 : Nat) up0_0n up0_0r up0_0g, AV.ro (9 : Nat) up0_1n up0_1r up0_1g]]))).headD AV.dead)) (toR ((toC (getV (M4 [AV.agg [AV.ro (4 : Nat) up0_0n up0_0r up0_0g, AV.ro (9 : Nat) up0_1n up0_1r up0_1g]]))).headD AV.dead)) (toG ((toC (getV (M4 [AV.agg [AV.ro (4 : Nat) up0_0n up0_0r up0_0g, AV.ro (9 : Nat) up0_1n up0_1r up0_1g]]))).headD AV.dead)), AV.ro (9 : Nat) (toN ((toC (getV (M4 [AV.agg [AV.ro (4 : Nat) up0_0n up0_0r up0_0g, AV.ro (9 : Nat) up0_1n up0_1r up0_1g]]))).tail.headD AV.dead)) (toR ((toC (getV (M4 [AV.agg [AV.ro (4 : Nat) up0_0n up0_0r up0_0g, AV.ro (9 : Nat) up0_1n up0_1r up0_1g]]))).tail.headD AV.dead)) (toG ((toC (getV (M4 [AV.agg [AV.ro (4 : Nat) up0_0n up0_0r up0_0g, AV.ro (9 : Nat) up0_1n up0_1r up0_1g]]))).tail.headD AV.dead))]]))).tail.headD AV.dead) == toI ((toT (getV (M8 [AV.agg [AV.ro (4 : Nat) up0_0n up0_0r up0_0g, AV.ro (9 : Nat) up0_1n up0_1r up0_1g]]))).tail.headD AV.dead) else false then true else true then bif bif bif bif toI ((toT (getV (M5 [AV.agg [AV.ro (4 : Nat) (toN ((toC (getV (M4 [AV.agg [AV.ro (4 : Nat) up0_0n up0_0r up0_0g, AV.ro (9 : Nat) up0_1n up0_1r up0_1g]]))).headD AV.dead)) (toR ((toC (getV (M4 [AV.agg [AV.ro (4 : Nat) up0_0n up0_0r up0_0g, AV.ro (9 : Nat) up0_1n up0_1r up0_1g]]))).headD AV.dead)) (toG ((toC (getV (M4 [AV.agg [AV.ro (4 : Nat) up0_0n up0_0r up0_0g, AV.ro (9 : Nat) up0_1n up0_1r up0_1g]]))).headD AV.dead)), AV.ro (9 : Nat) (toN ((toC (getV (M4 [AV.agg [AV.ro (4 : Nat) up0_0n up0_0r up0_0g, AV.ro (9 : Nat) up0_1n up0_1r up0_1g]]))).tail.headD AV.dead)) (toR ((toC (getV (M4 [AV.agg [AV.ro (4 : Nat) up0_0n up0_0r up0_0g, AV.ro (9 : Nat) up0_1n up0_1r up0_1g]]))).tail.headD AV.dead)) (toG ((toC (getV (M4 [AV.agg [AV.ro (4 : Nat) up0_0n up0_0r up0_0g, AV.ro (9 : Nat) up0_1n up0_1r up0_1g]]))).tail.headD AV.dead))]]))).headD AV.dead) == toI ((toT (getV (M6 [AV.agg [AV.ro (4 : Nat) up0_0n up0_0r up0_0g, AV.ro (9 : Nat) up0_1n up0_1r up0_1g]]))).headD AV.dead) then toI ((toT (getV (M5 [AV.agg [AV.ro (4 : Nat) (toN ((toC (getV (M4 [AV.agg [AV.ro (4 : Nat) up0_0n up0_0r up0_0g, AV.ro (9 : Nat) up0_1n up0_1r up0_1g]]))).headD AV.dead)) (toR ((toC (getV (M4 [AV.agg [AV.ro (4 : Nat) up0_0n up0_0r up0_0g, AV.ro (9 : Nat) up0_1n up0_1r up0_1g]]))).headD AV.dead)) (toG ((toC (getV (M4 [AV.agg [AV.ro (4 : Nat) up0_0n up0_0r up0_0g, AV.ro (9 : Nat) up0_1n up0_1r up0_1g]]))).headD AV.dead)), AV.ro (9 : Nat) (toN ((toC (getV (M4 [AV.agg [AV.ro (4 : Nat) up0_0n up0_0r up0_0g, AV.ro (9 : Nat) up0_1n up0_1r up0_1g]]))).tail.headD AV.dead)) (toR ((toC (getV (M4 [AV.agg [AV.ro (4 : Nat) up0_0n up0_0r up0_0g, AV.ro (9 : Nat) up0_1n up0_1r up0_1g]]))).tail.headD AV.dead)) (toG ((toC (getV (M4 [AV.agg [AV.ro (4 : Nat) up0_0n up0_0r up0_0g, AV.ro (9 : Nat) up0_1n up0_1r up0_1g]]))).tail.headD AV.dead))]]))).tail.headD AV.dead) == toI ((toT (getV (M6 [AV.agg [AV.ro (4 : Nat) up0_0n up0_0r up0_0g, AV.ro (9 : Nat) up0_1n up0_1r up0_1g]]))).tail.headD AV.dead) else false then toI ((toT (getV (M7 [AV.agg [AV.ro (4 : Nat) (toN ((toC (getV (M4 [AV.agg [AV.ro (4 : Nat) up0_0n up0_0r up0_0g, AV.ro (9 : Nat) up0_1n up0_1r up0_1g]]))).headD AV.dead)) (toR ((toC (getV (M4 [AV.agg [AV.ro (4 : Nat) up0_0n up0_0r up0_0g, AV.ro (9 : Nat) up0_1n up0_1r up0_1g]]))).headD AV.dead)) (toG ((toC (getV (M4 [AV.agg [AV.ro (4 : Nat) up0_0n up0_0r up0_0g, AV.ro (9 : Nat) up0_1n up0_1r up0_1g]]))).headD AV.dead)), AV.ro (9 : Nat) (toN ((toC (getV (M4 [AV.agg [AV.ro (4 : Nat) up0_0n up0_0r up0_0g, AV.ro (9 : Nat) up0_1n up0_1r up0_1g]]))).tail.headD AV.dead)) (toR ((toC (getV (M4 [AV.agg [AV.ro (4 : Nat) up0_0n up0_0r up0_0g, AV.ro (9 : Nat) up0_1n up0_1r up0_1g]]))).tail.headD AV.dead)) (toG ((toC (getV (M4 [AV.agg [AV.ro (4 : Nat) up0_0n up0_0r up0_0g, AV.ro (9 : Nat) up0_1n up0_1r up0_1g]]))).tail.headD AV.dead))]]))).tail.headD AV.dead) == toI ((toT (getV (M8 [AV.agg [AV.ro (4 : Nat) up0_0n up0_0r up0_0g, AV.ro (9 : Nat) up0_1n up0_1r up0_1g]]))).tail.headD AV.dead) else false then okM [RS.one LK.b] (M9 [AV.agg [AV.ro (3 : Nat) (toN ((toC ((toT (getV (M7 [AV.agg [AV.ro (4 : Nat) (toN ((toC (getV (M4 [AV.agg [AV.ro (4 : Nat) up0_0n up0_0r up0_0g, AV.ro (9 : Nat) up0_1n up0_1r up0_1g]]))).headD AV.dead)) (toR ((toC (getV (M4 [AV.agg [AV.ro (4 : Nat) up0_0n up0_0r up0_0g, AV.ro (9 : Nat) up0_1n up0_1r up0_1g]]))).headD AV.dead)) (toG ((toC (getV (M4 [AV.agg [AV.ro (4 : Nat) up0_0n up0_0r up0_0g, AV.ro (9 : Nat) up0_1n up0_1r up0_1g]]))).headD AV.dead)), AV.ro (9 : Nat) (toN ((toC (getV (M4 [AV.agg [AV.ro (4 : Nat) up0_0n up0_0r up0_0g, AV.ro (9 : Nat) up0_1n up0_1r up0_1g]]))).tail.headD AV.dead)) (toR ((toC (getV (M4 [AV.agg [AV.ro (4 : Nat) up0_0n up0_0r up0_0g, AV.ro (9 : Nat) up0_1n up0_1r up0_1g]]))).tail.headD AV.dead)) (toG ((toC (getV (M4 [AV.agg [AV.ro (4 : Nat) up0_0n up0_0r up0_0g, AV.ro (9 : Nat) up0_1n up0_1r up0_1g]]))).tail.headD AV.dead))]]))).headD AV.dead)).headD AV.dead)) (toR ((toC ((toT (getV (M7 [AV.agg [AV.ro (4 : Nat) (toN ((toC (getV (M4 [AV.agg [AV.ro (4 : Nat) up0_0n up0_0r up0_0g, AV.ro (9 : Nat) up0_1n up0_1r up0_1g]]))).headD AV.dead)) (toR ((toC (getV (M4 [AV.agg [AV.ro (4 : Nat) up0_0n up0_0r up0_0g, AV.ro (9 : Nat) up0_1n up0_1r up0_1g]]))).headD AV.dead)) (toG ((toC (getV (M4 [AV.agg [AV.ro (4 : Nat) up0_0n up0_0r up0_0g, AV.ro (9 : Nat) up0_1n up0_1r up0_1g]]))).headD AV.dead)), AV.ro (9 : Nat) (toN ((toC (getV (M4 [AV.agg [AV.ro (4 : Nat) up0_0n up0_0r up0_0g, AV.ro (9 : Nat) up0_1n up0_1r up0_1g]]))).tail.headD AV.dead)) (toR ((toC (getV (M4 [AV.agg [AV.ro (4 : Nat) up0_0n up0_0r up0_0g, AV.ro (9 : Nat) up0_1n up0_1r up0_1g]]))).tail.headD AV.dead)) (toG ((toC (getV (M4 [AV.agg [AV.ro (4 : Nat) up0_0n up0_0r up0_0g, AV.ro (9 : Nat) up0_1n up0_1r up0_1g]]))).tail.headD AV.dead))]]))).headD AV.dead)).headD AV.dead)) (toG ((toC ((toT (getV (M7 [AV.agg [AV.ro (4 : Nat) (toN ((toC (getV (M4 [AV.agg [AV.ro (4 : Nat) up0_0n up0_0r up0_0g, AV.ro (9 : Nat) up0_1n up0_1r up0_1g]]))).headD AV.dead)) (toR ((toC (getV (M4 [AV.agg [AV.ro (4 : Nat) up0_0n up0_0r up0_0g, AV.ro (9 : Nat) up0_1n up0_1r up0_1g]]))).headD AV.dead)) (toG ((toC (getV (M4 [AV.agg [AV.ro (4 : Nat) up0_0n up0_0r up0_0g, AV.ro (9 : Nat) up0_1n up0_1r up0_1g]]))).headD AV.dead)), AV.ro (9 : Nat) (toN ((toC (getV (M4 [AV.agg [AV.ro (4 : Nat) up0_0n up0_0r up0_0g, AV.ro (9 : Nat) up0_1n up0_1r up0_1g]]))).tail.headD AV.dead)) (toR ((toC (getV (M4 [AV.agg [AV.ro (4 : Nat) up0_0n up0_0r up0_0g, AV.ro (9 : Nat) up0_1n up0_1r up0_1g]]))).tail.headD AV.dead)) (toG ((toC (getV (M4 [AV.agg [AV.ro (4 : Nat) up0_0n up0_0r up0_0g, AV.ro (9 : Nat) up0_1n up0_1r up0_1g]]))).tail.headD AV.dead))]]))).headD AV.dead)).headD AV.dead)), AV.int IntKind.i64 (toI ((toC ((toT (getV (M7 [AV.agg [AV.ro (4 : Nat) (toN ((toC (getV (M4 [AV.agg [AV.ro (4 : Nat) up0_0n up0_0r up0_0g, AV.ro (9 : Nat) up0_1n up0_1r up0_1g]]))).headD AV.dead)) (toR ((toC (getV (M4 [AV.agg [AV.ro (4 : Nat) up0_0n up0_0r up0_0g, AV.ro (9 : Nat) up0_1n up0_1r up0_1g]]))).headD AV.dead)) (toG ((toC (getV (M4 [AV.agg [AV.ro (4 : Nat) up0_0n up0_0r up0_0g, AV.ro (9 : Nat) up0_1n up0_1r up0_1g]]))).headD AV.dead)), AV.ro (9 : Nat) (toN ((toC (getV (M4 [AV.agg [AV.ro (4 : Nat) up0_0n up0_0r up0_0g, AV.ro (9 : Nat) up0_1n up0_1r up0_1g]]))).tail.headD AV.dead)) (toR ((toC (getV (M4 [AV.agg [AV.ro (4 : Nat) up0_0n up0_0r up0_0g, AV.ro (9 : Nat) up0_1n up0_1r up0_1g]]))).tail.headD AV.dead)) (toG ((toC (getV (M4 [AV.agg [AV.ro (4 : Nat) up0_0n up0_0r up0_0g, AV.ro (9 : Nat) up0_1n up0_1r up0_1g]]))).tail.headD AV.dead))]]))).headD AV.dead)).tail.headD AV.dead))], AV.agg [AV.ro (3 : Nat) (toN ((toC ((toT (getV (M8 [AV.agg [AV.ro (4 : Nat) up0_0n up0_0r up0_0g, AV.ro (9 : Nat) up0_1n up0_1r up0_1g]]))).headD AV.dead)).headD AV.dead)) (toR ((toC ((toT (getV (M8 [AV.agg [AV.ro (4 : Nat) up0_0n up0_0r up0_0g, AV.ro (9 : Nat) up0_1n up0_1r up0_1g]]))).headD AV.dead)).headD AV.dead)) (toG ((toC ((toT (getV (M8 [AV.agg [AV.ro (4 : Nat) up0_0n up0_0r up0_0g, AV.ro (9 : Nat) up0_1n up0_1r up0_1g]]))).headD AV.dead)).headD AV.dead)), AV.int IntKind.i64 (toI ((toC ((toT (getV (M8 [AV.agg [AV.ro (4 : Nat) up0_0n up0_0r up0_0g, AV.ro (9 : Nat) up0_1n up0_1r up0_1g]]))).headD AV.dead)).tail.headD AV.dead))]]) else true then bif bif bif bif bif toI ((toT (getV (M5 [AV.agg [AV.ro (4 : Nat) (toN ((toC (getV (M4 [AV.agg [AV.ro (4 : Nat) up0_0n up0_0r up0_0g, AV.ro (9 : Nat) up0_1n up0_1r up0_1g]]))).headD AV.dead)) (toR ((toC (getV (M4 [AV.agg [AV.ro (4 : Nat) up0_0n up0_0r up0_0g, AV.ro (9 : Nat) up0_1n up0_1r up0_1g]]))).headD AV.dead)) (toG ((toC (getV (M4 [AV.agg [AV.ro (4 : Nat) up0_0n up0_0r up0_0g, AV.ro (9 : Nat) up0_1n up0_1r up0_1g]]))).headD AV.dead)), AV.ro (9 : Nat) (toN ((toC (getV (M4 [AV.agg [AV.ro (4 : Nat) up0_0n up0_0r up0_0g, AV.ro (9 : Nat) up0_1n up0_1r up0_1g]]))).tail.headD AV.dead)) (toR ((toC (getV (M4 [AV.agg [AV.ro (4 : Nat) up0_0n up0_0r up0_0g, AV.ro (9 : Nat) up0_1n up0_1r up0_1g]]))).tail.headD AV.dead)) (toG ((toC (getV (M4 [AV.agg [AV.ro (4 : Nat) up0_0n up0_0r up0_0g, AV.ro (9 : Nat) up0_1n up0_1r up0_1g]]))).tail.headD AV.dead))]]))).headD AV.dead) == toI ((toT (getV (M6 [AV.agg [AV.ro (4 : Nat) up0_0n up0_0r up0_0g, AV.ro (9 : Nat) up0_1n up0_1r up0_1g]]))).headD AV.dead) then toI ((toT (getV (M5 [AV.agg [AV.ro (4 : Nat) (toN ((toC (getV (M4 [AV.agg [AV.ro (4 : Nat) up0_0n up0_0r up0_0g, AV.ro (9 : Nat) up0_1n up0_1r up0_1g]]))).headD AV.dead)) (toR ((toC (getV (M4 [AV.agg [AV.ro (4 : Nat) up0_0n up0_0r up0_0g, AV.ro (9 : Nat) up0_1n up0_1r up0_1g]]))).headD AV.dead)) (toG ((toC (getV (M4 [AV.agg [AV.ro (4 : Nat) up0_0n up0_0r up0_0g, AV.ro (9 : Nat) up0_1n up0_1r up0_1g]]))).headD AV.dead)), AV.ro (9 : Nat) (toN ((toC (getV (M4 [AV.agg [AV.ro (4 : Nat) up0_0n up0_0r up0_0g, AV.ro (9 : Nat) up0_1n up0_1r up0_1g]]))).tail.headD AV.dead)) (toR ((toC (getV (M4 [AV.agg [AV.ro (4 : Nat) up0_0n up0_0r up0_0g, AV.ro (9 : Nat) up0_1n up0_1r up0_1g]]))).tail.headD AV.dead)) (toG ((toC (getV (M4 [AV.agg [AV.ro (4 : Nat) up0_0n up0_0r up0_0g, AV.ro (9 : Nat) up0_1n up0_1r up0_1g]]))).tail.headD AV.dead))]]))).tail.headD AV.dead) == toI ((toT (getV (M6 [AV.agg [AV.ro (4 : Nat) up0_0n up0_0r up0_0g, AV.ro (9 : Nat) up0_1n up0_1r up0_1g]]))).tail.headD AV.dead) else false then toI ((toT (getV (M7 [AV.agg [AV.ro (4 : Nat) (toN ((toC (getV (M4 [AV.agg [AV.ro (4 : Nat) up0_0n up0_0r up0_0g, AV.ro (9 : Nat) up0_1n up0_1r up0_1g]]))).headD AV.dead)) (toR ((toC (getV (M4 [AV.agg [AV.ro (4 : Nat) up0_0n up0_0r up0_0g, AV.ro (9 : Nat) up0_1n up0_1r up0_1g]]))).headD AV.dead)) (toG ((toC (getV (M4 [AV.agg [AV.ro (4 : Nat) up0_0n up0_0r up0_0g, AV.ro (9 : Nat) up0_1n up0_1r up0_1g]]))).headD AV.dead)), AV.ro (9 : Nat) (toN ((toC (getV (M4 [AV.agg [AV.ro (4 : Nat) up0_0n up0_0r up0_0g, AV.ro (9 : Nat) up0_1n up0_1r up0_1g]]))).tail.headD AV.dead)) (toR ((toC (getV (M4 [AV.agg [AV.ro (4 : Nat) up0_0n up0_0r up0_0g, AV.ro (9 : Nat) up0_1n up0_1r up0_1g]]))).tail.headD AV.dead)) (toG ((toC (getV (M4 [AV.agg [AV.ro (4 : Nat) up0_0n up0_0r up0_0g, AV.ro (9 : Nat) up0_1n up0_1r up0_1g]]))).tail.headD AV.dead))]]))).tail.headD AV.dead) == toI ((toT (getV (M8 [AV.agg [AV.ro (4 : Nat) up0_0n up0_0r up0_0g, AV.ro (9 : Nat) up0_1n up0_1r up0_1g]]))).tail.headD AV.dead) else false then toB (getV (M9 [AV.agg [AV.ro (3 : Nat) (toN ((toC ((toT (getV (M7 [AV.agg [AV.ro (4 : Nat) (toN ((toC (getV (M4 [AV.agg [AV.ro (4 : Nat) up0_0n up0_0r up0_0g, AV.ro (9 : Nat) up0_1n up0_1r up0_1g]]))).headD AV.dead)) (toR ((toC (getV (M4 [AV.agg [AV.ro (4 : Nat) up0_0n up0_0r up0_0g, AV.ro (9 : Nat) up0_1n up0_1r up0_1g]]))).headD AV.dead)) (toG ((toC (getV (M4 [AV.agg [AV.ro (4 : Nat) up0_0n up0_0r up0_0g, AV.ro (9 : Nat) up0_1n up0_1r up0_1g]]))).headD AV.dead)), AV.ro (9 : Nat) (toN ((toC (getV (M4 [AV.agg [AV.ro (4 : Nat) up0_0n up0_0r up0_0g, AV.ro (9 : Nat) up0_1n up0_1r up0_1g]]))).tail.headD AV.dead)) (toR ((toC (getV (M4 [AV.agg [AV.ro (4 : Nat) up0_0n up0_0r up0_0g, AV.ro (9 : Nat) up0_1n up0_1r up0_1g]]))).tail.headD AV.dead)) (toG ((toC (getV (M4 [AV.agg [AV.ro (4 : Nat) up0_0n up0_0r up0_0g, AV.ro (9 : Nat) up0_1n up0_1r up0_1g]]))).tail.headD AV.dead))]]))).headD AV.dead)).headD AV.dead)) (toR ((toC ((toT (getV (M7 [AV.agg [AV.ro (4 : Nat) (toN ((toC (getV (M4 [AV.agg [AV.ro (4 : Nat) up0_0n up0_0r up0_0g, AV.ro (9 : Nat) up0_1n up0_1r up0_1g]]))).headD AV.dead)) (toR ((toC (getV (M4 [AV.agg [AV.ro (4 : Nat) up0_0n up0_0r up0_0g, AV.ro (9 : Nat) up0_1n up0_1r up0_1g]]))).headD AV.dead)) (toG ((toC (getV (M4 [AV.agg [AV.ro (4 : Nat) up0_0n up0_0r up0_0g, AV.ro (9 : Nat) up0_1n up0_1r up0_1g]]))).headD AV.dead)), AV.ro (9 : Nat) (toN ((toC (getV (M4 [AV.agg [AV.ro (4 : Nat) up0_0n up0_0r up0_0g, AV.ro (9 : Nat) up0_1n up0_1r up0_1g]]))).tail.headD AV.dead)) (toR ((toC (getV (M4 [AV.agg [AV.ro (4 : Nat) up0_0n up0_0r up0_0g, AV.ro (9 : Nat) up0_1n up0_1r up0_1g]]))).tail.headD AV.dead)) (toG ((toC (getV (M4 [AV.agg [AV.ro (4 : Nat) up0_0n up0_0r up0_0g, AV.ro (9 : Nat) up0_1n up0_1r up0_1g]]))).tail.headD AV.dead))]]))).headD AV.dead)).headD AV.dead)) (toG ((toC ((toT (getV (M7 [AV.agg [AV.ro (4 : Nat) (toN ((toC (getV (M4 [AV.agg [AV.ro (4 : Nat) up0_0n up0_0r up0_0g, AV.ro (9 : Nat) up0_1n up0_1r up0_1g]]))).headD AV.dead)) (toR ((toC (getV (M4 [AV.agg [AV.ro (4 : Nat) up0_0n up0_0r up0_0g, AV.ro (9 : Nat) up0_1n up0_1r up0_1g]]))).headD AV.dead)) (toG ((toC (getV (M4 [AV.agg [AV.ro (4 : Nat) up0_0n up0_0r up0_0g, AV.ro (9 : Nat) up0_1n up0_1r up0_1g]]))).headD AV.dead)), AV.ro (9 : Nat) (toN ((toC (getV (M4 [AV.agg [AV.ro (4 : Nat) up0_0n up0_0r up0_0g, AV.ro (9 : Nat) up0_1n up0_1r up0_1g]]))).tail.headD AV.dead)) (toR ((toC (getV (M4 [AV.agg [AV.ro (4 : Nat) up0_0n up0_0r up0_0g, AV.ro (9 : Nat) up0_1n up0_1r up0_1g]]))).tail.headD AV.dead)) (toG ((toC (getV (M4 [AV.agg [AV.ro (4 : Nat) up0_0n up0_0r up0_0g, AV.ro (9 : Nat) up0_1n up0_1r up0_1g]]))).tail.headD AV.dead))]]))).headD AV.dead)).headD AV.dead)), AV.int IntKind.i64 (toI ((toC ((toT (getV (M7 [AV.agg [AV.ro (4 : Nat) (toN ((toC (getV (M4 [AV.agg [AV.ro (4 : Nat) up0_0n up0_0r up0_0g, AV.ro (9 : Nat) up0_1n up0_1r up0_1g]]))).headD AV.dead)) (toR ((toC (getV (M4 [AV.agg [AV.ro (4 : Nat) up0_0n up0_0r up0_0g, AV.ro (9 : Nat) up0_1n up0_1r up0_1g]]))).headD AV.dead)) (toG ((toC (getV (M4 [AV.agg [AV.ro (4 : Nat) up0_0n up0_0r up0_0g, AV.ro (9 : Nat) up0_1n up0_1r up0_1g]]))).headD AV.dead)), AV.ro (9 : Nat) (toN ((toC (getV (M4 [AV.agg [AV.ro (4 : Nat) up0_0n up0_0r up0_0g, AV.ro (9 : Nat) up0_1n up0_1r up0_1g]]))).tail.headD AV.dead)) (toR ((toC (getV (M4 [AV.agg [AV.ro (4 : Nat) up0_0n up0_0r up0_0g, AV.ro (9 : Nat) up0_1n up0_1r up0_1g]]))).tail.headD AV.dead)) (toG ((toC (getV (M4 [AV.agg [AV.ro (4 : Nat) up0_0n up0_0r up0_0g, AV.ro (9 : Nat) up0_1n up0_1r up0_1g]]))).tail.headD AV.dead))]]))).headD AV.dead)).tail.headD AV.dead))], AV.agg [AV.ro (3 : Nat) (toN ((toC ((toT (getV (M8 [AV.agg [AV.ro (4 : Nat) up0_0n up0_0r up0_0g, AV.ro (9 : Nat) up0_1n up0_1r up0_1g]]))).headD AV.dead)).headD AV.dead)) (toR ((toC ((toT (getV (M8 [AV.agg [AV.ro (4 : Nat) up0_0n up0_0r up0_0g, AV.ro (9 : Nat) up0_1n up0_1r up0_1g]]))).headD AV.dead)).headD AV.dead)) (toG ((toC ((toT (getV (M8 [AV.agg [AV.ro (4 : Nat) up0_0n up0_0r up0_0g, AV.ro (9 : Nat) up0_1n up0_1r up0_1g]]))).headD AV.dead)).headD AV.dead)), AV.int IntKind.i64 (toI ((toC ((toT (getV (M8 [AV.agg [AV.ro (4 : Nat) up0_0n up0_0r up0_0g, AV.ro (9 : Nat) up0_1n up0_1r up0_1g]]))).headD AV.dead)).tail.headD AV.dead))]])) else false then true else true then bif bif bif bif bif toI ((toT (getV (M5 [AV.agg [AV.ro (4 : Nat) (toN ((toC (getV (M4 [AV.agg [AV.ro (4 : Nat) up0_0n up0_0r up0_0g, AV.ro (9 : Nat) up0_1n up0_1r up0_1g]]))).headD AV.dead)) (toR ((toC (getV (M4 [AV.agg [AV.ro (4 : Nat) up0_0n up0_0r up0_0g, AV.ro (9 : Nat) up0_1n up0_1r up0_1g]]))).headD AV.dead)) (toG ((toC (getV (M4 [AV.agg [AV.ro (4 : Nat) up0_0n up0_0r up0_0g, AV.ro (9 : Nat) up0_1n up0_1r up0_1g]]))).headD AV.dead)), AV.ro (9 : Nat) (toN ((toC (getV (M4 [AV.agg [AV.ro (4 : Nat) up0_0n up0_0r up0_0g, AV.ro (9 : Nat) up0_1n up0_1r up0_1g]]))).tail.headD AV.dead)) (toR ((toC (getV (M4 [AV.agg [AV.ro (4 : Nat) up0_0n up0_0r up0_0g, AV.ro (9 : Nat) up0_1n up0_1r up0_1g]]))).tail.headD AV.dead)) (toG ((toC (getV (M4 [AV.agg [AV.ro (4 : Nat) up0_0n up0_0r up0_0g, AV.ro (9 : Nat) up0_1n up0_1r up0_1g]]))).tail.headD AV.dead))]]))).headD AV.dead) == toI ((toT (getV (M6 [AV.agg [AV.ro (4 : Nat) up0_0n up0_0r up0_0g, AV.ro (9 : Nat) up0_1n up0_1r up0_1g]]))).headD AV.dead) then toI ((toT (getV (M5 [AV.agg [AV.ro (4 : Nat) (toN ((toC (getV (M4 [AV.agg [AV.ro (4 : Nat) up0_0n up0_0r up0_0g, AV.ro (9 : Nat) up0_1n up0_1r up0_1g]]))).headD AV.dead)) (toR ((toC (getV (M4 [AV.agg [AV.ro (4 : Nat) up0_0n up0_0r up0_0g, AV.ro (9 : Nat) up0_1n up0_1r up0_1g]]))).headD AV.dead)) (toG ((toC (getV (M4 [AV.agg [AV.ro (4 : Nat) up0_0n up0_0r up0_0g, AV.ro (9 : Nat) up0_1n up0_1r up0_1g]]))).headD AV.dead)), AV.ro (9 : Nat) (toN ((toC (getV (M4 [AV.agg [AV.ro (4 : Nat) up0_0n up0_0r up0_0g, AV.ro (9 : Nat) up0_1n up0_1r up0_1g]]))).tail.headD AV.dead)) (toR ((toC (getV (M4 [AV.agg [AV.ro (4 : Nat) up0_0n up0_0r up0_0g, AV.ro (9 : Nat) up0_1n up0_1r up0_1g]]))).tail.headD AV.dead)) (toG ((toC (getV (M4 [AV.agg [AV.ro (4 : Nat) up0_0n up0_0r up0_0g, AV.ro (9 : Nat) up0_1n up0_1r up0_1g]]))).tail.headD AV.dead))]]))).tail.headD AV.dead) == toI ((toT (getV (M6 [AV.agg [AV.ro (4 : Nat) up0_0n up0_0r up0_0g, AV.ro (9 : Nat) up0_1n up0_1r up0_1g]]))).tail.headD AV.dead) else false then toI ((toT (getV (M7 [AV.agg [AV.ro (4 : Nat) (toN ((toC (getV (M4 [AV.agg [AV.ro (4 : Nat) up0_0n up0_0r up0_0g, AV.ro (9 : Nat) up0_1n up0_1r up0_1g]]))).headD AV.dead)) (toR ((toC (getV (M4 [AV.agg [AV.ro (4 : Nat) up0_0n up0_0r up0_0g, AV.ro (9 : Nat) up0_1n up0_1r up0_1g]]))).headD AV.dead)) (toG ((toC (getV (M4 [AV.agg [AV.ro (4 : Nat) up0_0n up0_0r up0_0g, AV.ro (9 : Nat) up0_1n up0_1r up0_1g]]))).headD AV.dead)), AV.ro (9 : Nat) (toN ((toC (getV (M4 [AV.agg [AV.ro (4 : Nat) up0_0n up0_0r up0_0g, AV.ro (9 : Nat) up0_1n up0_1r up0_1g]]))).tail.headD AV.dead)) (toR ((toC (getV (M4 [AV.agg [AV.ro (4 : Nat) up0_0n up0_0r up0_0g, AV.ro (9 : Nat) up0_1n up0_1r up0_1g]]))).tail.headD AV.dead)) (toG ((toC (getV (M4 [AV.agg [AV.ro (4 : Nat) up0_0n up0_0r up0_0g, AV.ro (9 : Nat) up0_1n up0_1r up0_1g]]))).tail.headD AV.dead))]]))).tail.headD AV.dead) == toI ((toT (getV (M8 [AV.agg [AV.ro (4 : Nat) up0_0n up0_0r up0_0g, AV.ro (9 : Nat) up0_1n up0_1r up0_1g]]))).tail.headD AV.dead) else false then toB (getV (M9 [AV.agg [AV.ro (3 : Nat) (toN ((toC ((toT (getV (M7 [AV.agg [AV.ro (4 : Nat) (toN ((toC (getV (M4 [AV.agg [AV.ro (4 : Nat) up0_0n up0_0r up0_0g, AV.ro (9 : Nat) up0_1n up0_1r up0_1g]]))).headD AV.dead)) (toR ((toC (getV (M4 [AV.agg [AV.ro (4 : Nat) up0_0n up0_0r up0_0g, AV.ro (9 : Nat) up0_1n up0_1r up0_1g]]))).headD AV.dead)) (toG ((toC (getV (M4 [AV.agg [AV.ro (4 : Nat) up0_0n up0_0r up0_0g, AV.ro (9 : Nat) up0_1n up0_1r up0_1g]]))).headD AV.dead)), AV.ro (9 : Nat) (toN ((toC (getV (M4 [AV.agg [AV.ro (4 : Nat) up0_0n up0_0r up0_0g, AV.ro (9 : Nat) up0_1n up0_1r up0_1g]]))).tail.headD AV.dead)) (toR ((toC (getV (M4 [AV.agg [AV.ro (4 : Nat) up0_0n up0_0r up0_0g, AV.ro (9 : Nat) up0_1n up0_1r up0_1g]]))).tail.headD AV.dead)) (toG ((toC (getV (M4 [AV.agg [AV.ro (4 : Nat) up0_0n up0_0r up0_0g, AV.ro (9 : Nat) up0_1n up0_1r up0_1g]]))).tail.headD AV.dead))]]))).headD AV.dead)).headD AV.dead)) (toR ((toC ((toT (getV (M7 [AV.agg [AV.ro (4 : Nat) (toN ((toC (getV (M4 [AV.agg [AV.ro (4 : Nat) up0_0n up0_0r up0_0g, AV.ro (9 : Nat) up0_1n up0_1r up0_1g]]))).headD AV.dead)) (toR ((toC (getV (M4 [AV.agg [AV.ro (4 : Nat) up0_0n up0_0r up0_0g, AV.ro (9 : Nat) up0_1n up0_1r up0_1g]]))).headD AV.dead)) (toG ((toC (getV (M4 [AV.agg [AV.ro (4 : Nat) up0_0n up0_0r up0_0g, AV.ro (9 : Nat) up0_1n up0_1r up0_1g]]))).headD AV.dead)), AV.ro (9 : Nat) (toN ((toC (getV (M4 [AV.agg [AV.ro (4 : Nat) up0_0n up0_0r up0_0g, AV.ro (9 : Nat) up0_1n up0_1r up0_1g]]))).tail.headD AV.dead)) (toR ((toC (getV (M4 [AV.agg [AV.ro (4 : Nat) up0_0n up0_0r up0_0g, AV.ro (9 : Nat) up0_1n up0_1r up0_1g]]))).tail.headD AV.dead)) (toG ((toC (getV (M4 [AV.agg [AV.ro (4 : Nat) up0_0n up0_0r up0_0g, AV.ro (9 : Nat) up0_1n up0_1r up0_1g]]))).tail.headD AV.dead))]]))).headD AV.dead)).headD AV.dead)) (toG ((toC ((toT (getV (M7 [AV.agg [AV.ro (4 : Nat) (toN ((toC (getV (M4 [AV.agg [AV.ro (4 : Nat) up0_0n up0_0r up0_0g, AV.ro (9 : Nat) up0_1n up0_1r up0_1g]]))).headD AV.dead)) (toR ((toC (getV (M4 [AV.agg [AV.ro (4 : Nat) up0_0n up0_0r up0_0g, AV.ro (9 : Nat) up0_1n up0_1r up0_1g]]))).headD AV.dead)) (toG ((toC (getV (M4 [AV.agg [AV.ro (4 : Nat) up0_0n up0_0r up0_0g, AV.ro (9 : Nat) up0_1n up0_1r up0_1g]]))).headD AV.dead)), AV.ro (9 : Nat) (toN ((toC (getV (M4 [AV.agg [AV.ro (4 : Nat) up0_0n up0_0r up0_0g, AV.ro (9 : Nat) up0_1n up0_1r up0_1g]]))).tail.headD AV.dead)) (toR ((toC (getV (M4 [AV.agg [AV.ro (4 : Nat) up0_0n up0_0r up0_0g, AV.ro (9 : Nat) up0_1n up0_1r up0_1g]]))).tail.headD AV.dead)) (toG ((toC (getV (M4 [AV.agg [AV.ro (4 : Nat) up0_0n up0_0r up0_0g, AV.ro (9 : Nat) up0_1n up0_1r up0_1g]]))).tail.headD AV.dead))]]))).headD AV.dead)).headD AV.dead)), AV.int IntKind.i64 (toI ((toC ((toT (getV (M7 [AV.agg [AV.ro (4 : Nat) (toN ((toC (getV (M4 [AV.agg [AV.ro (4 : Nat) up0_0n up0_0r up0_0g, AV.ro (9 : Nat) up0_1n up0_1r up0_1g]]))).headD AV.dead)) (toR ((toC (getV (M4 [AV.agg [AV.ro (4 : Nat) up0_0n up0_0r up0_0g, AV.ro (9 : Nat) up0_1n up0_1r up0_1g]]))).headD AV.dead)) (toG ((toC (getV (M4 [AV.agg [AV.ro (4 : Nat) up0_0n up0_0r up0_0g, AV.ro (9 : Nat) up0_1n up0_1r up0_1g]]))).headD AV.dead)), AV.ro (9 : Nat) (toN ((toC (getV (M4 [AV.agg [AV.ro (4 : Nat) up0_0n up0_0r up0_0g, AV.ro (9 : Nat) up0_1n up0_1r up0_1g]]))).tail.headD AV.dead)) (toR ((toC (getV (M4 [AV.agg [AV.ro (4 : Nat) up0_0n up0_0r up0_0g, AV.ro (9 : Nat) up0_1n up0_1r up0_1g]]))).tail.headD AV.dead)) (toG ((toC (getV (M4 [AV.agg [AV.ro (4 : Nat) up0_0n up0_0r up0_0g, AV.ro (9 : Nat) up0_1n up0_1r up0_1g]]))).tail.headD AV.dead))]]))).headD AV.dead)).tail.headD AV.dead))], AV.agg [AV.ro (3 : Nat) (toN ((toC ((toT (getV (M8 [AV.agg [AV.ro (4 : Nat) up0_0n up0_0r up0_0g, AV.ro (9 : Nat) up0_1n up0_1r up0_1g]]))).headD AV.dead)).headD AV.dead)) (toR ((toC ((toT (getV (M8 [AV.agg [AV.ro (4 : Nat) up0_0n up0_0r up0_0g, AV.ro (9 : Nat) up0_1n up0_1r up0_1g]]))).headD AV.dead)).headD AV.dead)) (toG ((toC ((toT (getV (M8 [AV.agg [AV.ro (4 : Nat) up0_0n up0_0r up0_0g, AV.ro (9 : Nat) up0_1n up0_1r up0_1g]]))).headD AV.dead)).headD AV.dead)), AV.int IntKind.i64 (toI ((toC ((toT (getV (M8 [AV.agg [AV.ro (4 : Nat) up0_0n up0_0r up0_0g, AV.ro (9 : Nat) up0_1n up0_1r up0_1g]]))).headD AV.dead)).tail.headD AV.dead))]])) else false then true else true then bif bif bif bif bif toI ((toT (getV (M5 [AV.agg [AV.ro (4 : Nat) (toN ((toC (getV (M4 [AV.agg [AV.ro (4 : Nat) up0_0n up0_0r up0_0g, AV.ro (9 : Nat) up0_1n up0_1r up0_1g]]))).headD AV.dead)) (toR ((toC (getV (M4 [AV.agg [AV.ro (4 : Nat) up0_0n up0_0r up0_0g, AV.ro (9 : Nat) up0_1n up0_1r up0_1g]]))).headD AV.dead)) (toG ((toC (getV (M4 [AV.agg [AV.ro (4 : Nat) up0_0n up0_0r up0_0g, AV.ro (9 : Nat) up0_1n up0_1r up0_1g]]))).headD AV.dead)), AV.ro (9 : Nat) (toN ((toC (getV (M4 [AV.agg [AV.ro (4 : Nat) up0_0n up0_0r up0_0g, AV.ro (9 : Nat) up0_1n up0_1r up0_1g]]))).tail.headD AV.dead)) (toR ((toC (getV (M4 [AV.agg [AV.ro (4 : Nat) up0_0n up0_0r up0_0g, AV.ro (9 : Nat) up0_1n up0_1r up0_1g]]))).tail.headD AV.dead)) (toG ((toC (getV (M4 [AV.agg [AV.ro (4 : Nat) up0_0n up0_0r up0_0g, AV.ro (9 : Nat) up0_1n up0_1r up0_1g]]))).tail.headD AV.dead))]]))).headD AV.dead) == toI ((toT (getV (M6 [AV.agg [AV.ro (4 : Nat) up0_0n up0_0r up0_0g, AV.ro (9 : Nat) up0_1n up0_1r up0_1g]]))).headD AV.dead) then toI ((toT (getV (M5 [AV.agg [AV.ro (4 : Nat) (toN ((toC (getV (M4 [AV.agg [AV.ro (4 : Nat) up0_0n up0_0r up0_0g, AV.ro (9 : Nat) up0_1n up0_1r up0_1g]]))).headD AV.dead)) (toR ((toC (getV (M4 [AV.agg [AV.ro (4 : Nat) up0_0n up0_0r up0_0g, AV.ro (9 : Nat) up0_1n up0_1r up0_1g]]))).headD AV.dead)) (toG ((toC (getV (M4 [AV.agg [AV.ro (4 : Nat) up0_0n up0_0r up0_0g, AV.ro (9 : Nat) up0_1n up0_1r up0_1g]]))).headD AV.dead)), AV.ro (9 : Nat) (toN ((toC (getV (M4 [AV.agg [AV.ro (4 : Nat) up0_0n up0_0r up0_0g, AV.ro (9 : Nat) up0_1n up0_1r up0_1g]]))).tail.headD AV.dead)) (toR ((toC (getV (M4 [AV.agg [AV.ro (4 : Nat) up0_0n up0_0r up0_0g, AV.ro (9 : Nat) up0_1n up0_1r up0_1g]]))).tail.headD AV.dead)) (toG ((toC (getV (M4 [AV.agg [AV.ro (4 : Nat) up0_0n up0_0r up0_0g, AV.ro (9 : Nat) up0_1n up0_1r up0_1g]]))).tail.headD AV.dead))]]))).tail.headD AV.dead) == toI ((toT (getV (M6 [AV.agg [AV.ro (4 : Nat) up0_0n up0_0r up0_0g, AV.ro (9 : Nat) up0_1n up0_1r up0_1g]]))).tail.headD AV.dead) else false then toI ((toT (getV (M7 [AV.agg [AV.ro (4 : Nat) (toN ((toC (getV (M4 [AV.agg [AV.ro (4 : Nat) up0_0n up0_0r up0_0g, AV.ro (9 : Nat) up0_1n up0_1r up0_1g]]))).headD AV.dead)) (toR ((toC (getV (M4 [AV.agg [AV.ro (4 : Nat) up0_0n up0_0r up0_0g, AV.ro (9 : Nat) up0_1n up0_1r up0_1g]]))).headD AV.dead)) (toG ((toC (getV (M4 [AV.agg [AV.ro (4 : Nat) up0_0n up0_0r up0_0g, AV.ro (9 : Nat) up0_1n up0_1r up0_1g]]))).headD AV.dead)), AV.ro (9 : Nat) (toN ((toC (getV (M4 [AV.agg [AV.ro (4 : Nat) up0_0n up0_0r up0_0g, AV.ro (9 : Nat) up0_1n up0_1r up0_1g]]))).tail.headD AV.dead)) (toR ((toC (getV (M4 [AV.agg [AV.ro (4 : Nat) up0_0n up0_0r up0_0g, AV.ro (9 : Nat) up0_1n up0_1r up0_1g]]))).tail.headD AV.dead)) (toG ((toC (getV (M4 [AV.agg [AV.ro (4 : Nat) up0_0n up0_0r up0_0g, AV.ro (9 : Nat) up0_1n up0_1r up0_1g]]))).tail.headD AV.dead))]]))).tail.headD AV.dead) == toI ((toT (getV (M8 [AV.agg [AV.ro (4 : Nat) up0_0n up0_0r up0_0g, AV.ro (9 : Nat) up0_1n up0_1r up0_1g]]))).tail.headD AV.dead) else false then toB (getV (M9 [AV.agg [AV.ro (3 : Nat) (toN ((toC ((toT (getV (M7 [AV.agg [AV.ro (4 : Nat) (toN ((toC (getV (M4 [AV.agg [AV.ro (4 : Nat) up0_0n up0_0r up0_0g, AV.ro (9 : Nat) up0_1n up0_1r up0_1g]]))).headD AV.dead)) (toR ((toC (getV (M4 [AV.agg [AV.ro (4 : Nat) up0_0n up0_0r up0_0g, AV.ro (9 : Nat) up0_1n up0_1r up0_1g]]))).headD AV.dead)) (toG ((toC (getV (M4 [AV.agg [AV.ro (4 : Nat) up0_0n up0_0r up0_0g, AV.ro (9 : Nat) up0_1n up0_1r up0_1g]]))).headD AV.dead)), AV.ro (9 : Nat) (toN ((toC (getV (M4 [AV.agg [AV.ro (4 : Nat) up0_0n up0_0r up0_0g, AV.ro (9 : Nat) up0_1n up0_1r up0_1g]]))).tail.headD AV.dead)) (toR ((toC (getV (M4 [AV.agg [AV.ro (4 : Nat) up0_0n up0_0r up0_0g, AV.ro (9 : Nat) up0_1n up0_1r up0_1g]]))).tail.headD AV.dead)) (toG ((toC (getV (M4 [AV.agg [AV.ro (4 : Nat) up0_0n up0_0r up0_0g, AV.ro (9 : Nat) up0_1n up0_1r up0_1g]]))).tail.headD AV.dead))]]))).headD AV.dead)).headD AV.dead)) (toR ((toC ((toT (getV (M7 [AV.agg [AV.ro (4 : Nat) (toN ((toC (getV (M4 [AV.agg [AV.ro (4 : Nat) up0_0n up0_0r up0_0g, AV.ro (9 : Nat) up0_1n up0_1r up0_1g]]))).headD AV.dead)) (toR ((toC (getV (M4 [AV.agg [AV.ro (4 : Nat) up0_0n up0_0r up0_0g, AV.ro (9 : Nat) up0_1n up0_1r up0_1g]]))).headD AV.dead)) (toG ((toC (getV (M4 [AV.agg [AV.ro (4 : Nat) up0_0n up0_0r up0_0g, AV.ro (9 : Nat) up0_1n up0_1r up0_1g]]))).headD AV.dead)), AV.ro (9 : Nat) (toN ((toC (getV (M4 [AV.agg [AV.ro (4 : Nat) up0_0n up0_0r up0_0g, AV.ro (9 : Nat) up0_1n up0_1r up0_1g]]))).tail.headD AV.dead)) (toR ((toC (getV (M4 [AV.agg [AV.ro (4 : Nat) up0_0n up0_0r up0_0g, AV.ro (9 : Nat) up0_1n up0_1r up0_1g]]))).tail.headD AV.dead)) (toG ((toC (getV (M4 [AV.agg [AV.ro (4 : Nat) up0_0n up0_0r up0_0g, AV.ro (9 : Nat) up0_1n up0_1r up0_1g]]))).tail.headD AV.dead))]]))).headD AV.dead)).headD AV.dead)) (toG ((toC ((toT (getV (M7 [AV.agg [AV.ro (4 : Nat) (toN ((toC (getV (M4 [AV.agg [AV.ro (4 : Nat) up0_0n up0_0r up0_0g, AV.ro (9 : Nat) up0_1n up0_1r up0_1g]]))).headD AV.dead)) (toR ((toC (getV (M4 [AV.agg [AV.ro (4 : Nat) up0_0n up0_0r up0_0g, AV.ro (9 : Nat) up0_1n up0_1r up0_1g]]))).headD AV.dead)) (toG ((toC (getV (M4 [AV.agg [AV.ro (4 : Nat) up0_0n up0_0r up0_0g, AV.ro (9 : Nat) up0_1n up0_1r up0_1g]]))).headD AV.dead)), AV.ro (9 : Nat) (toN ((toC (getV (M4 [AV.agg [AV.ro (4 : Nat) up0_0n up0_0r up0_0g, AV.ro (9 : Nat) up0_1n up0_1r up0_1g]]))).tail.headD AV.dead)) (toR ((toC (getV (M4 [AV.agg [AV.ro (4 : Nat) up0_0n up0_0r up0_0g, AV.ro (9 : Nat) up0_1n up0_1r up0_1g]]))).tail.headD AV.dead)) (toG ((toC (getV (M4 [AV.agg [AV.ro (4 : Nat) up0_0n up0_0r up0_0g, AV.ro (9 : Nat) up0_1n up0_1r up0_1g]]))).tail.headD AV.dead))]]))).headD AV.dead)).headD AV.dead)), AV.int IntKind.i64 (toI ((toC ((toT (getV (M7 [AV.agg [AV.ro (4 : Nat) (toN ((toC (getV (M4 [AV.agg [AV.ro (4 : Nat) up0_0n up0_0r up0_0g, AV.ro (9 : Nat) up0_1n up0_1r up0_1g]]))).headD AV.dead)) (toR ((toC (getV (M4 [AV.agg [AV.ro (4 : Nat) up0_0n up0_0r up0_0g, AV.ro (9 : Nat) up0_1n up0_1r up0_1g]]))).headD AV.dead)) (toG ((toC (getV (M4 [AV.agg [AV.ro (4 : Nat) up0_0n up0_0r up0_0g, AV.ro (9 : Nat) up0_1n up0_1r up0_1g]]))).headD AV.dead)), AV.ro (9 : Nat) (toN ((toC (getV (M4 [AV.agg [AV.ro (4 : Nat) up0_0n up0_0r up0_0g, AV.ro (9 : Nat) up0_1n up0_1r up0_1g]]))).tail.headD AV.dead)) (toR ((toC (getV (M4 [AV.agg [AV.ro (4 : Nat) up0_0n up0_0r up0_0g, AV.ro (9 : Nat) up0_1n up0_1r up0_1g]]))).tail.headD AV.dead)) (toG ((toC (getV (M4 [AV.agg [AV.ro (4 : Nat) up0_0n up0_0r up0_0g, AV.ro (9 : Nat) up0_1n up0_1r up0_1g]]))).tail.headD AV.dead))]]))).headD AV.dead)).tail.headD AV.dead))], AV.agg [AV.ro (3 : Nat) (toN ((toC ((toT (getV (M8 [AV.agg [AV.ro (4 : Nat) up0_0n up0_0r up0_0g, AV.ro (9 : Nat) up0_1n up0_1r up0_1g]]))).headD AV.dead)).headD AV.dead)) (toR ((toC ((toT (getV (M8 [AV.agg [AV.ro (4 : Nat) up0_0n up0_0r up0_0g, AV.ro (9 : Nat) up0_1n up0_1r up0_1g]]))).headD AV.dead)).headD AV.dead)) (toG ((toC ((toT (getV (M8 [AV.agg [AV.ro (4 : Nat) up0_0n up0_0r up0_0g, AV.ro (9 : Nat) up0_1n up0_1r up0_1g]]))).headD AV.dead)).headD AV.dead)), AV.int IntKind.i64 (toI ((toC ((toT (getV (M8 [AV.agg [AV.ro (4 : Nat) up0_0n up0_0r up0_0g, AV.ro (9 : Nat) up0_1n up0_1r up0_1g]]))).headD AV.dead)).tail.headD AV.dead))]])) else false then okM [RS.one LK.b] (M10 [AV.agg [AV.ro (4 : Nat) (toN ((toC (getV (M4 [AV.agg [AV.ro (4 : Nat) up0_0n up0_0r up0_0g, AV.ro (9 : Nat) up0_1n up0_1r up0_1g]]))).headD AV.dead)) (toR ((toC (getV (M4 [AV.agg [AV.ro (4 : Nat) up0_0n up0_0r up0_0g, AV.ro (9 : Nat) up0_1n up0_1r up0_1g]]))).headD AV.dead)) (toG ((toC (getV (M4 [AV.agg [AV.ro (4 : Nat) up0_0n up0_0r up0_0g, AV.ro (9 : Nat) up0_1n up0_1r up0_1g]]))).headD AV.dead)), AV.ro (9 : Nat) (toN ((toC (getV (M4 [AV.agg [AV.ro (4 : Nat) up0_0n up0_0r up0_0g, AV.ro (9 : Nat) up0_1n up0_1r up0_1g]]))).tail.headD AV.dead)) (toR ((toC (getV (M4 [AV.agg [AV.ro (4 : Nat) up0_0n up0_0r up0_0g, AV.ro (9 : Nat) up0_1n up0_1r up0_1g]]))).tail.headD AV.dead)) (toG ((toC (getV (M4 [AV.agg [AV.ro (4 : Nat) up0_0n up0_0r up0_0g, AV.ro (9 : Nat) up0_1n up0_1r up0_1g]]))).tail.headD AV.dead))], AV.agg [AV.ro (4 : Nat) up0_0n up0_0r up0_0g, AV.ro (9 : Nat) up0_1n up0_1r up0_1g]]) else true then bif bif bif bif bif bif toI ((toT (getV (M5 [AV.agg [AV.ro (4 : Nat) (toN ((toC (getV (M4 [AV.agg [AV.ro (4 : Nat) up0_0n up0_0r up0_0g, AV.ro (9 : Nat) up0_1n up0_1r up0_1g]]))).headD AV.dead)) (toR ((toC (getV (M4 [AV.agg [AV.ro (4 : Nat) up0_0n up0_0r up0_0g, AV.ro (9 : Nat) up0_1n up0_1r up0_1g]]))).headD AV.dead)) (toG ((toC (getV (M4 [AV.agg [AV.ro (4 : Nat) up0_0n up0_0r up0_0g, AV.ro (9 : Nat) up0_1n up0_1r up0_1g]]))).headD AV.dead)), AV.ro (9 : Nat) (toN ((toC (getV (M4 [AV.agg [AV.ro (4 : Nat) up0_0n up0_0r up0_0g, AV.ro (9 : Nat) up0_1n up0_1r up0_1g]]))).tail.headD AV.dead)) (toR ((toC (getV (M4 [AV.agg [AV.ro (4 : Nat) up0_0n up0_0r up0_0g, AV.ro (9 : Nat) up0_1n up0_1r up0_1g]]))).tail.headD AV.dead)) (toG ((toC (getV (M4 [AV.agg [AV.ro (4 : Nat) up0_0n up0_0r up0_0g, AV.ro (9 : Nat) up0_1n up0_1r up0_1g]]))).tail.headD AV.dead))]]))).headD AV.dead) == toI ((toT (getV (M6 [AV.agg [AV.ro (4 : Nat) up0_0n up0_0r up0_0g, AV.ro (9 : Nat) up0_1n up0_1r up0_1g]]))).headD AV.dead) then toI ((toT (getV (M5 [AV.agg [AV.ro (4 : Nat) (toN ((toC (getV (M4 [AV.agg [AV.ro (4 : Nat) up0_0n up0_0r up0_0g, AV.ro (9 : Nat) up0_1n up0_1r up0_1g]]))).headD AV.dead)) (toR ((toC (getV (M4 [AV.agg [AV.ro (4 : Nat) up0_0n up0_0r up0_0g, AV.ro (9 : Nat) up0_1n up0_1r up0_1g]]))).headD AV.dead)) (toG ((toC (getV (M4 [AV.agg [AV.ro (4 : Nat) up0_0n up0_0r up0_0g, AV.ro (9 : Nat) up0_1n up0_1r up0_1g]]))).headD AV.dead)), AV.ro (9 : Nat) (toN ((toC (getV (M4 [AV.agg [AV.ro (4 : Nat) up0_0n up0_0r up0_0g, AV.ro (9 : Nat) up0_1n up0_1r up0_1g]]))).tail.headD AV.dead)) (toR ((toC (getV (M4 [AV.agg [AV.ro (4 : Nat) up0_0n up0_0r up0_0g, AV.ro (9 : Nat) up0_1n up0_1r up0_1g]]))).tail.headD AV.dead)) (toG ((toC (getV (M4 [AV.agg [AV.ro (4 : Nat) up0_0n up0_0r up0_0g, AV.ro (9 : Nat) up0_1n up0_1r up0_1g]]))).tail.headD AV.dead))]]))).tail.headD AV.dead) == toI ((toT (getV (M6 [AV.agg [AV.ro (4 : Nat) up0_0n up0_0r up0_0g, AV.ro (9 : Nat) up0_1n up0_1r up0_1g]]))).tail.headD AV.dead) else false then toI ((toT (getV (M7 [AV.agg [AV.ro (4 : Nat) (toN ((toC (getV (M4 [AV.agg [AV.ro (4 : Nat) up0_0n up0_0r up0_0g, AV.ro (9 : Nat) up0_1n up0_1r up0_1g]]))).headD AV.dead)) (toR ((toC (getV (M4 [AV.agg [AV.ro (4 : Nat) up0_0n up0_0r up0_0g, AV.ro (9 : Nat) up0_1n up0_1r up0_1g]]))).headD AV.dead)) (toG ((toC (getV (M4 [AV.agg [AV.ro (4 : Nat) up0_0n up0_0r up0_0g, AV.ro (9 : Nat) up0_1n up0_1r up0_1g]]))).headD AV.dead)), AV.ro (9 : Nat) (toN ((toC (getV (M4 [AV.agg [AV.ro (4 : Nat) up0_0n up0_0r up0_0g, AV.ro (9 : Nat) up0_1n up0_1r up0_1g]]))).tail.headD AV.dead)) (toR ((toC (getV (M4 [AV.agg [AV.ro (4 : Nat) up0_0n up0_0r up0_0g, AV.ro (9 : Nat) up0_1n up0_1r up0_1g]]))).tail.headD AV.dead)) (toG ((toC (getV (M4 [AV.agg [AV.ro (4 : Nat) up0_0n up0_0r up0_0g, AV.ro (9 : Nat) up0_1n up0_1r up0_1g]]))).tail.headD AV.dead))]]))).tail.headD AV.dead) == toI ((toT (getV (M8 [AV.agg [AV.ro (4 : Nat) up0_0n up0_0r up0_0g, AV.ro (9 : Nat) up0_1n up0_1r up0_1g]]))).tail.headD AV.dead) else false then toB (getV (M9 [AV.agg [AV.ro (3 : Nat) (toN ((toC ((toT (getV (M7 [AV.agg [AV.ro (4 : Nat) (toN ((toC (getV (M4 [AV.agg [AV.ro (4 : Nat) up0_0n up0_0r up0_0g, AV.ro (9 : Nat) up0_1n up0_1r up0_1g]]))).headD AV.dead)) (toR ((toC (getV (M4 [AV.agg [AV.ro (4 : Nat) up0_0n up0_0r up0_0g, AV.ro (9 : Nat) up0_1n up0_1r up0_1g]]))).headD AV.dead)) (toG ((toC (getV (M4 [AV.agg [AV.ro (4 : Nat) up0_0n up0_0r up0_0g, AV.ro (9 : Nat) up0_1n up0_1r up0_1g]]))).headD AV.dead)), AV.ro (9 : Nat) (toN ((toC (getV (M4 [AV.agg [AV.ro (4 : Nat) up0_0n up0_0r up0_0g, AV.ro (9 : Nat) up0_1n up0_1r up0_1g]]))).tail.headD AV.dead)) (toR ((toC (getV (M4 [AV.agg [AV.ro (4 : Nat) up0_0n up0_0r up0_0g, AV.ro (9 : Nat) up0_1n up0_1r up0_1g]]))).tail.headD AV.dead)) (toG ((toC (getV (M4 [AV.agg [AV.ro (4 : Nat) up0_0n up0_0r up0_0g, AV.ro (9 : Nat) up0_1n up0_1r up0_1g]]))).tail.headD AV.dead))]]))).headD AV.dead)).headD AV.dead)) (toR ((toC ((toT (getV (M7 [AV.agg [AV.ro (4 : Nat) (toN ((toC (getV (M4 [AV.agg [AV.ro (4 : Nat) up0_0n up0_0r up0_0g, AV.ro (9 : Nat) up0_1n up0_1r up0_1g]]))).headD AV.dead)) (toR ((toC (getV (M4 [AV.agg [AV.ro (4 : Nat) up0_0n up0_0r up0_0g, AV.ro (9 : Nat) up0_1n up0_1r up0_1g]]))).headD AV.dead)) (toG ((toC (getV (M4 [AV.agg [AV.ro (4 : Nat) up0_0n up0_0r up0_0g, AV.ro (9 : Nat) up0_1n up0_1r up0_1g]]))).headD AV.dead)), AV.ro (9 : Nat) (toN ((toC (getV (M4 [AV.agg [AV.ro (4 : Nat) up0_0n up0_0r up0_0g, AV.ro (9 : Nat) up0_1n up0_1r up0_1g]]))).tail.headD AV.dead)) (toR ((toC (getV (M4 [AV.agg [AV.ro (4 : Nat) up0_0n up0_0r up0_0g, AV.ro (9 : Nat) up0_1n up0_1r up0_1g]]))).tail.headD AV.dead)) (toG ((toC (getV (M4 [AV.agg [AV.ro (4 : Nat) up0_0n up0_0r up0_0g, AV.ro (9 : Nat) up0_1n up0_1r up0_1g]]))).tail.headD AV.dead))]]))).headD AV.dead)).headD AV.dead)) (toG ((toC ((toT (getV (M7 [AV.agg [AV.ro (4 : Nat) (toN ((toC (getV (M4 [AV.agg [AV.ro (4 : Nat) up0_0n up0_0r up0_0g, AV.ro (9 : Nat) up0_1n up0_1r up0_1g]]))).headD AV.dead)) (toR ((toC (getV (M4 [AV.agg [AV.ro (4 : Nat) up0_0n up0_0r up0_0g, AV.ro (9 : Nat) up0_1n up0_1r up0_1g]]))).headD AV.dead)) (toG ((toC (getV (M4 [AV.agg [AV.ro (4 : Nat) up0_0n up0_0r up0_0g, AV.ro (9 : Nat) up0_1n up0_1r up0_1g]]))).headD AV.dead)), AV.ro (9 : Nat) (toN ((toC (getV (M4 [AV.agg [AV.ro (4 : Nat) up0_0n up0_0r up0_0g, AV.ro (9 : Nat) up0_1n up0_1r up0_1g]]))).tail.headD AV.dead)) (toR ((toC (getV (M4 [AV.agg [AV.ro (4 : Nat) up0_0n up0_0r up0_0g, AV.ro (9 : Nat) up0_1n up0_1r up0_1g]]))).tail.headD AV.dead)) (toG ((toC (getV (M4 [AV.agg [AV.ro (4 : Nat) up0_0n up0_0r up0_0g, AV.ro (9 : Nat) up0_1n up0_1r up0_1g]]))).tail.headD AV.dead))]]))).headD AV.dead)).headD AV.dead)), AV.int IntKind.i64 (toI ((toC ((toT (getV (M7 [AV.agg [AV.ro (4 : Nat) (toN ((toC (getV (M4 [AV.agg [AV.ro (4 : Nat) up0_0n up0_0r up0_0g, AV.ro (9 : Nat) up0_1n up0_1r up0_1g]]))).headD AV.dead)) (toR ((toC (getV (M4 [AV.agg [AV.ro (4 : Nat) up0_0n up0_0r up0_0g, AV.ro (9 : Nat) up0_1n up0_1r up0_1g]]))).headD AV.dead)) (toG ((toC (getV (M4 [AV.agg [AV.ro (4 : Nat) up0_0n up0_0r up0_0g, AV.ro (9 : Nat) up0_1n up0_1r up0_1g]]))).headD AV.dead)), AV.ro (9 : Nat) (toN ((toC (getV (M4 [AV.agg [AV.ro (4 : Nat) up0_0n up0_0r up0_0g, AV.ro (9 : Nat) up0_1n up0_1r up0_1g]]))).tail.headD AV.dead)) (toR ((toC (getV (M4 [AV.agg [AV.ro (4 : Nat) up0_0n up0_0r up0_0g, AV.ro (9 : Nat) up0_1n up0_1r up0_1g]]))).tail.headD AV.dead)) (toG ((toC (getV (M4 [AV.agg [AV.ro (4 : Nat) up0_0n up0_0r up0_0g, AV.ro (9 : Nat) up0_1n up0_1r up0_1g]]))).tail.headD AV.dead))]]))).headD AV.dead)).tail.headD AV.dead))], AV.agg [AV.ro (3 : Nat) (toN ((toC ((toT (getV (M8 [AV.agg [AV.ro (4 : Nat) up0_0n up0_0r up0_0g, AV.ro (9 : Nat) up0_1n up0_1r up0_1g]]))).headD AV.dead)).headD AV.dead)) (toR ((toC ((toT (getV (M8 [AV.agg [AV.ro (4 : Nat) up0_0n up0_0r up0_0g, AV.ro (9 : Nat) up0_1n up0_1r up0_1g]]))).headD AV.dead)).headD AV.dead)) (toG ((toC ((toT (getV (M8 [AV.agg [AV.ro (4 : Nat) up0_0n up0_0r up0_0g, AV.ro (9 : Nat) up0_1n up0_1r up0_1g]]))).headD AV.dead)).headD AV.dead)), AV.int IntKind.i64 (toI ((toC ((toT (getV (M8 [AV.agg [AV.ro (4 : Nat) up0_0n up0_0r up0_0g, AV.ro (9 : Nat) up0_1n up0_1r up0_1g]]))).headD AV.dead)).tail.headD AV.dead))]])) else false then toB (getV (M10 [AV.agg [AV.ro (4 : Nat) (toN ((toC (getV (M4 [AV.agg [AV.ro (4 : Nat) up0_0n up0_0r up0_0g, AV.ro (9 : Nat) up0_1n up0_1r up0_1g]]))).headD AV.dead)) (toR ((toC (getV (M4 [AV.agg [AV.ro (4 : Nat) up0_0n up0_0r up0_0g, AV.ro (9 : Nat) up0_1n up0_1r up0_1g]]))).headD AV.dead)) (toG ((toC (getV (M4 [AV.agg [AV.ro (4 : Nat) up0_0n up0_0r up0_0g, AV.ro (9 : Nat) up0_1n up0_1r up0_1g]]))).headD AV.dead)), AV.ro (9 : Nat) (toN ((toC (getV (M4 [AV.agg [AV.ro (4 : Nat) up0_0n up0_0r up0_0g, AV.ro (9 : Nat) up0_1n up0_1r up0_1g]]))).tail.headD AV.dead)) (toR ((toC (getV (M4 [AV.agg [AV.ro (4 : Nat) up0_0n up0_0r up0_0g, AV.ro (9 : Nat) up0_1n up0_1r up0_1g]]))).tail.headD AV.dead)) (toG ((toC (getV (M4 [AV.agg [AV.ro (4 : Nat) up0_0n up0_0r up0_0g, AV.ro (9 : Nat) up0_1n up0_1r up0_1g]]))).tail.headD AV.dead))], AV.agg [AV.ro (4 : Nat) up0_0n up0_0r up0_0g, AV.ro (9 : Nat) up0_1n up0_1r up0_1g]])) else false then okM [RS.one LK.b] (M11 []) else true then some (AV.bool (bif bif bif bif bif toI ((toT (getV (M5 [AV.agg [AV.ro (4 : Nat) (toN ((toC (getV (M4 [AV.agg [AV.ro (4 : Nat) up0_0n up0_0r up0_0g, AV.ro (9 : Nat) up0_1n up0_1r up0_1g]]))).headD AV.dead)) (toR ((toC (getV (M4 [AV.agg [AV.ro (4 : Nat) up0_0n up0_0r up0_0g, AV.ro (9 : Nat) up0_1n up0_1r up0_1g]]))).headD AV.dead)) (toG ((toC (getV (M4 [AV.agg [AV.ro (4 : Nat) up0_0n up0_0r up0_0g, AV.ro (9 : Nat) up0_1n up0_1r up0_1g]]))).headD AV.dead)), AV.ro (9 : Nat) (toN ((toC (getV (M4 [AV.agg [AV.ro (4 : Nat) up0_0n up0_0r up0_0g, AV.ro (9 : Nat) up0_1n up0_1r up0_1g]]))).tail.headD AV.dead)) (toR ((toC (getV (M4 [AV.agg [AV.ro (4 : Nat) up0_0n up0_0r up0_0g, AV.ro (9 : Nat) up0_1n up0_1r up0_1g]]))).tail.headD AV.dead)) (toG ((toC (getV (M4 [AV.agg [AV.ro (4 : Nat) up0_0n up0_0r up0_0g, AV.ro (9 : Nat) up0_1n up0_1r up0_1g]]))).tail.headD AV.dead))]]))).headD AV.dead) == toI ((toT (getV (M6 [AV.agg [AV.ro (4 : Nat) up0_0n up0_0r up0_0g, AV.ro (9 : Nat) up0_1n up0_1r up0_1g]]))).headD AV.dead) then toI ((toT (getV (M5 [AV.agg [AV.ro (4 : Nat) (toN ((toC (getV (M4 [AV.agg [AV.ro (4 : Nat) up0_0n up0_0r up0_0g, AV.ro (9 : Nat) up0_1n up0_1r up0_1g]]))).headD AV.dead)) (toR ((toC (getV (M4 [AV.agg [AV.ro (4 : Nat) up0_0n up0_0r up0_0g, AV.ro (9 : Nat) up0_1n up0_1r up0_1g]]))).headD AV.dead)) (toG ((toC (getV (M4 [AV.agg [AV.ro (4 : Nat) up0_0n up0_0r up0_0g, AV.ro (9 : Nat) up0_1n up0_1r up0_1g]]))).headD AV.dead)), AV.ro (9 : Nat) (toN ((toC (getV (M4 [AV.agg [AV.ro (4 : Nat) up0_0n up0_0r up0_0g, AV.ro (9 : Nat) up0_1n up0_1r up0_1g]]))).tail.headD AV.dead)) (toR ((toC (getV (M4 [AV.agg [AV.ro (4 : Nat) up0_0n up0_0r up0_0g, AV.ro (9 : Nat) up0_1n up0_1r up0_1g]]))).tail.headD AV.dead)) (toG ((toC (getV (M4 [AV.agg [AV.ro (4 : Nat) up0_0n up0_0r up0_0g, AV.ro (9 : Nat) up0_1n up0_1r up0_1g]]))).tail.headD AV.dead))]]))).tail.headD AV.dead) == toI ((toT (getV (M6 [AV.agg [AV.ro (4 : Nat) up0_0n up0_0r up0_0g, AV.ro (9 : Nat) up0_1n up0_1r up0_1g]]))).tail.headD AV.dead) else false then toI ((toT (getV (M7 [AV.agg [AV.ro (4 : Nat) (toN ((toC (getV (M4 [AV.agg [AV.ro (4 : Nat) up0_0n up0_0r up0_0g, AV.ro (9 : Nat) up0_1n up0_1r up0_1g]]))).headD AV.dead)) (toR ((toC (getV (M4 [AV.agg [AV.ro (4 : Nat) up0_0n up0_0r up0_0g, AV.ro (9 : Nat) up0_1n up0_1r up0_1g]]))).headD AV.dead)) (toG ((toC (getV (M4 [AV.agg [AV.ro (4 : Nat) up0_0n up0_0r up0_0g, AV.ro (9 : Nat) up0_1n up0_1r up0_1g]]))).headD AV.dead)), AV.ro (9 : Nat) (toN ((toC (getV (M4 [AV.agg [AV.ro (4 : Nat) up0_0n up0_0r up0_0g, AV.ro (9 : Nat) up0_1n up0_1r up0_1g]]))).tail.headD AV.dead)) (toR ((toC (getV (M4 [AV.agg [AV.ro (4 : Nat) up0_0n up0_0r up0_0g, AV.ro (9 : Nat) up0_1n up0_1r up0_1g]]))).tail.headD AV.dead)) (toG ((toC (getV (M4 [AV.agg [AV.ro (4 : Nat) up0_0n up0_0r up0_0g, AV.ro (9 : Nat) up0_1n up0_1r up0_1g]]))).tail.headD AV.dead))]]))).tail.headD AV.dead) == toI ((toT (getV (M8 [AV.agg [AV.ro (4 : Nat) up0_0n up0_0r up0_0g, AV.ro (9 : Nat) up0_1n up0_1r up0_1g]]))).tail.headD AV.dead) else false then toB (getV (M9 [AV.agg [AV.ro (3 : Nat) (toN ((toC ((toT (getV (M7 [AV.agg [AV.ro (4 : Nat) (toN ((toC (getV (M4 [AV.agg [AV.ro (4 : Nat) up0_0n up0_0r up0_0g, AV.ro (9 : Nat) up0_1n up0_1r up0_1g]]))).headD AV.dead)) (toR ((toC (getV (M4 [AV.agg [AV.ro (4 : Nat) up0_0n up0_0r up0_0g, AV.ro (9 : Nat) up0_1n up0_1r up0_1g]]))).headD AV.dead)) (toG ((toC (getV (M4 [AV.agg [AV.ro (4 : Nat) up0_0n up0_0r up0_0g, AV.ro (9 : Nat) up0_1n up0_1r up0_1g]]))).headD AV.dead)), AV.ro (9 : Nat) (toN ((toC (getV (M4 [AV.agg [AV.ro (4 : Nat) up0_0n up0_0r up0_0g, AV.ro (9 : Nat) up0_1n up0_1r up0_1g]]))).tail.headD AV.dead)) (toR ((toC (getV (M4 [AV.agg [AV.ro (4 : Nat) up0_0n up0_0r up0_0g, AV.ro (9 : Nat) up0_1n up0_1r up0_1g]]))).tail.headD AV.dead)) (toG ((toC (getV (M4 [AV.agg [AV.ro (4 : Nat) up0_0n up0_0r up0_0g, AV.ro (9 : Nat) up0_1n up0_1r up0_1g]]))).tail.headD AV.dead))]]))).headD AV.dead)).headD AV.dead)) (toR ((toC ((toT (getV (M7 [AV.agg [AV.ro (4 : Nat) (toN ((toC (getV (M4 [AV.agg [AV.ro (4 : Nat) up0_0n up0_0r up0_0g, AV.ro (9 : Nat) up0_1n up0_1r up0_1g]]))).headD AV.dead)) (toR ((toC (getV (M4 [AV.agg [AV.ro (4 : Nat) up0_0n up0_0r up0_0g, AV.ro (9 : Nat) up0_1n up0_1r up0_1g]]))).headD AV.dead)) (toG ((toC (getV (M4 [AV.agg [AV.ro (4 : Nat) up0_0n up0_0r up0_0g, AV.ro (9 : Nat) up0_1n up0_1r up0_1g]]))).headD AV.dead)), AV.ro (9 : Nat) (toN ((toC (getV (M4 [AV.agg [AV.ro (4 : Nat) up0_0n up0_0r up0_0g, AV.ro (9 : Nat) up0_1n up0_1r up0_1g]]))).tail.headD AV.dead)) (toR ((toC (getV (M4 [AV.agg [AV.ro (4 : Nat) up0_0n up0_0r up0_0g, AV.ro (9 : Nat) up0_1n up0_1r up0_1g]]))).tail.headD AV.dead)) (toG ((toC (getV (M4 [AV.agg [AV.ro (4 : Nat) up0_0n up0_0r up0_0g, AV.ro (9 : Nat) up0_1n up0_1r up0_1g]]))).tail.headD AV.dead))]]))).headD AV.dead)).headD AV.dead)) (toG ((toC ((toT (getV (M7 [AV.agg [AV.ro (4 : Nat) (toN ((toC (getV (M4 [AV.agg [AV.ro (4 : Nat) up0_0n up0_0r up0_0g, AV.ro (9 : Nat) up0_1n up0_1r up0_1g]]))).headD AV.dead)) (toR ((toC (getV (M4 [AV.agg [AV.ro (4 : Nat) up0_0n up0_0r up0_0g, AV.ro (9 : Nat) up0_1n up0_1r up0_1g]]))).headD AV.dead)) (toG ((toC (getV (M4 [AV.agg [AV.ro (4 : Nat) up0_0n up0_0r up0_0g, AV.ro (9 : Nat) up0_1n up0_1r up0_1g]]))).headD AV.dead)), AV.ro (9 : Nat) (toN ((toC (getV (M4 [AV.agg [AV.ro (4 : Nat) up0_0n up0_0r up0_0g, AV.ro (9 : Nat) up0_1n up0_1r up0_1g]]))).tail.headD AV.dead)) (toR ((toC (getV (M4 [AV.agg [AV.ro (4 : Nat) up0_0n up0_0r up0_0g, AV.ro (9 : Nat) up0_1n up0_1r up0_1g]]))).tail.headD AV.dead)) (toG ((toC (getV (M4 [AV.agg [AV.ro (4 : Nat) up0_0n up0_0r up0_0g, AV.ro (9 : Nat) up0_1n up0_1r up0_1g]]))).tail.headD AV.dead))]]))).headD AV.dead)).headD AV.dead)), AV.int IntKind.i64 (toI ((toC ((toT (getV (M7 [AV.agg [AV.ro (4 : Nat) (toN ((toC (getV (M4 [AV.agg [AV.ro (4 : Nat) up0_0n up0_0r up0_0g, AV.ro (9 : Nat) up0_1n up0_1r up0_1g]]))).headD AV.dead)) (toR ((toC (getV (M4 [AV.agg [AV.ro (4 : Nat) up0_0n up0_0r up0_0g, AV.ro (9 : Nat) up0_1n up0_1r up0_1g]]))).headD AV.dead)) (toG ((toC (getV (M4 [AV.agg [AV.ro (4 : Nat) up0_0n up0_0r up0_0g, AV.ro (9 : Nat) up0_1n up0_1r up0_1g]]))).headD AV.dead)), AV.ro (9 : Nat) (toN ((toC (getV (M4 [AV.agg [AV.ro (4 : Nat) up0_0n up0_0r up0_0g, AV.ro (9 : Nat) up0_1n up0_1r up0_1g]]))).tail.headD AV.dead)) (toR ((toC (getV (M4 [AV.agg [AV.ro (4 : Nat) up0_0n up0_0r up0_0g, AV.ro (9 : Nat) up0_1n up0_1r up0_1g]]))).tail.headD AV.dead)) (toG ((toC (getV (M4 [AV.agg [AV.ro (4 : Nat) up0_0n up0_0r up0_0g, AV.ro (9 : Nat) up0_1n up0_1r up0_1g]]))).tail.headD AV.dead))]]))).headD AV.dead)).tail.headD AV.dead))], AV.agg [AV.ro (3 : Nat) (toN ((toC ((toT (getV (M8 [AV.agg [AV.ro (4 : Nat) up0_0n up0_0r up0_0g, AV.ro (9 : Nat) up0_1n up0_1r up0_1g]]))).headD AV.dead)).headD AV.dead)) (toR ((toC ((toT (getV (M8 [AV.agg [AV.ro (4 : Nat) up0_0n up0_0r up0_0g, AV.ro (9 : Nat) up0_1n up0_1r up0_1g]]))).headD AV.dead)).headD AV.dead)) (toG ((toC ((toT (getV (M8 [AV.agg [AV.ro (4 : Nat) up0_0n up0_0r up0_0g, AV.ro (9 : Nat) up0_1n up0_1r up0_1g]]))).headD AV.dead)).headD AV.dead)), AV.int IntKind.i64 (toI ((toC ((toT (getV (M8 [AV.agg [AV.ro (4 : Nat) up0_0n up0_0r up0_0g, AV.ro (9 : Nat) up0_1n up0_1r up0_1g]]))).headD AV.dead)).tail.headD AV.dead))]])) else false then toB (getV (M10 [AV.agg [AV.ro (4 : Nat) (toN ((toC (getV (M4 [AV.agg [AV.ro (4 : Nat) up0_0n up0_0r up0_0g, AV.ro (9 : Nat) up0_1n up0_1r up0_1g]]))).headD AV.dead)) (toR ((toC (getV (M4 [AV.agg [AV.ro (4 : Nat) up0_0n up0_0r up0_0g, AV.ro (9 : Nat) up0_1n up0_1r up0_1g]]))).headD AV.dead)) (toG ((toC (getV (M4 [AV.agg [AV.ro (4 : Nat) up0_0n up0_0r up0_0g, AV.ro (9 : Nat) up0_1n up0_1r up0_1g]]))).headD AV.dead)), AV.ro (9 : Nat) (toN ((toC (getV (M4 [AV.agg [AV.ro (4 : Nat) up0_0n up0_0r up0_0g, AV.ro (9 : Nat) up0_1n up0_1r up0_1g]]))).tail.headD AV.dead)) (toR ((toC (getV (M4 [AV.agg [AV.ro (4 : Nat) up0_0n up0_0r up0_0g, AV.ro (9 : Nat) up0_1n up0_1r up0_1g]]))).tail.headD AV.dead)) (toG ((toC (getV (M4 [AV.agg [AV.ro (4 : Nat) up0_0n up0_0r up0_0g, AV.ro (9 : Nat) up0_1n up0_1r up0_1g]]))).tail.headD AV.dead))], AV.agg [AV.ro (4 : Nat) up0_0n up0_0r up0_0g, AV.ro (9 : Nat) up0_1n up0_1r up0_1g]])) else false then toB (getV (M11 [])) else false))
                        else none
                      else none
                    else none
                  else none
                else none
              else none
            else none
          else none
        else none
      else none
    else none
  else none
theorem g3_run (M4 : List AV → Option AV) (M5 : List AV → Option AV) (M6 : List AV → Option AV) (M7 : List AV → Option AV) (M8 : List AV → Option AV) (M9 : List AV → Option AV) (M10 : List AV → Option AV) (M11 : List AV → Option AV) (fuel : Nat) (up0_0n : Nat) (up0_0r : Nat) (up0_0g : Nat → Nat → AV) (up0_1n : Nat) (up0_1r : Nat) (up0_1g : Nat → Nat → AV) : run Pr (G3 M4 M5 M6 M7 M8 M9 M10 M11) [((0, 3), L3 M4 M5 M6 M7 M8 M9 M10 M11 fuel)] fuel 1 3 [AV.agg [AV.ro (4 : Nat) up0_0n up0_0r up0_0g, AV.ro (9 : Nat) up0_1n up0_1r up0_1g]] = g3 M4 M5 M6 M7 M8 M9 M10 M11 fuel up0_0n up0_0r up0_0g up0_1n up0_1r up0_1g := by kernel_rfl
noncomputable def m3 (M4 : List AV → Option AV) (M5 : List AV → Option AV) (M6 : List AV → Option AV) (M7 : List AV → Option AV) (M8 : List AV → Option AV) (M9 : List AV → Option AV) (M10 : List AV → Option AV) (M11 : List AV → Option AV) (fuel : Nat) (xs : List AV) : Option AV := match xs with
  | [AV.agg [AV.ro (4 : Nat) up0_0n up0_0r up0_0g, AV.ro (9 : Nat) up0_1n up0_1r up0_1g]] => g3 M4 M5 M6 M7 M8 M9 M10 M11 fuel up0_0n up0_0r up0_0g up0_1n up0_1r up0_1g
  | _ => none
abbrev R3 : List RS := [RS.one LK.b]
theorem g3_sm (M4 : List AV → Option AV) (M5 : List AV → Option AV) (M6 : List AV → Option AV) (M7 : List AV → Option AV) (M8 : List AV → Option AV) (M9 : List AV → Option AV) (M10 : List AV → Option AV) (M11 : List AV → Option AV) (fuel : Nat) (hΓ : ∀ f s, (G3 M4 M5 M6 M7 M8 M9 M10 M11).get f = some s → SmOk Pr f s) (hP : NamesOk Pr) : SmOk Pr 3 (smM R3 (m3 M4 M5 M6 M7 M8 M9 M10 M11 fuel)) := by
  refine smM_ok (fuel := fuel) hΓ hP (LamOk.of 3 (L3 M4 M5 M6 M7 M8 M9 M10 M11 fuel) 0 (by kernel_rfl) (fun i hi => ?_)) 1 3 R3 _ (fun xs v h => ?_)
  · match i, hi with
    | i + 0, hi => exact absurd hi (by omega)
  · unfold m3 at h
    split at h
    · exact (g3_run M4 M5 M6 M7 M8 M9 M10 M11 fuel _ _ _ _ _ _).trans h
    · cases h

end Go.Proofs.Tryz
end
section
namespace Go.Proofs.Tryz
open Go Go.Am

theorem wrap_id {n : Int} (h1 : -9223372036854775808 ≤ n) (h2 : n < 9223372036854775808) : IntKind.i64.wrap n = n := by
  rw [IntKind.wrap_i64]; omega
theorem wrap_succ {i : Nat} (h : i < 4611686018427387904) : IntKind.i64.wrap ((i : Int) + 1) = ((i + 1 : Nat) : Int) := by
  rw [wrap_id] <;> omega
theorem fit_i {k : IntKind} {n : Int} : fitK (.i k) (.int k n) = true := by simp [fitK]
theorem cond_or {b c : Bool} : (bif b then true else c) = (b || c) := by cases b <;> rfl
theorem cond_and {b c : Bool} : (bif b then c else false) = (b && c) := by cases b <;> rfl

def farB (a : Int) : Bool := decide (a < -1048576) || decide (a > 1048576)

theorem near_step (f k : Nat) (kx0 : Bool → Option AV) (kx1 : Option AV) (n r : Nat) (g : Nat → Nat → AV) (i : Nat) (a : Int) (hi : i < n) (hn : n < 4611686018427387904) (hg : g i 0 = .int .i32 a) :
    g29_l0 f kx0 kx1 n r g n (k + 1) i = bif farB a then kx0 false else g29_l0 f kx0 kx1 n r g n k ((i + 1 : Nat) : Int) := by
  have h1 : (i : Int) < n := by omega
  show g29_l0_step f _ kx0 kx1 n r g n i = _
  unfold g29_l0_step
  have hg' : g (Int.toNat (i : Int)) 0 = .int .i32 a := by simpa using hg
  rw [decide_eq_true h1, decide_eq_true (show (0 : Int) ≤ i by omega), cond_true, cond_true, cond_true, hg', fit_i, cond_true, wrap_succ (by omega), cond_or]
  rfl

theorem near_end (f k : Nat) (kx0 : Bool → Option AV) (kx1 : Option AV) (n r : Nat) (g : Nat → Nat → AV) : g29_l0 f kx0 kx1 n r g n (k + 1) n = kx1 := by
  show g29_l0_step f _ kx0 kx1 n r g n n = _
  unfold g29_l0_step
  rw [decide_eq_false (by omega), cond_false]

theorem near_spec (f : Nat) (r : Nat) (a b : Int) (g : Nat → Nat → AV) (h0 : g 0 0 = .int .i32 a) (h1 : g 1 0 = .int .i32 b) : g29 (f + 3) 2 r g = some (.bool (!farB a && !farB b)) := by
  unfold g29
  have e0 := near_step (f + 3) (f + 2) (fun b => some (AV.bool b)) (some (.bool true)) 2 r g 0 a (by omega) (by omega) h0
  have e1 := near_step (f + 3) (f + 1) (fun b => some (AV.bool b)) (some (.bool true)) 2 r g 1 b (by omega) (by omega) h1
  have e2 := near_end (f + 3) f (fun b => some (AV.bool b)) (some (.bool true)) 2 r g
  refine e0.trans ?_
  cases ha : farB a
  · rw [cond_false]
    refine e1.trans ?_
    cases hb : farB b
    · rw [cond_false]; exact e2
    · rfl
  · rfl
end Go.Proofs.Tryz
end
section
namespace Go.Proofs.Tryz
open Go Go.Am

def letB (b : Int) : Bool := decide (b ≥ 97) && decide (b ≤ 122)
def digB (b : Int) : Bool := decide (b ≥ 48) && decide (b ≤ 57)
def okB (s : ByteArray) (i : Nat) : Bool := letB (sbyte s i) || (digB (sbyte s i) && decide (0 < i))
def allB (s : ByteArray) : Nat → Nat → Bool
  | 0, _ => true
  | k + 1, i => okB s i && allB s k (i + 1)
def nameB (s : ByteArray) : Bool := decide (1 ≤ s.size) && decide (s.size ≤ 8) && allB s s.size 0

theorem beq_zero {i : Nat} : ((i : Int) == 0) = !decide (0 < i) := by
  cases i with
  | zero => rfl
  | succ k =>
    rw [decide_eq_true (by omega)]
    have : ¬ ((k + 1 : Nat) : Int) = 0 := by omega
    simpa using this

/-- The test, as the program has it, of a byte. -/
theorem test_a (b : Int) (i : Nat) (q : Bool) : (bif bif !bif decide (b ≥ 97) then decide (b ≤ 122) else false then bif !bif decide (b ≥ 48) then decide (b ≤ 57) else false then true else q else false then true else false) =
    !(letB b || (digB b && !q)) := by
  unfold letB digB
  cases decide (b ≥ 97) <;> cases decide (b ≤ 122) <;> cases decide (b ≥ 48) <;> cases decide (b ≤ 57) <;> cases q <;> rfl

theorem g43_step (f k : Nat) (kx0 : Bool → Option AV) (kx1 : Option AV) (s : ByteArray) (i : Nat) (hi : i < s.size) (hn : s.size < 4611686018427387904) :
    g43_l0 f kx0 kx1 s (k + 1) i = bif okB s i then g43_l0 f kx0 kx1 s k ((i + 1 : Nat) : Int) else kx0 false := by
  have h1 : (i : Int) < s.size := by omega
  show g43_l0_step f _ kx0 kx1 s i = _
  unfold g43_l0_step
  rw [decide_eq_true h1, decide_eq_true (show (0 : Int) ≤ i by omega), wrap_succ (by omega), beq_zero, Int.toNat_natCast]
  unfold okB letB digB
  generalize sbyte s i = b
  cases decide (b ≥ 97) <;> cases decide (b ≤ 122) <;> cases decide (b ≥ 48) <;> cases decide (b ≤ 57) <;> cases decide (0 < i) <;> rfl

theorem g43_end (f k : Nat) (kx0 : Bool → Option AV) (kx1 : Option AV) (s : ByteArray) : g43_l0 f kx0 kx1 s (k + 1) s.size = kx1 := by
  show g43_l0_step f _ kx0 kx1 s s.size = _
  unfold g43_l0_step
  rw [decide_eq_false (by omega), cond_false]

theorem g43_all (f : Nat) (kx0 : Bool → Option AV) (kx1 : Option AV) (s : ByteArray) (hn : s.size < 4611686018427387904) : ∀ (r k i : Nat), i + r = s.size → g43_l0 f kx0 kx1 s (k + r + 1) i = bif allB s r i then kx1 else kx0 false
  | 0, k, i, h => by
    obtain rfl : i = s.size := by omega
    exact g43_end f k kx0 kx1 s
  | r + 1, k, i, h => by
    rw [show k + (r + 1) + 1 = (k + r + 1) + 1 by omega, g43_step f _ kx0 kx1 s i (by omega) hn, g43_all f kx0 kx1 s hn r k (i + 1) (by omega)]
    simp only [allB]
    cases okB s i <;> rfl

theorem name43 (f : Nat) (s : ByteArray) (hf : s.size < f) (hn : s.size < 4611686018427387904) : g43 f s = some (.bool (nameB s)) := by
  unfold g43 nameB
  by_cases h1 : s.size < 1
  · rw [decide_eq_true (show (s.size : Int) < 1 by omega), decide_eq_false (show ¬ 1 ≤ s.size by omega)]
    rfl
  · rw [decide_eq_false (show ¬ (s.size : Int) < 1 by omega), decide_eq_true (show 1 ≤ s.size by omega)]
    by_cases h2 : s.size ≤ 8
    · rw [decide_eq_false (show ¬ (s.size : Int) > 8 by omega), decide_eq_true h2]
      simp only [cond_true, cond_false, Bool.true_and]
      have := g43_all f (fun b => some (AV.bool b)) (some (.bool true)) s hn s.size (f - s.size - 1) 0 (by omega)
      rw [show f - s.size - 1 + s.size + 1 = f by omega] at this
      refine this.trans ?_
      cases allB s s.size 0 <;> rfl
    · rw [decide_eq_true (show (s.size : Int) > 8 by omega), decide_eq_false h2]
      rfl

theorem g30_step (f k : Nat) (kx0 : Bool → Option AV) (kx1 : ByteArray → Option AV) (s : ByteArray) (i : Nat) (hi : i < s.size) (hn : s.size < 4611686018427387904) :
    g30_l0 f kx0 kx1 s s.size (k + 1) i = bif okB s i then g30_l0 f kx0 kx1 s s.size k ((i + 1 : Nat) : Int) else kx0 false := by
  have h1 : (i : Int) < s.size := by omega
  show g30_l0_step f _ kx0 kx1 s s.size i = _
  unfold g30_l0_step
  rw [decide_eq_true h1, decide_eq_true (show (0 : Int) ≤ i by omega), wrap_succ (by omega), beq_zero, Int.toNat_natCast]
  unfold okB letB digB
  generalize sbyte s i = b
  cases decide (b ≥ 97) <;> cases decide (b ≤ 122) <;> cases decide (b ≥ 48) <;> cases decide (b ≤ 57) <;> cases decide (0 < i) <;> rfl

theorem g30_all (f : Nat) (kx0 : Bool → Option AV) (kx1 : ByteArray → Option AV) (s : ByteArray) (hn : s.size < 4611686018427387904) : ∀ (r k i : Nat), i + r = s.size → g30_l0 f kx0 kx1 s s.size (k + r + 1) i = bif allB s r i then kx1 s else kx0 false
  | 0, k, i, h => by
    obtain rfl : i = s.size := by omega
    show g30_l0_step f _ kx0 kx1 s s.size s.size = _
    unfold g30_l0_step
    rw [decide_eq_false (by omega), cond_false]
    rfl
  | r + 1, k, i, h => by
    rw [show k + (r + 1) + 1 = (k + r + 1) + 1 by omega, g30_step f _ kx0 kx1 s i (by omega) hn, g30_all f kx0 kx1 s hn r k (i + 1) (by omega)]
    simp only [allB]
    cases okB s i <;> rfl

theorem name30 (f : Nat) (s : ByteArray) (hf : s.size < f) (hn : s.size < 4611686018427387904) : g30 f s = some (.bool (nameB s)) := by
  unfold g30 nameB
  have := g30_all f (fun b => some (AV.bool b)) (fun s => some (AV.bool (bif decide ((s.size : Int) ≥ 1) then decide ((s.size : Int) ≤ 8) else false))) s hn s.size (f - s.size - 1) 0 (by omega)
  rw [show f - s.size - 1 + s.size + 1 = f by omega] at this
  refine this.trans ?_
  have e1 : decide ((s.size : Int) ≥ 1) = decide (1 ≤ s.size) := decide_eq_decide.2 (by omega)
  have e2 : decide ((s.size : Int) ≤ 8) = decide (s.size ≤ 8) := decide_eq_decide.2 (by omega)
  rw [e1, e2]
  cases allB s s.size 0 <;> cases decide (1 ≤ s.size) <;> cases decide (s.size ≤ 8) <;> rfl

theorem sbyte_get {s : ByteArray} {i : Nat} (h : i < s.size) : sbyte s i = ((s[i]'h).toNat : Int) := by
  unfold sbyte
  have : s.data[i]? = some (s[i]'h) := by
    rw [Array.getElem?_eq_getElem h]; rfl
  rw [this]; rfl

theorem g28_all (f : Nat) (kx0 : Bool → ByteArray → Nat → Option AV) (kx1 : ByteArray → Nat → Option AV) (s : ByteArray) : ∀ (r k i : Nat), i + r = s.size → ∃ p, g28_l0 f kx0 kx1 s (k + r + 1) i = bif allB s r i then kx1 s s.size else kx0 false s p
  | 0, k, i, h => by
    obtain rfl : i = s.size := by omega
    refine ⟨0, ?_⟩
    show g28_l0_step f _ kx0 kx1 s s.size = _
    unfold g28_l0_step
    have : Nat.blt s.size s.size = false := by
      cases hb : Nat.blt s.size s.size with
      | false => rfl
      | true => rw [Nat.blt_eq] at hb; omega
    rw [this]; rfl
  | r + 1, k, i, h => by
    have hi : i < s.size := by omega
    obtain ⟨p, ih⟩ := g28_all f kx0 kx1 s r k (i + 1) (by omega)
    have hb : Nat.blt i s.size = true := by simpa using hi
    have hst : g28_l0 f kx0 kx1 s (k + (r + 1) + 1) i = g28_l0_step f (g28_l0 f kx0 kx1 s (k + r + 1)) kx0 kx1 s i := rfl
    rw [hst]
    unfold g28_l0_step
    rw [hb, cond_true]
    have hsb := sbyte_get hi
    simp only [allB, okB]
    rw [hsb]
    by_cases hlo : (s[i]'hi).toNat < 128
    · rw [decode_ascii s i hi hlo]
      simp only
      have e1 : decide ((i : Int) > 0) = decide (0 < i) := decide_eq_decide.2 (by omega)
      rw [e1]
      refine ⟨if letB ((s[i]'hi).toNat : Int) || (digB ((s[i]'hi).toNat : Int) && decide (0 < i)) then p else i + 1, ?_⟩
      rw [ih]
      unfold letB digB
      generalize ((s[i]'hi).toNat : Int) = b
      cases decide (b ≥ 97) <;> cases decide (b ≤ 122) <;> cases decide (b ≥ 48) <;> cases decide (b ≤ 57) <;> cases decide (0 < i) <;> cases allB s r (i + 1) <;> rfl
    · have hd := decode_high s i hi (by omega)
      refine ⟨i + (Utf8.decode s i).2, ?_⟩
      have e1 : letB ((s[i]'hi).toNat : Int) = false := by
        unfold letB
        rw [decide_eq_false (show ¬ ((s[i]'hi).toNat : Int) ≤ 122 by omega), Bool.and_false]
      have e2 : digB ((s[i]'hi).toNat : Int) = false := by
        unfold digB
        rw [decide_eq_false (show ¬ ((s[i]'hi).toNat : Int) ≤ 57 by omega), Bool.and_false]
      rw [e1, e2, decide_eq_false (show ¬ (((Utf8.decode s i).1 : Nat) : Int) ≤ 122 by have := hd.1; omega), decide_eq_false (show ¬ (((Utf8.decode s i).1 : Nat) : Int) ≤ 57 by have := hd.1; omega)]
      cases decide ((((Utf8.decode s i).1 : Nat) : Int) ≥ 97) <;> cases decide ((((Utf8.decode s i).1 : Nat) : Int) ≥ 48) <;> rfl
end Go.Proofs.Tryz
end
section
namespace Go.Proofs.Tryz
open Go Go.Am

theorem strEq_iff (a b : ByteArray) : strEq a b = true ↔ a = b := by
  unfold strEq
  rw [← beq_toListBytes]
  exact MapKept.bytes_beq a b
theorem strEq_comm (a b : ByteArray) : strEq a b = strEq b a := by
  apply Bool.eq_iff_iff.2
  rw [strEq_iff, strEq_iff]
  exact eq_comm
theorem strEq_nil (s : ByteArray) : strEq s { data := #[] } = !decide (1 ≤ s.size) := by
  apply Bool.eq_iff_iff.2
  rw [strEq_iff]
  constructor
  · rintro rfl; rfl
  · intro h
    have h0 : s.size = 0 := by
      have : ¬ 1 ≤ s.size := by simpa using h
      omega
    exact ByteArray.size_eq_zero_iff.1 h0

theorem name28 (f : Nat) (s : ByteArray) (hf : s.size < f) : g28 f s = some (.bool (nameB s)) := by
  unfold g28 nameB
  rw [strEq_nil]
  have e2 : decide ((s.size : Int) > 8) = !decide (s.size ≤ 8) := by
    by_cases h : s.size ≤ 8
    · rw [decide_eq_true h, decide_eq_false (by omega)]; rfl
    · rw [decide_eq_false h, decide_eq_true (by omega)]; rfl
  rw [e2]
  cases decide (1 ≤ s.size)
  · rfl
  cases decide (s.size ≤ 8)
  · rfl
  obtain ⟨p, hp⟩ := g28_all f (fun b _ _ => some (AV.bool b)) (fun _ _ => some (.bool true)) s s.size (f - s.size - 1) 0 (by omega)
  rw [show f - s.size - 1 + s.size + 1 = f by omega] at hp
  refine hp.trans ?_
  cases allB s s.size 0 <;> rfl

def okL (s : ByteArray) (i : Nat) : Bool := letB (sbyte s i) || digB (sbyte s i)
def allL (s : ByteArray) : Nat → Nat → Bool
  | 0, _ => true
  | k + 1, i => okL s i && allL s k (i + 1)

theorem lt_ge (b c : Int) : decide (b < c) = !decide (b ≥ c) := by
  by_cases h : b < c
  · rw [decide_eq_true h, decide_eq_false (by omega)]; rfl
  · rw [decide_eq_false h, decide_eq_true (by omega)]; rfl
theorem gt_le (b c : Int) : decide (b > c) = !decide (b ≤ c) := by
  by_cases h : b > c
  · rw [decide_eq_true h, decide_eq_false (by omega)]; rfl
  · rw [decide_eq_false h, decide_eq_true (by omega)]; rfl

theorem g34_step (f k : Nat) (kx0 : Bool → Option AV) (kx1 : Option AV) (s : ByteArray) (i : Nat) (hi : i < s.size) (hn : s.size < 4611686018427387904) :
    g34_l0 f kx0 kx1 s (k + 1) i = bif okL s i then g34_l0 f kx0 kx1 s k ((i + 1 : Nat) : Int) else kx0 false := by
  have h1 : (i : Int) < s.size := by omega
  show g34_l0_step f _ kx0 kx1 s i = _
  unfold g34_l0_step
  rw [decide_eq_true h1, decide_eq_true (show (0 : Int) ≤ i by omega), wrap_succ (by omega), Int.toNat_natCast]
  unfold okL letB digB
  generalize sbyte s i = b
  rw [lt_ge b 97, gt_le b 122, lt_ge b 48, gt_le b 57]
  cases decide (b ≥ 97) <;> cases decide (b ≤ 122) <;> cases decide (b ≥ 48) <;> cases decide (b ≤ 57) <;> rfl

theorem g34_all (f : Nat) (kx0 : Bool → Option AV) (kx1 : Option AV) (s : ByteArray) (hn : s.size < 4611686018427387904) : ∀ (r k i : Nat), i + r = s.size → g34_l0 f kx0 kx1 s (k + r + 1) i = bif allL s r i then kx1 else kx0 false
  | 0, k, i, h => by
    obtain rfl : i = s.size := by omega
    show g34_l0_step f _ kx0 kx1 s s.size = _
    unfold g34_l0_step
    rw [decide_eq_false (by omega), cond_false]
    rfl
  | r + 1, k, i, h => by
    rw [show k + (r + 1) + 1 = (k + r + 1) + 1 by omega, g34_step f _ kx0 kx1 s i (by omega) hn, g34_all f kx0 kx1 s hn r k (i + 1) (by omega)]
    simp only [allL]
    cases okL s i <;> rfl

theorem allL_eq (s : ByteArray) : ∀ (r i : Nat), 0 < i → allL s r i = allB s r i
  | 0, _, _ => rfl
  | r + 1, i, h => by
    simp only [allL, allB, okL, okB, decide_eq_true h, Bool.and_true, allL_eq s r (i + 1) (by omega)]

theorem name34 (f : Nat) (s : ByteArray) (hf : s.size < f) (hn : s.size < 4611686018427387904) : g34 f s = some (.bool (nameB s)) := by
  unfold g34 nameB
  rw [strEq_nil, gt_le (s.size : Int) 8, show decide ((s.size : Int) ≤ 8) = decide (s.size ≤ 8) from decide_eq_decide.2 (by omega), show decide ((0 : Int) < (s.size : Int)) = decide (1 ≤ s.size) from decide_eq_decide.2 (by omega), lt_ge, gt_le]
  have hl := g34_all f (fun b => some (AV.bool b)) (some (.bool true)) s hn s.size (f - s.size - 1) 0 (by omega)
  rw [show f - s.size - 1 + s.size + 1 = f by omega] at hl
  by_cases h1 : 1 ≤ s.size
  · rw [decide_eq_true h1]
    have e : allB s s.size 0 = (letB (sbyte s 0) && allL s s.size 0) := by
      obtain ⟨n, hn'⟩ : ∃ n, s.size = n + 1 := ⟨s.size - 1, by omega⟩
      rw [hn']
      simp only [allB, allL, okB, okL, allL_eq s n 1 (by omega), Nat.lt_irrefl, decide_false, Bool.and_false, Bool.or_false]
      cases letB (sbyte s 0) <;> simp
    rw [e]
    have hl' : g34_l0 f (fun b => some (AV.bool b)) (some (.bool true)) s f 0 = bif allL s s.size 0 then some (.bool true) else some (.bool false) := hl
    rw [hl']
    unfold letB
    cases decide (s.size ≤ 8) <;> cases decide (sbyte s 0 ≥ 97) <;> cases decide (sbyte s 0 ≤ 122) <;> cases allL s s.size 0 <;> rfl
  · rw [decide_eq_false h1]
    cases decide (s.size ≤ 8) <;> cases decide (sbyte s 0 ≥ 97) <;> cases decide (sbyte s 0 ≤ 122) <;> rfl
end Go.Proofs.Tryz
end
section
namespace Go.Proofs.Tryz
open Go Go.Am
set_option maxRecDepth 100000

/-- Joints, as the program reads them. -/
structure JS where
  n : Nat
  nm : Nat → ByteArray
  x : Nat → Int
  y : Nat → Int
  fx : Nat → Int
def JS.Ok (J : JS) (g : Nat → Nat → AV) : Prop := ∀ i, i < J.n → g i 0 = .str (J.nm i) ∧ g i 1 = .int .i32 (J.x i) ∧ g i 2 = .int .i32 (J.y i) ∧ g i 3 = .int .u8 (J.fx i)

def anyLt (p : Nat → Bool) : Nat → Bool
  | 0 => false
  | k + 1 => anyLt p k || p k
def JS.bad (J : JS) (i : Nat) : Bool :=
  anyLt (fun k => strEq (J.nm i) (J.nm k)) i || anyLt (fun k => J.x i == J.x k && J.y i == J.y k) i || !nameB (J.nm i) || (farB (J.x i) || farB (J.y i)) || decide (J.fx i > 7)
def first (p : Nat → Bool) : Nat → Nat → Option Nat
  | 0, _ => none
  | r + 1, i => bif p i then some i else first p r (i + 1)
def JS.check (J : JS) : Int × Int := bif decide (J.n > 16) then (3, 0) else match first J.bad J.n 0 with
  | some i => (280, (i : Int))
  | none => (0, 0)

theorem okM_b (q : Bool) : okM [RS.one LK.b] (some (.bool q)) = true := rfl
theorem getV_b (q : Bool) : toB (getV (some (.bool q))) = q := rfl

theorem key9 (a b : ByteArray) : keyEq prog 9 (.str a) (.str b) = some (strEq a b) := by kernel_rfl
theorem key68 (a b c d : Int) : keyEq prog 68 (.agg [.int .i32 a, .int .i32 b]) (.agg [.int .i32 c, .int .i32 d]) = some (bif a == c then (bif b == d then true else false) else false) := by kernel_rfl
theorem fit3 (k : Int) : fit1 prog 3 (.int .i64 k) = true := by kernel_rfl

theorem findM_append (P : Program) (kt : Nat) (k : AV) (p : AV × AV) : ∀ l : List (AV × AV), (findM P kt k (l ++ [p])).isSome = ((findM P kt k l).isSome || isT (keyEq P kt k p.1))
  | [] => by simp only [List.nil_append, findM]; cases isT (keyEq P kt k p.1) <;> rfl
  | q :: l => by
    simp only [List.cons_append, findM]
    cases isT (keyEq P kt k q.1)
    · exact findM_append P kt k p l
    · rfl

def IntVals (l : List (AV × AV)) : Prop := ∀ p ∈ l, ∃ n, p.2 = .int .i64 n
theorem findM_fit (kt : Nat) (k : AV) : ∀ (l : List (AV × AV)), IntVals l → fit1 prog 3 ((findM prog kt k l).getD (.int .i64 0)) = true
  | [], _ => fit3 0
  | q :: l, h => by
    simp only [findM]
    cases isT (keyEq prog kt k q.1)
    · exact findM_fit kt k l (fun p hp => h p (List.mem_cons_of_mem _ hp))
    · obtain ⟨n, hn⟩ := h q (List.mem_cons_self ..)
      show fit1 prog 3 q.2 = true
      rw [hn]; exact fit3 n

section
variable (J : JS)
def JS.nl : Nat → List (AV × AV)
  | 0 => []
  | i + 1 => JS.nl i ++ [(.str (J.nm i), .int .i64 i)]
def JS.pl : Nat → List (AV × AV)
  | 0 => []
  | i + 1 => JS.pl i ++ [(.agg [.int .i32 (J.x i), .int .i32 (J.y i)], .int .i64 i)]
theorem nl_vals : ∀ i, IntVals (J.nl i)
  | 0 => by intro p hp; simp [JS.nl] at hp
  | i + 1 => by
    intro p hp
    simp only [JS.nl, List.mem_append, List.mem_singleton] at hp
    rcases hp with hp | rfl
    · exact nl_vals i p hp
    · exact ⟨_, rfl⟩
theorem pl_vals : ∀ i, IntVals (J.pl i)
  | 0 => by intro p hp; simp [JS.pl] at hp
  | i + 1 => by
    intro p hp
    simp only [JS.pl, List.mem_append, List.mem_singleton] at hp
    rcases hp with hp | rfl
    · exact pl_vals i p hp
    · exact ⟨_, rfl⟩
theorem nl_fit (s : ByteArray) : ∀ i, mapFit prog 9 (.str s) (J.nl i) = true
  | 0 => rfl
  | i + 1 => by
    have := nl_fit s i
    unfold mapFit at this ⊢
    simp only [JS.nl, List.all_append, this, List.all_cons, List.all_nil, key9, Option.isSome_some, Bool.and_self]
theorem pl_fit (a b : Int) : ∀ i, mapFit prog 68 (.agg [.int .i32 a, .int .i32 b]) (J.pl i) = true
  | 0 => rfl
  | i + 1 => by
    have := pl_fit a b i
    unfold mapFit at this ⊢
    simp only [JS.pl, List.all_append, this, List.all_cons, List.all_nil, key68, Option.isSome_some, Bool.and_self]
theorem nl_find (s : ByteArray) : ∀ i, (findM prog 9 (.str s) (J.nl i)).isSome = anyLt (fun k => strEq s (J.nm k)) i
  | 0 => rfl
  | i + 1 => by
    simp only [JS.nl, findM_append, key9, isT, anyLt, nl_find s i]
theorem pl_find (a b : Int) : ∀ i, (findM prog 68 (.agg [.int .i32 a, .int .i32 b]) (J.pl i)).isSome = anyLt (fun k => a == J.x k && b == J.y k) i
  | 0 => rfl
  | i + 1 => by
    simp only [JS.pl, findM_append, key68, isT, anyLt, pl_find a b i]
    cases a == J.x i <;> cases b == J.y i <;> rfl
end

structure Sp28 (M : List AV → Option AV) (B : Nat) : Prop where
  sp : ∀ s : ByteArray, s.size ≤ B → M [.str s] = some (.bool (nameB s))
structure Sp29 (M : List AV → Option AV) : Prop where
  sp : ∀ (r : Nat) (a b : Int) (g : Nat → Nat → AV), g 0 0 = .int .i32 a → g 1 0 = .int .i32 b → M [.ro 1 2 r g] = some (.bool (!farB a && !farB b))

theorem g14_step {M28 M29 : List AV → Option AV} {B : Nat} (h28 : Sp28 M28 B) (h29 : Sp29 M29) (J : JS) (hJ : J.n < 4611686018427387904) (f k : Nat)
    (kx0 : Int → Int → List (AV × AV) → List (AV × AV) → ByteArray → Int → Int → Int → Option AV) (kx1 : List (AV × AV) → List (AV × AV) → Option AV) (r : Nat) (g : Nat → Nat → AV) (hg : J.Ok g) (i : Nat) (hi : i < J.n) (hB : (J.nm i).size ≤ B) :
    g14_l0 M28 M29 f kx0 kx1 J.n r g J.n (k + 1) i (J.nl i) (J.pl i) = bif J.bad i then kx0 280 i (J.nl i) (J.pl i) (J.nm i) (J.x i) (J.y i) (J.fx i) else
      g14_l0 M28 M29 f kx0 kx1 J.n r g J.n k ((i + 1 : Nat) : Int) (J.nl (i + 1)) (J.pl (i + 1)) := by
  have h1 : (i : Int) < J.n := by omega
  obtain ⟨g0, g1, g2, g3⟩ := hg i hi
  show g14_l0_step M28 M29 f _ kx0 kx1 J.n r g J.n i (J.nl i) (J.pl i) = _
  unfold g14_l0_step
  rw [decide_eq_true h1, decide_eq_true (show (0 : Int) ≤ i by omega), wrap_succ (by omega), Int.toNat_natCast, g0, g1, g2, g3]
  simp only [toS, toI]
  have e28 := h28.sp (J.nm i) hB
  have e29 := h29.sp 2 (J.x i) (J.y i) (fun i_1 j => ([[AV.int IntKind.i32 (J.x i)], [AV.int IntKind.i32 (J.y i)]].getD i_1 []).getD j AV.dead) rfl rfl
  have ef : fitKs [LK.s, LK.i IntKind.i32, LK.i IntKind.i32, LK.i IntKind.u8] [.str (J.nm i), .int .i32 (J.x i), .int .i32 (J.y i), .int .u8 (J.fx i)] = true := rfl
  rw [ef, nl_fit, findM_fit _ _ _ (nl_vals J i), pl_fit, findM_fit _ _ _ (pl_vals J i), nl_find, pl_find, e28, e29, okM_b, okM_b, getV_b, getV_b]
  unfold JS.bad
  by_cases h7 : J.fx i > 7 <;> simp only [h7, decide_true, decide_false] <;>
  cases anyLt (fun k => strEq (J.nm i) (J.nm k)) i <;> cases anyLt (fun k => J.x i == J.x k && J.y i == J.y k) i <;> cases nameB (J.nm i) <;> cases farB (J.x i) <;> cases farB (J.y i) <;> rfl

theorem g14_all {M28 M29 : List AV → Option AV} {B : Nat} (h28 : Sp28 M28 B) (h29 : Sp29 M29) (J : JS) (hJ : J.n < 4611686018427387904) (f : Nat)
    (kx0 : Int → Int → List (AV × AV) → List (AV × AV) → ByteArray → Int → Int → Int → Option AV) (kx1 : List (AV × AV) → List (AV × AV) → Option AV) (r : Nat) (g : Nat → Nat → AV) (hg : J.Ok g) (hB : ∀ i, i < J.n → (J.nm i).size ≤ B) :
    ∀ (q k i : Nat), i + q = J.n → ∃ a b s x y z, g14_l0 M28 M29 f kx0 kx1 J.n r g J.n (k + q + 1) i (J.nl i) (J.pl i) = match first J.bad q i with
      | some j => kx0 280 j a b s x y z
      | none => kx1 a b
  | 0, k, i, h => by
    obtain rfl : i = J.n := by omega
    refine ⟨J.nl J.n, J.pl J.n, ⟨#[]⟩, 0, 0, 0, ?_⟩
    show g14_l0_step M28 M29 f _ kx0 kx1 J.n r g J.n J.n _ _ = kx1 (J.nl J.n) (J.pl J.n)
    unfold g14_l0_step
    rw [decide_eq_false (by omega), cond_false]
  | q + 1, k, i, h => by
    rw [show k + (q + 1) + 1 = (k + q + 1) + 1 by omega, g14_step h28 h29 J hJ f _ kx0 kx1 r g hg i (by omega) (hB i (by omega))]
    simp only [first]
    cases J.bad i
    · exact g14_all h28 h29 J hJ f kx0 kx1 r g hg hB q k (i + 1) (by omega)
    · exact ⟨J.nl i, J.pl i, J.nm i, J.x i, J.y i, J.fx i, rfl⟩

theorem check14 {M28 M29 : List AV → Option AV} {B : Nat} (h28 : Sp28 M28 B) (h29 : Sp29 M29) (J : JS) (f : Nat) (hf : J.n < f) (hJ : J.n < 4611686018427387904) (r : Nat) (g : Nat → Nat → AV) (hg : J.Ok g) (hB : ∀ i, i < J.n → (J.nm i).size ≤ B) :
    g14 M28 M29 f J.n r g = some (.tup [.int .i64 J.check.1, .int .i64 J.check.2]) := by
  unfold g14 JS.check
  by_cases h : J.n > 16
  · rw [decide_eq_true (show (J.n : Int) > 16 by omega), decide_eq_true h]; rfl
  · rw [decide_eq_false (show ¬ (J.n : Int) > 16 by omega), decide_eq_false h, cond_false, cond_false]
    obtain ⟨a, b, s, x, y, z, e⟩ := g14_all h28 h29 J hJ f (fun xu2 xu3 _ _ _ _ _ _ => some (.tup [.int .i64 xu2, .int .i64 xu3])) (fun _ _ => some (.tup [.int .i64 0, .int .i64 0])) r g hg hB J.n (f - J.n - 1) 0 (by omega)
    rw [show f - J.n - 1 + J.n + 1 = f by omega] at e
    refine e.trans ?_
    cases first J.bad J.n 0 <;> rfl
end Go.Proofs.Tryz
end
section
namespace Go.Proofs.Tryz
open Go Go.Am
set_option maxRecDepth 100000

theorem near44 (f : Nat) (a : Int) : g44 f a = some (.bool (!farB a)) := by
  unfold g44 farB
  rw [lt_ge, gt_le]
  cases decide (a ≥ -1048576) <;> cases decide (a ≤ 1048576) <;> rfl

def mayJ (s : ByteArray) (x y fx : Int) : Bool := nameB s && !farB x && !farB y && decide (fx ≤ 7)

theorem may33 {M43 M44 : List AV → Option AV} {B : Nat} (h43 : Sp28 M43 B) (h44 : ∀ a, M44 [.int .i32 a] = some (.bool (!farB a))) (f : Nat) (s : ByteArray) (x y fx : Int) (hB : s.size ≤ B) :
    g33 M43 M44 f s x y fx = some (.bool (mayJ s x y fx)) := by
  unfold g33 mayJ
  rw [h43.sp s hB, h44, h44, okM_b, okM_b, okM_b, getV_b, getV_b, getV_b]
  cases nameB s <;> cases farB x <;> cases farB y <;> cases decide (fx ≤ 7) <;> rfl

def anyFrom (p : Nat → Bool) : Nat → Nat → Bool
  | 0, _ => false
  | r + 1, k => p k || anyFrom p r (k + 1)
theorem anyFrom_lt (p : Nat → Bool) : ∀ (r k : Nat), anyLt p (k + r) = (anyLt p k || anyFrom p r k)
  | 0, k => by simp [anyFrom]
  | r + 1, k => by
    rw [show k + (r + 1) = (k + 1) + r by omega, anyFrom_lt p r (k + 1)]
    simp only [anyLt, anyFrom, Bool.or_assoc]
theorem anyLt_or (p q : Nat → Bool) : ∀ i, anyLt (fun k => p k || q k) i = (anyLt p i || anyLt q i)
  | 0 => rfl
  | i + 1 => by
    simp only [anyLt, anyLt_or p q i]
    cases anyLt p i <;> cases anyLt q i <;> cases p i <;> cases q i <;> rfl
theorem anyLt_congr {p q : Nat → Bool} (h : ∀ k, p k = q k) : ∀ i, anyLt p i = anyLt q i
  | 0 => rfl
  | i + 1 => by simp only [anyLt, h, anyLt_congr h i]

section
variable (J : JS)
def JS.dup (i k : Nat) : Bool := strEq (J.nm k) (J.nm i) || (J.x k == J.x i && J.y k == J.y i)

theorem g16_step0 {M33 : List AV → Option AV} (hJ : J.n < 4611686018427387904) (f q : Nat) (kx0 : Int → Int → Option AV) (kx1 : Nat → Nat → (Nat → Nat → AV) → Int → Option AV) (r : Nat) (g : Nat → Nat → AV) (hg : J.Ok g) (i k : Nat) (hi : i < J.n) (hk : k < i) :
    g16_l0 M33 f kx0 kx1 J.n r g i (q + 1) k = bif J.dup i k then kx0 280 i else g16_l0 M33 f kx0 kx1 J.n r g i q ((k + 1 : Nat) : Int) := by
  obtain ⟨g0, g1, g2, g3⟩ := hg i hi
  obtain ⟨k0, k1, k2, k3⟩ := hg k (by omega)
  show g16_l0_step M33 f _ kx0 kx1 J.n r g i k = _
  unfold g16_l0_step
  rw [decide_eq_true (show (k : Int) < i by omega), decide_eq_true (show (k : Int) < J.n by omega), decide_eq_true (show (i : Int) < J.n by omega), decide_eq_true (show (0 : Int) ≤ k by omega), decide_eq_true (show (0 : Int) ≤ i by omega), wrap_succ (by omega), Int.toNat_natCast, Int.toNat_natCast, g0, g1, g2, k0, k1, k2]
  simp only [toS, toI]
  have e1 : ∀ s, fitK LK.s (.str s) = true := fun _ => rfl
  have e2 : ∀ n, fitK (LK.i IntKind.i32) (.int .i32 n) = true := fun _ => rfl
  simp only [e1, e2]
  unfold JS.dup
  cases strEq (J.nm k) (J.nm i) <;> cases J.x k == J.x i <;> cases J.y k == J.y i <;> rfl

theorem g16_all0 {M33 : List AV → Option AV} (hJ : J.n < 4611686018427387904) (f : Nat) (kx0 : Int → Int → Option AV) (kx1 : Nat → Nat → (Nat → Nat → AV) → Int → Option AV) (r : Nat) (g : Nat → Nat → AV) (hg : J.Ok g) (i : Nat) (hi : i < J.n) :
    ∀ (m q k : Nat), k + m = i → g16_l0 M33 f kx0 kx1 J.n r g i (q + m + 1) k = bif anyFrom (J.dup i) m k then kx0 280 i else kx1 J.n r g i
  | 0, q, k, h => by
    obtain rfl : k = i := by omega
    show g16_l0_step M33 f _ kx0 kx1 J.n r g k k = _
    unfold g16_l0_step
    rw [decide_eq_false (by omega), cond_false]
    rfl
  | m + 1, q, k, h => by
    rw [show q + (m + 1) + 1 = (q + m + 1) + 1 by omega, g16_step0 J hJ f _ kx0 kx1 r g hg i k hi (by omega), g16_all0 hJ f kx0 kx1 r g hg i hi m q (k + 1) (by omega)]
    simp only [anyFrom]
    cases J.dup i k <;> rfl

theorem bad_eq (i : Nat) : J.bad i = (!mayJ (J.nm i) (J.x i) (J.y i) (J.fx i) || anyFrom (J.dup i) i 0) := by
  have e := anyFrom_lt (J.dup i) i 0
  rw [Nat.zero_add] at e
  simp only [anyLt, Bool.false_or] at e
  rw [← e]
  unfold JS.dup JS.bad mayJ
  rw [anyLt_or, gt_le]
  rw [anyLt_congr (p := fun k => strEq (J.nm k) (J.nm i)) (q := fun k => strEq (J.nm i) (J.nm k)) (fun k => strEq_comm _ _)]
  rw [anyLt_congr (p := fun k => J.x k == J.x i && J.y k == J.y i) (q := fun k => J.x i == J.x k && J.y i == J.y k) (fun k => by
    rw [show (J.x k == J.x i) = (J.x i == J.x k) from Bool.beq_comm, show (J.y k == J.y i) = (J.y i == J.y k) from Bool.beq_comm])]
  cases anyLt (fun k => strEq (J.nm i) (J.nm k)) i <;> cases anyLt (fun k => J.x i == J.x k && J.y i == J.y k) i <;> cases nameB (J.nm i) <;> cases farB (J.x i) <;> cases farB (J.y i) <;> cases decide (J.fx i ≤ 7) <;> rfl

theorem g16_all {M33 : List AV → Option AV} {B : Nat} (h33 : ∀ s x y fx, s.size ≤ B → M33 [.agg [.str s, .int .i32 x, .int .i32 y, .int .u8 fx]] = some (.bool (mayJ s x y fx))) (hJ : J.n < 4611686018427387904) (f : Nat) (hf : J.n < f)
    (kx0 : Int → Int → Option AV) (kx1 : Option AV) (r : Nat) (g : Nat → Nat → AV) (hg : J.Ok g) (hB : ∀ i, i < J.n → (J.nm i).size ≤ B) :
    ∀ (m q i : Nat), i + m = J.n → g16_l1 M33 f kx0 kx1 (q + m + 1) J.n r g i = match first J.bad m i with
      | some j => kx0 280 j
      | none => kx1
  | 0, q, i, h => by
    obtain rfl : i = J.n := by omega
    show g16_l1_step M33 f _ kx0 kx1 J.n r g J.n = _
    unfold g16_l1_step
    rw [decide_eq_false (by omega), cond_false]
    rfl
  | m + 1, q, i, h => by
    have hi : i < J.n := by omega
    obtain ⟨g0, g1, g2, g3⟩ := hg i hi
    have ih := g16_all h33 hJ f hf kx0 kx1 r g hg hB m q (i + 1) (by omega)
    show g16_l1_step M33 f (g16_l1 M33 f kx0 kx1 (q + m + 1)) kx0 kx1 J.n r g i = _
    unfold g16_l1_step
    rw [decide_eq_true (show (i : Int) < J.n by omega), decide_eq_true (show (0 : Int) ≤ i by omega), Int.toNat_natCast, g0, g1, g2, g3]
    simp only [toS, toI]
    have ef : fitKs [LK.s, LK.i IntKind.i32, LK.i IntKind.i32, LK.i IntKind.u8] [.str (J.nm i), .int .i32 (J.x i), .int .i32 (J.y i), .int .u8 (J.fx i)] = true := rfl
    have h0 := g16_all0 (M33 := M33) J hJ f (fun a b => kx0 a b) (fun n r g i => g16_l1 M33 f kx0 kx1 (q + m + 1) n r g (IntKind.i64.wrap (i + 1))) r g hg i hi i (f - i - 1) 0 (by omega)
    rw [show f - i - 1 + i + 1 = f by omega] at h0
    rw [ef, h33 _ _ _ _ (hB i hi), okM_b, getV_b]
    simp only [first, bad_eq]
    cases mayJ (J.nm i) (J.x i) (J.y i) (J.fx i)
    · rfl
    · simp only [Bool.not_true, cond_true, cond_false, Bool.false_or]
      refine h0.trans ?_
      rw [wrap_succ (by omega), ih]
      cases anyFrom (J.dup i) i 0 <;> rfl

theorem check16 {M33 : List AV → Option AV} {B : Nat} (h33 : ∀ s x y fx, s.size ≤ B → M33 [.agg [.str s, .int .i32 x, .int .i32 y, .int .u8 fx]] = some (.bool (mayJ s x y fx))) (hJ : J.n < 4611686018427387904) (f : Nat) (hf : J.n < f)
    (r : Nat) (g : Nat → Nat → AV) (hg : J.Ok g) (hB : ∀ i, i < J.n → (J.nm i).size ≤ B) :
    g16 M33 f J.n r g = some (.tup [.int .i64 J.check.1, .int .i64 J.check.2]) := by
  unfold g16 JS.check
  by_cases h : J.n > 16
  · rw [decide_eq_true (show (J.n : Int) > 16 by omega), decide_eq_true h]; rfl
  · rw [decide_eq_false (show ¬ (J.n : Int) > 16 by omega), decide_eq_false h, cond_false, cond_false]
    have e := g16_all J h33 hJ f hf (fun xu2 xu3 => some (.tup [.int .i64 xu2, .int .i64 xu3])) (some (.tup [.int .i64 0, .int .i64 0])) r g hg hB J.n (f - J.n - 1) 0 (by omega)
    rw [show f - J.n - 1 + J.n + 1 = f by omega] at e
    refine e.trans ?_
    cases first J.bad J.n 0 <;> rfl
end
end Go.Proofs.Tryz
end
section
namespace Go.Proofs.Tryz
open Go Go.Am
set_option maxRecDepth 100000

/-- Members, as the program reads them. -/
structure MS where
  n : Nat
  nm : Nat → ByteArray
  kd : Nat → Int
  a : Nat → Int
  b : Nat → Int
  ha : Nat → Bool
  hb : Nat → Bool
  e : Nat → Nat
  ar : Nat → Nat
  iv : Nat → Nat
def MS.Ok (M : MS) (g : Nat → Nat → AV) : Prop := ∀ i, i < M.n → g i 0 = .str (M.nm i) ∧ g i 1 = .int .u8 (M.kd i) ∧ g i 2 = .int .i64 (M.a i) ∧ g i 3 = .int .i64 (M.b i) ∧ g i 4 = .bool (M.ha i) ∧ g i 5 = .bool (M.hb i) ∧
  g i 6 = .flt .f64 (some (M.e i)) ∧ g i 7 = .flt .f64 (some (M.ar i)) ∧ g i 8 = .flt .f64 (some (M.iv i))

def numB (x : Option Nat) : Bool :=
  bif ford FloatKind.f64 x (some 4336966441157787648) == some Ordering.gt || ford FloatKind.f64 x (some 4336966441157787648) == some Ordering.eq then ford FloatKind.f64 x (some 4877398396442247168) == some Ordering.lt || ford FloatKind.f64 x (some 4877398396442247168) == some Ordering.eq else false
theorem num31 (f : Nat) (x : Option Nat) : g31 f x = some (.bool (numB x)) := rfl
theorem num35 (f : Nat) (x : Option Nat) : g35 f x = some (.bool (numB x)) := rfl
theorem sign36 (f : Nat) (b : Nat) : g36 f (some b) = some (.bool (decide (IntKind.i64.wrap ((b : Nat) : Int) < 0))) := rfl

theorem toS_str (s : ByteArray) : toS (.str s) = s := rfl
theorem toI_int (k : IntKind) (n : Int) : toI (.int k n) = n := rfl
theorem toB_bool (b : Bool) : toB (.bool b) = b := rfl
theorem toF_flt (k : FloatKind) (x : Option Nat) : toF (.flt k x) = x := rfl

section
variable (M : MS)
def MS.core (nj i : Nat) : Bool :=
  bif nameB (M.nm i) then bif decide (M.a i < 0) then false else bif decide (M.a i ≥ nj) then false else bif decide (M.b i < 0) then false else bif decide (M.b i ≥ nj) then false else
    bif M.a i == M.b i then false else bif numB (some (M.e i)) then numB (some (M.ar i)) else false
  else false
def MS.may (nj i : Nat) : Bool := bif anyFrom (fun k => strEq (M.nm k) (M.nm i)) i 0 then false else bif M.core nj i then
    (bif M.kd i == 1 then (bif M.ha i then false else bif M.hb i then false else ((M.iv i : Nat) : Int) == 0) else bif M.kd i == 2 then numB (some (M.iv i)) else false)
  else false

structure SpN (N : List AV → Option AV) : Prop where
  sp : ∀ x, N [.flt .f64 x] = some (.bool (numB x))

theorem fitM (s : ByteArray) (k a b : Int) (p q : Bool) (x y z : Option Nat) :
    fitKs [LK.s, LK.i IntKind.u8, LK.i IntKind.i64, LK.i IntKind.i64, LK.b, LK.b, LK.f FloatKind.f64, LK.f FloatKind.f64, LK.f FloatKind.f64] [.str s, .int .u8 k, .int .i64 a, .int .i64 b, .bool p, .bool q, .flt .f64 x, .flt .f64 y, .flt .f64 z] = true := rfl

theorem g15_all {M30 M31 : List AV → Option AV} (hM : M.n < 4611686018427387904) (f : Nat) (kx1 : Nat → Nat → (Nat → Nat → AV) → Nat → Nat → (Nat → Nat → AV) → ByteArray → Int → Int → Int → Bool → Bool → Option Nat → Option Nat → Option Nat → Option AV)
    (r : Nat) (g : Nat → Nat → AV) (hg : M.Ok g) (a1 a2 : Nat) (a3 : Nat → Nat → AV) (a4 a5 : Nat) (a6 : Nat → Nat → AV) (c1 c2 c3 : Int) (d1 d2 : Bool) (o1 o2 o3 : Option Nat) (i : Nat) (hi : i < M.n) :
    ∀ (m q k : Nat), k + m = i → g15_l0 M30 M31 f (fun b _ _ _ _ _ _ _ _ _ _ _ _ _ _ _ _ _ _ _ _ _ _ _ _ => some (.bool b)) kx1 i r g i a1 a2 a3 a4 a5 a6 (M.nm i) c1 c2 c3 d1 d2 o1 o2 o3 (q + m + 1) k =
      bif anyFrom (fun k => strEq (M.nm k) (M.nm i)) m k then some (.bool false) else kx1 a1 a2 a3 a4 a5 a6 (M.nm i) c1 c2 c3 d1 d2 o1 o2 o3
  | 0, q, k, h => by
    obtain rfl : k = i := by omega
    show g15_l0_step M30 M31 f _ _ kx1 k r g k a1 a2 a3 a4 a5 a6 (M.nm k) c1 c2 c3 d1 d2 o1 o2 o3 k = _
    unfold g15_l0_step
    rw [decide_eq_false (by omega), cond_false]
    rfl
  | m + 1, q, k, h => by
    have ih := g15_all (M30 := M30) (M31 := M31) hM f kx1 r g hg a1 a2 a3 a4 a5 a6 c1 c2 c3 d1 d2 o1 o2 o3 i hi m q (k + 1) (by omega)
    obtain ⟨k0, k1, k2, k3, k4, k5, k6, k7, k8⟩ := hg k (by omega)
    show g15_l0_step M30 M31 f (g15_l0 M30 M31 f _ kx1 i r g i a1 a2 a3 a4 a5 a6 (M.nm i) c1 c2 c3 d1 d2 o1 o2 o3 (q + m + 1)) _ kx1 i r g i a1 a2 a3 a4 a5 a6 (M.nm i) c1 c2 c3 d1 d2 o1 o2 o3 k = _
    unfold g15_l0_step
    rw [decide_eq_true (show (k : Int) < i by omega), decide_eq_true (show (0 : Int) ≤ k by omega), wrap_succ (by omega), Int.toNat_natCast, k0, k1, k2, k3, k4, k5, k6, k7, k8, fitM, ih]
    simp only [anyFrom, toS]
    cases strEq (M.nm k) (M.nm i) <;> rfl

theorem may15 {M30 M31 : List AV → Option AV} {B : Nat} (h30 : Sp28 M30 B) (h31 : SpN M31) (hM : M.n < 4611686018427387904) (f : Nat) (hf : M.n < f) (jn jr : Nat) (jg : Nat → Nat → AV) (r : Nat) (hr : M.n ≤ r) (g : Nat → Nat → AV) (hg : M.Ok g)
    (i : Nat) (hi : i < M.n) (hB : (M.nm i).size ≤ B) : g15 M30 M31 f jn jr jg M.n r g i = some (.bool (M.may jn i)) := by
  obtain ⟨g0, g1, g2, g3, g4, g5, g6, g7, g8⟩ := hg i hi
  unfold g15
  rw [decide_eq_true (show (i : Int) < M.n by omega), decide_eq_true (show (0 : Int) ≤ i by omega), decide_eq_true (show (i : Int) ≤ r by omega), Int.toNat_natCast, g0, g1, g2, g3, g4, g5, g6, g7, g8, fitM, Nat.sub_zero, Nat.sub_zero]
  have eg : (fun (i : Nat) => g (0 + i)) = g := by funext i; rw [Nat.zero_add]
  rw [eg]
  simp only [toS_str, toI_int, toB_bool, toF_flt, cond_true]
  refine (show g15_l0 M30 M31 f _ _ i r g i _ _ _ _ _ _ (M.nm i) _ _ _ _ _ _ _ _ f ((0 : Nat) : Int) = _ from ?_)
  have ha := fun kx1 => g15_all M (M30 := M30) (M31 := M31) hM f kx1 r g hg jn jr jg M.n r g (M.kd i) (M.a i) (M.b i) (M.ha i) (M.hb i) (some (M.e i)) (some (M.ar i)) (some (M.iv i)) i hi i (f - i - 1) 0 (by omega)
  rw [show f - i - 1 + i + 1 = f by omega] at ha
  refine (ha _).trans ?_
  unfold MS.may
  cases anyFrom (fun k => strEq (M.nm k) (M.nm i)) i 0
  case true => rfl
  simp only [cond_false]
  have e30 := h30.sp (M.nm i) hB
  have es : sBits.ok [AV.flt FloatKind.f64 (some (M.iv i))] = true := rfl
  rw [e30, h31.sp, h31.sp, h31.sp, okM_b, okM_b, okM_b, okM_b, getV_b, getV_b, getV_b, getV_b, es]
  unfold MS.core
  cases nameB (M.nm i)
  · rfl
  cases decide (M.a i < 0)
  case true => rfl
  cases decide (M.a i ≥ jn)
  case true => rfl
  cases decide (M.b i < 0)
  case true => rfl
  cases decide (M.b i ≥ jn)
  case true => rfl
  cases M.a i == M.b i
  case true => rfl
  cases numB (some (M.e i))
  · rfl
  cases numB (some (M.ar i))
  · rfl
  cases M.kd i == 1
  · cases M.kd i == 2 <;> rfl
  · cases M.ha i
    · cases M.hb i <;> rfl
    · rfl
end
end Go.Proofs.Tryz
end
section
namespace Go.Proofs.Tryz
open Go Go.Am
set_option maxRecDepth 100000

theorem cmp_pos {m k k' : Nat} (h : 0 < m) : (some (compare (Ieee.signed false m k) (Ieee.signed false 0 k')) == some Ordering.eq) = false := by
  have h1 : Ieee.signed false m k ≠ Ieee.signed false 0 k' := by
    simp only [Ieee.signed, Bool.false_eq_true, if_false, Nat.shiftLeft_eq, Nat.zero_mul]
    have : 0 < m * 2 ^ k := Nat.mul_pos h (Nat.two_pow_pos k)
    omega
  cases hc : compare (Ieee.signed false m k) (Ieee.signed false 0 k')
  · rfl
  · exact absurd (Std.LawfulEqOrd.eq_of_compare hc) h1
  · rfl

theorem order_zero (b : Nat) (hb : b < 9223372036854775808) : (FloatKind.f64.format.order b 0 == some Ordering.eq) = decide (b = 0) := by
  have e1 : FloatKind.f64.format.signWeight = 9223372036854775808 := rfl
  have e2 : FloatKind.f64.format.binade = 4503599627370496 := rfl
  have r0 : FloatKind.f64.format.read 0 = .number false 0 FloatKind.f64.format.leastPlace := rfl
  unfold Ieee.Format.order
  rw [r0]
  unfold Ieee.Format.read
  rw [e1, Nat.mod_eq_of_lt hb, Nat.div_eq_of_lt hb]
  simp only [Nat.zero_mod]
  have hneg : ((0 : Nat) == 1) = false := rfl
  rw [hneg]
  by_cases h0 : b = 0
  · subst h0; rfl
  · rw [decide_eq_false h0]
    split
    · exact cmp_pos (Nat.pos_of_ne_zero h0)
    · split
      · exact cmp_pos (by rw [e2]; omega)
      · split
        · rfl
        · rfl

theorem zeroB (b : Nat) (hb : b < 18446744073709551616) : (bif ford FloatKind.f64 (some b) (some 0) == some Ordering.eq then !decide (IntKind.i64.wrap ((b : Nat) : Int) < 0) else false) = (((b : Nat) : Int) == 0) := by
  have hf : ford FloatKind.f64 (some b) (some 0) = FloatKind.f64.format.order b 0 := rfl
  rw [hf]
  by_cases h : b < 9223372036854775808
  · rw [order_zero b h, wrap_id (by omega) (by omega), decide_eq_false (show ¬ ((b : Nat) : Int) < 0 by omega)]
    by_cases h0 : b = 0
    · subst h0; rfl
    · rw [decide_eq_false h0]
      have : ¬ ((b : Nat) : Int) = 0 := by omega
      simpa using this
  · have hw : IntKind.i64.wrap ((b : Nat) : Int) < 0 := by rw [IntKind.wrap_i64]; omega
    rw [decide_eq_true hw]
    have : ((((b : Nat) : Int)) == 0) = false := by
      have : ¬ ((b : Nat) : Int) = 0 := by omega
      simpa using this
    rw [this]
    cases (FloatKind.f64.format.order b 0 == some Ordering.eq) <;> rfl

section
variable (M : MS)
theorem g17_all {M34 M35 M36 : List AV → Option AV} (hM : M.n < 4611686018427387904) (f : Nat) (kx1 : Nat → Nat → (Nat → Nat → AV) → Nat → Nat → (Nat → Nat → AV) → ByteArray → Int → Int → Int → Bool → Bool → Option Nat → Option Nat → Option Nat → Option AV)
    (r : Nat) (g : Nat → Nat → AV) (hg : M.Ok g) (a1 a2 : Nat) (a3 : Nat → Nat → AV) (c1 c2 c3 : Int) (d1 d2 : Bool) (o1 o2 o3 : Option Nat) (i : Nat) (hi : i < M.n) :
    ∀ (m q k : Nat), k + m = i → g17_l0 M34 M35 M36 f (fun b _ _ _ _ _ _ _ _ _ _ _ _ _ _ _ => some (.bool b)) kx1 i a1 a2 a3 M.n r g (M.nm i) c1 c2 c3 d1 d2 o1 o2 o3 (q + m + 1) k =
      bif anyFrom (fun k => strEq (M.nm k) (M.nm i)) m k then some (.bool false) else kx1 a1 a2 a3 M.n r g (M.nm i) c1 c2 c3 d1 d2 o1 o2 o3
  | 0, q, k, h => by
    obtain rfl : k = i := by omega
    show g17_l0_step M34 M35 M36 f _ _ kx1 k a1 a2 a3 M.n r g (M.nm k) c1 c2 c3 d1 d2 o1 o2 o3 k = _
    unfold g17_l0_step
    rw [decide_eq_false (by omega), cond_false]
    rfl
  | m + 1, q, k, h => by
    have ih := g17_all (M34 := M34) (M35 := M35) (M36 := M36) hM f kx1 r g hg a1 a2 a3 c1 c2 c3 d1 d2 o1 o2 o3 i hi m q (k + 1) (by omega)
    obtain ⟨k0, _⟩ := hg k (by omega)
    show g17_l0_step M34 M35 M36 f (g17_l0 M34 M35 M36 f _ kx1 i a1 a2 a3 M.n r g (M.nm i) c1 c2 c3 d1 d2 o1 o2 o3 (q + m + 1)) _ kx1 i a1 a2 a3 M.n r g (M.nm i) c1 c2 c3 d1 d2 o1 o2 o3 k = _
    unfold g17_l0_step
    have e1 : ∀ s, fitK LK.s (.str s) = true := fun _ => rfl
    rw [decide_eq_true (show (k : Int) < i by omega), decide_eq_true (show (0 : Int) ≤ k by omega), decide_eq_true (show (k : Int) < M.n by omega), wrap_succ (by omega), Int.toNat_natCast, k0, e1, ih]
    simp only [anyFrom, toS_str]
    cases strEq (M.nm k) (M.nm i) <;> rfl

theorem may17 {M34 M35 M36 : List AV → Option AV} {B : Nat} (h34 : Sp28 M34 B) (h35 : SpN M35) (h36 : ∀ b, M36 [.flt .f64 (some b)] = some (.bool (decide (IntKind.i64.wrap ((b : Nat) : Int) < 0)))) (hM : M.n < 4611686018427387904) (f : Nat) (hf : M.n < f)
    (jn jr : Nat) (jg : Nat → Nat → AV) (r : Nat) (g : Nat → Nat → AV) (hg : M.Ok g) (i : Nat) (hi : i < M.n) (hB : (M.nm i).size ≤ B) (hb : M.iv i < 18446744073709551616) : g17 M34 M35 M36 f jn jr jg M.n r g i = some (.bool (M.may jn i)) := by
  obtain ⟨g0, g1, g2, g3, g4, g5, g6, g7, g8⟩ := hg i hi
  unfold g17
  rw [decide_eq_true (show (i : Int) < M.n by omega), decide_eq_true (show (0 : Int) ≤ i by omega), Int.toNat_natCast, g0, g1, g2, g3, g4, g5, g6, g7, g8, fitM]
  simp only [toS_str, toI_int, toB_bool, toF_flt, cond_true]
  refine (show g17_l0 M34 M35 M36 f _ _ i _ _ _ M.n r g (M.nm i) _ _ _ _ _ _ _ _ f ((0 : Nat) : Int) = _ from ?_)
  have ha := fun kx1 => g17_all M (M34 := M34) (M35 := M35) (M36 := M36) hM f kx1 r g hg jn jr jg (M.kd i) (M.a i) (M.b i) (M.ha i) (M.hb i) (some (M.e i)) (some (M.ar i)) (some (M.iv i)) i hi i (f - i - 1) 0 (by omega)
  rw [show f - i - 1 + i + 1 = f by omega] at ha
  refine (ha _).trans ?_
  unfold MS.may
  cases anyFrom (fun k => strEq (M.nm k) (M.nm i)) i 0
  case true => rfl
  simp only [cond_false]
  have e30 := h34.sp (M.nm i) hB
  have hz := zeroB (M.iv i) hb
  rw [e30, h35.sp, h35.sp, h35.sp, h36, okM_b, okM_b, okM_b, okM_b, okM_b, getV_b, getV_b, getV_b, getV_b, getV_b, ← hz]
  unfold MS.core
  cases nameB (M.nm i)
  · rfl
  cases decide (M.a i < 0)
  case true => rfl
  cases decide (M.a i ≥ jn)
  case true => rfl
  cases decide (M.b i < 0)
  case true => rfl
  cases decide (M.b i ≥ jn)
  case true => rfl
  cases M.a i == M.b i
  case true => rfl
  cases numB (some (M.e i))
  · rfl
  cases numB (some (M.ar i))
  · rfl
  cases M.kd i == 1
  · cases M.kd i == 2 <;> rfl
  · cases M.ha i
    · cases M.hb i
      · cases ford FloatKind.f64 (some (M.iv i)) (some 0) == some Ordering.eq <;> rfl
      · rfl
    · rfl
end
end Go.Proofs.Tryz
end
section
namespace Go.Proofs.Tryz
open Go Go.Am
set_option maxRecDepth 100000

def planCheck (J : JS) (M : MS) : Int × Int := bif J.check.1 != 0 then J.check else bif decide (M.n > 48) then (3, 0) else match first (fun i => !M.may J.n i) M.n 0 with
  | some i => (290, (i : Int))
  | none => (0, 0)
def pair (p : Int × Int) : AV := .tup [.int .i64 p.1, .int .i64 p.2]

theorem okM_p (p : Int × Int) : okM [RS.one (LK.i IntKind.i64), RS.one (LK.i IntKind.i64)] (some (pair p)) = true := rfl
theorem getP1 (p : Int × Int) : toI ((toT (getV (some (pair p)))).headD .dead) = p.1 := rfl
theorem getP2 (p : Int × Int) : toI ((toT (getV (some (pair p)))).tail.headD .dead) = p.2 := rfl

theorem g5_all {M14 M15 : List AV → Option AV} (J : JS) (M : MS) (jr r : Nat) (jg g : Nat → Nat → AV) (h15 : ∀ i : Nat, i < M.n → M15 [.agg [.ro 4 J.n jr jg, .ro 9 M.n r g], .int .i64 i] = some (.bool (M.may J.n i))) (hM : M.n < 4611686018427387904) (f : Nat)
    (kx0 : Int → Int → Nat → Nat → (Nat → Nat → AV) → Nat → Nat → (Nat → Nat → AV) → Option AV) (kx1 : Nat → Nat → (Nat → Nat → AV) → Nat → Nat → (Nat → Nat → AV) → Option AV) :
    ∀ (m q i : Nat), i + m = M.n → g5_l0 M14 M15 f kx0 kx1 M.n J.n jr jg M.n r g (q + m + 1) i = match first (fun i => !M.may J.n i) m i with
      | some j => kx0 290 j J.n jr jg M.n r g
      | none => kx1 J.n jr jg M.n r g
  | 0, q, i, h => by
    obtain rfl : i = M.n := by omega
    show g5_l0_step M14 M15 f _ kx0 kx1 M.n J.n jr jg M.n r g M.n = _
    unfold g5_l0_step
    rw [decide_eq_false (by omega), cond_false]
    rfl
  | m + 1, q, i, h => by
    have hi : i < M.n := by omega
    have ih := g5_all (M14 := M14) J M jr r jg g h15 hM f kx0 kx1 m q (i + 1) (by omega)
    show g5_l0_step M14 M15 f (g5_l0 M14 M15 f kx0 kx1 M.n J.n jr jg M.n r g (q + m + 1)) kx0 kx1 M.n J.n jr jg M.n r g i = _
    unfold g5_l0_step
    rw [decide_eq_true (show (i : Int) < M.n by omega), h15 i hi, okM_b, getV_b, wrap_succ (by omega), ih]
    simp only [first]
    cases M.may J.n i <;> rfl

theorem check5 {M14 M15 : List AV → Option AV} (J : JS) (M : MS) (jr r : Nat) (jg g : Nat → Nat → AV) (h14 : M14 [.ro 4 J.n jr jg] = some (pair J.check))
    (h15 : ∀ i : Nat, i < M.n → M15 [.agg [.ro 4 J.n jr jg, .ro 9 M.n r g], .int .i64 i] = some (.bool (M.may J.n i))) (hM : M.n < 4611686018427387904) (f : Nat) (hf : M.n < f) :
    g5 M14 M15 f J.n jr jg M.n r g = some (pair (planCheck J M)) := by
  unfold g5 planCheck
  rw [h14, okM_p, getP1, getP2, cond_true]
  cases J.check.1 != 0
  case true => rfl
  rw [cond_false, cond_false]
  by_cases h : M.n > 48
  · rw [decide_eq_true (show (M.n : Int) > 48 by omega), decide_eq_true h]; rfl
  · rw [decide_eq_false (show ¬ (M.n : Int) > 48 by omega), decide_eq_false h, cond_false, cond_false]
    have e := g5_all (M14 := M14) J M jr r jg g h15 hM f (fun xu2 xu3 _ _ _ _ _ _ => some (.tup [.int .i64 xu2, .int .i64 xu3])) (fun _ _ _ _ _ _ => some (.tup [.int .i64 0, .int .i64 0])) M.n (f - M.n - 1) 0 (by omega)
    rw [show f - M.n - 1 + M.n + 1 = f by omega] at e
    refine e.trans ?_
    cases first (fun i => !M.may J.n i) M.n 0 <;> rfl

theorem g6_all {M16 M17 : List AV → Option AV} (J : JS) (M : MS) (jr r : Nat) (jg g : Nat → Nat → AV) (h17 : ∀ i : Nat, i < M.n → M17 [.agg [.ro 4 J.n jr jg, .ro 9 M.n r g], .int .i64 i] = some (.bool (M.may J.n i))) (hM : M.n < 4611686018427387904) (f : Nat)
    (kx0 : Int → Int → Nat → Nat → (Nat → Nat → AV) → Nat → Nat → (Nat → Nat → AV) → Option AV) (kx1 : Nat → Nat → (Nat → Nat → AV) → Nat → Nat → (Nat → Nat → AV) → Option AV) :
    ∀ (m q i : Nat), i + m = M.n → g6_l0 M16 M17 f kx0 kx1 J.n jr jg M.n r g (q + m + 1) i = match first (fun i => !M.may J.n i) m i with
      | some j => kx0 290 j J.n jr jg M.n r g
      | none => kx1 J.n jr jg M.n r g
  | 0, q, i, h => by
    obtain rfl : i = M.n := by omega
    show g6_l0_step M16 M17 f _ kx0 kx1 J.n jr jg M.n r g M.n = _
    unfold g6_l0_step
    rw [decide_eq_false (by omega), cond_false]
    rfl
  | m + 1, q, i, h => by
    have hi : i < M.n := by omega
    have ih := g6_all (M16 := M16) J M jr r jg g h17 hM f kx0 kx1 m q (i + 1) (by omega)
    show g6_l0_step M16 M17 f (g6_l0 M16 M17 f kx0 kx1 J.n jr jg M.n r g (q + m + 1)) kx0 kx1 J.n jr jg M.n r g i = _
    unfold g6_l0_step
    rw [decide_eq_true (show (i : Int) < M.n by omega), h17 i hi, okM_b, getV_b, wrap_succ (by omega), ih]
    simp only [first]
    cases M.may J.n i <;> rfl

theorem check6 {M16 M17 : List AV → Option AV} (J : JS) (M : MS) (jr r : Nat) (jg g : Nat → Nat → AV) (h16 : M16 [.ro 4 J.n jr jg] = some (pair J.check))
    (h17 : ∀ i : Nat, i < M.n → M17 [.agg [.ro 4 J.n jr jg, .ro 9 M.n r g], .int .i64 i] = some (.bool (M.may J.n i))) (hM : M.n < 4611686018427387904) (f : Nat) (hf : M.n < f) :
    g6 M16 M17 f J.n jr jg M.n r g = some (pair (planCheck J M)) := by
  unfold g6 planCheck
  rw [h16, okM_p, getP1, getP2, cond_true]
  cases J.check.1 != 0
  case true => rfl
  rw [cond_false, cond_false]
  by_cases h : M.n > 48
  · rw [decide_eq_true (show (M.n : Int) > 48 by omega), decide_eq_true h]; rfl
  · rw [decide_eq_false (show ¬ (M.n : Int) > 48 by omega), decide_eq_false h, cond_false, cond_false]
    have e := g6_all (M16 := M16) J M jr r jg g h17 hM f (fun xu2 xu3 _ _ _ _ _ _ => some (.tup [.int .i64 xu2, .int .i64 xu3])) (fun _ _ _ _ _ _ => some (.tup [.int .i64 0, .int .i64 0])) M.n (f - M.n - 1) 0 (by omega)
    rw [show f - M.n - 1 + M.n + 1 = f by omega] at e
    refine e.trans ?_
    cases first (fun i => !M.may J.n i) M.n 0 <;> rfl
end Go.Proofs.Tryz
end
section
namespace Go.Proofs.Tryz
open Go Go.Am
set_option maxRecDepth 100000

section
variable (M : MS)
def MS.pa (k : Nat) : Bool := bif M.kd k == 2 then !M.ha k else false
def MS.pb (k : Nat) : Bool := bif M.kd k == 2 then !M.hb k else false
/-- Does member k ask for a turn at joint j? -/
def MS.tn (j : Nat) (k : Nat) : Bool := (M.a k == (j : Int) && M.pa k) || (M.b k == (j : Int) && M.pb k)

theorem stands37 (f : Nat) (s : ByteArray) (kd a b : Int) (ha hb : Bool) (x y z : Option Nat) :
    g37 f s kd a b ha hb x y z = some (.tup [.bool (bif kd == 2 then !ha else false), .bool (bif kd == 2 then !hb else false)]) := by
  unfold g37
  cases kd == 2 <;> rfl

theorem g19_all (hM : M.n < 4611686018427387904) (f : Nat) (jn jr r : Nat) (jg g : Nat → Nat → AV) (hg : M.Ok g) (j : Nat) :
    ∀ (m q k : Nat), k + m = M.n → g19_l0 f (fun b _ _ _ _ _ _ _ _ _ _ _ _ _ _ _ => some (.bool b)) (fun _ _ _ _ _ _ => some (.bool false)) j jn jr jg M.n r g (q + m + 1) k = some (.bool (anyFrom (M.tn j) m k))
  | 0, q, k, h => by
    obtain rfl : k = M.n := by omega
    show g19_l0_step f _ _ _ j jn jr jg M.n r g M.n = _
    unfold g19_l0_step
    rw [decide_eq_false (by omega), cond_false]
    rfl
  | m + 1, q, k, h => by
    have ih := g19_all hM f jn jr r jg g hg j m q (k + 1) (by omega)
    obtain ⟨k0, k1, k2, k3, k4, k5, k6, k7, k8⟩ := hg k (by omega)
    show g19_l0_step f (g19_l0 f _ _ j jn jr jg M.n r g (q + m + 1)) _ _ j jn jr jg M.n r g k = _
    unfold g19_l0_step
    rw [decide_eq_true (show (k : Int) < M.n by omega), decide_eq_true (show (0 : Int) ≤ k by omega), wrap_succ (by omega), Int.toNat_natCast, k0, k1, k2, k3, k4, k5, k6, k7, k8, fitM, ih]
    simp only [anyFrom, toS_str, toI_int, toB_bool, toF_flt, MS.tn, MS.pa, MS.pb]
    cases M.kd k == 2 <;> cases M.a k == (j : Int) <;> cases M.b k == (j : Int) <;> cases M.ha k <;> cases M.hb k <;> rfl

theorem turns19 (hM : M.n < 4611686018427387904) (f : Nat) (hf : M.n < f) (jn jr r : Nat) (jg g : Nat → Nat → AV) (hg : M.Ok g) (j : Nat) : g19 f jn jr jg M.n r g j = some (.bool (anyLt (M.tn j) M.n)) := by
  have e := g19_all M hM f jn jr r jg g hg j M.n (f - M.n - 1) 0 (by omega)
  rw [show f - M.n - 1 + M.n + 1 = f by omega] at e
  have e2 := anyFrom_lt (M.tn j) M.n 0
  rw [Nat.zero_add] at e2
  simp only [anyLt, Bool.false_or] at e2
  rw [e2]
  exact e

def encT (t : Nat → Bool) (n : Nat) : List (List AV) := (List.range n).map fun j => [AV.bool (t j)]
theorem encT_get (t : Nat → Bool) {n a : Nat} (h : a < n) (z : List AV) : (encT t n).getD a z = [.bool (t a)] := by
  unfold encT
  simp [List.getD, h]
theorem encT_set (t : Nat → Bool) {n a : Nat} (x : Bool) : (encT t n).set a [.bool x] = encT (fun j => bif j == a then x else t j) n := by
  unfold encT
  apply List.ext_getElem?
  intro i
  rw [List.getElem?_set]
  by_cases hi : i < n
  · by_cases h : a = i
    · subst h
      simp [hi]
    · have : (i == a) = false := by simpa using fun e => h e.symm
      simp [h, hi, this]
  · have h1 : ((List.range n).map fun j => [AV.bool (t j)])[i]? = none := by simp; omega
    have h2 : ((List.range n).map fun j => [AV.bool (bif j == a then x else t j)])[i]? = none := by simp; omega
    rw [h2]
    split
    · rename_i h; subst h
      simp [hi]
    · exact h1

def MS.T : Nat → Nat → Bool
  | 0, _ => false
  | k + 1, j => MS.T k j || M.tn j k
theorem T_any (j : Nat) : ∀ k, M.T k j = anyLt (M.tn j) k
  | 0 => rfl
  | k + 1 => by simp only [MS.T, anyLt, T_any j k]

theorem okM_bb (p q : Bool) : okM [RS.one LK.b, RS.one LK.b] (some (.tup [.bool p, .bool q])) = true := rfl

/-- Ends lie among the joints. -/
def MS.In (jn : Nat) : Prop := ∀ k, k < M.n → ∃ a b : Nat, M.a k = (a : Int) ∧ M.b k = (b : Int) ∧ a < jn ∧ b < jn

theorem T_step (jn k a b : Nat) (ha : M.a k = (a : Int)) (hb : M.b k = (b : Int)) (haj : a < jn) (hbj : b < jn) (z : List AV) :
    ((encT (M.T k) jn).set a [.bool (bif M.T k a then true else M.pa k)]).set b [.bool (bif (bif b == a then (bif M.T k a then true else M.pa k) else M.T k b) then true else M.pb k)] = encT (M.T (k + 1)) jn := by
  rw [encT_set, encT_set]
  congr 1
  funext j
  simp only [MS.T, MS.tn, ha, hb]
  have e1 : ((a : Int) == (j : Int)) = (j == a) := by
    by_cases h : j = a
    · subst h; simp
    · have h1 : (j == a) = false := by simpa using h
      have h2 : ¬ (a : Int) = (j : Int) := by omega
      rw [h1]; simpa using h2
  have e2 : ((b : Int) == (j : Int)) = (j == b) := by
    by_cases h : j = b
    · subst h; simp
    · have h1 : (j == b) = false := by simpa using h
      have h2 : ¬ (b : Int) = (j : Int) := by omega
      rw [h1]; simpa using h2
  rw [e1, e2]
  by_cases hja : j = a
  · subst hja
    by_cases hjb : j = b
    · subst hjb
      simp only [beq_self_eq_true]
      cases M.T k j <;> cases M.pa k <;> cases M.pb k <;> rfl
    · have h1 : (j == b) = false := by simpa using hjb
      rw [h1]
      simp only [beq_self_eq_true]
      cases M.T k j <;> cases M.pa k <;> rfl
  · have h1 : (j == a) = false := by simpa using hja
    rw [h1]
    by_cases hjb : j = b
    · subst hjb
      rw [h1]
      simp only [beq_self_eq_true]
      cases M.T k j <;> cases M.pb k <;> rfl
    · have h2 : (j == b) = false := by simpa using hjb
      rw [h2]
      cases M.T k j <;> rfl

theorem fitKb (b : Bool) : fitK LK.b (.bool b) = true := rfl

theorem g18_A {M37 : List AV → Option AV} (h37 : ∀ s kd a b ha hb x y z, M37 [.agg [.str s, .int .u8 kd, .int .i64 a, .int .i64 b, .bool ha, .bool hb, .flt .f64 x, .flt .f64 y, .flt .f64 z]] = some (.tup [.bool (bif kd == 2 then !ha else false), .bool (bif kd == 2 then !hb else false)]))
    (hM : M.n < 4611686018427387904) (f : Nat) (kx0 : Nat → Nat → Nat → Nat → Nat → (Nat → Nat → AV) → Nat → Nat → (Nat → Nat → AV) → Int → List AV → List (List AV) → List AV → List (List AV) → Option AV) (jn jr r : Nat) (jg g : Nat → Nat → AV) (hg : M.Ok g) (hin : M.In jn) (c : Int) (z2 z3 : List AV) (e3 : List (List AV)) :
    ∀ (m q k : Nat), k + m = M.n → g18_l0 M37 f kx0 0 jn jn M.n r g M.n jn jr jg M.n r g c z2 z3 e3 (q + m + 1) k (encT (M.T k) jn) = kx0 0 jn jn jn jr jg M.n r g c z2 (encT (M.T M.n) jn) z3 e3
  | 0, q, k, h => by
    obtain rfl : k = M.n := by omega
    show g18_l0_step M37 f _ kx0 0 jn jn M.n r g M.n jn jr jg M.n r g c z2 z3 e3 M.n _ = _
    unfold g18_l0_step
    rw [decide_eq_false (by omega), cond_false]
  | m + 1, q, k, h => by
    have ih := g18_A h37 hM f kx0 jn jr r jg g hg hin c z2 z3 e3 m q (k + 1) (by omega)
    obtain ⟨k0, k1, k2, k3, k4, k5, k6, k7, k8⟩ := hg k (by omega)
    obtain ⟨a, b, ha, hb, haj, hbj⟩ := hin k (by omega)
    have hst := T_step M jn k a b ha hb haj hbj z2
    show g18_l0_step M37 f (g18_l0 M37 f kx0 0 jn jn M.n r g M.n jn jr jg M.n r g c z2 z3 e3 (q + m + 1)) kx0 0 jn jn M.n r g M.n jn jr jg M.n r g c z2 z3 e3 k (encT (M.T k) jn) = _
    unfold g18_l0_step
    rw [decide_eq_true (show (k : Int) < M.n by omega), decide_eq_true (show (0 : Int) ≤ k by omega), wrap_succ (by omega), Int.toNat_natCast, k0, k1, k2, k3, k4, k5, k6, k7, k8, fitM]
    rw [show toI (AV.int .i64 (M.a k)) = (a : Int) from ha, show toI (AV.int .i64 (M.b k)) = (b : Int) from hb, Int.toNat_natCast, Int.toNat_natCast, decide_eq_true (show (0 : Int) ≤ (a : Int) by omega), decide_eq_true (show (0 : Int) ≤ (b : Int) by omega), decide_eq_true (show (a : Int) < (jn : Int) by omega), decide_eq_true (show (b : Int) < (jn : Int) by omega)]
    simp only [toS_str, toI_int, toB_bool, toF_flt]
    rw [h37, okM_bb]
    simp only [Nat.zero_add, encT_get _ haj]
    have d1 : ∀ x y : AV, List.drop [x].length [y] = [] := fun _ _ => rfl
    have p1 : toB ((toT (getV (some (AV.tup [AV.bool (bif M.kd k == 2 then !M.ha k else false), AV.bool (bif M.kd k == 2 then !M.hb k else false)])))).headD AV.dead) = M.pa k := rfl
    have p2 : toB ((toT (getV (some (AV.tup [AV.bool (bif M.kd k == 2 then !M.ha k else false), AV.bool (bif M.kd k == 2 then !M.hb k else false)])))).tail.headD AV.dead) = M.pb k := rfl
    have q1 : ∀ x : Bool, ([AV.bool x].getD 0 AV.dead) = .bool x := fun _ => rfl
    simp only [d1, p1, p2, q1, toB_bool, fitKb, cond_true, encT_set, encT_get _ hbj]
    rw [encT_set, encT_set] at hst
    rw [← ih, ← hst]
end
end Go.Proofs.Tryz
end
section
namespace Go.Proofs.Tryz
open Go Go.Am
set_option maxRecDepth 100000

def mz (fx m : Int) : Bool := IntKind.u8.wrap ((BitVec.ofInt 8 fx &&& BitVec.ofInt 8 m).toNat : Int) == (0 : Int)
def nx (z : Bool) (c : Nat) : Nat := bif z then c + 1 else c
def pk (z : Bool) (c : Nat) : Int := bif z then (c : Int) else -1
/-- A joint's row: its three places; the count behind it. -/
def row (z1 z2 z4 : Bool) (c : Nat) : List AV := [.int .i64 (pk z1 c), .int .i64 (pk z2 (nx z1 c)), .int .i64 (pk z4 (nx z2 (nx z1 c)))]
def rowN (z1 z2 z4 : Bool) (c : Nat) : Nat := nx z4 (nx z2 (nx z1 c))

section
variable {M37 : List AV → Option AV} (f : Nat) (kx0 : Nat → Nat → Nat → Nat → Nat → (Nat → Nat → AV) → Int → Int → Nat → Nat → (Nat → Nat → AV) → Nat → Nat → (Nat → Nat → AV) → Int → List AV → List (List AV) → List AV → List (List AV) → Int → List AV → List (List AV) → ByteArray → Int → Int → Int → Int → Int → Int → Option AV)
  (o n c9 : Nat) (i : Int) (un ur : Nat) (ug : Nat → Nat → AV) (u57 u58 : Int) (a1 a2 : Nat) (a3 : Nat → Nat → AV) (b1 b2 : Nat) (b3 : Nat → Nat → AV) (h11 : Int) (z2 : List AV) (e2 : List (List AV)) (z3 : List AV) (e3 : List (List AV)) (z5 : List AV) (e5 : List (List AV)) (s : ByteArray) (x y fx : Int)

theorem B_step0 (q : Nat) (c : Nat) (hc : c < 4611686018427387904) (p0 p1 p2 : Int) :
    g18_l1 M37 f kx0 o n c9 i un ur ug u57 u58 1 2 4 a1 a2 a3 b1 b2 b3 h11 z2 e2 z3 e3 z5 e5 s x y fx (q + 1) 0 c p0 p1 p2 =
    g18_l1 M37 f kx0 o n c9 i un ur ug u57 u58 1 2 4 a1 a2 a3 b1 b2 b3 h11 z2 e2 z3 e3 z5 e5 s x y fx q 1 (nx (mz fx 1) c : Nat) (bif mz fx 1 then (c : Int) else p0) p1 p2 := by
  show g18_l1_step M37 f (g18_l1 M37 f kx0 o n c9 i un ur ug u57 u58 1 2 4 a1 a2 a3 b1 b2 b3 h11 z2 e2 z3 e3 z5 e5 s x y fx q) kx0 o n c9 i un ur ug u57 u58 1 2 4 a1 a2 a3 b1 b2 b3 h11 z2 e2 z3 e3 z5 e5 s x y fx 0 c p0 p1 p2 = _
  unfold g18_l1_step
  have hq : (IntKind.u8.wrap ((BitVec.ofInt 8 fx &&& BitVec.ofInt 8 (bif ((0 : Int).toNat * 1).beq 0 then (1 : Int) else bif ((0 : Int).toNat * 1 - 1).beq 0 then 2 else 4)).toNat : Int) == (0 : Int)) = mz fx 1 := rfl
  rw [hq, wrap_succ hc]
  cases mz fx 1 <;> rfl

theorem B_step1 (q : Nat) (c : Nat) (hc : c < 4611686018427387904) (p0 p1 p2 : Int) :
    g18_l1 M37 f kx0 o n c9 i un ur ug u57 u58 1 2 4 a1 a2 a3 b1 b2 b3 h11 z2 e2 z3 e3 z5 e5 s x y fx (q + 1) 1 c p0 p1 p2 =
    g18_l1 M37 f kx0 o n c9 i un ur ug u57 u58 1 2 4 a1 a2 a3 b1 b2 b3 h11 z2 e2 z3 e3 z5 e5 s x y fx q 2 (nx (mz fx 2) c : Nat) p0 (bif mz fx 2 then (c : Int) else p1) p2 := by
  show g18_l1_step M37 f (g18_l1 M37 f kx0 o n c9 i un ur ug u57 u58 1 2 4 a1 a2 a3 b1 b2 b3 h11 z2 e2 z3 e3 z5 e5 s x y fx q) kx0 o n c9 i un ur ug u57 u58 1 2 4 a1 a2 a3 b1 b2 b3 h11 z2 e2 z3 e3 z5 e5 s x y fx 1 c p0 p1 p2 = _
  unfold g18_l1_step
  have hq : (IntKind.u8.wrap ((BitVec.ofInt 8 fx &&& BitVec.ofInt 8 (bif ((1 : Int).toNat * 1).beq 0 then (1 : Int) else bif ((1 : Int).toNat * 1 - 1).beq 0 then 2 else 4)).toNat : Int) == (0 : Int)) = mz fx 2 := rfl
  rw [hq, wrap_succ hc]
  cases mz fx 2 <;> rfl

theorem B_step2 (q : Nat) (c : Nat) (hc : c < 4611686018427387904) (p0 p1 p2 : Int) (t : Bool) (h0 : 0 ≤ i) (hi : i < (n : Int)) (ht : (e2.getD (o + i.toNat) z2).getD 0 .dead = .bool t) :
    g18_l1 M37 f kx0 o n c9 i un ur ug u57 u58 1 2 4 a1 a2 a3 b1 b2 b3 h11 z2 e2 z3 e3 z5 e5 s x y fx (q + 1) 2 c p0 p1 p2 =
    g18_l1 M37 f kx0 o n c9 i un ur ug u57 u58 1 2 4 a1 a2 a3 b1 b2 b3 h11 z2 e2 z3 e3 z5 e5 s x y fx q 3 (nx (mz fx 4 && t) c : Nat) p0 p1 (bif mz fx 4 && t then (c : Int) else p2) := by
  show g18_l1_step M37 f (g18_l1 M37 f kx0 o n c9 i un ur ug u57 u58 1 2 4 a1 a2 a3 b1 b2 b3 h11 z2 e2 z3 e3 z5 e5 s x y fx q) kx0 o n c9 i un ur ug u57 u58 1 2 4 a1 a2 a3 b1 b2 b3 h11 z2 e2 z3 e3 z5 e5 s x y fx 2 c p0 p1 p2 = _
  unfold g18_l1_step
  have hq : (IntKind.u8.wrap ((BitVec.ofInt 8 fx &&& BitVec.ofInt 8 (bif ((2 : Int).toNat * 1).beq 0 then (1 : Int) else bif ((2 : Int).toNat * 1 - 1).beq 0 then 2 else 4)).toNat : Int) == (0 : Int)) = mz fx 4 := rfl
  rw [hq, wrap_succ hc, decide_eq_true h0, decide_eq_true hi, ht]
  cases mz fx 4 <;> cases t <;> rfl

theorem B_end (q : Nat) (c p0 p1 p2 : Int) :
    g18_l1 M37 f kx0 o n c9 i un ur ug u57 u58 1 2 4 a1 a2 a3 b1 b2 b3 h11 z2 e2 z3 e3 z5 e5 s x y fx (q + 1) 3 c p0 p1 p2 =
    kx0 o n c9 un ur ug u57 u58 a1 a2 a3 b1 b2 b3 h11 z2 e2 z3 e3 c z5 e5 s x y fx p0 p1 p2 := rfl
end

theorem nx_le (z : Bool) (c : Nat) : nx z c ≤ c + 1 := by cases z <;> simp [nx]

/-- The rows of the joints before i, and the count. -/
def rowsTo (fx : Nat → Int) (t : Nat → Bool) : Nat → List (List AV) × Nat
  | 0 => ([], 0)
  | i + 1 => ((rowsTo fx t i).1 ++ [row (mz (fx i) 1) (mz (fx i) 2) (mz (fx i) 4 && t i) (rowsTo fx t i).2], rowN (mz (fx i) 1) (mz (fx i) 2) (mz (fx i) 4 && t i) (rowsTo fx t i).2)
theorem rowsTo_len (fx : Nat → Int) (t : Nat → Bool) : ∀ i, (rowsTo fx t i).1.length = i
  | 0 => rfl
  | i + 1 => by simp [rowsTo, rowsTo_len fx t i]
theorem rowsTo_cnt (fx : Nat → Int) (t : Nat → Bool) : ∀ i, (rowsTo fx t i).2 ≤ 3 * i
  | 0 => Nat.le_refl _
  | i + 1 => by
    have := rowsTo_cnt fx t i
    simp only [rowsTo, rowN]
    have h1 := nx_le (mz (fx i) 1) (rowsTo fx t i).2
    have h2 := nx_le (mz (fx i) 2) (nx (mz (fx i) 1) (rowsTo fx t i).2)
    have h3 := nx_le (mz (fx i) 4 && t i) (nx (mz (fx i) 2) (nx (mz (fx i) 1) (rowsTo fx t i).2))
    omega

theorem g18_C {M37 : List AV → Option AV} (J : JS) (hJ : J.n < 1099511627776) (f : Nat) (hf : 4 ≤ f) (kx0 : Nat → Nat → (Nat → Nat → AV) → Nat → Nat → (Nat → Nat → AV) → Int → List AV → List (List AV) → List AV → List (List AV) → Int → List AV → List (List AV) → Option AV)
    (jr : Nat) (jg : Nat → Nat → AV) (hg : J.Ok jg) (b1 b2 : Nat) (b3 : Nat → Nat → AV) (h11 : Int) (z2 : List AV) (t : Nat → Bool) (z3 : List AV) (e3 : List (List AV)) (z5 : List AV) :
    ∀ (m q i : Nat), i + m = J.n → g18_l2 M37 f kx0 (q + m + 1) 0 J.n J.n J.n jr jg J.n i J.n jr jg b1 b2 b3 h11 z2 (encT t J.n) z3 e3 ((rowsTo J.fx t i).2 : Nat) z5 (rowsTo J.fx t i).1 =
      kx0 J.n jr jg b1 b2 b3 h11 z2 (encT t J.n) z3 e3 ((rowsTo J.fx t J.n).2 : Nat) z5 (rowsTo J.fx t J.n).1
  | 0, q, i, h => by
    obtain rfl : i = J.n := by omega
    show g18_l2_step M37 f _ kx0 0 J.n J.n J.n jr jg J.n J.n J.n jr jg b1 b2 b3 h11 z2 (encT t J.n) z3 e3 _ z5 _ = _
    unfold g18_l2_step
    rw [decide_eq_false (by omega), cond_false]
  | m + 1, q, i, h => by
    have hi : i < J.n := by omega
    have ih := g18_C (M37 := M37) J hJ f hf kx0 jr jg hg b1 b2 b3 h11 z2 t z3 e3 z5 m q (i + 1) (by omega)
    obtain ⟨g0, g1, g2, g3⟩ := hg i hi
    have hlen := rowsTo_len J.fx t i
    have hcnt := rowsTo_cnt J.fx t i
    show g18_l2_step M37 f (g18_l2 M37 f kx0 (q + m + 1)) kx0 0 J.n J.n J.n jr jg J.n i J.n jr jg b1 b2 b3 h11 z2 (encT t J.n) z3 e3 _ z5 _ = _
    unfold g18_l2_step
    have ef : fitKs [LK.s, LK.i IntKind.i32, LK.i IntKind.i32, LK.i IntKind.u8] [.str (J.nm i), .int .i32 (J.x i), .int .i32 (J.y i), .int .u8 (J.fx i)] = true := rfl
    rw [decide_eq_true (show (i : Int) < J.n by omega), decide_eq_true (show (0 : Int) ≤ i by omega), Int.toNat_natCast, g0, g1, g2, g3, ef]
    simp only [toS_str, toI_int, cond_true]
    obtain ⟨f', rfl⟩ : ∃ f', f = f' + 4 := ⟨f - 4, by omega⟩
    have hx1 := nx_le (mz (J.fx i) 1) (rowsTo J.fx t i).2
    have hx2 := nx_le (mz (J.fx i) 2) (nx (mz (J.fx i) 1) (rowsTo J.fx t i).2)
    rw [B_step0 (q := f' + 3) (hc := by omega), B_step1 (q := f' + 2) (hc := by omega), B_step2 (q := f' + 1) (hc := by omega) (t := t i) (h0 := by omega) (hi := by omega) (ht := by rw [Int.toNat_natCast, Nat.zero_add, encT_get _ hi]; rfl), B_end]
    rw [hlen, decide_eq_true (show (i + 1) * 24 < 70368744177664 by omega), decide_eq_true (show i + 1 < 4611686018427387904 by omega), cond_true, cond_true, wrap_succ (by omega)]
    exact ih

def zrow : List AV := [.int .i64 0, .int .i64 0, .int .i64 0]
theorem places18 {M37 : List AV → Option AV} (h37 : ∀ s kd a b ha hb x y z, M37 [.agg [.str s, .int .u8 kd, .int .i64 a, .int .i64 b, .bool ha, .bool hb, .flt .f64 x, .flt .f64 y, .flt .f64 z]] = some (.tup [.bool (bif kd == 2 then !ha else false), .bool (bif kd == 2 then !hb else false)]))
    (J : JS) (M : MS) (hJ : J.n < 1099511627776) (hM : M.n < 4611686018427387904) (f : Nat) (hf : 4 ≤ f) (hfj : J.n < f) (hfm : M.n < f) (jr r : Nat) (jg g : Nat → Nat → AV) (hjg : J.Ok jg) (hg : M.Ok g) (hin : M.In J.n) :
    g18 M37 f J.n jr jg M.n r g = some (.agg [.ro 3 J.n J.n (fun i j => ((rowsTo J.fx (M.T M.n) J.n).1.getD i zrow).getD j .dead), .int .i64 ((rowsTo J.fx (M.T M.n) J.n).2 : Nat)]) := by
  unfold g18
  rw [decide_eq_true (Int.le_refl _), Int.toNat_natCast, Nat.ble_eq_true_of_le (show 1 * J.n ≤ 281474976710656 by omega), Nat.ble_eq_true_of_le (show J.n + 1 ≤ 4611686018427387904 by omega), cond_true, cond_true, cond_true]
  have e0 : List.replicate J.n [AV.bool false] = encT (M.T 0) J.n := by
    unfold encT MS.T
    apply List.ext_getElem?
    intro i
    by_cases hi : i < J.n
    · simp [hi]
    · simp [hi]
  rw [e0]
  have hA := fun kx0 => g18_A M h37 hM f kx0 J.n jr r jg g hg hin 0 [.bool false] [.int .i64 0, .int .i64 0, .int .i64 0] [] M.n (f - M.n - 1) 0 (by omega)
  rw [show f - M.n - 1 + M.n + 1 = f by omega] at hA
  refine (hA _).trans ?_
  have hC := g18_C (M37 := M37) J hJ f hf (fun _ _ _ _ _ _ _ _ _ _ _ xh4 xh5z xh5e => some (.agg [.ro 3 xh5e.length xh5e.length (fun i j => (xh5e.getD i xh5z).getD j .dead), .int .i64 xh4])) jr jg hjg M.n r g 0 [.bool false] (M.T M.n) [.int .i64 0, .int .i64 0, .int .i64 0] [] [.int .i64 0, .int .i64 0, .int .i64 0] J.n (f - J.n - 1) 0 (by omega)
  rw [show f - J.n - 1 + J.n + 1 = f by omega] at hC
  refine hC.trans ?_
  rw [rowsTo_len]
  rfl
end Go.Proofs.Tryz
end
section
namespace Go.Proofs.Tryz
open Go Go.Am
set_option maxRecDepth 100000

theorem mz_eq {fx : Int} (h0 : 0 ≤ fx) (h7 : fx ≤ 7) : (fx.tmod 2 == 0) = mz fx 1 ∧ ((IntKind.u8.wrap (fx.tdiv 2)).tmod 2 == 0) = mz fx 2 ∧ ((IntKind.u8.wrap (fx.tdiv 4)).tmod 2 == 0) = mz fx 4 := by
  have : fx = 0 ∨ fx = 1 ∨ fx = 2 ∨ fx = 3 ∨ fx = 4 ∨ fx = 5 ∨ fx = 6 ∨ fx = 7 := by omega
  rcases this with rfl | rfl | rfl | rfl | rfl | rfl | rfl | rfl <;> exact ⟨rfl, rfl, rfl⟩

theorem fitKi8 (n : Int) : fitK (LK.i IntKind.u8) (.int .u8 n) = true := rfl

theorem g8_all {M6 M19 : List AV → Option AV} (J : JS) (hJ : J.n < 1099511627776) (f : Nat) (kx0 : Nat → Nat → (Nat → Nat → AV) → Nat → Nat → (Nat → Nat → AV) → Int → Int → List AV → List (List AV) → List AV → List (List AV) → Option AV)
    (jr : Nat) (jg : Nat → Nat → AV) (hg : J.Ok jg) (b1 b2 : Nat) (b3 : Nat → Nat → AV) (t : Nat → Bool) (h19 : ∀ i : Nat, M19 [.agg [.ro 4 J.n jr jg, .ro 9 b1 b2 b3], .int .i64 i] = some (.bool (t i))) (hfx : ∀ i, i < J.n → 0 ≤ J.fx i ∧ J.fx i ≤ 7) (h11 : Int) (z3 : List AV) (e3 : List (List AV)) (z5 : List AV) :
    ∀ (m q i : Nat), i + m = J.n → g8_l0 M6 M19 f kx0 J.n jr jg b1 b2 b3 h11 z3 e3 z5 (q + m + 1) i ((rowsTo J.fx t i).2 : Nat) (rowsTo J.fx t i).1 =
      kx0 J.n jr jg b1 b2 b3 h11 ((rowsTo J.fx t J.n).2 : Nat) z3 e3 z5 (rowsTo J.fx t J.n).1
  | 0, q, i, h => by
    obtain rfl : i = J.n := by omega
    show g8_l0_step M6 M19 f _ kx0 J.n jr jg b1 b2 b3 h11 z3 e3 z5 J.n _ _ = _
    unfold g8_l0_step
    rw [decide_eq_false (by omega), cond_false]
  | m + 1, q, i, h => by
    have hi : i < J.n := by omega
    have ih := g8_all (M6 := M6) J hJ f kx0 jr jg hg b1 b2 b3 t h19 hfx h11 z3 e3 z5 m q (i + 1) (by omega)
    obtain ⟨g0, g1, g2, g3⟩ := hg i hi
    obtain ⟨f0, f7⟩ := hfx i hi
    obtain ⟨m1, m2, m4⟩ := mz_eq f0 f7
    have hlen := rowsTo_len J.fx t i
    have hcnt := rowsTo_cnt J.fx t i
    show g8_l0_step M6 M19 f (g8_l0 M6 M19 f kx0 J.n jr jg b1 b2 b3 h11 z3 e3 z5 (q + m + 1)) kx0 J.n jr jg b1 b2 b3 h11 z3 e3 z5 i _ _ = _
    unfold g8_l0_step
    have w1 := wrap_succ (i := (rowsTo J.fx t i).2) (by omega)
    have w2 := wrap_succ (i := (rowsTo J.fx t i).2 + 1) (by omega)
    have w3 := wrap_succ (i := (rowsTo J.fx t i).2 + 1 + 1) (by omega)
    rw [decide_eq_true (show (i : Int) < J.n by omega), decide_eq_true (show (0 : Int) ≤ i by omega), Int.toNat_natCast, g3, fitKi8, show toI (AV.int .u8 (J.fx i)) = J.fx i from rfl, m1, m2, m4, h19, okM_b, getV_b, wrap_succ (show i < 4611686018427387904 by omega), w1, w2, w3, hlen,
      decide_eq_true (show (i + 1) * 24 < 70368744177664 by omega), decide_eq_true (show i + 1 < 4611686018427387904 by omega)]
    simp only [rowsTo] at ih
    rw [← ih]
    unfold row rowN pk nx
    cases mz (J.fx i) 1 <;> cases mz (J.fx i) 2 <;> cases mz (J.fx i) 4 <;> cases t i <;> first | rfl | (simp only [cond_true, cond_false, Bool.and_true, Bool.and_false, Bool.true_and, Bool.false_and, w1, w2, w3])

/-- What 'Unknowns' answers. -/
def unkAV (J : JS) (M : MS) : AV := bif (planCheck J M).1 != 0 then .tup [.agg [.ro 3 0 0 (fun _ j => [AV.int .i64 0, AV.int .i64 0, AV.int .i64 0].getD j .dead), .int .i64 0], .int .i64 (planCheck J M).1]
  else .tup [.agg [.ro 3 J.n J.n (fun i j => ((rowsTo J.fx (M.T M.n) J.n).1.getD i zrow).getD j .dead), .int .i64 ((rowsTo J.fx (M.T M.n) J.n).2 : Nat)], .int .i64 0]

theorem first_none {p : Nat → Bool} : ∀ {r i : Nat}, first p r i = none → ∀ k, i ≤ k → k < i + r → p k = false
  | 0, i, _, k, h1, h2 => by omega
  | r + 1, i, h, k, h1, h2 => by
    simp only [first] at h
    cases hp : p i <;> rw [hp] at h
    · by_cases e : k = i
      · subst e; exact hp
      · exact first_none h k (by omega) (by omega)
    · cases h

theorem planCheck_ok {J : JS} {M : MS} (h : ((planCheck J M).1 != 0) = false) : (∀ i, i < J.n → J.fx i ≤ 7) ∧ M.In J.n ∧ J.n ≤ 16 ∧ M.n ≤ 48 := by
  unfold planCheck at h
  cases hc : J.check.1 != 0
  case true => rw [hc] at h; simp only [cond_true] at h; rw [hc] at h; cases h
  rw [hc] at h
  simp only [cond_false] at h
  by_cases h48 : M.n > 48
  · rw [decide_eq_true h48] at h; cases h
  rw [decide_eq_false h48] at h
  simp only [cond_false] at h
  have hm : first (fun i => !M.may J.n i) M.n 0 = none := by
    cases hf : first (fun i => !M.may J.n i) M.n 0 with
    | none => rfl
    | some i => rw [hf] at h; cases h
  unfold JS.check at hc
  by_cases h16 : J.n > 16
  · rw [decide_eq_true h16] at hc; cases hc
  rw [decide_eq_false h16] at hc
  simp only [cond_false] at hc
  have hj : first J.bad J.n 0 = none := by
    cases hf : first J.bad J.n 0 with
    | none => rfl
    | some i => rw [hf] at hc; cases hc
  refine ⟨fun i hi => ?_, fun k hk => ?_, by omega, by omega⟩
  · have := first_none hj i (by omega) (by omega)
    unfold JS.bad at this
    simp only [Bool.or_eq_false_iff, decide_eq_false_iff_not] at this
    omega
  · have := first_none hm k (by omega) (by omega)
    simp only [Bool.not_eq_false'] at this
    unfold MS.may at this
    cases ha : anyFrom (fun k_1 => strEq (M.nm k_1) (M.nm k)) k 0 <;> rw [ha] at this
    case true => cases this
    cases hcore : M.core J.n k <;> rw [hcore] at this
    · cases this
    unfold MS.core at hcore
    cases hn : nameB (M.nm k) <;> rw [hn] at hcore
    · cases hcore
    simp only [cond_true] at hcore
    by_cases a0 : M.a k < 0
    · rw [decide_eq_true a0] at hcore; cases hcore
    rw [decide_eq_false a0] at hcore
    simp only [cond_false] at hcore
    by_cases a1 : M.a k ≥ (J.n : Int)
    · rw [decide_eq_true a1] at hcore; cases hcore
    rw [decide_eq_false a1] at hcore
    simp only [cond_false] at hcore
    by_cases b0 : M.b k < 0
    · rw [decide_eq_true b0] at hcore; cases hcore
    rw [decide_eq_false b0] at hcore
    simp only [cond_false] at hcore
    by_cases b1 : M.b k ≥ (J.n : Int)
    · rw [decide_eq_true b1] at hcore; cases hcore
    exact ⟨(M.a k).toNat, (M.b k).toNat, by omega, by omega, by omega, by omega⟩

theorem okM_P (J : JS) (M : MS) (n : Nat) (g : Nat → Nat → AV) (c : Int) : okM [RS.agg [LK.l (nat_lit 3), LK.i IntKind.i64]] (some (.agg [.ro 3 n n g, .int .i64 c])) = true := rfl

theorem unknowns7 {M5 M18 : List AV → Option AV} (J : JS) (M : MS) (f : Nat) (jr r : Nat) (jg g : Nat → Nat → AV) (h5 : M5 [.agg [.ro 4 J.n jr jg, .ro 9 M.n r g]] = some (pair (planCheck J M)))
    (h18 : ((planCheck J M).1 != 0) = false → M18 [.agg [.ro 4 J.n jr jg, .ro 9 M.n r g]] = some (.agg [.ro 3 J.n J.n (fun i j => ((rowsTo J.fx (M.T M.n) J.n).1.getD i zrow).getD j .dead), .int .i64 ((rowsTo J.fx (M.T M.n) J.n).2 : Nat)])) :
    g7 M5 M18 f J.n jr jg M.n r g = some (unkAV J M) := by
  unfold g7 unkAV
  rw [h5, okM_p, getP1, cond_true]
  cases hc : (planCheck J M).1 != 0
  · rw [h18 hc]; rfl
  · rfl

theorem unknowns8 {M6 M19 : List AV → Option AV} (J : JS) (M : MS) (f : Nat) (hf : J.n < f) (jr r : Nat) (jg g : Nat → Nat → AV) (hjg : J.Ok jg) (h6 : M6 [.agg [.ro 4 J.n jr jg, .ro 9 M.n r g]] = some (pair (planCheck J M)))
    (h19 : ∀ i : Nat, M19 [.agg [.ro 4 J.n jr jg, .ro 9 M.n r g], .int .i64 i] = some (.bool (anyLt (M.tn i) M.n))) (hfx : ∀ i, i < J.n → 0 ≤ J.fx i) :
    g8 M6 M19 f J.n jr jg M.n r g = some (unkAV J M) := by
  unfold g8 unkAV
  rw [h6, okM_p, getP1, cond_true]
  cases hc : (planCheck J M).1 != 0
  · obtain ⟨k1, k2, k3, k4⟩ := planCheck_ok hc
    have e := g8_all (M6 := M6) (M19 := M19) J (by omega) f (fun _ _ _ _ _ _ _ xh2 _ _ xh4z xh4e => some (.tup [.agg [.ro 3 xh4e.length xh4e.length (fun i j => (xh4e.getD i xh4z).getD j .dead), .int .i64 xh2], .int .i64 0])) jr jg hjg M.n r g (M.T M.n)
      (fun i => by rw [h19, T_any]) (fun i hi => ⟨hfx i hi, k1 i hi⟩) 0 [.int .i64 0, .int .i64 0, .int .i64 0] [] zrow J.n (f - J.n - 1) 0 (by omega)
    rw [show f - J.n - 1 + J.n + 1 = f by omega, rowsTo_len] at e
    exact e
  · rfl
end Go.Proofs.Tryz
end
section
namespace Go.Proofs.Tryz
open Go Go.Am
set_option maxRecDepth 100000

theorem bne_self (c : Int) : (c != c) = false := by simp
theorem beq_self (c : Int) : (c == c) = true := by simp
theorem strEq_self (s : ByteArray) : strEq s s = true := (strEq_iff s s).2 rfl

def Ints3 (n : Nat) (g : Nat → Nat → AV) : Prop := ∀ i, i < n → ∃ a b c, g i 0 = .int .i64 a ∧ g i 1 = .int .i64 b ∧ g i 2 = .int .i64 c
theorem fit3i (a b c : Int) : fitKs [LK.i IntKind.i64, LK.i IntKind.i64, LK.i IntKind.i64] [.int .i64 a, .int .i64 b, .int .i64 c] = true := rfl

theorem g9_all (f n r1 r2 : Nat) (hn : n < 4611686018427387904) (g : Nat → Nat → AV) (hg : Ints3 n g) (c d : Int) (kx0 : Bool → Nat → Nat → (Nat → Nat → AV) → Int → Nat → Nat → (Nat → Nat → AV) → Int → Option AV) (kx1 : Nat → Nat → (Nat → Nat → AV) → Int → Nat → Nat → (Nat → Nat → AV) → Int → Option AV) :
    ∀ (m q i : Nat), i + m = n → g9_l0 f kx0 kx1 n r1 g c n r2 g d (q + m + 1) i = kx1 n r1 g c n r2 g d
  | 0, q, i, h => by
    obtain rfl : i = n := by omega
    show g9_l0_step f _ kx0 kx1 i r1 g c i r2 g d i = _
    unfold g9_l0_step
    rw [decide_eq_false (by omega), cond_false]
  | m + 1, q, i, h => by
    have ih := g9_all f n r1 r2 hn g hg c d kx0 kx1 m q (i + 1) (by omega)
    obtain ⟨x, y, z, h0, h1, h2⟩ := hg i (by omega)
    show g9_l0_step f (g9_l0 f kx0 kx1 n r1 g c n r2 g d (q + m + 1)) kx0 kx1 n r1 g c n r2 g d i = _
    unfold g9_l0_step
    rw [decide_eq_true (show (i : Int) < n by omega), decide_eq_true (show (0 : Int) ≤ i by omega), Int.toNat_natCast, h0, h1, h2, fit3i, wrap_succ (by omega), ih]
    simp only [toI_int, beq_self]
    rfl

theorem same9 (f n r1 r2 : Nat) (hf : n < f) (hn : n < 4611686018427387904) (g : Nat → Nat → AV) (hg : Ints3 n g) (c : Int) : g9 f n r1 g c n r2 g c = some (.bool true) := by
  unfold g9
  rw [bne_self, bne_self]
  have e := g9_all f n r1 r2 hn g hg c c (fun xu4 _ _ _ _ _ _ _ _ => some (.bool xu4)) (fun _ _ _ _ _ _ _ _ => some (.bool true)) n (f - n - 1) 0 (by omega)
  rw [show f - n - 1 + n + 1 = f by omega] at e
  exact e

theorem fitJ (s : ByteArray) (x y fx : Int) : fitKs [LK.s, LK.i IntKind.i32, LK.i IntKind.i32, LK.i IntKind.u8] [.str s, .int .i32 x, .int .i32 y, .int .u8 fx] = true := rfl

theorem g38_all (J : JS) (hJ : J.n < 4611686018427387904) (f r1 r2 : Nat) (g1 g2 : Nat → Nat → AV) (h1 : J.Ok g1) (h2 : J.Ok g2) (kx0 : Bool → Option AV) (kx1 : Option AV) :
    ∀ (m q i : Nat), i + m = J.n → g38_l0 f kx0 kx1 J.n r1 g1 J.n r2 g2 (q + m + 1) i = kx1
  | 0, q, i, h => by
    obtain rfl : i = J.n := by omega
    show g38_l0_step f _ kx0 kx1 J.n r1 g1 J.n r2 g2 J.n = _
    unfold g38_l0_step
    rw [decide_eq_false (by omega), cond_false]
  | m + 1, q, i, h => by
    have ih := g38_all J hJ f r1 r2 g1 g2 h1 h2 kx0 kx1 m q (i + 1) (by omega)
    obtain ⟨a0, a1, a2, a3⟩ := h1 i (by omega)
    obtain ⟨b0, b1, b2, b3⟩ := h2 i (by omega)
    show g38_l0_step f (g38_l0 f kx0 kx1 J.n r1 g1 J.n r2 g2 (q + m + 1)) kx0 kx1 J.n r1 g1 J.n r2 g2 i = _
    unfold g38_l0_step
    rw [decide_eq_true (show (i : Int) < J.n by omega), decide_eq_true (show (0 : Int) ≤ i by omega), Int.toNat_natCast, a0, a1, a2, a3, b0, b1, b2, b3, fitJ, wrap_succ (by omega), ih]
    simp only [toS_str, toI_int, strEq_self, beq_self]
    rfl

theorem same38 (J : JS) (hJ : J.n < 4611686018427387904) (f r1 r2 : Nat) (hf : J.n < f) (g1 g2 : Nat → Nat → AV) (h1 : J.Ok g1) (h2 : J.Ok g2) : g38 f J.n r1 g1 J.n r2 g2 = some (.bool true) := by
  unfold g38
  rw [bne_self]
  have e := g38_all J hJ f r1 r2 g1 g2 h1 h2 (fun xu4 => some (.bool xu4)) (some (.bool true)) J.n (f - J.n - 1) 0 (by omega)
  rw [show f - J.n - 1 + J.n + 1 = f by omega] at e
  exact e

theorem float45 (f b : Nat) : g45 f (some b) (some b) = some (.bool true) := by
  unfold g45
  have : (((some b : Option Nat).getD 0 : Nat) : Int) == (((some b : Option Nat).getD 0 : Nat) : Int) := by simp
  rw [this]
  rfl

theorem member40 {M45 : List AV → Option AV} (h45 : ∀ b, M45 [.flt .f64 (some b), .flt .f64 (some b)] = some (.bool true)) (f : Nat) (s : ByteArray) (kd a b : Int) (ha hb : Bool) (x y z : Nat) :
    g40 M45 f s kd a b ha hb (some x) (some y) (some z) s kd a b ha hb (some x) (some y) (some z) = some (.bool true) := by
  unfold g40
  rw [strEq_self, h45, h45, h45, okM_b, getV_b]
  simp only [beq_self]
  cases ha <;> cases hb <;> rfl

theorem g39_all {M40 : List AV → Option AV} (h40 : ∀ s kd a b ha hb x y z, M40 [.agg [.str s, .int .u8 kd, .int .i64 a, .int .i64 b, .bool ha, .bool hb, .flt .f64 (some x), .flt .f64 (some y), .flt .f64 (some z)], .agg [.str s, .int .u8 kd, .int .i64 a, .int .i64 b, .bool ha, .bool hb, .flt .f64 (some x), .flt .f64 (some y), .flt .f64 (some z)]] = some (.bool true))
    (M : MS) (hM : M.n < 4611686018427387904) (f r1 r2 : Nat) (g1 g2 : Nat → Nat → AV) (h1 : M.Ok g1) (h2 : M.Ok g2) (kx0 : Bool → Option AV) (kx1 : Option AV) :
    ∀ (m q i : Nat), i + m = M.n → g39_l0 M40 f kx0 kx1 M.n r1 g1 M.n r2 g2 (q + m + 1) i = kx1
  | 0, q, i, h => by
    obtain rfl : i = M.n := by omega
    show g39_l0_step M40 f _ kx0 kx1 M.n r1 g1 M.n r2 g2 M.n = _
    unfold g39_l0_step
    rw [decide_eq_false (by omega), cond_false]
  | m + 1, q, i, h => by
    have ih := g39_all h40 M hM f r1 r2 g1 g2 h1 h2 kx0 kx1 m q (i + 1) (by omega)
    obtain ⟨a0, a1, a2, a3, a4, a5, a6, a7, a8⟩ := h1 i (by omega)
    obtain ⟨b0, b1, b2, b3, b4, b5, b6, b7, b8⟩ := h2 i (by omega)
    show g39_l0_step M40 f (g39_l0 M40 f kx0 kx1 M.n r1 g1 M.n r2 g2 (q + m + 1)) kx0 kx1 M.n r1 g1 M.n r2 g2 i = _
    unfold g39_l0_step
    rw [decide_eq_true (show (i : Int) < M.n by omega), decide_eq_true (show (0 : Int) ≤ i by omega), Int.toNat_natCast, a0, a1, a2, a3, a4, a5, a6, a7, a8, b0, b1, b2, b3, b4, b5, b6, b7, b8, fitM, wrap_succ (by omega), ih]
    simp only [toS_str, toI_int, toB_bool, toF_flt]
    rw [h40, okM_b, getV_b]
    rfl

theorem same39 {M40 : List AV → Option AV} (h40 : ∀ s kd a b ha hb x y z, M40 [.agg [.str s, .int .u8 kd, .int .i64 a, .int .i64 b, .bool ha, .bool hb, .flt .f64 (some x), .flt .f64 (some y), .flt .f64 (some z)], .agg [.str s, .int .u8 kd, .int .i64 a, .int .i64 b, .bool ha, .bool hb, .flt .f64 (some x), .flt .f64 (some y), .flt .f64 (some z)]] = some (.bool true))
    (M : MS) (hM : M.n < 4611686018427387904) (f r1 r2 : Nat) (hf : M.n < f) (g1 g2 : Nat → Nat → AV) (h1 : M.Ok g1) (h2 : M.Ok g2) : g39 M40 f M.n r1 g1 M.n r2 g2 = some (.bool true) := by
  unfold g39
  rw [bne_self]
  have e := g39_all h40 M hM f r1 r2 g1 g2 h1 h2 (fun xu4 => some (.bool xu4)) (some (.bool true)) M.n (f - M.n - 1) 0 (by omega)
  rw [show f - M.n - 1 + M.n + 1 = f by omega] at e
  exact e

theorem same20 {M38 M39 : List AV → Option AV} (f jn jr1 jr2 : Nat) (jg1 jg2 : Nat → Nat → AV) (mn r1 r2 : Nat) (g1 g2 : Nat → Nat → AV) (h38 : M38 [.ro 4 jn jr1 jg1, .ro 4 jn jr2 jg2] = some (.bool true)) (h39 : M39 [.ro 9 mn r1 g1, .ro 9 mn r2 g2] = some (.bool true)) :
    g20 M38 M39 f jn jr1 jg1 mn r1 g1 jn jr2 jg2 mn r2 g2 = some (.bool true) := by
  unfold g20
  rw [h38, h39, okM_b, getV_b]
  rfl

theorem kept10 {M20 M21 M22 : List AV → Option AV} (f jn jr1 jr2 : Nat) (jg1 jg2 : Nat → Nat → AV) (mn r1 r2 : Nat) (g1 g2 : Nat → Nat → AV) (h20 : M20 [.agg [.ro 4 jn jr1 jg1, .ro 9 mn r1 g1], .agg [.ro 4 jn jr2 jg2, .ro 9 mn r2 g2]] = some (.bool true))
    (h21 : M21 [.ro 4 jn jr1 jg1, .ro 4 jn jr2 jg2] = some (.bool true)) (h22 : M22 [.ro 9 mn r1 g1, .ro 9 mn r2 g2] = some (.bool true)) : g10 M20 M21 M22 f jn jr1 jg1 mn r1 g1 jn jr2 jg2 mn r2 g2 = some (.bool true) := by
  unfold g10
  rw [h20, h21, h22, okM_b, getV_b]
  rfl
end Go.Proofs.Tryz
end
section
namespace Go.Proofs.Tryz
open Go Go.Am
set_option maxRecDepth 100000

/-- The joints with marks behind them. -/
def JS.ext (J : JS) (mk : Int → ByteArray) : JS :=
  ⟨J.n + 12, fun i => if i < J.n then J.nm i else mk ((i : Int) - J.n), fun i => if i < J.n then J.x i else 0, fun i => if i < J.n then J.y i else 0, fun i => if i < J.n then J.fx i else 0⟩
def JS.row (J : JS) (i : Nat) : List AV := [.str (J.nm i), .int .i32 (J.x i), .int .i32 (J.y i), .int .u8 (J.fx i)]

theorem ext_lt (J : JS) (mk : Int → ByteArray) {i : Nat} (h : i < J.n) : (J.ext mk).row i = J.row i := by
  simp [JS.row, JS.ext, h]
theorem ext_ge (J : JS) (mk : Int → ByteArray) (k : Nat) : (J.ext mk).row (J.n + k) = [.str (mk k), .int .i32 0, .int .i32 0, .int .u8 0] := by
  have h : ¬ J.n + k < J.n := by omega
  have e : ((J.n + k : Nat) : Int) - J.n = k := by omega
  simp only [JS.row, JS.ext, if_neg h, e]

def Inv {α : Type} (n c k : Nat) (r : Nat → α) (e : List α) : Prop := e.length = c ∧ ∀ i, i < n + k → e[i]? = some (r i)
theorem Inv.step {α : Type} {n c k : Nat} {r : Nat → α} {e : List α} (h : Inv n c k r e) (hk : n + k < c) : Inv n c (k + 1) r (List.take (n + k) e ++ [r (n + k)] ++ List.drop (n + k + 1) e) := by
  obtain ⟨h1, h2⟩ := h
  refine ⟨by simp; omega, fun i hi => ?_⟩
  have hl : (List.take (n + k) e).length = n + k := by simp; omega
  by_cases hik : i < n + k
  · rw [List.append_assoc, List.getElem?_append_left (by omega), List.getElem?_take_of_lt hik]
    exact h2 i hik
  · obtain rfl : i = n + k := by omega
    rw [List.append_assoc, List.getElem?_append_right (by omega), hl, Nat.sub_self]
    rfl

theorem okM_J (s : ByteArray) (x y fx : Int) : okM [RS.agg [LK.s, LK.i IntKind.i32, LK.i IntKind.i32, LK.i IntKind.u8]] (some (.agg [.str s, .int .i32 x, .int .i32 y, .int .u8 fx])) = true := rfl

theorem g12_all {M26 : List AV → Option AV} (mk : Int → ByteArray) (h26 : ∀ k : Int, M26 [.int .i64 1, .int .i64 k] = some (.agg [.str (mk k), .int .i32 0, .int .i32 0, .int .u8 0])) (J : JS) (hJ : J.n < 4398046511200) (f : Nat)
    (kx0 : Nat → Nat → (Nat → Nat → AV) → Nat → Nat → Nat → List AV → List (List AV) → Option AV) (r : Nat) (g : Nat → Nat → AV) (z : List AV) :
    ∀ (m q k : Nat) (e : List (List AV)), k + m = 12 → Inv J.n (J.n + 12) k (J.ext mk).row e → ∃ e', Inv J.n (J.n + 12) 12 (J.ext mk).row e' ∧
      g12_l0 M26 f kx0 J.n r g 0 (J.n + 12) z (q + m + 1) (J.n + k) k e = kx0 J.n r g 0 (J.n + 12) (J.n + 12) z e'
  | 0, q, k, e, h, hI => by
    obtain rfl : k = 12 := by omega
    exact ⟨e, hI, rfl⟩
  | m + 1, q, k, e, h, hI => by
    have hk : J.n + k < J.n + 12 := by omega
    have hI' := hI.step hk
    rw [ext_ge] at hI'
    obtain ⟨e', h1, h2⟩ := g12_all mk h26 J hJ f kx0 r g z m q (k + 1) _ (by omega) hI'
    refine ⟨e', h1, ?_⟩
    rw [← h2]
    show g12_l0_step M26 f (g12_l0 M26 f kx0 J.n r g 0 (J.n + 12) z (q + m + 1)) kx0 J.n r g 0 (J.n + 12) z (J.n + k) k e = _
    unfold g12_l0_step
    rw [decide_eq_true (show (k : Int) < 12 by omega), h26, okM_J, decide_eq_true (show J.n + k + 1 ≤ J.n + 12 by omega), wrap_succ (by omega), Nat.zero_add]
    rfl

theorem rows_get (sz n : Nat) (g : Nat → Nat → AV) {i : Nat} (h : i < n) : (rows sz n g)[i]? = some ((List.range sz).map (g i)) := by
  unfold rows
  simp [h]
theorem rows_len (sz n : Nat) (g : Nat → Nat → AV) : (rows sz n g).length = n := by unfold rows; simp

theorem lent12 {M26 : List AV → Option AV} (mk : Int → ByteArray) (h26 : ∀ k : Int, M26 [.int .i64 1, .int .i64 k] = some (.agg [.str (mk k), .int .i32 0, .int .i32 0, .int .u8 0])) (J : JS) (hJ : J.n < 4398046511200) (f : Nat) (hf : 13 ≤ f) (r : Nat) (g : Nat → Nat → AV) (hg : J.Ok g) :
    ∃ g', (J.ext mk).Ok g' ∧ g12 M26 f J.n r g = some (.ro 4 J.n (J.n + 12) g') := by
  unfold g12
  have hw : IntKind.i64.wrap ((J.n : Int) + 12) = ((J.n + 12 : Nat) : Int) := by rw [wrap_id] <;> omega
  rw [hw, Int.toNat_natCast, decide_eq_true (show (0 : Int) ≤ ((J.n + 12 : Nat) : Int) by omega), Nat.ble_eq_true_of_le (show 32 * (J.n + 12) ≤ 281474976710656 by omega), Nat.ble_eq_true_of_le (show J.n + 12 + 1 ≤ 4611686018427387904 by omega), decide_eq_true (show 0 + J.n ≤ J.n + 12 by omega), cond_true, cond_true, cond_true, cond_true]
  have hI : Inv J.n (J.n + 12) 0 (J.ext mk).row ([] ++ rows 4 J.n g ++ List.drop (0 + J.n) (List.replicate (J.n + 12) [AV.str { data := #[] }, AV.int IntKind.i32 0, AV.int IntKind.i32 0, AV.int IntKind.u8 0])) := by
    refine ⟨by simp [rows_len], fun i hi => ?_⟩
    have hi' : i < J.n := by omega
    rw [List.nil_append, List.getElem?_append_left (by rw [rows_len]; exact hi'), rows_get _ _ _ hi', ext_lt J mk hi']
    obtain ⟨g0, g1, g2, g3⟩ := hg i hi'
    show some [g i 0, g i 1, g i 2, g i 3] = _
    rw [g0, g1, g2, g3]; rfl
  obtain ⟨e', h1, h2⟩ := g12_all mk h26 J hJ f (fun xul0n _ _ xout3o _ xout3c xh0z xh0e => bif decide (0 < xout3c) then bif decide ((xul0n : Int) ≤ (xout3c : Int)) then some (.ro 4 ((xul0n : Int).toNat - 0) (xout3c - 0) fun (i j : Nat) => (xh0e.getD (xout3o + 0 + i) xh0z).getD j .dead) else none else none)
    r g [AV.str { data := #[] }, AV.int IntKind.i32 0, AV.int IntKind.i32 0, AV.int IntKind.u8 0] 12 (f - 13) 0 _ rfl hI
  rw [show f - 13 + 12 + 1 = f by omega] at h2
  refine ⟨fun i j => (e'.getD (0 + 0 + i) [AV.str { data := #[] }, AV.int IntKind.i32 0, AV.int IntKind.i32 0, AV.int IntKind.u8 0]).getD j .dead, fun i hi => ?_, ?_⟩
  · have hi' : i < J.n + 12 := hi
    have := h1.2 i hi'
    have hr : e'.getD (0 + 0 + i) [AV.str { data := #[] }, AV.int IntKind.i32 0, AV.int IntKind.i32 0, AV.int IntKind.u8 0] = (J.ext mk).row i := by
      rw [show 0 + 0 + i = i by omega]
      simp [List.getD, this]
    simp only [hr]
    exact ⟨rfl, rfl, rfl, rfl⟩
  · rw [Nat.zero_add] at h2 ⊢
    refine h2.trans ?_
    rw [decide_eq_true (show 0 < J.n + 12 by omega), decide_eq_true (show (J.n : Int) ≤ ((J.n + 12 : Nat) : Int) by omega), Int.toNat_natCast]
    rfl

theorem g21_all {M26 : List AV → Option AV} (mk : Int → ByteArray) (h26 : ∀ k : Int, M26 [.int .i64 1, .int .i64 k] = some (.agg [.str (mk k), .int .i32 0, .int .i32 0, .int .u8 0])) (J : JS) (hJ : J.n < 4398046511200) (f : Nat) (kx0 : Bool → Option AV) (kx1 : Option AV)
    (r1 r2 : Nat) (g1 g2 : Nat → Nat → AV) (h1 : J.Ok g1) (h2 : (J.ext mk).Ok g2) :
    ∀ (m q i : Nat), i + m = J.n + 12 → g21_l0 M26 f kx0 kx1 J.n r1 g1 (J.n + 12) r2 g2 (q + m + 1) i = kx1
  | 0, q, i, h => by
    obtain rfl : i = J.n + 12 := by omega
    show g21_l0_step M26 f _ kx0 kx1 J.n r1 g1 (J.n + 12) r2 g2 (J.n + 12 : Nat) = _
    unfold g21_l0_step
    rw [decide_eq_false (by omega), cond_false]
  | m + 1, q, i, h => by
    have ih := g21_all mk h26 J hJ f kx0 kx1 r1 r2 g1 g2 h1 h2 m q (i + 1) (by omega)
    obtain ⟨b0, b1, b2, b3⟩ := h2 i (by show i < J.n + 12; omega)
    show g21_l0_step M26 f (g21_l0 M26 f kx0 kx1 J.n r1 g1 (J.n + 12) r2 g2 (q + m + 1)) kx0 kx1 J.n r1 g1 (J.n + 12) r2 g2 i = _
    unfold g21_l0_step
    rw [decide_eq_true (show (i : Int) < ((J.n + 12 : Nat) : Int) by omega), decide_eq_true (show (0 : Int) ≤ i by omega), Int.toNat_natCast, b0, b1, b2, b3, fitJ, wrap_succ (show i < 4611686018427387904 by omega), ih]
    by_cases hi : i < J.n
    · obtain ⟨a0, a1, a2, a3⟩ := h1 i hi
      rw [decide_eq_true (show (i : Int) < (J.n : Int) by omega), decide_eq_false (show ¬ (i : Int) ≥ (J.n : Int) by omega), a0, a1, a2, a3, fitJ]
      simp only [JS.ext, if_pos hi, toS_str, toI_int, strEq_self, beq_self]
      rfl
    · rw [decide_eq_false (show ¬ (i : Int) < (J.n : Int) by omega), decide_eq_true (show (i : Int) ≥ (J.n : Int) by omega), wrap_id (n := (i : Int) - J.n) (by omega) (by omega), h26, okM_J]
      simp only [JS.ext, if_neg hi, toS_str, toI_int]
      have t1 : toS ((toC (getV (some (AV.agg [.str (mk ((i : Int) - J.n)), .int .i32 0, .int .i32 0, .int .u8 0])))).headD .dead) = mk ((i : Int) - J.n) := rfl
      rw [t1, strEq_self]
      rfl

theorem kept21 {M26 : List AV → Option AV} (mk : Int → ByteArray) (h26 : ∀ k : Int, M26 [.int .i64 1, .int .i64 k] = some (.agg [.str (mk k), .int .i32 0, .int .i32 0, .int .u8 0])) (J : JS) (hJ : J.n < 4398046511200) (f : Nat) (hf : J.n + 12 < f)
    (r1 : Nat) (g1 g2 : Nat → Nat → AV) (h1 : J.Ok g1) (h2 : (J.ext mk).Ok g2) : g21 M26 f J.n (J.n + 12) g2 J.n r1 g1 = some (.bool true) := by
  unfold g21
  have hw : IntKind.i64.wrap ((J.n : Int) + 12) = ((J.n + 12 : Nat) : Int) := by rw [wrap_id] <;> omega
  have eg : (fun (i : Nat) => g2 (0 + i)) = g2 := by funext i; rw [Nat.zero_add]
  rw [bne_self, hw, Int.toNat_natCast, decide_eq_true (show (0 : Int) ≤ ((J.n + 12 : Nat) : Int) by omega), decide_eq_true (Int.le_refl _), eg, Nat.sub_zero, cond_false, cond_true, cond_true]
  have e := g21_all mk h26 J hJ f (fun xu4 => some (.bool xu4)) (some (.bool true)) r1 (J.n + 12) g1 g2 h1 h2 (J.n + 12) (f - (J.n + 12) - 1) 0 (by omega)
  rw [show f - (J.n + 12) - 1 + (J.n + 12) + 1 = f by omega] at e
  exact e
end Go.Proofs.Tryz
end
section
namespace Go.Proofs.Tryz
open Go Go.Am
set_option maxRecDepth 100000

def MS.ext (M : MS) (mk : Int → ByteArray) : MS :=
  ⟨M.n + 12, fun i => if i < M.n then M.nm i else mk ((i : Int) - M.n), fun i => if i < M.n then M.kd i else 0, fun i => if i < M.n then M.a i else 0, fun i => if i < M.n then M.b i else 0,
    fun i => if i < M.n then M.ha i else false, fun i => if i < M.n then M.hb i else false, fun i => if i < M.n then M.e i else 0, fun i => if i < M.n then M.ar i else 0, fun i => if i < M.n then M.iv i else 0⟩
def MS.row (M : MS) (i : Nat) : List AV := [.str (M.nm i), .int .u8 (M.kd i), .int .i64 (M.a i), .int .i64 (M.b i), .bool (M.ha i), .bool (M.hb i), .flt .f64 (some (M.e i)), .flt .f64 (some (M.ar i)), .flt .f64 (some (M.iv i))]
def zM : List AV := [.str { data := #[] }, .int .u8 0, .int .i64 0, .int .i64 0, .bool false, .bool false, .flt .f64 (some 0), .flt .f64 (some 0), .flt .f64 (some 0)]
def mM (s : ByteArray) : List AV := [.str s, .int .u8 0, .int .i64 0, .int .i64 0, .bool false, .bool false, .flt .f64 (some 0), .flt .f64 (some 0), .flt .f64 (some 0)]

theorem extM_lt (M : MS) (mk : Int → ByteArray) {i : Nat} (h : i < M.n) : (M.ext mk).row i = M.row i := by
  simp [MS.row, MS.ext, h]
theorem extM_ge (M : MS) (mk : Int → ByteArray) (k : Nat) : (M.ext mk).row (M.n + k) = mM (mk k) := by
  have h : ¬ M.n + k < M.n := by omega
  have e : ((M.n + k : Nat) : Int) - M.n = k := by omega
  simp only [MS.row, MS.ext, if_neg h, e]
  rfl

theorem okM_M (s : ByteArray) : okM [RS.agg [LK.s, LK.i IntKind.u8, LK.i IntKind.i64, LK.i IntKind.i64, LK.b, LK.b, LK.f FloatKind.f64, LK.f FloatKind.f64, LK.f FloatKind.f64]] (some (.agg (mM s))) = true := rfl

theorem g13_all {M27 : List AV → Option AV} (mk : Int → ByteArray) (h27 : ∀ k : Int, M27 [.int .i64 1, .int .i64 k] = some (.agg (mM (mk k)))) (M : MS) (hM : M.n < 3000000000000) (f : Nat)
    (kx0 : Nat → Nat → (Nat → Nat → AV) → Nat → Nat → Nat → List AV → List (List AV) → Option AV) (r : Nat) (g : Nat → Nat → AV) (z : List AV) :
    ∀ (m q k : Nat) (e : List (List AV)), k + m = 12 → Inv M.n (M.n + 12) k (M.ext mk).row e → ∃ e', Inv M.n (M.n + 12) 12 (M.ext mk).row e' ∧
      g13_l0 M27 f kx0 M.n r g 0 (M.n + 12) z (q + m + 1) (M.n + k) k e = kx0 M.n r g 0 (M.n + 12) (M.n + 12) z e'
  | 0, q, k, e, h, hI => by
    obtain rfl : k = 12 := by omega
    exact ⟨e, hI, rfl⟩
  | m + 1, q, k, e, h, hI => by
    have hk : M.n + k < M.n + 12 := by omega
    have hI' := hI.step hk
    rw [extM_ge] at hI'
    obtain ⟨e', h1, h2⟩ := g13_all mk h27 M hM f kx0 r g z m q (k + 1) _ (by omega) hI'
    refine ⟨e', h1, ?_⟩
    rw [← h2]
    show g13_l0_step M27 f (g13_l0 M27 f kx0 M.n r g 0 (M.n + 12) z (q + m + 1)) kx0 M.n r g 0 (M.n + 12) z (M.n + k) k e = _
    unfold g13_l0_step
    rw [decide_eq_true (show (k : Int) < 12 by omega), h27, okM_M, decide_eq_true (show M.n + k + 1 ≤ M.n + 12 by omega), wrap_succ (by omega), Nat.zero_add]
    rfl

theorem lent13 {M27 : List AV → Option AV} (mk : Int → ByteArray) (h27 : ∀ k : Int, M27 [.int .i64 1, .int .i64 k] = some (.agg (mM (mk k)))) (M : MS) (hM : M.n < 3000000000000) (f : Nat) (hf : 13 ≤ f) (r : Nat) (g : Nat → Nat → AV) (hg : M.Ok g) :
    ∃ g', (M.ext mk).Ok g' ∧ g13 M27 f M.n r g = some (.ro 9 M.n (M.n + 12) g') := by
  unfold g13
  have hw : IntKind.i64.wrap ((M.n : Int) + 12) = ((M.n + 12 : Nat) : Int) := by rw [wrap_id] <;> omega
  rw [hw, Int.toNat_natCast, decide_eq_true (show (0 : Int) ≤ ((M.n + 12 : Nat) : Int) by omega), Nat.ble_eq_true_of_le (show 72 * (M.n + 12) ≤ 281474976710656 by omega), Nat.ble_eq_true_of_le (show M.n + 12 + 1 ≤ 4611686018427387904 by omega), decide_eq_true (show 0 + M.n ≤ M.n + 12 by omega), cond_true, cond_true, cond_true, cond_true]
  have hI : Inv M.n (M.n + 12) 0 (M.ext mk).row ([] ++ rows 9 M.n g ++ List.drop (0 + M.n) (List.replicate (M.n + 12) zM)) := by
    refine ⟨by simp [rows_len], fun i hi => ?_⟩
    have hi' : i < M.n := by omega
    rw [List.nil_append, List.getElem?_append_left (by rw [rows_len]; exact hi'), rows_get _ _ _ hi', extM_lt M mk hi']
    obtain ⟨g0, g1, g2, g3, g4, g5, g6, g7, g8⟩ := hg i hi'
    show some [g i 0, g i 1, g i 2, g i 3, g i 4, g i 5, g i 6, g i 7, g i 8] = _
    rw [g0, g1, g2, g3, g4, g5, g6, g7, g8]; rfl
  obtain ⟨e', h1, h2⟩ := g13_all mk h27 M hM f (fun xul0n _ _ xout3o _ xout3c xh0z xh0e => bif decide (0 < xout3c) then bif decide ((xul0n : Int) ≤ (xout3c : Int)) then some (.ro 9 ((xul0n : Int).toNat - 0) (xout3c - 0) fun (i j : Nat) => (xh0e.getD (xout3o + 0 + i) xh0z).getD j .dead) else none else none)
    r g zM 12 (f - 13) 0 _ rfl hI
  rw [show f - 13 + 12 + 1 = f by omega] at h2
  refine ⟨fun i j => (e'.getD (0 + 0 + i) zM).getD j .dead, fun i hi => ?_, ?_⟩
  · have hi' : i < M.n + 12 := hi
    have := h1.2 i hi'
    have hr : e'.getD (0 + 0 + i) zM = (M.ext mk).row i := by
      rw [show 0 + 0 + i = i by omega]
      simp [List.getD, this]
    simp only [hr]
    exact ⟨rfl, rfl, rfl, rfl, rfl, rfl, rfl, rfl, rfl⟩
  · rw [Nat.zero_add] at h2 ⊢
    refine h2.trans ?_
    rw [decide_eq_true (show 0 < M.n + 12 by omega), decide_eq_true (show (M.n : Int) ≤ ((M.n + 12 : Nat) : Int) by omega), Int.toNat_natCast]
    rfl

theorem g22_all {M27 M40 : List AV → Option AV} (mk : Int → ByteArray) (h27 : ∀ k : Int, M27 [.int .i64 1, .int .i64 k] = some (.agg (mM (mk k))))
    (h40 : ∀ s kd a b ha hb x y z, M40 [.agg [.str s, .int .u8 kd, .int .i64 a, .int .i64 b, .bool ha, .bool hb, .flt .f64 (some x), .flt .f64 (some y), .flt .f64 (some z)], .agg [.str s, .int .u8 kd, .int .i64 a, .int .i64 b, .bool ha, .bool hb, .flt .f64 (some x), .flt .f64 (some y), .flt .f64 (some z)]] = some (.bool true))
    (M : MS) (hM : M.n < 3000000000000) (f : Nat) (kx0 : Bool → Option AV) (kx1 : Option AV) (r1 r2 : Nat) (g1 g2 : Nat → Nat → AV) (h1 : M.Ok g1) (h2 : (M.ext mk).Ok g2) :
    ∀ (m q i : Nat), i + m = M.n + 12 → g22_l0 M27 M40 f kx0 kx1 M.n r1 g1 (M.n + 12) r2 g2 (q + m + 1) i = kx1
  | 0, q, i, h => by
    obtain rfl : i = M.n + 12 := by omega
    show g22_l0_step M27 M40 f _ kx0 kx1 M.n r1 g1 (M.n + 12) r2 g2 (M.n + 12 : Nat) = _
    unfold g22_l0_step
    rw [decide_eq_false (by omega), cond_false]
  | m + 1, q, i, h => by
    have ih := g22_all mk h27 h40 M hM f kx0 kx1 r1 r2 g1 g2 h1 h2 m q (i + 1) (by omega)
    obtain ⟨b0, b1, b2, b3, b4, b5, b6, b7, b8⟩ := h2 i (by show i < M.n + 12; omega)
    show g22_l0_step M27 M40 f (g22_l0 M27 M40 f kx0 kx1 M.n r1 g1 (M.n + 12) r2 g2 (q + m + 1)) kx0 kx1 M.n r1 g1 (M.n + 12) r2 g2 i = _
    unfold g22_l0_step
    rw [decide_eq_true (show (i : Int) < ((M.n + 12 : Nat) : Int) by omega), decide_eq_true (show (0 : Int) ≤ i by omega), Int.toNat_natCast, b0, b1, b2, b3, b4, b5, b6, b7, b8, fitM, wrap_succ (show i < 4611686018427387904 by omega), ih]
    by_cases hi : i < M.n
    · obtain ⟨a0, a1, a2, a3, a4, a5, a6, a7, a8⟩ := h1 i hi
      rw [decide_eq_true (show (i : Int) < (M.n : Int) by omega), decide_eq_false (show ¬ (i : Int) ≥ (M.n : Int) by omega), a0, a1, a2, a3, a4, a5, a6, a7, a8, fitM]
      simp only [MS.ext, if_pos hi, toS_str, toI_int, toB_bool, toF_flt, h40, okM_b, getV_b]
      rfl
    · rw [decide_eq_false (show ¬ (i : Int) < (M.n : Int) by omega), decide_eq_true (show (i : Int) ≥ (M.n : Int) by omega), wrap_id (n := (i : Int) - M.n) (by omega) (by omega), h27, okM_M]
      simp only [MS.ext, if_neg hi, toS_str, toI_int, toB_bool, toF_flt]
      have e40 := h40 (mk ((i : Int) - M.n)) 0 0 0 false false 0 0 0
      have t0 : toS ((toC (getV (some (AV.agg (mM (mk ((i : Int) - M.n))))))).headD .dead) = mk ((i : Int) - M.n) := rfl
      have t1 : toI ((toC (getV (some (AV.agg (mM (mk ((i : Int) - M.n))))))).tail.headD .dead) = 0 := rfl
      have t2 : toI ((toC (getV (some (AV.agg (mM (mk ((i : Int) - M.n))))))).tail.tail.headD .dead) = 0 := rfl
      have t3 : toI ((toC (getV (some (AV.agg (mM (mk ((i : Int) - M.n))))))).tail.tail.tail.headD .dead) = 0 := rfl
      have t4 : toB ((toC (getV (some (AV.agg (mM (mk ((i : Int) - M.n))))))).tail.tail.tail.tail.headD .dead) = false := rfl
      have t5 : toB ((toC (getV (some (AV.agg (mM (mk ((i : Int) - M.n))))))).tail.tail.tail.tail.tail.headD .dead) = false := rfl
      have t6 : toF ((toC (getV (some (AV.agg (mM (mk ((i : Int) - M.n))))))).tail.tail.tail.tail.tail.tail.headD .dead) = some 0 := rfl
      have t7 : toF ((toC (getV (some (AV.agg (mM (mk ((i : Int) - M.n))))))).tail.tail.tail.tail.tail.tail.tail.headD .dead) = some 0 := rfl
      have t8 : toF ((toC (getV (some (AV.agg (mM (mk ((i : Int) - M.n))))))).tail.tail.tail.tail.tail.tail.tail.tail.headD .dead) = some 0 := rfl
      rw [t0, t1, t2, t3, t4, t5, t6, t7, t8, e40, okM_b, getV_b]
      rfl

theorem kept22 {M27 M40 : List AV → Option AV} (mk : Int → ByteArray) (h27 : ∀ k : Int, M27 [.int .i64 1, .int .i64 k] = some (.agg (mM (mk k))))
    (h40 : ∀ s kd a b ha hb x y z, M40 [.agg [.str s, .int .u8 kd, .int .i64 a, .int .i64 b, .bool ha, .bool hb, .flt .f64 (some x), .flt .f64 (some y), .flt .f64 (some z)], .agg [.str s, .int .u8 kd, .int .i64 a, .int .i64 b, .bool ha, .bool hb, .flt .f64 (some x), .flt .f64 (some y), .flt .f64 (some z)]] = some (.bool true))
    (M : MS) (hM : M.n < 3000000000000) (f : Nat) (hf : M.n + 12 < f) (r1 : Nat) (g1 g2 : Nat → Nat → AV) (h1 : M.Ok g1) (h2 : (M.ext mk).Ok g2) : g22 M27 M40 f M.n (M.n + 12) g2 M.n r1 g1 = some (.bool true) := by
  unfold g22
  have hw : IntKind.i64.wrap ((M.n : Int) + 12) = ((M.n + 12 : Nat) : Int) := by rw [wrap_id] <;> omega
  have eg : (fun (i : Nat) => g2 (0 + i)) = g2 := by funext i; rw [Nat.zero_add]
  rw [bne_self, hw, Int.toNat_natCast, decide_eq_true (show (0 : Int) ≤ ((M.n + 12 : Nat) : Int) by omega), decide_eq_true (Int.le_refl _), eg, Nat.sub_zero, cond_false, cond_true, cond_true]
  have e := g22_all mk h27 h40 M hM f (fun xu4 => some (.bool xu4)) (some (.bool true)) r1 (M.n + 12) g1 g2 h1 h2 (M.n + 12) (f - (M.n + 12) - 1) 0 (by omega)
  rw [show f - (M.n + 12) - 1 + (M.n + 12) + 1 = f by omega] at e
  exact e

theorem okM_l (sz n r : Nat) (g : Nat → Nat → AV) : okM [RS.one (LK.l sz)] (some (.ro sz n r g)) = true := by
  simp [okM, fitRS, fitK]
theorem lent4 {M12 M13 : List AV → Option AV} (f jn jr r : Nat) (jg g : Nat → Nat → AV) (mn : Nat) (jr' r' : Nat) (jg' g' : Nat → Nat → AV) (h12 : M12 [.ro 4 jn jr jg] = some (.ro 4 jn jr' jg')) (h13 : M13 [.ro 9 mn r g] = some (.ro 9 mn r' g')) :
    g4 M12 M13 f jn jr jg mn r g = some (.agg [.ro 4 jn jr' jg', .ro 9 mn r' g']) := by
  unfold g4
  rw [h12, h13]
  rfl
end Go.Proofs.Tryz
end
section
namespace Go.Proofs.Tryz
open Go Go.Am
set_option maxRecDepth 100000

theorem main3 {M4 M5 M6 M7 M8 M9 M10 M11 : List AV → Option AV} (f jn jr r : Nat) (jg g : Nat → Nat → AV) (mn jr' r' : Nat) (jg' g' : Nat → Nat → AV) (p : Int × Int) (n : Nat) (gg : Nat → Nat → AV) (c e : Int)
    (h4 : M4 [.agg [.ro 4 jn jr jg, .ro 9 mn r g]] = some (.agg [.ro 4 jn jr' jg', .ro 9 mn r' g']))
    (h5 : M5 [.agg [.ro 4 jn jr' jg', .ro 9 mn r' g']] = some (pair p)) (h6 : M6 [.agg [.ro 4 jn jr jg, .ro 9 mn r g]] = some (pair p))
    (h7 : M7 [.agg [.ro 4 jn jr' jg', .ro 9 mn r' g']] = some (.tup [.agg [.ro 3 n n gg, .int .i64 c], .int .i64 e])) (h8 : M8 [.agg [.ro 4 jn jr jg, .ro 9 mn r g]] = some (.tup [.agg [.ro 3 n n gg, .int .i64 c], .int .i64 e]))
    (h9 : M9 [.agg [.ro 3 n n gg, .int .i64 c], .agg [.ro 3 n n gg, .int .i64 c]] = some (.bool true))
    (h10 : M10 [.agg [.ro 4 jn jr' jg', .ro 9 mn r' g'], .agg [.ro 4 jn jr jg, .ro 9 mn r g]] = some (.bool true)) (h11 : M11 [] = some (.bool true)) :
    g3 M4 M5 M6 M7 M8 M9 M10 M11 f jn jr jg mn r g = some (.bool true) := by
  unfold g3
  have k1 : okM [RS.agg [LK.l (nat_lit 4), LK.l (nat_lit 9)]] (some (.agg [.ro 4 jn jr' jg', .ro 9 mn r' g'])) = true := rfl
  have k2 : okM [RS.agg [LK.l (nat_lit 3), LK.i IntKind.i64], RS.one (LK.i IntKind.i64)] (some (.tup [.agg [.ro 3 n n gg, .int .i64 c], .int .i64 e])) = true := rfl
  have a1 : toN ((toC (getV (some (AV.agg [.ro 4 jn jr' jg', .ro 9 mn r' g'])))).headD .dead) = jn := rfl
  have a2 : toR ((toC (getV (some (AV.agg [.ro 4 jn jr' jg', .ro 9 mn r' g'])))).headD .dead) = jr' := rfl
  have a3 : toG ((toC (getV (some (AV.agg [.ro 4 jn jr' jg', .ro 9 mn r' g'])))).headD .dead) = jg' := rfl
  have a4 : toN ((toC (getV (some (AV.agg [.ro 4 jn jr' jg', .ro 9 mn r' g'])))).tail.headD .dead) = mn := rfl
  have a5 : toR ((toC (getV (some (AV.agg [.ro 4 jn jr' jg', .ro 9 mn r' g'])))).tail.headD .dead) = r' := rfl
  have a6 : toG ((toC (getV (some (AV.agg [.ro 4 jn jr' jg', .ro 9 mn r' g'])))).tail.headD .dead) = g' := rfl
  have b1 : toN ((toC ((toT (getV (some (AV.tup [.agg [.ro 3 n n gg, .int .i64 c], .int .i64 e])))).headD .dead)).headD .dead) = n := rfl
  have b2 : toR ((toC ((toT (getV (some (AV.tup [.agg [.ro 3 n n gg, .int .i64 c], .int .i64 e])))).headD .dead)).headD .dead) = n := rfl
  have b3 : toG ((toC ((toT (getV (some (AV.tup [.agg [.ro 3 n n gg, .int .i64 c], .int .i64 e])))).headD .dead)).headD .dead) = gg := rfl
  have b4 : toI ((toC ((toT (getV (some (AV.tup [.agg [.ro 3 n n gg, .int .i64 c], .int .i64 e])))).headD .dead)).tail.headD .dead) = c := rfl
  have b5 : toI ((toT (getV (some (AV.tup [.agg [.ro 3 n n gg, .int .i64 c], .int .i64 e])))).tail.headD .dead) = e := rfl
  simp only [h4, k1, a1, a2, a3, a4, a5, a6, h5, h6, okM_p, getP1, getP2, h7, h8, k2, b1, b2, b3, b4, b5, h9, h10, h11, okM_b, getV_b, beq_self, cond_true, Bool.not_true, Bool.not_false]
end Go.Proofs.Tryz
end
section
namespace Go.Proofs.Tryz
open Go Go.Am
set_option maxRecDepth 1000000

noncomputable abbrev PrA : Program := prog

def GOk (G : Gam) : Prop := ∀ f s, G.get f = some s → SmOk PrA f s
theorem GOk.nil : GOk [] := by intro f s h; cases h
theorem GOk.cons {i : Nat} {s : Sm} {G : Gam} (h : SmOk PrA i s) (hG : GOk G) : GOk ((i, s) :: G) := by
  intro f s' hg
  simp only [Gam.get] at hg
  cases hb : i == f <;> rw [hb] at hg
  · exact hG f s' hg
  · obtain rfl : i = f := by simpa using hb
    simp only [cond_true, Option.some.injEq] at hg
    subst hg
    exact h

def namesB (P : Program) : Bool := P.funcs.toList.all fun fn => !(fn.body.isSome) || !(fn.name == "runtime.NumGoroutine")
theorem names_of {P : Program} (h : namesB P = true) : NamesOk P := by
  intro f fn hf hb
  have := List.all_eq_true.1 h fn (by
    have : P.funcs.toList[f]? = some fn := by simpa using hf
    exact List.mem_of_getElem? this)
  simp only [hb, Bool.not_true, Bool.false_or, Bool.not_eq_true'] at this
  exact this
theorem namesA : NamesOk PrA := names_of (by decide +kernel)

theorem ext32 : SmOk PrA 32 sBits := bits_ok (fn := f32) (by kernel_rfl) (by kernel_rfl) (by kernel_rfl) (by kernel_rfl) (by kernel_rfl)
theorem ext83 : SmOk PrA 83 sFrom := from_ok (fn := f83) (by kernel_rfl) (by kernel_rfl) (by kernel_rfl) (by kernel_rfl) (by kernel_rfl)
theorem ext61 : SmOk PrA 61 sFma := fma_ok (fn := f61) (by kernel_rfl) (by kernel_rfl) (by kernel_rfl) (by kernel_rfl) (by kernel_rfl)
theorem ext71 : SmOk PrA 71 sSqrt := sqrt_ok (fn := f71) (by kernel_rfl) (by kernel_rfl) (by kernel_rfl) (by kernel_rfl) (by kernel_rfl)

noncomputable def resA (f : Nat) : List TypeId := ((PrA.funcs[f]?).map (·.resultTypes.toList)).getD []
noncomputable def mkA (G : Gam) (f : Nat) : Gam := (f, smOf PrA (resA f) (runS PrA G 1000 5 f)) :: G
theorem mkA_ok {G : Gam} (h : GOk G) (f : Nat) : GOk (mkA G f) :=
  .cons (smOf_ok h namesA 1000 (LamOk.nil _ _ _) 5 f (resA f) _ (fun xs _ => (runS_eq 1000 5 f xs).symm)) h
theorem foldA_ok : ∀ (l : List Nat) {G : Gam}, GOk G → GOk (l.foldl mkA G)
  | [], _, h => h
  | f :: l, _, h => foldA_ok l (mkA_ok h f)
noncomputable def GA0 : Gam := [(32, sBits), (83, sFrom), (61, sFma), (71, sSqrt)]
theorem GA0_ok : GOk GA0 := .cons ext32 (.cons ext83 (.cons ext61 (.cons ext71 .nil)))
noncomputable def GA : Gam := [56, 72, 82, 73, 55, 57, 58, 36, 75, 59, 60, 52, 29, 46, 47, 93, 79, 65, 94, 80, 81, 68, 67, 70, 69, 66, 53, 48, 54, 49, 50, 51, 28, 14, 30, 31, 15, 5, 37, 18, 7, 25, 24, 23].foldl mkA GA0
theorem GA_ok : GOk GA := foldA_ok _ GA0_ok

theorem awakeS : runS PrA GA 1000 5 11 [] = some (.bool true) := by kernel_rfl

noncomputable def k11 (xs : List AV) : Option AV := match xs with
  | [] => some (.bool true)
  | _ => none
theorem ok11 : SmOk PrA 11 (smM [RS.one LK.b] k11) := by
  refine smM_ok (fuel := 1000) GA_ok namesA (LamOk.nil _ _ _) 5 11 _ _ (fun xs v h => ?_)
  unfold k11 at h
  split at h
  · rw [← runS_eq, awakeS]; exact h
  · cases h
end Go.Proofs.Tryz
end
section
namespace Go.Proofs.Tryz
open Go Go.Am

def NN : Nat := 1125899906842624
noncomputable def k42 : List AV → Option AV := m42  NN
noncomputable def k26 : List AV → Option AV := m26 k42 NN
noncomputable def k27 : List AV → Option AV := m27 k42 NN
noncomputable def k12 : List AV → Option AV := m12 k26 NN
noncomputable def k13 : List AV → Option AV := m13 k27 NN
noncomputable def k4 : List AV → Option AV := m4 k12 k13 NN
noncomputable def k28 : List AV → Option AV := m28  NN
noncomputable def k29 : List AV → Option AV := m29  NN
noncomputable def k14 : List AV → Option AV := m14 k28 k29 NN
noncomputable def k30 : List AV → Option AV := m30  NN
noncomputable def k31 : List AV → Option AV := m31  NN
noncomputable def k15 : List AV → Option AV := m15 k30 k31 NN
noncomputable def k5 : List AV → Option AV := m5 k14 k15 NN
noncomputable def k43 : List AV → Option AV := m43  NN
noncomputable def k44 : List AV → Option AV := m44  NN
noncomputable def k33 : List AV → Option AV := m33 k43 k44 NN
noncomputable def k16 : List AV → Option AV := m16 k33 NN
noncomputable def k34 : List AV → Option AV := m34  NN
noncomputable def k35 : List AV → Option AV := m35  NN
noncomputable def k36 : List AV → Option AV := m36  NN
noncomputable def k17 : List AV → Option AV := m17 k34 k35 k36 NN
noncomputable def k6 : List AV → Option AV := m6 k16 k17 NN
noncomputable def k37 : List AV → Option AV := m37  NN
noncomputable def k18 : List AV → Option AV := m18 k37 NN
noncomputable def k7 : List AV → Option AV := m7 k5 k18 NN
noncomputable def k19 : List AV → Option AV := m19  NN
noncomputable def k8 : List AV → Option AV := m8 k6 k19 NN
noncomputable def k9 : List AV → Option AV := m9  NN
noncomputable def k45 : List AV → Option AV := m45  NN
noncomputable def k40 : List AV → Option AV := m40 k45 NN
noncomputable def k38 : List AV → Option AV := m38  NN
noncomputable def k39 : List AV → Option AV := m39 k40 NN
noncomputable def k20 : List AV → Option AV := m20 k38 k39 NN
noncomputable def k21 : List AV → Option AV := m21 k26 NN
noncomputable def k22 : List AV → Option AV := m22 k27 k40 NN
noncomputable def k10 : List AV → Option AV := m10 k20 k21 k22 NN
noncomputable def k3 : List AV → Option AV := m3 k4 k5 k6 k7 k8 k9 k10 k11 NN
theorem ok42 : SmOk PrA 42 (smM R42 k42) := g42_sm  NN (show GOk (G42 ) from GOk.nil) namesA
theorem ok26 : SmOk PrA 26 (smM R26 k26) := g26_sm k42 NN (show GOk (G26 k42) from .cons ok42 .nil) namesA
theorem ok27 : SmOk PrA 27 (smM R27 k27) := g27_sm k42 NN (show GOk (G27 k42) from .cons ok42 .nil) namesA
theorem ok12 : SmOk PrA 12 (smM R12 k12) := g12_sm k26 NN (show GOk (G12 k26) from .cons ok26 .nil) namesA
theorem ok13 : SmOk PrA 13 (smM R13 k13) := g13_sm k27 NN (show GOk (G13 k27) from .cons ok27 .nil) namesA
theorem ok4 : SmOk PrA 4 (smM R4 k4) := g4_sm k12 k13 NN (show GOk (G4 k12 k13) from .cons ok12 (.cons ok13 .nil)) namesA
theorem ok28 : SmOk PrA 28 (smM R28 k28) := g28_sm  NN (show GOk (G28 ) from GOk.nil) namesA
theorem ok29 : SmOk PrA 29 (smM R29 k29) := g29_sm  NN (show GOk (G29 ) from GOk.nil) namesA
theorem ok14 : SmOk PrA 14 (smM R14 k14) := g14_sm k28 k29 NN (show GOk (G14 k28 k29) from .cons ok28 (.cons ok29 .nil)) namesA
theorem ok30 : SmOk PrA 30 (smM R30 k30) := g30_sm  NN (show GOk (G30 ) from GOk.nil) namesA
theorem ok31 : SmOk PrA 31 (smM R31 k31) := g31_sm  NN (show GOk (G31 ) from GOk.nil) namesA
theorem ok15 : SmOk PrA 15 (smM R15 k15) := g15_sm k30 k31 NN (show GOk (G15 k30 k31) from .cons ok30 (.cons ok31 (.cons ext32 .nil))) namesA
theorem ok5 : SmOk PrA 5 (smM R5 k5) := g5_sm k14 k15 NN (show GOk (G5 k14 k15) from .cons ok14 (.cons ok15 .nil)) namesA
theorem ok43 : SmOk PrA 43 (smM R43 k43) := g43_sm  NN (show GOk (G43 ) from GOk.nil) namesA
theorem ok44 : SmOk PrA 44 (smM R44 k44) := g44_sm  NN (show GOk (G44 ) from GOk.nil) namesA
theorem ok33 : SmOk PrA 33 (smM R33 k33) := g33_sm k43 k44 NN (show GOk (G33 k43 k44) from .cons ok43 (.cons ok44 .nil)) namesA
theorem ok16 : SmOk PrA 16 (smM R16 k16) := g16_sm k33 NN (show GOk (G16 k33) from .cons ok33 .nil) namesA
theorem ok34 : SmOk PrA 34 (smM R34 k34) := g34_sm  NN (show GOk (G34 ) from GOk.nil) namesA
theorem ok35 : SmOk PrA 35 (smM R35 k35) := g35_sm  NN (show GOk (G35 ) from GOk.nil) namesA
theorem ok36 : SmOk PrA 36 (smM R36 k36) := g36_sm  NN (show GOk (G36 ) from .cons ext32 .nil) namesA
theorem ok17 : SmOk PrA 17 (smM R17 k17) := g17_sm k34 k35 k36 NN (show GOk (G17 k34 k35 k36) from .cons ok34 (.cons ok35 (.cons ok36 .nil))) namesA
theorem ok6 : SmOk PrA 6 (smM R6 k6) := g6_sm k16 k17 NN (show GOk (G6 k16 k17) from .cons ok16 (.cons ok17 .nil)) namesA
theorem ok37 : SmOk PrA 37 (smM R37 k37) := g37_sm  NN (show GOk (G37 ) from GOk.nil) namesA
theorem ok18 : SmOk PrA 18 (smM R18 k18) := g18_sm k37 NN (show GOk (G18 k37) from .cons ok37 .nil) namesA
theorem ok7 : SmOk PrA 7 (smM R7 k7) := g7_sm k5 k18 NN (show GOk (G7 k5 k18) from .cons ok5 (.cons ok18 .nil)) namesA
theorem ok19 : SmOk PrA 19 (smM R19 k19) := g19_sm  NN (show GOk (G19 ) from GOk.nil) namesA
theorem ok8 : SmOk PrA 8 (smM R8 k8) := g8_sm k6 k19 NN (show GOk (G8 k6 k19) from .cons ok6 (.cons ok19 .nil)) namesA
theorem ok9 : SmOk PrA 9 (smM R9 k9) := g9_sm  NN (show GOk (G9 ) from GOk.nil) namesA
theorem ok45 : SmOk PrA 45 (smM R45 k45) := g45_sm  NN (show GOk (G45 ) from .cons ext32 .nil) namesA
theorem ok40 : SmOk PrA 40 (smM R40 k40) := g40_sm k45 NN (show GOk (G40 k45) from .cons ok45 .nil) namesA
theorem ok38 : SmOk PrA 38 (smM R38 k38) := g38_sm  NN (show GOk (G38 ) from GOk.nil) namesA
theorem ok39 : SmOk PrA 39 (smM R39 k39) := g39_sm k40 NN (show GOk (G39 k40) from .cons ok40 .nil) namesA
theorem ok20 : SmOk PrA 20 (smM R20 k20) := g20_sm k38 k39 NN (show GOk (G20 k38 k39) from .cons ok38 (.cons ok39 .nil)) namesA
theorem ok21 : SmOk PrA 21 (smM R21 k21) := g21_sm k26 NN (show GOk (G21 k26) from .cons ok26 .nil) namesA
theorem ok22 : SmOk PrA 22 (smM R22 k22) := g22_sm k27 k40 NN (show GOk (G22 k27 k40) from .cons ok27 (.cons ok40 .nil)) namesA
theorem ok10 : SmOk PrA 10 (smM R10 k10) := g10_sm k20 k21 k22 NN (show GOk (G10 k20 k21 k22) from .cons ok20 (.cons ok21 (.cons ok22 .nil))) namesA
theorem ok3 : SmOk PrA 3 (smM R3 k3) := g3_sm k4 k5 k6 k7 k8 k9 k10 k11 NN (show GOk (G3 k4 k5 k6 k7 k8 k9 k10 k11) from .cons ok4 (.cons ok5 (.cons ok6 (.cons ok7 (.cons ok8 (.cons ok9 (.cons ok10 (.cons ok11 .nil)))))))) namesA
end Go.Proofs.Tryz
end
section
namespace Go.Proofs.Tryz
open Go Go.Am
set_option maxRecDepth 100000

/-- The marks' texts. -/
noncomputable def mkS (k : Int) : ByteArray := toS (getV (k42 [.int .i64 1, .int .i64 k]))
theorem k42_sp (k : Int) : k42 [.int .i64 1, .int .i64 k] = some (.str (mkS k)) := by
  have : ∃ s, k42 [.int .i64 1, .int .i64 k] = some (.str s) := ⟨_, rfl⟩
  obtain ⟨s, hs⟩ := this
  unfold mkS
  rw [hs]; rfl
theorem k26_sp (k : Int) : k26 [.int .i64 1, .int .i64 k] = some (.agg [.str (mkS k), .int .i32 0, .int .i32 0, .int .u8 0]) := by
  show g26 k42 NN 1 k = _
  unfold g26
  rw [k42_sp]
  rfl
theorem k27_sp (k : Int) : k27 [.int .i64 1, .int .i64 k] = some (.agg (mM (mkS k))) := by
  show g27 k42 NN 1 k = _
  unfold g27
  rw [k42_sp]
  rfl

def BS : Nat := 140737488355328
theorem sp28 : Sp28 k28 BS := ⟨fun s h => name28 NN s (by unfold BS at h; unfold NN; omega)⟩
theorem sp29 : Sp29 k29 := ⟨fun r a b g h0 h1 => by
  show g29 NN 2 r g = _
  have e : NN = 1125899906842621 + 3 := by unfold NN; omega
  rw [e]
  exact near_spec _ r a b g h0 h1⟩
theorem sp30 : Sp28 k30 BS := ⟨fun s h => name30 NN s (by unfold BS at h; unfold NN; omega) (by unfold BS at h; omega)⟩
theorem sp43 : Sp28 k43 BS := ⟨fun s h => name43 NN s (by unfold BS at h; unfold NN; omega) (by unfold BS at h; omega)⟩
theorem sp34 : Sp28 k34 BS := ⟨fun s h => name34 NN s (by unfold BS at h; unfold NN; omega) (by unfold BS at h; omega)⟩
theorem sp31 : SpN k31 := ⟨fun _ => rfl⟩
theorem sp35 : SpN k35 := ⟨fun _ => rfl⟩
theorem sp36 (b : Nat) : k36 [.flt .f64 (some b)] = some (.bool (decide (IntKind.i64.wrap ((b : Nat) : Int) < 0))) := rfl
theorem sp33 (s : ByteArray) (x y fx : Int) (h : s.size ≤ BS) : k33 [.agg [.str s, .int .i32 x, .int .i32 y, .int .u8 fx]] = some (.bool (mayJ s x y fx)) := may33 sp43 (near44 NN) NN s x y fx h
theorem sp37 (s : ByteArray) (kd a b : Int) (ha hb : Bool) (x y z : Option Nat) : k37 [.agg [.str s, .int .u8 kd, .int .i64 a, .int .i64 b, .bool ha, .bool hb, .flt .f64 x, .flt .f64 y, .flt .f64 z]] = some (.tup [.bool (bif kd == 2 then !ha else false), .bool (bif kd == 2 then !hb else false)]) := stands37 NN s kd a b ha hb x y z
theorem sp40 (s : ByteArray) (kd a b : Int) (ha hb : Bool) (x y z : Nat) : k40 [.agg [.str s, .int .u8 kd, .int .i64 a, .int .i64 b, .bool ha, .bool hb, .flt .f64 (some x), .flt .f64 (some y), .flt .f64 (some z)], .agg [.str s, .int .u8 kd, .int .i64 a, .int .i64 b, .bool ha, .bool hb, .flt .f64 (some x), .flt .f64 (some y), .flt .f64 (some z)]] = some (.bool true) :=
  member40 (fun b => float45 NN b) NN s kd a b ha hb x y z

/-- A plan within the form's reach. -/
structure Fine (J : JS) (M : MS) : Prop where
  jn : J.n < 4398046511200
  mn : M.n < 3000000000000
  js : ∀ i, i < J.n → (J.nm i).size ≤ BS
  ms : ∀ i, i < M.n → (M.nm i).size ≤ BS
  fx : ∀ i, i < J.n → 0 ≤ J.fx i
  iv : ∀ i, i < M.n → M.iv i < 18446744073709551616

section
variable {J : JS} {M : MS} (F : Fine J M)
include F
theorem spCheck (jr r : Nat) (hr : M.n ≤ r) (jg g : Nat → Nat → AV) (hj : J.Ok jg) (hm : M.Ok g) : k5 [.agg [.ro 4 J.n jr jg, .ro 9 M.n r g]] = some (pair (planCheck J M)) := by
  have h1 := F.jn
  have h2 := F.mn
  refine check5 (M14 := k14) (M15 := k15) J M jr r jg g ?_ (fun i hi => ?_) (by omega) NN (by unfold NN; omega)
  · exact check14 sp28 sp29 J NN (by unfold NN; omega) (by omega) jr jg hj F.js
  · exact may15 M sp30 sp31 (by omega) NN (by unfold NN; omega) J.n jr jg r hr g hm i hi (F.ms i hi)
theorem spRef (jr r : Nat) (jg g : Nat → Nat → AV) (hj : J.Ok jg) (hm : M.Ok g) : k6 [.agg [.ro 4 J.n jr jg, .ro 9 M.n r g]] = some (pair (planCheck J M)) := by
  have h1 := F.jn
  have h2 := F.mn
  refine check6 (M16 := k16) (M17 := k17) J M jr r jg g ?_ (fun i hi => ?_) (by omega) NN (by unfold NN; omega)
  · exact check16 J (fun s x y fx h => sp33 s x y fx h) (by omega) NN (by unfold NN; omega) jr jg hj F.js
  · exact may17 M sp34 sp35 sp36 (by omega) NN (by unfold NN; omega) J.n jr jg r g hm i hi (F.ms i hi) (F.iv i hi)
theorem spUnk (jr r : Nat) (hr : M.n ≤ r) (jg g : Nat → Nat → AV) (hj : J.Ok jg) (hm : M.Ok g) : k7 [.agg [.ro 4 J.n jr jg, .ro 9 M.n r g]] = some (unkAV J M) := by
  refine unknowns7 (M5 := k5) (M18 := k18) J M NN jr r jg g (spCheck F jr r hr jg g hj hm) (fun hc => ?_)
  obtain ⟨k1, k2, k3, k4⟩ := planCheck_ok hc
  exact places18 (M37 := k37) sp37 J M (by omega) (by omega) NN (by unfold NN; omega) (by unfold NN; omega) (by unfold NN; omega) jr r jg g hj hm k2
theorem spUnkRef (jr r : Nat) (jg g : Nat → Nat → AV) (hj : J.Ok jg) (hm : M.Ok g) : k8 [.agg [.ro 4 J.n jr jg, .ro 9 M.n r g]] = some (unkAV J M) := by
  have h1 := F.jn
  have h2 := F.mn
  refine unknowns8 (M6 := k6) (M19 := k19) J M NN (by unfold NN; omega) jr r jg g hj (spRef F jr r jg g hj hm) (fun i => ?_) F.fx
  exact turns19 M (by omega) NN (by unfold NN; omega) J.n jr r jg g hm i

omit F in
theorem rows_ints (fx : Nat → Int) (t : Nat → Bool) (z : List AV) : ∀ (n i : Nat), i < n → ∃ a b c, (rowsTo fx t n).1.getD i z = [.int .i64 a, .int .i64 b, .int .i64 c]
  | 0, i, h => by omega
  | n + 1, i, h => by
    have hl := rowsTo_len fx t n
    simp only [rowsTo, List.getD]
    by_cases hi : i < n
    · rw [List.getElem?_append_left (by omega)]
      exact rows_ints fx t z n i hi
    · obtain rfl : i = n := by omega
      rw [List.getElem?_append_right (by omega), hl, Nat.sub_self]
      exact ⟨_, _, _, rfl⟩

omit F in
theorem k9_eq (n r1 : Nat) (g1 : Nat → Nat → AV) (c1 : Int) (n2 r2 : Nat) (g2 : Nat → Nat → AV) (c2 : Int) : k9 [.agg [.ro 3 n r1 g1, .int .i64 c1], .agg [.ro 3 n2 r2 g2, .int .i64 c2]] = g9 NN n r1 g1 c1 n2 r2 g2 c2 := rfl
omit F in
theorem spSame : ∃ (n : Nat) (gg : Nat → Nat → AV) (c e : Int), unkAV J M = .tup [.agg [.ro 3 n n gg, .int .i64 c], .int .i64 e] ∧ k9 [.agg [.ro 3 n n gg, .int .i64 c], .agg [.ro 3 n n gg, .int .i64 c]] = some (.bool true) := by
  unfold unkAV
  cases hc : (planCheck J M).1 != 0
  · obtain ⟨k1, k2, k3, k4⟩ := planCheck_ok hc
    refine ⟨_, _, _, _, rfl, same9 NN J.n J.n J.n (by unfold NN; omega) (by omega) _ (fun i hi => ?_) _⟩
    obtain ⟨a, b, c, h⟩ := rows_ints J.fx (M.T M.n) zrow J.n i hi
    refine ⟨a, b, c, ?_⟩
    simp only [h]
    exact ⟨rfl, rfl, rfl⟩
  · refine ⟨_, _, _, _, rfl, ?_⟩
    rw [k9_eq]
    exact same9 NN 0 0 0 (by unfold NN; omega) (by omega) _ (fun i hi => by omega) _

/-- THE LAW: true of every plan within the form's reach. -/
theorem law3 (jr r : Nat) (jg g : Nat → Nat → AV) (hj : J.Ok jg) (hm : M.Ok g) : k3 [.agg [.ro 4 J.n jr jg, .ro 9 M.n r g]] = some (.bool true) := by
  have h1 := F.jn
  have h2 := F.mn
  obtain ⟨jg', hj', e12⟩ := lent12 (M26 := k26) mkS k26_sp J (by omega) NN (by unfold NN; omega) jr jg hj
  obtain ⟨g', hm', e13⟩ := lent13 (M27 := k27) mkS k27_sp M (by omega) NN (by unfold NN; omega) r g hm
  have hjJ : J.Ok jg' := by
    intro i hi
    have := hj' i (by show i < J.n + 12; omega)
    simpa [JS.ext, hi] using this
  have hmM : M.Ok g' := by
    intro i hi
    have := hm' i (by show i < M.n + 12; omega)
    simpa [MS.ext, hi] using this
  obtain ⟨n, gg, c, e, hu, h9⟩ := spSame (J := J) (M := M)
  have h7 := spUnk F (J.n + 12) (M.n + 12) (by omega) jg' g' hjJ hmM
  have h8 := spUnkRef F jr r jg g hj hm
  rw [hu] at h7 h8
  refine main3 (M4 := k4) (M5 := k5) (M6 := k6) (M7 := k7) (M8 := k8) (M9 := k9) (M10 := k10) (M11 := k11) NN J.n jr r jg g M.n (J.n + 12) (M.n + 12) jg' g' (planCheck J M) n gg c e
    (lent4 (M12 := k12) (M13 := k13) NN J.n jr r jg g M.n _ _ jg' g' e12 e13) (spCheck F (J.n + 12) (M.n + 12) (by omega) jg' g' hjJ hmM) (spRef F jr r jg g hj hm) h7 h8 h9 ?_ rfl
  refine kept10 (M20 := k20) (M21 := k21) (M22 := k22) NN J.n (J.n + 12) jr jg' jg M.n (M.n + 12) r g' g ?_ ?_ ?_
  · exact same20 (M38 := k38) (M39 := k39) NN J.n (J.n + 12) jr jg' jg M.n (M.n + 12) r g' g (same38 J (by omega) NN (J.n + 12) jr (by unfold NN; omega) jg' jg hjJ hj) (same39 (M40 := k40) sp40 M (by omega) NN (M.n + 12) r (by unfold NN; omega) g' g hmM hm)
  · exact kept21 (M26 := k26) mkS k26_sp J (by omega) NN (by unfold NN; omega) jr jg jg' hj hj'
  · exact kept22 (M27 := k27) (M40 := k40) mkS k27_sp sp40 M (by omega) NN (by unfold NN; omega) r g g' hm hm'
end

theorem calls3 {J : JS} {M : MS} (F : Fine J M) (w : World) (S : Nat → Prop) (hS : ∀ b, S b → b < w.heap.size) (v : Value) (jr r : Nat) (jg g : Nat → Nat → AV) (hj : J.Ok jg) (hm : M.Ok g) (hv : Rd w S none v (.agg [.ro 4 J.n jr jg, .ro 9 M.n r g])) :
    Calls prog 3 #[v] w fun e w' => e = .returned (.bool true) ∧ Ev w.heap.size (fun _ => False) w w' := by
  have hl := law3 F jr r jg g hj hm
  have hrun := ok3.run [.agg [.ro 4 J.n jr jg, .ro 9 M.n r g]] #[v] w S rfl (fun j u a hu ha => by
    rcases j with _ | j
    · simp at hu ha; subst hu ha; exact hv
    · simp at hu) hS (by
      show okM R3 (k3 _) = true
      rw [hl]; rfl)
  have hf : prog.funcs[3]? = some f3 := by kernel_rfl
  have hb : f3.body.isSome = true := by kernel_rfl
  obtain ⟨c, hc⟩ := Option.isSome_iff_exists.1 hb
  have hnm : ¬ f3.name = "runtime.NumGoroutine" := by simpa using namesA 3 f3 hf hb
  have hcall : (callFunc 3 #[v]).run prog w = .ok (.enter 3 #[v]) w := by simp [callFunc, hf, hc, hnm]
  unfold CallOk at hrun
  rw [hcall] at hrun
  refine hrun.mono fun e w' ⟨v', he, S', h1, _, _, _, h5⟩ => ?_
  have hval : (smM R3 k3).val [.agg [.ro 4 J.n jr jg, .ro 9 M.n r g]] = .bool true := by
    show valM R3 (k3 _) = _
    rw [hl]; rfl
  rw [hval] at h1
  obtain rfl := rd_bool h1
  exact ⟨he, h5⟩
end Go.Proofs.Tryz
end
section
/- A plan, read: from the datum to the joints and members that the program reads. -/
namespace Go.Proofs.Tryz
open Go Go.Am
set_option maxRecDepth 100000

theorem c46 : prog.cellsOf 46 = 4 := by kernel_rfl
theorem c56 : prog.cellsOf 56 = 9 := by kernel_rfl
theorem b46 : prog.bytesOf 46 = 32 := by kernel_rfl
theorem b56 : prog.bytesOf 56 = 72 := by kernel_rfl
theorem sizeT : prog.types.size = 195 := by kernel_rfl
theorem laidT : laidOutB prog = true := by kernel_rfl
theorem posT : ∀ t e, t < prog.types.size → prog.underlying t = some (.slice e) → 0 < prog.cellsOf e := by
  have h : ((List.range 195).all fun t => match prog.underlying t with | some (.slice e) => decide (0 < prog.cellsOf e) | _ => true) = true := by kernel_rfl
  intro t e ht hu
  rw [sizeT] at ht
  have := List.all_eq_true.1 h t (by simpa using ht)
  rw [hu] at this
  simpa using this

section
variable {H : Type}

def txt (d : DataW H) : ByteArray := match d with | .lit (.string s) => ⟨s.toArray⟩ | _ => ⟨#[]⟩
def num (d : DataW H) : Int := match d with | .lit (.int _ m) => m | _ => 0
def bol (d : DataW H) : Bool := match d with | .lit (.bool b) => b | _ => false
def fl (d : DataW H) : Nat := match d with | .lit (.float _ b) => b | _ => 0
def part (d : DataW H) (j : Nat) : DataW H := match d with | .agg ds => ds.getD j .nil | _ => .nil
def els (d : DataW H) : List (DataW H) := match d with | .slice es _ => es | _ => []

/-- The joints that a row of data tells. -/
def jsOf (es : List (DataW H)) : JS := ⟨es.length, fun i => txt (part (es.getD i .nil) 0), fun i => num (part (es.getD i .nil) 1), fun i => num (part (es.getD i .nil) 2), fun i => num (part (es.getD i .nil) 3)⟩
/-- The members that a row of data tells. -/
def msOf (es : List (DataW H)) : MS :=
  ⟨es.length, fun i => txt (part (es.getD i .nil) 0), fun i => num (part (es.getD i .nil) 1), fun i => num (part (es.getD i .nil) 2), fun i => num (part (es.getD i .nil) 3),
   fun i => bol (part (es.getD i .nil) 4), fun i => bol (part (es.getD i .nil) 5), fun i => fl (part (es.getD i .nil) 6), fun i => fl (part (es.getD i .nil) 7), fun i => fl (part (es.getD i .nil) 8)⟩

theorem sh_bool {n : Nat} {d : DataW H} {t : TypeId} (hu : prog.underlying t = some .bool) (h : Sh prog n t d) : ∃ b, d = .lit (.bool b) ∧ avL prog n t d = [.bool b] := by
  cases n with
  | zero => exact h.elim
  | succ n => simp only [Sh, hu] at h; obtain ⟨b, rfl⟩ := h; exact ⟨b, rfl, by simp [avL, hu]⟩
theorem sh_int {n : Nat} {d : DataW H} {t : TypeId} {k : IntKind} (hu : prog.underlying t = some (.int k)) (h : Sh prog n t d) : ∃ m, d = .lit (.int k m) ∧ (Lit.int k m).wf = true ∧ avL prog n t d = [.int k m] := by
  cases n with
  | zero => exact h.elim
  | succ n => simp only [Sh, hu] at h; obtain ⟨m, rfl, hw⟩ := h; exact ⟨m, rfl, hw, by simp [avL, hu]⟩
theorem sh_flt {n : Nat} {d : DataW H} {t : TypeId} {k : FloatKind} (hu : prog.underlying t = some (.float k)) (h : Sh prog n t d) : ∃ m, d = .lit (.float k m) ∧ (Lit.float k m).wf = true ∧ avL prog n t d = [.flt k (some m)] := by
  cases n with
  | zero => exact h.elim
  | succ n => simp only [Sh, hu] at h; obtain ⟨m, rfl, hw⟩ := h; exact ⟨m, rfl, hw, by simp [avL, hu]⟩
theorem sh_str {n : Nat} {d : DataW H} {t : TypeId} (hu : prog.underlying t = some .string) (h : Sh prog n t d) : ∃ s : List UInt8, d = .lit (.string s) ∧ s.length ≤ reachBytes ∧ avL prog n t d = [.str ⟨s.toArray⟩] := by
  cases n with
  | zero => exact h.elim
  | succ n => simp only [Sh, hu] at h; obtain ⟨m, rfl, hw⟩ := h; exact ⟨m, rfl, hw, by simp [avL, hu]⟩

theorem rb : reachBytes = 140737488351232 := by decide

theorem sh_joint {n : Nat} {d : DataW H} (h : Sh prog n 46 d) : ∃ (s : ByteArray) (x y fx : Int), avL prog n 46 d = [.str s, .int .i32 x, .int .i32 y, .int .u8 fx] ∧ txt (part d 0) = s ∧ num (part d 1) = x ∧ num (part d 2) = y ∧ num (part d 3) = fx ∧ s.size ≤ BS ∧ 0 ≤ fx := by
  cases n with
  | zero => exact h.elim
  | succ n =>
    simp only [Sh, underlying46] at h
    obtain ⟨ds, rfl, hl, hf⟩ := h
    obtain ⟨d0, d1, d2, d3, rfl⟩ : ∃ a b c e, ds = [a, b, c, e] := by
      match ds, hl with
      | [a, b, c, e], _ => exact ⟨a, b, c, e, rfl⟩
    obtain ⟨s, rfl, hs, e0⟩ := sh_str underlying9 (hf 0 _ _ rfl rfl)
    obtain ⟨x, rfl, _, e1⟩ := sh_int underlying21 (hf 1 _ _ rfl rfl)
    obtain ⟨y, rfl, _, e2⟩ := sh_int underlying21 (hf 2 _ _ rfl rfl)
    obtain ⟨z, rfl, hz, e3⟩ := sh_int underlying5 (hf 3 _ _ rfl rfl)
    refine ⟨⟨s.toArray⟩, x, y, z, ?_, rfl, rfl, rfl, rfl, ?_, ?_⟩
    · simp only [avL, underlying46]
      simp [e0, e1, e2, e3]
    · rw [rb] at hs
      show s.toArray.size ≤ BS
      simp only [List.size_toArray]
      unfold BS; omega
    · simp only [Lit.wf, IntKind.min, IntKind.max, IntKind.signed, IntKind.bits, Bool.and_eq_true] at hz
      simpa using hz.1

theorem sh_member {n : Nat} {d : DataW H} (h : Sh prog n 56 d) : ∃ (s : ByteArray) (kd a b : Int) (ha hb : Bool) (x y z : Nat), avL prog n 56 d = [.str s, .int .u8 kd, .int .i64 a, .int .i64 b, .bool ha, .bool hb, .flt .f64 (some x), .flt .f64 (some y), .flt .f64 (some z)] ∧
    txt (part d 0) = s ∧ num (part d 1) = kd ∧ num (part d 2) = a ∧ num (part d 3) = b ∧ bol (part d 4) = ha ∧ bol (part d 5) = hb ∧ fl (part d 6) = x ∧ fl (part d 7) = y ∧ fl (part d 8) = z ∧ s.size ≤ BS ∧ z < 18446744073709551616 := by
  cases n with
  | zero => exact h.elim
  | succ n =>
    simp only [Sh, underlying56] at h
    obtain ⟨ds, rfl, hl, hf⟩ := h
    obtain ⟨d0, d1, d2, d3, d4, d5, d6, d7, d8, rfl⟩ : ∃ a b c e f g h i j, ds = [a, b, c, e, f, g, h, i, j] := by
      match ds, hl with
      | [a, b, c, e, f, g, h, i, j], _ => exact ⟨a, b, c, e, f, g, h, i, j, rfl⟩
    obtain ⟨s, rfl, hs, e0⟩ := sh_str underlying9 (hf 0 _ _ rfl rfl)
    obtain ⟨kd, rfl, _, e1⟩ := sh_int underlying53 (hf 1 _ _ rfl rfl)
    obtain ⟨a, rfl, _, e2⟩ := sh_int underlying3 (hf 2 _ _ rfl rfl)
    obtain ⟨b, rfl, _, e3⟩ := sh_int underlying3 (hf 3 _ _ rfl rfl)
    obtain ⟨ha, rfl, e4⟩ := sh_bool underlying4 (hf 4 _ _ rfl rfl)
    obtain ⟨hb, rfl, e5⟩ := sh_bool underlying4 (hf 5 _ _ rfl rfl)
    obtain ⟨x, rfl, _, e6⟩ := sh_flt underlying54 (hf 6 _ _ rfl rfl)
    obtain ⟨y, rfl, _, e7⟩ := sh_flt underlying54 (hf 7 _ _ rfl rfl)
    obtain ⟨z, rfl, hz, e8⟩ := sh_flt underlying54 (hf 8 _ _ rfl rfl)
    refine ⟨⟨s.toArray⟩, kd, a, b, ha, hb, x, y, z, ?_, rfl, rfl, rfl, rfl, rfl, rfl, rfl, rfl, rfl, ?_, ?_⟩
    · simp only [avL, underlying56]
      simp [e0, e1, e2, e3, e4, e5, e6, e7, e8]
    · rw [rb] at hs
      show s.toArray.size ≤ BS
      simp only [List.size_toArray]
      unfold BS; omega
    · simpa [Lit.wf] using hz

theorem sh_joints {n : Nat} {d : DataW H} (h : Sh prog n 22 d) : ∃ g, avL prog n 22 d = [.ro 4 (jsOf (els d)).n (jsOf (els d)).n g] ∧ (jsOf (els d)).Ok g ∧ (jsOf (els d)).n < 4398046511200 ∧ (∀ i, i < (jsOf (els d)).n → ((jsOf (els d)).nm i).size ≤ BS) ∧ (∀ i, i < (jsOf (els d)).n → 0 ≤ (jsOf (els d)).fx i) := by
  cases n with
  | zero => exact h.elim
  | succ n =>
    simp only [Sh, underlying22] at h
    rcases h with rfl | ⟨es, sp, rfl, hw, he⟩
    · refine ⟨_, by simp only [avL, underlying22, c46]; rfl, fun i hi => absurd hi (by show ¬ i < 0; omega), by show 0 < 4398046511200; omega, fun i hi => absurd hi (by show ¬ i < 0; omega), fun i hi => absurd hi (by show ¬ i < 0; omega)⟩
    · rw [b46, rb] at hw
      have hel : ∀ i, i < es.length → Sh prog n 46 (es.getD i .nil) := fun i hi => he _ (by
        have : es.getD i .nil = es[i] := by simp [List.getD, hi]
        rw [this]; exact List.getElem_mem hi)
      refine ⟨_, by simp only [avL, underlying22, c46]; rfl, fun i hi => ?_, ?_, fun i hi => ?_, fun i hi => ?_⟩
      · obtain ⟨s, x, y, fx, e, h0, h1, h2, h3, _⟩ := sh_joint (hel i hi)
        rw [e]
        exact ⟨by rw [← h0]; rfl, by rw [← h1]; rfl, by rw [← h2]; rfl, by rw [← h3]; rfl⟩
      · show es.length < _
        have := Nat.add_mul es.length sp.length 32
        omega
      · obtain ⟨s, x, y, fx, e, h0, h1, h2, h3, h4, h5⟩ := sh_joint (hel i hi)
        show (txt (part (es.getD i .nil) 0)).size ≤ BS
        rw [h0]; exact h4
      · obtain ⟨s, x, y, fx, e, h0, h1, h2, h3, h4, h5⟩ := sh_joint (hel i hi)
        show 0 ≤ num (part (es.getD i .nil) 3)
        rw [h3]; exact h5

theorem sh_members {n : Nat} {d : DataW H} (h : Sh prog n 23 d) : ∃ g, avL prog n 23 d = [.ro 9 (msOf (els d)).n (msOf (els d)).n g] ∧ (msOf (els d)).Ok g ∧ (msOf (els d)).n < 3000000000000 ∧ (∀ i, i < (msOf (els d)).n → ((msOf (els d)).nm i).size ≤ BS) ∧ (∀ i, i < (msOf (els d)).n → (msOf (els d)).iv i < 18446744073709551616) := by
  cases n with
  | zero => exact h.elim
  | succ n =>
    simp only [Sh, underlying23] at h
    rcases h with rfl | ⟨es, sp, rfl, hw, he⟩
    · refine ⟨_, by simp only [avL, underlying23, c56]; rfl, fun i hi => absurd hi (by show ¬ i < 0; omega), by show 0 < 3000000000000; omega, fun i hi => absurd hi (by show ¬ i < 0; omega), fun i hi => absurd hi (by show ¬ i < 0; omega)⟩
    · rw [b56, rb] at hw
      have hel : ∀ i, i < es.length → Sh prog n 56 (es.getD i .nil) := fun i hi => he _ (by
        have : es.getD i .nil = es[i] := by simp [List.getD, hi]
        rw [this]; exact List.getElem_mem hi)
      refine ⟨_, by simp only [avL, underlying23, c56]; rfl, fun i hi => ?_, ?_, fun i hi => ?_, fun i hi => ?_⟩
      · obtain ⟨s, kd, a, b, ha, hb, x, y, z, e, h0, h1, h2, h3, h4, h5, h6, h7, h8, _⟩ := sh_member (hel i hi)
        rw [e]
        exact ⟨by rw [← h0]; rfl, by rw [← h1]; rfl, by rw [← h2]; rfl, by rw [← h3]; rfl, by rw [← h4]; rfl, by rw [← h5]; rfl, by rw [← h6]; rfl, by rw [← h7]; rfl, by rw [← h8]; rfl⟩
      · show es.length < _
        have := Nat.add_mul es.length sp.length 72
        omega
      · obtain ⟨s, kd, a, b, ha, hb, x, y, z, e, h0, h1, h2, h3, h4, h5, h6, h7, h8, h9, h10⟩ := sh_member (hel i hi)
        show (txt (part (es.getD i .nil) 0)).size ≤ BS
        rw [h0]; exact h9
      · obtain ⟨s, kd, a, b, ha, hb, x, y, z, e, h0, h1, h2, h3, h4, h5, h6, h7, h8, h9, h10⟩ := sh_member (hel i hi)
        show fl (part (es.getD i .nil) 8) < _
        rw [h8]; exact h10

theorem sh_plan {n : Nat} {d : DataW H} (h : Sh prog n 25 d) : ∃ jg g, avL prog n 25 d = [.ro 4 (jsOf (els (part d 0))).n (jsOf (els (part d 0))).n jg, .ro 9 (msOf (els (part d 1))).n (msOf (els (part d 1))).n g] ∧
    (jsOf (els (part d 0))).Ok jg ∧ (msOf (els (part d 1))).Ok g ∧ Fine (jsOf (els (part d 0))) (msOf (els (part d 1))) := by
  cases n with
  | zero => exact h.elim
  | succ n =>
    simp only [Sh, underlying25] at h
    obtain ⟨ds, rfl, hl, hf⟩ := h
    obtain ⟨d0, d1, rfl⟩ : ∃ a b, ds = [a, b] := by
      match ds, hl with
      | [a, b], _ => exact ⟨a, b, rfl⟩
    obtain ⟨jg, e0, o0, p1, p2, p3⟩ := sh_joints (hf 0 _ _ rfl rfl)
    obtain ⟨g, e1, o1, q1, q2, q3⟩ := sh_members (hf 1 _ _ rfl rfl)
    refine ⟨jg, g, ?_, o0, o1, ⟨p1, q1, p2, q2, p3, q3⟩⟩
    simp only [avL, underlying25]
    simp only [List.zip_cons_cons, List.zip_nil_right, List.flatMap_cons, List.flatMap_nil, e0, e1]
    rfl
end
end Go.Proofs.Tryz
end
