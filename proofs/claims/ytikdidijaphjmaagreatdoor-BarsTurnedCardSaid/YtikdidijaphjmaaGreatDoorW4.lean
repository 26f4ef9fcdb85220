/- Part 4 of the proof: models of the functions, and laws on them. -/
import Derived.Test.YtikdidijaphjmaaGreatDoorW3
import Derived.Test.YtikdidijaphjmaaGreatDoorProg
import Derived.KernelRfl
set_option linter.unusedVariables false
set_option linter.unusedSimpArgs false
set_option linter.unusedSectionVars false
section
namespace Go.Proofs.Tryz
open Go Go.Am
noncomputable abbrev Pr : Program := prog
def Xspan_corners_a : XS := { pat := [none, none, some (1000084, 0)], nb := [], out := [.one] }
abbrev Rspan_corners_a : List RS := [RS.agg [LK.f FloatKind.f64, LK.f FloatKind.f64]]
def Xspan_corners_b : XS := { pat := [none, none, some (1000082, 0)], nb := [], out := [.one] }
abbrev Rspan_corners_b : List RS := [RS.agg [LK.f FloatKind.f64, LK.f FloatKind.f64]]
def Xbars_springs_a : XS := { pat := [none, none], nb := [], out := [.newl 11 [AV.int IntKind.i64 0, AV.int IntKind.u8 0, AV.int IntKind.i64 0, AV.int IntKind.i64 0, AV.int IntKind.i64 0, AV.int IntKind.i64 0, AV.int IntKind.i64 0, AV.int IntKind.i64 0, AV.flt FloatKind.f64 (some 0), AV.flt FloatKind.f64 (some 0), AV.flt FloatKind.f64 (some 0)]] }
abbrev Rbars_springs_a : List RS := [RS.one (LK.l 11)]
def Xbars_Springs_a : XS := { pat := [none], nb := [], out := [.newl 11 [AV.int IntKind.i64 0, AV.int IntKind.u8 0, AV.int IntKind.i64 0, AV.int IntKind.i64 0, AV.int IntKind.i64 0, AV.int IntKind.i64 0, AV.int IntKind.i64 0, AV.int IntKind.i64 0, AV.flt FloatKind.f64 (some 0), AV.flt FloatKind.f64 (some 0), AV.flt FloatKind.f64 (some 0)], .one], kp := true }
abbrev Rbars_Springs_a : List RS := [RS.one (LK.l 11), RS.one (LK.i IntKind.i64)]
def Xkit_CopyJoints_a : XS := { pat := [none], nb := [], out := [.newl 4 [AV.str { data := #[] }, AV.int IntKind.i32 0, AV.int IntKind.i32 0, AV.int IntKind.u8 0]] }
abbrev Rkit_CopyJoints_a : List RS := [RS.one (LK.l 4)]
def Xkit_CopyMembers_a : XS := { pat := [none], nb := [], out := [.newl 9 [AV.str { data := #[] }, AV.int IntKind.u8 0, AV.int IntKind.i64 0, AV.int IntKind.i64 0, AV.bool false, AV.bool false, AV.flt FloatKind.f64 (some 0), AV.flt FloatKind.f64 (some 0), AV.flt FloatKind.f64 (some 0)]] }
abbrev Rkit_CopyMembers_a : List RS := [RS.one (LK.l 9)]
noncomputable instance : Inhabited GlobT := ⟨⟨[]⟩⟩
end Go.Proofs.Tryz
end
section
namespace Go.Proofs.Tryz
open Go Go.Am
set_option linter.unusedVariables false
set_option maxRecDepth 1000000
noncomputable def Lkit_Pick (fuel : Nat) : Lam AV := []
noncomputable def Gkit_Pick : Gam := []
noncomputable def Ckit_Pick (fuel : Nat) : CallI AV := callX (Gkit_Pick) (execFn Pr (Gkit_Pick) [((6, 13), Lkit_Pick fuel)] fuel 6)
noncomputable def gkit_Pick (fuel : Nat) (ux0 un1 : Int) : Option AV :=
  bif decide (un1 < 1) then some (AV.int .i64 0)
  else ck (!decide (un1 = 0)) <| bif decide (ux0.tmod un1 < 0) then some (AV.int .i64 (IntKind.i64.wrap (ux0.tmod un1 + un1)))
  else some (AV.int .i64 (ux0.tmod un1))
theorem gkit_Pick_run (fuel : Nat) (ux0 un1 : Int) : run Pr (Gkit_Pick) [((6, 13), Lkit_Pick fuel)] fuel 7 13 [AV.int .i64 ux0, AV.int .i64 un1] = gkit_Pick fuel ux0 un1 := by kernel_rfl
noncomputable def mkit_Pick (fuel : Nat) (xs : List AV) : Option AV := match xs with
  | [AV.int .i64 ux0, AV.int .i64 un1] => gkit_Pick fuel ux0 un1
  | _ => none
abbrev Rkit_Pick : List RS := [RS.one (LK.i .i64)]
theorem gkit_Pick_sm (fuel : Nat) (hΓ : GamOk Pr (Gkit_Pick)) (hP : NamesOk Pr) : SmOk Pr 13 (smM Rkit_Pick (mkit_Pick fuel)) := by
  refine smM_ok (fuel := fuel) hΓ hP (LamOk.of 6 13 (Lkit_Pick fuel) 0 (by kernel_rfl) (fun i hi => ?_)) 7 13 Rkit_Pick _ (fun xs v h => ?_)
  · match i, hi with
    | i + 0, hi => exact absurd hi (by omega)
  · unfold mkit_Pick at h
    split at h
    · exact (gkit_Pick_run fuel _ _).trans h
    · cases h
noncomputable def Lmade_name (fuel : Nat) : Lam AV := []
noncomputable def Gmade_name : Gam := []
noncomputable def Cmade_name (fuel : Nat) : CallI AV := callX (Gmade_name) (execFn Pr (Gmade_name) [((6, 16), Lmade_name fuel)] fuel 6)
noncomputable def gmade_name (fuel : Nat) (qe6 uk1 : Int) : Option AV :=
  ck ([[AV.int .u8 qe6], [AV.int .u8 (IntKind.u8.wrap (IntKind.i64.wrap (48 + uk1.tmod 10)))]].all fun (el : List AV) => fitKs [LK.i .u8] el) <| some (AV.str (bytesOf [[AV.int .u8 qe6], [AV.int .u8 (IntKind.u8.wrap (IntKind.i64.wrap (48 + uk1.tmod 10)))]]))
theorem gmade_name_run (fuel : Nat) (qe6 uk1 : Int) : run Pr (Gmade_name) [((6, 16), Lmade_name fuel)] fuel 7 16 [AV.int .u8 qe6, AV.int .i64 uk1] = gmade_name fuel qe6 uk1 := by kernel_rfl
noncomputable def mmade_name (fuel : Nat) (xs : List AV) : Option AV := match xs with
  | [AV.int .u8 qe6, AV.int .i64 uk1] => gmade_name fuel qe6 uk1
  | _ => none
abbrev Rmade_name : List RS := [RS.one LK.s]
theorem gmade_name_sm (fuel : Nat) (hΓ : GamOk Pr (Gmade_name)) (hP : NamesOk Pr) : SmOk Pr 16 (smM Rmade_name (mmade_name fuel)) := by
  refine smM_ok (fuel := fuel) hΓ hP (LamOk.of 6 16 (Lmade_name fuel) 0 (by kernel_rfl) (fun i hi => ?_)) 7 16 Rmade_name _ (fun xs v h => ?_)
  · match i, hi with
    | i + 0, hi => exact absurd hi (by omega)
  · unfold mmade_name at h
    split at h
    · exact (gmade_name_run fuel _ _).trans h
    · cases h
noncomputable def Lmade_part (fuel : Nat) : Lam AV := []
noncomputable def Gmade_part : Gam := []
noncomputable def Cmade_part (fuel : Nat) : CallI AV := callX (Gmade_part) (execFn Pr (Gmade_part) [((6, 17), Lmade_part fuel)] fuel 6)
noncomputable def gmade_part (fuel vf yo : Nat) (v4 : Ge) (uk1 : Int) : Option AV :=
  bif (↑vf : Int) == 0 then some (AV.int .i64 0)
  else ck (!decide ((↑vf : Int) = 0)) <| ck (decide (0 ≤ uk1.tmod (↑vf : Int))) <| ck (decide (uk1.tmod (↑vf : Int) < (↑vf : Int))) <| ck (fitK (LK.i .i64) (v4 (uk1.tmod (↑vf : Int)).toNat 0)) <| some (AV.int .i64 (toI (v4 (uk1.tmod (↑vf : Int)).toNat 0)))
theorem gmade_part_run (fuel vf yo : Nat) (v4 : Ge) (uk1 : Int) : run Pr (Gmade_part) [((6, 17), Lmade_part fuel)] fuel 7 17 [AV.ro 1 vf yo v4, AV.int .i64 uk1] = gmade_part fuel vf yo v4 uk1 := by kernel_rfl
noncomputable def mmade_part (fuel : Nat) (xs : List AV) : Option AV := match xs with
  | [AV.ro 1 vf yo v4, AV.int .i64 uk1] => gmade_part fuel vf yo v4 uk1
  | _ => none
abbrev Rmade_part : List RS := [RS.one (LK.i .i64)]
theorem gmade_part_sm (fuel : Nat) (hΓ : GamOk Pr (Gmade_part)) (hP : NamesOk Pr) : SmOk Pr 17 (smM Rmade_part (mmade_part fuel)) := by
  refine smM_ok (fuel := fuel) hΓ hP (LamOk.of 6 17 (Lmade_part fuel) 0 (by kernel_rfl) (fun i hi => ?_)) 7 17 Rmade_part _ (fun xs v h => ?_)
  · match i, hi with
    | i + 0, hi => exact absurd hi (by omega)
  · unfold mmade_part at h
    split at h
    · exact (gmade_part_run fuel _ _ _ _).trans h
    · cases h
noncomputable def Lmade_Number (fuel : Nat) : Lam AV := []
noncomputable def Gmade_Number : Gam := []
noncomputable def Cmade_Number (fuel : Nat) : CallI AV := callX (Gmade_Number) (execFn Pr (Gmade_Number) [((6, 35), Lmade_Number fuel)] fuel 6)
noncomputable def gmade_Number (fuel : Nat) (ux0 : Option Nat) : Option AV :=
  bif bif ford .f64 ux0 (some 4336966441157787648) == some Ordering.gt || ford .f64 ux0 (some 4336966441157787648) == some Ordering.eq then ford .f64 ux0 (some 4877398396442247168) == some Ordering.lt || ford .f64 ux0 (some 4877398396442247168) == some Ordering.eq else false then some (AV.flt .f64 ux0)
  else some (AV.flt .f64 (some 4607182418800017408))
theorem gmade_Number_run (fuel : Nat) (ux0 : Option Nat) : run Pr (Gmade_Number) [((6, 35), Lmade_Number fuel)] fuel 7 35 [AV.flt .f64 ux0] = gmade_Number fuel ux0 := by kernel_rfl
noncomputable def mmade_Number (fuel : Nat) (xs : List AV) : Option AV := match xs with
  | [AV.flt .f64 ux0] => gmade_Number fuel ux0
  | _ => none
abbrev Rmade_Number : List RS := [RS.one (LK.f .f64)]
theorem gmade_Number_sm (fuel : Nat) (hΓ : GamOk Pr (Gmade_Number)) (hP : NamesOk Pr) : SmOk Pr 35 (smM Rmade_Number (mmade_Number fuel)) := by
  refine smM_ok (fuel := fuel) hΓ hP (LamOk.of 6 35 (Lmade_Number fuel) 0 (by kernel_rfl) (fun i hi => ?_)) 7 35 Rmade_Number _ (fun xs v h => ?_)
  · match i, hi with
    | i + 0, hi => exact absurd hi (by omega)
  · unfold mmade_Number at h
    split at h
    · exact (gmade_Number_run fuel _).trans h
    · cases h
noncomputable def Lmade_number (vb : Mo) (fuel : Nat) : Lam AV := []
noncomputable def Gmade_number (vb : Mo) : Gam := [(35, smM [RS.one (LK.f .f64)] vb)]
noncomputable def Cmade_number (vb : Mo) (fuel : Nat) : CallI AV := callX (Gmade_number vb) (execFn Pr (Gmade_number vb) [((6, 18), Lmade_number vb fuel)] fuel 6)
noncomputable def gmade_number (vb : Mo) (fuel vf yo : Nat) (v4 : Ge) (uk1 : Int) : Option AV :=
  bif (↑vf : Int) == 0 then some (AV.flt .f64 (some 4607182418800017408))
  else ck (!decide ((↑vf : Int) = 0)) <| ck (decide (0 ≤ uk1.tmod (↑vf : Int))) <| ck (decide (uk1.tmod (↑vf : Int) < (↑vf : Int))) <| ck (fitK (LK.f .f64) (v4 (uk1.tmod (↑vf : Int)).toNat 0)) <| ck (okM [RS.one (LK.f .f64)] (vb [AV.flt .f64 (toF (v4 (uk1.tmod (↑vf : Int)).toNat 0))])) <| some (AV.flt .f64 (toF (getV (vb [AV.flt .f64 (toF (v4 (uk1.tmod (↑vf : Int)).toNat 0))]))))
theorem gmade_number_run (vb : Mo) (fuel vf yo : Nat) (v4 : Ge) (uk1 : Int) : run Pr (Gmade_number vb) [((6, 18), Lmade_number vb fuel)] fuel 7 18 [AV.ro 1 vf yo v4, AV.int .i64 uk1] = gmade_number vb fuel vf yo v4 uk1 := by kernel_rfl
noncomputable def mmade_number (vb : Mo) (fuel : Nat) (xs : List AV) : Option AV := match xs with
  | [AV.ro 1 vf yo v4, AV.int .i64 uk1] => gmade_number vb fuel vf yo v4 uk1
  | _ => none
abbrev Rmade_number : List RS := [RS.one (LK.f .f64)]
theorem gmade_number_sm (vb : Mo) (fuel : Nat) (hΓ : GamOk Pr (Gmade_number vb)) (hP : NamesOk Pr) : SmOk Pr 18 (smM Rmade_number (mmade_number vb fuel)) := by
  refine smM_ok (fuel := fuel) hΓ hP (LamOk.of 6 18 (Lmade_number vb fuel) 0 (by kernel_rfl) (fun i hi => ?_)) 7 18 Rmade_number _ (fun xs v h => ?_)
  · match i, hi with
    | i + 0, hi => exact absurd hi (by omega)
  · unfold mmade_number at h
    split at h
    · exact (gmade_number_run vb fuel _ _ _ _).trans h
    · cases h
noncomputable def Smade_Sketch_Plan_0 (qbw qa6 : Int) (uk7 vl : Int) (wh wi : Nat) (wj : Ge) (zx zr : Nat) (zw : Ge) (zy zq : Nat) (zz : Ge) (zu zv : Nat) (zt : Ge) (yu : List AV) (yx : List (List AV)) (qbz : List AV) (qbq : List (List AV)) (z0 : List AV) (zn : List (List AV)) (yd : List AV) (yc : List (List AV)) (qal : ByteArray) (p7 qad qec : Int) : St := { env := [(1, AV.ptr 0 0), (2, AV.ptr 1 0), (3, AV.ptr 2 0), (4, AV.int .i64 qbw), (5, AV.int .i64 qa6), (6, AV.ptr 7 0), (7, AV.int .i64 uk7)], h := [Blk.box [AV.int .i64 vl, AV.ro 1 wh wi wj, AV.ro 1 zx zr zw, AV.ro 1 zy zq zz, AV.ro 1 zu zv zt], Blk.box [AV.lst 3 4, AV.lst 4 9], Blk.box [AV.lst 5 4, AV.lst 6 9], Blk.fl 4 yu yx, Blk.fl 9 qbz qbq, Blk.fl 4 z0 zn, Blk.fl 9 yd yc, Blk.box [AV.str qal, AV.int .i32 p7, AV.int .i32 qad, AV.int .u8 qec]], kd := [6, 5, 4, 3] }
noncomputable def Xmade_Sketch_Plan_0_0 (qno qm4 qmi : Int) (y9 pd : Nat) (pa : Ge) (qkd qjd : Nat) (qiy : Ge) (qj1 qi3 : Nat) (qiu : Ge) (qii qku : Nat) (qj3 : Ge) (qgq : List AV) (qge : List (List AV)) (qmn : List AV) (qnb : List (List AV)) (qgs : List AV) (qgr : List (List AV)) (qnu : List AV) (qmq : List (List AV)) (qe4 : ByteArray) (qfd qe1 qll : Int) : St := { env := [(1, AV.ptr 0 0), (2, AV.ptr 1 0), (3, AV.ptr 2 0), (4, AV.int .i64 qno), (5, AV.int .i64 qm4), (6, AV.ptr 7 0)], h := [Blk.box [AV.int .i64 qmi, AV.ro 1 y9 pd pa, AV.ro 1 qkd qjd qiy, AV.ro 1 qj1 qi3 qiu, AV.ro 1 qii qku qj3], Blk.box [AV.lst 3 4, AV.lst 4 9], Blk.box [AV.lst 5 4, AV.lst 6 9], Blk.fl 4 qgq qge, Blk.fl 9 qmn qnb, Blk.fl 4 qgs qgr, Blk.fl 9 qnu qmq, Blk.box [AV.str qe4, AV.int .i32 qfd, AV.int .i32 qe1, AV.int .u8 qll]], kd := [6, 5, 4, 3] }
noncomputable def gmade_Sketch_Plan_l0_step (qa qo : Mo) (qn qj : Mo) (fuel : Nat) (kn : Int → Int → Option AV) (kx0 : Int → Int → Int → Nat → Nat → (Ge) → Nat → Nat → (Ge) → Nat → Nat → (Ge) → Nat → Nat → (Ge) → List AV → List (List AV) → List AV → List (List AV) → List AV → List (List AV) → List AV → List (List AV) → ByteArray → Int → Int → Int → Option AV) (qbw qa6 vl : Int) (wh wi : Nat) (wj : Ge) (zx zr : Nat) (zw : Ge) (zy zq : Nat) (zz : Ge) (zu zv : Nat) (zt : Ge) (yu : List AV) (yx : List (List AV)) (qbz : List AV) (qbq : List (List AV)) (z0 : List AV) (zn : List (List AV)) (yd : List AV) (yc : List (List AV)) (qal : ByteArray) (qad qec : Int) (uk7 p7 : Int) : Option AV :=
  bif decide (uk7 < qa6) then ck (decide (0 ≤ uk7)) <| ck (decide (uk7 < (↑zn.length : Int))) <| ck (fitK (LK.i .i32) ((zn.getD uk7.toNat z0).getD 1 AV.dead)) <| ck (bif toI ((zn.getD uk7.toNat z0).getD 1 AV.dead) == p7 then true else true) <| ck (bif toI ((zn.getD uk7.toNat z0).getD 1 AV.dead) == p7 then decide (0 ≤ uk7) else true) <| ck (bif toI ((zn.getD uk7.toNat z0).getD 1 AV.dead) == p7 then decide (uk7 < (↑zn.length : Int)) else true) <| ck (bif toI ((zn.getD uk7.toNat z0).getD 1 AV.dead) == p7 then fitK (LK.i .i32) ((zn.getD uk7.toNat z0).getD 2 AV.dead) else true) <| ck (bif toI ((zn.getD uk7.toNat z0).getD 1 AV.dead) == p7 then true else true) <| bif bif toI ((zn.getD uk7.toNat z0).getD 1 AV.dead) == p7 then toI ((zn.getD uk7.toNat z0).getD 2 AV.dead) == qad else false then kn (IntKind.i64.wrap (uk7 + 1)) (IntKind.i32.wrap (IntKind.i64.wrap (20 + IntKind.i64.wrap (3 * qa6))))
    else kn (IntKind.i64.wrap (uk7 + 1)) (p7)
  else kx0 (qbw) (qa6) (vl) (wh) (wi) (wj) (zx) (zr) (zw) (zy) (zq) (zz) (zu) (zv) (zt) (yu) (yx) (qbz) (qbq) (z0) (zn) (yd) (yc) (qal) (p7) (qad) (qec)
noncomputable def gmade_Sketch_Plan_l0 (qa qo : Mo) (qn qj : Mo) (fuel : Nat) (kx0 : Int → Int → Int → Nat → Nat → (Ge) → Nat → Nat → (Ge) → Nat → Nat → (Ge) → Nat → Nat → (Ge) → List AV → List (List AV) → List AV → List (List AV) → List AV → List (List AV) → List AV → List (List AV) → ByteArray → Int → Int → Int → Option AV) (qbw qa6 vl : Int) (wh wi : Nat) (wj : Ge) (zx zr : Nat) (zw : Ge) (zy zq : Nat) (zz : Ge) (zu zv : Nat) (zt : Ge) (yu : List AV) (yx : List (List AV)) (qbz : List AV) (qbq : List (List AV)) (z0 : List AV) (zn : List (List AV)) (yd : List AV) (yc : List (List AV)) (qal : ByteArray) (qad qec : Int) : Nat → Int → Int → Option AV
  | 0, _, _ => none
  | n' + 1, uk7, p7 => gmade_Sketch_Plan_l0_step qa qo qn qj fuel (gmade_Sketch_Plan_l0 qa qo qn qj fuel kx0 qbw qa6 vl wh wi wj zx zr zw zy zq zz zu zv zt yu yx qbz qbq z0 zn yd yc qal qad qec n') kx0 qbw qa6 vl wh wi wj zx zr zw zy zq zz zu zv zt yu yx qbz qbq z0 zn yd yc qal qad qec uk7 p7
noncomputable def Tmade_Sketch_Plan_0 : TS' := ⟨[(1, TA.ptr 0 0), (2, TA.ptr 1 0), (3, TA.ptr 2 0), (4, TA.i .i64), (5, TA.i .i64), (6, TA.ptr 7 0), (7, TA.i .i64)], [TB.box [TA.i .i64, TA.ro 1, TA.ro 1, TA.ro 1, TA.ro 1], TB.box [TA.lst 3 4, TA.lst 4 9], TB.box [TA.lst 5 4, TA.lst 6 9], TB.fl 4, TB.fl 9, TB.fl 4, TB.fl 9, TB.box [TA.s, TA.i .i32, TA.i .i32, TA.i .u8]], [6, 5, 4, 3]⟩
noncomputable def Fmade_Sketch_Plan_0 (qa qo : Mo) (qn qj : Mo) (fuel : Nat) (ps : List Pay) (K : Ex → St → Option AV) : Option AV := match ps with
  | .i qbw :: .i qa6 :: .i uk7 :: .i vl :: .n wh :: .n wi :: .g wj :: .n zx :: .n zr :: .g zw :: .n zy :: .n zq :: .g zz :: .n zu :: .n zv :: .g zt :: .z yu :: .e yx :: .z qbz :: .e qbq :: .z z0 :: .e zn :: .z yd :: .e yc :: .s qal :: .i p7 :: .i qad :: .i qec :: [] => gmade_Sketch_Plan_l0 qa qo qn qj fuel (fun qno qm4 qmi y9 pd pa qkd qjd qiy qj1 qi3 qiu qii qku qj3 qgq qge qmn qnb qgs qgr qnu qmq qe4 qfd qe1 qll => K (Ex.exit 2) (Xmade_Sketch_Plan_0_0 qno qm4 qmi y9 pd pa qkd qjd qiy qj1 qi3 qiu qii qku qj3 qgq qge qmn qnb qgs qgr qnu qmq qe4 qfd qe1 qll)) qbw qa6 vl wh wi wj zx zr zw zy zq zz zu zv zt yu yx qbz qbq z0 zn yd yc qal qad qec fuel uk7 p7
  | _ => none
noncomputable def Smade_Sketch_Plan_1 (un4 ui5 ys : Int) (wl wn : Nat) (wm : Ge) (yh yi : Nat) (yg : Ge) (y0 yz : Nat) (yv : Ge) (yt yw : Nat) (yy : Ge) (h3z : List AV) (h3e : List (List AV)) (h4z : List AV) (h4e : List (List AV)) (h5z : List AV) (h5e : List (List AV)) (h6z : List AV) (h6e : List (List AV)) : St := { env := [(1, AV.ptr 0 0), (2, AV.ptr 1 0), (3, AV.ptr 2 0), (4, AV.int .i64 un4), (5, AV.int .i64 ui5)], h := [Blk.box [AV.int .i64 ys, AV.ro 1 wl wn wm, AV.ro 1 yh yi yg, AV.ro 1 y0 yz yv, AV.ro 1 yt yw yy], Blk.box [AV.lst 3 4, AV.lst 4 9], Blk.box [AV.lst 5 4, AV.lst 6 9], Blk.fl 4 h3z h3e, Blk.fl 9 h4z h4e, Blk.fl 4 h5z h5e, Blk.fl 9 h6z h6e], kd := [6, 5, 4, 3] }
noncomputable def Xmade_Sketch_Plan_1_0 (qmw qe9 : Int) (qbf qa2 : Nat) (qa8 : Ge) (qdo qdc : Nat) (qda : Ge) (qdn qc9 : Nat) (qdm : Ge) (qc6 qdp : Nat) (qdk : Ge) (qgn : List AV) (qgg : List (List AV)) (qn9 : List AV) (qmx : List (List AV)) (qgy : List AV) (qgl : List (List AV)) (qgt : List AV) (qgx : List (List AV)) : St := { env := [(1, AV.ptr 0 0), (2, AV.ptr 1 0), (3, AV.ptr 2 0), (4, AV.int .i64 qmw)], h := [Blk.box [AV.int .i64 qe9, AV.ro 1 qbf qa2 qa8, AV.ro 1 qdo qdc qda, AV.ro 1 qdn qc9 qdm, AV.ro 1 qc6 qdp qdk], Blk.box [AV.lst 3 4, AV.lst 4 9], Blk.box [AV.lst 5 4, AV.lst 6 9], Blk.fl 4 qgn qgg, Blk.fl 9 qn9 qmx, Blk.fl 4 qgy qgl, Blk.fl 9 qgt qgx], kd := [6, 5, 4, 3] }
noncomputable def gmade_Sketch_Plan_l1_step (qa qo : Mo) (qn qj : Mo) (fuel : Nat) (kn : Int → Int → Int → Nat → Nat → (Ge) → Nat → Nat → (Ge) → Nat → Nat → (Ge) → Nat → Nat → (Ge) → List AV → List (List AV) → List AV → List (List AV) → List AV → List (List AV) → List AV → List (List AV) → Option AV) (kx0 : Int → Int → Nat → Nat → (Ge) → Nat → Nat → (Ge) → Nat → Nat → (Ge) → Nat → Nat → (Ge) → List AV → List (List AV) → List AV → List (List AV) → List AV → List (List AV) → List AV → List (List AV) → Option AV) (un4 ui5 ys : Int) (wl wn : Nat) (wm : Ge) (yh yi : Nat) (yg : Ge) (y0 yz : Nat) (yv : Ge) (yt yw : Nat) (yy : Ge) (h3z : List AV) (h3e : List (List AV)) (h4z : List AV) (h4e : List (List AV)) (h5z : List AV) (h5e : List (List AV)) (h6z : List AV) (h6e : List (List AV)) : Option AV :=
  bif decide (ui5 < un4) then ck (okM [RS.one LK.s] (qo [AV.int .u8 106, AV.int .i64 ui5])) <| ck (okM [RS.one (LK.i .i64)] (qn [AV.ro 1 wl wn wm, AV.int .i64 (IntKind.i64.wrap (2 * ui5))])) <| ck (okM [RS.one (LK.i .i64)] (qa [AV.int .i64 (toI (getV (qn [AV.ro 1 wl wn wm, AV.int .i64 (IntKind.i64.wrap (2 * ui5))]))), AV.int .i64 17])) <| ck (okM [RS.one (LK.i .i64)] (qn [AV.ro 1 wl wn wm, AV.int .i64 (IntKind.i64.wrap (IntKind.i64.wrap (2 * ui5) + 1))])) <| ck (okM [RS.one (LK.i .i64)] (qa [AV.int .i64 (toI (getV (qn [AV.ro 1 wl wn wm, AV.int .i64 (IntKind.i64.wrap (IntKind.i64.wrap (2 * ui5) + 1))]))), AV.int .i64 17])) <| ck (okM [RS.one (LK.i .i64)] (qn [AV.ro 1 yh yi yg, AV.int .i64 ui5])) <| ck (okM [RS.one (LK.i .i64)] (qa [AV.int .i64 (toI (getV (qn [AV.ro 1 yh yi yg, AV.int .i64 ui5]))), AV.int .i64 8])) <| gmade_Sketch_Plan_l0 qa qo qn qj fuel
      (fun (qhq qob v1 : Int) (wq wo : Nat) (wp : Ge) (vr vw : Nat) (vo : Ge) (vq vv : Nat) (vx : Ge) (vn vt : Nat) (vp : Ge) (p6 : List AV) (p0 : List (List AV)) (qfg : List AV) (qfc : List (List AV)) (y8 : List AV) (ye : List (List AV)) (q9 : List AV) (q8 : List (List AV)) (qde : ByteArray) (qdj qdd qj7 : Int) => ck (decide ((ye.length + 1) * 32 < 70368744177664)) <| ck (decide (ye.length + 1 < 4611686018427387904)) <| kn (qhq) (IntKind.i64.wrap (qob + 1)) (v1) (wq) (wo) (wp) (vr) (vw) (vo) (vq) (vv) (vx) (vn) (vt) (vp) (p6) (p0) (qfg) (qfc) (y8) (ye ++ [[AV.str qde, AV.int .i32 qdj, AV.int .i32 qdd, AV.int .u8 qj7]]) (q9) (q8))
      (un4)
      (ui5)
      (ys)
      (wl)
      (wn)
      (wm)
      (yh)
      (yi)
      (yg)
      (y0)
      (yz)
      (yv)
      (yt)
      (yw)
      (yy)
      (h3z)
      (h3e)
      (h4z)
      (h4e)
      (h5z)
      (h5e)
      (h6z)
      (h6e)
      (toS (getV (qo [AV.int .u8 106, AV.int .i64 ui5])))
      (IntKind.i32.wrap (IntKind.i64.wrap (toI (getV (qa [AV.int .i64 (toI (getV (qn [AV.ro 1 wl wn wm, AV.int .i64 (IntKind.i64.wrap (IntKind.i64.wrap (2 * ui5) + 1))]))), AV.int .i64 17])) - 8)))
      (IntKind.u8.wrap (toI (getV (qa [AV.int .i64 (toI (getV (qn [AV.ro 1 yh yi yg, AV.int .i64 ui5]))), AV.int .i64 8])))) fuel (0) (IntKind.i32.wrap (IntKind.i64.wrap (toI (getV (qa [AV.int .i64 (toI (getV (qn [AV.ro 1 wl wn wm, AV.int .i64 (IntKind.i64.wrap (2 * ui5))]))), AV.int .i64 17])) - 8)))
  else kx0 (un4) (ys) (wl) (wn) (wm) (yh) (yi) (yg) (y0) (yz) (yv) (yt) (yw) (yy) (h3z) (h3e) (h4z) (h4e) (h5z) (h5e) (h6z) (h6e)
noncomputable def gmade_Sketch_Plan_l1 (qa qo : Mo) (qn qj : Mo) (fuel : Nat) (kx0 : Int → Int → Nat → Nat → (Ge) → Nat → Nat → (Ge) → Nat → Nat → (Ge) → Nat → Nat → (Ge) → List AV → List (List AV) → List AV → List (List AV) → List AV → List (List AV) → List AV → List (List AV) → Option AV) : Nat → Int → Int → Int → Nat → Nat → (Ge) → Nat → Nat → (Ge) → Nat → Nat → (Ge) → Nat → Nat → (Ge) → List AV → List (List AV) → List AV → List (List AV) → List AV → List (List AV) → List AV → List (List AV) → Option AV
  | 0, _, _, _, _, _, _, _, _, _, _, _, _, _, _, _, _, _, _, _, _, _, _, _ => none
  | n' + 1, un4, ui5, ys, wl, wn, wm, yh, yi, yg, y0, yz, yv, yt, yw, yy, h3z, h3e, h4z, h4e, h5z, h5e, h6z, h6e => gmade_Sketch_Plan_l1_step qa qo qn qj fuel (gmade_Sketch_Plan_l1 qa qo qn qj fuel kx0 n') kx0 un4 ui5 ys wl wn wm yh yi yg y0 yz yv yt yw yy h3z h3e h4z h4e h5z h5e h6z h6e
noncomputable def Tmade_Sketch_Plan_1 : TS' := ⟨[(1, TA.ptr 0 0), (2, TA.ptr 1 0), (3, TA.ptr 2 0), (4, TA.i .i64), (5, TA.i .i64)], [TB.box [TA.i .i64, TA.ro 1, TA.ro 1, TA.ro 1, TA.ro 1], TB.box [TA.lst 3 4, TA.lst 4 9], TB.box [TA.lst 5 4, TA.lst 6 9], TB.fl 4, TB.fl 9, TB.fl 4, TB.fl 9], [6, 5, 4, 3]⟩
noncomputable def Fmade_Sketch_Plan_1 (qa qo : Mo) (qn qj : Mo) (fuel : Nat) (ps : List Pay) (K : Ex → St → Option AV) : Option AV := match ps with
  | .i un4 :: .i ui5 :: .i ys :: .n wl :: .n wn :: .g wm :: .n yh :: .n yi :: .g yg :: .n y0 :: .n yz :: .g yv :: .n yt :: .n yw :: .g yy :: .z h3z :: .e h3e :: .z h4z :: .e h4e :: .z h5z :: .e h5e :: .z h6z :: .e h6e :: [] => gmade_Sketch_Plan_l1 qa qo qn qj fuel (fun qmw qe9 qbf qa2 qa8 qdo qdc qda qdn qc9 qdm qc6 qdp qdk qgn qgg qn9 qmx qgy qgl qgt qgx => K (Ex.exit 0) (Xmade_Sketch_Plan_1_0 qmw qe9 qbf qa2 qa8 qdo qdc qda qdn qc9 qdm qc6 qdp qdk qgn qgg qn9 qmx qgy qgl qgt qgx)) fuel un4 ui5 ys wl wn wm yh yi yg y0 yz yv yt yw yy h3z h3e h4z h4e h5z h5e h6z h6e
  | _ => none
noncomputable def Smade_Sketch_Plan_2 (z1 uk8 qai : Int) (z6 z7 : Nat) (z5 : Ge) (pi pn : Nat) (pl : Ge) (pb pk : Nat) (vm : Ge) (v9 ya : Nat) (v8 : Ge) (yn : List AV) (yp : List (List AV)) (qb2 : List AV) (qbu : List (List AV)) (qb0 : List AV) (qbm : List (List AV)) (qbl : List AV) (qa1 : List (List AV)) : St := { env := [(1, AV.ptr 0 0), (2, AV.ptr 1 0), (3, AV.ptr 2 0), (4, AV.int .i64 z1), (8, AV.int .i64 uk8)], h := [Blk.box [AV.int .i64 qai, AV.ro 1 z6 z7 z5, AV.ro 1 pi pn pl, AV.ro 1 pb pk vm, AV.ro 1 v9 ya v8], Blk.box [AV.lst 3 4, AV.lst 4 9], Blk.box [AV.lst 5 4, AV.lst 6 9], Blk.fl 4 yn yp, Blk.fl 9 qb2 qbu, Blk.fl 4 qb0 qbm, Blk.fl 9 qbl qa1], kd := [6, 5, 4, 3] }
noncomputable def Xmade_Sketch_Plan_2_0 (qff : Int) (qa7 qa5 : Nat) (qbe : Ge) (qdg qdb : Nat) (qdq : Ge) (qdr qdf : Nat) (qc7 : Ge) (qdl qc8 : Nat) (qdh : Ge) (qgf : List AV) (qg0 : List (List AV)) (qms : List AV) (qm9 : List (List AV)) (qga : List AV) (qgm : List (List AV)) (qg1 : List AV) (qgj : List (List AV)) : St := { env := [(2, AV.ptr 1 0), (3, AV.ptr 2 0)], h := [Blk.box [AV.int .i64 qff, AV.ro 1 qa7 qa5 qbe, AV.ro 1 qdg qdb qdq, AV.ro 1 qdr qdf qc7, AV.ro 1 qdl qc8 qdh], Blk.box [AV.lst 3 4, AV.lst 4 9], Blk.box [AV.lst 5 4, AV.lst 6 9], Blk.fl 4 qgf qg0, Blk.fl 9 qms qm9, Blk.fl 4 qga qgm, Blk.fl 9 qg1 qgj], kd := [6, 5, 4, 3] }
noncomputable def gmade_Sketch_Plan_l2_step (qa qo : Mo) (qn qj : Mo) (fuel : Nat) (kn : Int → List (List AV) → Option AV) (kx0 : Int → Nat → Nat → (Ge) → Nat → Nat → (Ge) → Nat → Nat → (Ge) → Nat → Nat → (Ge) → List AV → List (List AV) → List AV → List (List AV) → List AV → List (List AV) → List AV → List (List AV) → Option AV) (z1 qai : Int) (z6 z7 : Nat) (z5 : Ge) (pi pn : Nat) (pl : Ge) (pb pk : Nat) (vm : Ge) (v9 ya : Nat) (v8 : Ge) (yn : List AV) (yp : List (List AV)) (qb2 : List AV) (qbu : List (List AV)) (qb0 : List AV) (qbm : List (List AV)) (qbl : List AV) (uk8 : Int) (qa1 : List (List AV)) : Option AV :=
  bif bif decide (uk8 < (↑pb : Int)) then decide (uk8 < 6) else false then ck (decide (0 ≤ uk8)) <| ck (decide (uk8 < (↑pb : Int))) <| ck (fitK (LK.i .i64) (vm uk8.toNat 0)) <| ck (okM [RS.one (LK.i .i64)] (qa [AV.int .i64 (toI (vm uk8.toNat 0)), AV.int .i64 (IntKind.i64.wrap (IntKind.i64.wrap (16 * z1) * IntKind.i64.wrap (z1 - 1)))])) <| ck (okM [RS.one LK.s] (qo [AV.int .u8 109, AV.int .i64 uk8])) <| ck (!decide (z1 = 0)) <| ck (okM [RS.one (LK.f .f64)] (qj [AV.ro 1 v9 ya v8, AV.int .i64 (IntKind.i64.wrap (3 * uk8))])) <| ck (okM [RS.one (LK.f .f64)] (qj [AV.ro 1 v9 ya v8, AV.int .i64 (IntKind.i64.wrap (IntKind.i64.wrap (3 * uk8) + 1))])) <| ck (!decide (z1 = 0)) <| ck (!decide (IntKind.i64.wrap (z1 - 1) = 0)) <| ck (!decide (z1 = 0)) <| ck (!decide (IntKind.i64.wrap (z1 - 1) = 0)) <| bif decide (IntKind.i64.wrap ((IntKind.i64.wrap ((toI (getV (qa [AV.int .i64 (toI (vm uk8.toNat 0)), AV.int .i64 (IntKind.i64.wrap (IntKind.i64.wrap (16 * z1) * IntKind.i64.wrap (z1 - 1)))]))).tdiv z1)).tdiv (IntKind.i64.wrap (z1 - 1))) ≥ 4) then ck (okM [RS.one (LK.f .f64)] (qj [AV.ro 1 v9 ya v8, AV.int .i64 (IntKind.i64.wrap (IntKind.i64.wrap (3 * uk8) + 2))])) <| ck (bif !(IntKind.i64.wrap ((IntKind.i64.wrap ((toI (getV (qa [AV.int .i64 (toI (vm uk8.toNat 0)), AV.int .i64 (IntKind.i64.wrap (IntKind.i64.wrap (16 * z1) * IntKind.i64.wrap (z1 - 1)))]))).tdiv z1)).tdiv (IntKind.i64.wrap (z1 - 1)))).tmod 8 == 5 then true else true) <| ck (bif !(IntKind.i64.wrap ((IntKind.i64.wrap ((toI (getV (qa [AV.int .i64 (toI (vm uk8.toNat 0)), AV.int .i64 (IntKind.i64.wrap (IntKind.i64.wrap (16 * z1) * IntKind.i64.wrap (z1 - 1)))]))).tdiv z1)).tdiv (IntKind.i64.wrap (z1 - 1)))).tmod 8 == 6 then true else true) <| ck (decide ((qa1.length + 1) * 72 < 70368744177664)) <| ck (decide (qa1.length + 1 < 4611686018427387904)) <| kn (IntKind.i64.wrap (uk8 + 1)) (qa1 ++ [[AV.str (toS (getV (qo [AV.int .u8 109, AV.int .i64 uk8]))), AV.int .u8 2, AV.int .i64 ((toI (getV (qa [AV.int .i64 (toI (vm uk8.toNat 0)), AV.int .i64 (IntKind.i64.wrap (IntKind.i64.wrap (16 * z1) * IntKind.i64.wrap (z1 - 1)))]))).tmod z1), AV.int .i64 ((IntKind.i64.wrap (IntKind.i64.wrap ((toI (getV (qa [AV.int .i64 (toI (vm uk8.toNat 0)), AV.int .i64 (IntKind.i64.wrap (IntKind.i64.wrap (16 * z1) * IntKind.i64.wrap (z1 - 1)))]))).tmod z1 + 1) + (IntKind.i64.wrap ((toI (getV (qa [AV.int .i64 (toI (vm uk8.toNat 0)), AV.int .i64 (IntKind.i64.wrap (IntKind.i64.wrap (16 * z1) * IntKind.i64.wrap (z1 - 1)))]))).tdiv z1)).tmod (IntKind.i64.wrap (z1 - 1)))).tmod z1), AV.bool (bif (IntKind.i64.wrap ((IntKind.i64.wrap ((toI (getV (qa [AV.int .i64 (toI (vm uk8.toNat 0)), AV.int .i64 (IntKind.i64.wrap (IntKind.i64.wrap (16 * z1) * IntKind.i64.wrap (z1 - 1)))]))).tdiv z1)).tdiv (IntKind.i64.wrap (z1 - 1)))).tmod 8 == 5 then true else (IntKind.i64.wrap ((IntKind.i64.wrap ((toI (getV (qa [AV.int .i64 (toI (vm uk8.toNat 0)), AV.int .i64 (IntKind.i64.wrap (IntKind.i64.wrap (16 * z1) * IntKind.i64.wrap (z1 - 1)))]))).tdiv z1)).tdiv (IntKind.i64.wrap (z1 - 1)))).tmod 8 == 7), AV.bool (bif (IntKind.i64.wrap ((IntKind.i64.wrap ((toI (getV (qa [AV.int .i64 (toI (vm uk8.toNat 0)), AV.int .i64 (IntKind.i64.wrap (IntKind.i64.wrap (16 * z1) * IntKind.i64.wrap (z1 - 1)))]))).tdiv z1)).tdiv (IntKind.i64.wrap (z1 - 1)))).tmod 8 == 6 then true else (IntKind.i64.wrap ((IntKind.i64.wrap ((toI (getV (qa [AV.int .i64 (toI (vm uk8.toNat 0)), AV.int .i64 (IntKind.i64.wrap (IntKind.i64.wrap (16 * z1) * IntKind.i64.wrap (z1 - 1)))]))).tdiv z1)).tdiv (IntKind.i64.wrap (z1 - 1)))).tmod 8 == 7), AV.flt .f64 (toF (getV (qj [AV.ro 1 v9 ya v8, AV.int .i64 (IntKind.i64.wrap (3 * uk8))]))), AV.flt .f64 (toF (getV (qj [AV.ro 1 v9 ya v8, AV.int .i64 (IntKind.i64.wrap (IntKind.i64.wrap (3 * uk8) + 1))]))), AV.flt .f64 (toF (getV (qj [AV.ro 1 v9 ya v8, AV.int .i64 (IntKind.i64.wrap (IntKind.i64.wrap (3 * uk8) + 2))])))]])
    else ck (decide ((qa1.length + 1) * 72 < 70368744177664)) <| ck (decide (qa1.length + 1 < 4611686018427387904)) <| kn (IntKind.i64.wrap (uk8 + 1)) (qa1 ++ [[AV.str (toS (getV (qo [AV.int .u8 109, AV.int .i64 uk8]))), AV.int .u8 1, AV.int .i64 ((toI (getV (qa [AV.int .i64 (toI (vm uk8.toNat 0)), AV.int .i64 (IntKind.i64.wrap (IntKind.i64.wrap (16 * z1) * IntKind.i64.wrap (z1 - 1)))]))).tmod z1), AV.int .i64 ((IntKind.i64.wrap (IntKind.i64.wrap ((toI (getV (qa [AV.int .i64 (toI (vm uk8.toNat 0)), AV.int .i64 (IntKind.i64.wrap (IntKind.i64.wrap (16 * z1) * IntKind.i64.wrap (z1 - 1)))]))).tmod z1 + 1) + (IntKind.i64.wrap ((toI (getV (qa [AV.int .i64 (toI (vm uk8.toNat 0)), AV.int .i64 (IntKind.i64.wrap (IntKind.i64.wrap (16 * z1) * IntKind.i64.wrap (z1 - 1)))]))).tdiv z1)).tmod (IntKind.i64.wrap (z1 - 1)))).tmod z1), AV.bool false, AV.bool false, AV.flt .f64 (toF (getV (qj [AV.ro 1 v9 ya v8, AV.int .i64 (IntKind.i64.wrap (3 * uk8))]))), AV.flt .f64 (toF (getV (qj [AV.ro 1 v9 ya v8, AV.int .i64 (IntKind.i64.wrap (IntKind.i64.wrap (3 * uk8) + 1))]))), AV.flt .f64 (some 0)]])
  else kx0 (qai) (z6) (z7) (z5) (pi) (pn) (pl) (pb) (pk) (vm) (v9) (ya) (v8) (yn) (yp) (qb2) (qbu) (qb0) (qbm) (qbl) (qa1)
noncomputable def gmade_Sketch_Plan_l2 (qa qo : Mo) (qn qj : Mo) (fuel : Nat) (kx0 : Int → Nat → Nat → (Ge) → Nat → Nat → (Ge) → Nat → Nat → (Ge) → Nat → Nat → (Ge) → List AV → List (List AV) → List AV → List (List AV) → List AV → List (List AV) → List AV → List (List AV) → Option AV) (z1 qai : Int) (z6 z7 : Nat) (z5 : Ge) (pi pn : Nat) (pl : Ge) (pb pk : Nat) (vm : Ge) (v9 ya : Nat) (v8 : Ge) (yn : List AV) (yp : List (List AV)) (qb2 : List AV) (qbu : List (List AV)) (qb0 : List AV) (qbm : List (List AV)) (qbl : List AV) : Nat → Int → List (List AV) → Option AV
  | 0, _, _ => none
  | n' + 1, uk8, qa1 => gmade_Sketch_Plan_l2_step qa qo qn qj fuel (gmade_Sketch_Plan_l2 qa qo qn qj fuel kx0 z1 qai z6 z7 z5 pi pn pl pb pk vm v9 ya v8 yn yp qb2 qbu qb0 qbm qbl n') kx0 z1 qai z6 z7 z5 pi pn pl pb pk vm v9 ya v8 yn yp qb2 qbu qb0 qbm qbl uk8 qa1
noncomputable def Tmade_Sketch_Plan_2 : TS' := ⟨[(1, TA.ptr 0 0), (2, TA.ptr 1 0), (3, TA.ptr 2 0), (4, TA.i .i64), (8, TA.i .i64)], [TB.box [TA.i .i64, TA.ro 1, TA.ro 1, TA.ro 1, TA.ro 1], TB.box [TA.lst 3 4, TA.lst 4 9], TB.box [TA.lst 5 4, TA.lst 6 9], TB.fl 4, TB.fl 9, TB.fl 4, TB.fl 9], [6, 5, 4, 3]⟩
noncomputable def Fmade_Sketch_Plan_2 (qa qo : Mo) (qn qj : Mo) (fuel : Nat) (ps : List Pay) (K : Ex → St → Option AV) : Option AV := match ps with
  | .i z1 :: .i uk8 :: .i qai :: .n z6 :: .n z7 :: .g z5 :: .n pi :: .n pn :: .g pl :: .n pb :: .n pk :: .g vm :: .n v9 :: .n ya :: .g v8 :: .z yn :: .e yp :: .z qb2 :: .e qbu :: .z qb0 :: .e qbm :: .z qbl :: .e qa1 :: [] => gmade_Sketch_Plan_l2 qa qo qn qj fuel (fun qff qa7 qa5 qbe qdg qdb qdq qdr qdf qc7 qdl qc8 qdh qgf qg0 qms qm9 qga qgm qg1 qgj => K (Ex.exit 4) (Xmade_Sketch_Plan_2_0 qff qa7 qa5 qbe qdg qdb qdq qdr qdf qc7 qdl qc8 qdh qgf qg0 qms qm9 qga qgm qg1 qgj)) z1 qai z6 z7 z5 pi pn pl pb pk vm v9 ya v8 yn yp qb2 qbu qb0 qbm qbl fuel uk8 qa1
  | _ => none
noncomputable def Lmade_Sketch_Plan (qa qo : Mo) (qn qj : Mo) (fuel : Nat) : Lam AV := [(75557863655545579241600, lam Tmade_Sketch_Plan_0 (Fmade_Sketch_Plan_0 qa qo qn qj fuel)), (4835703278458516698792160, lam Tmade_Sketch_Plan_1 (Fmade_Sketch_Plan_1 qa qo qn qj fuel)), (11972621413014756705924586144776087218562882693236480, lam Tmade_Sketch_Plan_2 (Fmade_Sketch_Plan_2 qa qo qn qj fuel))]
noncomputable def Gmade_Sketch_Plan (qa qo : Mo) (qn qj : Mo) : Gam := [(13, smM [RS.one (LK.i .i64)] qa), (16, smM [RS.one LK.s] qo), (17, smM [RS.one (LK.i .i64)] qn), (18, smM [RS.one (LK.f .f64)] qj)]
noncomputable def Cmade_Sketch_Plan (qa qo : Mo) (qn qj : Mo) (fuel : Nat) : CallI AV := callX (Gmade_Sketch_Plan qa qo qn qj) (execFn Pr (Gmade_Sketch_Plan qa qo qn qj) [((6, 5), Lmade_Sketch_Plan qa qo qn qj fuel)] fuel 6)
theorem gmade_Sketch_Plan_l0_eq (qa qo : Mo) (qn qj : Mo) (fuel : Nat) (kn : St → Option AV) (K : Ex → St → Option AV) (qbw qa6 vl : Int) (wh wi : Nat) (wj : Ge) (zx zr : Nat) (zw : Ge) (zy zq : Nat) (zz : Ge) (zu zv : Nat) (zt : Ge) (yu : List AV) (yx : List (List AV)) (qbz : List AV) (qbq : List (List AV)) (z0 : List AV) (zn : List (List AV)) (yd : List AV) (yc : List (List AV)) (qal : ByteArray) (qad qec : Int) (qov qey : Int) (uk7 p7 : Int) :
    exec Pr (Gmade_Sketch_Plan qa qo qn qj) (Lmade_Sketch_Plan qa qo qn qj fuel) (fnNt Pr 5) fuel (Cmade_Sketch_Plan qa qo qn qj fuel) (lp Pr 5 1).1 (lp Pr 5 1).2 (live (lp Pr 5 1).1 (lp Pr 5 1).2 0) (Smade_Sketch_Plan_0 qbw qa6 uk7 vl wh wi wj zx zr zw zy zq zz zu zv zt yu yx qbz qbq z0 zn yd yc qal p7 qad qec) (fun e s => match e with | .normal => kn (headN (live (lp Pr 5 1).1 (lp Pr 5 1).2 0) (writes (lp Pr 5 1).1) (Smade_Sketch_Plan_0 qbw qa6 qov vl wh wi wj zx zr zw zy zq zz zu zv zt yu yx qbz qbq z0 zn yd yc qal qey qad qec) s) | e => K e s) =
    gmade_Sketch_Plan_l0_step qa qo qn qj fuel (fun uk7 p7 => kn (Smade_Sketch_Plan_0 qbw qa6 uk7 vl wh wi wj zx zr zw zy zq zz zu zv zt yu yx qbz qbq z0 zn yd yc qal p7 qad qec)) (fun qhq qob v1 wq wo wp vr vw vo vq vv vx vn vt vp p6 p0 qfg qfc y8 ye q9 q8 qde qdj qdd qj7 => K (Ex.exit 2) (Xmade_Sketch_Plan_0_0 qhq qob v1 wq wo wp vr vw vo vq vv vx vn vt vp p6 p0 qfg qfc y8 ye q9 q8 qde qdj qdd qj7)) qbw qa6 vl wh wi wj zx zr zw zy zq zz zu zv zt yu yx qbz qbq z0 zn yd yc qal qad qec uk7 p7 := by kernel_rfl
theorem gmade_Sketch_Plan_l0_ok (qa qo : Mo) (qn qj : Mo) (fuel : Nat) (K : Ex → St → Option AV) (qbw qa6 vl : Int) (wh wi : Nat) (wj : Ge) (zx zr : Nat) (zw : Ge) (zy zq : Nat) (zz : Ge) (zu zv : Nat) (zt : Ge) (yu : List AV) (yx : List (List AV)) (qbz : List AV) (qbq : List (List AV)) (z0 : List AV) (zn : List (List AV)) (yd : List AV) (yc : List (List AV)) (qal : ByteArray) (qad qec : Int) (qov qey : Int) : ∀ (n' : Nat) (uk7 p7 : Int),
    loopK (exec Pr (Gmade_Sketch_Plan qa qo qn qj) (Lmade_Sketch_Plan qa qo qn qj fuel) (fnNt Pr 5) fuel (Cmade_Sketch_Plan qa qo qn qj fuel) (lp Pr 5 1).1 (lp Pr 5 1).2 (live (lp Pr 5 1).1 (lp Pr 5 1).2 0)) (headN (live (lp Pr 5 1).1 (lp Pr 5 1).2 0) (writes (lp Pr 5 1).1) (Smade_Sketch_Plan_0 qbw qa6 qov vl wh wi wj zx zr zw zy zq zz zu zv zt yu yx qbz qbq z0 zn yd yc qal qey qad qec)) n' (Smade_Sketch_Plan_0 qbw qa6 uk7 vl wh wi wj zx zr zw zy zq zz zu zv zt yu yx qbz qbq z0 zn yd yc qal p7 qad qec) K = gmade_Sketch_Plan_l0 qa qo qn qj fuel (fun qhq qob v1 wq wo wp vr vw vo vq vv vx vn vt vp p6 p0 qfg qfc y8 ye q9 q8 qde qdj qdd qj7 => K (Ex.exit 2) (Xmade_Sketch_Plan_0_0 qhq qob v1 wq wo wp vr vw vo vq vv vx vn vt vp p6 p0 qfg qfc y8 ye q9 q8 qde qdj qdd qj7)) qbw qa6 vl wh wi wj zx zr zw zy zq zz zu zv zt yu yx qbz qbq z0 zn yd yc qal qad qec n' uk7 p7
  | 0, _, _ => rfl
  | n' + 1, uk7, p7 => (gmade_Sketch_Plan_l0_eq qa qo qn qj fuel (fun s => loopK (exec Pr (Gmade_Sketch_Plan qa qo qn qj) (Lmade_Sketch_Plan qa qo qn qj fuel) (fnNt Pr 5) fuel (Cmade_Sketch_Plan qa qo qn qj fuel) (lp Pr 5 1).1 (lp Pr 5 1).2 (live (lp Pr 5 1).1 (lp Pr 5 1).2 0)) (headN (live (lp Pr 5 1).1 (lp Pr 5 1).2 0) (writes (lp Pr 5 1).1) (Smade_Sketch_Plan_0 qbw qa6 qov vl wh wi wj zx zr zw zy zq zz zu zv zt yu yx qbz qbq z0 zn yd yc qal qey qad qec)) n' s K) K qbw qa6 vl wh wi wj zx zr zw zy zq zz zu zv zt yu yx qbz qbq z0 zn yd yc qal qad qec qov qey uk7 p7).trans
    (congrArg (fun kn => gmade_Sketch_Plan_l0_step qa qo qn qj fuel kn (fun qhq qob v1 wq wo wp vr vw vo vq vv vx vn vt vp p6 p0 qfg qfc y8 ye q9 q8 qde qdj qdd qj7 => K (Ex.exit 2) (Xmade_Sketch_Plan_0_0 qhq qob v1 wq wo wp vr vw vo vq vv vx vn vt vp p6 p0 qfg qfc y8 ye q9 q8 qde qdj qdd qj7)) qbw qa6 vl wh wi wj zx zr zw zy zq zz zu zv zt yu yx qbz qbq z0 zn yd yc qal qad qec uk7 p7) (funext fun _ => funext fun _ => gmade_Sketch_Plan_l0_ok qa qo qn qj fuel K qbw qa6 vl wh wi wj zx zr zw zy zq zz zu zv zt yu yx qbz qbq z0 zn yd yc qal qad qec qov qey n' _ _))
theorem gmade_Sketch_Plan_L0 (qa qo : Mo) (qn qj : Mo) (fuel : Nat) : LOk Pr (Gmade_Sketch_Plan qa qo qn qj) (Lmade_Sketch_Plan qa qo qn qj fuel) (fnNt Pr 5) fuel (Cmade_Sketch_Plan qa qo qn qj fuel) (lp Pr 5 1) := by
  refine .of Tmade_Sketch_Plan_0 (Fmade_Sketch_Plan_0 qa qo qn qj fuel) (fun L h => ?_) (fun ps st K r he hr => ?_)
  · have e : (Lmade_Sketch_Plan qa qo qn qj fuel).get (writes (lp Pr 5 1).1) = some (lam Tmade_Sketch_Plan_0 (Fmade_Sketch_Plan_0 qa qo qn qj fuel)) := by kernel_rfl
    exact (Option.some.inj (e.symm.trans h)).symm
  · unfold Fmade_Sketch_Plan_0 at hr
    split at hr
    · obtain rfl := (Option.some.inj he).symm
      exact (gmade_Sketch_Plan_l0_ok qa qo qn qj fuel K _ _ _ _ _ _ _ _ _ _ _ _ _ _ _ _ _ _ _ _ _ _ _ _ _ _ _ _ fuel _ _).trans hr
    · cases hr
theorem gmade_Sketch_Plan_l1_eq (qa qo : Mo) (qn qj : Mo) (fuel : Nat) (kn : St → Option AV) (K : Ex → St → Option AV) (qom qg9 qlf : Int) (qcr qcw : Nat) (qcu : Ge) (qh1 qhk : Nat) (qhy : Ge) (qhv qhb : Nat) (qhx : Ge) (qht qh0 : Nat) (qhu : Ge) (qo1 : List AV) (qg8 : List (List AV)) (qo2 : List AV) (qoh : List (List AV)) (qh2 : List AV) (qez : List (List AV)) (qot : List AV) (qoq : List (List AV)) (un4 ui5 ys : Int) (wl wn : Nat) (wm : Ge) (yh yi : Nat) (yg : Ge) (y0 yz : Nat) (yv : Ge) (yt yw : Nat) (yy : Ge) (h3z : List AV) (h3e : List (List AV)) (h4z : List AV) (h4e : List (List AV)) (h5z : List AV) (h5e : List (List AV)) (h6z : List AV) (h6e : List (List AV)) :
    exec Pr (Gmade_Sketch_Plan qa qo qn qj) (Lmade_Sketch_Plan qa qo qn qj fuel) (fnNt Pr 5) fuel (Cmade_Sketch_Plan qa qo qn qj fuel) (lp Pr 5 0).1 (lp Pr 5 0).2 (live (lp Pr 5 0).1 (lp Pr 5 0).2 0) (Smade_Sketch_Plan_1 un4 ui5 ys wl wn wm yh yi yg y0 yz yv yt yw yy h3z h3e h4z h4e h5z h5e h6z h6e) (fun e s => match e with | .normal => kn (headN (live (lp Pr 5 0).1 (lp Pr 5 0).2 0) (writes (lp Pr 5 0).1) (Smade_Sketch_Plan_1 qom qg9 qlf qcr qcw qcu qh1 qhk qhy qhv qhb qhx qht qh0 qhu qo1 qg8 qo2 qoh qh2 qez qot qoq) s) | e => K e s) =
    gmade_Sketch_Plan_l1_step qa qo qn qj fuel (fun un4 ui5 ys wl wn wm yh yi yg y0 yz yv yt yw yy h3z h3e h4z h4e h5z h5e h6z h6e => kn (Smade_Sketch_Plan_1 un4 ui5 ys wl wn wm yh yi yg y0 yz yv yt yw yy h3z h3e h4z h4e h5z h5e h6z h6e)) (fun qhq v1 wq wo wp vr vw vo vq vv vx vn vt vp p6 p0 qfg qfc y8 ye q9 q8 => K (Ex.exit 0) (Xmade_Sketch_Plan_1_0 qhq v1 wq wo wp vr vw vo vq vv vx vn vt vp p6 p0 qfg qfc y8 ye q9 q8)) un4 ui5 ys wl wn wm yh yi yg y0 yz yv yt yw yy h3z h3e h4z h4e h5z h5e h6z h6e := by kernel_rfl
theorem gmade_Sketch_Plan_l1_ok (qa qo : Mo) (qn qj : Mo) (fuel : Nat) (K : Ex → St → Option AV) (qom qg9 qlf : Int) (qcr qcw : Nat) (qcu : Ge) (qh1 qhk : Nat) (qhy : Ge) (qhv qhb : Nat) (qhx : Ge) (qht qh0 : Nat) (qhu : Ge) (qo1 : List AV) (qg8 : List (List AV)) (qo2 : List AV) (qoh : List (List AV)) (qh2 : List AV) (qez : List (List AV)) (qot : List AV) (qoq : List (List AV)) : ∀ (n' : Nat) (un4 ui5 ys : Int) (wl wn : Nat) (wm : Ge) (yh yi : Nat) (yg : Ge) (y0 yz : Nat) (yv : Ge) (yt yw : Nat) (yy : Ge) (h3z : List AV) (h3e : List (List AV)) (h4z : List AV) (h4e : List (List AV)) (h5z : List AV) (h5e : List (List AV)) (h6z : List AV) (h6e : List (List AV)),
    loopK (exec Pr (Gmade_Sketch_Plan qa qo qn qj) (Lmade_Sketch_Plan qa qo qn qj fuel) (fnNt Pr 5) fuel (Cmade_Sketch_Plan qa qo qn qj fuel) (lp Pr 5 0).1 (lp Pr 5 0).2 (live (lp Pr 5 0).1 (lp Pr 5 0).2 0)) (headN (live (lp Pr 5 0).1 (lp Pr 5 0).2 0) (writes (lp Pr 5 0).1) (Smade_Sketch_Plan_1 qom qg9 qlf qcr qcw qcu qh1 qhk qhy qhv qhb qhx qht qh0 qhu qo1 qg8 qo2 qoh qh2 qez qot qoq)) n' (Smade_Sketch_Plan_1 un4 ui5 ys wl wn wm yh yi yg y0 yz yv yt yw yy h3z h3e h4z h4e h5z h5e h6z h6e) K = gmade_Sketch_Plan_l1 qa qo qn qj fuel (fun qhq v1 wq wo wp vr vw vo vq vv vx vn vt vp p6 p0 qfg qfc y8 ye q9 q8 => K (Ex.exit 0) (Xmade_Sketch_Plan_1_0 qhq v1 wq wo wp vr vw vo vq vv vx vn vt vp p6 p0 qfg qfc y8 ye q9 q8)) n' un4 ui5 ys wl wn wm yh yi yg y0 yz yv yt yw yy h3z h3e h4z h4e h5z h5e h6z h6e
  | 0, _, _, _, _, _, _, _, _, _, _, _, _, _, _, _, _, _, _, _, _, _, _, _ => rfl
  | n' + 1, un4, ui5, ys, wl, wn, wm, yh, yi, yg, y0, yz, yv, yt, yw, yy, h3z, h3e, h4z, h4e, h5z, h5e, h6z, h6e => (gmade_Sketch_Plan_l1_eq qa qo qn qj fuel (fun s => loopK (exec Pr (Gmade_Sketch_Plan qa qo qn qj) (Lmade_Sketch_Plan qa qo qn qj fuel) (fnNt Pr 5) fuel (Cmade_Sketch_Plan qa qo qn qj fuel) (lp Pr 5 0).1 (lp Pr 5 0).2 (live (lp Pr 5 0).1 (lp Pr 5 0).2 0)) (headN (live (lp Pr 5 0).1 (lp Pr 5 0).2 0) (writes (lp Pr 5 0).1) (Smade_Sketch_Plan_1 qom qg9 qlf qcr qcw qcu qh1 qhk qhy qhv qhb qhx qht qh0 qhu qo1 qg8 qo2 qoh qh2 qez qot qoq)) n' s K) K qom qg9 qlf qcr qcw qcu qh1 qhk qhy qhv qhb qhx qht qh0 qhu qo1 qg8 qo2 qoh qh2 qez qot qoq un4 ui5 ys wl wn wm yh yi yg y0 yz yv yt yw yy h3z h3e h4z h4e h5z h5e h6z h6e).trans
    (congrArg (fun kn => gmade_Sketch_Plan_l1_step qa qo qn qj fuel kn (fun qhq v1 wq wo wp vr vw vo vq vv vx vn vt vp p6 p0 qfg qfc y8 ye q9 q8 => K (Ex.exit 0) (Xmade_Sketch_Plan_1_0 qhq v1 wq wo wp vr vw vo vq vv vx vn vt vp p6 p0 qfg qfc y8 ye q9 q8)) un4 ui5 ys wl wn wm yh yi yg y0 yz yv yt yw yy h3z h3e h4z h4e h5z h5e h6z h6e) (funext fun _ => funext fun _ => funext fun _ => funext fun _ => funext fun _ => funext fun _ => funext fun _ => funext fun _ => funext fun _ => funext fun _ => funext fun _ => funext fun _ => funext fun _ => funext fun _ => funext fun _ => funext fun _ => funext fun _ => funext fun _ => funext fun _ => funext fun _ => funext fun _ => funext fun _ => funext fun _ => gmade_Sketch_Plan_l1_ok qa qo qn qj fuel K qom qg9 qlf qcr qcw qcu qh1 qhk qhy qhv qhb qhx qht qh0 qhu qo1 qg8 qo2 qoh qh2 qez qot qoq n' _ _ _ _ _ _ _ _ _ _ _ _ _ _ _ _ _ _ _ _ _ _ _))
theorem gmade_Sketch_Plan_L1 (qa qo : Mo) (qn qj : Mo) (fuel : Nat) : LOk Pr (Gmade_Sketch_Plan qa qo qn qj) (Lmade_Sketch_Plan qa qo qn qj fuel) (fnNt Pr 5) fuel (Cmade_Sketch_Plan qa qo qn qj fuel) (lp Pr 5 0) := by
  refine .of Tmade_Sketch_Plan_1 (Fmade_Sketch_Plan_1 qa qo qn qj fuel) (fun L h => ?_) (fun ps st K r he hr => ?_)
  · have e : (Lmade_Sketch_Plan qa qo qn qj fuel).get (writes (lp Pr 5 0).1) = some (lam Tmade_Sketch_Plan_1 (Fmade_Sketch_Plan_1 qa qo qn qj fuel)) := by kernel_rfl
    exact (Option.some.inj (e.symm.trans h)).symm
  · unfold Fmade_Sketch_Plan_1 at hr
    split at hr
    · obtain rfl := (Option.some.inj he).symm
      exact (gmade_Sketch_Plan_l1_ok qa qo qn qj fuel K _ _ _ _ _ _ _ _ _ _ _ _ _ _ _ _ _ _ _ _ _ _ _ fuel _ _ _ _ _ _ _ _ _ _ _ _ _ _ _ _ _ _ _ _ _ _ _).trans hr
    · cases hr
theorem gmade_Sketch_Plan_l2_eq (qa qo : Mo) (qn qj : Mo) (fuel : Nat) (kn : St → Option AV) (K : Ex → St → Option AV) (z1 qai : Int) (z6 z7 : Nat) (z5 : Ge) (pi pn : Nat) (pl : Ge) (pb pk : Nat) (vm : Ge) (v9 ya : Nat) (v8 : Ge) (yn : List AV) (yp : List (List AV)) (qb2 : List AV) (qbu : List (List AV)) (qb0 : List AV) (qbm : List (List AV)) (qbl : List AV) (qoj : Int) (qhf : List (List AV)) (uk8 : Int) (qa1 : List (List AV)) :
    exec Pr (Gmade_Sketch_Plan qa qo qn qj) (Lmade_Sketch_Plan qa qo qn qj fuel) (fnNt Pr 5) fuel (Cmade_Sketch_Plan qa qo qn qj fuel) (lp Pr 5 2).1 (lp Pr 5 2).2 (live (lp Pr 5 2).1 (lp Pr 5 2).2 0) (Smade_Sketch_Plan_2 z1 uk8 qai z6 z7 z5 pi pn pl pb pk vm v9 ya v8 yn yp qb2 qbu qb0 qbm qbl qa1) (fun e s => match e with | .normal => kn (headN (live (lp Pr 5 2).1 (lp Pr 5 2).2 0) (writes (lp Pr 5 2).1) (Smade_Sketch_Plan_2 z1 qoj qai z6 z7 z5 pi pn pl pb pk vm v9 ya v8 yn yp qb2 qbu qb0 qbm qbl qhf) s) | e => K e s) =
    gmade_Sketch_Plan_l2_step qa qo qn qj fuel (fun uk8 qa1 => kn (Smade_Sketch_Plan_2 z1 uk8 qai z6 z7 z5 pi pn pl pb pk vm v9 ya v8 yn yp qb2 qbu qb0 qbm qbl qa1)) (fun v1 wq wo wp vr vw vo vq vv vx vn vt vp p6 p0 qfg qfc y8 ye q9 q8 => K (Ex.exit 4) (Xmade_Sketch_Plan_2_0 v1 wq wo wp vr vw vo vq vv vx vn vt vp p6 p0 qfg qfc y8 ye q9 q8)) z1 qai z6 z7 z5 pi pn pl pb pk vm v9 ya v8 yn yp qb2 qbu qb0 qbm qbl uk8 qa1 := by kernel_rfl
theorem gmade_Sketch_Plan_l2_ok (qa qo : Mo) (qn qj : Mo) (fuel : Nat) (K : Ex → St → Option AV) (z1 qai : Int) (z6 z7 : Nat) (z5 : Ge) (pi pn : Nat) (pl : Ge) (pb pk : Nat) (vm : Ge) (v9 ya : Nat) (v8 : Ge) (yn : List AV) (yp : List (List AV)) (qb2 : List AV) (qbu : List (List AV)) (qb0 : List AV) (qbm : List (List AV)) (qbl : List AV) (qoj : Int) (qhf : List (List AV)) : ∀ (n' : Nat) (uk8 : Int) (qa1 : List (List AV)),
    loopK (exec Pr (Gmade_Sketch_Plan qa qo qn qj) (Lmade_Sketch_Plan qa qo qn qj fuel) (fnNt Pr 5) fuel (Cmade_Sketch_Plan qa qo qn qj fuel) (lp Pr 5 2).1 (lp Pr 5 2).2 (live (lp Pr 5 2).1 (lp Pr 5 2).2 0)) (headN (live (lp Pr 5 2).1 (lp Pr 5 2).2 0) (writes (lp Pr 5 2).1) (Smade_Sketch_Plan_2 z1 qoj qai z6 z7 z5 pi pn pl pb pk vm v9 ya v8 yn yp qb2 qbu qb0 qbm qbl qhf)) n' (Smade_Sketch_Plan_2 z1 uk8 qai z6 z7 z5 pi pn pl pb pk vm v9 ya v8 yn yp qb2 qbu qb0 qbm qbl qa1) K = gmade_Sketch_Plan_l2 qa qo qn qj fuel (fun v1 wq wo wp vr vw vo vq vv vx vn vt vp p6 p0 qfg qfc y8 ye q9 q8 => K (Ex.exit 4) (Xmade_Sketch_Plan_2_0 v1 wq wo wp vr vw vo vq vv vx vn vt vp p6 p0 qfg qfc y8 ye q9 q8)) z1 qai z6 z7 z5 pi pn pl pb pk vm v9 ya v8 yn yp qb2 qbu qb0 qbm qbl n' uk8 qa1
  | 0, _, _ => rfl
  | n' + 1, uk8, qa1 => (gmade_Sketch_Plan_l2_eq qa qo qn qj fuel (fun s => loopK (exec Pr (Gmade_Sketch_Plan qa qo qn qj) (Lmade_Sketch_Plan qa qo qn qj fuel) (fnNt Pr 5) fuel (Cmade_Sketch_Plan qa qo qn qj fuel) (lp Pr 5 2).1 (lp Pr 5 2).2 (live (lp Pr 5 2).1 (lp Pr 5 2).2 0)) (headN (live (lp Pr 5 2).1 (lp Pr 5 2).2 0) (writes (lp Pr 5 2).1) (Smade_Sketch_Plan_2 z1 qoj qai z6 z7 z5 pi pn pl pb pk vm v9 ya v8 yn yp qb2 qbu qb0 qbm qbl qhf)) n' s K) K z1 qai z6 z7 z5 pi pn pl pb pk vm v9 ya v8 yn yp qb2 qbu qb0 qbm qbl qoj qhf uk8 qa1).trans
    (congrArg (fun kn => gmade_Sketch_Plan_l2_step qa qo qn qj fuel kn (fun v1 wq wo wp vr vw vo vq vv vx vn vt vp p6 p0 qfg qfc y8 ye q9 q8 => K (Ex.exit 4) (Xmade_Sketch_Plan_2_0 v1 wq wo wp vr vw vo vq vv vx vn vt vp p6 p0 qfg qfc y8 ye q9 q8)) z1 qai z6 z7 z5 pi pn pl pb pk vm v9 ya v8 yn yp qb2 qbu qb0 qbm qbl uk8 qa1) (funext fun _ => funext fun _ => gmade_Sketch_Plan_l2_ok qa qo qn qj fuel K z1 qai z6 z7 z5 pi pn pl pb pk vm v9 ya v8 yn yp qb2 qbu qb0 qbm qbl qoj qhf n' _ _))
theorem gmade_Sketch_Plan_L2 (qa qo : Mo) (qn qj : Mo) (fuel : Nat) : LOk Pr (Gmade_Sketch_Plan qa qo qn qj) (Lmade_Sketch_Plan qa qo qn qj fuel) (fnNt Pr 5) fuel (Cmade_Sketch_Plan qa qo qn qj fuel) (lp Pr 5 2) := by
  refine .of Tmade_Sketch_Plan_2 (Fmade_Sketch_Plan_2 qa qo qn qj fuel) (fun L h => ?_) (fun ps st K r he hr => ?_)
  · have e : (Lmade_Sketch_Plan qa qo qn qj fuel).get (writes (lp Pr 5 2).1) = some (lam Tmade_Sketch_Plan_2 (Fmade_Sketch_Plan_2 qa qo qn qj fuel)) := by kernel_rfl
    exact (Option.some.inj (e.symm.trans h)).symm
  · unfold Fmade_Sketch_Plan_2 at hr
    split at hr
    · obtain rfl := (Option.some.inj he).symm
      exact (gmade_Sketch_Plan_l2_ok qa qo qn qj fuel K _ _ _ _ _ _ _ _ _ _ _ _ _ _ _ _ _ _ _ _ _ _ _ fuel _ _).trans hr
    · cases hr
noncomputable def gmade_Sketch_Plan (qa qo : Mo) (qn qj : Mo) (fuel : Nat) (pp : Int) (qb7 qcc : Nat) (qci : Ge) (qca qcj : Nat) (qcl : Ge) (qch qcm : Nat) (qb9 : Ge) (qce qcg : Nat) (qb8 : Ge) : Option AV :=
  ck (okM [RS.one (LK.i .i64)] (qa [AV.int .i64 pp, AV.int .i64 3])) <| gmade_Sketch_Plan_l1 qa qo qn qj fuel
    (fun (qpo qc4 : Int) (qkh qk0 : Nat) (qjl : Ge) (qpd qpf : Nat) (qpe : Ge) (qo8 qpc : Nat) (qo6 : Ge) (qpi qo9 : Nat) (qpb : Ge) (qg4 : List AV) (qgu : List (List AV)) (qpk : List AV) (qpl : List (List AV)) (qml : List AV) (qi5 : List (List AV)) (qpr : List AV) (qpm : List (List AV)) => gmade_Sketch_Plan_l2 qa qo qn qj fuel
        (fun (_ : Int) (_ _ : Nat) (_ : Ge) (_ _ : Nat) (_ : Ge) (_ _ : Nat) (_ : Ge) (_ _ : Nat) (_ : Ge) (_ : List AV) (_ : List (List AV)) (_ : List AV) (_ : List (List AV)) (qh9 : List AV) (qg6 : List (List AV)) (qpp : List AV) (qn6 : List (List AV)) => some (AV.agg [AV.ro 4 qg6.length qg6.length fun (i j : Nat) => (qg6.getD i qh9).getD j AV.dead, AV.ro 9 qn6.length qn6.length fun (i j : Nat) => (qn6.getD i qpp).getD j AV.dead]))
        (qpo)
        (qc4)
        (qkh)
        (qk0)
        (qjl)
        (qpd)
        (qpf)
        (qpe)
        (qo8)
        (qpc)
        (qo6)
        (qpi)
        (qo9)
        (qpb)
        (qg4)
        (qgu)
        (qpk)
        (qpl)
        (qml)
        (qi5)
        (qpr) fuel (0) (qpm)) fuel (IntKind.i64.wrap (2 + toI (getV (qa [AV.int .i64 pp, AV.int .i64 3])))) (0) (pp) (qb7) (qcc) (qci) (qca) (qcj) (qcl) (qch) (qcm) (qb9) (qce) (qcg) (qb8) ([AV.str { data := #[] }, AV.int .i32 0, AV.int .i32 0, AV.int .u8 0]) ([]) ([AV.str { data := #[] }, AV.int .u8 0, AV.int .i64 0, AV.int .i64 0, AV.bool false, AV.bool false, AV.flt .f64 (some 0), AV.flt .f64 (some 0), AV.flt .f64 (some 0)]) ([]) ([AV.str { data := #[] }, AV.int .i32 0, AV.int .i32 0, AV.int .u8 0]) ([]) ([AV.str { data := #[] }, AV.int .u8 0, AV.int .i64 0, AV.int .i64 0, AV.bool false, AV.bool false, AV.flt .f64 (some 0), AV.flt .f64 (some 0), AV.flt .f64 (some 0)]) ([])
theorem gmade_Sketch_Plan_run (qa qo : Mo) (qn qj : Mo) (fuel : Nat) (pp : Int) (qb7 qcc : Nat) (qci : Ge) (qca qcj : Nat) (qcl : Ge) (qch qcm : Nat) (qb9 : Ge) (qce qcg : Nat) (qb8 : Ge) : run Pr (Gmade_Sketch_Plan qa qo qn qj) [((6, 5), Lmade_Sketch_Plan qa qo qn qj fuel)] fuel 7 5 [AV.agg [AV.int .i64 pp, AV.ro 1 qb7 qcc qci, AV.ro 1 qca qcj qcl, AV.ro 1 qch qcm qb9, AV.ro 1 qce qcg qb8]] = gmade_Sketch_Plan qa qo qn qj fuel pp qb7 qcc qci qca qcj qcl qch qcm qb9 qce qcg qb8 := by kernel_rfl
noncomputable def mmade_Sketch_Plan (qa qo : Mo) (qn qj : Mo) (fuel : Nat) (xs : List AV) : Option AV := match xs with
  | [AV.agg [AV.int .i64 pp, AV.ro 1 qb7 qcc qci, AV.ro 1 qca qcj qcl, AV.ro 1 qch qcm qb9, AV.ro 1 qce qcg qb8]] => gmade_Sketch_Plan qa qo qn qj fuel pp qb7 qcc qci qca qcj qcl qch qcm qb9 qce qcg qb8
  | _ => none
abbrev Rmade_Sketch_Plan : List RS := [RS.agg [LK.l (nat_lit 4), LK.l (nat_lit 9)]]
theorem gmade_Sketch_Plan_sm (qa qo : Mo) (qn qj : Mo) (fuel : Nat) (hΓ : GamOk Pr (Gmade_Sketch_Plan qa qo qn qj)) (hP : NamesOk Pr) : SmOk Pr 5 (smM Rmade_Sketch_Plan (mmade_Sketch_Plan qa qo qn qj fuel)) := by
  refine smM_ok (fuel := fuel) hΓ hP (LamOk.of 6 5 (Lmade_Sketch_Plan qa qo qn qj fuel) 3 (by kernel_rfl) (fun i hi => ?_)) 7 5 Rmade_Sketch_Plan _ (fun xs v h => ?_)
  · match i, hi with
    | 1, _ => exact gmade_Sketch_Plan_L0 qa qo qn qj fuel
    | 0, _ => exact gmade_Sketch_Plan_L1 qa qo qn qj fuel
    | 2, _ => exact gmade_Sketch_Plan_L2 qa qo qn qj fuel
    | i + 3, hi => exact absurd hi (by omega)
  · unfold mmade_Sketch_Plan at h
    split at h
    · exact (gmade_Sketch_Plan_run qa qo qn qj fuel _ _ _ _ _ _ _ _ _ _ _ _ _).trans h
    · cases h
noncomputable def Sjoints_named_0 (h0s : ByteArray) (h0p : Nat) : St := { env := [(13, AV.ptr 0 0)], h := [Blk.it h0s h0p], kd := [] }
noncomputable def Xjoints_named_0_0 (po : Bool) (qmv : ByteArray) (qn0 : Nat) : St := { env := [(2, AV.bool po)], h := [Blk.it qmv qn0], kd := [] }
noncomputable def Xjoints_named_0_1 (qof : ByteArray) (qm1 : Nat) : St := { env := [], h := [Blk.it qof qm1], kd := [] }
noncomputable def gjoints_named_l0_step (fuel : Nat) (kn : Nat → Option AV) (kx0 : Bool → ByteArray → Nat → Option AV) (kx1 : ByteArray → Nat → Option AV) (h0s : ByteArray) (h0p : Nat) : Option AV :=
  bif h0p.blt h0s.size then bif bif decide ((↑(Utf8.decode h0s h0p).fst : Int) ≥ 97) then decide ((↑(Utf8.decode h0s h0p).fst : Int) ≤ 122) else false then kn (h0p + (Utf8.decode h0s h0p).snd)
    else bif bif bif decide ((↑(Utf8.decode h0s h0p).fst : Int) ≥ 48) then decide ((↑(Utf8.decode h0s h0p).fst : Int) ≤ 57) else false then decide ((↑h0p : Int) > 0) else false then kn (h0p + (Utf8.decode h0s h0p).snd)
    else kx0 (false) (h0s) (h0p + (Utf8.decode h0s h0p).snd)
  else kx1 (h0s) (h0p)
noncomputable def gjoints_named_l0 (fuel : Nat) (kx0 : Bool → ByteArray → Nat → Option AV) (kx1 : ByteArray → Nat → Option AV) (h0s : ByteArray) : Nat → Nat → Option AV
  | 0, _ => none
  | n' + 1, h0p => gjoints_named_l0_step fuel (gjoints_named_l0 fuel kx0 kx1 h0s n') kx0 kx1 h0s h0p
noncomputable def Tjoints_named_0 : TS' := ⟨[(13, TA.ptr 0 0)], [TB.it], []⟩
noncomputable def Fjoints_named_0 (fuel : Nat) (ps : List Pay) (K : Ex → St → Option AV) : Option AV := match ps with
  | .s h0s :: .n h0p :: [] => gjoints_named_l0 fuel (fun po qmv qn0 => K (Ex.ret) (Xjoints_named_0_0 po qmv qn0)) (fun qof qm1 => K (Ex.exit 0) (Xjoints_named_0_1 qof qm1)) h0s fuel h0p
  | _ => none
noncomputable def Ljoints_named (fuel : Nat) : Lam AV := [(68719460380, lam Tjoints_named_0 (Fjoints_named_0 fuel))]
noncomputable def Gjoints_named : Gam := []
noncomputable def Cjoints_named (fuel : Nat) : CallI AV := callX (Gjoints_named) (execFn Pr (Gjoints_named) [((6, 56), Ljoints_named fuel)] fuel 6)
theorem gjoints_named_l0_eq (fuel : Nat) (kn : St → Option AV) (K : Ex → St → Option AV) (h0s : ByteArray) (qor h0p : Nat) :
    exec Pr (Gjoints_named) (Ljoints_named fuel) (fnNt Pr 56) fuel (Cjoints_named fuel) (lp Pr 56 0).1 (lp Pr 56 0).2 (live (lp Pr 56 0).1 (lp Pr 56 0).2 0) (Sjoints_named_0 h0s h0p) (fun e s => match e with | .normal => kn (headN (live (lp Pr 56 0).1 (lp Pr 56 0).2 0) (writes (lp Pr 56 0).1) (Sjoints_named_0 h0s qor) s) | e => K e s) =
    gjoints_named_l0_step fuel (fun h0p => kn (Sjoints_named_0 h0s h0p)) (fun xu2 xh0s xh0p => K (Ex.ret) (Xjoints_named_0_0 xu2 xh0s xh0p)) (fun xh0s xh0p => K (Ex.exit 0) (Xjoints_named_0_1 xh0s xh0p)) h0s h0p := by kernel_rfl
theorem gjoints_named_l0_ok (fuel : Nat) (K : Ex → St → Option AV) (h0s : ByteArray) (qor : Nat) : ∀ (n' h0p : Nat),
    loopK (exec Pr (Gjoints_named) (Ljoints_named fuel) (fnNt Pr 56) fuel (Cjoints_named fuel) (lp Pr 56 0).1 (lp Pr 56 0).2 (live (lp Pr 56 0).1 (lp Pr 56 0).2 0)) (headN (live (lp Pr 56 0).1 (lp Pr 56 0).2 0) (writes (lp Pr 56 0).1) (Sjoints_named_0 h0s qor)) n' (Sjoints_named_0 h0s h0p) K = gjoints_named_l0 fuel (fun xu2 xh0s xh0p => K (Ex.ret) (Xjoints_named_0_0 xu2 xh0s xh0p)) (fun xh0s xh0p => K (Ex.exit 0) (Xjoints_named_0_1 xh0s xh0p)) h0s n' h0p
  | 0, _ => rfl
  | n' + 1, h0p => (gjoints_named_l0_eq fuel (fun s => loopK (exec Pr (Gjoints_named) (Ljoints_named fuel) (fnNt Pr 56) fuel (Cjoints_named fuel) (lp Pr 56 0).1 (lp Pr 56 0).2 (live (lp Pr 56 0).1 (lp Pr 56 0).2 0)) (headN (live (lp Pr 56 0).1 (lp Pr 56 0).2 0) (writes (lp Pr 56 0).1) (Sjoints_named_0 h0s qor)) n' s K) K h0s qor h0p).trans
    (congrArg (fun kn => gjoints_named_l0_step fuel kn (fun xu2 xh0s xh0p => K (Ex.ret) (Xjoints_named_0_0 xu2 xh0s xh0p)) (fun xh0s xh0p => K (Ex.exit 0) (Xjoints_named_0_1 xh0s xh0p)) h0s h0p) (funext fun _ => gjoints_named_l0_ok fuel K h0s qor n' _))
theorem gjoints_named_L0 (fuel : Nat) : LOk Pr (Gjoints_named) (Ljoints_named fuel) (fnNt Pr 56) fuel (Cjoints_named fuel) (lp Pr 56 0) := by
  refine .of Tjoints_named_0 (Fjoints_named_0 fuel) (fun L h => ?_) (fun ps st K r he hr => ?_)
  · have e : (Ljoints_named fuel).get (writes (lp Pr 56 0).1) = some (lam Tjoints_named_0 (Fjoints_named_0 fuel)) := by kernel_rfl
    exact (Option.some.inj (e.symm.trans h)).symm
  · unfold Fjoints_named_0 at hr
    split at hr
    · obtain rfl := (Option.some.inj he).symm
      exact (gjoints_named_l0_ok fuel K _ _ fuel _).trans hr
    · cases hr
noncomputable def gjoints_named (fuel : Nat) (us0 : ByteArray) : Option AV :=
  bif bif strEq us0 { data := #[] } then true else decide ((↑us0.size : Int) > 8) then some (AV.bool false)
  else gjoints_named_l0 fuel
    (fun (xu2 : Bool) (_ : ByteArray) (_ : Nat) => some (AV.bool xu2))
    (fun (_ : ByteArray) (_ : Nat) => some (AV.bool true))
    (us0) fuel (0)
theorem gjoints_named_run (fuel : Nat) (us0 : ByteArray) : run Pr (Gjoints_named) [((6, 56), Ljoints_named fuel)] fuel 7 56 [AV.str us0] = gjoints_named fuel us0 := by kernel_rfl
noncomputable def mjoints_named (fuel : Nat) (xs : List AV) : Option AV := match xs with
  | [AV.str us0] => gjoints_named fuel us0
  | _ => none
abbrev Rjoints_named : List RS := [RS.one LK.b]
theorem gjoints_named_sm (fuel : Nat) (hΓ : GamOk Pr (Gjoints_named)) (hP : NamesOk Pr) : SmOk Pr 56 (smM Rjoints_named (mjoints_named fuel)) := by
  refine smM_ok (fuel := fuel) hΓ hP (LamOk.of 6 56 (Ljoints_named fuel) 1 (by kernel_rfl) (fun i hi => ?_)) 7 56 Rjoints_named _ (fun xs v h => ?_)
  · match i, hi with
    | 0, _ => exact gjoints_named_L0 fuel
    | i + 1, hi => exact absurd hi (by omega)
  · unfold mjoints_named at h
    split at h
    · exact (gjoints_named_run fuel _).trans h
    · cases h
noncomputable def Sjoints_near_0 (u5n u5r : Nat) (u5g : Ge) (u6 u7 : Int) : St := { env := [(5, AV.ro 1 u5n u5r u5g), (6, AV.int .i64 u6), (7, AV.int .i64 u7)], h := [], kd := [] }
noncomputable def Xjoints_near_0_0 (po : Bool) : St := { env := [(2, AV.bool po)], h := [], kd := [] }
noncomputable def Xjoints_near_0_1 : St := { env := [], h := [], kd := [] }
noncomputable def gjoints_near_l0_step (fuel : Nat) (kn : Int → Option AV) (kx0 : Bool → Option AV) (kx1 : Option AV) (u5n u5r : Nat) (u5g : Ge) (u6 u7 : Int) : Option AV :=
  bif decide (u7 < u6) then ck (decide (0 ≤ u7)) <| ck (decide (u7 < (↑u5n : Int))) <| ck (fitK (LK.i .i32) (u5g u7.toNat 0)) <| bif bif decide (toI (u5g u7.toNat 0) < (-1048576)) then true else decide (toI (u5g u7.toNat 0) > 1048576) then kx0 (false)
    else kn (IntKind.i64.wrap (u7 + 1))
  else kx1
noncomputable def gjoints_near_l0 (fuel : Nat) (kx0 : Bool → Option AV) (kx1 : Option AV) (u5n u5r : Nat) (u5g : Ge) (u6 : Int) : Nat → Int → Option AV
  | 0, _ => none
  | n' + 1, u7 => gjoints_near_l0_step fuel (gjoints_near_l0 fuel kx0 kx1 u5n u5r u5g u6 n') kx0 kx1 u5n u5r u5g u6 u7
noncomputable def Tjoints_near_0 : TS' := ⟨[(5, TA.ro 1), (6, TA.i .i64), (7, TA.i .i64)], [], []⟩
noncomputable def Fjoints_near_0 (fuel : Nat) (ps : List Pay) (K : Ex → St → Option AV) : Option AV := match ps with
  | .n u5n :: .n u5r :: .g u5g :: .i u6 :: .i u7 :: [] => gjoints_near_l0 fuel (fun po => K (Ex.ret) (Xjoints_near_0_0 po)) (K (Ex.exit 0) Xjoints_near_0_1) u5n u5r u5g u6 fuel u7
  | _ => none
noncomputable def Ljoints_near (fuel : Nat) : Lam AV := [(262036, lam Tjoints_near_0 (Fjoints_near_0 fuel))]
noncomputable def Gjoints_near : Gam := []
noncomputable def Cjoints_near (fuel : Nat) : CallI AV := callX (Gjoints_near) (execFn Pr (Gjoints_near) [((6, 57), Ljoints_near fuel)] fuel 6)
theorem gjoints_near_l0_eq (fuel : Nat) (kn : St → Option AV) (K : Ex → St → Option AV) (u5n u5r : Nat) (u5g : Ge) (u6 u70 u7 : Int) :
    exec Pr (Gjoints_near) (Ljoints_near fuel) (fnNt Pr 57) fuel (Cjoints_near fuel) (lp Pr 57 0).1 (lp Pr 57 0).2 (live (lp Pr 57 0).1 (lp Pr 57 0).2 0) (Sjoints_near_0 u5n u5r u5g u6 u7) (fun e s => match e with | .normal => kn (headN (live (lp Pr 57 0).1 (lp Pr 57 0).2 0) (writes (lp Pr 57 0).1) (Sjoints_near_0 u5n u5r u5g u6 u70) s) | e => K e s) =
    gjoints_near_l0_step fuel (fun u7 => kn (Sjoints_near_0 u5n u5r u5g u6 u7)) (fun xu2 => K (Ex.ret) (Xjoints_near_0_0 xu2)) (K (Ex.exit 0) Xjoints_near_0_1) u5n u5r u5g u6 u7 := by kernel_rfl
theorem gjoints_near_l0_ok (fuel : Nat) (K : Ex → St → Option AV) (u5n u5r : Nat) (u5g : Ge) (u6 u70 : Int) : ∀ (n' : Nat) (u7 : Int),
    loopK (exec Pr (Gjoints_near) (Ljoints_near fuel) (fnNt Pr 57) fuel (Cjoints_near fuel) (lp Pr 57 0).1 (lp Pr 57 0).2 (live (lp Pr 57 0).1 (lp Pr 57 0).2 0)) (headN (live (lp Pr 57 0).1 (lp Pr 57 0).2 0) (writes (lp Pr 57 0).1) (Sjoints_near_0 u5n u5r u5g u6 u70)) n' (Sjoints_near_0 u5n u5r u5g u6 u7) K = gjoints_near_l0 fuel (fun xu2 => K (Ex.ret) (Xjoints_near_0_0 xu2)) (K (Ex.exit 0) Xjoints_near_0_1) u5n u5r u5g u6 n' u7
  | 0, _ => rfl
  | n' + 1, u7 => (gjoints_near_l0_eq fuel (fun s => loopK (exec Pr (Gjoints_near) (Ljoints_near fuel) (fnNt Pr 57) fuel (Cjoints_near fuel) (lp Pr 57 0).1 (lp Pr 57 0).2 (live (lp Pr 57 0).1 (lp Pr 57 0).2 0)) (headN (live (lp Pr 57 0).1 (lp Pr 57 0).2 0) (writes (lp Pr 57 0).1) (Sjoints_near_0 u5n u5r u5g u6 u70)) n' s K) K u5n u5r u5g u6 u70 u7).trans
    (congrArg (fun kn => gjoints_near_l0_step fuel kn (fun xu2 => K (Ex.ret) (Xjoints_near_0_0 xu2)) (K (Ex.exit 0) Xjoints_near_0_1) u5n u5r u5g u6 u7) (funext fun _ => gjoints_near_l0_ok fuel K u5n u5r u5g u6 u70 n' _))
theorem gjoints_near_L0 (fuel : Nat) : LOk Pr (Gjoints_near) (Ljoints_near fuel) (fnNt Pr 57) fuel (Cjoints_near fuel) (lp Pr 57 0) := by
  refine .of Tjoints_near_0 (Fjoints_near_0 fuel) (fun L h => ?_) (fun ps st K r he hr => ?_)
  · have e : (Ljoints_near fuel).get (writes (lp Pr 57 0).1) = some (lam Tjoints_near_0 (Fjoints_near_0 fuel)) := by kernel_rfl
    exact (Option.some.inj (e.symm.trans h)).symm
  · unfold Fjoints_near_0 at hr
    split at hr
    · obtain rfl := (Option.some.inj he).symm
      exact (gjoints_near_l0_ok fuel K _ _ _ _ _ fuel _).trans hr
    · cases hr
noncomputable def gjoints_near (fuel vf yo : Nat) (v4 : Ge) : Option AV :=
  gjoints_near_l0 fuel
    (fun (xu2 : Bool) => some (AV.bool xu2))
    (some (AV.bool true))
    (vf)
    (yo)
    (v4)
    ((↑vf : Int)) fuel (0)
theorem gjoints_near_run (fuel vf yo : Nat) (v4 : Ge) : run Pr (Gjoints_near) [((6, 57), Ljoints_near fuel)] fuel 7 57 [AV.ro 1 vf yo v4] = gjoints_near fuel vf yo v4 := by kernel_rfl
noncomputable def mjoints_near (fuel : Nat) (xs : List AV) : Option AV := match xs with
  | [AV.ro 1 vf yo v4] => gjoints_near fuel vf yo v4
  | _ => none
abbrev Rjoints_near : List RS := [RS.one LK.b]
theorem gjoints_near_sm (fuel : Nat) (hΓ : GamOk Pr (Gjoints_near)) (hP : NamesOk Pr) : SmOk Pr 57 (smM Rjoints_near (mjoints_near fuel)) := by
  refine smM_ok (fuel := fuel) hΓ hP (LamOk.of 6 57 (Ljoints_near fuel) 1 (by kernel_rfl) (fun i hi => ?_)) 7 57 Rjoints_near _ (fun xs v h => ?_)
  · match i, hi with
    | 0, _ => exact gjoints_near_L0 fuel
    | i + 1, hi => exact absurd hi (by omega)
  · unfold mjoints_near at h
    split at h
    · exact (gjoints_near_run fuel _ _ _).trans h
    · cases h
noncomputable def Sjoints_Check_0 (qak qau : Nat) (zj : Ge) (u18 u19 : Int) (h0m h1m : List (AV × AV)) : St := { env := [(4, AV.mp 0), (5, AV.mp 1), (17, AV.ro 4 qak qau zj), (18, AV.int .i64 u18), (19, AV.int .i64 u19)], h := [Blk.mp h0m, Blk.mp h1m], kd := [] }
noncomputable def Xjoints_Check_0_0 (po qkj : Int) (qn8 qnr : List (AV × AV)) (qck : ByteArray) (qb6 qcf qcb : Int) : St := { env := [(2, AV.int .i64 po), (3, AV.int .i64 qkj)], h := [Blk.mp qn8, Blk.mp qnr, Blk.box [AV.str qck, AV.int .i32 qb6, AV.int .i32 qcf, AV.int .u8 qcb]], kd := [] }
noncomputable def Xjoints_Check_0_1 (qm3 qn5 : List (AV × AV)) : St := { env := [], h := [Blk.mp qm3, Blk.mp qn5], kd := [] }
noncomputable def gjoints_Check_l0_step (qx qu : Mo) (fuel : Nat) (kn : Int → List (AV × AV) → List (AV × AV) → Option AV) (kx0 : Int → Int → List (AV × AV) → List (AV × AV) → ByteArray → Int → Int → Int → Option AV) (kx1 : List (AV × AV) → List (AV × AV) → Option AV) (qak qau : Nat) (zj : Ge) (u18 u19 : Int) (h0m h1m : List (AV × AV)) : Option AV :=
  bif decide (u19 < u18) then ck (decide (0 ≤ u19)) <| ck (decide (u19 < (↑qak : Int))) <| ck (fitKs [LK.s, LK.i .i32, LK.i .i32, LK.i .u8] [zj u19.toNat 0, zj u19.toNat 1, zj u19.toNat 2, zj u19.toNat 3]) <| ck (keyOk Tryz.prog 9 (AV.str (toS (zj u19.toNat 0)))) <| ck (mapFit Tryz.prog 9 (AV.str (toS (zj u19.toNat 0))) h0m) <| ck (fit1 Tryz.prog 3 ((findM Tryz.prog 9 (AV.str (toS (zj u19.toNat 0))) h0m).getD (AV.int .i64 0))) <| ck (keyOk Tryz.prog 114 (AV.agg [AV.int .i32 (toI (zj u19.toNat 1)), AV.int .i32 (toI (zj u19.toNat 2))])) <| ck (mapFit Tryz.prog 114 (AV.agg [AV.int .i32 (toI (zj u19.toNat 1)), AV.int .i32 (toI (zj u19.toNat 2))]) h1m) <| ck (fit1 Tryz.prog 3 ((findM Tryz.prog 114 (AV.agg [AV.int .i32 (toI (zj u19.toNat 1)), AV.int .i32 (toI (zj u19.toNat 2))]) h1m).getD (AV.int .i64 0))) <| ck (bif !bif (findM Tryz.prog 9 (AV.str (toS (zj u19.toNat 0))) h0m).isSome then true else (findM Tryz.prog 114 (AV.agg [AV.int .i32 (toI (zj u19.toNat 1)), AV.int .i32 (toI (zj u19.toNat 2))]) h1m).isSome then true else true) <| ck (bif !bif (findM Tryz.prog 9 (AV.str (toS (zj u19.toNat 0))) h0m).isSome then true else (findM Tryz.prog 114 (AV.agg [AV.int .i32 (toI (zj u19.toNat 1)), AV.int .i32 (toI (zj u19.toNat 2))]) h1m).isSome then okM [RS.one LK.b] (qx [AV.str (toS (zj u19.toNat 0))]) else true) <| ck (bif !bif bif (findM Tryz.prog 9 (AV.str (toS (zj u19.toNat 0))) h0m).isSome then true else (findM Tryz.prog 114 (AV.agg [AV.int .i32 (toI (zj u19.toNat 1)), AV.int .i32 (toI (zj u19.toNat 2))]) h1m).isSome then true else !toB (getV (qx [AV.str (toS (zj u19.toNat 0))])) then true else true) <| ck (bif !bif bif (findM Tryz.prog 9 (AV.str (toS (zj u19.toNat 0))) h0m).isSome then true else (findM Tryz.prog 114 (AV.agg [AV.int .i32 (toI (zj u19.toNat 1)), AV.int .i32 (toI (zj u19.toNat 2))]) h1m).isSome then true else !toB (getV (qx [AV.str (toS (zj u19.toNat 0))])) then true else true) <| ck (bif !bif bif (findM Tryz.prog 9 (AV.str (toS (zj u19.toNat 0))) h0m).isSome then true else (findM Tryz.prog 114 (AV.agg [AV.int .i32 (toI (zj u19.toNat 1)), AV.int .i32 (toI (zj u19.toNat 2))]) h1m).isSome then true else !toB (getV (qx [AV.str (toS (zj u19.toNat 0))])) then okM [RS.one LK.b] (qu [AV.ro 1 2 2 fun (i j : Nat) => ([[AV.int .i32 (toI (zj u19.toNat 1))], [AV.int .i32 (toI (zj u19.toNat 2))]].getD i []).getD j AV.dead]) else true) <| ck (bif !bif bif bif (findM Tryz.prog 9 (AV.str (toS (zj u19.toNat 0))) h0m).isSome then true else (findM Tryz.prog 114 (AV.agg [AV.int .i32 (toI (zj u19.toNat 1)), AV.int .i32 (toI (zj u19.toNat 2))]) h1m).isSome then true else !toB (getV (qx [AV.str (toS (zj u19.toNat 0))])) then true else !toB (getV (qu [AV.ro 1 2 2 fun (i j : Nat) => ([[AV.int .i32 (toI (zj u19.toNat 1))], [AV.int .i32 (toI (zj u19.toNat 2))]].getD i []).getD j AV.dead])) then true else true) <| bif bif bif bif bif (findM Tryz.prog 9 (AV.str (toS (zj u19.toNat 0))) h0m).isSome then true else (findM Tryz.prog 114 (AV.agg [AV.int .i32 (toI (zj u19.toNat 1)), AV.int .i32 (toI (zj u19.toNat 2))]) h1m).isSome then true else !toB (getV (qx [AV.str (toS (zj u19.toNat 0))])) then true else !toB (getV (qu [AV.ro 1 2 2 fun (i j : Nat) => ([[AV.int .i32 (toI (zj u19.toNat 1))], [AV.int .i32 (toI (zj u19.toNat 2))]].getD i []).getD j AV.dead])) then true else decide (toI (zj u19.toNat 3) > 7) then kx0 (280) (u19) (h0m) (h1m) (toS (zj u19.toNat 0)) (toI (zj u19.toNat 1)) (toI (zj u19.toNat 2)) (toI (zj u19.toNat 3))
    else ck (keyOk Tryz.prog 9 (AV.str (toS (zj u19.toNat 0)))) <| ck (mapFit Tryz.prog 9 (AV.str (toS (zj u19.toNat 0))) h0m) <| ck (!(findM Tryz.prog 9 (AV.str (toS (zj u19.toNat 0))) h0m).isSome) <| ck (keyOk Tryz.prog 114 (AV.agg [AV.int .i32 (toI (zj u19.toNat 1)), AV.int .i32 (toI (zj u19.toNat 2))])) <| ck (mapFit Tryz.prog 114 (AV.agg [AV.int .i32 (toI (zj u19.toNat 1)), AV.int .i32 (toI (zj u19.toNat 2))]) h1m) <| ck (!(findM Tryz.prog 114 (AV.agg [AV.int .i32 (toI (zj u19.toNat 1)), AV.int .i32 (toI (zj u19.toNat 2))]) h1m).isSome) <| kn (IntKind.i64.wrap (u19 + 1)) (h0m ++ [(AV.str (toS (zj u19.toNat 0)), AV.int .i64 u19)]) (h1m ++ [(AV.agg [AV.int .i32 (toI (zj u19.toNat 1)), AV.int .i32 (toI (zj u19.toNat 2))], AV.int .i64 u19)])
  else kx1 (h0m) (h1m)
noncomputable def gjoints_Check_l0 (qx qu : Mo) (fuel : Nat) (kx0 : Int → Int → List (AV × AV) → List (AV × AV) → ByteArray → Int → Int → Int → Option AV) (kx1 : List (AV × AV) → List (AV × AV) → Option AV) (qak qau : Nat) (zj : Ge) (u18 : Int) : Nat → Int → List (AV × AV) → List (AV × AV) → Option AV
  | 0, _, _, _ => none
  | n' + 1, u19, h0m, h1m => gjoints_Check_l0_step qx qu fuel (gjoints_Check_l0 qx qu fuel kx0 kx1 qak qau zj u18 n') kx0 kx1 qak qau zj u18 u19 h0m h1m
noncomputable def Tjoints_Check_0 : TS' := ⟨[(4, TA.mp 0), (5, TA.mp 1), (17, TA.ro 4), (18, TA.i .i64), (19, TA.i .i64)], [TB.mp, TB.mp], []⟩
noncomputable def Fjoints_Check_0 (qx qu : Mo) (fuel : Nat) (ps : List Pay) (K : Ex → St → Option AV) : Option AV := match ps with
  | .n qak :: .n qau :: .g zj :: .i u18 :: .i u19 :: .m h0m :: .m h1m :: [] => gjoints_Check_l0 qx qu fuel (fun po qkj qn8 qnr qck qb6 qcf qcb => K (Ex.ret) (Xjoints_Check_0_0 po qkj qn8 qnr qck qb6 qcf qcb)) (fun qm3 qn5 => K (Ex.exit 0) (Xjoints_Check_0_1 qm3 qn5)) qak qau zj u18 fuel u19 h0m h1m
  | _ => none
noncomputable def Ljoints_Check (qx qu : Mo) (fuel : Nat) : Lam AV := [(302231454903657293156300, lam Tjoints_Check_0 (Fjoints_Check_0 qx qu fuel))]
noncomputable def Gjoints_Check (qx qu : Mo) : Gam := [(56, smM [RS.one LK.b] qx), (57, smM [RS.one LK.b] qu)]
noncomputable def Cjoints_Check (qx qu : Mo) (fuel : Nat) : CallI AV := callX (Gjoints_Check qx qu) (execFn Pr (Gjoints_Check qx qu) [((6, 36), Ljoints_Check qx qu fuel)] fuel 6)
theorem gjoints_Check_l0_eq (qx qu : Mo) (fuel : Nat) (kn : St → Option AV) (K : Ex → St → Option AV) (qak qau : Nat) (zj : Ge) (u18 qhj : Int) (qok qos : List (AV × AV)) (u19 : Int) (h0m h1m : List (AV × AV)) :
    exec Pr (Gjoints_Check qx qu) (Ljoints_Check qx qu fuel) (fnNt Pr 36) fuel (Cjoints_Check qx qu fuel) (lp Pr 36 0).1 (lp Pr 36 0).2 (live (lp Pr 36 0).1 (lp Pr 36 0).2 0) (Sjoints_Check_0 qak qau zj u18 u19 h0m h1m) (fun e s => match e with | .normal => kn (headN (live (lp Pr 36 0).1 (lp Pr 36 0).2 0) (writes (lp Pr 36 0).1) (Sjoints_Check_0 qak qau zj u18 qhj qok qos) s) | e => K e s) =
    gjoints_Check_l0_step qx qu fuel (fun u19 h0m h1m => kn (Sjoints_Check_0 qak qau zj u18 u19 h0m h1m)) (fun xu2 xu3 xh0m xh1m xh2_0 xh2_1 xh2_2 xh2_3 => K (Ex.ret) (Xjoints_Check_0_0 xu2 xu3 xh0m xh1m xh2_0 xh2_1 xh2_2 xh2_3)) (fun xh0m xh1m => K (Ex.exit 0) (Xjoints_Check_0_1 xh0m xh1m)) qak qau zj u18 u19 h0m h1m := by kernel_rfl
theorem gjoints_Check_l0_ok (qx qu : Mo) (fuel : Nat) (K : Ex → St → Option AV) (qak qau : Nat) (zj : Ge) (u18 qhj : Int) (qok qos : List (AV × AV)) : ∀ (n' : Nat) (u19 : Int) (h0m h1m : List (AV × AV)),
    loopK (exec Pr (Gjoints_Check qx qu) (Ljoints_Check qx qu fuel) (fnNt Pr 36) fuel (Cjoints_Check qx qu fuel) (lp Pr 36 0).1 (lp Pr 36 0).2 (live (lp Pr 36 0).1 (lp Pr 36 0).2 0)) (headN (live (lp Pr 36 0).1 (lp Pr 36 0).2 0) (writes (lp Pr 36 0).1) (Sjoints_Check_0 qak qau zj u18 qhj qok qos)) n' (Sjoints_Check_0 qak qau zj u18 u19 h0m h1m) K = gjoints_Check_l0 qx qu fuel (fun xu2 xu3 xh0m xh1m xh2_0 xh2_1 xh2_2 xh2_3 => K (Ex.ret) (Xjoints_Check_0_0 xu2 xu3 xh0m xh1m xh2_0 xh2_1 xh2_2 xh2_3)) (fun xh0m xh1m => K (Ex.exit 0) (Xjoints_Check_0_1 xh0m xh1m)) qak qau zj u18 n' u19 h0m h1m
  | 0, _, _, _ => rfl
  | n' + 1, u19, h0m, h1m => (gjoints_Check_l0_eq qx qu fuel (fun s => loopK (exec Pr (Gjoints_Check qx qu) (Ljoints_Check qx qu fuel) (fnNt Pr 36) fuel (Cjoints_Check qx qu fuel) (lp Pr 36 0).1 (lp Pr 36 0).2 (live (lp Pr 36 0).1 (lp Pr 36 0).2 0)) (headN (live (lp Pr 36 0).1 (lp Pr 36 0).2 0) (writes (lp Pr 36 0).1) (Sjoints_Check_0 qak qau zj u18 qhj qok qos)) n' s K) K qak qau zj u18 qhj qok qos u19 h0m h1m).trans
    (congrArg (fun kn => gjoints_Check_l0_step qx qu fuel kn (fun xu2 xu3 xh0m xh1m xh2_0 xh2_1 xh2_2 xh2_3 => K (Ex.ret) (Xjoints_Check_0_0 xu2 xu3 xh0m xh1m xh2_0 xh2_1 xh2_2 xh2_3)) (fun xh0m xh1m => K (Ex.exit 0) (Xjoints_Check_0_1 xh0m xh1m)) qak qau zj u18 u19 h0m h1m) (funext fun _ => funext fun _ => funext fun _ => gjoints_Check_l0_ok qx qu fuel K qak qau zj u18 qhj qok qos n' _ _ _))
theorem gjoints_Check_L0 (qx qu : Mo) (fuel : Nat) : LOk Pr (Gjoints_Check qx qu) (Ljoints_Check qx qu fuel) (fnNt Pr 36) fuel (Cjoints_Check qx qu fuel) (lp Pr 36 0) := by
  refine .of Tjoints_Check_0 (Fjoints_Check_0 qx qu fuel) (fun L h => ?_) (fun ps st K r he hr => ?_)
  · have e : (Ljoints_Check qx qu fuel).get (writes (lp Pr 36 0).1) = some (lam Tjoints_Check_0 (Fjoints_Check_0 qx qu fuel)) := by kernel_rfl
    exact (Option.some.inj (e.symm.trans h)).symm
  · unfold Fjoints_Check_0 at hr
    split at hr
    · obtain rfl := (Option.some.inj he).symm
      exact (gjoints_Check_l0_ok qx qu fuel K _ _ _ _ _ _ _ fuel _ _ _).trans hr
    · cases hr
noncomputable def gjoints_Check (qx qu : Mo) (fuel vf yo : Nat) (v4 : Ge) : Option AV :=
  bif decide ((↑vf : Int) > 16) then some (AV.tup [AV.int .i64 3, AV.int .i64 0])
  else gjoints_Check_l0 qx qu fuel
    (fun (xu2 xu3 : Int) (_ _ : List (AV × AV)) (_ : ByteArray) (_ _ _ : Int) => some (AV.tup [AV.int .i64 xu2, AV.int .i64 xu3]))
    (fun (_ _ : List (AV × AV)) => some (AV.tup [AV.int .i64 0, AV.int .i64 0]))
    (vf)
    (yo)
    (v4)
    ((↑vf : Int)) fuel (0) ([]) ([])
theorem gjoints_Check_run (qx qu : Mo) (fuel vf yo : Nat) (v4 : Ge) : run Pr (Gjoints_Check qx qu) [((6, 36), Ljoints_Check qx qu fuel)] fuel 7 36 [AV.ro 4 vf yo v4] = gjoints_Check qx qu fuel vf yo v4 := by kernel_rfl
noncomputable def mjoints_Check (qx qu : Mo) (fuel : Nat) (xs : List AV) : Option AV := match xs with
  | [AV.ro 4 vf yo v4] => gjoints_Check qx qu fuel vf yo v4
  | _ => none
abbrev Rjoints_Check : List RS := [RS.one (LK.i .i64), RS.one (LK.i .i64)]
theorem gjoints_Check_sm (qx qu : Mo) (fuel : Nat) (hΓ : GamOk Pr (Gjoints_Check qx qu)) (hP : NamesOk Pr) : SmOk Pr 36 (smM Rjoints_Check (mjoints_Check qx qu fuel)) := by
  refine smM_ok (fuel := fuel) hΓ hP (LamOk.of 6 36 (Ljoints_Check qx qu fuel) 1 (by kernel_rfl) (fun i hi => ?_)) 7 36 Rjoints_Check _ (fun xs v h => ?_)
  · match i, hi with
    | 0, _ => exact gjoints_Check_L0 qx qu fuel
    | i + 1, hi => exact absurd hi (by omega)
  · unfold mjoints_Check at h
    split at h
    · exact (gjoints_Check_run qx qu fuel _ _ _).trans h
    · cases h
noncomputable def Sbars_named_0 (v7 : ByteArray) (u7 u8 : Int) : St := { env := [(0, AV.str v7), (7, AV.int .i64 u7), (8, AV.int .i64 u8)], h := [], kd := [] }
noncomputable def Xbars_named_0_0 (po : Bool) : St := { env := [(2, AV.bool po)], h := [], kd := [] }
noncomputable def Xbars_named_0_1 (qnx : ByteArray) : St := { env := [(0, AV.str qnx)], h := [], kd := [] }
noncomputable def gbars_named_l0_step (fuel : Nat) (kn : Int → Option AV) (kx0 : Bool → Option AV) (kx1 : ByteArray → Option AV) (v7 : ByteArray) (u7 u8 : Int) : Option AV :=
  bif decide (u8 < u7) then ck (decide (0 ≤ u8)) <| ck (decide (u8 < (↑v7.size : Int))) <| ck (bif decide (sbyte v7 u8.toNat ≥ 97) then decide (0 ≤ u8) else true) <| ck (bif decide (sbyte v7 u8.toNat ≥ 97) then decide (u8 < (↑v7.size : Int)) else true) <| ck (decide (0 ≤ u8)) <| ck (decide (u8 < (↑v7.size : Int))) <| ck (bif decide (sbyte v7 u8.toNat ≥ 48) then decide (0 ≤ u8) else true) <| ck (bif decide (sbyte v7 u8.toNat ≥ 48) then decide (u8 < (↑v7.size : Int)) else true) <| bif bif !bif decide (sbyte v7 u8.toNat ≥ 97) then decide (sbyte v7 u8.toNat ≤ 122) else false then bif !bif decide (sbyte v7 u8.toNat ≥ 48) then decide (sbyte v7 u8.toNat ≤ 57) else false then true else u8 == 0 else false then kx0 (false)
    else kn (IntKind.i64.wrap (u8 + 1))
  else kx1 (v7)
noncomputable def gbars_named_l0 (fuel : Nat) (kx0 : Bool → Option AV) (kx1 : ByteArray → Option AV) (v7 : ByteArray) (u7 : Int) : Nat → Int → Option AV
  | 0, _ => none
  | n' + 1, u8 => gbars_named_l0_step fuel (gbars_named_l0 fuel kx0 kx1 v7 u7 n') kx0 kx1 v7 u7 u8
noncomputable def Tbars_named_0 : TS' := ⟨[(0, TA.s), (7, TA.i .i64), (8, TA.i .i64)], [], []⟩
noncomputable def Fbars_named_0 (fuel : Nat) (ps : List Pay) (K : Ex → St → Option AV) : Option AV := match ps with
  | .s v7 :: .i u7 :: .i u8 :: [] => gbars_named_l0 fuel (fun po => K (Ex.ret) (Xbars_named_0_0 po)) (fun qnx => K (Ex.exit 0) (Xbars_named_0_1 qnx)) v7 u7 fuel u8
  | _ => none
noncomputable def Lbars_named (fuel : Nat) : Lam AV := [(4398046510908, lam Tbars_named_0 (Fbars_named_0 fuel))]
noncomputable def Gbars_named : Gam := []
noncomputable def Cbars_named (fuel : Nat) : CallI AV := callX (Gbars_named) (execFn Pr (Gbars_named) [((6, 58), Lbars_named fuel)] fuel 6)
theorem gbars_named_l0_eq (fuel : Nat) (kn : St → Option AV) (K : Ex → St → Option AV) (v7 : ByteArray) (u7 u80 u8 : Int) :
    exec Pr (Gbars_named) (Lbars_named fuel) (fnNt Pr 58) fuel (Cbars_named fuel) (lp Pr 58 0).1 (lp Pr 58 0).2 (live (lp Pr 58 0).1 (lp Pr 58 0).2 0) (Sbars_named_0 v7 u7 u8) (fun e s => match e with | .normal => kn (headN (live (lp Pr 58 0).1 (lp Pr 58 0).2 0) (writes (lp Pr 58 0).1) (Sbars_named_0 v7 u7 u80) s) | e => K e s) =
    gbars_named_l0_step fuel (fun u8 => kn (Sbars_named_0 v7 u7 u8)) (fun xu2 => K (Ex.ret) (Xbars_named_0_0 xu2)) (fun qmk => K (Ex.exit 0) (Xbars_named_0_1 qmk)) v7 u7 u8 := by kernel_rfl
theorem gbars_named_l0_ok (fuel : Nat) (K : Ex → St → Option AV) (v7 : ByteArray) (u7 u80 : Int) : ∀ (n' : Nat) (u8 : Int),
    loopK (exec Pr (Gbars_named) (Lbars_named fuel) (fnNt Pr 58) fuel (Cbars_named fuel) (lp Pr 58 0).1 (lp Pr 58 0).2 (live (lp Pr 58 0).1 (lp Pr 58 0).2 0)) (headN (live (lp Pr 58 0).1 (lp Pr 58 0).2 0) (writes (lp Pr 58 0).1) (Sbars_named_0 v7 u7 u80)) n' (Sbars_named_0 v7 u7 u8) K = gbars_named_l0 fuel (fun xu2 => K (Ex.ret) (Xbars_named_0_0 xu2)) (fun qmk => K (Ex.exit 0) (Xbars_named_0_1 qmk)) v7 u7 n' u8
  | 0, _ => rfl
  | n' + 1, u8 => (gbars_named_l0_eq fuel (fun s => loopK (exec Pr (Gbars_named) (Lbars_named fuel) (fnNt Pr 58) fuel (Cbars_named fuel) (lp Pr 58 0).1 (lp Pr 58 0).2 (live (lp Pr 58 0).1 (lp Pr 58 0).2 0)) (headN (live (lp Pr 58 0).1 (lp Pr 58 0).2 0) (writes (lp Pr 58 0).1) (Sbars_named_0 v7 u7 u80)) n' s K) K v7 u7 u80 u8).trans
    (congrArg (fun kn => gbars_named_l0_step fuel kn (fun xu2 => K (Ex.ret) (Xbars_named_0_0 xu2)) (fun qmk => K (Ex.exit 0) (Xbars_named_0_1 qmk)) v7 u7 u8) (funext fun _ => gbars_named_l0_ok fuel K v7 u7 u80 n' _))
theorem gbars_named_L0 (fuel : Nat) : LOk Pr (Gbars_named) (Lbars_named fuel) (fnNt Pr 58) fuel (Cbars_named fuel) (lp Pr 58 0) := by
  refine .of Tbars_named_0 (Fbars_named_0 fuel) (fun L h => ?_) (fun ps st K r he hr => ?_)
  · have e : (Lbars_named fuel).get (writes (lp Pr 58 0).1) = some (lam Tbars_named_0 (Fbars_named_0 fuel)) := by kernel_rfl
    exact (Option.some.inj (e.symm.trans h)).symm
  · unfold Fbars_named_0 at hr
    split at hr
    · obtain rfl := (Option.some.inj he).symm
      exact (gbars_named_l0_ok fuel K _ _ _ fuel _).trans hr
    · cases hr
noncomputable def gbars_named (fuel : Nat) (us0 : ByteArray) : Option AV :=
  gbars_named_l0 fuel
    (fun (xu2 : Bool) => some (AV.bool xu2))
    (fun (qmk : ByteArray) => some (AV.bool (bif decide ((↑qmk.size : Int) ≥ 1) then decide ((↑qmk.size : Int) ≤ 8) else false)))
    (us0)
    ((↑us0.size : Int)) fuel (0)
theorem gbars_named_run (fuel : Nat) (us0 : ByteArray) : run Pr (Gbars_named) [((6, 58), Lbars_named fuel)] fuel 7 58 [AV.str us0] = gbars_named fuel us0 := by kernel_rfl
noncomputable def mbars_named (fuel : Nat) (xs : List AV) : Option AV := match xs with
  | [AV.str us0] => gbars_named fuel us0
  | _ => none
abbrev Rbars_named : List RS := [RS.one LK.b]
theorem gbars_named_sm (fuel : Nat) (hΓ : GamOk Pr (Gbars_named)) (hP : NamesOk Pr) : SmOk Pr 58 (smM Rbars_named (mbars_named fuel)) := by
  refine smM_ok (fuel := fuel) hΓ hP (LamOk.of 6 58 (Lbars_named fuel) 1 (by kernel_rfl) (fun i hi => ?_)) 7 58 Rbars_named _ (fun xs v h => ?_)
  · match i, hi with
    | 0, _ => exact gbars_named_L0 fuel
    | i + 1, hi => exact absurd hi (by omega)
  · unfold mbars_named at h
    split at h
    · exact (gbars_named_run fuel _).trans h
    · cases h
noncomputable def Lbars_number (fuel : Nat) : Lam AV := []
noncomputable def Gbars_number : Gam := []
noncomputable def Cbars_number (fuel : Nat) : CallI AV := callX (Gbars_number) (execFn Pr (Gbars_number) [((6, 59), Lbars_number fuel)] fuel 6)
noncomputable def gbars_number (fuel : Nat) (ux0 : Option Nat) : Option AV :=
  some (AV.bool (bif ford .f64 ux0 (some 4336966441157787648) == some Ordering.gt || ford .f64 ux0 (some 4336966441157787648) == some Ordering.eq then ford .f64 ux0 (some 4877398396442247168) == some Ordering.lt || ford .f64 ux0 (some 4877398396442247168) == some Ordering.eq else false))
theorem gbars_number_run (fuel : Nat) (ux0 : Option Nat) : run Pr (Gbars_number) [((6, 59), Lbars_number fuel)] fuel 7 59 [AV.flt .f64 ux0] = gbars_number fuel ux0 := by kernel_rfl
noncomputable def mbars_number (fuel : Nat) (xs : List AV) : Option AV := match xs with
  | [AV.flt .f64 ux0] => gbars_number fuel ux0
  | _ => none
abbrev Rbars_number : List RS := [RS.one LK.b]
theorem gbars_number_sm (fuel : Nat) (hΓ : GamOk Pr (Gbars_number)) (hP : NamesOk Pr) : SmOk Pr 59 (smM Rbars_number (mbars_number fuel)) := by
  refine smM_ok (fuel := fuel) hΓ hP (LamOk.of 6 59 (Lbars_number fuel) 0 (by kernel_rfl) (fun i hi => ?_)) 7 59 Rbars_number _ (fun xs v h => ?_)
  · match i, hi with
    | i + 0, hi => exact absurd hi (by omega)
  · unfold mbars_number at h
    split at h
    · exact (gbars_number_run fuel _).trans h
    · cases h
noncomputable def Sbars_may_0 (qak qau : Nat) (zj : Ge) (u18 u19 : Int) (zf zd : Nat) (ze : Ge) (wl wn : Nat) (wm : Ge) (qap : ByteArray) (yr qdv qdy : Int) (qdu qdw : Bool) (qdx qdz qdt : Option Nat) : St := { env := [(2, AV.ptr 0 0), (5, AV.ptr 1 0), (17, AV.ro 9 qak qau zj), (18, AV.int .i64 u18), (19, AV.int .i64 u19)], h := [Blk.box [AV.ro 4 zf zd ze, AV.ro 9 wl wn wm], Blk.box [AV.str qap, AV.int .u8 yr, AV.int .i64 qdv, AV.int .i64 qdy, AV.bool qdu, AV.bool qdw, AV.flt .f64 qdx, AV.flt .f64 qdz, AV.flt .f64 qdt]], kd := [] }
noncomputable def Xbars_may_0_0 (qjn : Bool) (qbd qbg : Nat) (qa4 : Ge) (qba qa3 : Nat) (qbb : Ge) (qmc : ByteArray) (ql5 ql2 ql1 : Int) (qme ql4 : Bool) (qly qlz qlq : Option Nat) (qck : ByteArray) (qb6 qcf qcb : Int) (qe5 qe3 : Bool) (qfh qe7 qe2 : Option Nat) : St := { env := [(4, AV.bool qjn)], h := [Blk.box [AV.ro 4 qbd qbg qa4, AV.ro 9 qba qa3 qbb], Blk.box [AV.str qmc, AV.int .u8 ql5, AV.int .i64 ql2, AV.int .i64 ql1, AV.bool qme, AV.bool ql4, AV.flt .f64 qly, AV.flt .f64 qlz, AV.flt .f64 qlq], Blk.box [AV.str qck, AV.int .u8 qb6, AV.int .i64 qcf, AV.int .i64 qcb, AV.bool qe5, AV.bool qe3, AV.flt .f64 qfh, AV.flt .f64 qe7, AV.flt .f64 qe2]], kd := [] }
noncomputable def Xbars_may_0_1 (p3 p8 : Nat) (p5 : Ge) (y9 pd : Nat) (pa : Ge) (qln : ByteArray) (qfe qlv qlk : Int) (ql3 ql7 : Bool) (qmg qmd qlw : Option Nat) : St := { env := [(2, AV.ptr 0 0), (5, AV.ptr 1 0)], h := [Blk.box [AV.ro 4 p3 p8 p5, AV.ro 9 y9 pd pa], Blk.box [AV.str qln, AV.int .u8 qfe, AV.int .i64 qlv, AV.int .i64 qlk, AV.bool ql3, AV.bool ql7, AV.flt .f64 qmg, AV.flt .f64 qmd, AV.flt .f64 qlw]], kd := [] }
noncomputable def gbars_may_l0_step (q4 q1 : Mo) (fuel : Nat) (kn : Int → Option AV) (kx0 : Bool → Nat → Nat → (Ge) → Nat → Nat → (Ge) → ByteArray → Int → Int → Int → Bool → Bool → Option Nat → Option Nat → Option Nat → ByteArray → Int → Int → Int → Bool → Bool → Option Nat → Option Nat → Option Nat → Option AV) (kx1 : Nat → Nat → (Ge) → Nat → Nat → (Ge) → ByteArray → Int → Int → Int → Bool → Bool → Option Nat → Option Nat → Option Nat → Option AV) (qak qau : Nat) (zj : Ge) (u18 : Int) (zf zd : Nat) (ze : Ge) (wl wn : Nat) (wm : Ge) (qap : ByteArray) (yr qdv qdy : Int) (qdu qdw : Bool) (qdx qdz qdt : Option Nat) (u19 : Int) : Option AV :=
  bif decide (u19 < u18) then ck (decide (0 ≤ u19)) <| ck (decide (u19 < (↑qak : Int))) <| ck (fitKs [LK.s, LK.i .u8, LK.i .i64, LK.i .i64, LK.b, LK.b, LK.f .f64, LK.f .f64, LK.f .f64] [zj u19.toNat 0, zj u19.toNat 1, zj u19.toNat 2, zj u19.toNat 3, zj u19.toNat 4, zj u19.toNat 5, zj u19.toNat 6, zj u19.toNat 7, zj u19.toNat 8]) <| bif strEq (toS (zj u19.toNat 0)) qap then kx0 (false) (zf) (zd) (ze) (wl) (wn) (wm) (qap) (yr) (qdv) (qdy) (qdu) (qdw) (qdx) (qdz) (qdt) (toS (zj u19.toNat 0)) (toI (zj u19.toNat 1)) (toI (zj u19.toNat 2)) (toI (zj u19.toNat 3)) (toB (zj u19.toNat 4)) (toB (zj u19.toNat 5)) (toF (zj u19.toNat 6)) (toF (zj u19.toNat 7)) (toF (zj u19.toNat 8))
    else kn (IntKind.i64.wrap (u19 + 1))
  else kx1 (zf) (zd) (ze) (wl) (wn) (wm) (qap) (yr) (qdv) (qdy) (qdu) (qdw) (qdx) (qdz) (qdt)
noncomputable def gbars_may_l0 (q4 q1 : Mo) (fuel : Nat) (kx0 : Bool → Nat → Nat → (Ge) → Nat → Nat → (Ge) → ByteArray → Int → Int → Int → Bool → Bool → Option Nat → Option Nat → Option Nat → ByteArray → Int → Int → Int → Bool → Bool → Option Nat → Option Nat → Option Nat → Option AV) (kx1 : Nat → Nat → (Ge) → Nat → Nat → (Ge) → ByteArray → Int → Int → Int → Bool → Bool → Option Nat → Option Nat → Option Nat → Option AV) (qak qau : Nat) (zj : Ge) (u18 : Int) (zf zd : Nat) (ze : Ge) (wl wn : Nat) (wm : Ge) (qap : ByteArray) (yr qdv qdy : Int) (qdu qdw : Bool) (qdx qdz qdt : Option Nat) : Nat → Int → Option AV
  | 0, _ => none
  | n' + 1, u19 => gbars_may_l0_step q4 q1 fuel (gbars_may_l0 q4 q1 fuel kx0 kx1 qak qau zj u18 zf zd ze wl wn wm qap yr qdv qdy qdu qdw qdx qdz qdt n') kx0 kx1 qak qau zj u18 zf zd ze wl wn wm qap yr qdv qdy qdu qdw qdx qdz qdt u19
noncomputable def Tbars_may_0 : TS' := ⟨[(2, TA.ptr 0 0), (5, TA.ptr 1 0), (17, TA.ro 9), (18, TA.i .i64), (19, TA.i .i64)], [TB.box [TA.ro 4, TA.ro 9], TB.box [TA.s, TA.i .u8, TA.i .i64, TA.i .i64, TA.b, TA.b, TA.f .f64, TA.f .f64, TA.f .f64]], []⟩
noncomputable def Fbars_may_0 (q4 q1 : Mo) (fuel : Nat) (ps : List Pay) (K : Ex → St → Option AV) : Option AV := match ps with
  | .n qak :: .n qau :: .g zj :: .i u18 :: .i u19 :: .n zf :: .n zd :: .g ze :: .n wl :: .n wn :: .g wm :: .s qap :: .i yr :: .i qdv :: .i qdy :: .b qdu :: .b qdw :: .o qdx :: .o qdz :: .o qdt :: [] => gbars_may_l0 q4 q1 fuel (fun qjn qbd qbg qa4 qba qa3 qbb qmc ql5 ql2 ql1 qme ql4 qly qlz qlq qck qb6 qcf qcb qe5 qe3 qfh qe7 qe2 => K (Ex.ret) (Xbars_may_0_0 qjn qbd qbg qa4 qba qa3 qbb qmc ql5 ql2 ql1 qme ql4 qly qlz qlq qck qb6 qcf qcb qe5 qe3 qfh qe7 qe2)) (fun p3 p8 p5 y9 pd pa qln qfe qlv qlk ql3 ql7 qmg qmd qlw => K (Ex.exit 0) (Xbars_may_0_1 p3 p8 p5 y9 pd pa qln qfe qlv qlk ql3 ql7 qmg qmd qlw)) qak qau zj u18 zf zd ze wl wn wm qap yr qdv qdy qdu qdw qdx qdz qdt fuel u19
  | _ => none
noncomputable def Lbars_may (q4 q1 : Mo) (fuel : Nat) : Lam AV := [(536346768, lam Tbars_may_0 (Fbars_may_0 q4 q1 fuel))]
noncomputable def Gbars_may (q4 q1 : Mo) : Gam := [(58, smM [RS.one LK.b] q4), (59, smM [RS.one LK.b] q1), (55, Go.Am.sBits)]
noncomputable def Cbars_may (q4 q1 : Mo) (fuel : Nat) : CallI AV := callX (Gbars_may q4 q1) (execFn Pr (Gbars_may q4 q1) [((6, 37), Lbars_may q4 q1 fuel)] fuel 6)
theorem gbars_may_l0_eq (q4 q1 : Mo) (fuel : Nat) (kn : St → Option AV) (K : Ex → St → Option AV) (qak qau : Nat) (zj : Ge) (u18 : Int) (zf zd : Nat) (ze : Ge) (wl wn : Nat) (wm : Ge) (qap : ByteArray) (yr qdv qdy : Int) (qdu qdw : Bool) (qdx qdz qdt : Option Nat) (qhj u19 : Int) :
    exec Pr (Gbars_may q4 q1) (Lbars_may q4 q1 fuel) (fnNt Pr 37) fuel (Cbars_may q4 q1 fuel) (lp Pr 37 0).1 (lp Pr 37 0).2 (live (lp Pr 37 0).1 (lp Pr 37 0).2 0) (Sbars_may_0 qak qau zj u18 u19 zf zd ze wl wn wm qap yr qdv qdy qdu qdw qdx qdz qdt) (fun e s => match e with | .normal => kn (headN (live (lp Pr 37 0).1 (lp Pr 37 0).2 0) (writes (lp Pr 37 0).1) (Sbars_may_0 qak qau zj u18 qhj zf zd ze wl wn wm qap yr qdv qdy qdu qdw qdx qdz qdt) s) | e => K e s) =
    gbars_may_l0_step q4 q1 fuel (fun u19 => kn (Sbars_may_0 qak qau zj u18 u19 zf zd ze wl wn wm qap yr qdv qdy qdu qdw qdx qdz qdt)) (fun xu4 zl zo zp wq wo wp qcd pc xh1_2 xh1_3 xh1_4 xh1_5 xh1_6 xh1_7 xh1_8 xh2_0 xh2_1 xh2_2 xh2_3 xh2_4 xh2_5 xh2_6 xh2_7 xh2_8 => K (Ex.ret) (Xbars_may_0_0 xu4 zl zo zp wq wo wp qcd pc xh1_2 xh1_3 xh1_4 xh1_5 xh1_6 xh1_7 xh1_8 xh2_0 xh2_1 xh2_2 xh2_3 xh2_4 xh2_5 xh2_6 xh2_7 xh2_8)) (fun zl zo zp wq wo wp qcd pc xh1_2 xh1_3 xh1_4 xh1_5 xh1_6 xh1_7 xh1_8 => K (Ex.exit 0) (Xbars_may_0_1 zl zo zp wq wo wp qcd pc xh1_2 xh1_3 xh1_4 xh1_5 xh1_6 xh1_7 xh1_8)) qak qau zj u18 zf zd ze wl wn wm qap yr qdv qdy qdu qdw qdx qdz qdt u19 := by kernel_rfl
theorem gbars_may_l0_ok (q4 q1 : Mo) (fuel : Nat) (K : Ex → St → Option AV) (qak qau : Nat) (zj : Ge) (u18 : Int) (zf zd : Nat) (ze : Ge) (wl wn : Nat) (wm : Ge) (qap : ByteArray) (yr qdv qdy : Int) (qdu qdw : Bool) (qdx qdz qdt : Option Nat) (qhj : Int) : ∀ (n' : Nat) (u19 : Int),
    loopK (exec Pr (Gbars_may q4 q1) (Lbars_may q4 q1 fuel) (fnNt Pr 37) fuel (Cbars_may q4 q1 fuel) (lp Pr 37 0).1 (lp Pr 37 0).2 (live (lp Pr 37 0).1 (lp Pr 37 0).2 0)) (headN (live (lp Pr 37 0).1 (lp Pr 37 0).2 0) (writes (lp Pr 37 0).1) (Sbars_may_0 qak qau zj u18 qhj zf zd ze wl wn wm qap yr qdv qdy qdu qdw qdx qdz qdt)) n' (Sbars_may_0 qak qau zj u18 u19 zf zd ze wl wn wm qap yr qdv qdy qdu qdw qdx qdz qdt) K = gbars_may_l0 q4 q1 fuel (fun xu4 zl zo zp wq wo wp qcd pc xh1_2 xh1_3 xh1_4 xh1_5 xh1_6 xh1_7 xh1_8 xh2_0 xh2_1 xh2_2 xh2_3 xh2_4 xh2_5 xh2_6 xh2_7 xh2_8 => K (Ex.ret) (Xbars_may_0_0 xu4 zl zo zp wq wo wp qcd pc xh1_2 xh1_3 xh1_4 xh1_5 xh1_6 xh1_7 xh1_8 xh2_0 xh2_1 xh2_2 xh2_3 xh2_4 xh2_5 xh2_6 xh2_7 xh2_8)) (fun zl zo zp wq wo wp qcd pc xh1_2 xh1_3 xh1_4 xh1_5 xh1_6 xh1_7 xh1_8 => K (Ex.exit 0) (Xbars_may_0_1 zl zo zp wq wo wp qcd pc xh1_2 xh1_3 xh1_4 xh1_5 xh1_6 xh1_7 xh1_8)) qak qau zj u18 zf zd ze wl wn wm qap yr qdv qdy qdu qdw qdx qdz qdt n' u19
  | 0, _ => rfl
  | n' + 1, u19 => (gbars_may_l0_eq q4 q1 fuel (fun s => loopK (exec Pr (Gbars_may q4 q1) (Lbars_may q4 q1 fuel) (fnNt Pr 37) fuel (Cbars_may q4 q1 fuel) (lp Pr 37 0).1 (lp Pr 37 0).2 (live (lp Pr 37 0).1 (lp Pr 37 0).2 0)) (headN (live (lp Pr 37 0).1 (lp Pr 37 0).2 0) (writes (lp Pr 37 0).1) (Sbars_may_0 qak qau zj u18 qhj zf zd ze wl wn wm qap yr qdv qdy qdu qdw qdx qdz qdt)) n' s K) K qak qau zj u18 zf zd ze wl wn wm qap yr qdv qdy qdu qdw qdx qdz qdt qhj u19).trans
    (congrArg (fun kn => gbars_may_l0_step q4 q1 fuel kn (fun xu4 zl zo zp wq wo wp qcd pc xh1_2 xh1_3 xh1_4 xh1_5 xh1_6 xh1_7 xh1_8 xh2_0 xh2_1 xh2_2 xh2_3 xh2_4 xh2_5 xh2_6 xh2_7 xh2_8 => K (Ex.ret) (Xbars_may_0_0 xu4 zl zo zp wq wo wp qcd pc xh1_2 xh1_3 xh1_4 xh1_5 xh1_6 xh1_7 xh1_8 xh2_0 xh2_1 xh2_2 xh2_3 xh2_4 xh2_5 xh2_6 xh2_7 xh2_8)) (fun zl zo zp wq wo wp qcd pc xh1_2 xh1_3 xh1_4 xh1_5 xh1_6 xh1_7 xh1_8 => K (Ex.exit 0) (Xbars_may_0_1 zl zo zp wq wo wp qcd pc xh1_2 xh1_3 xh1_4 xh1_5 xh1_6 xh1_7 xh1_8)) qak qau zj u18 zf zd ze wl wn wm qap yr qdv qdy qdu qdw qdx qdz qdt u19) (funext fun _ => gbars_may_l0_ok q4 q1 fuel K qak qau zj u18 zf zd ze wl wn wm qap yr qdv qdy qdu qdw qdx qdz qdt qhj n' _))
theorem gbars_may_L0 (q4 q1 : Mo) (fuel : Nat) : LOk Pr (Gbars_may q4 q1) (Lbars_may q4 q1 fuel) (fnNt Pr 37) fuel (Cbars_may q4 q1 fuel) (lp Pr 37 0) := by
  refine .of Tbars_may_0 (Fbars_may_0 q4 q1 fuel) (fun L h => ?_) (fun ps st K r he hr => ?_)
  · have e : (Lbars_may q4 q1 fuel).get (writes (lp Pr 37 0).1) = some (lam Tbars_may_0 (Fbars_may_0 q4 q1 fuel)) := by kernel_rfl
    exact (Option.some.inj (e.symm.trans h)).symm
  · unfold Fbars_may_0 at hr
    split at hr
    · obtain rfl := (Option.some.inj he).symm
      exact (gbars_may_l0_ok q4 q1 fuel K _ _ _ _ _ _ _ _ _ _ _ _ _ _ _ _ _ _ _ _ fuel _).trans hr
    · cases hr
noncomputable def gbars_may (q4 q1 : Mo) (fuel z4 vz : Nat) (w8 : Ge) (vg vk : Nat) (zh : Ge) (at1 : Int) : Option AV :=
  ck (decide (0 ≤ at1)) <| ck (decide (at1 < (↑vg : Int))) <| ck (fitKs [LK.s, LK.i .u8, LK.i .i64, LK.i .i64, LK.b, LK.b, LK.f .f64, LK.f .f64, LK.f .f64] [zh at1.toNat 0, zh at1.toNat 1, zh at1.toNat 2, zh at1.toNat 3, zh at1.toNat 4, zh at1.toNat 5, zh at1.toNat 6, zh at1.toNat 7, zh at1.toNat 8]) <| ck (decide (0 ≤ at1)) <| ck (decide (at1 ≤ (↑vk : Int))) <| gbars_may_l0 q4 q1 fuel
    (fun (xu4 : Bool) (_ _ : Nat) (_ : Ge) (_ _ : Nat) (_ : Ge) (_ : ByteArray) (_ _ _ : Int) (_ _ : Bool) (_ _ _ : Option Nat) (_ : ByteArray) (_ _ _ : Int) (_ _ : Bool) (_ _ _ : Option Nat) => some (AV.bool xu4))
    (fun (pe _ : Nat) (_ : Ge) (_ _ : Nat) (_ : Ge) (qaq : ByteArray) (qd1 y1 pr : Int) (qh5 qma : Bool) (qh6 qog qh4 : Option Nat) => ck (okM [RS.one LK.b] (q4 [AV.str qaq])) <| ck (bif !!toB (getV (q4 [AV.str qaq])) then true else true) <| ck (bif !bif !toB (getV (q4 [AV.str qaq])) then true else decide (y1 < 0) then true else true) <| ck (bif !bif bif !toB (getV (q4 [AV.str qaq])) then true else decide (y1 < 0) then true else decide (y1 ≥ (↑pe : Int)) then true else true) <| ck (bif !bif bif bif !toB (getV (q4 [AV.str qaq])) then true else decide (y1 < 0) then true else decide (y1 ≥ (↑pe : Int)) then true else decide (pr < 0) then true else true) <| ck (bif !bif bif bif bif !toB (getV (q4 [AV.str qaq])) then true else decide (y1 < 0) then true else decide (y1 ≥ (↑pe : Int)) then true else decide (pr < 0) then true else decide (pr ≥ (↑pe : Int)) then true else true) <| ck (bif !bif bif bif bif !toB (getV (q4 [AV.str qaq])) then true else decide (y1 < 0) then true else decide (y1 ≥ (↑pe : Int)) then true else decide (pr < 0) then true else decide (pr ≥ (↑pe : Int)) then true else true) <| ck (bif !bif bif bif bif bif !toB (getV (q4 [AV.str qaq])) then true else decide (y1 < 0) then true else decide (y1 ≥ (↑pe : Int)) then true else decide (pr < 0) then true else decide (pr ≥ (↑pe : Int)) then true else y1 == pr then true else true) <| ck (bif !bif bif bif bif bif !toB (getV (q4 [AV.str qaq])) then true else decide (y1 < 0) then true else decide (y1 ≥ (↑pe : Int)) then true else decide (pr < 0) then true else decide (pr ≥ (↑pe : Int)) then true else y1 == pr then okM [RS.one LK.b] (q1 [AV.flt .f64 qh6]) else true) <| ck (bif !bif bif bif bif bif bif !toB (getV (q4 [AV.str qaq])) then true else decide (y1 < 0) then true else decide (y1 ≥ (↑pe : Int)) then true else decide (pr < 0) then true else decide (pr ≥ (↑pe : Int)) then true else y1 == pr then true else !toB (getV (q1 [AV.flt .f64 qh6])) then true else true) <| ck (bif !bif bif bif bif bif bif !toB (getV (q4 [AV.str qaq])) then true else decide (y1 < 0) then true else decide (y1 ≥ (↑pe : Int)) then true else decide (pr < 0) then true else decide (pr ≥ (↑pe : Int)) then true else y1 == pr then true else !toB (getV (q1 [AV.flt .f64 qh6])) then okM [RS.one LK.b] (q1 [AV.flt .f64 qog]) else true) <| bif bif bif bif bif bif bif bif !toB (getV (q4 [AV.str qaq])) then true else decide (y1 < 0) then true else decide (y1 ≥ (↑pe : Int)) then true else decide (pr < 0) then true else decide (pr ≥ (↑pe : Int)) then true else y1 == pr then true else !toB (getV (q1 [AV.flt .f64 qh6])) then true else !toB (getV (q1 [AV.flt .f64 qog])) then some (AV.bool false)
      else bif qd1 == 1 then ck (bif !qh5 then true else true) <| ck (bif bif !qh5 then !qma else false then true else true) <| ck (bif bif !qh5 then !qma else false then sBits.ok [AV.flt .f64 qh4] else true) <| some (AV.bool (bif bif !qh5 then !qma else false then (↑(qh4.getD 0) : Int) == 0 else false))
      else bif qd1 == 2 then ck (okM [RS.one LK.b] (q1 [AV.flt .f64 qh4])) <| some (AV.bool (toB (getV (q1 [AV.flt .f64 qh4]))))
      else some (AV.bool false))
    (at1.toNat - 0)
    (vk - 0)
    (fun (i : Nat) => zh (0 + i))
    ((↑(at1.toNat - 0) : Int))
    (z4)
    (vz)
    (w8)
    (vg)
    (vk)
    (zh)
    (toS (zh at1.toNat 0))
    (toI (zh at1.toNat 1))
    (toI (zh at1.toNat 2))
    (toI (zh at1.toNat 3))
    (toB (zh at1.toNat 4))
    (toB (zh at1.toNat 5))
    (toF (zh at1.toNat 6))
    (toF (zh at1.toNat 7))
    (toF (zh at1.toNat 8)) fuel (0)
theorem gbars_may_run (q4 q1 : Mo) (fuel z4 vz : Nat) (w8 : Ge) (vg vk : Nat) (zh : Ge) (at1 : Int) : run Pr (Gbars_may q4 q1) [((6, 37), Lbars_may q4 q1 fuel)] fuel 7 37 [AV.agg [AV.ro 4 z4 vz w8, AV.ro 9 vg vk zh], AV.int .i64 at1] = gbars_may q4 q1 fuel z4 vz w8 vg vk zh at1 := by kernel_rfl
noncomputable def mbars_may (q4 q1 : Mo) (fuel : Nat) (xs : List AV) : Option AV := match xs with
  | [AV.agg [AV.ro 4 z4 vz w8, AV.ro 9 vg vk zh], AV.int .i64 at1] => gbars_may q4 q1 fuel z4 vz w8 vg vk zh at1
  | _ => none
abbrev Rbars_may : List RS := [RS.one LK.b]
theorem gbars_may_sm (q4 q1 : Mo) (fuel : Nat) (hΓ : GamOk Pr (Gbars_may q4 q1)) (hP : NamesOk Pr) : SmOk Pr 37 (smM Rbars_may (mbars_may q4 q1 fuel)) := by
  refine smM_ok (fuel := fuel) hΓ hP (LamOk.of 6 37 (Lbars_may q4 q1 fuel) 1 (by kernel_rfl) (fun i hi => ?_)) 7 37 Rbars_may _ (fun xs v h => ?_)
  · match i, hi with
    | 0, _ => exact gbars_may_L0 q4 q1 fuel
    | i + 1, hi => exact absurd hi (by omega)
  · unfold mbars_may at h
    split at h
    · exact (gbars_may_run q4 q1 fuel _ _ _ _ _ _ _).trans h
    · cases h
noncomputable def Sbars_Check_0 (u25 u26 : Int) (zf zd : Nat) (ze : Ge) (wl wn : Nat) (wm : Ge) : St := { env := [(1, AV.ptr 0 0), (25, AV.int .i64 u25), (26, AV.int .i64 u26)], h := [Blk.box [AV.ro 4 zf zd ze, AV.ro 9 wl wn wm]], kd := [] }
noncomputable def Xbars_Check_0_0 (po qkj : Int) (qbd qbg : Nat) (qa4 : Ge) (qba qa3 : Nat) (qbb : Ge) : St := { env := [(2, AV.int .i64 po), (3, AV.int .i64 qkj)], h := [Blk.box [AV.ro 4 qbd qbg qa4, AV.ro 9 qba qa3 qbb]], kd := [] }
noncomputable def Xbars_Check_0_1 (p3 p8 : Nat) (p5 : Ge) (y9 pd : Nat) (pa : Ge) : St := { env := [], h := [Blk.box [AV.ro 4 p3 p8 p5, AV.ro 9 y9 pd pa]], kd := [] }
noncomputable def gbars_Check_l0_step (q3 wt : Mo) (fuel : Nat) (kn : Int → Option AV) (kx0 : Int → Int → Nat → Nat → (Ge) → Nat → Nat → (Ge) → Option AV) (kx1 : Nat → Nat → (Ge) → Nat → Nat → (Ge) → Option AV) (u25 : Int) (zf zd : Nat) (ze : Ge) (wl wn : Nat) (wm : Ge) (u26 : Int) : Option AV :=
  bif decide (u26 < u25) then ck (okM [RS.one LK.b] (wt [AV.agg [AV.ro 4 zf zd ze, AV.ro 9 wl wn wm], AV.int .i64 u26])) <| bif !toB (getV (wt [AV.agg [AV.ro 4 zf zd ze, AV.ro 9 wl wn wm], AV.int .i64 u26])) then kx0 (290) (u26) (zf) (zd) (ze) (wl) (wn) (wm)
    else kn (IntKind.i64.wrap (u26 + 1))
  else kx1 (zf) (zd) (ze) (wl) (wn) (wm)
noncomputable def gbars_Check_l0 (q3 wt : Mo) (fuel : Nat) (kx0 : Int → Int → Nat → Nat → (Ge) → Nat → Nat → (Ge) → Option AV) (kx1 : Nat → Nat → (Ge) → Nat → Nat → (Ge) → Option AV) (u25 : Int) (zf zd : Nat) (ze : Ge) (wl wn : Nat) (wm : Ge) : Nat → Int → Option AV
  | 0, _ => none
  | n' + 1, u26 => gbars_Check_l0_step q3 wt fuel (gbars_Check_l0 q3 wt fuel kx0 kx1 u25 zf zd ze wl wn wm n') kx0 kx1 u25 zf zd ze wl wn wm u26
noncomputable def Tbars_Check_0 : TS' := ⟨[(1, TA.ptr 0 0), (25, TA.i .i64), (26, TA.i .i64)], [TB.box [TA.ro 4, TA.ro 9]], []⟩
noncomputable def Fbars_Check_0 (q3 wt : Mo) (fuel : Nat) (ps : List Pay) (K : Ex → St → Option AV) : Option AV := match ps with
  | .i u25 :: .i u26 :: .n zf :: .n zd :: .g ze :: .n wl :: .n wn :: .g wm :: [] => gbars_Check_l0 q3 wt fuel (fun po qkj qbd qbg qa4 qba qa3 qbb => K (Ex.ret) (Xbars_Check_0_0 po qkj qbd qbg qa4 qba qa3 qbb)) (fun p3 p8 p5 y9 pd pa => K (Ex.exit 1) (Xbars_Check_0_1 p3 p8 p5 y9 pd pa)) u25 zf zd ze wl wn wm fuel u26
  | _ => none
noncomputable def Lbars_Check (q3 wt : Mo) (fuel : Nat) : Lam AV := [(34292629580, lam Tbars_Check_0 (Fbars_Check_0 q3 wt fuel))]
noncomputable def Gbars_Check (q3 wt : Mo) : Gam := [(36, smM [RS.one (LK.i .i64), RS.one (LK.i .i64)] q3), (37, smM [RS.one LK.b] wt)]
noncomputable def Cbars_Check (q3 wt : Mo) (fuel : Nat) : CallI AV := callX (Gbars_Check q3 wt) (execFn Pr (Gbars_Check q3 wt) [((6, 19), Lbars_Check q3 wt fuel)] fuel 6)
theorem gbars_Check_l0_eq (q3 wt : Mo) (fuel : Nat) (kn : St → Option AV) (K : Ex → St → Option AV) (u25 : Int) (zf zd : Nat) (ze : Ge) (wl wn : Nat) (wm : Ge) (qo5 u26 : Int) :
    exec Pr (Gbars_Check q3 wt) (Lbars_Check q3 wt fuel) (fnNt Pr 19) fuel (Cbars_Check q3 wt fuel) (lp Pr 19 0).1 (lp Pr 19 0).2 (live (lp Pr 19 0).1 (lp Pr 19 0).2 0) (Sbars_Check_0 u25 u26 zf zd ze wl wn wm) (fun e s => match e with | .normal => kn (headN (live (lp Pr 19 0).1 (lp Pr 19 0).2 0) (writes (lp Pr 19 0).1) (Sbars_Check_0 u25 qo5 zf zd ze wl wn wm) s) | e => K e s) =
    gbars_Check_l0_step q3 wt fuel (fun u26 => kn (Sbars_Check_0 u25 u26 zf zd ze wl wn wm)) (fun xu2 xu3 zl zo zp wq wo wp => K (Ex.ret) (Xbars_Check_0_0 xu2 xu3 zl zo zp wq wo wp)) (fun zl zo zp wq wo wp => K (Ex.exit 1) (Xbars_Check_0_1 zl zo zp wq wo wp)) u25 zf zd ze wl wn wm u26 := by kernel_rfl
theorem gbars_Check_l0_ok (q3 wt : Mo) (fuel : Nat) (K : Ex → St → Option AV) (u25 : Int) (zf zd : Nat) (ze : Ge) (wl wn : Nat) (wm : Ge) (qo5 : Int) : ∀ (n' : Nat) (u26 : Int),
    loopK (exec Pr (Gbars_Check q3 wt) (Lbars_Check q3 wt fuel) (fnNt Pr 19) fuel (Cbars_Check q3 wt fuel) (lp Pr 19 0).1 (lp Pr 19 0).2 (live (lp Pr 19 0).1 (lp Pr 19 0).2 0)) (headN (live (lp Pr 19 0).1 (lp Pr 19 0).2 0) (writes (lp Pr 19 0).1) (Sbars_Check_0 u25 qo5 zf zd ze wl wn wm)) n' (Sbars_Check_0 u25 u26 zf zd ze wl wn wm) K = gbars_Check_l0 q3 wt fuel (fun xu2 xu3 zl zo zp wq wo wp => K (Ex.ret) (Xbars_Check_0_0 xu2 xu3 zl zo zp wq wo wp)) (fun zl zo zp wq wo wp => K (Ex.exit 1) (Xbars_Check_0_1 zl zo zp wq wo wp)) u25 zf zd ze wl wn wm n' u26
  | 0, _ => rfl
  | n' + 1, u26 => (gbars_Check_l0_eq q3 wt fuel (fun s => loopK (exec Pr (Gbars_Check q3 wt) (Lbars_Check q3 wt fuel) (fnNt Pr 19) fuel (Cbars_Check q3 wt fuel) (lp Pr 19 0).1 (lp Pr 19 0).2 (live (lp Pr 19 0).1 (lp Pr 19 0).2 0)) (headN (live (lp Pr 19 0).1 (lp Pr 19 0).2 0) (writes (lp Pr 19 0).1) (Sbars_Check_0 u25 qo5 zf zd ze wl wn wm)) n' s K) K u25 zf zd ze wl wn wm qo5 u26).trans
    (congrArg (fun kn => gbars_Check_l0_step q3 wt fuel kn (fun xu2 xu3 zl zo zp wq wo wp => K (Ex.ret) (Xbars_Check_0_0 xu2 xu3 zl zo zp wq wo wp)) (fun zl zo zp wq wo wp => K (Ex.exit 1) (Xbars_Check_0_1 zl zo zp wq wo wp)) u25 zf zd ze wl wn wm u26) (funext fun _ => gbars_Check_l0_ok q3 wt fuel K u25 zf zd ze wl wn wm qo5 n' _))
theorem gbars_Check_L0 (q3 wt : Mo) (fuel : Nat) : LOk Pr (Gbars_Check q3 wt) (Lbars_Check q3 wt fuel) (fnNt Pr 19) fuel (Cbars_Check q3 wt fuel) (lp Pr 19 0) := by
  refine .of Tbars_Check_0 (Fbars_Check_0 q3 wt fuel) (fun L h => ?_) (fun ps st K r he hr => ?_)
  · have e : (Lbars_Check q3 wt fuel).get (writes (lp Pr 19 0).1) = some (lam Tbars_Check_0 (Fbars_Check_0 q3 wt fuel)) := by kernel_rfl
    exact (Option.some.inj (e.symm.trans h)).symm
  · unfold Fbars_Check_0 at hr
    split at hr
    · obtain rfl := (Option.some.inj he).symm
      exact (gbars_Check_l0_ok q3 wt fuel K _ _ _ _ _ _ _ _ fuel _).trans hr
    · cases hr
noncomputable def gbars_Check (q3 wt : Mo) (fuel z4 vz : Nat) (w8 : Ge) (vg vk : Nat) (zh : Ge) : Option AV :=
  let r0 : Option AV := q3 [AV.ro 4 z4 vz w8]; ck (okM [RS.one (LK.i .i64), RS.one (LK.i .i64)] r0) <| bif toI ((toT (getV r0)).headD AV.dead) != 0 then some (AV.tup [AV.int .i64 (toI ((toT (getV r0)).headD AV.dead)), AV.int .i64 (toI ((toT (getV r0)).tail.headD AV.dead))])
  else bif decide ((↑vg : Int) > 48) then some (AV.tup [AV.int .i64 3, AV.int .i64 0])
  else gbars_Check_l0 q3 wt fuel
    (fun (xu2 xu3 : Int) (_ _ : Nat) (_ : Ge) (_ _ : Nat) (_ : Ge) => some (AV.tup [AV.int .i64 xu2, AV.int .i64 xu3]))
    (fun (_ _ : Nat) (_ : Ge) (_ _ : Nat) (_ : Ge) => some (AV.tup [AV.int .i64 0, AV.int .i64 0]))
    ((↑vg : Int))
    (z4)
    (vz)
    (w8)
    (vg)
    (vk)
    (zh) fuel (0)
theorem gbars_Check_run (q3 wt : Mo) (fuel z4 vz : Nat) (w8 : Ge) (vg vk : Nat) (zh : Ge) : run Pr (Gbars_Check q3 wt) [((6, 19), Lbars_Check q3 wt fuel)] fuel 7 19 [AV.agg [AV.ro 4 z4 vz w8, AV.ro 9 vg vk zh]] = gbars_Check q3 wt fuel z4 vz w8 vg vk zh := by kernel_rfl
noncomputable def mbars_Check (q3 wt : Mo) (fuel : Nat) (xs : List AV) : Option AV := match xs with
  | [AV.agg [AV.ro 4 z4 vz w8, AV.ro 9 vg vk zh]] => gbars_Check q3 wt fuel z4 vz w8 vg vk zh
  | _ => none
abbrev Rbars_Check : List RS := [RS.one (LK.i .i64), RS.one (LK.i .i64)]
theorem gbars_Check_sm (q3 wt : Mo) (fuel : Nat) (hΓ : GamOk Pr (Gbars_Check q3 wt)) (hP : NamesOk Pr) : SmOk Pr 19 (smM Rbars_Check (mbars_Check q3 wt fuel)) := by
  refine smM_ok (fuel := fuel) hΓ hP (LamOk.of 6 19 (Lbars_Check q3 wt fuel) 1 (by kernel_rfl) (fun i hi => ?_)) 7 19 Rbars_Check _ (fun xs v h => ?_)
  · match i, hi with
    | 0, _ => exact gbars_Check_L0 q3 wt fuel
    | i + 1, hi => exact absurd hi (by omega)
  · unfold mbars_Check at h
    split at h
    · exact (gbars_Check_run q3 wt fuel _ _ _ _ _ _).trans h
    · cases h
noncomputable def Ljoints_Apart (qu : Mo) (fuel : Nat) : Lam AV := []
noncomputable def Gjoints_Apart (qu : Mo) : Gam := [(57, smM [RS.one LK.b] qu)]
noncomputable def Cjoints_Apart (qu : Mo) (fuel : Nat) : CallI AV := callX (Gjoints_Apart qu) (execFn Pr (Gjoints_Apart qu) [((6, 38), Ljoints_Apart qu fuel)] fuel 6)
noncomputable def gjoints_Apart (qu : Mo) (fuel : Nat) (w2 : ByteArray) (za qaa qa0 : Int) (w3 : ByteArray) (w5 p9 qaz : Int) : Option AV :=
  ck (okM [RS.one LK.b] (qu [AV.ro 1 4 4 fun (i j : Nat) => ([[AV.int .i32 za], [AV.int .i32 qaa], [AV.int .i32 w5], [AV.int .i32 p9]].getD i []).getD j AV.dead])) <| bif !toB (getV (qu [AV.ro 1 4 4 fun (i j : Nat) => ([[AV.int .i32 za], [AV.int .i32 qaa], [AV.int .i32 w5], [AV.int .i32 p9]].getD i []).getD j AV.dead])) then some (AV.tup [AV.int .i64 0, AV.int .i64 0, AV.int .i64 0])
  else some (AV.tup [AV.int .i64 (IntKind.i64.wrap (IntKind.i32.wrap (w5 - za))), AV.int .i64 (IntKind.i64.wrap (IntKind.i32.wrap (p9 - qaa))), AV.int .i64 (IntKind.i64.wrap (IntKind.i64.wrap (IntKind.i64.wrap (IntKind.i32.wrap (w5 - za)) * IntKind.i64.wrap (IntKind.i32.wrap (w5 - za))) + IntKind.i64.wrap (IntKind.i64.wrap (IntKind.i32.wrap (p9 - qaa)) * IntKind.i64.wrap (IntKind.i32.wrap (p9 - qaa)))))])
theorem gjoints_Apart_run (qu : Mo) (fuel : Nat) (w2 : ByteArray) (za qaa qa0 : Int) (w3 : ByteArray) (w5 p9 qaz : Int) : run Pr (Gjoints_Apart qu) [((6, 38), Ljoints_Apart qu fuel)] fuel 7 38 [AV.agg [AV.str w2, AV.int .i32 za, AV.int .i32 qaa, AV.int .u8 qa0], AV.agg [AV.str w3, AV.int .i32 w5, AV.int .i32 p9, AV.int .u8 qaz]] = gjoints_Apart qu fuel w2 za qaa qa0 w3 w5 p9 qaz := by kernel_rfl
noncomputable def mjoints_Apart (qu : Mo) (fuel : Nat) (xs : List AV) : Option AV := match xs with
  | [AV.agg [AV.str w2, AV.int .i32 za, AV.int .i32 qaa, AV.int .u8 qa0], AV.agg [AV.str w3, AV.int .i32 w5, AV.int .i32 p9, AV.int .u8 qaz]] => gjoints_Apart qu fuel w2 za qaa qa0 w3 w5 p9 qaz
  | _ => none
abbrev Rjoints_Apart : List RS := [RS.one (LK.i .i64), RS.one (LK.i .i64), RS.one (LK.i .i64)]
theorem gjoints_Apart_sm (qu : Mo) (fuel : Nat) (hΓ : GamOk Pr (Gjoints_Apart qu)) (hP : NamesOk Pr) : SmOk Pr 38 (smM Rjoints_Apart (mjoints_Apart qu fuel)) := by
  refine smM_ok (fuel := fuel) hΓ hP (LamOk.of 6 38 (Ljoints_Apart qu fuel) 0 (by kernel_rfl) (fun i hi => ?_)) 7 38 Rjoints_Apart _ (fun xs v h => ?_)
  · match i, hi with
    | i + 0, hi => exact absurd hi (by omega)
  · unfold mjoints_Apart at h
    split at h
    · exact (gjoints_Apart_run qu fuel _ _ _ _ _ _ _ _).trans h
    · cases h
noncomputable def Lround_way (fuel : Nat) : Lam AV := []
noncomputable def Ground_way : Gam := []
noncomputable def Cround_way (fuel : Nat) : CallI AV := callX (Ground_way) (execFn Pr (Ground_way) [((6, 70), Lround_way fuel)] fuel 6)
noncomputable def ground_way (fuel : Nat) (um0 : Int) : Option AV :=
  bif bif decide (um0 < 0) then true else decide (um0 > 3) then some (AV.int .i8 0)
  else some (AV.int .i8 um0)
theorem ground_way_run (fuel : Nat) (um0 : Int) : run Pr (Ground_way) [((6, 70), Lround_way fuel)] fuel 7 70 [AV.int .i8 um0] = ground_way fuel um0 := by kernel_rfl
noncomputable def mround_way (fuel : Nat) (xs : List AV) : Option AV := match xs with
  | [AV.int .i8 um0] => ground_way fuel um0
  | _ => none
abbrev Rround_way : List RS := [RS.one (LK.i .i8)]
theorem ground_way_sm (fuel : Nat) (hΓ : GamOk Pr (Ground_way)) (hP : NamesOk Pr) : SmOk Pr 70 (smM Rround_way (mround_way fuel)) := by
  refine smM_ok (fuel := fuel) hΓ hP (LamOk.of 6 70 (Lround_way fuel) 0 (by kernel_rfl) (fun i hi => ?_)) 7 70 Rround_way _ (fun xs v h => ?_)
  · match i, hi with
    | i + 0, hi => exact absurd hi (by omega)
  · unfold mround_way at h
    split at h
    · exact (ground_way_run fuel _).trans h
    · cases h
noncomputable def Lmath_Sqrt (fuel : Nat) : Lam AV := []
noncomputable def Gmath_Sqrt : Gam := [(88, Go.Am.sSqrt)]
noncomputable def Cmath_Sqrt (fuel : Nat) : CallI AV := callX (Gmath_Sqrt) (execFn Pr (Gmath_Sqrt) [((6, 71), Lmath_Sqrt fuel)] fuel 6)
noncomputable def gmath_Sqrt (fuel : Nat) (ux0 : Option Nat) : Option AV :=
  ck (sSqrt.ok [AV.flt .f64 ux0]) <| some (AV.flt .f64 (ux0.bind fun (x : Nat) => FloatKind.f64.format.sqrt x))
theorem gmath_Sqrt_run (fuel : Nat) (ux0 : Option Nat) : run Pr (Gmath_Sqrt) [((6, 71), Lmath_Sqrt fuel)] fuel 7 71 [AV.flt .f64 ux0] = gmath_Sqrt fuel ux0 := by kernel_rfl
noncomputable def mmath_Sqrt (fuel : Nat) (xs : List AV) : Option AV := match xs with
  | [AV.flt .f64 ux0] => gmath_Sqrt fuel ux0
  | _ => none
abbrev Rmath_Sqrt : List RS := [RS.one (LK.f .f64)]
theorem gmath_Sqrt_sm (fuel : Nat) (hΓ : GamOk Pr (Gmath_Sqrt)) (hP : NamesOk Pr) : SmOk Pr 71 (smM Rmath_Sqrt (mmath_Sqrt fuel)) := by
  refine smM_ok (fuel := fuel) hΓ hP (LamOk.of 6 71 (Lmath_Sqrt fuel) 0 (by kernel_rfl) (fun i hi => ?_)) 7 71 Rmath_Sqrt _ (fun xs v h => ?_)
  · match i, hi with
    | i + 0, hi => exact absurd hi (by omega)
  · unfold mmath_Sqrt at h
    split at h
    · exact (gmath_Sqrt_run fuel _).trans h
    · cases h
noncomputable def Lmath_IsNaN (fuel : Nat) : Lam AV := []
noncomputable def Gmath_IsNaN : Gam := []
noncomputable def Cmath_IsNaN (fuel : Nat) : CallI AV := callX (Gmath_IsNaN) (execFn Pr (Gmath_IsNaN) [((6, 89), Lmath_IsNaN fuel)] fuel 6)
noncomputable def gmath_IsNaN (fuel : Nat) (uf0 : Option Nat) : Option AV :=
  some (AV.bool (ford .f64 uf0 uf0 != some Ordering.eq))
theorem gmath_IsNaN_run (fuel : Nat) (uf0 : Option Nat) : run Pr (Gmath_IsNaN) [((6, 89), Lmath_IsNaN fuel)] fuel 7 89 [AV.flt .f64 uf0] = gmath_IsNaN fuel uf0 := by kernel_rfl
noncomputable def mmath_IsNaN (fuel : Nat) (xs : List AV) : Option AV := match xs with
  | [AV.flt .f64 uf0] => gmath_IsNaN fuel uf0
  | _ => none
abbrev Rmath_IsNaN : List RS := [RS.one LK.b]
theorem gmath_IsNaN_sm (fuel : Nat) (hΓ : GamOk Pr (Gmath_IsNaN)) (hP : NamesOk Pr) : SmOk Pr 89 (smM Rmath_IsNaN (mmath_IsNaN fuel)) := by
  refine smM_ok (fuel := fuel) hΓ hP (LamOk.of 6 89 (Lmath_IsNaN fuel) 0 (by kernel_rfl) (fun i hi => ?_)) 7 89 Rmath_IsNaN _ (fun xs v h => ?_)
  · match i, hi with
    | i + 0, hi => exact absurd hi (by omega)
  · unfold mmath_IsNaN at h
    split at h
    · exact (gmath_IsNaN_run fuel _).trans h
    · cases h
noncomputable def Lmath_Abs (fuel : Nat) : Lam AV := []
noncomputable def Gmath_Abs : Gam := [(55, Go.Am.sBits), (101, Go.Am.sFrom)]
noncomputable def Cmath_Abs (fuel : Nat) : CallI AV := callX (Gmath_Abs) (execFn Pr (Gmath_Abs) [((6, 100), Lmath_Abs fuel)] fuel 6)
noncomputable def gmath_Abs (fuel : Nat) (ux0 : Option Nat) : Option AV :=
  ck (sBits.ok [AV.flt .f64 ux0]) <| ck (sFrom.ok [AV.int .u64 (IntKind.u64.wrap (↑(BitVec.ofInt 64 (↑(ux0.getD 0) : Int) &&& ~~~BitVec.ofInt 64 9223372036854775808).toNat : Int))]) <| some (AV.flt .f64 (some (IntKind.u64.wrap (↑(BitVec.ofInt 64 (↑(ux0.getD 0) : Int) &&& ~~~BitVec.ofInt 64 9223372036854775808).toNat : Int)).toNat))
theorem gmath_Abs_run (fuel : Nat) (ux0 : Option Nat) : run Pr (Gmath_Abs) [((6, 100), Lmath_Abs fuel)] fuel 7 100 [AV.flt .f64 ux0] = gmath_Abs fuel ux0 := by kernel_rfl
noncomputable def mmath_Abs (fuel : Nat) (xs : List AV) : Option AV := match xs with
  | [AV.flt .f64 ux0] => gmath_Abs fuel ux0
  | _ => none
abbrev Rmath_Abs : List RS := [RS.one (LK.f .f64)]
theorem gmath_Abs_sm (fuel : Nat) (hΓ : GamOk Pr (Gmath_Abs)) (hP : NamesOk Pr) : SmOk Pr 100 (smM Rmath_Abs (mmath_Abs fuel)) := by
  refine smM_ok (fuel := fuel) hΓ hP (LamOk.of 6 100 (Lmath_Abs fuel) 0 (by kernel_rfl) (fun i hi => ?_)) 7 100 Rmath_Abs _ (fun xs v h => ?_)
  · match i, hi with
    | i + 0, hi => exact absurd hi (by omega)
  · unfold mmath_Abs at h
    split at h
    · exact (gmath_Abs_run fuel _).trans h
    · cases h
noncomputable def Lmath_IsInf (w6 : Mo) (fuel : Nat) : Lam AV := []
noncomputable def Gmath_IsInf (w6 : Mo) : Gam := [(100, smM [RS.one (LK.f .f64)] w6)]
noncomputable def Cmath_IsInf (w6 : Mo) (fuel : Nat) : CallI AV := callX (Gmath_IsInf w6) (execFn Pr (Gmath_IsInf w6) [((6, 90), Lmath_IsInf w6 fuel)] fuel 6)
noncomputable def gmath_IsInf (w6 : Mo) (fuel : Nat) (uf0 : Option Nat) (qc1 : Int) : Option AV :=
  bif qc1 == 0 then ck (okM [RS.one (LK.f .f64)] (w6 [AV.flt .f64 uf0])) <| some (AV.bool (ford .f64 (toF (getV (w6 [AV.flt .f64 uf0]))) (some 9218868437227405311) == some Ordering.gt))
  else bif decide (qc1 < 0) then some (AV.bool (ford .f64 (Option.map (Op.negFloat .f64) uf0) (some 9218868437227405311) == some Ordering.gt))
  else some (AV.bool (ford .f64 uf0 (some 9218868437227405311) == some Ordering.gt))
theorem gmath_IsInf_run (w6 : Mo) (fuel : Nat) (uf0 : Option Nat) (qc1 : Int) : run Pr (Gmath_IsInf w6) [((6, 90), Lmath_IsInf w6 fuel)] fuel 7 90 [AV.flt .f64 uf0, AV.int .i64 qc1] = gmath_IsInf w6 fuel uf0 qc1 := by kernel_rfl
noncomputable def mmath_IsInf (w6 : Mo) (fuel : Nat) (xs : List AV) : Option AV := match xs with
  | [AV.flt .f64 uf0, AV.int .i64 qc1] => gmath_IsInf w6 fuel uf0 qc1
  | _ => none
abbrev Rmath_IsInf : List RS := [RS.one LK.b]
theorem gmath_IsInf_sm (w6 : Mo) (fuel : Nat) (hΓ : GamOk Pr (Gmath_IsInf w6)) (hP : NamesOk Pr) : SmOk Pr 90 (smM Rmath_IsInf (mmath_IsInf w6 fuel)) := by
  refine smM_ok (fuel := fuel) hΓ hP (LamOk.of 6 90 (Lmath_IsInf w6 fuel) 0 (by kernel_rfl) (fun i hi => ?_)) 7 90 Rmath_IsInf _ (fun xs v h => ?_)
  · match i, hi with
    | i + 0, hi => exact absurd hi (by omega)
  · unfold mmath_IsInf at h
    split at h
    · exact (gmath_IsInf_run w6 fuel _ _).trans h
    · cases h
end Go.Proofs.Tryz
end
section
namespace Go.Proofs.Tryz
open Go Go.Am
set_option linter.unusedVariables false
set_option maxRecDepth 1000000
noncomputable def Sround_finite_0 (u5n u5r : Nat) (u5g : Ge) (u6 u7 : Int) : St := { env := [(5, AV.ro 1 u5n u5r u5g), (6, AV.int .i64 u6), (7, AV.int .i64 u7)], h := [], kd := [] }
noncomputable def Xround_finite_0_0 (po : Bool) : St := { env := [(2, AV.bool po)], h := [], kd := [] }
noncomputable def Xround_finite_0_1 : St := { env := [], h := [], kd := [] }
noncomputable def ground_finite_l0_step (wc qm : Mo) (fuel : Nat) (kn : Int → Option AV) (kx0 : Bool → Option AV) (kx1 : Option AV) (u5n u5r : Nat) (u5g : Ge) (u6 u7 : Int) : Option AV :=
  bif decide (u7 < u6) then ck (decide (0 ≤ u7)) <| ck (decide (u7 < (↑u5n : Int))) <| ck (fitK (LK.f .f64) (u5g u7.toNat 0)) <| ck (okM [RS.one LK.b] (wc [AV.flt .f64 (toF (u5g u7.toNat 0))])) <| ck (bif !toB (getV (wc [AV.flt .f64 (toF (u5g u7.toNat 0))])) then okM [RS.one LK.b] (qm [AV.flt .f64 (toF (u5g u7.toNat 0)), AV.int .i64 0]) else true) <| bif bif toB (getV (wc [AV.flt .f64 (toF (u5g u7.toNat 0))])) then true else toB (getV (qm [AV.flt .f64 (toF (u5g u7.toNat 0)), AV.int .i64 0])) then kx0 (false)
    else kn (IntKind.i64.wrap (u7 + 1))
  else kx1
noncomputable def ground_finite_l0 (wc qm : Mo) (fuel : Nat) (kx0 : Bool → Option AV) (kx1 : Option AV) (u5n u5r : Nat) (u5g : Ge) (u6 : Int) : Nat → Int → Option AV
  | 0, _ => none
  | n' + 1, u7 => ground_finite_l0_step wc qm fuel (ground_finite_l0 wc qm fuel kx0 kx1 u5n u5r u5g u6 n') kx0 kx1 u5n u5r u5g u6 u7
noncomputable def Tround_finite_0 : TS' := ⟨[(5, TA.ro 1), (6, TA.i .i64), (7, TA.i .i64)], [], []⟩
noncomputable def Fround_finite_0 (wc qm : Mo) (fuel : Nat) (ps : List Pay) (K : Ex → St → Option AV) : Option AV := match ps with
  | .n u5n :: .n u5r :: .g u5g :: .i u6 :: .i u7 :: [] => ground_finite_l0 wc qm fuel (fun po => K (Ex.ret) (Xround_finite_0_0 po)) (K (Ex.exit 0) Xround_finite_0_1) u5n u5r u5g u6 fuel u7
  | _ => none
noncomputable def Lround_finite (wc qm : Mo) (fuel : Nat) : Lam AV := [(262036, lam Tround_finite_0 (Fround_finite_0 wc qm fuel))]
noncomputable def Ground_finite (wc qm : Mo) : Gam := [(89, smM [RS.one LK.b] wc), (90, smM [RS.one LK.b] qm)]
noncomputable def Cround_finite (wc qm : Mo) (fuel : Nat) : CallI AV := callX (Ground_finite wc qm) (execFn Pr (Ground_finite wc qm) [((6, 72), Lround_finite wc qm fuel)] fuel 6)
theorem ground_finite_l0_eq (wc qm : Mo) (fuel : Nat) (kn : St → Option AV) (K : Ex → St → Option AV) (u5n u5r : Nat) (u5g : Ge) (u6 u70 u7 : Int) :
    exec Pr (Ground_finite wc qm) (Lround_finite wc qm fuel) (fnNt Pr 72) fuel (Cround_finite wc qm fuel) (lp Pr 72 0).1 (lp Pr 72 0).2 (live (lp Pr 72 0).1 (lp Pr 72 0).2 0) (Sround_finite_0 u5n u5r u5g u6 u7) (fun e s => match e with | .normal => kn (headN (live (lp Pr 72 0).1 (lp Pr 72 0).2 0) (writes (lp Pr 72 0).1) (Sround_finite_0 u5n u5r u5g u6 u70) s) | e => K e s) =
    ground_finite_l0_step wc qm fuel (fun u7 => kn (Sround_finite_0 u5n u5r u5g u6 u7)) (fun xu2 => K (Ex.ret) (Xround_finite_0_0 xu2)) (K (Ex.exit 0) Xround_finite_0_1) u5n u5r u5g u6 u7 := by kernel_rfl
theorem ground_finite_l0_ok (wc qm : Mo) (fuel : Nat) (K : Ex → St → Option AV) (u5n u5r : Nat) (u5g : Ge) (u6 u70 : Int) : ∀ (n' : Nat) (u7 : Int),
    loopK (exec Pr (Ground_finite wc qm) (Lround_finite wc qm fuel) (fnNt Pr 72) fuel (Cround_finite wc qm fuel) (lp Pr 72 0).1 (lp Pr 72 0).2 (live (lp Pr 72 0).1 (lp Pr 72 0).2 0)) (headN (live (lp Pr 72 0).1 (lp Pr 72 0).2 0) (writes (lp Pr 72 0).1) (Sround_finite_0 u5n u5r u5g u6 u70)) n' (Sround_finite_0 u5n u5r u5g u6 u7) K = ground_finite_l0 wc qm fuel (fun xu2 => K (Ex.ret) (Xround_finite_0_0 xu2)) (K (Ex.exit 0) Xround_finite_0_1) u5n u5r u5g u6 n' u7
  | 0, _ => rfl
  | n' + 1, u7 => (ground_finite_l0_eq wc qm fuel (fun s => loopK (exec Pr (Ground_finite wc qm) (Lround_finite wc qm fuel) (fnNt Pr 72) fuel (Cround_finite wc qm fuel) (lp Pr 72 0).1 (lp Pr 72 0).2 (live (lp Pr 72 0).1 (lp Pr 72 0).2 0)) (headN (live (lp Pr 72 0).1 (lp Pr 72 0).2 0) (writes (lp Pr 72 0).1) (Sround_finite_0 u5n u5r u5g u6 u70)) n' s K) K u5n u5r u5g u6 u70 u7).trans
    (congrArg (fun kn => ground_finite_l0_step wc qm fuel kn (fun xu2 => K (Ex.ret) (Xround_finite_0_0 xu2)) (K (Ex.exit 0) Xround_finite_0_1) u5n u5r u5g u6 u7) (funext fun _ => ground_finite_l0_ok wc qm fuel K u5n u5r u5g u6 u70 n' _))
theorem ground_finite_L0 (wc qm : Mo) (fuel : Nat) : LOk Pr (Ground_finite wc qm) (Lround_finite wc qm fuel) (fnNt Pr 72) fuel (Cround_finite wc qm fuel) (lp Pr 72 0) := by
  refine .of Tround_finite_0 (Fround_finite_0 wc qm fuel) (fun L h => ?_) (fun ps st K r he hr => ?_)
  · have e : (Lround_finite wc qm fuel).get (writes (lp Pr 72 0).1) = some (lam Tround_finite_0 (Fround_finite_0 wc qm fuel)) := by kernel_rfl
    exact (Option.some.inj (e.symm.trans h)).symm
  · unfold Fround_finite_0 at hr
    split at hr
    · obtain rfl := (Option.some.inj he).symm
      exact (ground_finite_l0_ok wc qm fuel K _ _ _ _ _ fuel _).trans hr
    · cases hr
noncomputable def ground_finite (wc qm : Mo) (fuel vf yo : Nat) (v4 : Ge) : Option AV :=
  ground_finite_l0 wc qm fuel
    (fun (xu2 : Bool) => some (AV.bool xu2))
    (some (AV.bool true))
    (vf)
    (yo)
    (v4)
    ((↑vf : Int)) fuel (0)
theorem ground_finite_run (wc qm : Mo) (fuel vf yo : Nat) (v4 : Ge) : run Pr (Ground_finite wc qm) [((6, 72), Lround_finite wc qm fuel)] fuel 7 72 [AV.ro 1 vf yo v4] = ground_finite wc qm fuel vf yo v4 := by kernel_rfl
noncomputable def mround_finite (wc qm : Mo) (fuel : Nat) (xs : List AV) : Option AV := match xs with
  | [AV.ro 1 vf yo v4] => ground_finite wc qm fuel vf yo v4
  | _ => none
abbrev Rround_finite : List RS := [RS.one LK.b]
theorem ground_finite_sm (wc qm : Mo) (fuel : Nat) (hΓ : GamOk Pr (Ground_finite wc qm)) (hP : NamesOk Pr) : SmOk Pr 72 (smM Rround_finite (mround_finite wc qm fuel)) := by
  refine smM_ok (fuel := fuel) hΓ hP (LamOk.of 6 72 (Lround_finite wc qm fuel) 1 (by kernel_rfl) (fun i hi => ?_)) 7 72 Rround_finite _ (fun xs v h => ?_)
  · match i, hi with
    | 0, _ => exact ground_finite_L0 wc qm fuel
    | i + 1, hi => exact absurd hi (by omega)
  · unfold mround_finite at h
    split at h
    · exact (ground_finite_run wc qm fuel _ _ _).trans h
    · cases h
noncomputable def Sround_plain_0 (u6n u6r : Nat) (u6g : Ge) (u7 u8 : Int) : St := { env := [(6, AV.ro 1 u6n u6r u6g), (7, AV.int .i64 u7), (8, AV.int .i64 u8)], h := [], kd := [] }
noncomputable def Xround_plain_0_0 (po : Bool) : St := { env := [(2, AV.bool po)], h := [], kd := [] }
noncomputable def Xround_plain_0_1 : St := { env := [], h := [], kd := [] }
noncomputable def ground_plain_l0_step (fuel : Nat) (kn : Int → Option AV) (kx0 : Bool → Option AV) (kx1 : Option AV) (u6n u6r : Nat) (u6g : Ge) (u7 u8 : Int) : Option AV :=
  bif decide (u8 < u7) then ck (decide (0 ≤ u8)) <| ck (decide (u8 < (↑u6n : Int))) <| ck (fitK (LK.f .f64) (u6g u8.toNat 0)) <| ck (sBits.ok [AV.flt .f64 (toF (u6g u8.toNat 0))]) <| bif bif decide (IntKind.u64.wrap (↑(BitVec.ofInt 64 ((↑((toF (u6g u8.toNat 0)).getD 0) : Int).fdiv (2 ^ 52)) &&& BitVec.ofInt 64 2047).toNat : Int) < 200) then true else decide (IntKind.u64.wrap (↑(BitVec.ofInt 64 ((↑((toF (u6g u8.toNat 0)).getD 0) : Int).fdiv (2 ^ 52)) &&& BitVec.ofInt 64 2047).toNat : Int) > 1900) then kx0 (false)
    else kn (IntKind.i64.wrap (u8 + 1))
  else kx1
noncomputable def ground_plain_l0 (fuel : Nat) (kx0 : Bool → Option AV) (kx1 : Option AV) (u6n u6r : Nat) (u6g : Ge) (u7 : Int) : Nat → Int → Option AV
  | 0, _ => none
  | n' + 1, u8 => ground_plain_l0_step fuel (ground_plain_l0 fuel kx0 kx1 u6n u6r u6g u7 n') kx0 kx1 u6n u6r u6g u7 u8
noncomputable def Tround_plain_0 : TS' := ⟨[(6, TA.ro 1), (7, TA.i .i64), (8, TA.i .i64)], [], []⟩
noncomputable def Fround_plain_0 (fuel : Nat) (ps : List Pay) (K : Ex → St → Option AV) : Option AV := match ps with
  | .n u6n :: .n u6r :: .g u6g :: .i u7 :: .i u8 :: [] => ground_plain_l0 fuel (fun po => K (Ex.ret) (Xround_plain_0_0 po)) (K (Ex.exit 0) Xround_plain_0_1) u6n u6r u6g u7 fuel u8
  | _ => none
noncomputable def Lround_plain (fuel : Nat) : Lam AV := [(8388404, lam Tround_plain_0 (Fround_plain_0 fuel))]
noncomputable def Ground_plain : Gam := [(55, Go.Am.sBits)]
noncomputable def Cround_plain (fuel : Nat) : CallI AV := callX (Ground_plain) (execFn Pr (Ground_plain) [((6, 73), Lround_plain fuel)] fuel 6)
theorem ground_plain_l0_eq (fuel : Nat) (kn : St → Option AV) (K : Ex → St → Option AV) (u6n u6r : Nat) (u6g : Ge) (u7 u80 u8 : Int) :
    exec Pr (Ground_plain) (Lround_plain fuel) (fnNt Pr 73) fuel (Cround_plain fuel) (lp Pr 73 0).1 (lp Pr 73 0).2 (live (lp Pr 73 0).1 (lp Pr 73 0).2 0) (Sround_plain_0 u6n u6r u6g u7 u8) (fun e s => match e with | .normal => kn (headN (live (lp Pr 73 0).1 (lp Pr 73 0).2 0) (writes (lp Pr 73 0).1) (Sround_plain_0 u6n u6r u6g u7 u80) s) | e => K e s) =
    ground_plain_l0_step fuel (fun u8 => kn (Sround_plain_0 u6n u6r u6g u7 u8)) (fun xu2 => K (Ex.ret) (Xround_plain_0_0 xu2)) (K (Ex.exit 0) Xround_plain_0_1) u6n u6r u6g u7 u8 := by kernel_rfl
theorem ground_plain_l0_ok (fuel : Nat) (K : Ex → St → Option AV) (u6n u6r : Nat) (u6g : Ge) (u7 u80 : Int) : ∀ (n' : Nat) (u8 : Int),
    loopK (exec Pr (Ground_plain) (Lround_plain fuel) (fnNt Pr 73) fuel (Cround_plain fuel) (lp Pr 73 0).1 (lp Pr 73 0).2 (live (lp Pr 73 0).1 (lp Pr 73 0).2 0)) (headN (live (lp Pr 73 0).1 (lp Pr 73 0).2 0) (writes (lp Pr 73 0).1) (Sround_plain_0 u6n u6r u6g u7 u80)) n' (Sround_plain_0 u6n u6r u6g u7 u8) K = ground_plain_l0 fuel (fun xu2 => K (Ex.ret) (Xround_plain_0_0 xu2)) (K (Ex.exit 0) Xround_plain_0_1) u6n u6r u6g u7 n' u8
  | 0, _ => rfl
  | n' + 1, u8 => (ground_plain_l0_eq fuel (fun s => loopK (exec Pr (Ground_plain) (Lround_plain fuel) (fnNt Pr 73) fuel (Cround_plain fuel) (lp Pr 73 0).1 (lp Pr 73 0).2 (live (lp Pr 73 0).1 (lp Pr 73 0).2 0)) (headN (live (lp Pr 73 0).1 (lp Pr 73 0).2 0) (writes (lp Pr 73 0).1) (Sround_plain_0 u6n u6r u6g u7 u80)) n' s K) K u6n u6r u6g u7 u80 u8).trans
    (congrArg (fun kn => ground_plain_l0_step fuel kn (fun xu2 => K (Ex.ret) (Xround_plain_0_0 xu2)) (K (Ex.exit 0) Xround_plain_0_1) u6n u6r u6g u7 u8) (funext fun _ => ground_plain_l0_ok fuel K u6n u6r u6g u7 u80 n' _))
theorem ground_plain_L0 (fuel : Nat) : LOk Pr (Ground_plain) (Lround_plain fuel) (fnNt Pr 73) fuel (Cround_plain fuel) (lp Pr 73 0) := by
  refine .of Tround_plain_0 (Fround_plain_0 fuel) (fun L h => ?_) (fun ps st K r he hr => ?_)
  · have e : (Lround_plain fuel).get (writes (lp Pr 73 0).1) = some (lam Tround_plain_0 (Fround_plain_0 fuel)) := by kernel_rfl
    exact (Option.some.inj (e.symm.trans h)).symm
  · unfold Fround_plain_0 at hr
    split at hr
    · obtain rfl := (Option.some.inj he).symm
      exact (ground_plain_l0_ok fuel K _ _ _ _ _ fuel _).trans hr
    · cases hr
noncomputable def ground_plain (fuel vf yo : Nat) (v4 : Ge) : Option AV :=
  ground_plain_l0 fuel
    (fun (xu2 : Bool) => some (AV.bool xu2))
    (some (AV.bool true))
    (vf)
    (yo)
    (v4)
    ((↑vf : Int)) fuel (0)
theorem ground_plain_run (fuel vf yo : Nat) (v4 : Ge) : run Pr (Ground_plain) [((6, 73), Lround_plain fuel)] fuel 7 73 [AV.ro 1 vf yo v4] = ground_plain fuel vf yo v4 := by kernel_rfl
noncomputable def mround_plain (fuel : Nat) (xs : List AV) : Option AV := match xs with
  | [AV.ro 1 vf yo v4] => ground_plain fuel vf yo v4
  | _ => none
abbrev Rround_plain : List RS := [RS.one LK.b]
theorem ground_plain_sm (fuel : Nat) (hΓ : GamOk Pr (Ground_plain)) (hP : NamesOk Pr) : SmOk Pr 73 (smM Rround_plain (mround_plain fuel)) := by
  refine smM_ok (fuel := fuel) hΓ hP (LamOk.of 6 73 (Lround_plain fuel) 1 (by kernel_rfl) (fun i hi => ?_)) 7 73 Rround_plain _ (fun xs v h => ?_)
  · match i, hi with
    | 0, _ => exact ground_plain_L0 fuel
    | i + 1, hi => exact absurd hi (by omega)
  · unfold mround_plain at h
    split at h
    · exact (ground_plain_run fuel _ _ _).trans h
    · cases h
noncomputable def Lround_sign (fuel : Nat) : Lam AV := []
noncomputable def Ground_sign : Gam := []
noncomputable def Cround_sign (fuel : Nat) : CallI AV := callX (Ground_sign) (execFn Pr (Ground_sign) [((6, 75), Lround_sign fuel)] fuel 6)
noncomputable def ground_sign (fuel : Nat) (ux0 : Option Nat) : Option AV :=
  bif ford .f64 ux0 (some 0) == some Ordering.gt then some (AV.int .i64 1)
  else bif ford .f64 ux0 (some 0) == some Ordering.lt then some (AV.int .i64 (-1))
  else some (AV.int .i64 0)
theorem ground_sign_run (fuel : Nat) (ux0 : Option Nat) : run Pr (Ground_sign) [((6, 75), Lround_sign fuel)] fuel 7 75 [AV.flt .f64 ux0] = ground_sign fuel ux0 := by kernel_rfl
noncomputable def mround_sign (fuel : Nat) (xs : List AV) : Option AV := match xs with
  | [AV.flt .f64 ux0] => ground_sign fuel ux0
  | _ => none
abbrev Rround_sign : List RS := [RS.one (LK.i .i64)]
theorem ground_sign_sm (fuel : Nat) (hΓ : GamOk Pr (Ground_sign)) (hP : NamesOk Pr) : SmOk Pr 75 (smM Rround_sign (mround_sign fuel)) := by
  refine smM_ok (fuel := fuel) hΓ hP (LamOk.of 6 75 (Lround_sign fuel) 0 (by kernel_rfl) (fun i hi => ?_)) 7 75 Rround_sign _ (fun xs v h => ?_)
  · match i, hi with
    | i + 0, hi => exact absurd hi (by omega)
  · unfold mround_sign at h
    split at h
    · exact (ground_sign_run fuel _).trans h
    · cases h
noncomputable def Lmath_Signbit (fuel : Nat) : Lam AV := []
noncomputable def Gmath_Signbit : Gam := [(55, Go.Am.sBits)]
noncomputable def Cmath_Signbit (fuel : Nat) : CallI AV := callX (Gmath_Signbit) (execFn Pr (Gmath_Signbit) [((6, 91), Lmath_Signbit fuel)] fuel 6)
noncomputable def gmath_Signbit (fuel : Nat) (ux0 : Option Nat) : Option AV :=
  ck (sBits.ok [AV.flt .f64 ux0]) <| some (AV.bool (decide (IntKind.i64.wrap (↑(ux0.getD 0) : Int) < 0)))
theorem gmath_Signbit_run (fuel : Nat) (ux0 : Option Nat) : run Pr (Gmath_Signbit) [((6, 91), Lmath_Signbit fuel)] fuel 7 91 [AV.flt .f64 ux0] = gmath_Signbit fuel ux0 := by kernel_rfl
noncomputable def mmath_Signbit (fuel : Nat) (xs : List AV) : Option AV := match xs with
  | [AV.flt .f64 ux0] => gmath_Signbit fuel ux0
  | _ => none
abbrev Rmath_Signbit : List RS := [RS.one LK.b]
theorem gmath_Signbit_sm (fuel : Nat) (hΓ : GamOk Pr (Gmath_Signbit)) (hP : NamesOk Pr) : SmOk Pr 91 (smM Rmath_Signbit (mmath_Signbit fuel)) := by
  refine smM_ok (fuel := fuel) hΓ hP (LamOk.of 6 91 (Lmath_Signbit fuel) 0 (by kernel_rfl) (fun i hi => ?_)) 7 91 Rmath_Signbit _ (fun xs v h => ?_)
  · match i, hi with
    | i + 0, hi => exact absurd hi (by omega)
  · unfold mmath_Signbit at h
    split at h
    · exact (gmath_Signbit_run fuel _).trans h
    · cases h
noncomputable def Lmath_Copysign (fuel : Nat) : Lam AV := []
noncomputable def Gmath_Copysign : Gam := [(55, Go.Am.sBits), (101, Go.Am.sFrom)]
noncomputable def Cmath_Copysign (fuel : Nat) : CallI AV := callX (Gmath_Copysign) (execFn Pr (Gmath_Copysign) [((6, 92), Lmath_Copysign fuel)] fuel 6)
noncomputable def gmath_Copysign (fuel : Nat) (uf0 qc1 : Option Nat) : Option AV :=
  ck (sBits.ok [AV.flt .f64 uf0]) <| ck (sBits.ok [AV.flt .f64 qc1]) <| ck (sFrom.ok [AV.int .u64 (IntKind.u64.wrap (↑(BitVec.ofInt 64 (IntKind.u64.wrap (↑(BitVec.ofInt 64 (↑(uf0.getD 0) : Int) &&& ~~~BitVec.ofInt 64 9223372036854775808).toNat : Int)) ||| BitVec.ofInt 64 (IntKind.u64.wrap (↑(BitVec.ofInt 64 (↑(qc1.getD 0) : Int) &&& BitVec.ofInt 64 9223372036854775808).toNat : Int))).toNat : Int))]) <| some (AV.flt .f64 (some (IntKind.u64.wrap (↑(BitVec.ofInt 64 (IntKind.u64.wrap (↑(BitVec.ofInt 64 (↑(uf0.getD 0) : Int) &&& ~~~BitVec.ofInt 64 9223372036854775808).toNat : Int)) ||| BitVec.ofInt 64 (IntKind.u64.wrap (↑(BitVec.ofInt 64 (↑(qc1.getD 0) : Int) &&& BitVec.ofInt 64 9223372036854775808).toNat : Int))).toNat : Int)).toNat))
theorem gmath_Copysign_run (fuel : Nat) (uf0 qc1 : Option Nat) : run Pr (Gmath_Copysign) [((6, 92), Lmath_Copysign fuel)] fuel 7 92 [AV.flt .f64 uf0, AV.flt .f64 qc1] = gmath_Copysign fuel uf0 qc1 := by kernel_rfl
noncomputable def mmath_Copysign (fuel : Nat) (xs : List AV) : Option AV := match xs with
  | [AV.flt .f64 uf0, AV.flt .f64 qc1] => gmath_Copysign fuel uf0 qc1
  | _ => none
abbrev Rmath_Copysign : List RS := [RS.one (LK.f .f64)]
theorem gmath_Copysign_sm (fuel : Nat) (hΓ : GamOk Pr (Gmath_Copysign)) (hP : NamesOk Pr) : SmOk Pr 92 (smM Rmath_Copysign (mmath_Copysign fuel)) := by
  refine smM_ok (fuel := fuel) hΓ hP (LamOk.of 6 92 (Lmath_Copysign fuel) 0 (by kernel_rfl) (fun i hi => ?_)) 7 92 Rmath_Copysign _ (fun xs v h => ?_)
  · match i, hi with
    | i + 0, hi => exact absurd hi (by omega)
  · unfold mmath_Copysign at h
    split at h
    · exact (gmath_Copysign_run fuel _ _).trans h
    · cases h
noncomputable def Lround_step (fuel : Nat) : Lam AV := []
noncomputable def Ground_step : Gam := [(55, Go.Am.sBits), (101, Go.Am.sFrom)]
noncomputable def Cround_step (fuel : Nat) : CallI AV := callX (Ground_step) (execFn Pr (Ground_step) [((6, 93), Lround_step fuel)] fuel 6)
noncomputable def ground_step (fuel : Nat) (ux0 : Option Nat) (up1 : Bool) : Option AV :=
  ck (sBits.ok [AV.flt .f64 ux0]) <| bif ford .f64 ux0 (some 0) == some Ordering.eq then bif !up1 then ck (sFrom.ok [AV.int .u64 (IntKind.u64.wrap (↑9223372036854775809 : Int))]) <| some (AV.flt .f64 (some 9223372036854775809))
    else ck (sFrom.ok [AV.int .u64 1]) <| some (AV.flt .f64 (some 1))
  else bif up1 == (ford .f64 ux0 (some 0) == some Ordering.gt) then ck (sFrom.ok [AV.int .u64 (IntKind.u64.wrap ((↑(ux0.getD 0) : Int) + 1))]) <| some (AV.flt .f64 (some (IntKind.u64.wrap ((↑(ux0.getD 0) : Int) + 1)).toNat))
  else ck (sFrom.ok [AV.int .u64 (IntKind.u64.wrap ((↑(ux0.getD 0) : Int) - 1))]) <| some (AV.flt .f64 (some (IntKind.u64.wrap ((↑(ux0.getD 0) : Int) - 1)).toNat))
theorem ground_step_run (fuel : Nat) (ux0 : Option Nat) (up1 : Bool) : run Pr (Ground_step) [((6, 93), Lround_step fuel)] fuel 7 93 [AV.flt .f64 ux0, AV.bool up1] = ground_step fuel ux0 up1 := by kernel_rfl
noncomputable def mround_step (fuel : Nat) (xs : List AV) : Option AV := match xs with
  | [AV.flt .f64 ux0, AV.bool up1] => ground_step fuel ux0 up1
  | _ => none
abbrev Rround_step : List RS := [RS.one (LK.f .f64)]
theorem ground_step_sm (fuel : Nat) (hΓ : GamOk Pr (Ground_step)) (hP : NamesOk Pr) : SmOk Pr 93 (smM Rround_step (mround_step fuel)) := by
  refine smM_ok (fuel := fuel) hΓ hP (LamOk.of 6 93 (Lround_step fuel) 0 (by kernel_rfl) (fun i hi => ?_)) 7 93 Rround_step _ (fun xs v h => ?_)
  · match i, hi with
    | i + 0, hi => exact absurd hi (by omega)
  · unfold mround_step at h
    split at h
    · exact (ground_step_run fuel _ _).trans h
    · cases h
noncomputable def Lround_settle (wf qm : Mo) (w9 z2 : Mo) (fuel : Nat) : Lam AV := []
noncomputable def Ground_settle (wf qm : Mo) (w9 z2 : Mo) : Gam := [(91, smM [RS.one LK.b] wf), (90, smM [RS.one LK.b] qm), (92, smM [RS.one (LK.f .f64)] w9), (93, smM [RS.one (LK.f .f64)] z2)]
noncomputable def Cround_settle (wf qm : Mo) (w9 z2 : Mo) (fuel : Nat) : CallI AV := callX (Ground_settle wf qm w9 z2) (execFn Pr (Ground_settle wf qm w9 z2) [((6, 74), Lround_settle wf qm w9 z2 fuel)] fuel 6)
noncomputable def ground_settle (wf qm : Mo) (w9 z2 : Mo) (fuel : Nat) (pf : Option Nat) (qf0 um2 : Int) : Option AV :=
  bif um2 == 3 then ck (okM [RS.one LK.b] (wf [AV.flt .f64 pf])) <| bif toB (getV (wf [AV.flt .f64 pf])) then ck (okM [RS.one LK.b] (qm [AV.flt .f64 pf, AV.int .i64 0])) <| bif toB (getV (qm [AV.flt .f64 pf, AV.int .i64 0])) then bif bif bif ford .f64 pf (some 0) == some Ordering.gt then false else false then true else bif ford .f64 pf (some 0) == some Ordering.lt then true else false then ck (okM [RS.one (LK.f .f64)] (w9 [AV.flt .f64 (some 9218868437227405311), AV.flt .f64 pf])) <| some (AV.flt .f64 (toF (getV (w9 [AV.flt .f64 (some 9218868437227405311), AV.flt .f64 pf]))))
        else some (AV.flt .f64 pf)
      else bif bif bif decide (qf0 < 0) then false else false then true else bif decide (qf0 > 0) then true else false then ck (okM [RS.one (LK.f .f64)] (z2 [AV.flt .f64 pf, AV.bool (decide (qf0 > 0))])) <| some (AV.flt .f64 (toF (getV (z2 [AV.flt .f64 pf, AV.bool (decide (qf0 > 0))]))))
      else some (AV.flt .f64 pf)
    else ck (okM [RS.one LK.b] (qm [AV.flt .f64 pf, AV.int .i64 0])) <| bif toB (getV (qm [AV.flt .f64 pf, AV.int .i64 0])) then bif bif bif ford .f64 pf (some 0) == some Ordering.gt then true else false then true else bif ford .f64 pf (some 0) == some Ordering.lt then false else false then ck (okM [RS.one (LK.f .f64)] (w9 [AV.flt .f64 (some 9218868437227405311), AV.flt .f64 pf])) <| some (AV.flt .f64 (toF (getV (w9 [AV.flt .f64 (some 9218868437227405311), AV.flt .f64 pf]))))
      else some (AV.flt .f64 pf)
    else bif bif bif decide (qf0 < 0) then true else false then true else bif decide (qf0 > 0) then false else false then ck (okM [RS.one (LK.f .f64)] (z2 [AV.flt .f64 pf, AV.bool (decide (qf0 > 0))])) <| some (AV.flt .f64 (toF (getV (z2 [AV.flt .f64 pf, AV.bool (decide (qf0 > 0))]))))
    else some (AV.flt .f64 pf)
  else ck (okM [RS.one LK.b] (qm [AV.flt .f64 pf, AV.int .i64 0])) <| bif toB (getV (qm [AV.flt .f64 pf, AV.int .i64 0])) then bif bif bif ford .f64 pf (some 0) == some Ordering.gt then um2 == 1 else false then true else bif ford .f64 pf (some 0) == some Ordering.lt then um2 == 2 else false then ck (okM [RS.one (LK.f .f64)] (w9 [AV.flt .f64 (some 9218868437227405311), AV.flt .f64 pf])) <| some (AV.flt .f64 (toF (getV (w9 [AV.flt .f64 (some 9218868437227405311), AV.flt .f64 pf]))))
    else some (AV.flt .f64 pf)
  else bif bif bif decide (qf0 < 0) then um2 == 1 else false then true else bif decide (qf0 > 0) then um2 == 2 else false then ck (okM [RS.one (LK.f .f64)] (z2 [AV.flt .f64 pf, AV.bool (decide (qf0 > 0))])) <| some (AV.flt .f64 (toF (getV (z2 [AV.flt .f64 pf, AV.bool (decide (qf0 > 0))]))))
  else some (AV.flt .f64 pf)
theorem ground_settle_run (wf qm : Mo) (w9 z2 : Mo) (fuel : Nat) (pf : Option Nat) (qf0 um2 : Int) : run Pr (Ground_settle wf qm w9 z2) [((6, 74), Lround_settle wf qm w9 z2 fuel)] fuel 7 74 [AV.flt .f64 pf, AV.int .i64 qf0, AV.int .i8 um2] = ground_settle wf qm w9 z2 fuel pf qf0 um2 := by kernel_rfl
noncomputable def mround_settle (wf qm : Mo) (w9 z2 : Mo) (fuel : Nat) (xs : List AV) : Option AV := match xs with
  | [AV.flt .f64 pf, AV.int .i64 qf0, AV.int .i8 um2] => ground_settle wf qm w9 z2 fuel pf qf0 um2
  | _ => none
abbrev Rround_settle : List RS := [RS.one (LK.f .f64)]
theorem ground_settle_sm (wf qm : Mo) (w9 z2 : Mo) (fuel : Nat) (hΓ : GamOk Pr (Ground_settle wf qm w9 z2)) (hP : NamesOk Pr) : SmOk Pr 74 (smM Rround_settle (mround_settle wf qm w9 z2 fuel)) := by
  refine smM_ok (fuel := fuel) hΓ hP (LamOk.of 6 74 (Lround_settle wf qm w9 z2 fuel) 0 (by kernel_rfl) (fun i hi => ?_)) 7 74 Rround_settle _ (fun xs v h => ?_)
  · match i, hi with
    | i + 0, hi => exact absurd hi (by omega)
  · unfold mround_settle at h
    split at h
    · exact (ground_settle_run wf qm w9 z2 fuel _ _ _).trans h
    · cases h
noncomputable def Lround_Sqrt (qz zc : Mo) (qv qy : Mo) (qw qt : Mo) (we q0 q7 : Mo) (fuel : Nat) : Lam AV := []
noncomputable def Ground_Sqrt (qz zc : Mo) (qv qy : Mo) (qw qt : Mo) (we q0 q7 : Mo) : Gam := [(70, smM [RS.one (LK.i .i8)] qz), (71, smM [RS.one (LK.f .f64)] zc), (72, smM [RS.one LK.b] qv), (73, smM [RS.one LK.b] qy), (75, smM [RS.one (LK.i .i64)] qw), (74, smM [RS.one (LK.f .f64)] qt), (78, smM [RS.agg [LK.b, LK.l (nat_lit 1), LK.i .i64]] we), (79, smM [RS.agg [LK.b, LK.l (nat_lit 1), LK.i .i64]] q0), (77, smM [RS.one (LK.i .i64)] q7), (76, Go.Am.sFma)]
noncomputable def Cround_Sqrt (qz zc : Mo) (qv qy : Mo) (qw qt : Mo) (we q0 q7 : Mo) (fuel : Nat) : CallI AV := callX (Ground_Sqrt qz zc qv qy qw qt we q0 q7) (execFn Pr (Ground_Sqrt qz zc qv qy qw qt we q0 q7) [((6, 60), Lround_Sqrt qz zc qv qy qw qt we q0 q7 fuel)] fuel 6)
noncomputable def ground_Sqrt (qz zc : Mo) (qv qy : Mo) (qw qt : Mo) (we q0 q7 : Mo) (fuel : Nat) (ua0 : Option Nat) (um1 : Int) : Option AV :=
  ck (okM [RS.one (LK.i .i8)] (qz [AV.int .i8 um1])) <| ck (okM [RS.one (LK.f .f64)] (zc [AV.flt .f64 ua0])) <| ck (okM [RS.one LK.b] (qv [AV.ro 1 1 1 fun (i j : Nat) => ([[AV.flt .f64 ua0]].getD i []).getD j AV.dead])) <| bif bif !toB (getV (qv [AV.ro 1 1 1 fun (i j : Nat) => ([[AV.flt .f64 ua0]].getD i []).getD j AV.dead])) then true else ford .f64 ua0 (some 0) == some Ordering.lt || ford .f64 ua0 (some 0) == some Ordering.eq then some (AV.flt .f64 (toF (getV (zc [AV.flt .f64 ua0]))))
  else ck (okM [RS.one LK.b] (qy [AV.ro 1 1 1 fun (i j : Nat) => ([[AV.flt .f64 ua0]].getD i []).getD j AV.dead])) <| bif toB (getV (qy [AV.ro 1 1 1 fun (i j : Nat) => ([[AV.flt .f64 ua0]].getD i []).getD j AV.dead])) then ck (sFma.ok [AV.flt .f64 (Option.map (Op.negFloat .f64) (toF (getV (zc [AV.flt .f64 ua0])))), AV.flt .f64 (toF (getV (zc [AV.flt .f64 ua0]))), AV.flt .f64 ua0]) <| ck (okM [RS.one (LK.i .i64)] (qw [AV.flt .f64 ((Option.map (Op.negFloat .f64) (toF (getV (zc [AV.flt .f64 ua0])))).bind fun (x : Nat) => (toF (getV (zc [AV.flt .f64 ua0]))).bind fun (y : Nat) => ua0.bind fun (z : Nat) => FloatKind.f64.format.fma x y z)])) <| ck (okM [RS.one (LK.f .f64)] (qt [AV.flt .f64 (toF (getV (zc [AV.flt .f64 ua0]))), AV.int .i64 (toI (getV (qw [AV.flt .f64 ((Option.map (Op.negFloat .f64) (toF (getV (zc [AV.flt .f64 ua0])))).bind fun (x : Nat) => (toF (getV (zc [AV.flt .f64 ua0]))).bind fun (y : Nat) => ua0.bind fun (z : Nat) => FloatKind.f64.format.fma x y z)]))), AV.int .i8 (toI (getV (qz [AV.int .i8 um1])))])) <| some (AV.flt .f64 (toF (getV (qt [AV.flt .f64 (toF (getV (zc [AV.flt .f64 ua0]))), AV.int .i64 (toI (getV (qw [AV.flt .f64 ((Option.map (Op.negFloat .f64) (toF (getV (zc [AV.flt .f64 ua0])))).bind fun (x : Nat) => (toF (getV (zc [AV.flt .f64 ua0]))).bind fun (y : Nat) => ua0.bind fun (z : Nat) => FloatKind.f64.format.fma x y z)]))), AV.int .i8 (toI (getV (qz [AV.int .i8 um1])))]))))
  else let r0 : Option AV := we [AV.flt .f64 ua0]; ck (okM [RS.agg [LK.b, LK.l 1, LK.i .i64]] r0) <| let r1 : Option AV := we [AV.flt .f64 (toF (getV (zc [AV.flt .f64 ua0])))]; ck (okM [RS.agg [LK.b, LK.l 1, LK.i .i64]] r1) <| let r2 : Option AV := we [AV.flt .f64 (toF (getV (zc [AV.flt .f64 ua0])))]; ck (okM [RS.agg [LK.b, LK.l 1, LK.i .i64]] r2) <| let r3 : Option AV := q0 [AV.agg [AV.bool (toB ((toC (getV r1)).headD AV.dead)), AV.ro 1 (toN ((toC (getV r1)).tail.headD AV.dead)) (toR ((toC (getV r1)).tail.headD AV.dead)) (toG ((toC (getV r1)).tail.headD AV.dead)), AV.int .i64 (toI ((toC (getV r1)).tail.tail.headD AV.dead))], AV.agg [AV.bool (toB ((toC (getV r2)).headD AV.dead)), AV.ro 1 (toN ((toC (getV r2)).tail.headD AV.dead)) (toR ((toC (getV r2)).tail.headD AV.dead)) (toG ((toC (getV r2)).tail.headD AV.dead)), AV.int .i64 (toI ((toC (getV r2)).tail.tail.headD AV.dead))]]; ck (okM [RS.agg [LK.b, LK.l 1, LK.i .i64]] r3) <| ck (okM [RS.one (LK.i .i64)] (q7 [AV.agg [AV.bool (toB ((toC (getV r0)).headD AV.dead)), AV.ro 1 (toN ((toC (getV r0)).tail.headD AV.dead)) (toR ((toC (getV r0)).tail.headD AV.dead)) (toG ((toC (getV r0)).tail.headD AV.dead)), AV.int .i64 (toI ((toC (getV r0)).tail.tail.headD AV.dead))], AV.agg [AV.bool (toB ((toC (getV r3)).headD AV.dead)), AV.ro 1 (toN ((toC (getV r3)).tail.headD AV.dead)) (toR ((toC (getV r3)).tail.headD AV.dead)) (toG ((toC (getV r3)).tail.headD AV.dead)), AV.int .i64 (toI ((toC (getV r3)).tail.tail.headD AV.dead))]])) <| ck (okM [RS.one (LK.f .f64)] (qt [AV.flt .f64 (toF (getV (zc [AV.flt .f64 ua0]))), AV.int .i64 (toI (getV (q7 [AV.agg [AV.bool (toB ((toC (getV r0)).headD AV.dead)), AV.ro 1 (toN ((toC (getV r0)).tail.headD AV.dead)) (toR ((toC (getV r0)).tail.headD AV.dead)) (toG ((toC (getV r0)).tail.headD AV.dead)), AV.int .i64 (toI ((toC (getV r0)).tail.tail.headD AV.dead))], AV.agg [AV.bool (toB ((toC (getV r3)).headD AV.dead)), AV.ro 1 (toN ((toC (getV r3)).tail.headD AV.dead)) (toR ((toC (getV r3)).tail.headD AV.dead)) (toG ((toC (getV r3)).tail.headD AV.dead)), AV.int .i64 (toI ((toC (getV r3)).tail.tail.headD AV.dead))]]))), AV.int .i8 (toI (getV (qz [AV.int .i8 um1])))])) <| some (AV.flt .f64 (toF (getV (qt [AV.flt .f64 (toF (getV (zc [AV.flt .f64 ua0]))), AV.int .i64 (toI (getV (q7 [AV.agg [AV.bool (toB ((toC (getV r0)).headD AV.dead)), AV.ro 1 (toN ((toC (getV r0)).tail.headD AV.dead)) (toR ((toC (getV r0)).tail.headD AV.dead)) (toG ((toC (getV r0)).tail.headD AV.dead)), AV.int .i64 (toI ((toC (getV r0)).tail.tail.headD AV.dead))], AV.agg [AV.bool (toB ((toC (getV r3)).headD AV.dead)), AV.ro 1 (toN ((toC (getV r3)).tail.headD AV.dead)) (toR ((toC (getV r3)).tail.headD AV.dead)) (toG ((toC (getV r3)).tail.headD AV.dead)), AV.int .i64 (toI ((toC (getV r3)).tail.tail.headD AV.dead))]]))), AV.int .i8 (toI (getV (qz [AV.int .i8 um1])))]))))
theorem ground_Sqrt_run (qz zc : Mo) (qv qy : Mo) (qw qt : Mo) (we q0 q7 : Mo) (fuel : Nat) (ua0 : Option Nat) (um1 : Int) : run Pr (Ground_Sqrt qz zc qv qy qw qt we q0 q7) [((6, 60), Lround_Sqrt qz zc qv qy qw qt we q0 q7 fuel)] fuel 7 60 [AV.flt .f64 ua0, AV.int .i8 um1] = ground_Sqrt qz zc qv qy qw qt we q0 q7 fuel ua0 um1 := by kernel_rfl
noncomputable def mround_Sqrt (qz zc : Mo) (qv qy : Mo) (qw qt : Mo) (we q0 q7 : Mo) (fuel : Nat) (xs : List AV) : Option AV := match xs with
  | [AV.flt .f64 ua0, AV.int .i8 um1] => ground_Sqrt qz zc qv qy qw qt we q0 q7 fuel ua0 um1
  | _ => none
abbrev Rround_Sqrt : List RS := [RS.one (LK.f .f64)]
theorem ground_Sqrt_sm (qz zc : Mo) (qv qy : Mo) (qw qt : Mo) (we q0 q7 : Mo) (fuel : Nat) (hΓ : GamOk Pr (Ground_Sqrt qz zc qv qy qw qt we q0 q7)) (hP : NamesOk Pr) : SmOk Pr 60 (smM Rround_Sqrt (mround_Sqrt qz zc qv qy qw qt we q0 q7 fuel)) := by
  refine smM_ok (fuel := fuel) hΓ hP (LamOk.of 6 60 (Lround_Sqrt qz zc qv qy qw qt we q0 q7 fuel) 0 (by kernel_rfl) (fun i hi => ?_)) 7 60 Rround_Sqrt _ (fun xs v h => ?_)
  · match i, hi with
    | i + 0, hi => exact absurd hi (by omega)
  · unfold mround_Sqrt at h
    split at h
    · exact (ground_Sqrt_run qz zc qv qy qw qt we q0 q7 fuel _ _).trans h
    · cases h
noncomputable def Ljoints_Length (wg z3 : Mo) (fuel : Nat) : Lam AV := []
noncomputable def Gjoints_Length (wg z3 : Mo) : Gam := [(38, smM [RS.one (LK.i .i64), RS.one (LK.i .i64), RS.one (LK.i .i64)] wg), (60, smM [RS.one (LK.f .f64)] z3)]
noncomputable def Cjoints_Length (wg z3 : Mo) (fuel : Nat) : CallI AV := callX (Gjoints_Length wg z3) (execFn Pr (Gjoints_Length wg z3) [((6, 39), Ljoints_Length wg z3 fuel)] fuel 6)
noncomputable def gjoints_Length (wg z3 : Mo) (fuel : Nat) (w2 : ByteArray) (za qaa qa0 : Int) (w3 : ByteArray) (w5 p9 qaz : Int) : Option AV :=
  let r0 : Option AV := wg [AV.agg [AV.str w2, AV.int .i32 za, AV.int .i32 qaa, AV.int .u8 qa0], AV.agg [AV.str w3, AV.int .i32 w5, AV.int .i32 p9, AV.int .u8 qaz]]; ck (okM [RS.one (LK.i .i64), RS.one (LK.i .i64), RS.one (LK.i .i64)] r0) <| ck (okM [RS.one (LK.f .f64)] (z3 [AV.flt .f64 (some (FloatKind.f64.nearest (toI ((toT (getV r0)).tail.tail.headD AV.dead)))), AV.int .i8 1])) <| ck (okM [RS.one (LK.f .f64)] (z3 [AV.flt .f64 (some (FloatKind.f64.nearest (toI ((toT (getV r0)).tail.tail.headD AV.dead)))), AV.int .i8 2])) <| ck (okM [RS.one (LK.f .f64)] (z3 [AV.flt .f64 (some (FloatKind.f64.nearest (toI ((toT (getV r0)).tail.tail.headD AV.dead)))), AV.int .i8 0])) <| some (AV.tup [AV.agg [AV.flt .f64 (toF (getV (z3 [AV.flt .f64 (some (FloatKind.f64.nearest (toI ((toT (getV r0)).tail.tail.headD AV.dead)))), AV.int .i8 1]))), AV.flt .f64 (toF (getV (z3 [AV.flt .f64 (some (FloatKind.f64.nearest (toI ((toT (getV r0)).tail.tail.headD AV.dead)))), AV.int .i8 2])))], AV.flt .f64 (toF (getV (z3 [AV.flt .f64 (some (FloatKind.f64.nearest (toI ((toT (getV r0)).tail.tail.headD AV.dead)))), AV.int .i8 0])))])
theorem gjoints_Length_run (wg z3 : Mo) (fuel : Nat) (w2 : ByteArray) (za qaa qa0 : Int) (w3 : ByteArray) (w5 p9 qaz : Int) : run Pr (Gjoints_Length wg z3) [((6, 39), Ljoints_Length wg z3 fuel)] fuel 7 39 [AV.agg [AV.str w2, AV.int .i32 za, AV.int .i32 qaa, AV.int .u8 qa0], AV.agg [AV.str w3, AV.int .i32 w5, AV.int .i32 p9, AV.int .u8 qaz]] = gjoints_Length wg z3 fuel w2 za qaa qa0 w3 w5 p9 qaz := by kernel_rfl
noncomputable def mjoints_Length (wg z3 : Mo) (fuel : Nat) (xs : List AV) : Option AV := match xs with
  | [AV.agg [AV.str w2, AV.int .i32 za, AV.int .i32 qaa, AV.int .u8 qa0], AV.agg [AV.str w3, AV.int .i32 w5, AV.int .i32 p9, AV.int .u8 qaz]] => gjoints_Length wg z3 fuel w2 za qaa qa0 w3 w5 p9 qaz
  | _ => none
abbrev Rjoints_Length : List RS := [RS.agg [LK.f .f64, LK.f .f64], RS.one (LK.f .f64)]
theorem gjoints_Length_sm (wg z3 : Mo) (fuel : Nat) (hΓ : GamOk Pr (Gjoints_Length wg z3)) (hP : NamesOk Pr) : SmOk Pr 39 (smM Rjoints_Length (mjoints_Length wg z3 fuel)) := by
  refine smM_ok (fuel := fuel) hΓ hP (LamOk.of 6 39 (Ljoints_Length wg z3 fuel) 0 (by kernel_rfl) (fun i hi => ?_)) 7 39 Rjoints_Length _ (fun xs v h => ?_)
  · match i, hi with
    | i + 0, hi => exact absurd hi (by omega)
  · unfold mjoints_Length at h
    split at h
    · exact (gjoints_Length_run wg z3 fuel _ _ _ _ _ _ _ _).trans h
    · cases h
noncomputable def Lbars_one (fuel : Nat) : Lam AV := []
noncomputable def Gbars_one : Gam := []
noncomputable def Cbars_one (fuel : Nat) : CallI AV := callX (Gbars_one) (execFn Pr (Gbars_one) [((6, 42), Lbars_one fuel)] fuel 6)
noncomputable def gbars_one (fuel : Nat) (ux0 : Option Nat) : Option AV :=
  some (AV.agg [AV.flt .f64 ux0, AV.flt .f64 ux0])
theorem gbars_one_run (fuel : Nat) (ux0 : Option Nat) : run Pr (Gbars_one) [((6, 42), Lbars_one fuel)] fuel 7 42 [AV.flt .f64 ux0] = gbars_one fuel ux0 := by kernel_rfl
noncomputable def mbars_one (fuel : Nat) (xs : List AV) : Option AV := match xs with
  | [AV.flt .f64 ux0] => gbars_one fuel ux0
  | _ => none
abbrev Rbars_one : List RS := [RS.agg [LK.f .f64, LK.f .f64]]
theorem gbars_one_sm (fuel : Nat) (hΓ : GamOk Pr (Gbars_one)) (hP : NamesOk Pr) : SmOk Pr 42 (smM Rbars_one (mbars_one fuel)) := by
  refine smM_ok (fuel := fuel) hΓ hP (LamOk.of 6 42 (Lbars_one fuel) 0 (by kernel_rfl) (fun i hi => ?_)) 7 42 Rbars_one _ (fun xs v h => ?_)
  · match i, hi with
    | i + 0, hi => exact absurd hi (by omega)
  · unfold mbars_one at h
    split at h
    · exact (gbars_one_run fuel _).trans h
    · cases h
noncomputable def Lmath_Inf (fuel : Nat) : Lam AV := []
noncomputable def Gmath_Inf : Gam := [(101, Go.Am.sFrom)]
noncomputable def Cmath_Inf (fuel : Nat) : CallI AV := callX (Gmath_Inf) (execFn Pr (Gmath_Inf) [((6, 111), Lmath_Inf fuel)] fuel 6)
noncomputable def gmath_Inf (fuel : Nat) (qlg : Int) : Option AV :=
  bif decide (qlg ≥ 0) then ck (sFrom.ok [AV.int .u64 9218868437227405312]) <| some (AV.flt .f64 (some 9218868437227405312))
  else ck (sFrom.ok [AV.int .u64 18442240474082181120]) <| some (AV.flt .f64 (some 18442240474082181120))
theorem gmath_Inf_run (fuel : Nat) (qlg : Int) : run Pr (Gmath_Inf) [((6, 111), Lmath_Inf fuel)] fuel 7 111 [AV.int .i64 qlg] = gmath_Inf fuel qlg := by kernel_rfl
noncomputable def mmath_Inf (fuel : Nat) (xs : List AV) : Option AV := match xs with
  | [AV.int .i64 qlg] => gmath_Inf fuel qlg
  | _ => none
abbrev Rmath_Inf : List RS := [RS.one (LK.f .f64)]
theorem gmath_Inf_sm (fuel : Nat) (hΓ : GamOk Pr (Gmath_Inf)) (hP : NamesOk Pr) : SmOk Pr 111 (smM Rmath_Inf (mmath_Inf fuel)) := by
  refine smM_ok (fuel := fuel) hΓ hP (LamOk.of 6 111 (Lmath_Inf fuel) 0 (by kernel_rfl) (fun i hi => ?_)) 7 111 Rmath_Inf _ (fun xs v h => ?_)
  · match i, hi with
    | i + 0, hi => exact absurd hi (by omega)
  · unfold mmath_Inf at h
    split at h
    · exact (gmath_Inf_run fuel _).trans h
    · cases h
noncomputable def Lspan_Right (v0 : Mo) (fuel : Nat) : Lam AV := []
noncomputable def Gspan_Right (v0 : Mo) : Gam := [(111, smM [RS.one (LK.f .f64)] v0)]
noncomputable def Cspan_Right (v0 : Mo) (fuel : Nat) : CallI AV := callX (Gspan_Right v0) (execFn Pr (Gspan_Right v0) [((6, 97), Lspan_Right v0 fuel)] fuel 6)
noncomputable def gspan_Right (v0 : Mo) (fuel : Nat) (pp v7 : Option Nat) : Option AV :=
  ck (bif ford .f64 pp v7 == some Ordering.lt || ford .f64 pp v7 == some Ordering.eq then true else true) <| ck (bif ford .f64 pp v7 == some Ordering.lt || ford .f64 pp v7 == some Ordering.eq then okM [RS.one (LK.f .f64)] (v0 [AV.int .i64 1]) else true) <| ck (bif bif ford .f64 pp v7 == some Ordering.lt || ford .f64 pp v7 == some Ordering.eq then ford .f64 pp (toF (getV (v0 [AV.int .i64 1]))) == some Ordering.lt else false then true else true) <| ck (bif bif ford .f64 pp v7 == some Ordering.lt || ford .f64 pp v7 == some Ordering.eq then ford .f64 pp (toF (getV (v0 [AV.int .i64 1]))) == some Ordering.lt else false then okM [RS.one (LK.f .f64)] (v0 [AV.int .i64 (-1)]) else true) <| some (AV.bool (bif bif ford .f64 pp v7 == some Ordering.lt || ford .f64 pp v7 == some Ordering.eq then ford .f64 pp (toF (getV (v0 [AV.int .i64 1]))) == some Ordering.lt else false then ford .f64 v7 (toF (getV (v0 [AV.int .i64 (-1)]))) == some Ordering.gt else false))
theorem gspan_Right_run (v0 : Mo) (fuel : Nat) (pp v7 : Option Nat) : run Pr (Gspan_Right v0) [((6, 97), Lspan_Right v0 fuel)] fuel 7 97 [AV.agg [AV.flt .f64 pp, AV.flt .f64 v7]] = gspan_Right v0 fuel pp v7 := by kernel_rfl
noncomputable def mspan_Right (v0 : Mo) (fuel : Nat) (xs : List AV) : Option AV := match xs with
  | [AV.agg [AV.flt .f64 pp, AV.flt .f64 v7]] => gspan_Right v0 fuel pp v7
  | _ => none
abbrev Rspan_Right : List RS := [RS.one LK.b]
theorem gspan_Right_sm (v0 : Mo) (fuel : Nat) (hΓ : GamOk Pr (Gspan_Right v0)) (hP : NamesOk Pr) : SmOk Pr 97 (smM Rspan_Right (mspan_Right v0 fuel)) := by
  refine smM_ok (fuel := fuel) hΓ hP (LamOk.of 6 97 (Lspan_Right v0 fuel) 0 (by kernel_rfl) (fun i hi => ?_)) 7 97 Rspan_Right _ (fun xs v h => ?_)
  · match i, hi with
    | i + 0, hi => exact absurd hi (by omega)
  · unfold mspan_Right at h
    split at h
    · exact (gspan_Right_run v0 fuel _ _).trans h
    · cases h
noncomputable def Sspan_right_0 (u5n u5r : Nat) (u5g : Ge) (u6 u7 : Int) : St := { env := [(5, AV.ro 2 u5n u5r u5g), (6, AV.int .i64 u6), (7, AV.int .i64 u7)], h := [], kd := [] }
noncomputable def Xspan_right_0_0 (po : Bool) (qc4 qe8 : Option Nat) : St := { env := [(2, AV.bool po)], h := [Blk.box [AV.flt .f64 qc4, AV.flt .f64 qe8]], kd := [] }
noncomputable def Xspan_right_0_1 : St := { env := [], h := [], kd := [] }
noncomputable def gspan_right_l0_step (wd : Mo) (fuel : Nat) (kn : Int → Option AV) (kx0 : Bool → Option Nat → Option Nat → Option AV) (kx1 : Option AV) (u5n u5r : Nat) (u5g : Ge) (u6 u7 : Int) : Option AV :=
  bif decide (u7 < u6) then ck (decide (0 ≤ u7)) <| ck (decide (u7 < (↑u5n : Int))) <| ck (fitKs [LK.f .f64, LK.f .f64] [u5g u7.toNat 0, u5g u7.toNat 1]) <| ck (okM [RS.one LK.b] (wd [AV.agg [AV.flt .f64 (toF (u5g u7.toNat 0)), AV.flt .f64 (toF (u5g u7.toNat 1))]])) <| bif !toB (getV (wd [AV.agg [AV.flt .f64 (toF (u5g u7.toNat 0)), AV.flt .f64 (toF (u5g u7.toNat 1))]])) then kx0 (false) (toF (u5g u7.toNat 0)) (toF (u5g u7.toNat 1))
    else kn (IntKind.i64.wrap (u7 + 1))
  else kx1
noncomputable def gspan_right_l0 (wd : Mo) (fuel : Nat) (kx0 : Bool → Option Nat → Option Nat → Option AV) (kx1 : Option AV) (u5n u5r : Nat) (u5g : Ge) (u6 : Int) : Nat → Int → Option AV
  | 0, _ => none
  | n' + 1, u7 => gspan_right_l0_step wd fuel (gspan_right_l0 wd fuel kx0 kx1 u5n u5r u5g u6 n') kx0 kx1 u5n u5r u5g u6 u7
noncomputable def Tspan_right_0 : TS' := ⟨[(5, TA.ro 2), (6, TA.i .i64), (7, TA.i .i64)], [], []⟩
noncomputable def Fspan_right_0 (wd : Mo) (fuel : Nat) (ps : List Pay) (K : Ex → St → Option AV) : Option AV := match ps with
  | .n u5n :: .n u5r :: .g u5g :: .i u6 :: .i u7 :: [] => gspan_right_l0 wd fuel (fun po qc4 qe8 => K (Ex.ret) (Xspan_right_0_0 po qc4 qe8)) (K (Ex.exit 0) Xspan_right_0_1) u5n u5r u5g u6 fuel u7
  | _ => none
noncomputable def Lspan_right (wd : Mo) (fuel : Nat) : Lam AV := [(32660, lam Tspan_right_0 (Fspan_right_0 wd fuel))]
noncomputable def Gspan_right (wd : Mo) : Gam := [(97, smM [RS.one LK.b] wd)]
noncomputable def Cspan_right (wd : Mo) (fuel : Nat) : CallI AV := callX (Gspan_right wd) (execFn Pr (Gspan_right wd) [((6, 80), Lspan_right wd fuel)] fuel 6)
theorem gspan_right_l0_eq (wd : Mo) (fuel : Nat) (kn : St → Option AV) (K : Ex → St → Option AV) (u5n u5r : Nat) (u5g : Ge) (u6 u70 u7 : Int) :
    exec Pr (Gspan_right wd) (Lspan_right wd fuel) (fnNt Pr 80) fuel (Cspan_right wd fuel) (lp Pr 80 0).1 (lp Pr 80 0).2 (live (lp Pr 80 0).1 (lp Pr 80 0).2 0) (Sspan_right_0 u5n u5r u5g u6 u7) (fun e s => match e with | .normal => kn (headN (live (lp Pr 80 0).1 (lp Pr 80 0).2 0) (writes (lp Pr 80 0).1) (Sspan_right_0 u5n u5r u5g u6 u70) s) | e => K e s) =
    gspan_right_l0_step wd fuel (fun u7 => kn (Sspan_right_0 u5n u5r u5g u6 u7)) (fun xu2 v1 xh0_1 => K (Ex.ret) (Xspan_right_0_0 xu2 v1 xh0_1)) (K (Ex.exit 0) Xspan_right_0_1) u5n u5r u5g u6 u7 := by kernel_rfl
theorem gspan_right_l0_ok (wd : Mo) (fuel : Nat) (K : Ex → St → Option AV) (u5n u5r : Nat) (u5g : Ge) (u6 u70 : Int) : ∀ (n' : Nat) (u7 : Int),
    loopK (exec Pr (Gspan_right wd) (Lspan_right wd fuel) (fnNt Pr 80) fuel (Cspan_right wd fuel) (lp Pr 80 0).1 (lp Pr 80 0).2 (live (lp Pr 80 0).1 (lp Pr 80 0).2 0)) (headN (live (lp Pr 80 0).1 (lp Pr 80 0).2 0) (writes (lp Pr 80 0).1) (Sspan_right_0 u5n u5r u5g u6 u70)) n' (Sspan_right_0 u5n u5r u5g u6 u7) K = gspan_right_l0 wd fuel (fun xu2 v1 xh0_1 => K (Ex.ret) (Xspan_right_0_0 xu2 v1 xh0_1)) (K (Ex.exit 0) Xspan_right_0_1) u5n u5r u5g u6 n' u7
  | 0, _ => rfl
  | n' + 1, u7 => (gspan_right_l0_eq wd fuel (fun s => loopK (exec Pr (Gspan_right wd) (Lspan_right wd fuel) (fnNt Pr 80) fuel (Cspan_right wd fuel) (lp Pr 80 0).1 (lp Pr 80 0).2 (live (lp Pr 80 0).1 (lp Pr 80 0).2 0)) (headN (live (lp Pr 80 0).1 (lp Pr 80 0).2 0) (writes (lp Pr 80 0).1) (Sspan_right_0 u5n u5r u5g u6 u70)) n' s K) K u5n u5r u5g u6 u70 u7).trans
    (congrArg (fun kn => gspan_right_l0_step wd fuel kn (fun xu2 v1 xh0_1 => K (Ex.ret) (Xspan_right_0_0 xu2 v1 xh0_1)) (K (Ex.exit 0) Xspan_right_0_1) u5n u5r u5g u6 u7) (funext fun _ => gspan_right_l0_ok wd fuel K u5n u5r u5g u6 u70 n' _))
theorem gspan_right_L0 (wd : Mo) (fuel : Nat) : LOk Pr (Gspan_right wd) (Lspan_right wd fuel) (fnNt Pr 80) fuel (Cspan_right wd fuel) (lp Pr 80 0) := by
  refine .of Tspan_right_0 (Fspan_right_0 wd fuel) (fun L h => ?_) (fun ps st K r he hr => ?_)
  · have e : (Lspan_right wd fuel).get (writes (lp Pr 80 0).1) = some (lam Tspan_right_0 (Fspan_right_0 wd fuel)) := by kernel_rfl
    exact (Option.some.inj (e.symm.trans h)).symm
  · unfold Fspan_right_0 at hr
    split at hr
    · obtain rfl := (Option.some.inj he).symm
      exact (gspan_right_l0_ok wd fuel K _ _ _ _ _ fuel _).trans hr
    · cases hr
noncomputable def gspan_right (wd : Mo) (fuel vf yo : Nat) (v4 : Ge) : Option AV :=
  gspan_right_l0 wd fuel
    (fun (xu2 : Bool) (_ _ : Option Nat) => some (AV.bool xu2))
    (some (AV.bool true))
    (vf)
    (yo)
    (v4)
    ((↑vf : Int)) fuel (0)
theorem gspan_right_run (wd : Mo) (fuel vf yo : Nat) (v4 : Ge) : run Pr (Gspan_right wd) [((6, 80), Lspan_right wd fuel)] fuel 7 80 [AV.ro 2 vf yo v4] = gspan_right wd fuel vf yo v4 := by kernel_rfl
noncomputable def mspan_right (wd : Mo) (fuel : Nat) (xs : List AV) : Option AV := match xs with
  | [AV.ro 2 vf yo v4] => gspan_right wd fuel vf yo v4
  | _ => none
abbrev Rspan_right : List RS := [RS.one LK.b]
theorem gspan_right_sm (wd : Mo) (fuel : Nat) (hΓ : GamOk Pr (Gspan_right wd)) (hP : NamesOk Pr) : SmOk Pr 80 (smM Rspan_right (mspan_right wd fuel)) := by
  refine smM_ok (fuel := fuel) hΓ hP (LamOk.of 6 80 (Lspan_right wd fuel) 1 (by kernel_rfl) (fun i hi => ?_)) 7 80 Rspan_right _ (fun xs v h => ?_)
  · match i, hi with
    | 0, _ => exact gspan_right_L0 wd fuel
    | i + 1, hi => exact absurd hi (by omega)
  · unfold mspan_right at h
    split at h
    · exact (gspan_right_run wd fuel _ _ _).trans h
    · cases h
noncomputable def Lbits_Place (w6 : Mo) (fuel : Nat) : Lam AV := []
noncomputable def Gbits_Place (w6 : Mo) : Gam := [(100, smM [RS.one (LK.f .f64)] w6), (55, Go.Am.sBits)]
noncomputable def Cbits_Place (w6 : Mo) (fuel : Nat) : CallI AV := callX (Gbits_Place w6) (execFn Pr (Gbits_Place w6) [((6, 152), Lbits_Place w6 fuel)] fuel 6)
noncomputable def gbits_Place (w6 : Mo) (fuel : Nat) (ux0 : Option Nat) : Option AV :=
  bif ford .f64 ux0 ux0 != some Ordering.eq then some (AV.tup [AV.int .i64 0, AV.bool false])
  else ck (okM [RS.one (LK.f .f64)] (w6 [AV.flt .f64 ux0])) <| ck (sBits.ok [AV.flt .f64 (toF (getV (w6 [AV.flt .f64 ux0])))]) <| bif ford .f64 ux0 (some 0) == some Ordering.lt then some (AV.tup [AV.int .i64 (IntKind.i64.wrap (0 - IntKind.i64.wrap (↑((toF (getV (w6 [AV.flt .f64 ux0]))).getD 0) : Int))), AV.bool true])
  else some (AV.tup [AV.int .i64 (IntKind.i64.wrap (↑((toF (getV (w6 [AV.flt .f64 ux0]))).getD 0) : Int)), AV.bool true])
theorem gbits_Place_run (w6 : Mo) (fuel : Nat) (ux0 : Option Nat) : run Pr (Gbits_Place w6) [((6, 152), Lbits_Place w6 fuel)] fuel 7 152 [AV.flt .f64 ux0] = gbits_Place w6 fuel ux0 := by kernel_rfl
noncomputable def mbits_Place (w6 : Mo) (fuel : Nat) (xs : List AV) : Option AV := match xs with
  | [AV.flt .f64 ux0] => gbits_Place w6 fuel ux0
  | _ => none
abbrev Rbits_Place : List RS := [RS.one (LK.i .i64), RS.one LK.b]
theorem gbits_Place_sm (w6 : Mo) (fuel : Nat) (hΓ : GamOk Pr (Gbits_Place w6)) (hP : NamesOk Pr) : SmOk Pr 152 (smM Rbits_Place (mbits_Place w6 fuel)) := by
  refine smM_ok (fuel := fuel) hΓ hP (LamOk.of 6 152 (Lbits_Place w6 fuel) 0 (by kernel_rfl) (fun i hi => ?_)) 7 152 Rbits_Place _ (fun xs v h => ?_)
  · match i, hi with
    | i + 0, hi => exact absurd hi (by omega)
  · unfold mbits_Place at h
    split at h
    · exact (gbits_Place_run w6 fuel _).trans h
    · cases h
noncomputable def Lbits_rank (vy wf : Mo) (fuel : Nat) : Lam AV := []
noncomputable def Gbits_rank (vy wf : Mo) : Gam := [(152, smM [RS.one (LK.i .i64), RS.one LK.b] vy), (91, smM [RS.one LK.b] wf)]
noncomputable def Cbits_rank (vy wf : Mo) (fuel : Nat) : CallI AV := callX (Gbits_rank vy wf) (execFn Pr (Gbits_rank vy wf) [((6, 132), Lbits_rank vy wf fuel)] fuel 6)
noncomputable def gbits_rank (vy wf : Mo) (fuel : Nat) (ux0 : Option Nat) : Option AV :=
  let r0 : Option AV := vy [AV.flt .f64 ux0]; ck (okM [RS.one (LK.i .i64), RS.one LK.b] r0) <| bif !toB ((toT (getV r0)).tail.headD AV.dead) then some (AV.tup [AV.int .i64 9223372036854775807, AV.int .i64 0])
  else ck (bif toI ((toT (getV r0)).headD AV.dead) == 0 then okM [RS.one LK.b] (wf [AV.flt .f64 ux0]) else true) <| bif bif toI ((toT (getV r0)).headD AV.dead) == 0 then !toB (getV (wf [AV.flt .f64 ux0])) else false then some (AV.tup [AV.int .i64 0, AV.int .i64 1])
  else some (AV.tup [AV.int .i64 (toI ((toT (getV r0)).headD AV.dead)), AV.int .i64 0])
theorem gbits_rank_run (vy wf : Mo) (fuel : Nat) (ux0 : Option Nat) : run Pr (Gbits_rank vy wf) [((6, 132), Lbits_rank vy wf fuel)] fuel 7 132 [AV.flt .f64 ux0] = gbits_rank vy wf fuel ux0 := by kernel_rfl
noncomputable def mbits_rank (vy wf : Mo) (fuel : Nat) (xs : List AV) : Option AV := match xs with
  | [AV.flt .f64 ux0] => gbits_rank vy wf fuel ux0
  | _ => none
abbrev Rbits_rank : List RS := [RS.one (LK.i .i64), RS.one (LK.i .i64)]
theorem gbits_rank_sm (vy wf : Mo) (fuel : Nat) (hΓ : GamOk Pr (Gbits_rank vy wf)) (hP : NamesOk Pr) : SmOk Pr 132 (smM Rbits_rank (mbits_rank vy wf fuel)) := by
  refine smM_ok (fuel := fuel) hΓ hP (LamOk.of 6 132 (Lbits_rank vy wf fuel) 0 (by kernel_rfl) (fun i hi => ?_)) 7 132 Rbits_rank _ (fun xs v h => ?_)
  · match i, hi with
    | i + 0, hi => exact absurd hi (by omega)
  · unfold mbits_rank at h
    split at h
    · exact (gbits_rank_run vy wf fuel _).trans h
    · cases h
noncomputable def Lcmp_isNaN_int64 (fuel : Nat) : Lam AV := []
noncomputable def Gcmp_isNaN_int64 : Gam := []
noncomputable def Ccmp_isNaN_int64 (fuel : Nat) : CallI AV := callX (Gcmp_isNaN_int64) (execFn Pr (Gcmp_isNaN_int64) [((6, 153), Lcmp_isNaN_int64 fuel)] fuel 6)
noncomputable def gcmp_isNaN_int64 (fuel : Nat) (ux0 : Int) : Option AV :=
  some (AV.bool (ux0 != ux0))
theorem gcmp_isNaN_int64_run (fuel : Nat) (ux0 : Int) : run Pr (Gcmp_isNaN_int64) [((6, 153), Lcmp_isNaN_int64 fuel)] fuel 7 153 [AV.int .i64 ux0] = gcmp_isNaN_int64 fuel ux0 := by kernel_rfl
noncomputable def mcmp_isNaN_int64 (fuel : Nat) (xs : List AV) : Option AV := match xs with
  | [AV.int .i64 ux0] => gcmp_isNaN_int64 fuel ux0
  | _ => none
abbrev Rcmp_isNaN_int64 : List RS := [RS.one LK.b]
theorem gcmp_isNaN_int64_sm (fuel : Nat) (hΓ : GamOk Pr (Gcmp_isNaN_int64)) (hP : NamesOk Pr) : SmOk Pr 153 (smM Rcmp_isNaN_int64 (mcmp_isNaN_int64 fuel)) := by
  refine smM_ok (fuel := fuel) hΓ hP (LamOk.of 6 153 (Lcmp_isNaN_int64 fuel) 0 (by kernel_rfl) (fun i hi => ?_)) 7 153 Rcmp_isNaN_int64 _ (fun xs v h => ?_)
  · match i, hi with
    | i + 0, hi => exact absurd hi (by omega)
  · unfold mcmp_isNaN_int64 at h
    split at h
    · exact (gcmp_isNaN_int64_run fuel _).trans h
    · cases h
noncomputable def Lcmp_Compare_int64 (w1 : Mo) (fuel : Nat) : Lam AV := []
noncomputable def Gcmp_Compare_int64 (w1 : Mo) : Gam := [(153, smM [RS.one LK.b] w1)]
noncomputable def Ccmp_Compare_int64 (w1 : Mo) (fuel : Nat) : CallI AV := callX (Gcmp_Compare_int64 w1) (execFn Pr (Gcmp_Compare_int64 w1) [((6, 134), Lcmp_Compare_int64 w1 fuel)] fuel 6)
noncomputable def gcmp_Compare_int64 (w1 : Mo) (fuel : Nat) (ux0 uy1 : Int) : Option AV :=
  ck (okM [RS.one LK.b] (w1 [AV.int .i64 ux0])) <| ck (okM [RS.one LK.b] (w1 [AV.int .i64 uy1])) <| bif toB (getV (w1 [AV.int .i64 ux0])) then bif toB (getV (w1 [AV.int .i64 uy1])) then some (AV.int .i64 0)
    else some (AV.int .i64 (-1))
  else bif toB (getV (w1 [AV.int .i64 uy1])) then some (AV.int .i64 1)
  else bif decide (ux0 < uy1) then some (AV.int .i64 (-1))
  else bif decide (ux0 > uy1) then some (AV.int .i64 1)
  else some (AV.int .i64 0)
theorem gcmp_Compare_int64_run (w1 : Mo) (fuel : Nat) (ux0 uy1 : Int) : run Pr (Gcmp_Compare_int64 w1) [((6, 134), Lcmp_Compare_int64 w1 fuel)] fuel 7 134 [AV.int .i64 ux0, AV.int .i64 uy1] = gcmp_Compare_int64 w1 fuel ux0 uy1 := by kernel_rfl
noncomputable def mcmp_Compare_int64 (w1 : Mo) (fuel : Nat) (xs : List AV) : Option AV := match xs with
  | [AV.int .i64 ux0, AV.int .i64 uy1] => gcmp_Compare_int64 w1 fuel ux0 uy1
  | _ => none
abbrev Rcmp_Compare_int64 : List RS := [RS.one (LK.i .i64)]
theorem gcmp_Compare_int64_sm (w1 : Mo) (fuel : Nat) (hΓ : GamOk Pr (Gcmp_Compare_int64 w1)) (hP : NamesOk Pr) : SmOk Pr 134 (smM Rcmp_Compare_int64 (mcmp_Compare_int64 w1 fuel)) := by
  refine smM_ok (fuel := fuel) hΓ hP (LamOk.of 6 134 (Lcmp_Compare_int64 w1 fuel) 0 (by kernel_rfl) (fun i hi => ?_)) 7 134 Rcmp_Compare_int64 _ (fun xs v h => ?_)
  · match i, hi with
    | i + 0, hi => exact absurd hi (by omega)
  · unfold mcmp_Compare_int64 at h
    split at h
    · exact (gcmp_Compare_int64_run w1 fuel _ _).trans h
    · cases h
noncomputable def Lcmp_isNaN_int (fuel : Nat) : Lam AV := []
noncomputable def Gcmp_isNaN_int : Gam := []
noncomputable def Ccmp_isNaN_int (fuel : Nat) : CallI AV := callX (Gcmp_isNaN_int) (execFn Pr (Gcmp_isNaN_int) [((6, 154), Lcmp_isNaN_int fuel)] fuel 6)
noncomputable def gcmp_isNaN_int (fuel : Nat) (ux0 : Int) : Option AV :=
  some (AV.bool (ux0 != ux0))
theorem gcmp_isNaN_int_run (fuel : Nat) (ux0 : Int) : run Pr (Gcmp_isNaN_int) [((6, 154), Lcmp_isNaN_int fuel)] fuel 7 154 [AV.int .i64 ux0] = gcmp_isNaN_int fuel ux0 := by kernel_rfl
noncomputable def mcmp_isNaN_int (fuel : Nat) (xs : List AV) : Option AV := match xs with
  | [AV.int .i64 ux0] => gcmp_isNaN_int fuel ux0
  | _ => none
abbrev Rcmp_isNaN_int : List RS := [RS.one LK.b]
theorem gcmp_isNaN_int_sm (fuel : Nat) (hΓ : GamOk Pr (Gcmp_isNaN_int)) (hP : NamesOk Pr) : SmOk Pr 154 (smM Rcmp_isNaN_int (mcmp_isNaN_int fuel)) := by
  refine smM_ok (fuel := fuel) hΓ hP (LamOk.of 6 154 (Lcmp_isNaN_int fuel) 0 (by kernel_rfl) (fun i hi => ?_)) 7 154 Rcmp_isNaN_int _ (fun xs v h => ?_)
  · match i, hi with
    | i + 0, hi => exact absurd hi (by omega)
  · unfold mcmp_isNaN_int at h
    split at h
    · exact (gcmp_isNaN_int_run fuel _).trans h
    · cases h
noncomputable def Lcmp_Compare_int (zb : Mo) (fuel : Nat) : Lam AV := []
noncomputable def Gcmp_Compare_int (zb : Mo) : Gam := [(154, smM [RS.one LK.b] zb)]
noncomputable def Ccmp_Compare_int (zb : Mo) (fuel : Nat) : CallI AV := callX (Gcmp_Compare_int zb) (execFn Pr (Gcmp_Compare_int zb) [((6, 135), Lcmp_Compare_int zb fuel)] fuel 6)
noncomputable def gcmp_Compare_int (zb : Mo) (fuel : Nat) (ux0 uy1 : Int) : Option AV :=
  ck (okM [RS.one LK.b] (zb [AV.int .i64 ux0])) <| ck (okM [RS.one LK.b] (zb [AV.int .i64 uy1])) <| bif toB (getV (zb [AV.int .i64 ux0])) then bif toB (getV (zb [AV.int .i64 uy1])) then some (AV.int .i64 0)
    else some (AV.int .i64 (-1))
  else bif toB (getV (zb [AV.int .i64 uy1])) then some (AV.int .i64 1)
  else bif decide (ux0 < uy1) then some (AV.int .i64 (-1))
  else bif decide (ux0 > uy1) then some (AV.int .i64 1)
  else some (AV.int .i64 0)
theorem gcmp_Compare_int_run (zb : Mo) (fuel : Nat) (ux0 uy1 : Int) : run Pr (Gcmp_Compare_int zb) [((6, 135), Lcmp_Compare_int zb fuel)] fuel 7 135 [AV.int .i64 ux0, AV.int .i64 uy1] = gcmp_Compare_int zb fuel ux0 uy1 := by kernel_rfl
noncomputable def mcmp_Compare_int (zb : Mo) (fuel : Nat) (xs : List AV) : Option AV := match xs with
  | [AV.int .i64 ux0, AV.int .i64 uy1] => gcmp_Compare_int zb fuel ux0 uy1
  | _ => none
abbrev Rcmp_Compare_int : List RS := [RS.one (LK.i .i64)]
theorem gcmp_Compare_int_sm (zb : Mo) (fuel : Nat) (hΓ : GamOk Pr (Gcmp_Compare_int zb)) (hP : NamesOk Pr) : SmOk Pr 135 (smM Rcmp_Compare_int (mcmp_Compare_int zb fuel)) := by
  refine smM_ok (fuel := fuel) hΓ hP (LamOk.of 6 135 (Lcmp_Compare_int zb fuel) 0 (by kernel_rfl) (fun i hi => ?_)) 7 135 Rcmp_Compare_int _ (fun xs v h => ?_)
  · match i, hi with
    | i + 0, hi => exact absurd hi (by omega)
  · unfold mcmp_Compare_int at h
    split at h
    · exact (gcmp_Compare_int_run zb fuel _ _).trans h
    · cases h
noncomputable def Scmp_Or_int_0 (qbh : Int) (u6n u6r : Nat) (u6g : Ge) (u7 u8 : Int) : St := { env := [(3, AV.int .i64 qbh), (6, AV.ro 1 u6n u6r u6g), (7, AV.int .i64 u7), (8, AV.int .i64 u8)], h := [], kd := [] }
noncomputable def Xcmp_Or_int_0_0 (po : Int) : St := { env := [(2, AV.int .i64 po)], h := [], kd := [] }
noncomputable def Xcmp_Or_int_0_1 (qkf : Int) : St := { env := [(3, AV.int .i64 qkf)], h := [], kd := [] }
noncomputable def gcmp_Or_int_l0_step (fuel : Nat) (kn kx0 kx1 : Int → Option AV) (qbh : Int) (u6n u6r : Nat) (u6g : Ge) (u7 u8 : Int) : Option AV :=
  bif decide (u8 < u7) then ck (decide (0 ≤ u8)) <| ck (decide (u8 < (↑u6n : Int))) <| ck (fitK (LK.i .i64) (u6g u8.toNat 0)) <| bif toI (u6g u8.toNat 0) != qbh then kx0 (toI (u6g u8.toNat 0))
    else kn (IntKind.i64.wrap (u8 + 1))
  else kx1 (qbh)
noncomputable def gcmp_Or_int_l0 (fuel : Nat) (kx0 kx1 : Int → Option AV) (qbh : Int) (u6n u6r : Nat) (u6g : Ge) (u7 : Int) : Nat → Int → Option AV
  | 0, _ => none
  | n' + 1, u8 => gcmp_Or_int_l0_step fuel (gcmp_Or_int_l0 fuel kx0 kx1 qbh u6n u6r u6g u7 n') kx0 kx1 qbh u6n u6r u6g u7 u8
noncomputable def Tcmp_Or_int_0 : TS' := ⟨[(3, TA.i .i64), (6, TA.ro 1), (7, TA.i .i64), (8, TA.i .i64)], [], []⟩
noncomputable def Fcmp_Or_int_0 (fuel : Nat) (ps : List Pay) (K : Ex → St → Option AV) : Option AV := match ps with
  | .i qbh :: .n u6n :: .n u6r :: .g u6g :: .i u7 :: .i u8 :: [] => gcmp_Or_int_l0 fuel (fun po => K (Ex.ret) (Xcmp_Or_int_0_0 po)) (fun qkf => K (Ex.exit 0) (Xcmp_Or_int_0_1 qkf)) qbh u6n u6r u6g u7 fuel u8
  | _ => none
noncomputable def Lcmp_Or_int (fuel : Nat) : Lam AV := [(130852, lam Tcmp_Or_int_0 (Fcmp_Or_int_0 fuel))]
noncomputable def Gcmp_Or_int : Gam := []
noncomputable def Ccmp_Or_int (fuel : Nat) : CallI AV := callX (Gcmp_Or_int) (execFn Pr (Gcmp_Or_int) [((6, 133), Lcmp_Or_int fuel)] fuel 6)
theorem gcmp_Or_int_l0_eq (fuel : Nat) (kn : St → Option AV) (K : Ex → St → Option AV) (qbh : Int) (u6n u6r : Nat) (u6g : Ge) (u7 u80 u8 : Int) :
    exec Pr (Gcmp_Or_int) (Lcmp_Or_int fuel) (fnNt Pr 133) fuel (Ccmp_Or_int fuel) (lp Pr 133 0).1 (lp Pr 133 0).2 (live (lp Pr 133 0).1 (lp Pr 133 0).2 0) (Scmp_Or_int_0 qbh u6n u6r u6g u7 u8) (fun e s => match e with | .normal => kn (headN (live (lp Pr 133 0).1 (lp Pr 133 0).2 0) (writes (lp Pr 133 0).1) (Scmp_Or_int_0 qbh u6n u6r u6g u7 u80) s) | e => K e s) =
    gcmp_Or_int_l0_step fuel (fun u8 => kn (Scmp_Or_int_0 qbh u6n u6r u6g u7 u8)) (fun xu2 => K (Ex.ret) (Xcmp_Or_int_0_0 xu2)) (fun qgk => K (Ex.exit 0) (Xcmp_Or_int_0_1 qgk)) qbh u6n u6r u6g u7 u8 := by kernel_rfl
theorem gcmp_Or_int_l0_ok (fuel : Nat) (K : Ex → St → Option AV) (qbh : Int) (u6n u6r : Nat) (u6g : Ge) (u7 u80 : Int) : ∀ (n' : Nat) (u8 : Int),
    loopK (exec Pr (Gcmp_Or_int) (Lcmp_Or_int fuel) (fnNt Pr 133) fuel (Ccmp_Or_int fuel) (lp Pr 133 0).1 (lp Pr 133 0).2 (live (lp Pr 133 0).1 (lp Pr 133 0).2 0)) (headN (live (lp Pr 133 0).1 (lp Pr 133 0).2 0) (writes (lp Pr 133 0).1) (Scmp_Or_int_0 qbh u6n u6r u6g u7 u80)) n' (Scmp_Or_int_0 qbh u6n u6r u6g u7 u8) K = gcmp_Or_int_l0 fuel (fun xu2 => K (Ex.ret) (Xcmp_Or_int_0_0 xu2)) (fun qgk => K (Ex.exit 0) (Xcmp_Or_int_0_1 qgk)) qbh u6n u6r u6g u7 n' u8
  | 0, _ => rfl
  | n' + 1, u8 => (gcmp_Or_int_l0_eq fuel (fun s => loopK (exec Pr (Gcmp_Or_int) (Lcmp_Or_int fuel) (fnNt Pr 133) fuel (Ccmp_Or_int fuel) (lp Pr 133 0).1 (lp Pr 133 0).2 (live (lp Pr 133 0).1 (lp Pr 133 0).2 0)) (headN (live (lp Pr 133 0).1 (lp Pr 133 0).2 0) (writes (lp Pr 133 0).1) (Scmp_Or_int_0 qbh u6n u6r u6g u7 u80)) n' s K) K qbh u6n u6r u6g u7 u80 u8).trans
    (congrArg (fun kn => gcmp_Or_int_l0_step fuel kn (fun xu2 => K (Ex.ret) (Xcmp_Or_int_0_0 xu2)) (fun qgk => K (Ex.exit 0) (Xcmp_Or_int_0_1 qgk)) qbh u6n u6r u6g u7 u8) (funext fun _ => gcmp_Or_int_l0_ok fuel K qbh u6n u6r u6g u7 u80 n' _))
theorem gcmp_Or_int_L0 (fuel : Nat) : LOk Pr (Gcmp_Or_int) (Lcmp_Or_int fuel) (fnNt Pr 133) fuel (Ccmp_Or_int fuel) (lp Pr 133 0) := by
  refine .of Tcmp_Or_int_0 (Fcmp_Or_int_0 fuel) (fun L h => ?_) (fun ps st K r he hr => ?_)
  · have e : (Lcmp_Or_int fuel).get (writes (lp Pr 133 0).1) = some (lam Tcmp_Or_int_0 (Fcmp_Or_int_0 fuel)) := by kernel_rfl
    exact (Option.some.inj (e.symm.trans h)).symm
  · unfold Fcmp_Or_int_0 at hr
    split at hr
    · obtain rfl := (Option.some.inj he).symm
      exact (gcmp_Or_int_l0_ok fuel K _ _ _ _ _ _ fuel _).trans hr
    · cases hr
noncomputable def gcmp_Or_int (fuel qgi qhc : Nat) (qhl : Ge) : Option AV :=
  gcmp_Or_int_l0 fuel
    (fun (xu2 : Int) => some (AV.int .i64 xu2))
    (fun (qgk : Int) => some (AV.int .i64 qgk))
    (0)
    (qgi)
    (qhc)
    (qhl)
    ((↑qgi : Int)) fuel (0)
theorem gcmp_Or_int_run (fuel qgi qhc : Nat) (qhl : Ge) : run Pr (Gcmp_Or_int) [((6, 133), Lcmp_Or_int fuel)] fuel 7 133 [AV.ro 1 qgi qhc qhl] = gcmp_Or_int fuel qgi qhc qhl := by kernel_rfl
noncomputable def mcmp_Or_int (fuel : Nat) (xs : List AV) : Option AV := match xs with
  | [AV.ro 1 qgi qhc qhl] => gcmp_Or_int fuel qgi qhc qhl
  | _ => none
abbrev Rcmp_Or_int : List RS := [RS.one (LK.i .i64)]
theorem gcmp_Or_int_sm (fuel : Nat) (hΓ : GamOk Pr (Gcmp_Or_int)) (hP : NamesOk Pr) : SmOk Pr 133 (smM Rcmp_Or_int (mcmp_Or_int fuel)) := by
  refine smM_ok (fuel := fuel) hΓ hP (LamOk.of 6 133 (Lcmp_Or_int fuel) 1 (by kernel_rfl) (fun i hi => ?_)) 7 133 Rcmp_Or_int _ (fun xs v h => ?_)
  · match i, hi with
    | 0, _ => exact gcmp_Or_int_L0 fuel
    | i + 1, hi => exact absurd hi (by omega)
  · unfold mcmp_Or_int at h
    split at h
    · exact (gcmp_Or_int_run fuel _ _ _).trans h
    · cases h
noncomputable def Lbits_Order (v2 wy : Mo) (w7 vj : Mo) (fuel : Nat) : Lam AV := []
noncomputable def Gbits_Order (v2 wy : Mo) (w7 vj : Mo) : Gam := [(132, smM [RS.one (LK.i .i64), RS.one (LK.i .i64)] v2), (134, smM [RS.one (LK.i .i64)] wy), (135, smM [RS.one (LK.i .i64)] w7), (133, smM [RS.one (LK.i .i64)] vj)]
noncomputable def Cbits_Order (v2 wy : Mo) (w7 vj : Mo) (fuel : Nat) : CallI AV := callX (Gbits_Order v2 wy w7 vj) (execFn Pr (Gbits_Order v2 wy w7 vj) [((6, 112), Lbits_Order v2 wy w7 vj fuel)] fuel 6)
noncomputable def gbits_Order (v2 wy : Mo) (w7 vj : Mo) (fuel : Nat) (ua0 ub1 : Option Nat) : Option AV :=
  let r0 : Option AV := v2 [AV.flt .f64 ua0]; ck (okM [RS.one (LK.i .i64), RS.one (LK.i .i64)] r0) <| let r1 : Option AV := v2 [AV.flt .f64 ub1]; ck (okM [RS.one (LK.i .i64), RS.one (LK.i .i64)] r1) <| ck (okM [RS.one (LK.i .i64)] (wy [AV.int .i64 (toI ((toT (getV r0)).headD AV.dead)), AV.int .i64 (toI ((toT (getV r1)).headD AV.dead))])) <| ck (okM [RS.one (LK.i .i64)] (w7 [AV.int .i64 (toI ((toT (getV r0)).tail.headD AV.dead)), AV.int .i64 (toI ((toT (getV r1)).tail.headD AV.dead))])) <| ck (okM [RS.one (LK.i .i64)] (vj [AV.ro 1 2 2 fun (i j : Nat) => ([[AV.int .i64 (toI (getV (wy [AV.int .i64 (toI ((toT (getV r0)).headD AV.dead)), AV.int .i64 (toI ((toT (getV r1)).headD AV.dead))])))], [AV.int .i64 (toI (getV (w7 [AV.int .i64 (toI ((toT (getV r0)).tail.headD AV.dead)), AV.int .i64 (toI ((toT (getV r1)).tail.headD AV.dead))])))]].getD i []).getD j AV.dead])) <| some (AV.int .i64 (toI (getV (vj [AV.ro 1 2 2 fun (i j : Nat) => ([[AV.int .i64 (toI (getV (wy [AV.int .i64 (toI ((toT (getV r0)).headD AV.dead)), AV.int .i64 (toI ((toT (getV r1)).headD AV.dead))])))], [AV.int .i64 (toI (getV (w7 [AV.int .i64 (toI ((toT (getV r0)).tail.headD AV.dead)), AV.int .i64 (toI ((toT (getV r1)).tail.headD AV.dead))])))]].getD i []).getD j AV.dead]))))
theorem gbits_Order_run (v2 wy : Mo) (w7 vj : Mo) (fuel : Nat) (ua0 ub1 : Option Nat) : run Pr (Gbits_Order v2 wy w7 vj) [((6, 112), Lbits_Order v2 wy w7 vj fuel)] fuel 7 112 [AV.flt .f64 ua0, AV.flt .f64 ub1] = gbits_Order v2 wy w7 vj fuel ua0 ub1 := by kernel_rfl
noncomputable def mbits_Order (v2 wy : Mo) (w7 vj : Mo) (fuel : Nat) (xs : List AV) : Option AV := match xs with
  | [AV.flt .f64 ua0, AV.flt .f64 ub1] => gbits_Order v2 wy w7 vj fuel ua0 ub1
  | _ => none
abbrev Rbits_Order : List RS := [RS.one (LK.i .i64)]
theorem gbits_Order_sm (v2 wy : Mo) (w7 vj : Mo) (fuel : Nat) (hΓ : GamOk Pr (Gbits_Order v2 wy w7 vj)) (hP : NamesOk Pr) : SmOk Pr 112 (smM Rbits_Order (mbits_Order v2 wy w7 vj fuel)) := by
  refine smM_ok (fuel := fuel) hΓ hP (LamOk.of 6 112 (Lbits_Order v2 wy w7 vj fuel) 0 (by kernel_rfl) (fun i hi => ?_)) 7 112 Rbits_Order _ (fun xs v h => ?_)
  · match i, hi with
    | i + 0, hi => exact absurd hi (by omega)
  · unfold mbits_Order at h
    split at h
    · exact (gbits_Order_run v2 wy w7 vj fuel _ _).trans h
    · cases h
noncomputable def Lspan_lesser (wv : Mo) (fuel : Nat) : Lam AV := []
noncomputable def Gspan_lesser (wv : Mo) : Gam := [(112, smM [RS.one (LK.i .i64)] wv)]
noncomputable def Cspan_lesser (wv : Mo) (fuel : Nat) : CallI AV := callX (Gspan_lesser wv) (execFn Pr (Gspan_lesser wv) [((6, 98), Lspan_lesser wv fuel)] fuel 6)
noncomputable def gspan_lesser (wv : Mo) (fuel : Nat) (ua0 ub1 : Option Nat) : Option AV :=
  ck (okM [RS.one (LK.i .i64)] (wv [AV.flt .f64 ub1, AV.flt .f64 ua0])) <| bif decide (toI (getV (wv [AV.flt .f64 ub1, AV.flt .f64 ua0])) < 0) then some (AV.flt .f64 ub1)
  else some (AV.flt .f64 ua0)
theorem gspan_lesser_run (wv : Mo) (fuel : Nat) (ua0 ub1 : Option Nat) : run Pr (Gspan_lesser wv) [((6, 98), Lspan_lesser wv fuel)] fuel 7 98 [AV.flt .f64 ua0, AV.flt .f64 ub1] = gspan_lesser wv fuel ua0 ub1 := by kernel_rfl
noncomputable def mspan_lesser (wv : Mo) (fuel : Nat) (xs : List AV) : Option AV := match xs with
  | [AV.flt .f64 ua0, AV.flt .f64 ub1] => gspan_lesser wv fuel ua0 ub1
  | _ => none
abbrev Rspan_lesser : List RS := [RS.one (LK.f .f64)]
theorem gspan_lesser_sm (wv : Mo) (fuel : Nat) (hΓ : GamOk Pr (Gspan_lesser wv)) (hP : NamesOk Pr) : SmOk Pr 98 (smM Rspan_lesser (mspan_lesser wv fuel)) := by
  refine smM_ok (fuel := fuel) hΓ hP (LamOk.of 6 98 (Lspan_lesser wv fuel) 0 (by kernel_rfl) (fun i hi => ?_)) 7 98 Rspan_lesser _ (fun xs v h => ?_)
  · match i, hi with
    | i + 0, hi => exact absurd hi (by omega)
  · unfold mspan_lesser at h
    split at h
    · exact (gspan_lesser_run wv fuel _ _).trans h
    · cases h
noncomputable def Lspan_greater (wv : Mo) (fuel : Nat) : Lam AV := []
noncomputable def Gspan_greater (wv : Mo) : Gam := [(112, smM [RS.one (LK.i .i64)] wv)]
noncomputable def Cspan_greater (wv : Mo) (fuel : Nat) : CallI AV := callX (Gspan_greater wv) (execFn Pr (Gspan_greater wv) [((6, 99), Lspan_greater wv fuel)] fuel 6)
noncomputable def gspan_greater (wv : Mo) (fuel : Nat) (ua0 ub1 : Option Nat) : Option AV :=
  ck (okM [RS.one (LK.i .i64)] (wv [AV.flt .f64 ub1, AV.flt .f64 ua0])) <| bif decide (toI (getV (wv [AV.flt .f64 ub1, AV.flt .f64 ua0])) > 0) then some (AV.flt .f64 ub1)
  else some (AV.flt .f64 ua0)
theorem gspan_greater_run (wv : Mo) (fuel : Nat) (ua0 ub1 : Option Nat) : run Pr (Gspan_greater wv) [((6, 99), Lspan_greater wv fuel)] fuel 7 99 [AV.flt .f64 ua0, AV.flt .f64 ub1] = gspan_greater wv fuel ua0 ub1 := by kernel_rfl
noncomputable def mspan_greater (wv : Mo) (fuel : Nat) (xs : List AV) : Option AV := match xs with
  | [AV.flt .f64 ua0, AV.flt .f64 ub1] => gspan_greater wv fuel ua0 ub1
  | _ => none
abbrev Rspan_greater : List RS := [RS.one (LK.f .f64)]
theorem gspan_greater_sm (wv : Mo) (fuel : Nat) (hΓ : GamOk Pr (Gspan_greater wv)) (hP : NamesOk Pr) : SmOk Pr 99 (smM Rspan_greater (mspan_greater wv fuel)) := by
  refine smM_ok (fuel := fuel) hΓ hP (LamOk.of 6 99 (Lspan_greater wv fuel) 0 (by kernel_rfl) (fun i hi => ?_)) 7 99 Rspan_greater _ (fun xs v h => ?_)
  · match i, hi with
    | i + 0, hi => exact absurd hi (by omega)
  · unfold mspan_greater at h
    split at h
    · exact (gspan_greater_run wv fuel _ _).trans h
    · cases h
noncomputable def Lround_Mul (qz qv : Mo) (qy qw : Mo) (qt qm : Mo) (we q0 q7 : Mo) (fuel : Nat) : Lam AV := []
noncomputable def Ground_Mul (qz qv : Mo) (qy qw : Mo) (qt qm : Mo) (we q0 q7 : Mo) : Gam := [(70, smM [RS.one (LK.i .i8)] qz), (72, smM [RS.one LK.b] qv), (73, smM [RS.one LK.b] qy), (75, smM [RS.one (LK.i .i64)] qw), (74, smM [RS.one (LK.f .f64)] qt), (90, smM [RS.one LK.b] qm), (78, smM [RS.agg [LK.b, LK.l (nat_lit 1), LK.i .i64]] we), (79, smM [RS.agg [LK.b, LK.l (nat_lit 1), LK.i .i64]] q0), (77, smM [RS.one (LK.i .i64)] q7), (76, Go.Am.sFma)]
noncomputable def Cround_Mul (qz qv : Mo) (qy qw : Mo) (qt qm : Mo) (we q0 q7 : Mo) (fuel : Nat) : CallI AV := callX (Ground_Mul qz qv qy qw qt qm we q0 q7) (execFn Pr (Ground_Mul qz qv qy qw qt qm we q0 q7) [((6, 85), Lround_Mul qz qv qy qw qt qm we q0 q7 fuel)] fuel 6)
noncomputable def ground_Mul (qz qv : Mo) (qy qw : Mo) (qt qm : Mo) (we q0 q7 : Mo) (fuel : Nat) (ua0 ub1 : Option Nat) (um2 : Int) : Option AV :=
  ck (okM [RS.one (LK.i .i8)] (qz [AV.int .i8 um2])) <| ck (okM [RS.one LK.b] (qv [AV.ro 1 2 2 fun (i j : Nat) => ([[AV.flt .f64 ua0], [AV.flt .f64 ub1]].getD i []).getD j AV.dead])) <| bif bif bif !toB (getV (qv [AV.ro 1 2 2 fun (i j : Nat) => ([[AV.flt .f64 ua0], [AV.flt .f64 ub1]].getD i []).getD j AV.dead])) then true else ford .f64 ua0 (some 0) == some Ordering.eq then true else ford .f64 ub1 (some 0) == some Ordering.eq then some (AV.flt .f64 (farith BinOp.mul .f64 ua0 ub1))
  else ck (okM [RS.one LK.b] (qy [AV.ro 1 3 3 fun (i j : Nat) => ([[AV.flt .f64 ua0], [AV.flt .f64 ub1], [AV.flt .f64 (farith BinOp.mul .f64 ua0 ub1)]].getD i []).getD j AV.dead])) <| bif toB (getV (qy [AV.ro 1 3 3 fun (i j : Nat) => ([[AV.flt .f64 ua0], [AV.flt .f64 ub1], [AV.flt .f64 (farith BinOp.mul .f64 ua0 ub1)]].getD i []).getD j AV.dead])) then ck (sFma.ok [AV.flt .f64 ua0, AV.flt .f64 ub1, AV.flt .f64 (Option.map (Op.negFloat .f64) (farith BinOp.mul .f64 ua0 ub1))]) <| ck (okM [RS.one (LK.i .i64)] (qw [AV.flt .f64 (ua0.bind fun (x : Nat) => ub1.bind fun (y : Nat) => (Option.map (Op.negFloat .f64) (farith BinOp.mul .f64 ua0 ub1)).bind fun (z : Nat) => FloatKind.f64.format.fma x y z)])) <| ck (okM [RS.one (LK.f .f64)] (qt [AV.flt .f64 (farith BinOp.mul .f64 ua0 ub1), AV.int .i64 (toI (getV (qw [AV.flt .f64 (ua0.bind fun (x : Nat) => ub1.bind fun (y : Nat) => (Option.map (Op.negFloat .f64) (farith BinOp.mul .f64 ua0 ub1)).bind fun (z : Nat) => FloatKind.f64.format.fma x y z)]))), AV.int .i8 (toI (getV (qz [AV.int .i8 um2])))])) <| some (AV.flt .f64 (toF (getV (qt [AV.flt .f64 (farith BinOp.mul .f64 ua0 ub1), AV.int .i64 (toI (getV (qw [AV.flt .f64 (ua0.bind fun (x : Nat) => ub1.bind fun (y : Nat) => (Option.map (Op.negFloat .f64) (farith BinOp.mul .f64 ua0 ub1)).bind fun (z : Nat) => FloatKind.f64.format.fma x y z)]))), AV.int .i8 (toI (getV (qz [AV.int .i8 um2])))]))))
  else ck (okM [RS.one LK.b] (qm [AV.flt .f64 (farith BinOp.mul .f64 ua0 ub1), AV.int .i64 0])) <| bif toB (getV (qm [AV.flt .f64 (farith BinOp.mul .f64 ua0 ub1), AV.int .i64 0])) then ck (okM [RS.one (LK.f .f64)] (qt [AV.flt .f64 (farith BinOp.mul .f64 ua0 ub1), AV.int .i64 0, AV.int .i8 (toI (getV (qz [AV.int .i8 um2])))])) <| some (AV.flt .f64 (toF (getV (qt [AV.flt .f64 (farith BinOp.mul .f64 ua0 ub1), AV.int .i64 0, AV.int .i8 (toI (getV (qz [AV.int .i8 um2])))]))))
  else let r0 : Option AV := we [AV.flt .f64 ua0]; ck (okM [RS.agg [LK.b, LK.l 1, LK.i .i64]] r0) <| let r1 : Option AV := we [AV.flt .f64 ub1]; ck (okM [RS.agg [LK.b, LK.l 1, LK.i .i64]] r1) <| let r2 : Option AV := q0 [AV.agg [AV.bool (toB ((toC (getV r0)).headD AV.dead)), AV.ro 1 (toN ((toC (getV r0)).tail.headD AV.dead)) (toR ((toC (getV r0)).tail.headD AV.dead)) (toG ((toC (getV r0)).tail.headD AV.dead)), AV.int .i64 (toI ((toC (getV r0)).tail.tail.headD AV.dead))], AV.agg [AV.bool (toB ((toC (getV r1)).headD AV.dead)), AV.ro 1 (toN ((toC (getV r1)).tail.headD AV.dead)) (toR ((toC (getV r1)).tail.headD AV.dead)) (toG ((toC (getV r1)).tail.headD AV.dead)), AV.int .i64 (toI ((toC (getV r1)).tail.tail.headD AV.dead))]]; ck (okM [RS.agg [LK.b, LK.l 1, LK.i .i64]] r2) <| let r3 : Option AV := we [AV.flt .f64 (farith BinOp.mul .f64 ua0 ub1)]; ck (okM [RS.agg [LK.b, LK.l 1, LK.i .i64]] r3) <| ck (okM [RS.one (LK.i .i64)] (q7 [AV.agg [AV.bool (toB ((toC (getV r2)).headD AV.dead)), AV.ro 1 (toN ((toC (getV r2)).tail.headD AV.dead)) (toR ((toC (getV r2)).tail.headD AV.dead)) (toG ((toC (getV r2)).tail.headD AV.dead)), AV.int .i64 (toI ((toC (getV r2)).tail.tail.headD AV.dead))], AV.agg [AV.bool (toB ((toC (getV r3)).headD AV.dead)), AV.ro 1 (toN ((toC (getV r3)).tail.headD AV.dead)) (toR ((toC (getV r3)).tail.headD AV.dead)) (toG ((toC (getV r3)).tail.headD AV.dead)), AV.int .i64 (toI ((toC (getV r3)).tail.tail.headD AV.dead))]])) <| ck (okM [RS.one (LK.f .f64)] (qt [AV.flt .f64 (farith BinOp.mul .f64 ua0 ub1), AV.int .i64 (toI (getV (q7 [AV.agg [AV.bool (toB ((toC (getV r2)).headD AV.dead)), AV.ro 1 (toN ((toC (getV r2)).tail.headD AV.dead)) (toR ((toC (getV r2)).tail.headD AV.dead)) (toG ((toC (getV r2)).tail.headD AV.dead)), AV.int .i64 (toI ((toC (getV r2)).tail.tail.headD AV.dead))], AV.agg [AV.bool (toB ((toC (getV r3)).headD AV.dead)), AV.ro 1 (toN ((toC (getV r3)).tail.headD AV.dead)) (toR ((toC (getV r3)).tail.headD AV.dead)) (toG ((toC (getV r3)).tail.headD AV.dead)), AV.int .i64 (toI ((toC (getV r3)).tail.tail.headD AV.dead))]]))), AV.int .i8 (toI (getV (qz [AV.int .i8 um2])))])) <| some (AV.flt .f64 (toF (getV (qt [AV.flt .f64 (farith BinOp.mul .f64 ua0 ub1), AV.int .i64 (toI (getV (q7 [AV.agg [AV.bool (toB ((toC (getV r2)).headD AV.dead)), AV.ro 1 (toN ((toC (getV r2)).tail.headD AV.dead)) (toR ((toC (getV r2)).tail.headD AV.dead)) (toG ((toC (getV r2)).tail.headD AV.dead)), AV.int .i64 (toI ((toC (getV r2)).tail.tail.headD AV.dead))], AV.agg [AV.bool (toB ((toC (getV r3)).headD AV.dead)), AV.ro 1 (toN ((toC (getV r3)).tail.headD AV.dead)) (toR ((toC (getV r3)).tail.headD AV.dead)) (toG ((toC (getV r3)).tail.headD AV.dead)), AV.int .i64 (toI ((toC (getV r3)).tail.tail.headD AV.dead))]]))), AV.int .i8 (toI (getV (qz [AV.int .i8 um2])))]))))
theorem ground_Mul_run (qz qv : Mo) (qy qw : Mo) (qt qm : Mo) (we q0 q7 : Mo) (fuel : Nat) (ua0 ub1 : Option Nat) (um2 : Int) : run Pr (Ground_Mul qz qv qy qw qt qm we q0 q7) [((6, 85), Lround_Mul qz qv qy qw qt qm we q0 q7 fuel)] fuel 7 85 [AV.flt .f64 ua0, AV.flt .f64 ub1, AV.int .i8 um2] = ground_Mul qz qv qy qw qt qm we q0 q7 fuel ua0 ub1 um2 := by kernel_rfl
noncomputable def mround_Mul (qz qv : Mo) (qy qw : Mo) (qt qm : Mo) (we q0 q7 : Mo) (fuel : Nat) (xs : List AV) : Option AV := match xs with
  | [AV.flt .f64 ua0, AV.flt .f64 ub1, AV.int .i8 um2] => ground_Mul qz qv qy qw qt qm we q0 q7 fuel ua0 ub1 um2
  | _ => none
abbrev Rround_Mul : List RS := [RS.one (LK.f .f64)]
theorem ground_Mul_sm (qz qv : Mo) (qy qw : Mo) (qt qm : Mo) (we q0 q7 : Mo) (fuel : Nat) (hΓ : GamOk Pr (Ground_Mul qz qv qy qw qt qm we q0 q7)) (hP : NamesOk Pr) : SmOk Pr 85 (smM Rround_Mul (mround_Mul qz qv qy qw qt qm we q0 q7 fuel)) := by
  refine smM_ok (fuel := fuel) hΓ hP (LamOk.of 6 85 (Lround_Mul qz qv qy qw qt qm we q0 q7 fuel) 0 (by kernel_rfl) (fun i hi => ?_)) 7 85 Rround_Mul _ (fun xs v h => ?_)
  · match i, hi with
    | i + 0, hi => exact absurd hi (by omega)
  · unfold mround_Mul at h
    split at h
    · exact (ground_Mul_run qz qv qy qw qt qm we q0 q7 fuel _ _ _).trans h
    · cases h
noncomputable def Lspan_Mul_c1 (vu : Mo) (fuel : Nat) : Lam AV := []
noncomputable def Gspan_Mul_c1 (vu : Mo) : Gam := [(85, smM [RS.one (LK.f .f64)] vu)]
noncomputable def Cspan_Mul_c1 (vu : Mo) (fuel : Nat) : CallI AV := callX (Gspan_Mul_c1 vu) (execFn Pr (Gspan_Mul_c1 vu) [((6, 84), Lspan_Mul_c1 vu fuel)] fuel 6)
noncomputable def gspan_Mul_c1 (vu : Mo) (fuel : Nat) (ux0 uy1 : Option Nat) (um2 : Int) : Option AV :=
  ck (okM [RS.one (LK.f .f64)] (vu [AV.flt .f64 ux0, AV.flt .f64 uy1, AV.int .i8 um2])) <| bif ford .f64 (toF (getV (vu [AV.flt .f64 ux0, AV.flt .f64 uy1, AV.int .i8 um2]))) (toF (getV (vu [AV.flt .f64 ux0, AV.flt .f64 uy1, AV.int .i8 um2]))) == some Ordering.eq then some (AV.flt .f64 (toF (getV (vu [AV.flt .f64 ux0, AV.flt .f64 uy1, AV.int .i8 um2]))))
  else some (AV.flt .f64 (some 0))
theorem gspan_Mul_c1_run (vu : Mo) (fuel : Nat) (ux0 uy1 : Option Nat) (um2 : Int) : run Pr (Gspan_Mul_c1 vu) [((6, 84), Lspan_Mul_c1 vu fuel)] fuel 7 84 [AV.flt .f64 ux0, AV.flt .f64 uy1, AV.int .i8 um2] = gspan_Mul_c1 vu fuel ux0 uy1 um2 := by kernel_rfl
noncomputable def mspan_Mul_c1 (vu : Mo) (fuel : Nat) (xs : List AV) : Option AV := match xs with
  | [AV.flt .f64 ux0, AV.flt .f64 uy1, AV.int .i8 um2] => gspan_Mul_c1 vu fuel ux0 uy1 um2
  | _ => none
abbrev Rspan_Mul_c1 : List RS := [RS.one (LK.f .f64)]
theorem gspan_Mul_c1_sm (vu : Mo) (fuel : Nat) (hΓ : GamOk Pr (Gspan_Mul_c1 vu)) (hP : NamesOk Pr) : SmOk Pr 84 (smM Rspan_Mul_c1 (mspan_Mul_c1 vu fuel)) := by
  refine smM_ok (fuel := fuel) hΓ hP (LamOk.of 6 84 (Lspan_Mul_c1 vu fuel) 0 (by kernel_rfl) (fun i hi => ?_)) 7 84 Rspan_Mul_c1 _ (fun xs v h => ?_)
  · match i, hi with
    | i + 0, hi => exact absurd hi (by omega)
  · unfold mspan_Mul_c1 at h
    split at h
    · exact (gspan_Mul_c1_run vu fuel _ _ _).trans h
    · cases h
noncomputable def Lround_Div (qz qv : Mo) (qy qw : Mo) (qt qm : Mo) (we q0 q7 : Mo) (fuel : Nat) : Lam AV := []
noncomputable def Ground_Div (qz qv : Mo) (qy qw : Mo) (qt qm : Mo) (we q0 q7 : Mo) : Gam := [(70, smM [RS.one (LK.i .i8)] qz), (72, smM [RS.one LK.b] qv), (73, smM [RS.one LK.b] qy), (75, smM [RS.one (LK.i .i64)] qw), (74, smM [RS.one (LK.f .f64)] qt), (90, smM [RS.one LK.b] qm), (78, smM [RS.agg [LK.b, LK.l (nat_lit 1), LK.i .i64]] we), (79, smM [RS.agg [LK.b, LK.l (nat_lit 1), LK.i .i64]] q0), (77, smM [RS.one (LK.i .i64)] q7), (76, Go.Am.sFma)]
noncomputable def Cround_Div (qz qv : Mo) (qy qw : Mo) (qt qm : Mo) (we q0 q7 : Mo) (fuel : Nat) : CallI AV := callX (Ground_Div qz qv qy qw qt qm we q0 q7) (execFn Pr (Ground_Div qz qv qy qw qt qm we q0 q7) [((6, 83), Lround_Div qz qv qy qw qt qm we q0 q7 fuel)] fuel 6)
noncomputable def ground_Div (qz qv : Mo) (qy qw : Mo) (qt qm : Mo) (we q0 q7 : Mo) (fuel : Nat) (ua0 ub1 : Option Nat) (um2 : Int) : Option AV :=
  ck (okM [RS.one (LK.i .i8)] (qz [AV.int .i8 um2])) <| ck (okM [RS.one LK.b] (qv [AV.ro 1 2 2 fun (i j : Nat) => ([[AV.flt .f64 ua0], [AV.flt .f64 ub1]].getD i []).getD j AV.dead])) <| bif bif bif !toB (getV (qv [AV.ro 1 2 2 fun (i j : Nat) => ([[AV.flt .f64 ua0], [AV.flt .f64 ub1]].getD i []).getD j AV.dead])) then true else ford .f64 ua0 (some 0) == some Ordering.eq then true else ford .f64 ub1 (some 0) == some Ordering.eq then some (AV.flt .f64 (farith BinOp.quo .f64 ua0 ub1))
  else ck (okM [RS.one LK.b] (qy [AV.ro 1 3 3 fun (i j : Nat) => ([[AV.flt .f64 ua0], [AV.flt .f64 ub1], [AV.flt .f64 (farith BinOp.quo .f64 ua0 ub1)]].getD i []).getD j AV.dead])) <| bif toB (getV (qy [AV.ro 1 3 3 fun (i j : Nat) => ([[AV.flt .f64 ua0], [AV.flt .f64 ub1], [AV.flt .f64 (farith BinOp.quo .f64 ua0 ub1)]].getD i []).getD j AV.dead])) then ck (sFma.ok [AV.flt .f64 (Option.map (Op.negFloat .f64) (farith BinOp.quo .f64 ua0 ub1)), AV.flt .f64 ub1, AV.flt .f64 ua0]) <| ck (okM [RS.one (LK.i .i64)] (qw [AV.flt .f64 ((Option.map (Op.negFloat .f64) (farith BinOp.quo .f64 ua0 ub1)).bind fun (x : Nat) => ub1.bind fun (y : Nat) => ua0.bind fun (z : Nat) => FloatKind.f64.format.fma x y z)])) <| ck (okM [RS.one (LK.i .i64)] (qw [AV.flt .f64 ub1])) <| ck (okM [RS.one (LK.f .f64)] (qt [AV.flt .f64 (farith BinOp.quo .f64 ua0 ub1), AV.int .i64 (IntKind.i64.wrap (toI (getV (qw [AV.flt .f64 ((Option.map (Op.negFloat .f64) (farith BinOp.quo .f64 ua0 ub1)).bind fun (x : Nat) => ub1.bind fun (y : Nat) => ua0.bind fun (z : Nat) => FloatKind.f64.format.fma x y z)])) * toI (getV (qw [AV.flt .f64 ub1])))), AV.int .i8 (toI (getV (qz [AV.int .i8 um2])))])) <| some (AV.flt .f64 (toF (getV (qt [AV.flt .f64 (farith BinOp.quo .f64 ua0 ub1), AV.int .i64 (IntKind.i64.wrap (toI (getV (qw [AV.flt .f64 ((Option.map (Op.negFloat .f64) (farith BinOp.quo .f64 ua0 ub1)).bind fun (x : Nat) => ub1.bind fun (y : Nat) => ua0.bind fun (z : Nat) => FloatKind.f64.format.fma x y z)])) * toI (getV (qw [AV.flt .f64 ub1])))), AV.int .i8 (toI (getV (qz [AV.int .i8 um2])))]))))
  else ck (okM [RS.one LK.b] (qm [AV.flt .f64 (farith BinOp.quo .f64 ua0 ub1), AV.int .i64 0])) <| bif toB (getV (qm [AV.flt .f64 (farith BinOp.quo .f64 ua0 ub1), AV.int .i64 0])) then ck (okM [RS.one (LK.f .f64)] (qt [AV.flt .f64 (farith BinOp.quo .f64 ua0 ub1), AV.int .i64 0, AV.int .i8 (toI (getV (qz [AV.int .i8 um2])))])) <| some (AV.flt .f64 (toF (getV (qt [AV.flt .f64 (farith BinOp.quo .f64 ua0 ub1), AV.int .i64 0, AV.int .i8 (toI (getV (qz [AV.int .i8 um2])))]))))
  else let r0 : Option AV := we [AV.flt .f64 ua0]; ck (okM [RS.agg [LK.b, LK.l 1, LK.i .i64]] r0) <| let r1 : Option AV := we [AV.flt .f64 (farith BinOp.quo .f64 ua0 ub1)]; ck (okM [RS.agg [LK.b, LK.l 1, LK.i .i64]] r1) <| let r2 : Option AV := we [AV.flt .f64 ub1]; ck (okM [RS.agg [LK.b, LK.l 1, LK.i .i64]] r2) <| let r3 : Option AV := q0 [AV.agg [AV.bool (toB ((toC (getV r1)).headD AV.dead)), AV.ro 1 (toN ((toC (getV r1)).tail.headD AV.dead)) (toR ((toC (getV r1)).tail.headD AV.dead)) (toG ((toC (getV r1)).tail.headD AV.dead)), AV.int .i64 (toI ((toC (getV r1)).tail.tail.headD AV.dead))], AV.agg [AV.bool (toB ((toC (getV r2)).headD AV.dead)), AV.ro 1 (toN ((toC (getV r2)).tail.headD AV.dead)) (toR ((toC (getV r2)).tail.headD AV.dead)) (toG ((toC (getV r2)).tail.headD AV.dead)), AV.int .i64 (toI ((toC (getV r2)).tail.tail.headD AV.dead))]]; ck (okM [RS.agg [LK.b, LK.l 1, LK.i .i64]] r3) <| ck (okM [RS.one (LK.i .i64)] (q7 [AV.agg [AV.bool (toB ((toC (getV r0)).headD AV.dead)), AV.ro 1 (toN ((toC (getV r0)).tail.headD AV.dead)) (toR ((toC (getV r0)).tail.headD AV.dead)) (toG ((toC (getV r0)).tail.headD AV.dead)), AV.int .i64 (toI ((toC (getV r0)).tail.tail.headD AV.dead))], AV.agg [AV.bool (toB ((toC (getV r3)).headD AV.dead)), AV.ro 1 (toN ((toC (getV r3)).tail.headD AV.dead)) (toR ((toC (getV r3)).tail.headD AV.dead)) (toG ((toC (getV r3)).tail.headD AV.dead)), AV.int .i64 (toI ((toC (getV r3)).tail.tail.headD AV.dead))]])) <| ck (okM [RS.one (LK.i .i64)] (qw [AV.flt .f64 ub1])) <| ck (okM [RS.one (LK.f .f64)] (qt [AV.flt .f64 (farith BinOp.quo .f64 ua0 ub1), AV.int .i64 (IntKind.i64.wrap (toI (getV (q7 [AV.agg [AV.bool (toB ((toC (getV r0)).headD AV.dead)), AV.ro 1 (toN ((toC (getV r0)).tail.headD AV.dead)) (toR ((toC (getV r0)).tail.headD AV.dead)) (toG ((toC (getV r0)).tail.headD AV.dead)), AV.int .i64 (toI ((toC (getV r0)).tail.tail.headD AV.dead))], AV.agg [AV.bool (toB ((toC (getV r3)).headD AV.dead)), AV.ro 1 (toN ((toC (getV r3)).tail.headD AV.dead)) (toR ((toC (getV r3)).tail.headD AV.dead)) (toG ((toC (getV r3)).tail.headD AV.dead)), AV.int .i64 (toI ((toC (getV r3)).tail.tail.headD AV.dead))]])) * toI (getV (qw [AV.flt .f64 ub1])))), AV.int .i8 (toI (getV (qz [AV.int .i8 um2])))])) <| some (AV.flt .f64 (toF (getV (qt [AV.flt .f64 (farith BinOp.quo .f64 ua0 ub1), AV.int .i64 (IntKind.i64.wrap (toI (getV (q7 [AV.agg [AV.bool (toB ((toC (getV r0)).headD AV.dead)), AV.ro 1 (toN ((toC (getV r0)).tail.headD AV.dead)) (toR ((toC (getV r0)).tail.headD AV.dead)) (toG ((toC (getV r0)).tail.headD AV.dead)), AV.int .i64 (toI ((toC (getV r0)).tail.tail.headD AV.dead))], AV.agg [AV.bool (toB ((toC (getV r3)).headD AV.dead)), AV.ro 1 (toN ((toC (getV r3)).tail.headD AV.dead)) (toR ((toC (getV r3)).tail.headD AV.dead)) (toG ((toC (getV r3)).tail.headD AV.dead)), AV.int .i64 (toI ((toC (getV r3)).tail.tail.headD AV.dead))]])) * toI (getV (qw [AV.flt .f64 ub1])))), AV.int .i8 (toI (getV (qz [AV.int .i8 um2])))]))))
theorem ground_Div_run (qz qv : Mo) (qy qw : Mo) (qt qm : Mo) (we q0 q7 : Mo) (fuel : Nat) (ua0 ub1 : Option Nat) (um2 : Int) : run Pr (Ground_Div qz qv qy qw qt qm we q0 q7) [((6, 83), Lround_Div qz qv qy qw qt qm we q0 q7 fuel)] fuel 7 83 [AV.flt .f64 ua0, AV.flt .f64 ub1, AV.int .i8 um2] = ground_Div qz qv qy qw qt qm we q0 q7 fuel ua0 ub1 um2 := by kernel_rfl
noncomputable def mround_Div (qz qv : Mo) (qy qw : Mo) (qt qm : Mo) (we q0 q7 : Mo) (fuel : Nat) (xs : List AV) : Option AV := match xs with
  | [AV.flt .f64 ua0, AV.flt .f64 ub1, AV.int .i8 um2] => ground_Div qz qv qy qw qt qm we q0 q7 fuel ua0 ub1 um2
  | _ => none
abbrev Rround_Div : List RS := [RS.one (LK.f .f64)]
theorem ground_Div_sm (qz qv : Mo) (qy qw : Mo) (qt qm : Mo) (we q0 q7 : Mo) (fuel : Nat) (hΓ : GamOk Pr (Ground_Div qz qv qy qw qt qm we q0 q7)) (hP : NamesOk Pr) : SmOk Pr 83 (smM Rround_Div (mround_Div qz qv qy qw qt qm we q0 q7 fuel)) := by
  refine smM_ok (fuel := fuel) hΓ hP (LamOk.of 6 83 (Lround_Div qz qv qy qw qt qm we q0 q7 fuel) 0 (by kernel_rfl) (fun i hi => ?_)) 7 83 Rround_Div _ (fun xs v h => ?_)
  · match i, hi with
    | i + 0, hi => exact absurd hi (by omega)
  · unfold mround_Div at h
    split at h
    · exact (ground_Div_run qz qv qy qw qt qm we q0 q7 fuel _ _ _).trans h
    · cases h
noncomputable def Lspan_Div_c1 (vs : Mo) (fuel : Nat) : Lam AV := []
noncomputable def Gspan_Div_c1 (vs : Mo) : Gam := [(83, smM [RS.one (LK.f .f64)] vs)]
noncomputable def Cspan_Div_c1 (vs : Mo) (fuel : Nat) : CallI AV := callX (Gspan_Div_c1 vs) (execFn Pr (Gspan_Div_c1 vs) [((6, 82), Lspan_Div_c1 vs fuel)] fuel 6)
noncomputable def gspan_Div_c1 (vs : Mo) (fuel : Nat) (ux0 uy1 : Option Nat) (um2 : Int) : Option AV :=
  ck (okM [RS.one (LK.f .f64)] (vs [AV.flt .f64 ux0, AV.flt .f64 uy1, AV.int .i8 um2])) <| bif ford .f64 (toF (getV (vs [AV.flt .f64 ux0, AV.flt .f64 uy1, AV.int .i8 um2]))) (toF (getV (vs [AV.flt .f64 ux0, AV.flt .f64 uy1, AV.int .i8 um2]))) == some Ordering.eq then some (AV.flt .f64 (toF (getV (vs [AV.flt .f64 ux0, AV.flt .f64 uy1, AV.int .i8 um2]))))
  else some (AV.flt .f64 (some 0))
theorem gspan_Div_c1_run (vs : Mo) (fuel : Nat) (ux0 uy1 : Option Nat) (um2 : Int) : run Pr (Gspan_Div_c1 vs) [((6, 82), Lspan_Div_c1 vs fuel)] fuel 7 82 [AV.flt .f64 ux0, AV.flt .f64 uy1, AV.int .i8 um2] = gspan_Div_c1 vs fuel ux0 uy1 um2 := by kernel_rfl
noncomputable def mspan_Div_c1 (vs : Mo) (fuel : Nat) (xs : List AV) : Option AV := match xs with
  | [AV.flt .f64 ux0, AV.flt .f64 uy1, AV.int .i8 um2] => gspan_Div_c1 vs fuel ux0 uy1 um2
  | _ => none
abbrev Rspan_Div_c1 : List RS := [RS.one (LK.f .f64)]
theorem gspan_Div_c1_sm (vs : Mo) (fuel : Nat) (hΓ : GamOk Pr (Gspan_Div_c1 vs)) (hP : NamesOk Pr) : SmOk Pr 82 (smM Rspan_Div_c1 (mspan_Div_c1 vs fuel)) := by
  refine smM_ok (fuel := fuel) hΓ hP (LamOk.of 6 82 (Lspan_Div_c1 vs fuel) 0 (by kernel_rfl) (fun i hi => ?_)) 7 82 Rspan_Div_c1 _ (fun xs v h => ?_)
  · match i, hi with
    | i + 0, hi => exact absurd hi (by omega)
  · unfold mspan_Div_c1 at h
    split at h
    · exact (gspan_Div_c1_run vs fuel _ _ _).trans h
    · cases h
noncomputable def Lspan_corners_a (q6 q2 : Mo) (qq qs : Mo) (fuel : Nat) : Lam AV := []
noncomputable def Gspan_corners_a (q6 q2 : Mo) (qq qs : Mo) : Gam := [(98, smM [RS.one (LK.f .f64)] q6), (99, smM [RS.one (LK.f .f64)] q2), (84, smM [RS.one (LK.f .f64)] qq), (82, smM [RS.one (LK.f .f64)] qs)]
noncomputable def Cspan_corners_a (q6 q2 : Mo) (qq qs : Mo) (fuel : Nat) : CallI AV := callX (Gspan_corners_a q6 q2 qq qs) (execFn Pr (Gspan_corners_a q6 q2 qq qs) [((6, 81), Lspan_corners_a q6 q2 qq qs fuel)] fuel 6)
noncomputable def gspan_corners_a (q6 q2 : Mo) (qq qs : Mo) (fuel : Nat) (w2 za : Option Nat) (w3 w5 : Option Nat) : Option AV :=
  ck (okM [RS.one (LK.f .f64)] (qq [AV.flt .f64 w2, AV.flt .f64 w3, AV.int .i8 1])) <| ck (okM [RS.one (LK.f .f64)] (qq [AV.flt .f64 w2, AV.flt .f64 w3, AV.int .i8 2])) <| ck (okM [RS.one (LK.f .f64)] (qq [AV.flt .f64 w2, AV.flt .f64 w5, AV.int .i8 1])) <| ck (okM [RS.one (LK.f .f64)] (q6 [AV.flt .f64 (toF (getV (qq [AV.flt .f64 w2, AV.flt .f64 w3, AV.int .i8 1]))), AV.flt .f64 (toF (getV (qq [AV.flt .f64 w2, AV.flt .f64 w5, AV.int .i8 1])))])) <| ck (okM [RS.one (LK.f .f64)] (qq [AV.flt .f64 w2, AV.flt .f64 w5, AV.int .i8 2])) <| ck (okM [RS.one (LK.f .f64)] (q2 [AV.flt .f64 (toF (getV (qq [AV.flt .f64 w2, AV.flt .f64 w3, AV.int .i8 2]))), AV.flt .f64 (toF (getV (qq [AV.flt .f64 w2, AV.flt .f64 w5, AV.int .i8 2])))])) <| ck (okM [RS.one (LK.f .f64)] (qq [AV.flt .f64 za, AV.flt .f64 w3, AV.int .i8 1])) <| ck (okM [RS.one (LK.f .f64)] (q6 [AV.flt .f64 (toF (getV (q6 [AV.flt .f64 (toF (getV (qq [AV.flt .f64 w2, AV.flt .f64 w3, AV.int .i8 1]))), AV.flt .f64 (toF (getV (qq [AV.flt .f64 w2, AV.flt .f64 w5, AV.int .i8 1])))]))), AV.flt .f64 (toF (getV (qq [AV.flt .f64 za, AV.flt .f64 w3, AV.int .i8 1])))])) <| ck (okM [RS.one (LK.f .f64)] (qq [AV.flt .f64 za, AV.flt .f64 w3, AV.int .i8 2])) <| ck (okM [RS.one (LK.f .f64)] (q2 [AV.flt .f64 (toF (getV (q2 [AV.flt .f64 (toF (getV (qq [AV.flt .f64 w2, AV.flt .f64 w3, AV.int .i8 2]))), AV.flt .f64 (toF (getV (qq [AV.flt .f64 w2, AV.flt .f64 w5, AV.int .i8 2])))]))), AV.flt .f64 (toF (getV (qq [AV.flt .f64 za, AV.flt .f64 w3, AV.int .i8 2])))])) <| ck (okM [RS.one (LK.f .f64)] (qq [AV.flt .f64 za, AV.flt .f64 w5, AV.int .i8 1])) <| ck (okM [RS.one (LK.f .f64)] (q6 [AV.flt .f64 (toF (getV (q6 [AV.flt .f64 (toF (getV (q6 [AV.flt .f64 (toF (getV (qq [AV.flt .f64 w2, AV.flt .f64 w3, AV.int .i8 1]))), AV.flt .f64 (toF (getV (qq [AV.flt .f64 w2, AV.flt .f64 w5, AV.int .i8 1])))]))), AV.flt .f64 (toF (getV (qq [AV.flt .f64 za, AV.flt .f64 w3, AV.int .i8 1])))]))), AV.flt .f64 (toF (getV (qq [AV.flt .f64 za, AV.flt .f64 w5, AV.int .i8 1])))])) <| ck (okM [RS.one (LK.f .f64)] (qq [AV.flt .f64 za, AV.flt .f64 w5, AV.int .i8 2])) <| ck (okM [RS.one (LK.f .f64)] (q2 [AV.flt .f64 (toF (getV (q2 [AV.flt .f64 (toF (getV (q2 [AV.flt .f64 (toF (getV (qq [AV.flt .f64 w2, AV.flt .f64 w3, AV.int .i8 2]))), AV.flt .f64 (toF (getV (qq [AV.flt .f64 w2, AV.flt .f64 w5, AV.int .i8 2])))]))), AV.flt .f64 (toF (getV (qq [AV.flt .f64 za, AV.flt .f64 w3, AV.int .i8 2])))]))), AV.flt .f64 (toF (getV (qq [AV.flt .f64 za, AV.flt .f64 w5, AV.int .i8 2])))])) <| some (AV.tup [AV.agg [AV.flt .f64 (toF (getV (q6 [AV.flt .f64 (toF (getV (q6 [AV.flt .f64 (toF (getV (q6 [AV.flt .f64 (toF (getV (qq [AV.flt .f64 w2, AV.flt .f64 w3, AV.int .i8 1]))), AV.flt .f64 (toF (getV (qq [AV.flt .f64 w2, AV.flt .f64 w5, AV.int .i8 1])))]))), AV.flt .f64 (toF (getV (qq [AV.flt .f64 za, AV.flt .f64 w3, AV.int .i8 1])))]))), AV.flt .f64 (toF (getV (qq [AV.flt .f64 za, AV.flt .f64 w5, AV.int .i8 1])))]))), AV.flt .f64 (toF (getV (q2 [AV.flt .f64 (toF (getV (q2 [AV.flt .f64 (toF (getV (q2 [AV.flt .f64 (toF (getV (qq [AV.flt .f64 w2, AV.flt .f64 w3, AV.int .i8 2]))), AV.flt .f64 (toF (getV (qq [AV.flt .f64 w2, AV.flt .f64 w5, AV.int .i8 2])))]))), AV.flt .f64 (toF (getV (qq [AV.flt .f64 za, AV.flt .f64 w3, AV.int .i8 2])))]))), AV.flt .f64 (toF (getV (qq [AV.flt .f64 za, AV.flt .f64 w5, AV.int .i8 2])))])))]])
theorem gspan_corners_a_run (q6 q2 : Mo) (qq qs : Mo) (fuel : Nat) (w2 za : Option Nat) (w3 w5 : Option Nat) : runX Pr (Gspan_corners_a q6 q2 qq qs) [] (fuel + 8) 7 81 Xspan_corners_a [AV.agg [AV.flt .f64 w2, AV.flt .f64 za], AV.agg [AV.flt .f64 w3, AV.flt .f64 w5], AV.fn (Fn.func 84) [] []] [] = gspan_corners_a q6 q2 qq qs fuel w2 za w3 w5 := by kernel_rfl
noncomputable def mspan_corners_a (q6 q2 : Mo) (qq qs : Mo) (fuel : Nat) (xs : List AV) : Option AV := match xs with
  | [AV.agg [AV.flt .f64 w2, AV.flt .f64 za], AV.agg [AV.flt .f64 w3, AV.flt .f64 w5], AV.fn (Fn.func 84) [] []] => gspan_corners_a q6 q2 qq qs fuel w2 za w3 w5
  | _ => none
theorem gspan_corners_a_sm (q6 q2 : Mo) (qq qs : Mo) (fuel : Nat) (hΓ : GamOk Pr (Gspan_corners_a q6 q2 qq qs)) (hP : NamesOk Pr) : XOk Pr 81 (smX Rspan_corners_a Xspan_corners_a (mspan_corners_a q6 q2 qq qs fuel)) Xspan_corners_a := by
  refine smX_ok (fuel := (fuel + 8)) hΓ hP (LamOk.nil _ _ _) 7 81 Rspan_corners_a Xspan_corners_a _ (fun xs0 ys0 v ha hb h => ?_)
  · skip
    have ha0 : xs0.length = 3 := ha
    clear ha
    obtain ⟨a0, xs1, rfl, ha1⟩ := len_cons ha0
    clear ha0
    obtain ⟨a1, xs2, rfl, ha2⟩ := len_cons ha1
    clear ha1
    obtain ⟨a2, xs3, rfl, ha3⟩ := len_cons ha2
    clear ha2
    obtain rfl := List.eq_nil_of_length_eq_zero ha3
    have hy0 : ys0.map List.length = [] := hb
    clear hb
    obtain rfl := map_nil' hy0
    have h : mspan_corners_a q6 q2 qq qs fuel [a0, a1, a2] = some v := h
    generalize hx0 : [a0, a1, a2] = zs at h
    unfold mspan_corners_a at h
    split at h
    · skip
      obtain ⟨rfl, hx1⟩ := List.cons.inj hx0
      obtain ⟨rfl, hx2⟩ := List.cons.inj hx1
      obtain ⟨rfl, hx3⟩ := List.cons.inj hx2
      simp only [List.map_cons, List.map_nil]
      exact (gspan_corners_a_run q6 q2 qq qs fuel _ _ _ _).trans h
    · cases h
noncomputable def Lspan_corners_b (q6 q2 : Mo) (qq qs : Mo) (fuel : Nat) : Lam AV := []
noncomputable def Gspan_corners_b (q6 q2 : Mo) (qq qs : Mo) : Gam := [(98, smM [RS.one (LK.f .f64)] q6), (99, smM [RS.one (LK.f .f64)] q2), (84, smM [RS.one (LK.f .f64)] qq), (82, smM [RS.one (LK.f .f64)] qs)]
noncomputable def Cspan_corners_b (q6 q2 : Mo) (qq qs : Mo) (fuel : Nat) : CallI AV := callX (Gspan_corners_b q6 q2 qq qs) (execFn Pr (Gspan_corners_b q6 q2 qq qs) [((6, 81), Lspan_corners_b q6 q2 qq qs fuel)] fuel 6)
noncomputable def gspan_corners_b (q6 q2 : Mo) (qq qs : Mo) (fuel : Nat) (w2 za : Option Nat) (w3 w5 : Option Nat) : Option AV :=
  ck (okM [RS.one (LK.f .f64)] (qs [AV.flt .f64 w2, AV.flt .f64 w3, AV.int .i8 1])) <| ck (okM [RS.one (LK.f .f64)] (qs [AV.flt .f64 w2, AV.flt .f64 w3, AV.int .i8 2])) <| ck (okM [RS.one (LK.f .f64)] (qs [AV.flt .f64 w2, AV.flt .f64 w5, AV.int .i8 1])) <| ck (okM [RS.one (LK.f .f64)] (q6 [AV.flt .f64 (toF (getV (qs [AV.flt .f64 w2, AV.flt .f64 w3, AV.int .i8 1]))), AV.flt .f64 (toF (getV (qs [AV.flt .f64 w2, AV.flt .f64 w5, AV.int .i8 1])))])) <| ck (okM [RS.one (LK.f .f64)] (qs [AV.flt .f64 w2, AV.flt .f64 w5, AV.int .i8 2])) <| ck (okM [RS.one (LK.f .f64)] (q2 [AV.flt .f64 (toF (getV (qs [AV.flt .f64 w2, AV.flt .f64 w3, AV.int .i8 2]))), AV.flt .f64 (toF (getV (qs [AV.flt .f64 w2, AV.flt .f64 w5, AV.int .i8 2])))])) <| ck (okM [RS.one (LK.f .f64)] (qs [AV.flt .f64 za, AV.flt .f64 w3, AV.int .i8 1])) <| ck (okM [RS.one (LK.f .f64)] (q6 [AV.flt .f64 (toF (getV (q6 [AV.flt .f64 (toF (getV (qs [AV.flt .f64 w2, AV.flt .f64 w3, AV.int .i8 1]))), AV.flt .f64 (toF (getV (qs [AV.flt .f64 w2, AV.flt .f64 w5, AV.int .i8 1])))]))), AV.flt .f64 (toF (getV (qs [AV.flt .f64 za, AV.flt .f64 w3, AV.int .i8 1])))])) <| ck (okM [RS.one (LK.f .f64)] (qs [AV.flt .f64 za, AV.flt .f64 w3, AV.int .i8 2])) <| ck (okM [RS.one (LK.f .f64)] (q2 [AV.flt .f64 (toF (getV (q2 [AV.flt .f64 (toF (getV (qs [AV.flt .f64 w2, AV.flt .f64 w3, AV.int .i8 2]))), AV.flt .f64 (toF (getV (qs [AV.flt .f64 w2, AV.flt .f64 w5, AV.int .i8 2])))]))), AV.flt .f64 (toF (getV (qs [AV.flt .f64 za, AV.flt .f64 w3, AV.int .i8 2])))])) <| ck (okM [RS.one (LK.f .f64)] (qs [AV.flt .f64 za, AV.flt .f64 w5, AV.int .i8 1])) <| ck (okM [RS.one (LK.f .f64)] (q6 [AV.flt .f64 (toF (getV (q6 [AV.flt .f64 (toF (getV (q6 [AV.flt .f64 (toF (getV (qs [AV.flt .f64 w2, AV.flt .f64 w3, AV.int .i8 1]))), AV.flt .f64 (toF (getV (qs [AV.flt .f64 w2, AV.flt .f64 w5, AV.int .i8 1])))]))), AV.flt .f64 (toF (getV (qs [AV.flt .f64 za, AV.flt .f64 w3, AV.int .i8 1])))]))), AV.flt .f64 (toF (getV (qs [AV.flt .f64 za, AV.flt .f64 w5, AV.int .i8 1])))])) <| ck (okM [RS.one (LK.f .f64)] (qs [AV.flt .f64 za, AV.flt .f64 w5, AV.int .i8 2])) <| ck (okM [RS.one (LK.f .f64)] (q2 [AV.flt .f64 (toF (getV (q2 [AV.flt .f64 (toF (getV (q2 [AV.flt .f64 (toF (getV (qs [AV.flt .f64 w2, AV.flt .f64 w3, AV.int .i8 2]))), AV.flt .f64 (toF (getV (qs [AV.flt .f64 w2, AV.flt .f64 w5, AV.int .i8 2])))]))), AV.flt .f64 (toF (getV (qs [AV.flt .f64 za, AV.flt .f64 w3, AV.int .i8 2])))]))), AV.flt .f64 (toF (getV (qs [AV.flt .f64 za, AV.flt .f64 w5, AV.int .i8 2])))])) <| some (AV.tup [AV.agg [AV.flt .f64 (toF (getV (q6 [AV.flt .f64 (toF (getV (q6 [AV.flt .f64 (toF (getV (q6 [AV.flt .f64 (toF (getV (qs [AV.flt .f64 w2, AV.flt .f64 w3, AV.int .i8 1]))), AV.flt .f64 (toF (getV (qs [AV.flt .f64 w2, AV.flt .f64 w5, AV.int .i8 1])))]))), AV.flt .f64 (toF (getV (qs [AV.flt .f64 za, AV.flt .f64 w3, AV.int .i8 1])))]))), AV.flt .f64 (toF (getV (qs [AV.flt .f64 za, AV.flt .f64 w5, AV.int .i8 1])))]))), AV.flt .f64 (toF (getV (q2 [AV.flt .f64 (toF (getV (q2 [AV.flt .f64 (toF (getV (q2 [AV.flt .f64 (toF (getV (qs [AV.flt .f64 w2, AV.flt .f64 w3, AV.int .i8 2]))), AV.flt .f64 (toF (getV (qs [AV.flt .f64 w2, AV.flt .f64 w5, AV.int .i8 2])))]))), AV.flt .f64 (toF (getV (qs [AV.flt .f64 za, AV.flt .f64 w3, AV.int .i8 2])))]))), AV.flt .f64 (toF (getV (qs [AV.flt .f64 za, AV.flt .f64 w5, AV.int .i8 2])))])))]])
theorem gspan_corners_b_run (q6 q2 : Mo) (qq qs : Mo) (fuel : Nat) (w2 za : Option Nat) (w3 w5 : Option Nat) : runX Pr (Gspan_corners_b q6 q2 qq qs) [] (fuel + 8) 7 81 Xspan_corners_b [AV.agg [AV.flt .f64 w2, AV.flt .f64 za], AV.agg [AV.flt .f64 w3, AV.flt .f64 w5], AV.fn (Fn.func 82) [] []] [] = gspan_corners_b q6 q2 qq qs fuel w2 za w3 w5 := by kernel_rfl
noncomputable def mspan_corners_b (q6 q2 : Mo) (qq qs : Mo) (fuel : Nat) (xs : List AV) : Option AV := match xs with
  | [AV.agg [AV.flt .f64 w2, AV.flt .f64 za], AV.agg [AV.flt .f64 w3, AV.flt .f64 w5], AV.fn (Fn.func 82) [] []] => gspan_corners_b q6 q2 qq qs fuel w2 za w3 w5
  | _ => none
theorem gspan_corners_b_sm (q6 q2 : Mo) (qq qs : Mo) (fuel : Nat) (hΓ : GamOk Pr (Gspan_corners_b q6 q2 qq qs)) (hP : NamesOk Pr) : XOk Pr 81 (smX Rspan_corners_b Xspan_corners_b (mspan_corners_b q6 q2 qq qs fuel)) Xspan_corners_b := by
  refine smX_ok (fuel := (fuel + 8)) hΓ hP (LamOk.nil _ _ _) 7 81 Rspan_corners_b Xspan_corners_b _ (fun xs0 ys0 v ha hb h => ?_)
  · skip
    have ha0 : xs0.length = 3 := ha
    clear ha
    obtain ⟨a0, xs1, rfl, ha1⟩ := len_cons ha0
    clear ha0
    obtain ⟨a1, xs2, rfl, ha2⟩ := len_cons ha1
    clear ha1
    obtain ⟨a2, xs3, rfl, ha3⟩ := len_cons ha2
    clear ha2
    obtain rfl := List.eq_nil_of_length_eq_zero ha3
    have hy0 : ys0.map List.length = [] := hb
    clear hb
    obtain rfl := map_nil' hy0
    have h : mspan_corners_b q6 q2 qq qs fuel [a0, a1, a2] = some v := h
    generalize hx0 : [a0, a1, a2] = zs at h
    unfold mspan_corners_b at h
    split at h
    · skip
      obtain ⟨rfl, hx1⟩ := List.cons.inj hx0
      obtain ⟨rfl, hx2⟩ := List.cons.inj hx1
      obtain ⟨rfl, hx3⟩ := List.cons.inj hx2
      simp only [List.map_cons, List.map_nil]
      exact (gspan_corners_b_run q6 q2 qq qs fuel _ _ _ _).trans h
    · cases h
noncomputable def Lspan_Mul (wu qq : Mo) (wb wa : Mo) (fuel : Nat) : Lam AV := []
noncomputable def Gspan_Mul (wu qq : Mo) (wb wa : Mo) : Gam := [(80, smM [RS.one LK.b] wu), (84, smM [RS.one (LK.f .f64)] qq), (81, smX Rspan_corners_a Xspan_corners_a wb), (81, smX Rspan_corners_b Xspan_corners_b wa)]
noncomputable def Cspan_Mul (wu qq : Mo) (wb wa : Mo) (fuel : Nat) : CallI AV := callX (Gspan_Mul wu qq wb wa) (execFn Pr (Gspan_Mul wu qq wb wa) [((6, 62), Lspan_Mul wu qq wb wa fuel)] fuel 6)
noncomputable def gspan_Mul (wu qq : Mo) (wb wa : Mo) (fuel : Nat) (w2 za : Option Nat) (w3 w5 : Option Nat) : Option AV :=
  ck (okM [RS.one LK.b] (wu [AV.ro 2 2 2 fun (i j : Nat) => ([[AV.flt .f64 w2, AV.flt .f64 za], [AV.flt .f64 w3, AV.flt .f64 w5]].getD i []).getD j AV.dead])) <| bif !toB (getV (wu [AV.ro 2 2 2 fun (i j : Nat) => ([[AV.flt .f64 w2, AV.flt .f64 za], [AV.flt .f64 w3, AV.flt .f64 w5]].getD i []).getD j AV.dead])) then some (AV.tup [AV.agg [AV.flt .f64 (some 0), AV.flt .f64 (some 0)], AV.int .i64 2])
  else let r0 : Option AV := wb [AV.agg [AV.flt .f64 w2, AV.flt .f64 za], AV.agg [AV.flt .f64 w3, AV.flt .f64 w5], AV.fn (Fn.func 84) [] []]; ck (okX [RS.agg [LK.f .f64, LK.f .f64]] r0) <| some (AV.tup [AV.agg [AV.flt .f64 (toF ((toC ((toT (getV r0)).headD AV.dead)).headD AV.dead)), AV.flt .f64 (toF ((toC ((toT (getV r0)).headD AV.dead)).tail.headD AV.dead))], AV.int .i64 0])
theorem gspan_Mul_run (wu qq : Mo) (wb wa : Mo) (fuel : Nat) (w2 za : Option Nat) (w3 w5 : Option Nat) : run Pr (Gspan_Mul wu qq wb wa) [((6, 62), Lspan_Mul wu qq wb wa fuel)] fuel 7 62 [AV.agg [AV.flt .f64 w2, AV.flt .f64 za], AV.agg [AV.flt .f64 w3, AV.flt .f64 w5]] = gspan_Mul wu qq wb wa fuel w2 za w3 w5 := by kernel_rfl
noncomputable def mspan_Mul (wu qq : Mo) (wb wa : Mo) (fuel : Nat) (xs : List AV) : Option AV := match xs with
  | [AV.agg [AV.flt .f64 w2, AV.flt .f64 za], AV.agg [AV.flt .f64 w3, AV.flt .f64 w5]] => gspan_Mul wu qq wb wa fuel w2 za w3 w5
  | _ => none
abbrev Rspan_Mul : List RS := [RS.agg [LK.f .f64, LK.f .f64], RS.one (LK.i .i64)]
theorem gspan_Mul_sm (wu qq : Mo) (wb wa : Mo) (fuel : Nat) (hΓ : GamOk Pr (Gspan_Mul wu qq wb wa)) (hP : NamesOk Pr) : SmOk Pr 62 (smM Rspan_Mul (mspan_Mul wu qq wb wa fuel)) := by
  refine smM_ok (fuel := fuel) hΓ hP (LamOk.of 6 62 (Lspan_Mul wu qq wb wa fuel) 0 (by kernel_rfl) (fun i hi => ?_)) 7 62 Rspan_Mul _ (fun xs v h => ?_)
  · match i, hi with
    | i + 0, hi => exact absurd hi (by omega)
  · unfold mspan_Mul at h
    split at h
    · exact (gspan_Mul_run wu qq wb wa fuel _ _ _ _).trans h
    · cases h
noncomputable def Sbars_times_0 (qem qet : Nat) (qc3 : Ge) (u11 u12 : Int) (ys qd9 : Option Nat) (qap yr : Option Nat) : St := { env := [(2, AV.ptr 0 0), (3, AV.ptr 1 0), (10, AV.ro 2 qem qet qc3), (11, AV.int .i64 u11), (12, AV.int .i64 u12)], h := [Blk.box [AV.flt .f64 ys, AV.flt .f64 qd9], Blk.box [AV.flt .f64 qap, AV.flt .f64 yr]], kd := [] }
noncomputable def Xbars_times_0_0 (qc4 qe8 : Option Nat) (qaq qd1 : Option Nat) : St := { env := [(2, AV.ptr 0 0), (3, AV.ptr 1 0)], h := [Blk.box [AV.flt .f64 qc4, AV.flt .f64 qe8], Blk.box [AV.flt .f64 qaq, AV.flt .f64 qd1]], kd := [] }
noncomputable def gbars_times_l0_step (ww : Mo) (fuel : Nat) (kn : Int → Option Nat → Option Nat → Option AV) (kx0 : Option Nat → Option Nat → Option Nat → Option Nat → Option AV) (qem qet : Nat) (qc3 : Ge) (u11 : Int) (ys qd9 : Option Nat) (u12 : Int) (qap yr : Option Nat) : Option AV :=
  bif decide (u12 < u11) then ck (decide (0 ≤ u12)) <| ck (decide (u12 < (↑qem : Int))) <| ck (fitKs [LK.f .f64, LK.f .f64] [qc3 u12.toNat 0, qc3 u12.toNat 1]) <| let r0 : Option AV := ww [AV.agg [AV.flt .f64 qap, AV.flt .f64 yr], AV.agg [AV.flt .f64 (toF (qc3 u12.toNat 0)), AV.flt .f64 (toF (qc3 u12.toNat 1))]]; ck (okM [RS.agg [LK.f .f64, LK.f .f64], RS.one (LK.i .i64)] r0) <| kn (IntKind.i64.wrap (u12 + 1)) (toF ((toC ((toT (getV r0)).headD AV.dead)).headD AV.dead)) (toF ((toC ((toT (getV r0)).headD AV.dead)).tail.headD AV.dead))
  else kx0 (ys) (qd9) (qap) (yr)
noncomputable def gbars_times_l0 (ww : Mo) (fuel : Nat) (kx0 : Option Nat → Option Nat → Option Nat → Option Nat → Option AV) (qem qet : Nat) (qc3 : Ge) (u11 : Int) (ys qd9 : Option Nat) : Nat → Int → Option Nat → Option Nat → Option AV
  | 0, _, _, _ => none
  | n' + 1, u12, qap, yr => gbars_times_l0_step ww fuel (gbars_times_l0 ww fuel kx0 qem qet qc3 u11 ys qd9 n') kx0 qem qet qc3 u11 ys qd9 u12 qap yr
noncomputable def Tbars_times_0 : TS' := ⟨[(2, TA.ptr 0 0), (3, TA.ptr 1 0), (10, TA.ro 2), (11, TA.i .i64), (12, TA.i .i64)], [TB.box [TA.f .f64, TA.f .f64], TB.box [TA.f .f64, TA.f .f64]], []⟩
noncomputable def Fbars_times_0 (ww : Mo) (fuel : Nat) (ps : List Pay) (K : Ex → St → Option AV) : Option AV := match ps with
  | .n qem :: .n qet :: .g qc3 :: .i u11 :: .i u12 :: .o ys :: .o qd9 :: .o qap :: .o yr :: [] => gbars_times_l0 ww fuel (fun qc4 qe8 qaq qd1 => K (Ex.exit 0) (Xbars_times_0_0 qc4 qe8 qaq qd1)) qem qet qc3 u11 ys qd9 fuel u12 qap yr
  | _ => none
noncomputable def Lbars_times (ww : Mo) (fuel : Nat) : Lam AV := [(8384544, lam Tbars_times_0 (Fbars_times_0 ww fuel))]
noncomputable def Gbars_times (ww : Mo) : Gam := [(62, smM [RS.agg [LK.f .f64, LK.f .f64], RS.one (LK.i .i64)] ww)]
noncomputable def Cbars_times (ww : Mo) (fuel : Nat) : CallI AV := callX (Gbars_times ww) (execFn Pr (Gbars_times ww) [((6, 41), Lbars_times ww fuel)] fuel 6)
theorem gbars_times_l0_eq (ww : Mo) (fuel : Nat) (kn : St → Option AV) (K : Ex → St → Option AV) (qem qet : Nat) (qc3 : Ge) (u11 : Int) (ys qd9 : Option Nat) (qo0 : Int) (qk7 qli : Option Nat) (u12 : Int) (qap yr : Option Nat) :
    exec Pr (Gbars_times ww) (Lbars_times ww fuel) (fnNt Pr 41) fuel (Cbars_times ww fuel) (lp Pr 41 0).1 (lp Pr 41 0).2 (live (lp Pr 41 0).1 (lp Pr 41 0).2 0) (Sbars_times_0 qem qet qc3 u11 u12 ys qd9 qap yr) (fun e s => match e with | .normal => kn (headN (live (lp Pr 41 0).1 (lp Pr 41 0).2 0) (writes (lp Pr 41 0).1) (Sbars_times_0 qem qet qc3 u11 qo0 ys qd9 qk7 qli) s) | e => K e s) =
    gbars_times_l0_step ww fuel (fun u12 qap yr => kn (Sbars_times_0 qem qet qc3 u11 u12 ys qd9 qap yr)) (fun v1 xh0_1 qcd pc => K (Ex.exit 0) (Xbars_times_0_0 v1 xh0_1 qcd pc)) qem qet qc3 u11 ys qd9 u12 qap yr := by kernel_rfl
theorem gbars_times_l0_ok (ww : Mo) (fuel : Nat) (K : Ex → St → Option AV) (qem qet : Nat) (qc3 : Ge) (u11 : Int) (ys qd9 : Option Nat) (qo0 : Int) (qk7 qli : Option Nat) : ∀ (n' : Nat) (u12 : Int) (qap yr : Option Nat),
    loopK (exec Pr (Gbars_times ww) (Lbars_times ww fuel) (fnNt Pr 41) fuel (Cbars_times ww fuel) (lp Pr 41 0).1 (lp Pr 41 0).2 (live (lp Pr 41 0).1 (lp Pr 41 0).2 0)) (headN (live (lp Pr 41 0).1 (lp Pr 41 0).2 0) (writes (lp Pr 41 0).1) (Sbars_times_0 qem qet qc3 u11 qo0 ys qd9 qk7 qli)) n' (Sbars_times_0 qem qet qc3 u11 u12 ys qd9 qap yr) K = gbars_times_l0 ww fuel (fun v1 xh0_1 qcd pc => K (Ex.exit 0) (Xbars_times_0_0 v1 xh0_1 qcd pc)) qem qet qc3 u11 ys qd9 n' u12 qap yr
  | 0, _, _, _ => rfl
  | n' + 1, u12, qap, yr => (gbars_times_l0_eq ww fuel (fun s => loopK (exec Pr (Gbars_times ww) (Lbars_times ww fuel) (fnNt Pr 41) fuel (Cbars_times ww fuel) (lp Pr 41 0).1 (lp Pr 41 0).2 (live (lp Pr 41 0).1 (lp Pr 41 0).2 0)) (headN (live (lp Pr 41 0).1 (lp Pr 41 0).2 0) (writes (lp Pr 41 0).1) (Sbars_times_0 qem qet qc3 u11 qo0 ys qd9 qk7 qli)) n' s K) K qem qet qc3 u11 ys qd9 qo0 qk7 qli u12 qap yr).trans
    (congrArg (fun kn => gbars_times_l0_step ww fuel kn (fun v1 xh0_1 qcd pc => K (Ex.exit 0) (Xbars_times_0_0 v1 xh0_1 qcd pc)) qem qet qc3 u11 ys qd9 u12 qap yr) (funext fun _ => funext fun _ => funext fun _ => gbars_times_l0_ok ww fuel K qem qet qc3 u11 ys qd9 qo0 qk7 qli n' _ _ _))
theorem gbars_times_L0 (ww : Mo) (fuel : Nat) : LOk Pr (Gbars_times ww) (Lbars_times ww fuel) (fnNt Pr 41) fuel (Cbars_times ww fuel) (lp Pr 41 0) := by
  refine .of Tbars_times_0 (Fbars_times_0 ww fuel) (fun L h => ?_) (fun ps st K r he hr => ?_)
  · have e : (Lbars_times ww fuel).get (writes (lp Pr 41 0).1) = some (lam Tbars_times_0 (Fbars_times_0 ww fuel)) := by kernel_rfl
    exact (Option.some.inj (e.symm.trans h)).symm
  · unfold Fbars_times_0 at hr
    split at hr
    · obtain rfl := (Option.some.inj he).symm
      exact (gbars_times_l0_ok ww fuel K _ _ _ _ _ _ _ _ _ fuel _ _ _).trans hr
    · cases hr
noncomputable def gbars_times (ww : Mo) (fuel vf yo : Nat) (v4 : Ge) : Option AV :=
  ck (decide (0 < (↑vf : Int))) <| ck (fitKs [LK.f .f64, LK.f .f64] [v4 0 0, v4 0 1]) <| ck (decide (1 ≤ (↑vf : Int))) <| gbars_times_l0 ww fuel
    (fun (_ _ : Option Nat) (qcd pc : Option Nat) => some (AV.agg [AV.flt .f64 qcd, AV.flt .f64 pc]))
    (vf - 1)
    (yo - 1)
    (fun (i : Nat) => v4 (1 + i))
    ((↑(vf - 1) : Int))
    (some 0)
    (some 0) fuel (0) (toF (v4 0 0)) (toF (v4 0 1))
theorem gbars_times_run (ww : Mo) (fuel vf yo : Nat) (v4 : Ge) : run Pr (Gbars_times ww) [((6, 41), Lbars_times ww fuel)] fuel 7 41 [AV.ro 2 vf yo v4] = gbars_times ww fuel vf yo v4 := by kernel_rfl
noncomputable def mbars_times (ww : Mo) (fuel : Nat) (xs : List AV) : Option AV := match xs with
  | [AV.ro 2 vf yo v4] => gbars_times ww fuel vf yo v4
  | _ => none
abbrev Rbars_times : List RS := [RS.agg [LK.f .f64, LK.f .f64]]
theorem gbars_times_sm (ww : Mo) (fuel : Nat) (hΓ : GamOk Pr (Gbars_times ww)) (hP : NamesOk Pr) : SmOk Pr 41 (smM Rbars_times (mbars_times ww fuel)) := by
  refine smM_ok (fuel := fuel) hΓ hP (LamOk.of 6 41 (Lbars_times ww fuel) 1 (by kernel_rfl) (fun i hi => ?_)) 7 41 Rbars_times _ (fun xs v h => ?_)
  · match i, hi with
    | 0, _ => exact gbars_times_L0 ww fuel
    | i + 1, hi => exact absurd hi (by omega)
  · unfold mbars_times at h
    split at h
    · exact (gbars_times_run ww fuel _ _ _).trans h
    · cases h
noncomputable def Lspan_Div (wu qs : Mo) (wb wa : Mo) (fuel : Nat) : Lam AV := []
noncomputable def Gspan_Div (wu qs : Mo) (wb wa : Mo) : Gam := [(80, smM [RS.one LK.b] wu), (82, smM [RS.one (LK.f .f64)] qs), (81, smX Rspan_corners_a Xspan_corners_a wb), (81, smX Rspan_corners_b Xspan_corners_b wa)]
noncomputable def Cspan_Div (wu qs : Mo) (wb wa : Mo) (fuel : Nat) : CallI AV := callX (Gspan_Div wu qs wb wa) (execFn Pr (Gspan_Div wu qs wb wa) [((6, 61), Lspan_Div wu qs wb wa fuel)] fuel 6)
noncomputable def gspan_Div (wu qs : Mo) (wb wa : Mo) (fuel : Nat) (w2 za : Option Nat) (w3 w5 : Option Nat) : Option AV :=
  ck (okM [RS.one LK.b] (wu [AV.ro 2 2 2 fun (i j : Nat) => ([[AV.flt .f64 w2, AV.flt .f64 za], [AV.flt .f64 w3, AV.flt .f64 w5]].getD i []).getD j AV.dead])) <| bif !toB (getV (wu [AV.ro 2 2 2 fun (i j : Nat) => ([[AV.flt .f64 w2, AV.flt .f64 za], [AV.flt .f64 w3, AV.flt .f64 w5]].getD i []).getD j AV.dead])) then some (AV.tup [AV.agg [AV.flt .f64 (some 0), AV.flt .f64 (some 0)], AV.int .i64 2])
  else ck (bif ford .f64 w3 (some 0) == some Ordering.lt || ford .f64 w3 (some 0) == some Ordering.eq then true else true) <| bif bif ford .f64 w3 (some 0) == some Ordering.lt || ford .f64 w3 (some 0) == some Ordering.eq then ford .f64 w5 (some 0) == some Ordering.gt || ford .f64 w5 (some 0) == some Ordering.eq else false then some (AV.tup [AV.agg [AV.flt .f64 (some 0), AV.flt .f64 (some 0)], AV.int .i64 7])
  else let r0 : Option AV := wa [AV.agg [AV.flt .f64 w2, AV.flt .f64 za], AV.agg [AV.flt .f64 w3, AV.flt .f64 w5], AV.fn (Fn.func 82) [] []]; ck (okX [RS.agg [LK.f .f64, LK.f .f64]] r0) <| some (AV.tup [AV.agg [AV.flt .f64 (toF ((toC ((toT (getV r0)).headD AV.dead)).headD AV.dead)), AV.flt .f64 (toF ((toC ((toT (getV r0)).headD AV.dead)).tail.headD AV.dead))], AV.int .i64 0])
theorem gspan_Div_run (wu qs : Mo) (wb wa : Mo) (fuel : Nat) (w2 za : Option Nat) (w3 w5 : Option Nat) : run Pr (Gspan_Div wu qs wb wa) [((6, 61), Lspan_Div wu qs wb wa fuel)] fuel 7 61 [AV.agg [AV.flt .f64 w2, AV.flt .f64 za], AV.agg [AV.flt .f64 w3, AV.flt .f64 w5]] = gspan_Div wu qs wb wa fuel w2 za w3 w5 := by kernel_rfl
noncomputable def mspan_Div (wu qs : Mo) (wb wa : Mo) (fuel : Nat) (xs : List AV) : Option AV := match xs with
  | [AV.agg [AV.flt .f64 w2, AV.flt .f64 za], AV.agg [AV.flt .f64 w3, AV.flt .f64 w5]] => gspan_Div wu qs wb wa fuel w2 za w3 w5
  | _ => none
abbrev Rspan_Div : List RS := [RS.agg [LK.f .f64, LK.f .f64], RS.one (LK.i .i64)]
theorem gspan_Div_sm (wu qs : Mo) (wb wa : Mo) (fuel : Nat) (hΓ : GamOk Pr (Gspan_Div wu qs wb wa)) (hP : NamesOk Pr) : SmOk Pr 61 (smM Rspan_Div (mspan_Div wu qs wb wa fuel)) := by
  refine smM_ok (fuel := fuel) hΓ hP (LamOk.of 6 61 (Lspan_Div wu qs wb wa fuel) 0 (by kernel_rfl) (fun i hi => ?_)) 7 61 Rspan_Div _ (fun xs v h => ?_)
  · match i, hi with
    | i + 0, hi => exact absurd hi (by omega)
  · unfold mspan_Div at h
    split at h
    · exact (gspan_Div_run wu qs wb wa fuel _ _ _ _).trans h
    · cases h
noncomputable def Lbars_spring (yf : Mo) (fuel : Nat) : Lam AV := []
noncomputable def Gbars_spring (yf : Mo) : Gam := [(61, smM [RS.agg [LK.f .f64, LK.f .f64], RS.one (LK.i .i64)] yf)]
noncomputable def Cbars_spring (yf : Mo) (fuel : Nat) : CallI AV := callX (Gbars_spring yf) (execFn Pr (Gbars_spring yf) [((6, 40), Lbars_spring yf fuel)] fuel 6)
noncomputable def gbars_spring (yf : Mo) (fuel : Nat) (qeu qcv : Int) (qcy qcz : Int) (qcs qcq qct : Int) (qf5 qf4 : Option Nat) (qen qew : Option Nat) (qla qhi : Option Nat) : Option AV :=
  let r0 : Option AV := yf [AV.agg [AV.flt .f64 qf5, AV.flt .f64 qf4], AV.agg [AV.flt .f64 qen, AV.flt .f64 qew]]; ck (okM [RS.agg [LK.f .f64, LK.f .f64], RS.one (LK.i .i64)] r0) <| some (AV.agg [AV.int .i64 0, AV.int .u8 qeu, AV.int .i64 qcv, AV.int .i64 qcy, AV.int .i64 qcz, AV.int .i64 qcs, AV.int .i64 qcq, AV.int .i64 qct, AV.flt .f64 (toF ((toC ((toT (getV r0)).headD AV.dead)).headD AV.dead)), AV.flt .f64 (toF ((toC ((toT (getV r0)).headD AV.dead)).tail.headD AV.dead)), AV.flt .f64 (farith BinOp.quo .f64 qla qhi)])
theorem gbars_spring_run (yf : Mo) (fuel : Nat) (qeu qcv : Int) (qcy qcz : Int) (qcs qcq qct : Int) (qf5 qf4 : Option Nat) (qen qew : Option Nat) (qla qhi : Option Nat) : run Pr (Gbars_spring yf) [((6, 40), Lbars_spring yf fuel)] fuel 7 40 [AV.int .u8 qeu, AV.agg [AV.int .i64 qcv, AV.int .i64 qcy, AV.int .i64 qcz, AV.int .i64 qcs, AV.int .i64 qcq, AV.int .i64 qct], AV.agg [AV.flt .f64 qf5, AV.flt .f64 qf4], AV.agg [AV.flt .f64 qen, AV.flt .f64 qew], AV.flt .f64 qla, AV.flt .f64 qhi] = gbars_spring yf fuel qeu qcv qcy qcz qcs qcq qct qf5 qf4 qen qew qla qhi := by kernel_rfl
noncomputable def mbars_spring (yf : Mo) (fuel : Nat) (xs : List AV) : Option AV := match xs with
  | [AV.int .u8 qeu, AV.agg [AV.int .i64 qcv, AV.int .i64 qcy, AV.int .i64 qcz, AV.int .i64 qcs, AV.int .i64 qcq, AV.int .i64 qct], AV.agg [AV.flt .f64 qf5, AV.flt .f64 qf4], AV.agg [AV.flt .f64 qen, AV.flt .f64 qew], AV.flt .f64 qla, AV.flt .f64 qhi] => gbars_spring yf fuel qeu qcv qcy qcz qcs qcq qct qf5 qf4 qen qew qla qhi
  | _ => none
abbrev Rbars_spring : List RS := [RS.agg [LK.i .i64, LK.i .u8, LK.i .i64, LK.i .i64, LK.i .i64, LK.i .i64, LK.i .i64, LK.i .i64, LK.f .f64, LK.f .f64, LK.f .f64]]
theorem gbars_spring_sm (yf : Mo) (fuel : Nat) (hΓ : GamOk Pr (Gbars_spring yf)) (hP : NamesOk Pr) : SmOk Pr 40 (smM Rbars_spring (mbars_spring yf fuel)) := by
  refine smM_ok (fuel := fuel) hΓ hP (LamOk.of 6 40 (Lbars_spring yf fuel) 0 (by kernel_rfl) (fun i hi => ?_)) 7 40 Rbars_spring _ (fun xs v h => ?_)
  · match i, hi with
    | i + 0, hi => exact absurd hi (by omega)
  · unfold mbars_spring at h
    split at h
    · exact (gbars_spring_run yf fuel _ _ _ _ _ _ _ _ _ _ _ _ _).trans h
    · cases h
noncomputable def Lbars_stands (fuel : Nat) : Lam AV := []
noncomputable def Gbars_stands : Gam := []
noncomputable def Cbars_stands (fuel : Nat) : CallI AV := callX (Gbars_stands) (execFn Pr (Gbars_stands) [((6, 44), Lbars_stands fuel)] fuel 6)
noncomputable def gbars_stands (fuel : Nat) (qfy : ByteArray) (qcn qd4 qfz : Int) (qdi qc5 : Bool) (qfx qf1 qd2 : Option Nat) : Option AV :=
  ck (bif qcn == 2 then true else true) <| ck (bif qcn == 2 then true else true) <| some (AV.tup [AV.bool (bif qcn == 2 then !qdi else false), AV.bool (bif qcn == 2 then !qc5 else false)])
theorem gbars_stands_run (fuel : Nat) (qfy : ByteArray) (qcn qd4 qfz : Int) (qdi qc5 : Bool) (qfx qf1 qd2 : Option Nat) : run Pr (Gbars_stands) [((6, 44), Lbars_stands fuel)] fuel 7 44 [AV.agg [AV.str qfy, AV.int .u8 qcn, AV.int .i64 qd4, AV.int .i64 qfz, AV.bool qdi, AV.bool qc5, AV.flt .f64 qfx, AV.flt .f64 qf1, AV.flt .f64 qd2]] = gbars_stands fuel qfy qcn qd4 qfz qdi qc5 qfx qf1 qd2 := by kernel_rfl
noncomputable def mbars_stands (fuel : Nat) (xs : List AV) : Option AV := match xs with
  | [AV.agg [AV.str qfy, AV.int .u8 qcn, AV.int .i64 qd4, AV.int .i64 qfz, AV.bool qdi, AV.bool qc5, AV.flt .f64 qfx, AV.flt .f64 qf1, AV.flt .f64 qd2]] => gbars_stands fuel qfy qcn qd4 qfz qdi qc5 qfx qf1 qd2
  | _ => none
abbrev Rbars_stands : List RS := [RS.one LK.b, RS.one LK.b]
theorem gbars_stands_sm (fuel : Nat) (hΓ : GamOk Pr (Gbars_stands)) (hP : NamesOk Pr) : SmOk Pr 44 (smM Rbars_stands (mbars_stands fuel)) := by
  refine smM_ok (fuel := fuel) hΓ hP (LamOk.of 6 44 (Lbars_stands fuel) 0 (by kernel_rfl) (fun i hi => ?_)) 7 44 Rbars_stands _ (fun xs v h => ?_)
  · match i, hi with
    | i + 0, hi => exact absurd hi (by omega)
  · unfold mbars_stands at h
    split at h
    · exact (gbars_stands_run fuel _ _ _ _ _ _ _ _ _).trans h
    · cases h
noncomputable def Lbars_springs_c1 (wz wr wk : Mo) (fuel : Nat) : Lam AV := []
noncomputable def Gbars_springs_c1 (wz wr wk : Mo) : Gam := [(42, smM [RS.agg [LK.f .f64, LK.f .f64]] wz), (41, smM [RS.agg [LK.f .f64, LK.f .f64]] wr), (40, smM [RS.agg [LK.i .i64, LK.i .u8, LK.i .i64, LK.i .i64, LK.i .i64, LK.i .i64, LK.i .i64, LK.i .i64, LK.f .f64, LK.f .f64, LK.f .f64]] wk)]
noncomputable def Cbars_springs_c1 (wz wr wk : Mo) (fuel : Nat) : CallI AV := callX (Gbars_springs_c1 wz wr wk) (execFn Pr (Gbars_springs_c1 wz wr wk) [((6, 43), Lbars_springs_c1 wz wr wk fuel)] fuel 6)
noncomputable def gbars_springs_c1 (wz wr wk : Mo) (fuel : Nat) (qeu qcv : Int) (qcy qcz : Int) (qcs qcq qct : Int) (f0n : Nat) (f0g : Nat → AV) (f1n : Nat) (f1g : Nat → AV) (f2n : Nat) (f2g : Nat → AV) (f3n : Nat) (f3g : Nat → AV) : Option AV :=
  let r0 : Option AV := wz [AV.flt .f64 (some 4613937818241073152)]; ck (okM [RS.agg [LK.f .f64, LK.f .f64]] r0) <| ck (Nat.blt 0 (f0n - 6)) <| ck (fitK (LK.f .f64) (f0g 6)) <| let r1 : Option AV := wz [AV.flt .f64 (toF (f0g 6))]; ck (okM [RS.agg [LK.f .f64, LK.f .f64]] r1) <| ck (Nat.blt 0 (f0n - 8)) <| ck (fitK (LK.f .f64) (f0g 8)) <| let r2 : Option AV := wz [AV.flt .f64 (toF (f0g 8))]; ck (okM [RS.agg [LK.f .f64, LK.f .f64]] r2) <| let r3 : Option AV := wr [AV.ro 2 2 2 fun (i j : Nat) => ([[AV.flt .f64 (toF ((toC (getV r1)).headD AV.dead)), AV.flt .f64 (toF ((toC (getV r1)).tail.headD AV.dead))], [AV.flt .f64 (toF ((toC (getV r2)).headD AV.dead)), AV.flt .f64 (toF ((toC (getV r2)).tail.headD AV.dead))]].getD i []).getD j AV.dead]; ck (okM [RS.agg [LK.f .f64, LK.f .f64]] r3) <| let r4 : Option AV := wr [AV.ro 2 2 2 fun (i j : Nat) => ([[AV.flt .f64 (toF ((toC (getV r0)).headD AV.dead)), AV.flt .f64 (toF ((toC (getV r0)).tail.headD AV.dead))], [AV.flt .f64 (toF ((toC (getV r3)).headD AV.dead)), AV.flt .f64 (toF ((toC (getV r3)).tail.headD AV.dead))]].getD i []).getD j AV.dead]; ck (okM [RS.agg [LK.f .f64, LK.f .f64]] r4) <| ck (Nat.blt 0 f1n) <| ck (fitK (LK.f .f64) (f1g 0)) <| let r5 : Option AV := wz [AV.flt .f64 (toF (f1g 0))]; ck (okM [RS.agg [LK.f .f64, LK.f .f64]] r5) <| ck (Nat.blt 0 f1n) <| ck (fitK (LK.f .f64) (f1g 0)) <| let r6 : Option AV := wz [AV.flt .f64 (toF (f1g 0))]; ck (okM [RS.agg [LK.f .f64, LK.f .f64]] r6) <| let r7 : Option AV := wr [AV.ro 2 2 2 fun (i j : Nat) => ([[AV.flt .f64 (toF ((toC (getV r5)).headD AV.dead)), AV.flt .f64 (toF ((toC (getV r5)).tail.headD AV.dead))], [AV.flt .f64 (toF ((toC (getV r6)).headD AV.dead)), AV.flt .f64 (toF ((toC (getV r6)).tail.headD AV.dead))]].getD i []).getD j AV.dead]; ck (okM [RS.agg [LK.f .f64, LK.f .f64]] r7) <| ck (Nat.ble 2 f2n) <| ck (fitKs [LK.f .f64, LK.f .f64] [f2g 0, f2g 1]) <| let r8 : Option AV := wr [AV.ro 2 2 2 fun (i j : Nat) => ([[AV.flt .f64 (toF ((toC (getV r7)).headD AV.dead)), AV.flt .f64 (toF ((toC (getV r7)).tail.headD AV.dead))], [AV.flt .f64 (toF (f2g 0)), AV.flt .f64 (toF (f2g 1))]].getD i []).getD j AV.dead]; ck (okM [RS.agg [LK.f .f64, LK.f .f64]] r8) <| ck (Nat.blt 0 (f0n - 6)) <| ck (fitK (LK.f .f64) (f0g 6)) <| ck (Nat.blt 0 (f0n - 8)) <| ck (fitK (LK.f .f64) (f0g 8)) <| ck (Nat.blt 0 f1n) <| ck (fitK (LK.f .f64) (f1g 0)) <| ck (Nat.blt 0 f1n) <| ck (fitK (LK.f .f64) (f1g 0)) <| ck (Nat.blt 0 f3n) <| ck (fitK (LK.f .f64) (f3g 0)) <| let r9 : Option AV := wk [AV.int .u8 qeu, AV.agg [AV.int .i64 qcv, AV.int .i64 qcy, AV.int .i64 qcz, AV.int .i64 qcs, AV.int .i64 qcq, AV.int .i64 qct], AV.agg [AV.flt .f64 (toF ((toC (getV r4)).headD AV.dead)), AV.flt .f64 (toF ((toC (getV r4)).tail.headD AV.dead))], AV.agg [AV.flt .f64 (toF ((toC (getV r8)).headD AV.dead)), AV.flt .f64 (toF ((toC (getV r8)).tail.headD AV.dead))], AV.flt .f64 (farith BinOp.mul .f64 (some 4613937818241073152) (farith BinOp.mul .f64 (toF (f0g 6)) (toF (f0g 8)))), AV.flt .f64 (farith BinOp.mul .f64 (farith BinOp.mul .f64 (toF (f1g 0)) (toF (f1g 0))) (toF (f3g 0)))]; ck (okM [RS.agg [LK.i .i64, LK.i .u8, LK.i .i64, LK.i .i64, LK.i .i64, LK.i .i64, LK.i .i64, LK.i .i64, LK.f .f64, LK.f .f64, LK.f .f64]] r9) <| some (AV.agg [AV.int .i64 (toI ((toC (getV r9)).headD AV.dead)), AV.int .u8 (toI ((toC (getV r9)).tail.headD AV.dead)), AV.int .i64 (toI ((toC (getV r9)).tail.tail.headD AV.dead)), AV.int .i64 (toI ((toC (getV r9)).tail.tail.tail.headD AV.dead)), AV.int .i64 (toI ((toC (getV r9)).tail.tail.tail.tail.headD AV.dead)), AV.int .i64 (toI ((toC (getV r9)).tail.tail.tail.tail.tail.headD AV.dead)), AV.int .i64 (toI ((toC (getV r9)).tail.tail.tail.tail.tail.tail.headD AV.dead)), AV.int .i64 (toI ((toC (getV r9)).tail.tail.tail.tail.tail.tail.tail.headD AV.dead)), AV.flt .f64 (toF ((toC (getV r9)).tail.tail.tail.tail.tail.tail.tail.tail.headD AV.dead)), AV.flt .f64 (toF ((toC (getV r9)).tail.tail.tail.tail.tail.tail.tail.tail.tail.headD AV.dead)), AV.flt .f64 (toF ((toC (getV r9)).tail.tail.tail.tail.tail.tail.tail.tail.tail.tail.headD AV.dead))])
theorem gbars_springs_c1_run (wz wr wk : Mo) (fuel : Nat) (qeu qcv : Int) (qcy qcz : Int) (qcs qcq qct : Int) (f0n : Nat) (f0g : Nat → AV) (f1n : Nat) (f1g : Nat → AV) (f2n : Nat) (f2g : Nat → AV) (f3n : Nat) (f3g : Nat → AV) : run Pr (Gbars_springs_c1 wz wr wk) [((6, 43), Lbars_springs_c1 wz wr wk fuel)] fuel 7 43 [AV.int .u8 qeu, AV.agg [AV.int .i64 qcv, AV.int .i64 qcy, AV.int .i64 qcz, AV.int .i64 qcs, AV.int .i64 qcq, AV.int .i64 qct], AV.rp f0n f0g, AV.rp f1n f1g, AV.rp f2n f2g, AV.rp f3n f3g] = gbars_springs_c1 wz wr wk fuel qeu qcv qcy qcz qcs qcq qct f0n f0g f1n f1g f2n f2g f3n f3g := by kernel_rfl
noncomputable def mbars_springs_c1 (wz wr wk : Mo) (fuel : Nat) (xs : List AV) : Option AV := match xs with
  | [AV.int .u8 qeu, AV.agg [AV.int .i64 qcv, AV.int .i64 qcy, AV.int .i64 qcz, AV.int .i64 qcs, AV.int .i64 qcq, AV.int .i64 qct], AV.rp f0n f0g, AV.rp f1n f1g, AV.rp f2n f2g, AV.rp f3n f3g] => gbars_springs_c1 wz wr wk fuel qeu qcv qcy qcz qcs qcq qct f0n f0g f1n f1g f2n f2g f3n f3g
  | _ => none
abbrev Rbars_springs_c1 : List RS := [RS.agg [LK.i .i64, LK.i .u8, LK.i .i64, LK.i .i64, LK.i .i64, LK.i .i64, LK.i .i64, LK.i .i64, LK.f .f64, LK.f .f64, LK.f .f64]]
theorem gbars_springs_c1_sm (wz wr wk : Mo) (fuel : Nat) (hΓ : GamOk Pr (Gbars_springs_c1 wz wr wk)) (hP : NamesOk Pr) : SmOk Pr 43 (smM Rbars_springs_c1 (mbars_springs_c1 wz wr wk fuel)) := by
  refine smM_ok (fuel := fuel) hΓ hP (LamOk.of 6 43 (Lbars_springs_c1 wz wr wk fuel) 0 (by kernel_rfl) (fun i hi => ?_)) 7 43 Rbars_springs_c1 _ (fun xs v h => ?_)
  · match i, hi with
    | i + 0, hi => exact absurd hi (by omega)
  · unfold mbars_springs_c1 at h
    split at h
    · exact (gbars_springs_c1_run wz wr wk fuel _ _ _ _ _ _ _ _ _ _ _ _ _ _ _).trans h
    · cases h
end Go.Proofs.Tryz
end
