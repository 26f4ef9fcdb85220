/- Part 4 of the proof: models of the functions, and laws on them. -/
import Derived.Test.YtikdidijaphjmaaGreatDoorW3
import Derived.Test.YtikdidijaphjmaaGreatDoorProg
import Derived.KernelRfl
set_option linter.unusedVariables false
set_option linter.unusedSimpArgs false
set_option linter.unusedSectionVars false
section
namespace Go.Proofs.Tryz
open Go Go.Am
noncomputable abbrev Pr : Program := prog
def Xspan_corners_a : XS := { pat := [none, none, some (1000084, 0)], nb := [], out := [.one] }
abbrev Rspan_corners_a : List RS := [RS.agg [LK.f FloatKind.f64, LK.f FloatKind.f64]]
def Xspan_corners_b : XS := { pat := [none, none, some (1000082, 0)], nb := [], out := [.one] }
abbrev Rspan_corners_b : List RS := [RS.agg [LK.f FloatKind.f64, LK.f FloatKind.f64]]
def Xbars_springs_a : XS := { pat := [none, none], nb := [], out := [.newl 11 [AV.int IntKind.i64 0, AV.int IntKind.u8 0, AV.int IntKind.i64 0, AV.int IntKind.i64 0, AV.int IntKind.i64 0, AV.int IntKind.i64 0, AV.int IntKind.i64 0, AV.int IntKind.i64 0, AV.flt FloatKind.f64 (some 0), AV.flt FloatKind.f64 (some 0), AV.flt FloatKind.f64 (some 0)]] }
abbrev Rbars_springs_a : List RS := [RS.one (LK.l 11)]
noncomputable instance : Inhabited GlobT := ⟨⟨[]⟩⟩
end Go.Proofs.Tryz
end
section
namespace Go.Proofs.Tryz
open Go Go.Am
set_option linter.unusedVariables false
set_option maxRecDepth 1000000
noncomputable def Gkit_Pick : Gam := []
noncomputable def gkit_Pick (fuel : Nat) (ux0 un1 : Int) : Option AV :=
  bif decide (un1 < 1) then some (AV.int .i64 0)
  else ck (!decide (un1 = 0)) <| bif decide (ux0.tmod un1 < 0) then some (AV.int .i64 (IntKind.i64.wrap (ux0.tmod un1 + un1)))
  else some (AV.int .i64 (ux0.tmod un1))
noncomputable def mkit_Pick (fuel : Nat) (xs : List AV) : Option AV := match xs with
  | [AV.int .i64 ux0,AV.int .i64 un1] => gkit_Pick fuel ux0 un1
  | _ => none
abbrev Rkit_Pick : List RS := [RS.one (LK.i .i64)]
theorem gkit_Pick_sm (fuel : Nat) (hΓ : GamOk Pr Gkit_Pick) (hP : NamesOk Pr) : SmOk Pr 13 (smM Rkit_Pick (mkit_Pick fuel)) := sm0 (fuel := fuel) (d := 7) hΓ hP fun xs v h => by
  unfold mkit_Pick at h
  split at h
  · exact Eq.trans (by kernel_rfl) h
  · cases h
noncomputable def Gmade_name : Gam := []
noncomputable def gmade_name (fuel : Nat) (qjl uk1 : Int) : Option AV :=
  ck ([[AV.int .u8 qjl],[AV.int .u8 (IntKind.u8.wrap (IntKind.i64.wrap (48 + uk1.tmod 10)))]].all fun (el : List AV) => fitKs [LK.i .u8] el) <| some (AV.str (bytesOf [[AV.int .u8 qjl],[AV.int .u8 (IntKind.u8.wrap (IntKind.i64.wrap (48 + uk1.tmod 10)))]]))
noncomputable def mmade_name (fuel : Nat) (xs : List AV) : Option AV := match xs with
  | [AV.int .u8 qjl,AV.int .i64 uk1] => gmade_name fuel qjl uk1
  | _ => none
abbrev Rmade_name : List RS := [RS.one LK.s]
theorem gmade_name_sm (fuel : Nat) (hΓ : GamOk Pr Gmade_name) (hP : NamesOk Pr) : SmOk Pr 16 (smM Rmade_name (mmade_name fuel)) := sm0 (fuel := fuel) (d := 7) hΓ hP fun xs v h => by
  unfold mmade_name at h
  split at h
  · exact Eq.trans (by kernel_rfl) h
  · cases h
noncomputable def Gmade_part : Gam := []
noncomputable def gmade_part (fuel yp qai : Nat) (pn : Ge) (uk1 : Int) : Option AV :=
  bif (↑yp : Int) == 0 then some (AV.int .i64 0)
  else ck (!decide ((↑yp : Int) = 0)) <| ck (decide (0 ≤ uk1.tmod (↑yp : Int))) <| ck (decide (uk1.tmod (↑yp : Int) < (↑yp : Int))) <| ck (fitK (LK.i .i64) (pn (uk1.tmod (↑yp : Int)).toNat 0)) <| some (AV.int .i64 (toI (pn (uk1.tmod (↑yp : Int)).toNat 0)))
noncomputable def mmade_part (fuel : Nat) (xs : List AV) : Option AV := match xs with
  | [AV.ro 1 yp qai pn,AV.int .i64 uk1] => gmade_part fuel yp qai pn uk1
  | _ => none
abbrev Rmade_part : List RS := [RS.one (LK.i .i64)]
theorem gmade_part_sm (fuel : Nat) (hΓ : GamOk Pr Gmade_part) (hP : NamesOk Pr) : SmOk Pr 17 (smM Rmade_part (mmade_part fuel)) := sm0 (fuel := fuel) (d := 7) hΓ hP fun xs v h => by
  unfold mmade_part at h
  split at h
  · exact Eq.trans (by kernel_rfl) h
  · cases h
noncomputable def Gmade_Number : Gam := []
noncomputable def gmade_Number (fuel : Nat) (ux0 : Option Nat) : Option AV :=
  bif bif ford .f64 ux0 (some 4336966441157787648) == some Ordering.gt || ford .f64 ux0 (some 4336966441157787648) == some Ordering.eq then ford .f64 ux0 (some 4877398396442247168) == some Ordering.lt || ford .f64 ux0 (some 4877398396442247168) == some Ordering.eq else false then some (AV.flt .f64 ux0)
  else some (AV.flt .f64 (some 4607182418800017408))
noncomputable def mmade_Number (fuel : Nat) (xs : List AV) : Option AV := match xs with
  | [AV.flt .f64 ux0] => gmade_Number fuel ux0
  | _ => none
abbrev Rmade_Number : List RS := [RS.one (LK.f .f64)]
theorem gmade_Number_sm (fuel : Nat) (hΓ : GamOk Pr Gmade_Number) (hP : NamesOk Pr) : SmOk Pr 35 (smM Rmade_Number (mmade_Number fuel)) := sm0 (fuel := fuel) (d := 7) hΓ hP fun xs v h => by
  unfold mmade_Number at h
  split at h
  · exact Eq.trans (by kernel_rfl) h
  · cases h
noncomputable def Gmade_number (v7 : Mo) : Gam := [(35,smM [RS.one (LK.f .f64)] v7)]
noncomputable def gmade_number (v7 : Mo) (fuel yp qai : Nat) (pn : Ge) (uk1 : Int) : Option AV :=
  bif (↑yp : Int) == 0 then some (AV.flt .f64 (some 4607182418800017408))
  else ck (!decide ((↑yp : Int) = 0)) <| ck (decide (0 ≤ uk1.tmod (↑yp : Int))) <| ck (decide (uk1.tmod (↑yp : Int) < (↑yp : Int))) <| ck (fitK (LK.f .f64) (pn (uk1.tmod (↑yp : Int)).toNat 0)) <| ck (okM [RS.one (LK.f .f64)] (v7 [AV.flt .f64 (toF (pn (uk1.tmod (↑yp : Int)).toNat 0))])) <| some (AV.flt .f64 (toF (getV (v7 [AV.flt .f64 (toF (pn (uk1.tmod (↑yp : Int)).toNat 0))]))))
noncomputable def mmade_number (v7 : Mo) (fuel : Nat) (xs : List AV) : Option AV := match xs with
  | [AV.ro 1 yp qai pn,AV.int .i64 uk1] => gmade_number v7 fuel yp qai pn uk1
  | _ => none
abbrev Rmade_number : List RS := [RS.one (LK.f .f64)]
theorem gmade_number_sm (v7 : Mo) (fuel : Nat) (hΓ : GamOk Pr (Gmade_number v7)) (hP : NamesOk Pr) : SmOk Pr 18 (smM Rmade_number (mmade_number v7 fuel)) := sm0 (fuel := fuel) (d := 7) hΓ hP fun xs v h => by
  unfold mmade_number at h
  split at h
  · exact Eq.trans (by kernel_rfl) h
  · cases h
noncomputable def Smade_Sketch_Plan_0 (qeo qd8 : Int) (uk7 ym : Int) (wq wp : Nat) (wr : Ge) (vg vk : Nat) (vf : Ge) (vm vh : Nat) (vj : Ge) (vn vl : Nat) (vi : Ge) (qal : List AV) (qaq : List (List AV)) (qe8 : List AV) (qev : List (List AV)) (pj : List AV) (ph : List (List AV)) (qer : List AV) (qet : List (List AV)) (qcl : ByteArray) (qbs qch qif : Int) : St := { env := [(1,AV.ptr 0 0),(2,AV.ptr 1 0),(3,AV.ptr 2 0),(4,AV.int .i64 qeo),(5,AV.int .i64 qd8),(6,AV.ptr 7 0),(7,AV.int .i64 uk7)],h := [Blk.box [AV.int .i64 ym,AV.ro 1 wq wp wr,AV.ro 1 vg vk vf,AV.ro 1 vm vh vj,AV.ro 1 vn vl vi],Blk.box [AV.lst 3 4,AV.lst 4 9],Blk.box [AV.lst 5 4,AV.lst 6 9],Blk.fl 4 qal qaq,Blk.fl 9 qe8 qev,Blk.fl 4 pj ph,Blk.fl 9 qer qet,Blk.box [AV.str qcl,AV.int .i32 qbs,AV.int .i32 qch,AV.int .u8 qif]],kd := [6,5,4,3] }
noncomputable def Xmade_Sketch_Plan_0_0 (qy8 qy2 qly : Int) (qap qao : Nat) (qan : Ge) (qj8 qkd : Nat) (qkr : Ge) (qkh qkg : Nat) (qkv : Ge) (qj4 qkj : Nat) (qj5 : Ge) (qlm : List AV) (qlv : List (List AV)) (q0h : List AV) (qzd : List (List AV)) (qle : List AV) (qlo : List (List AV)) (qzt : List AV) (q0b : List (List AV)) (qhs : ByteArray) (qjo qhp qxs : Int) : St := { env := [(1,AV.ptr 0 0),(2,AV.ptr 1 0),(3,AV.ptr 2 0),(4,AV.int .i64 qy8),(5,AV.int .i64 qy2),(6,AV.ptr 7 0)],h := [Blk.box [AV.int .i64 qly,AV.ro 1 qap qao qan,AV.ro 1 qj8 qkd qkr,AV.ro 1 qkh qkg qkv,AV.ro 1 qj4 qkj qj5],Blk.box [AV.lst 3 4,AV.lst 4 9],Blk.box [AV.lst 5 4,AV.lst 6 9],Blk.fl 4 qlm qlv,Blk.fl 9 q0h qzd,Blk.fl 4 qle qlo,Blk.fl 9 qzt q0b,Blk.box [AV.str qhs,AV.int .i32 qjo,AV.int .i32 qhp,AV.int .u8 qxs]],kd := [6,5,4,3] }
noncomputable def gmade_Sketch_Plan_l0_step (qq qp : Mo) (qo qf : Mo) (fuel : Nat) (kn : Int → Int → Option AV) (kx0 : Int → Int → Int → Nat → Nat → Ge → Nat → Nat → Ge → Nat → Nat → Ge → Nat → Nat → Ge → List AV → List (List AV) → List AV → List (List AV) → List AV → List (List AV) → List AV → List (List AV) → ByteArray → Int → Int → Int → Option AV) (qeo qd8 ym : Int) (wq wp : Nat) (wr : Ge) (vg vk : Nat) (vf : Ge) (vm vh : Nat) (vj : Ge) (vn vl : Nat) (vi : Ge) (qal : List AV) (qaq : List (List AV)) (qe8 : List AV) (qev : List (List AV)) (pj : List AV) (ph : List (List AV)) (qer : List AV) (qet : List (List AV)) (qcl : ByteArray) (qch qif : Int) (uk7 qbs : Int) : Option AV :=
  bif decide (uk7 < qd8) then ck (decide (0 ≤ uk7)) <| ck (decide (uk7 < (↑ph.length : Int))) <| ck (fitK (LK.i .i32) ((ph.getD uk7.toNat pj).getD 1 AV.dead)) <| ck (bif toI ((ph.getD uk7.toNat pj).getD 1 AV.dead) == qbs then true else true) <| ck (bif toI ((ph.getD uk7.toNat pj).getD 1 AV.dead) == qbs then decide (0 ≤ uk7) else true) <| ck (bif toI ((ph.getD uk7.toNat pj).getD 1 AV.dead) == qbs then decide (uk7 < (↑ph.length : Int)) else true) <| ck (bif toI ((ph.getD uk7.toNat pj).getD 1 AV.dead) == qbs then fitK (LK.i .i32) ((ph.getD uk7.toNat pj).getD 2 AV.dead) else true) <| ck (bif toI ((ph.getD uk7.toNat pj).getD 1 AV.dead) == qbs then true else true) <| bif bif toI ((ph.getD uk7.toNat pj).getD 1 AV.dead) == qbs then toI ((ph.getD uk7.toNat pj).getD 2 AV.dead) == qch else false then kn (IntKind.i64.wrap (uk7 + 1)) (IntKind.i32.wrap (IntKind.i64.wrap (20 + IntKind.i64.wrap (3 * qd8))))
    else kn (IntKind.i64.wrap (uk7 + 1)) qbs
  else kx0 qeo qd8 ym wq wp wr vg vk vf vm vh vj vn vl vi qal qaq qe8 qev pj ph qer qet qcl qbs qch qif
noncomputable def gmade_Sketch_Plan_l0 (qq qp : Mo) (qo qf : Mo) (fuel : Nat) (kx0 : Int → Int → Int → Nat → Nat → Ge → Nat → Nat → Ge → Nat → Nat → Ge → Nat → Nat → Ge → List AV → List (List AV) → List AV → List (List AV) → List AV → List (List AV) → List AV → List (List AV) → ByteArray → Int → Int → Int → Option AV) (qeo qd8 ym : Int) (wq wp : Nat) (wr : Ge) (vg vk : Nat) (vf : Ge) (vm vh : Nat) (vj : Ge) (vn vl : Nat) (vi : Ge) (qal : List AV) (qaq : List (List AV)) (qe8 : List AV) (qev : List (List AV)) (pj : List AV) (ph : List (List AV)) (qer : List AV) (qet : List (List AV)) (qcl : ByteArray) (qch qif : Int) : Nat → Int → Int → Option AV
  | 0,_,_ => none
  | n' + 1,uk7,qbs => gmade_Sketch_Plan_l0_step qq qp qo qf fuel (gmade_Sketch_Plan_l0 qq qp qo qf fuel kx0 qeo qd8 ym wq wp wr vg vk vf vm vh vj vn vl vi qal qaq qe8 qev pj ph qer qet qcl qch qif n') kx0 qeo qd8 ym wq wp wr vg vk vf vm vh vj vn vl vi qal qaq qe8 qev pj ph qer qet qcl qch qif uk7 qbs
termination_by structural k => k
noncomputable def Tmade_Sketch_Plan_0 : TS' := ⟨[(1,TA.ptr 0 0),(2,TA.ptr 1 0),(3,TA.ptr 2 0),(4,TA.i .i64),(5,TA.i .i64),(6,TA.ptr 7 0),(7,TA.i .i64)],[TB.box [TA.i .i64,TA.ro 1,TA.ro 1,TA.ro 1,TA.ro 1],TB.box [TA.lst 3 4,TA.lst 4 9],TB.box [TA.lst 5 4,TA.lst 6 9],TB.fl 4,TB.fl 9,TB.fl 4,TB.fl 9,TB.box [TA.s,TA.i .i32,TA.i .i32,TA.i .u8]],[6,5,4,3]⟩
noncomputable def Fmade_Sketch_Plan_0 (qq qp : Mo) (qo qf : Mo) (fuel : Nat) (ps : List Pay) (K : Ex → St → Option AV) : Option AV := match ps with
  | .i qeo :: .i qd8 :: .i uk7 :: .i ym :: .n wq :: .n wp :: .g wr :: .n vg :: .n vk :: .g vf :: .n vm :: .n vh :: .g vj :: .n vn :: .n vl :: .g vi :: .z qal :: .e qaq :: .z qe8 :: .e qev :: .z pj :: .e ph :: .z qer :: .e qet :: .s qcl :: .i qbs :: .i qch :: .i qif :: [] => gmade_Sketch_Plan_l0 qq qp qo qf fuel (fun qy8 qy2 qly qap qao qan qj8 qkd qkr qkh qkg qkv qj4 qkj qj5 qlm qlv q0h qzd qle qlo qzt q0b qhs qjo qhp qxs => K (Ex.exit 2) (Xmade_Sketch_Plan_0_0 qy8 qy2 qly qap qao qan qj8 qkd qkr qkh qkg qkv qj4 qkj qj5 qlm qlv q0h qzd qle qlo qzt q0b qhs qjo qhp qxs)) qeo qd8 ym wq wp wr vg vk vf vm vh vj vn vl vi qal qaq qe8 qev pj ph qer qet qcl qch qif fuel uk7 qbs
  | _ => none
noncomputable def Smade_Sketch_Plan_1 (un4 ui5 vx : Int) (wt wu : Nat) (wv : Ge) (px pv : Nat) (py : Ge) (qaf p9 : Nat) (qab : Ge) (qae qad : Nat) (qag : Ge) (h3z : List AV) (h3e : List (List AV)) (h4z : List AV) (h4e : List (List AV)) (h5z : List AV) (h5e : List (List AV)) (h6z : List AV) (h6e : List (List AV)) : St := { env := [(1,AV.ptr 0 0),(2,AV.ptr 1 0),(3,AV.ptr 2 0),(4,AV.int .i64 un4),(5,AV.int .i64 ui5)],h := [Blk.box [AV.int .i64 vx,AV.ro 1 wt wu wv,AV.ro 1 px pv py,AV.ro 1 qaf p9 qab,AV.ro 1 qae qad qag],Blk.box [AV.lst 3 4,AV.lst 4 9],Blk.box [AV.lst 5 4,AV.lst 6 9],Blk.fl 4 h3z h3e,Blk.fl 9 h4z h4e,Blk.fl 4 h5z h5e,Blk.fl 9 h6z h6e],kd := [6,5,4,3] }
noncomputable def Xmade_Sketch_Plan_1_0 (qz1 qhr : Int) (qfl qfk : Nat) (qfn : Ge) (qkt qkc : Nat) (qku : Ge) (qjy qj0 : Nat) (qko : Ge) (qj1 qkw : Nat) (qj7 : Ge) (qlr : List AV) (qli : List (List AV)) (qzl : List AV) (q0u : List (List AV)) (q0t : List AV) (qy5 : List (List AV)) (qy9 : List AV) (qz3 : List (List AV)) : St := { env := [(1,AV.ptr 0 0),(2,AV.ptr 1 0),(3,AV.ptr 2 0),(4,AV.int .i64 qz1)],h := [Blk.box [AV.int .i64 qhr,AV.ro 1 qfl qfk qfn,AV.ro 1 qkt qkc qku,AV.ro 1 qjy qj0 qko,AV.ro 1 qj1 qkw qj7],Blk.box [AV.lst 3 4,AV.lst 4 9],Blk.box [AV.lst 5 4,AV.lst 6 9],Blk.fl 4 qlr qli,Blk.fl 9 qzl q0u,Blk.fl 4 q0t qy5,Blk.fl 9 qy9 qz3],kd := [6,5,4,3] }
noncomputable def gmade_Sketch_Plan_l1_step (qq qp : Mo) (qo qf : Mo) (fuel : Nat) (kn : Int → Int → Int → Nat → Nat → Ge → Nat → Nat → Ge → Nat → Nat → Ge → Nat → Nat → Ge → List AV → List (List AV) → List AV → List (List AV) → List AV → List (List AV) → List AV → List (List AV) → Option AV) (kx0 : Int → Int → Nat → Nat → Ge → Nat → Nat → Ge → Nat → Nat → Ge → Nat → Nat → Ge → List AV → List (List AV) → List AV → List (List AV) → List AV → List (List AV) → List AV → List (List AV) → Option AV) (un4 ui5 vx : Int) (wt wu : Nat) (wv : Ge) (px pv : Nat) (py : Ge) (qaf p9 : Nat) (qab : Ge) (qae qad : Nat) (qag : Ge) (h3z : List AV) (h3e : List (List AV)) (h4z : List AV) (h4e : List (List AV)) (h5z : List AV) (h5e : List (List AV)) (h6z : List AV) (h6e : List (List AV)) : Option AV :=
  bif decide (ui5 < un4) then ck (okM [RS.one LK.s] (qp [AV.int .u8 106,AV.int .i64 ui5])) <| ck (okM [RS.one (LK.i .i64)] (qo [AV.ro 1 wt wu wv,AV.int .i64 (IntKind.i64.wrap (2 * ui5))])) <| ck (okM [RS.one (LK.i .i64)] (qq [AV.int .i64 (toI (getV (qo [AV.ro 1 wt wu wv,AV.int .i64 (IntKind.i64.wrap (2 * ui5))]))),AV.int .i64 17])) <| ck (okM [RS.one (LK.i .i64)] (qo [AV.ro 1 wt wu wv,AV.int .i64 (IntKind.i64.wrap (IntKind.i64.wrap (2 * ui5) + 1))])) <| ck (okM [RS.one (LK.i .i64)] (qq [AV.int .i64 (toI (getV (qo [AV.ro 1 wt wu wv,AV.int .i64 (IntKind.i64.wrap (IntKind.i64.wrap (2 * ui5) + 1))]))),AV.int .i64 17])) <| ck (okM [RS.one (LK.i .i64)] (qo [AV.ro 1 px pv py,AV.int .i64 ui5])) <| ck (okM [RS.one (LK.i .i64)] (qq [AV.int .i64 (toI (getV (qo [AV.ro 1 px pv py,AV.int .i64 ui5]))),AV.int .i64 8])) <| gmade_Sketch_Plan_l0 qq qp qo qf fuel
      (fun (qip qzu zk : Int) (wg wh : Nat) (wf : Ge) (zq zm : Nat) (zt : Ge) (zl zr : Nat) (zo : Ge) (zv zp : Nat) (zu : Ge) (qcd : List AV) (qbt : List (List AV)) (qjq : List AV) (qjr : List (List AV)) (qej : List AV) (qd3 : List (List AV)) (qjk : List AV) (qjn : List (List AV)) (qcn : ByteArray) (qhw qcm qso : Int) => ck (decide ((qd3.length + 1) * 32 < 70368744177664)) <| ck (decide (qd3.length + 1 < 4611686018427387904)) <| kn qip (IntKind.i64.wrap (qzu + 1)) zk wg wh wf zq zm zt zl zr zo zv zp zu qcd qbt qjq qjr qej (qd3 ++ [[AV.str qcn,AV.int .i32 qhw,AV.int .i32 qcm,AV.int .u8 qso]]) qjk qjn)
      un4
      ui5
      vx
      wt
      wu
      wv
      px
      pv
      py
      qaf
      p9
      qab
      qae
      qad
      qag
      h3z
      h3e
      h4z
      h4e
      h5z
      h5e
      h6z
      h6e
      (toS (getV (qp [AV.int .u8 106,AV.int .i64 ui5])))
      (IntKind.i32.wrap (IntKind.i64.wrap (toI (getV (qq [AV.int .i64 (toI (getV (qo [AV.ro 1 wt wu wv,AV.int .i64 (IntKind.i64.wrap (IntKind.i64.wrap (2 * ui5) + 1))]))),AV.int .i64 17])) - 8)))
      (IntKind.u8.wrap (toI (getV (qq [AV.int .i64 (toI (getV (qo [AV.ro 1 px pv py,AV.int .i64 ui5]))),AV.int .i64 8])))) fuel (0) (IntKind.i32.wrap (IntKind.i64.wrap (toI (getV (qq [AV.int .i64 (toI (getV (qo [AV.ro 1 wt wu wv,AV.int .i64 (IntKind.i64.wrap (2 * ui5))]))),AV.int .i64 17])) - 8)))
  else kx0 un4 vx wt wu wv px pv py qaf p9 qab qae qad qag h3z h3e h4z h4e h5z h5e h6z h6e
noncomputable def gmade_Sketch_Plan_l1 (qq qp : Mo) (qo qf : Mo) (fuel : Nat) (kx0 : Int → Int → Nat → Nat → Ge → Nat → Nat → Ge → Nat → Nat → Ge → Nat → Nat → Ge → List AV → List (List AV) → List AV → List (List AV) → List AV → List (List AV) → List AV → List (List AV) → Option AV) : Nat → Int → Int → Int → Nat → Nat → Ge → Nat → Nat → Ge → Nat → Nat → Ge → Nat → Nat → Ge → List AV → List (List AV) → List AV → List (List AV) → List AV → List (List AV) → List AV → List (List AV) → Option AV
  | 0,_,_,_,_,_,_,_,_,_,_,_,_,_,_,_,_,_,_,_,_,_,_,_ => none
  | n' + 1,un4,ui5,vx,wt,wu,wv,px,pv,py,qaf,p9,qab,qae,qad,qag,h3z,h3e,h4z,h4e,h5z,h5e,h6z,h6e => gmade_Sketch_Plan_l1_step qq qp qo qf fuel (gmade_Sketch_Plan_l1 qq qp qo qf fuel kx0 n') kx0 un4 ui5 vx wt wu wv px pv py qaf p9 qab qae qad qag h3z h3e h4z h4e h5z h5e h6z h6e
termination_by structural k => k
noncomputable def Tmade_Sketch_Plan_1 : TS' := ⟨[(1,TA.ptr 0 0),(2,TA.ptr 1 0),(3,TA.ptr 2 0),(4,TA.i .i64),(5,TA.i .i64)],[TB.box [TA.i .i64,TA.ro 1,TA.ro 1,TA.ro 1,TA.ro 1],TB.box [TA.lst 3 4,TA.lst 4 9],TB.box [TA.lst 5 4,TA.lst 6 9],TB.fl 4,TB.fl 9,TB.fl 4,TB.fl 9],[6,5,4,3]⟩
noncomputable def Fmade_Sketch_Plan_1 (qq qp : Mo) (qo qf : Mo) (fuel : Nat) (ps : List Pay) (K : Ex → St → Option AV) : Option AV := match ps with
  | .i un4 :: .i ui5 :: .i vx :: .n wt :: .n wu :: .g wv :: .n px :: .n pv :: .g py :: .n qaf :: .n p9 :: .g qab :: .n qae :: .n qad :: .g qag :: .z h3z :: .e h3e :: .z h4z :: .e h4e :: .z h5z :: .e h5e :: .z h6z :: .e h6e :: [] => gmade_Sketch_Plan_l1 qq qp qo qf fuel (fun qz1 qhr qfl qfk qfn qkt qkc qku qjy qj0 qko qj1 qkw qj7 qlr qli qzl q0u q0t qy5 qy9 qz3 => K (Ex.exit 0) (Xmade_Sketch_Plan_1_0 qz1 qhr qfl qfk qfn qkt qkc qku qjy qj0 qko qj1 qkw qj7 qlr qli qzl q0u q0t qy5 qy9 qz3)) fuel un4 ui5 vx wt wu wv px pv py qaf p9 qab qae qad qag h3z h3e h4z h4e h5z h5e h6z h6e
  | _ => none
noncomputable def Smade_Sketch_Plan_2 (vo uk8 qcs : Int) (v5 v1 : Nat) (v2 : Ge) (qbi qba : Nat) (qbg : Ge) (qa2 qbh : Nat) (yu : Ge) (pr pp : Nat) (pq : Ge) (qas : List AV) (qam : List (List AV)) (qfa : List AV) (qfd : List (List AV)) (qe9 : List AV) (qem : List (List AV)) (qey : List AV) (qdr : List (List AV)) : St := { env := [(1,AV.ptr 0 0),(2,AV.ptr 1 0),(3,AV.ptr 2 0),(4,AV.int .i64 vo),(8,AV.int .i64 uk8)],h := [Blk.box [AV.int .i64 qcs,AV.ro 1 v5 v1 v2,AV.ro 1 qbi qba qbg,AV.ro 1 qa2 qbh yu,AV.ro 1 pr pp pq],Blk.box [AV.lst 3 4,AV.lst 4 9],Blk.box [AV.lst 5 4,AV.lst 6 9],Blk.fl 4 qas qam,Blk.fl 9 qfa qfd,Blk.fl 4 qe9 qem,Blk.fl 9 qey qdr],kd := [6,5,4,3] }
noncomputable def Xmade_Sketch_Plan_2_0 (ql4 : Int) (qfi qfp : Nat) (qfo : Ge) (qkn qks : Nat) (qki : Ge) (qkb qkm : Nat) (qjz : Ge) (qkk qke : Nat) (qj3 : Ge) (qlu : List AV) (qlq : List (List AV)) (q0f : List AV) (q0i : List (List AV)) (qzo : List AV) (qz2 : List (List AV)) (qy6 : List AV) (qze : List (List AV)) : St := { env := [(2,AV.ptr 1 0),(3,AV.ptr 2 0)],h := [Blk.box [AV.int .i64 ql4,AV.ro 1 qfi qfp qfo,AV.ro 1 qkn qks qki,AV.ro 1 qkb qkm qjz,AV.ro 1 qkk qke qj3],Blk.box [AV.lst 3 4,AV.lst 4 9],Blk.box [AV.lst 5 4,AV.lst 6 9],Blk.fl 4 qlu qlq,Blk.fl 9 q0f q0i,Blk.fl 4 qzo qz2,Blk.fl 9 qy6 qze],kd := [6,5,4,3] }
noncomputable def gmade_Sketch_Plan_l2_step (qq qp : Mo) (qo qf : Mo) (fuel : Nat) (kn : Int → List (List AV) → Option AV) (kx0 : Int → Nat → Nat → Ge → Nat → Nat → Ge → Nat → Nat → Ge → Nat → Nat → Ge → List AV → List (List AV) → List AV → List (List AV) → List AV → List (List AV) → List AV → List (List AV) → Option AV) (vo qcs : Int) (v5 v1 : Nat) (v2 : Ge) (qbi qba : Nat) (qbg : Ge) (qa2 qbh : Nat) (yu : Ge) (pr pp : Nat) (pq : Ge) (qas : List AV) (qam : List (List AV)) (qfa : List AV) (qfd : List (List AV)) (qe9 : List AV) (qem : List (List AV)) (qey : List AV) (uk8 : Int) (qdr : List (List AV)) : Option AV :=
  bif bif decide (uk8 < (↑qa2 : Int)) then decide (uk8 < 6) else false then ck (decide (0 ≤ uk8)) <| ck (decide (uk8 < (↑qa2 : Int))) <| ck (fitK (LK.i .i64) (yu uk8.toNat 0)) <| ck (okM [RS.one (LK.i .i64)] (qq [AV.int .i64 (toI (yu uk8.toNat 0)),AV.int .i64 (IntKind.i64.wrap (IntKind.i64.wrap (16 * vo) * IntKind.i64.wrap (vo - 1)))])) <| ck (okM [RS.one LK.s] (qp [AV.int .u8 109,AV.int .i64 uk8])) <| ck (!decide (vo = 0)) <| ck (okM [RS.one (LK.f .f64)] (qf [AV.ro 1 pr pp pq,AV.int .i64 (IntKind.i64.wrap (3 * uk8))])) <| ck (okM [RS.one (LK.f .f64)] (qf [AV.ro 1 pr pp pq,AV.int .i64 (IntKind.i64.wrap (IntKind.i64.wrap (3 * uk8) + 1))])) <| ck (!decide (vo = 0)) <| ck (!decide (IntKind.i64.wrap (vo - 1) = 0)) <| ck (!decide (vo = 0)) <| ck (!decide (IntKind.i64.wrap (vo - 1) = 0)) <| bif decide (IntKind.i64.wrap ((IntKind.i64.wrap ((toI (getV (qq [AV.int .i64 (toI (yu uk8.toNat 0)),AV.int .i64 (IntKind.i64.wrap (IntKind.i64.wrap (16 * vo) * IntKind.i64.wrap (vo - 1)))]))).tdiv vo)).tdiv (IntKind.i64.wrap (vo - 1))) ≥ 4) then ck (okM [RS.one (LK.f .f64)] (qf [AV.ro 1 pr pp pq,AV.int .i64 (IntKind.i64.wrap (IntKind.i64.wrap (3 * uk8) + 2))])) <| ck (bif !(IntKind.i64.wrap ((IntKind.i64.wrap ((toI (getV (qq [AV.int .i64 (toI (yu uk8.toNat 0)),AV.int .i64 (IntKind.i64.wrap (IntKind.i64.wrap (16 * vo) * IntKind.i64.wrap (vo - 1)))]))).tdiv vo)).tdiv (IntKind.i64.wrap (vo - 1)))).tmod 8 == 5 then true else true) <| ck (bif !(IntKind.i64.wrap ((IntKind.i64.wrap ((toI (getV (qq [AV.int .i64 (toI (yu uk8.toNat 0)),AV.int .i64 (IntKind.i64.wrap (IntKind.i64.wrap (16 * vo) * IntKind.i64.wrap (vo - 1)))]))).tdiv vo)).tdiv (IntKind.i64.wrap (vo - 1)))).tmod 8 == 6 then true else true) <| ck (decide ((qdr.length + 1) * 72 < 70368744177664)) <| ck (decide (qdr.length + 1 < 4611686018427387904)) <| kn (IntKind.i64.wrap (uk8 + 1)) (qdr ++ [[AV.str (toS (getV (qp [AV.int .u8 109,AV.int .i64 uk8]))),AV.int .u8 2,AV.int .i64 ((toI (getV (qq [AV.int .i64 (toI (yu uk8.toNat 0)),AV.int .i64 (IntKind.i64.wrap (IntKind.i64.wrap (16 * vo) * IntKind.i64.wrap (vo - 1)))]))).tmod vo),AV.int .i64 ((IntKind.i64.wrap (IntKind.i64.wrap ((toI (getV (qq [AV.int .i64 (toI (yu uk8.toNat 0)),AV.int .i64 (IntKind.i64.wrap (IntKind.i64.wrap (16 * vo) * IntKind.i64.wrap (vo - 1)))]))).tmod vo + 1) + (IntKind.i64.wrap ((toI (getV (qq [AV.int .i64 (toI (yu uk8.toNat 0)),AV.int .i64 (IntKind.i64.wrap (IntKind.i64.wrap (16 * vo) * IntKind.i64.wrap (vo - 1)))]))).tdiv vo)).tmod (IntKind.i64.wrap (vo - 1)))).tmod vo),AV.bool (bif (IntKind.i64.wrap ((IntKind.i64.wrap ((toI (getV (qq [AV.int .i64 (toI (yu uk8.toNat 0)),AV.int .i64 (IntKind.i64.wrap (IntKind.i64.wrap (16 * vo) * IntKind.i64.wrap (vo - 1)))]))).tdiv vo)).tdiv (IntKind.i64.wrap (vo - 1)))).tmod 8 == 5 then true else (IntKind.i64.wrap ((IntKind.i64.wrap ((toI (getV (qq [AV.int .i64 (toI (yu uk8.toNat 0)),AV.int .i64 (IntKind.i64.wrap (IntKind.i64.wrap (16 * vo) * IntKind.i64.wrap (vo - 1)))]))).tdiv vo)).tdiv (IntKind.i64.wrap (vo - 1)))).tmod 8 == 7),AV.bool (bif (IntKind.i64.wrap ((IntKind.i64.wrap ((toI (getV (qq [AV.int .i64 (toI (yu uk8.toNat 0)),AV.int .i64 (IntKind.i64.wrap (IntKind.i64.wrap (16 * vo) * IntKind.i64.wrap (vo - 1)))]))).tdiv vo)).tdiv (IntKind.i64.wrap (vo - 1)))).tmod 8 == 6 then true else (IntKind.i64.wrap ((IntKind.i64.wrap ((toI (getV (qq [AV.int .i64 (toI (yu uk8.toNat 0)),AV.int .i64 (IntKind.i64.wrap (IntKind.i64.wrap (16 * vo) * IntKind.i64.wrap (vo - 1)))]))).tdiv vo)).tdiv (IntKind.i64.wrap (vo - 1)))).tmod 8 == 7),AV.flt .f64 (toF (getV (qf [AV.ro 1 pr pp pq,AV.int .i64 (IntKind.i64.wrap (3 * uk8))]))),AV.flt .f64 (toF (getV (qf [AV.ro 1 pr pp pq,AV.int .i64 (IntKind.i64.wrap (IntKind.i64.wrap (3 * uk8) + 1))]))),AV.flt .f64 (toF (getV (qf [AV.ro 1 pr pp pq,AV.int .i64 (IntKind.i64.wrap (IntKind.i64.wrap (3 * uk8) + 2))])))]])
    else ck (decide ((qdr.length + 1) * 72 < 70368744177664)) <| ck (decide (qdr.length + 1 < 4611686018427387904)) <| kn (IntKind.i64.wrap (uk8 + 1)) (qdr ++ [[AV.str (toS (getV (qp [AV.int .u8 109,AV.int .i64 uk8]))),AV.int .u8 1,AV.int .i64 ((toI (getV (qq [AV.int .i64 (toI (yu uk8.toNat 0)),AV.int .i64 (IntKind.i64.wrap (IntKind.i64.wrap (16 * vo) * IntKind.i64.wrap (vo - 1)))]))).tmod vo),AV.int .i64 ((IntKind.i64.wrap (IntKind.i64.wrap ((toI (getV (qq [AV.int .i64 (toI (yu uk8.toNat 0)),AV.int .i64 (IntKind.i64.wrap (IntKind.i64.wrap (16 * vo) * IntKind.i64.wrap (vo - 1)))]))).tmod vo + 1) + (IntKind.i64.wrap ((toI (getV (qq [AV.int .i64 (toI (yu uk8.toNat 0)),AV.int .i64 (IntKind.i64.wrap (IntKind.i64.wrap (16 * vo) * IntKind.i64.wrap (vo - 1)))]))).tdiv vo)).tmod (IntKind.i64.wrap (vo - 1)))).tmod vo),AV.bool false,AV.bool false,AV.flt .f64 (toF (getV (qf [AV.ro 1 pr pp pq,AV.int .i64 (IntKind.i64.wrap (3 * uk8))]))),AV.flt .f64 (toF (getV (qf [AV.ro 1 pr pp pq,AV.int .i64 (IntKind.i64.wrap (IntKind.i64.wrap (3 * uk8) + 1))]))),AV.flt .f64 (some 0)]])
  else kx0 qcs v5 v1 v2 qbi qba qbg qa2 qbh yu pr pp pq qas qam qfa qfd qe9 qem qey qdr
noncomputable def gmade_Sketch_Plan_l2 (qq qp : Mo) (qo qf : Mo) (fuel : Nat) (kx0 : Int → Nat → Nat → Ge → Nat → Nat → Ge → Nat → Nat → Ge → Nat → Nat → Ge → List AV → List (List AV) → List AV → List (List AV) → List AV → List (List AV) → List AV → List (List AV) → Option AV) (vo qcs : Int) (v5 v1 : Nat) (v2 : Ge) (qbi qba : Nat) (qbg : Ge) (qa2 qbh : Nat) (yu : Ge) (pr pp : Nat) (pq : Ge) (qas : List AV) (qam : List (List AV)) (qfa : List AV) (qfd : List (List AV)) (qe9 : List AV) (qem : List (List AV)) (qey : List AV) : Nat → Int → List (List AV) → Option AV
  | 0,_,_ => none
  | n' + 1,uk8,qdr => gmade_Sketch_Plan_l2_step qq qp qo qf fuel (gmade_Sketch_Plan_l2 qq qp qo qf fuel kx0 vo qcs v5 v1 v2 qbi qba qbg qa2 qbh yu pr pp pq qas qam qfa qfd qe9 qem qey n') kx0 vo qcs v5 v1 v2 qbi qba qbg qa2 qbh yu pr pp pq qas qam qfa qfd qe9 qem qey uk8 qdr
termination_by structural k => k
noncomputable def Tmade_Sketch_Plan_2 : TS' := ⟨[(1,TA.ptr 0 0),(2,TA.ptr 1 0),(3,TA.ptr 2 0),(4,TA.i .i64),(8,TA.i .i64)],[TB.box [TA.i .i64,TA.ro 1,TA.ro 1,TA.ro 1,TA.ro 1],TB.box [TA.lst 3 4,TA.lst 4 9],TB.box [TA.lst 5 4,TA.lst 6 9],TB.fl 4,TB.fl 9,TB.fl 4,TB.fl 9],[6,5,4,3]⟩
noncomputable def Fmade_Sketch_Plan_2 (qq qp : Mo) (qo qf : Mo) (fuel : Nat) (ps : List Pay) (K : Ex → St → Option AV) : Option AV := match ps with
  | .i vo :: .i uk8 :: .i qcs :: .n v5 :: .n v1 :: .g v2 :: .n qbi :: .n qba :: .g qbg :: .n qa2 :: .n qbh :: .g yu :: .n pr :: .n pp :: .g pq :: .z qas :: .e qam :: .z qfa :: .e qfd :: .z qe9 :: .e qem :: .z qey :: .e qdr :: [] => gmade_Sketch_Plan_l2 qq qp qo qf fuel (fun ql4 qfi qfp qfo qkn qks qki qkb qkm qjz qkk qke qj3 qlu qlq q0f q0i qzo qz2 qy6 qze => K (Ex.exit 4) (Xmade_Sketch_Plan_2_0 ql4 qfi qfp qfo qkn qks qki qkb qkm qjz qkk qke qj3 qlu qlq q0f q0i qzo qz2 qy6 qze)) vo qcs v5 v1 v2 qbi qba qbg qa2 qbh yu pr pp pq qas qam qfa qfd qe9 qem qey fuel uk8 qdr
  | _ => none
noncomputable def Lmade_Sketch_Plan (qq qp : Mo) (qo qf : Mo) (fuel : Nat) : Lam AV := [(75557863655545579241600,lam Tmade_Sketch_Plan_0 (Fmade_Sketch_Plan_0 qq qp qo qf fuel)),(4835703278458516698792160,lam Tmade_Sketch_Plan_1 (Fmade_Sketch_Plan_1 qq qp qo qf fuel)),(11972621413014756705924586144776087218562882693236480,lam Tmade_Sketch_Plan_2 (Fmade_Sketch_Plan_2 qq qp qo qf fuel))]
noncomputable def Gmade_Sketch_Plan (qq qp : Mo) (qo qf : Mo) : Gam := [(13,smM [RS.one (LK.i .i64)] qq),(16,smM [RS.one LK.s] qp),(17,smM [RS.one (LK.i .i64)] qo),(18,smM [RS.one (LK.f .f64)] qf)]
theorem gmade_Sketch_Plan_l0_eq (qq qp : Mo) (qo qf : Mo) (fuel : Nat) (kn : St → Option AV) (K : Ex → St → Option AV) (qeo qd8 ym : Int) (wq wp : Nat) (wr : Ge) (vg vk : Nat) (vf : Ge) (vm vh : Nat) (vj : Ge) (vn vl : Nat) (vi : Ge) (qal : List AV) (qaq : List (List AV)) (qe8 : List AV) (qev : List (List AV)) (pj : List AV) (ph : List (List AV)) (qer : List AV) (qet : List (List AV)) (qcl : ByteArray) (qch qif : Int) (q07 qi4 : Int) (uk7 qbs : Int) :
    bX Pr (Gmade_Sketch_Plan qq qp qo qf) (Lmade_Sketch_Plan qq qp qo qf fuel) 6 5 1 fuel (Smade_Sketch_Plan_0 qeo qd8 uk7 ym wq wp wr vg vk vf vm vh vj vn vl vi qal qaq qe8 qev pj ph qer qet qcl qbs qch qif) (fun e s => match e with | .normal => kn (hX Pr 5 1 (Smade_Sketch_Plan_0 qeo qd8 q07 ym wq wp wr vg vk vf vm vh vj vn vl vi qal qaq qe8 qev pj ph qer qet qcl qi4 qch qif) s) | e => K e s) =
    gmade_Sketch_Plan_l0_step qq qp qo qf fuel (fun uk7 qbs => kn (Smade_Sketch_Plan_0 qeo qd8 uk7 ym wq wp wr vg vk vf vm vh vj vn vl vi qal qaq qe8 qev pj ph qer qet qcl qbs qch qif)) (fun qip qzu zk wg wh wf zq zm zt zl zr zo zv zp zu qcd qbt qjq qjr qej qd3 qjk qjn qcn qhw qcm qso => K (Ex.exit 2) (Xmade_Sketch_Plan_0_0 qip qzu zk wg wh wf zq zm zt zl zr zo zv zp zu qcd qbt qjq qjr qej qd3 qjk qjn qcn qhw qcm qso)) qeo qd8 ym wq wp wr vg vk vf vm vh vj vn vl vi qal qaq qe8 qev pj ph qer qet qcl qch qif uk7 qbs := by kernel_rfl
theorem gmade_Sketch_Plan_l0_ok (qq qp : Mo) (qo qf : Mo) (fuel : Nat) (K : Ex → St → Option AV) (qeo qd8 ym : Int) (wq wp : Nat) (wr : Ge) (vg vk : Nat) (vf : Ge) (vm vh : Nat) (vj : Ge) (vn vl : Nat) (vi : Ge) (qal : List AV) (qaq : List (List AV)) (qe8 : List AV) (qev : List (List AV)) (pj : List AV) (ph : List (List AV)) (qer : List AV) (qet : List (List AV)) (qcl : ByteArray) (qch qif : Int) (q07 qi4 : Int) : ∀ (n' : Nat) (uk7 qbs : Int),
    loopK (bX Pr (Gmade_Sketch_Plan qq qp qo qf) (Lmade_Sketch_Plan qq qp qo qf fuel) 6 5 1 fuel) (hX Pr 5 1 (Smade_Sketch_Plan_0 qeo qd8 q07 ym wq wp wr vg vk vf vm vh vj vn vl vi qal qaq qe8 qev pj ph qer qet qcl qi4 qch qif)) n' (Smade_Sketch_Plan_0 qeo qd8 uk7 ym wq wp wr vg vk vf vm vh vj vn vl vi qal qaq qe8 qev pj ph qer qet qcl qbs qch qif) K = gmade_Sketch_Plan_l0 qq qp qo qf fuel (fun qip qzu zk wg wh wf zq zm zt zl zr zo zv zp zu qcd qbt qjq qjr qej qd3 qjk qjn qcn qhw qcm qso => K (Ex.exit 2) (Xmade_Sketch_Plan_0_0 qip qzu zk wg wh wf zq zm zt zl zr zo zv zp zu qcd qbt qjq qjr qej qd3 qjk qjn qcn qhw qcm qso)) qeo qd8 ym wq wp wr vg vk vf vm vh vj vn vl vi qal qaq qe8 qev pj ph qer qet qcl qch qif n' uk7 qbs
  | 0,_,_ => rfl
  | n' + 1,uk7,qbs => (gmade_Sketch_Plan_l0_eq qq qp qo qf fuel (fun s => loopK (bX Pr (Gmade_Sketch_Plan qq qp qo qf) (Lmade_Sketch_Plan qq qp qo qf fuel) 6 5 1 fuel) (hX Pr 5 1 (Smade_Sketch_Plan_0 qeo qd8 q07 ym wq wp wr vg vk vf vm vh vj vn vl vi qal qaq qe8 qev pj ph qer qet qcl qi4 qch qif)) n' s K) K qeo qd8 ym wq wp wr vg vk vf vm vh vj vn vl vi qal qaq qe8 qev pj ph qer qet qcl qch qif q07 qi4 uk7 qbs).trans
    (congrArg (fun kn => gmade_Sketch_Plan_l0_step qq qp qo qf fuel kn _ qeo qd8 ym wq wp wr vg vk vf vm vh vj vn vl vi qal qaq qe8 qev pj ph qer qet qcl qch qif uk7 qbs) (funext fun uk7 => funext fun qbs => gmade_Sketch_Plan_l0_ok qq qp qo qf fuel K qeo qd8 ym wq wp wr vg vk vf vm vh vj vn vl vi qal qaq qe8 qev pj ph qer qet qcl qch qif q07 qi4 n' uk7 qbs))
theorem gmade_Sketch_Plan_L0 (qq qp : Mo) (qo qf : Mo) (fuel : Nat) : LX Pr (Gmade_Sketch_Plan qq qp qo qf) (Lmade_Sketch_Plan qq qp qo qf fuel) 6 5 1 fuel := by
  refine .of Tmade_Sketch_Plan_0 (Fmade_Sketch_Plan_0 qq qp qo qf fuel) (fun L h => ?_) (fun ps st K r he hr => ?_)
  · have e : (Lmade_Sketch_Plan qq qp qo qf fuel).get (writes (lp Pr 5 1).1) = some (lam Tmade_Sketch_Plan_0 (Fmade_Sketch_Plan_0 qq qp qo qf fuel)) := by kernel_rfl
    exact (Option.some.inj (e.symm.trans h)).symm
  · unfold Fmade_Sketch_Plan_0 at hr
    split at hr
    · obtain rfl := (Option.some.inj he).symm
      exact (gmade_Sketch_Plan_l0_ok qq qp qo qf fuel K _ _ _ _ _ _ _ _ _ _ _ _ _ _ _ _ _ _ _ _ _ _ _ _ _ _ _ _ fuel _ _).trans hr
    · cases hr
theorem gmade_Sketch_Plan_l1_eq (qq qp : Mo) (qo qf : Mo) (fuel : Nat) (kn : St → Option AV) (K : Ex → St → Option AV) (qn7 q1k qit : Int) (qdl qdb : Nat) (qdn : Ge) (qf8 qgv : Nat) (qgs : Ge) (qf5 qg6 : Nat) (qgh : Ge) (qgc qf7 : Nat) (qgq : Ge) (q1h : List AV) (qon : List (List AV)) (q1d : List AV) (q17 : List (List AV)) (qmo : List AV) (qqy : List (List AV)) (q2b : List AV) (q2i : List (List AV)) (un4 ui5 vx : Int) (wt wu : Nat) (wv : Ge) (px pv : Nat) (py : Ge) (qaf p9 : Nat) (qab : Ge) (qae qad : Nat) (qag : Ge) (h3z : List AV) (h3e : List (List AV)) (h4z : List AV) (h4e : List (List AV)) (h5z : List AV) (h5e : List (List AV)) (h6z : List AV) (h6e : List (List AV)) :
    bX Pr (Gmade_Sketch_Plan qq qp qo qf) (Lmade_Sketch_Plan qq qp qo qf fuel) 6 5 0 fuel (Smade_Sketch_Plan_1 un4 ui5 vx wt wu wv px pv py qaf p9 qab qae qad qag h3z h3e h4z h4e h5z h5e h6z h6e) (fun e s => match e with | .normal => kn (hX Pr 5 0 (Smade_Sketch_Plan_1 qn7 q1k qit qdl qdb qdn qf8 qgv qgs qf5 qg6 qgh qgc qf7 qgq q1h qon q1d q17 qmo qqy q2b q2i) s) | e => K e s) =
    gmade_Sketch_Plan_l1_step qq qp qo qf fuel (fun un4 ui5 vx wt wu wv px pv py qaf p9 qab qae qad qag h3z h3e h4z h4e h5z h5e h6z h6e => kn (Smade_Sketch_Plan_1 un4 ui5 vx wt wu wv px pv py qaf p9 qab qae qad qag h3z h3e h4z h4e h5z h5e h6z h6e)) (fun qip zk wg wh wf zq zm zt zl zr zo zv zp zu qcd qbt qjq qjr qej qd3 qjk qjn => K (Ex.exit 0) (Xmade_Sketch_Plan_1_0 qip zk wg wh wf zq zm zt zl zr zo zv zp zu qcd qbt qjq qjr qej qd3 qjk qjn)) un4 ui5 vx wt wu wv px pv py qaf p9 qab qae qad qag h3z h3e h4z h4e h5z h5e h6z h6e := by kernel_rfl
theorem gmade_Sketch_Plan_l1_ok (qq qp : Mo) (qo qf : Mo) (fuel : Nat) (K : Ex → St → Option AV) (qn7 q1k qit : Int) (qdl qdb : Nat) (qdn : Ge) (qf8 qgv : Nat) (qgs : Ge) (qf5 qg6 : Nat) (qgh : Ge) (qgc qf7 : Nat) (qgq : Ge) (q1h : List AV) (qon : List (List AV)) (q1d : List AV) (q17 : List (List AV)) (qmo : List AV) (qqy : List (List AV)) (q2b : List AV) (q2i : List (List AV)) : ∀ (n' : Nat) (un4 ui5 vx : Int) (wt wu : Nat) (wv : Ge) (px pv : Nat) (py : Ge) (qaf p9 : Nat) (qab : Ge) (qae qad : Nat) (qag : Ge) (h3z : List AV) (h3e : List (List AV)) (h4z : List AV) (h4e : List (List AV)) (h5z : List AV) (h5e : List (List AV)) (h6z : List AV) (h6e : List (List AV)),
    loopK (bX Pr (Gmade_Sketch_Plan qq qp qo qf) (Lmade_Sketch_Plan qq qp qo qf fuel) 6 5 0 fuel) (hX Pr 5 0 (Smade_Sketch_Plan_1 qn7 q1k qit qdl qdb qdn qf8 qgv qgs qf5 qg6 qgh qgc qf7 qgq q1h qon q1d q17 qmo qqy q2b q2i)) n' (Smade_Sketch_Plan_1 un4 ui5 vx wt wu wv px pv py qaf p9 qab qae qad qag h3z h3e h4z h4e h5z h5e h6z h6e) K = gmade_Sketch_Plan_l1 qq qp qo qf fuel (fun qip zk wg wh wf zq zm zt zl zr zo zv zp zu qcd qbt qjq qjr qej qd3 qjk qjn => K (Ex.exit 0) (Xmade_Sketch_Plan_1_0 qip zk wg wh wf zq zm zt zl zr zo zv zp zu qcd qbt qjq qjr qej qd3 qjk qjn)) n' un4 ui5 vx wt wu wv px pv py qaf p9 qab qae qad qag h3z h3e h4z h4e h5z h5e h6z h6e
  | 0,_,_,_,_,_,_,_,_,_,_,_,_,_,_,_,_,_,_,_,_,_,_,_ => rfl
  | n' + 1,un4,ui5,vx,wt,wu,wv,px,pv,py,qaf,p9,qab,qae,qad,qag,h3z,h3e,h4z,h4e,h5z,h5e,h6z,h6e => (gmade_Sketch_Plan_l1_eq qq qp qo qf fuel (fun s => loopK (bX Pr (Gmade_Sketch_Plan qq qp qo qf) (Lmade_Sketch_Plan qq qp qo qf fuel) 6 5 0 fuel) (hX Pr 5 0 (Smade_Sketch_Plan_1 qn7 q1k qit qdl qdb qdn qf8 qgv qgs qf5 qg6 qgh qgc qf7 qgq q1h qon q1d q17 qmo qqy q2b q2i)) n' s K) K qn7 q1k qit qdl qdb qdn qf8 qgv qgs qf5 qg6 qgh qgc qf7 qgq q1h qon q1d q17 qmo qqy q2b q2i un4 ui5 vx wt wu wv px pv py qaf p9 qab qae qad qag h3z h3e h4z h4e h5z h5e h6z h6e).trans
    (congrArg (fun kn => gmade_Sketch_Plan_l1_step qq qp qo qf fuel kn _ un4 ui5 vx wt wu wv px pv py qaf p9 qab qae qad qag h3z h3e h4z h4e h5z h5e h6z h6e) (funext fun un4 => funext fun ui5 => funext fun vx => funext fun wt => funext fun wu => funext fun wv => funext fun px => funext fun pv => funext fun py => funext fun qaf => funext fun p9 => funext fun qab => funext fun qae => funext fun qad => funext fun qag => funext fun h3z => funext fun h3e => funext fun h4z => funext fun h4e => funext fun h5z => funext fun h5e => funext fun h6z => funext fun h6e => gmade_Sketch_Plan_l1_ok qq qp qo qf fuel K qn7 q1k qit qdl qdb qdn qf8 qgv qgs qf5 qg6 qgh qgc qf7 qgq q1h qon q1d q17 qmo qqy q2b q2i n' un4 ui5 vx wt wu wv px pv py qaf p9 qab qae qad qag h3z h3e h4z h4e h5z h5e h6z h6e))
termination_by structural k => k
theorem gmade_Sketch_Plan_L1 (qq qp : Mo) (qo qf : Mo) (fuel : Nat) : LX Pr (Gmade_Sketch_Plan qq qp qo qf) (Lmade_Sketch_Plan qq qp qo qf fuel) 6 5 0 fuel := by
  refine .of Tmade_Sketch_Plan_1 (Fmade_Sketch_Plan_1 qq qp qo qf fuel) (fun L h => ?_) (fun ps st K r he hr => ?_)
  · have e : (Lmade_Sketch_Plan qq qp qo qf fuel).get (writes (lp Pr 5 0).1) = some (lam Tmade_Sketch_Plan_1 (Fmade_Sketch_Plan_1 qq qp qo qf fuel)) := by kernel_rfl
    exact (Option.some.inj (e.symm.trans h)).symm
  · unfold Fmade_Sketch_Plan_1 at hr
    split at hr
    · obtain rfl := (Option.some.inj he).symm
      exact (gmade_Sketch_Plan_l1_ok qq qp qo qf fuel K _ _ _ _ _ _ _ _ _ _ _ _ _ _ _ _ _ _ _ _ _ _ _ fuel _ _ _ _ _ _ _ _ _ _ _ _ _ _ _ _ _ _ _ _ _ _ _).trans hr
    · cases hr
theorem gmade_Sketch_Plan_l2_eq (qq qp : Mo) (qo qf : Mo) (fuel : Nat) (kn : St → Option AV) (K : Ex → St → Option AV) (vo qcs : Int) (v5 v1 : Nat) (v2 : Ge) (qbi qba : Nat) (qbg : Ge) (qa2 qbh : Nat) (yu : Ge) (pr pp : Nat) (pq : Ge) (qas : List AV) (qam : List (List AV)) (qfa : List AV) (qfd : List (List AV)) (qe9 : List AV) (qem : List (List AV)) (qey : List AV) (qpo : Int) (qov : List (List AV)) (uk8 : Int) (qdr : List (List AV)) :
    bX Pr (Gmade_Sketch_Plan qq qp qo qf) (Lmade_Sketch_Plan qq qp qo qf fuel) 6 5 2 fuel (Smade_Sketch_Plan_2 vo uk8 qcs v5 v1 v2 qbi qba qbg qa2 qbh yu pr pp pq qas qam qfa qfd qe9 qem qey qdr) (fun e s => match e with | .normal => kn (hX Pr 5 2 (Smade_Sketch_Plan_2 vo qpo qcs v5 v1 v2 qbi qba qbg qa2 qbh yu pr pp pq qas qam qfa qfd qe9 qem qey qov) s) | e => K e s) =
    gmade_Sketch_Plan_l2_step qq qp qo qf fuel (fun uk8 qdr => kn (Smade_Sketch_Plan_2 vo uk8 qcs v5 v1 v2 qbi qba qbg qa2 qbh yu pr pp pq qas qam qfa qfd qe9 qem qey qdr)) (fun zk wg wh wf zq zm zt zl zr zo zv zp zu qcd qbt qjq qjr qej qd3 qjk qjn => K (Ex.exit 4) (Xmade_Sketch_Plan_2_0 zk wg wh wf zq zm zt zl zr zo zv zp zu qcd qbt qjq qjr qej qd3 qjk qjn)) vo qcs v5 v1 v2 qbi qba qbg qa2 qbh yu pr pp pq qas qam qfa qfd qe9 qem qey uk8 qdr := by kernel_rfl
theorem gmade_Sketch_Plan_l2_ok (qq qp : Mo) (qo qf : Mo) (fuel : Nat) (K : Ex → St → Option AV) (vo qcs : Int) (v5 v1 : Nat) (v2 : Ge) (qbi qba : Nat) (qbg : Ge) (qa2 qbh : Nat) (yu : Ge) (pr pp : Nat) (pq : Ge) (qas : List AV) (qam : List (List AV)) (qfa : List AV) (qfd : List (List AV)) (qe9 : List AV) (qem : List (List AV)) (qey : List AV) (qpo : Int) (qov : List (List AV)) : ∀ (n' : Nat) (uk8 : Int) (qdr : List (List AV)),
    loopK (bX Pr (Gmade_Sketch_Plan qq qp qo qf) (Lmade_Sketch_Plan qq qp qo qf fuel) 6 5 2 fuel) (hX Pr 5 2 (Smade_Sketch_Plan_2 vo qpo qcs v5 v1 v2 qbi qba qbg qa2 qbh yu pr pp pq qas qam qfa qfd qe9 qem qey qov)) n' (Smade_Sketch_Plan_2 vo uk8 qcs v5 v1 v2 qbi qba qbg qa2 qbh yu pr pp pq qas qam qfa qfd qe9 qem qey qdr) K = gmade_Sketch_Plan_l2 qq qp qo qf fuel (fun zk wg wh wf zq zm zt zl zr zo zv zp zu qcd qbt qjq qjr qej qd3 qjk qjn => K (Ex.exit 4) (Xmade_Sketch_Plan_2_0 zk wg wh wf zq zm zt zl zr zo zv zp zu qcd qbt qjq qjr qej qd3 qjk qjn)) vo qcs v5 v1 v2 qbi qba qbg qa2 qbh yu pr pp pq qas qam qfa qfd qe9 qem qey n' uk8 qdr
  | 0,_,_ => rfl
  | n' + 1,uk8,qdr => (gmade_Sketch_Plan_l2_eq qq qp qo qf fuel (fun s => loopK (bX Pr (Gmade_Sketch_Plan qq qp qo qf) (Lmade_Sketch_Plan qq qp qo qf fuel) 6 5 2 fuel) (hX Pr 5 2 (Smade_Sketch_Plan_2 vo qpo qcs v5 v1 v2 qbi qba qbg qa2 qbh yu pr pp pq qas qam qfa qfd qe9 qem qey qov)) n' s K) K vo qcs v5 v1 v2 qbi qba qbg qa2 qbh yu pr pp pq qas qam qfa qfd qe9 qem qey qpo qov uk8 qdr).trans
    (congrArg (fun kn => gmade_Sketch_Plan_l2_step qq qp qo qf fuel kn _ vo qcs v5 v1 v2 qbi qba qbg qa2 qbh yu pr pp pq qas qam qfa qfd qe9 qem qey uk8 qdr) (funext fun uk8 => funext fun qdr => gmade_Sketch_Plan_l2_ok qq qp qo qf fuel K vo qcs v5 v1 v2 qbi qba qbg qa2 qbh yu pr pp pq qas qam qfa qfd qe9 qem qey qpo qov n' uk8 qdr))
theorem gmade_Sketch_Plan_L2 (qq qp : Mo) (qo qf : Mo) (fuel : Nat) : LX Pr (Gmade_Sketch_Plan qq qp qo qf) (Lmade_Sketch_Plan qq qp qo qf fuel) 6 5 2 fuel := by
  refine .of Tmade_Sketch_Plan_2 (Fmade_Sketch_Plan_2 qq qp qo qf fuel) (fun L h => ?_) (fun ps st K r he hr => ?_)
  · have e : (Lmade_Sketch_Plan qq qp qo qf fuel).get (writes (lp Pr 5 2).1) = some (lam Tmade_Sketch_Plan_2 (Fmade_Sketch_Plan_2 qq qp qo qf fuel)) := by kernel_rfl
    exact (Option.some.inj (e.symm.trans h)).symm
  · unfold Fmade_Sketch_Plan_2 at hr
    split at hr
    · obtain rfl := (Option.some.inj he).symm
      exact (gmade_Sketch_Plan_l2_ok qq qp qo qf fuel K _ _ _ _ _ _ _ _ _ _ _ _ _ _ _ _ _ _ _ _ _ _ _ fuel _ _).trans hr
    · cases hr
noncomputable def gmade_Sketch_Plan (qq qp : Mo) (qo qf : Mo) (fuel : Nat) (qbm : Int) (qfq qfy : Nat) (qf0 : Ge) (qfw qft : Nat) (qf2 : Ge) (qfu qfr : Nat) (qfj : Ge) (qfm qfh : Nat) (qf1 : Ge) : Option AV :=
  ck (okM [RS.one (LK.i .i64)] (qq [AV.int .i64 qbm,AV.int .i64 3])) <| gmade_Sketch_Plan_l1 qq qp qo qf fuel
    (fun (qug qds : Int) (qj6 qkf : Nat) (qkp : Ge) (qu1 qt2 : Nat) (qr9 : Ge) (qr3 qsr : Nat) (qva : Ge) (qt9 qsi : Nat) (quz : Ge) (qlp : List AV) (qln : List (List AV)) (was : List AV) (wap : List (List AV)) (qyy : List AV) (qtl : List (List AV)) (waq : List AV) (wat : List (List AV)) => gmade_Sketch_Plan_l2 qq qp qo qf fuel
        (fun (_ : Int) (_ _ : Nat) (_ : Ge) (_ _ : Nat) (_ : Ge) (_ _ : Nat) (_ : Ge) (_ _ : Nat) (_ : Ge) (_ : List AV) (_ : List (List AV)) (_ : List AV) (_ : List (List AV)) (quv : List AV) (qlh : List (List AV)) (wao : List AV) (q0d : List (List AV)) => some (AV.agg [AV.ro 4 qlh.length qlh.length fun (i j : Nat) => (qlh.getD i quv).getD j AV.dead,AV.ro 9 q0d.length q0d.length fun (i j : Nat) => (q0d.getD i wao).getD j AV.dead]))
        qug
        qds
        qj6
        qkf
        qkp
        qu1
        qt2
        qr9
        qr3
        qsr
        qva
        qt9
        qsi
        quz
        qlp
        qln
        was
        wap
        qyy
        qtl
        waq fuel (0) wat) fuel (IntKind.i64.wrap (2 + toI (getV (qq [AV.int .i64 qbm,AV.int .i64 3])))) (0) qbm qfq qfy qf0 qfw qft qf2 qfu qfr qfj qfm qfh qf1 ([AV.str { data := #[] },AV.int .i32 0,AV.int .i32 0,AV.int .u8 0]) ([]) ([AV.str { data := #[] },AV.int .u8 0,AV.int .i64 0,AV.int .i64 0,AV.bool false,AV.bool false,AV.flt .f64 (some 0),AV.flt .f64 (some 0),AV.flt .f64 (some 0)]) ([]) ([AV.str { data := #[] },AV.int .i32 0,AV.int .i32 0,AV.int .u8 0]) ([]) ([AV.str { data := #[] },AV.int .u8 0,AV.int .i64 0,AV.int .i64 0,AV.bool false,AV.bool false,AV.flt .f64 (some 0),AV.flt .f64 (some 0),AV.flt .f64 (some 0)]) ([])
noncomputable def mmade_Sketch_Plan (qq qp : Mo) (qo qf : Mo) (fuel : Nat) (xs : List AV) : Option AV := match xs with
  | [AV.agg [AV.int .i64 qbm,AV.ro 1 qfq qfy qf0,AV.ro 1 qfw qft qf2,AV.ro 1 qfu qfr qfj,AV.ro 1 qfm qfh qf1]] => gmade_Sketch_Plan qq qp qo qf fuel qbm qfq qfy qf0 qfw qft qf2 qfu qfr qfj qfm qfh qf1
  | _ => none
abbrev Rmade_Sketch_Plan : List RS := [RS.agg [LK.l (nat_lit 4),LK.l (nat_lit 9)]]
theorem gmade_Sketch_Plan_sm (qq qp : Mo) (qo qf : Mo) (fuel : Nat) (hΓ : GamOk Pr (Gmade_Sketch_Plan qq qp qo qf)) (hP : NamesOk Pr) : SmOk Pr 5 (smM Rmade_Sketch_Plan (mmade_Sketch_Plan qq qp qo qf fuel)) := smL (L := (Lmade_Sketch_Plan qq qp qo qf fuel)) (n := 3) hΓ hP (by kernel_rfl) (fun i hi => match i,hi with
  | 1,_ => gmade_Sketch_Plan_L0 qq qp qo qf fuel
  | 0,_ => gmade_Sketch_Plan_L1 qq qp qo qf fuel
  | 2,_ => gmade_Sketch_Plan_L2 qq qp qo qf fuel
  | i + 3,hi => absurd hi (by omega)) fun xs v h => by
  unfold mmade_Sketch_Plan at h
  split at h
  · exact Eq.trans (by kernel_rfl) h
  · cases h
noncomputable def Sjoints_named_0 (h0s : ByteArray) (h0p : Nat) : St := { env := [(13,AV.ptr 0 0)],h := [Blk.it h0s h0p],kd := [] }
noncomputable def Xjoints_named_0_0 (qa6 : Bool) (qz0 : ByteArray) (qzh : Nat) : St := { env := [(2,AV.bool qa6)],h := [Blk.it qz0 qzh],kd := [] }
noncomputable def Xjoints_named_0_1 (qy3 : ByteArray) (qz7 : Nat) : St := { env := [],h := [Blk.it qy3 qz7],kd := [] }
noncomputable def gjoints_named_l0_step (fuel : Nat) (kn : Nat → Option AV) (kx0 : Bool → ByteArray → Nat → Option AV) (kx1 : ByteArray → Nat → Option AV) (h0s : ByteArray) (h0p : Nat) : Option AV :=
  bif h0p.blt h0s.size then bif bif decide ((↑(Utf8.decode h0s h0p).fst : Int) ≥ 97) then decide ((↑(Utf8.decode h0s h0p).fst : Int) ≤ 122) else false then kn (h0p + (Utf8.decode h0s h0p).snd)
    else bif bif bif decide ((↑(Utf8.decode h0s h0p).fst : Int) ≥ 48) then decide ((↑(Utf8.decode h0s h0p).fst : Int) ≤ 57) else false then decide ((↑h0p : Int) > 0) else false then kn (h0p + (Utf8.decode h0s h0p).snd)
    else kx0 false h0s (h0p + (Utf8.decode h0s h0p).snd)
  else kx1 h0s h0p
noncomputable def gjoints_named_l0 (fuel : Nat) (kx0 : Bool → ByteArray → Nat → Option AV) (kx1 : ByteArray → Nat → Option AV) (h0s : ByteArray) : Nat → Nat → Option AV
  | 0,_ => none
  | n' + 1,h0p => gjoints_named_l0_step fuel (gjoints_named_l0 fuel kx0 kx1 h0s n') kx0 kx1 h0s h0p
noncomputable def Tjoints_named_0 : TS' := ⟨[(13,TA.ptr 0 0)],[TB.it],[]⟩
noncomputable def Fjoints_named_0 (fuel : Nat) (ps : List Pay) (K : Ex → St → Option AV) : Option AV := match ps with
  | .s h0s :: .n h0p :: [] => gjoints_named_l0 fuel (fun qa6 qz0 qzh => K (Ex.ret) (Xjoints_named_0_0 qa6 qz0 qzh)) (fun qy3 qz7 => K (Ex.exit 0) (Xjoints_named_0_1 qy3 qz7)) h0s fuel h0p
  | _ => none
noncomputable def Ljoints_named (fuel : Nat) : Lam AV := [(68719460380,lam Tjoints_named_0 (Fjoints_named_0 fuel))]
noncomputable def Gjoints_named : Gam := []
theorem gjoints_named_l0_eq (fuel : Nat) (kn : St → Option AV) (K : Ex → St → Option AV) (h0s : ByteArray) (q18 h0p : Nat) :
    bX Pr Gjoints_named (Ljoints_named fuel) 6 56 0 fuel (Sjoints_named_0 h0s h0p) (fun e s => match e with | .normal => kn (hX Pr 56 0 (Sjoints_named_0 h0s q18) s) | e => K e s) =
    gjoints_named_l0_step fuel (fun h0p => kn (Sjoints_named_0 h0s h0p)) (fun xu2 xh0s xh0p => K (Ex.ret) (Xjoints_named_0_0 xu2 xh0s xh0p)) (fun xh0s xh0p => K (Ex.exit 0) (Xjoints_named_0_1 xh0s xh0p)) h0s h0p := by kernel_rfl
theorem gjoints_named_l0_ok (fuel : Nat) (K : Ex → St → Option AV) (h0s : ByteArray) (q18 : Nat) : ∀ (n' h0p : Nat),
    loopK (bX Pr Gjoints_named (Ljoints_named fuel) 6 56 0 fuel) (hX Pr 56 0 (Sjoints_named_0 h0s q18)) n' (Sjoints_named_0 h0s h0p) K = gjoints_named_l0 fuel (fun xu2 xh0s xh0p => K (Ex.ret) (Xjoints_named_0_0 xu2 xh0s xh0p)) (fun xh0s xh0p => K (Ex.exit 0) (Xjoints_named_0_1 xh0s xh0p)) h0s n' h0p
  | 0,_ => rfl
  | n' + 1,h0p => (gjoints_named_l0_eq fuel (fun s => loopK (bX Pr Gjoints_named (Ljoints_named fuel) 6 56 0 fuel) (hX Pr 56 0 (Sjoints_named_0 h0s q18)) n' s K) K h0s q18 h0p).trans
    (congrArg (fun kn => gjoints_named_l0_step fuel kn _ _ h0s h0p) (funext fun h0p => gjoints_named_l0_ok fuel K h0s q18 n' h0p))
theorem gjoints_named_L0 (fuel : Nat) : LX Pr Gjoints_named (Ljoints_named fuel) 6 56 0 fuel := by
  refine .of Tjoints_named_0 (Fjoints_named_0 fuel) (fun L h => ?_) (fun ps st K r he hr => ?_)
  · have e : (Ljoints_named fuel).get (writes (lp Pr 56 0).1) = some (lam Tjoints_named_0 (Fjoints_named_0 fuel)) := by kernel_rfl
    exact (Option.some.inj (e.symm.trans h)).symm
  · unfold Fjoints_named_0 at hr
    split at hr
    · obtain rfl := (Option.some.inj he).symm
      exact (gjoints_named_l0_ok fuel K _ _ fuel _).trans hr
    · cases hr
noncomputable def gjoints_named (fuel : Nat) (us0 : ByteArray) : Option AV :=
  bif bif strEq us0 { data := #[] } then true else decide ((↑us0.size : Int) > 8) then some (AV.bool false)
  else gjoints_named_l0 fuel
    (fun (xu2 : Bool) (_ : ByteArray) (_ : Nat) => some (AV.bool xu2))
    (fun (_ : ByteArray) (_ : Nat) => some (AV.bool true))
    us0 fuel (0)
noncomputable def mjoints_named (fuel : Nat) (xs : List AV) : Option AV := match xs with
  | [AV.str us0] => gjoints_named fuel us0
  | _ => none
abbrev Rjoints_named : List RS := [RS.one LK.b]
theorem gjoints_named_sm (fuel : Nat) (hΓ : GamOk Pr Gjoints_named) (hP : NamesOk Pr) : SmOk Pr 56 (smM Rjoints_named (mjoints_named fuel)) := smL (L := (Ljoints_named fuel)) (n := 1) hΓ hP (by kernel_rfl) (fun i hi => match i,hi with
  | 0,_ => gjoints_named_L0 fuel
  | i + 1,hi => absurd hi (by omega)) fun xs v h => by
  unfold mjoints_named at h
  split at h
  · exact Eq.trans (by kernel_rfl) h
  · cases h
noncomputable def Sjoints_near_0 (u5n u5r : Nat) (u5g : Ge) (u6 u7 : Int) : St := { env := [(5,AV.ro 1 u5n u5r u5g),(6,AV.int .i64 u6),(7,AV.int .i64 u7)],h := [],kd := [] }
noncomputable def Xjoints_near_0_0 (qa6 : Bool) : St := { env := [(2,AV.bool qa6)],h := [],kd := [] }
noncomputable def Xjoints_near_0_1 : St := { env := [],h := [],kd := [] }
noncomputable def gjoints_near_l0_step (fuel : Nat) (kn : Int → Option AV) (kx0 : Bool → Option AV) (kx1 : Option AV) (u5n u5r : Nat) (u5g : Ge) (u6 u7 : Int) : Option AV :=
  bif decide (u7 < u6) then ck (decide (0 ≤ u7)) <| ck (decide (u7 < (↑u5n : Int))) <| ck (fitK (LK.i .i32) (u5g u7.toNat 0)) <| bif bif decide (toI (u5g u7.toNat 0) < (-1048576)) then true else decide (toI (u5g u7.toNat 0) > 1048576) then kx0 false
    else kn (IntKind.i64.wrap (u7 + 1))
  else kx1
noncomputable def gjoints_near_l0 (fuel : Nat) (kx0 : Bool → Option AV) (kx1 : Option AV) (u5n u5r : Nat) (u5g : Ge) (u6 : Int) : Nat → Int → Option AV
  | 0,_ => none
  | n' + 1,u7 => gjoints_near_l0_step fuel (gjoints_near_l0 fuel kx0 kx1 u5n u5r u5g u6 n') kx0 kx1 u5n u5r u5g u6 u7
noncomputable def Tjoints_near_0 : TS' := ⟨[(5,TA.ro 1),(6,TA.i .i64),(7,TA.i .i64)],[],[]⟩
noncomputable def Fjoints_near_0 (fuel : Nat) (ps : List Pay) (K : Ex → St → Option AV) : Option AV := match ps with
  | .n u5n :: .n u5r :: .g u5g :: .i u6 :: .i u7 :: [] => gjoints_near_l0 fuel (fun qa6 => K (Ex.ret) (Xjoints_near_0_0 qa6)) (K (Ex.exit 0) Xjoints_near_0_1) u5n u5r u5g u6 fuel u7
  | _ => none
noncomputable def Ljoints_near (fuel : Nat) : Lam AV := [(262036,lam Tjoints_near_0 (Fjoints_near_0 fuel))]
noncomputable def Gjoints_near : Gam := []
theorem gjoints_near_l0_eq (fuel : Nat) (kn : St → Option AV) (K : Ex → St → Option AV) (u5n u5r : Nat) (u5g : Ge) (u6 u70 u7 : Int) :
    bX Pr Gjoints_near (Ljoints_near fuel) 6 57 0 fuel (Sjoints_near_0 u5n u5r u5g u6 u7) (fun e s => match e with | .normal => kn (hX Pr 57 0 (Sjoints_near_0 u5n u5r u5g u6 u70) s) | e => K e s) =
    gjoints_near_l0_step fuel (fun u7 => kn (Sjoints_near_0 u5n u5r u5g u6 u7)) (fun xu2 => K (Ex.ret) (Xjoints_near_0_0 xu2)) (K (Ex.exit 0) Xjoints_near_0_1) u5n u5r u5g u6 u7 := by kernel_rfl
theorem gjoints_near_l0_ok (fuel : Nat) (K : Ex → St → Option AV) (u5n u5r : Nat) (u5g : Ge) (u6 u70 : Int) : ∀ (n' : Nat) (u7 : Int),
    loopK (bX Pr Gjoints_near (Ljoints_near fuel) 6 57 0 fuel) (hX Pr 57 0 (Sjoints_near_0 u5n u5r u5g u6 u70)) n' (Sjoints_near_0 u5n u5r u5g u6 u7) K = gjoints_near_l0 fuel (fun xu2 => K (Ex.ret) (Xjoints_near_0_0 xu2)) (K (Ex.exit 0) Xjoints_near_0_1) u5n u5r u5g u6 n' u7
  | 0,_ => rfl
  | n' + 1,u7 => (gjoints_near_l0_eq fuel (fun s => loopK (bX Pr Gjoints_near (Ljoints_near fuel) 6 57 0 fuel) (hX Pr 57 0 (Sjoints_near_0 u5n u5r u5g u6 u70)) n' s K) K u5n u5r u5g u6 u70 u7).trans
    (congrArg (fun kn => gjoints_near_l0_step fuel kn _ _ u5n u5r u5g u6 u7) (funext fun u7 => gjoints_near_l0_ok fuel K u5n u5r u5g u6 u70 n' u7))
theorem gjoints_near_L0 (fuel : Nat) : LX Pr Gjoints_near (Ljoints_near fuel) 6 57 0 fuel := by
  refine .of Tjoints_near_0 (Fjoints_near_0 fuel) (fun L h => ?_) (fun ps st K r he hr => ?_)
  · have e : (Ljoints_near fuel).get (writes (lp Pr 57 0).1) = some (lam Tjoints_near_0 (Fjoints_near_0 fuel)) := by kernel_rfl
    exact (Option.some.inj (e.symm.trans h)).symm
  · unfold Fjoints_near_0 at hr
    split at hr
    · obtain rfl := (Option.some.inj he).symm
      exact (gjoints_near_l0_ok fuel K _ _ _ _ _ fuel _).trans hr
    · cases hr
noncomputable def gjoints_near (fuel yp qai : Nat) (pn : Ge) : Option AV :=
  gjoints_near_l0 fuel
    (fun (xu2 : Bool) => some (AV.bool xu2))
    (some (AV.bool true))
    yp
    qai
    pn
    ((↑yp : Int)) fuel (0)
noncomputable def mjoints_near (fuel : Nat) (xs : List AV) : Option AV := match xs with
  | [AV.ro 1 yp qai pn] => gjoints_near fuel yp qai pn
  | _ => none
abbrev Rjoints_near : List RS := [RS.one LK.b]
theorem gjoints_near_sm (fuel : Nat) (hΓ : GamOk Pr Gjoints_near) (hP : NamesOk Pr) : SmOk Pr 57 (smM Rjoints_near (mjoints_near fuel)) := smL (L := (Ljoints_near fuel)) (n := 1) hΓ hP (by kernel_rfl) (fun i hi => match i,hi with
  | 0,_ => gjoints_near_L0 fuel
  | i + 1,hi => absurd hi (by omega)) fun xs v h => by
  unfold mjoints_near at h
  split at h
  · exact Eq.trans (by kernel_rfl) h
  · cases h
noncomputable def Sjoints_Check_0 (qc3 qda : Nat) (z5 : Ge) (u18 u19 : Int) (h0m h1m : List (AV × AV)) : St := { env := [(4,AV.mp 0),(5,AV.mp 1),(17,AV.ro 4 qc3 qda z5),(18,AV.int .i64 u18),(19,AV.int .i64 u19)],h := [Blk.mp h0m,Blk.mp h1m],kd := [] }
noncomputable def Xjoints_Check_0_0 (qa6 qsp : Int) (qzx q0k : List (AV × AV)) (qee : ByteArray) (qef qed qeg : Int) : St := { env := [(2,AV.int .i64 qa6),(3,AV.int .i64 qsp)],h := [Blk.mp qzx,Blk.mp q0k,Blk.box [AV.str qee,AV.int .i32 qef,AV.int .i32 qed,AV.int .u8 qeg]],kd := [] }
noncomputable def Xjoints_Check_0_1 (q0g qzj : List (AV × AV)) : St := { env := [],h := [Blk.mp q0g,Blk.mp qzj],kd := [] }
noncomputable def gjoints_Check_l0_step (q3 qy : Mo) (fuel : Nat) (kn : Int → List (AV × AV) → List (AV × AV) → Option AV) (kx0 : Int → Int → List (AV × AV) → List (AV × AV) → ByteArray → Int → Int → Int → Option AV) (kx1 : List (AV × AV) → List (AV × AV) → Option AV) (qc3 qda : Nat) (z5 : Ge) (u18 u19 : Int) (h0m h1m : List (AV × AV)) : Option AV :=
  bif decide (u19 < u18) then ck (decide (0 ≤ u19)) <| ck (decide (u19 < (↑qc3 : Int))) <| ck (fitKs [LK.s,LK.i .i32,LK.i .i32,LK.i .u8] [z5 u19.toNat 0,z5 u19.toNat 1,z5 u19.toNat 2,z5 u19.toNat 3]) <| ck (keyOk Tryz.prog 9 (AV.str (toS (z5 u19.toNat 0)))) <| ck (mapFit Tryz.prog 9 (AV.str (toS (z5 u19.toNat 0))) h0m) <| ck (fit1 Tryz.prog 3 ((findM Tryz.prog 9 (AV.str (toS (z5 u19.toNat 0))) h0m).getD (AV.int .i64 0))) <| ck (keyOk Tryz.prog 114 (AV.agg [AV.int .i32 (toI (z5 u19.toNat 1)),AV.int .i32 (toI (z5 u19.toNat 2))])) <| ck (mapFit Tryz.prog 114 (AV.agg [AV.int .i32 (toI (z5 u19.toNat 1)),AV.int .i32 (toI (z5 u19.toNat 2))]) h1m) <| ck (fit1 Tryz.prog 3 ((findM Tryz.prog 114 (AV.agg [AV.int .i32 (toI (z5 u19.toNat 1)),AV.int .i32 (toI (z5 u19.toNat 2))]) h1m).getD (AV.int .i64 0))) <| ck (bif !bif (findM Tryz.prog 9 (AV.str (toS (z5 u19.toNat 0))) h0m).isSome then true else (findM Tryz.prog 114 (AV.agg [AV.int .i32 (toI (z5 u19.toNat 1)),AV.int .i32 (toI (z5 u19.toNat 2))]) h1m).isSome then true else true) <| ck (bif !bif (findM Tryz.prog 9 (AV.str (toS (z5 u19.toNat 0))) h0m).isSome then true else (findM Tryz.prog 114 (AV.agg [AV.int .i32 (toI (z5 u19.toNat 1)),AV.int .i32 (toI (z5 u19.toNat 2))]) h1m).isSome then okM [RS.one LK.b] (q3 [AV.str (toS (z5 u19.toNat 0))]) else true) <| ck (bif !bif bif (findM Tryz.prog 9 (AV.str (toS (z5 u19.toNat 0))) h0m).isSome then true else (findM Tryz.prog 114 (AV.agg [AV.int .i32 (toI (z5 u19.toNat 1)),AV.int .i32 (toI (z5 u19.toNat 2))]) h1m).isSome then true else !toB (getV (q3 [AV.str (toS (z5 u19.toNat 0))])) then true else true) <| ck (bif !bif bif (findM Tryz.prog 9 (AV.str (toS (z5 u19.toNat 0))) h0m).isSome then true else (findM Tryz.prog 114 (AV.agg [AV.int .i32 (toI (z5 u19.toNat 1)),AV.int .i32 (toI (z5 u19.toNat 2))]) h1m).isSome then true else !toB (getV (q3 [AV.str (toS (z5 u19.toNat 0))])) then true else true) <| ck (bif !bif bif (findM Tryz.prog 9 (AV.str (toS (z5 u19.toNat 0))) h0m).isSome then true else (findM Tryz.prog 114 (AV.agg [AV.int .i32 (toI (z5 u19.toNat 1)),AV.int .i32 (toI (z5 u19.toNat 2))]) h1m).isSome then true else !toB (getV (q3 [AV.str (toS (z5 u19.toNat 0))])) then okM [RS.one LK.b] (qy [AV.ro 1 2 2 fun (i j : Nat) => ([[AV.int .i32 (toI (z5 u19.toNat 1))],[AV.int .i32 (toI (z5 u19.toNat 2))]].getD i []).getD j AV.dead]) else true) <| ck (bif !bif bif bif (findM Tryz.prog 9 (AV.str (toS (z5 u19.toNat 0))) h0m).isSome then true else (findM Tryz.prog 114 (AV.agg [AV.int .i32 (toI (z5 u19.toNat 1)),AV.int .i32 (toI (z5 u19.toNat 2))]) h1m).isSome then true else !toB (getV (q3 [AV.str (toS (z5 u19.toNat 0))])) then true else !toB (getV (qy [AV.ro 1 2 2 fun (i j : Nat) => ([[AV.int .i32 (toI (z5 u19.toNat 1))],[AV.int .i32 (toI (z5 u19.toNat 2))]].getD i []).getD j AV.dead])) then true else true) <| bif bif bif bif bif (findM Tryz.prog 9 (AV.str (toS (z5 u19.toNat 0))) h0m).isSome then true else (findM Tryz.prog 114 (AV.agg [AV.int .i32 (toI (z5 u19.toNat 1)),AV.int .i32 (toI (z5 u19.toNat 2))]) h1m).isSome then true else !toB (getV (q3 [AV.str (toS (z5 u19.toNat 0))])) then true else !toB (getV (qy [AV.ro 1 2 2 fun (i j : Nat) => ([[AV.int .i32 (toI (z5 u19.toNat 1))],[AV.int .i32 (toI (z5 u19.toNat 2))]].getD i []).getD j AV.dead])) then true else decide (toI (z5 u19.toNat 3) > 7) then kx0 (280) u19 h0m h1m (toS (z5 u19.toNat 0)) (toI (z5 u19.toNat 1)) (toI (z5 u19.toNat 2)) (toI (z5 u19.toNat 3))
    else ck (keyOk Tryz.prog 9 (AV.str (toS (z5 u19.toNat 0)))) <| ck (mapFit Tryz.prog 9 (AV.str (toS (z5 u19.toNat 0))) h0m) <| ck (!(findM Tryz.prog 9 (AV.str (toS (z5 u19.toNat 0))) h0m).isSome) <| ck (keyOk Tryz.prog 114 (AV.agg [AV.int .i32 (toI (z5 u19.toNat 1)),AV.int .i32 (toI (z5 u19.toNat 2))])) <| ck (mapFit Tryz.prog 114 (AV.agg [AV.int .i32 (toI (z5 u19.toNat 1)),AV.int .i32 (toI (z5 u19.toNat 2))]) h1m) <| ck (!(findM Tryz.prog 114 (AV.agg [AV.int .i32 (toI (z5 u19.toNat 1)),AV.int .i32 (toI (z5 u19.toNat 2))]) h1m).isSome) <| kn (IntKind.i64.wrap (u19 + 1)) (h0m ++ [(AV.str (toS (z5 u19.toNat 0)),AV.int .i64 u19)]) (h1m ++ [(AV.agg [AV.int .i32 (toI (z5 u19.toNat 1)),AV.int .i32 (toI (z5 u19.toNat 2))],AV.int .i64 u19)])
  else kx1 h0m h1m
noncomputable def gjoints_Check_l0 (q3 qy : Mo) (fuel : Nat) (kx0 : Int → Int → List (AV × AV) → List (AV × AV) → ByteArray → Int → Int → Int → Option AV) (kx1 : List (AV × AV) → List (AV × AV) → Option AV) (qc3 qda : Nat) (z5 : Ge) (u18 : Int) : Nat → Int → List (AV × AV) → List (AV × AV) → Option AV
  | 0,_,_,_ => none
  | n' + 1,u19,h0m,h1m => gjoints_Check_l0_step q3 qy fuel (gjoints_Check_l0 q3 qy fuel kx0 kx1 qc3 qda z5 u18 n') kx0 kx1 qc3 qda z5 u18 u19 h0m h1m
noncomputable def Tjoints_Check_0 : TS' := ⟨[(4,TA.mp 0),(5,TA.mp 1),(17,TA.ro 4),(18,TA.i .i64),(19,TA.i .i64)],[TB.mp,TB.mp],[]⟩
noncomputable def Fjoints_Check_0 (q3 qy : Mo) (fuel : Nat) (ps : List Pay) (K : Ex → St → Option AV) : Option AV := match ps with
  | .n qc3 :: .n qda :: .g z5 :: .i u18 :: .i u19 :: .m h0m :: .m h1m :: [] => gjoints_Check_l0 q3 qy fuel (fun qa6 qsp qzx q0k qee qef qed qeg => K (Ex.ret) (Xjoints_Check_0_0 qa6 qsp qzx q0k qee qef qed qeg)) (fun q0g qzj => K (Ex.exit 0) (Xjoints_Check_0_1 q0g qzj)) qc3 qda z5 u18 fuel u19 h0m h1m
  | _ => none
noncomputable def Ljoints_Check (q3 qy : Mo) (fuel : Nat) : Lam AV := [(302231454903657293156300,lam Tjoints_Check_0 (Fjoints_Check_0 q3 qy fuel))]
noncomputable def Gjoints_Check (q3 qy : Mo) : Gam := [(56,smM [RS.one LK.b] q3),(57,smM [RS.one LK.b] qy)]
theorem gjoints_Check_l0_eq (q3 qy : Mo) (fuel : Nat) (kn : St → Option AV) (K : Ex → St → Option AV) (qc3 qda : Nat) (z5 : Ge) (u18 qpn : Int) (q04 q2c : List (AV × AV)) (u19 : Int) (h0m h1m : List (AV × AV)) :
    bX Pr (Gjoints_Check q3 qy) (Ljoints_Check q3 qy fuel) 6 36 0 fuel (Sjoints_Check_0 qc3 qda z5 u18 u19 h0m h1m) (fun e s => match e with | .normal => kn (hX Pr 36 0 (Sjoints_Check_0 qc3 qda z5 u18 qpn q04 q2c) s) | e => K e s) =
    gjoints_Check_l0_step q3 qy fuel (fun u19 h0m h1m => kn (Sjoints_Check_0 qc3 qda z5 u18 u19 h0m h1m)) (fun xu2 xu3 xh0m xh1m yt yo yr yq => K (Ex.ret) (Xjoints_Check_0_0 xu2 xu3 xh0m xh1m yt yo yr yq)) (fun xh0m xh1m => K (Ex.exit 0) (Xjoints_Check_0_1 xh0m xh1m)) qc3 qda z5 u18 u19 h0m h1m := by kernel_rfl
theorem gjoints_Check_l0_ok (q3 qy : Mo) (fuel : Nat) (K : Ex → St → Option AV) (qc3 qda : Nat) (z5 : Ge) (u18 qpn : Int) (q04 q2c : List (AV × AV)) : ∀ (n' : Nat) (u19 : Int) (h0m h1m : List (AV × AV)),
    loopK (bX Pr (Gjoints_Check q3 qy) (Ljoints_Check q3 qy fuel) 6 36 0 fuel) (hX Pr 36 0 (Sjoints_Check_0 qc3 qda z5 u18 qpn q04 q2c)) n' (Sjoints_Check_0 qc3 qda z5 u18 u19 h0m h1m) K = gjoints_Check_l0 q3 qy fuel (fun xu2 xu3 xh0m xh1m yt yo yr yq => K (Ex.ret) (Xjoints_Check_0_0 xu2 xu3 xh0m xh1m yt yo yr yq)) (fun xh0m xh1m => K (Ex.exit 0) (Xjoints_Check_0_1 xh0m xh1m)) qc3 qda z5 u18 n' u19 h0m h1m
  | 0,_,_,_ => rfl
  | n' + 1,u19,h0m,h1m => (gjoints_Check_l0_eq q3 qy fuel (fun s => loopK (bX Pr (Gjoints_Check q3 qy) (Ljoints_Check q3 qy fuel) 6 36 0 fuel) (hX Pr 36 0 (Sjoints_Check_0 qc3 qda z5 u18 qpn q04 q2c)) n' s K) K qc3 qda z5 u18 qpn q04 q2c u19 h0m h1m).trans
    (congrArg (fun kn => gjoints_Check_l0_step q3 qy fuel kn _ _ qc3 qda z5 u18 u19 h0m h1m) (funext fun u19 => funext fun h0m => funext fun h1m => gjoints_Check_l0_ok q3 qy fuel K qc3 qda z5 u18 qpn q04 q2c n' u19 h0m h1m))
theorem gjoints_Check_L0 (q3 qy : Mo) (fuel : Nat) : LX Pr (Gjoints_Check q3 qy) (Ljoints_Check q3 qy fuel) 6 36 0 fuel := by
  refine .of Tjoints_Check_0 (Fjoints_Check_0 q3 qy fuel) (fun L h => ?_) (fun ps st K r he hr => ?_)
  · have e : (Ljoints_Check q3 qy fuel).get (writes (lp Pr 36 0).1) = some (lam Tjoints_Check_0 (Fjoints_Check_0 q3 qy fuel)) := by kernel_rfl
    exact (Option.some.inj (e.symm.trans h)).symm
  · unfold Fjoints_Check_0 at hr
    split at hr
    · obtain rfl := (Option.some.inj he).symm
      exact (gjoints_Check_l0_ok q3 qy fuel K _ _ _ _ _ _ _ fuel _ _ _).trans hr
    · cases hr
noncomputable def gjoints_Check (q3 qy : Mo) (fuel yp qai : Nat) (pn : Ge) : Option AV :=
  bif decide ((↑yp : Int) > 16) then some (AV.tup [AV.int .i64 3,AV.int .i64 0])
  else gjoints_Check_l0 q3 qy fuel
    (fun (xu2 xu3 : Int) (_ _ : List (AV × AV)) (_ : ByteArray) (_ _ _ : Int) => some (AV.tup [AV.int .i64 xu2,AV.int .i64 xu3]))
    (fun (_ _ : List (AV × AV)) => some (AV.tup [AV.int .i64 0,AV.int .i64 0]))
    yp
    qai
    pn
    ((↑yp : Int)) fuel (0) ([]) ([])
noncomputable def mjoints_Check (q3 qy : Mo) (fuel : Nat) (xs : List AV) : Option AV := match xs with
  | [AV.ro 4 yp qai pn] => gjoints_Check q3 qy fuel yp qai pn
  | _ => none
abbrev Rjoints_Check : List RS := [RS.one (LK.i .i64),RS.one (LK.i .i64)]
theorem gjoints_Check_sm (q3 qy : Mo) (fuel : Nat) (hΓ : GamOk Pr (Gjoints_Check q3 qy)) (hP : NamesOk Pr) : SmOk Pr 36 (smM Rjoints_Check (mjoints_Check q3 qy fuel)) := smL (L := (Ljoints_Check q3 qy fuel)) (n := 1) hΓ hP (by kernel_rfl) (fun i hi => match i,hi with
  | 0,_ => gjoints_Check_L0 q3 qy fuel
  | i + 1,hi => absurd hi (by omega)) fun xs v h => by
  unfold mjoints_Check at h
  split at h
  · exact Eq.trans (by kernel_rfl) h
  · cases h
noncomputable def Sbars_named_0 (po : ByteArray) (u7 u8 : Int) : St := { env := [(0,AV.str po),(7,AV.int .i64 u7),(8,AV.int .i64 u8)],h := [],kd := [] }
noncomputable def Xbars_named_0_0 (qa6 : Bool) : St := { env := [(2,AV.bool qa6)],h := [],kd := [] }
noncomputable def Xbars_named_0_1 (q0a : ByteArray) : St := { env := [(0,AV.str q0a)],h := [],kd := [] }
noncomputable def gbars_named_l0_step (fuel : Nat) (kn : Int → Option AV) (kx0 : Bool → Option AV) (kx1 : ByteArray → Option AV) (po : ByteArray) (u7 u8 : Int) : Option AV :=
  bif decide (u8 < u7) then ck (decide (0 ≤ u8)) <| ck (decide (u8 < (↑po.size : Int))) <| ck (bif decide (sbyte po u8.toNat ≥ 97) then decide (0 ≤ u8) else true) <| ck (bif decide (sbyte po u8.toNat ≥ 97) then decide (u8 < (↑po.size : Int)) else true) <| ck (decide (0 ≤ u8)) <| ck (decide (u8 < (↑po.size : Int))) <| ck (bif decide (sbyte po u8.toNat ≥ 48) then decide (0 ≤ u8) else true) <| ck (bif decide (sbyte po u8.toNat ≥ 48) then decide (u8 < (↑po.size : Int)) else true) <| bif bif !bif decide (sbyte po u8.toNat ≥ 97) then decide (sbyte po u8.toNat ≤ 122) else false then bif !bif decide (sbyte po u8.toNat ≥ 48) then decide (sbyte po u8.toNat ≤ 57) else false then true else u8 == 0 else false then kx0 false
    else kn (IntKind.i64.wrap (u8 + 1))
  else kx1 po
noncomputable def gbars_named_l0 (fuel : Nat) (kx0 : Bool → Option AV) (kx1 : ByteArray → Option AV) (po : ByteArray) (u7 : Int) : Nat → Int → Option AV
  | 0,_ => none
  | n' + 1,u8 => gbars_named_l0_step fuel (gbars_named_l0 fuel kx0 kx1 po u7 n') kx0 kx1 po u7 u8
noncomputable def Tbars_named_0 : TS' := ⟨[(0,TA.s),(7,TA.i .i64),(8,TA.i .i64)],[],[]⟩
noncomputable def Fbars_named_0 (fuel : Nat) (ps : List Pay) (K : Ex → St → Option AV) : Option AV := match ps with
  | .s po :: .i u7 :: .i u8 :: [] => gbars_named_l0 fuel (fun qa6 => K (Ex.ret) (Xbars_named_0_0 qa6)) (fun q0a => K (Ex.exit 0) (Xbars_named_0_1 q0a)) po u7 fuel u8
  | _ => none
noncomputable def Lbars_named (fuel : Nat) : Lam AV := [(4398046510908,lam Tbars_named_0 (Fbars_named_0 fuel))]
noncomputable def Gbars_named : Gam := []
theorem gbars_named_l0_eq (fuel : Nat) (kn : St → Option AV) (K : Ex → St → Option AV) (po : ByteArray) (u7 u80 u8 : Int) :
    bX Pr Gbars_named (Lbars_named fuel) 6 58 0 fuel (Sbars_named_0 po u7 u8) (fun e s => match e with | .normal => kn (hX Pr 58 0 (Sbars_named_0 po u7 u80) s) | e => K e s) =
    gbars_named_l0_step fuel (fun u8 => kn (Sbars_named_0 po u7 u8)) (fun xu2 => K (Ex.ret) (Xbars_named_0_0 xu2)) (fun qyx => K (Ex.exit 0) (Xbars_named_0_1 qyx)) po u7 u8 := by kernel_rfl
theorem gbars_named_l0_ok (fuel : Nat) (K : Ex → St → Option AV) (po : ByteArray) (u7 u80 : Int) : ∀ (n' : Nat) (u8 : Int),
    loopK (bX Pr Gbars_named (Lbars_named fuel) 6 58 0 fuel) (hX Pr 58 0 (Sbars_named_0 po u7 u80)) n' (Sbars_named_0 po u7 u8) K = gbars_named_l0 fuel (fun xu2 => K (Ex.ret) (Xbars_named_0_0 xu2)) (fun qyx => K (Ex.exit 0) (Xbars_named_0_1 qyx)) po u7 n' u8
  | 0,_ => rfl
  | n' + 1,u8 => (gbars_named_l0_eq fuel (fun s => loopK (bX Pr Gbars_named (Lbars_named fuel) 6 58 0 fuel) (hX Pr 58 0 (Sbars_named_0 po u7 u80)) n' s K) K po u7 u80 u8).trans
    (congrArg (fun kn => gbars_named_l0_step fuel kn _ _ po u7 u8) (funext fun u8 => gbars_named_l0_ok fuel K po u7 u80 n' u8))
theorem gbars_named_L0 (fuel : Nat) : LX Pr Gbars_named (Lbars_named fuel) 6 58 0 fuel := by
  refine .of Tbars_named_0 (Fbars_named_0 fuel) (fun L h => ?_) (fun ps st K r he hr => ?_)
  · have e : (Lbars_named fuel).get (writes (lp Pr 58 0).1) = some (lam Tbars_named_0 (Fbars_named_0 fuel)) := by kernel_rfl
    exact (Option.some.inj (e.symm.trans h)).symm
  · unfold Fbars_named_0 at hr
    split at hr
    · obtain rfl := (Option.some.inj he).symm
      exact (gbars_named_l0_ok fuel K _ _ _ fuel _).trans hr
    · cases hr
noncomputable def gbars_named (fuel : Nat) (us0 : ByteArray) : Option AV :=
  gbars_named_l0 fuel
    (fun (xu2 : Bool) => some (AV.bool xu2))
    (fun (qyx : ByteArray) => some (AV.bool (bif decide ((↑qyx.size : Int) ≥ 1) then decide ((↑qyx.size : Int) ≤ 8) else false)))
    us0
    ((↑us0.size : Int)) fuel (0)
noncomputable def mbars_named (fuel : Nat) (xs : List AV) : Option AV := match xs with
  | [AV.str us0] => gbars_named fuel us0
  | _ => none
abbrev Rbars_named : List RS := [RS.one LK.b]
theorem gbars_named_sm (fuel : Nat) (hΓ : GamOk Pr Gbars_named) (hP : NamesOk Pr) : SmOk Pr 58 (smM Rbars_named (mbars_named fuel)) := smL (L := (Lbars_named fuel)) (n := 1) hΓ hP (by kernel_rfl) (fun i hi => match i,hi with
  | 0,_ => gbars_named_L0 fuel
  | i + 1,hi => absurd hi (by omega)) fun xs v h => by
  unfold mbars_named at h
  split at h
  · exact Eq.trans (by kernel_rfl) h
  · cases h
noncomputable def Gbars_number : Gam := []
noncomputable def gbars_number (fuel : Nat) (ux0 : Option Nat) : Option AV :=
  some (AV.bool (bif ford .f64 ux0 (some 4336966441157787648) == some Ordering.gt || ford .f64 ux0 (some 4336966441157787648) == some Ordering.eq then ford .f64 ux0 (some 4877398396442247168) == some Ordering.lt || ford .f64 ux0 (some 4877398396442247168) == some Ordering.eq else false))
noncomputable def mbars_number (fuel : Nat) (xs : List AV) : Option AV := match xs with
  | [AV.flt .f64 ux0] => gbars_number fuel ux0
  | _ => none
abbrev Rbars_number : List RS := [RS.one LK.b]
theorem gbars_number_sm (fuel : Nat) (hΓ : GamOk Pr Gbars_number) (hP : NamesOk Pr) : SmOk Pr 59 (smM Rbars_number (mbars_number fuel)) := sm0 (fuel := fuel) (d := 7) hΓ hP fun xs v h => by
  unfold mbars_number at h
  split at h
  · exact Eq.trans (by kernel_rfl) h
  · cases h
noncomputable def Sbars_may_0 (qc3 qda : Nat) (z5 : Ge) (u18 u19 : Int) (zx zy : Nat) (zw : Ge) (wt wu : Nat) (wv : Ge) (y1 : ByteArray) (ys qaj qh6 : Int) (qh1 qh5 : Bool) (qh0 qh3 qh4 : Option Nat) : St := { env := [(2,AV.ptr 0 0),(5,AV.ptr 1 0),(17,AV.ro 9 qc3 qda z5),(18,AV.int .i64 u18),(19,AV.int .i64 u19)],h := [Blk.box [AV.ro 4 zx zy zw,AV.ro 9 wt wu wv],Blk.box [AV.str y1,AV.int .u8 ys,AV.int .i64 qaj,AV.int .i64 qh6,AV.bool qh1,AV.bool qh5,AV.flt .f64 qh0,AV.flt .f64 qh3,AV.flt .f64 qh4]],kd := [] }
noncomputable def Xbars_may_0_0 (qto : Bool) (qd9 qd7 : Nat) (qd5 : Ge) (qdc qdd : Nat) (qc7 : Ge) (ql3 : ByteArray) (ql5 qlw qyk : Int) (qw0 qwj : Bool) (qwv qx4 qx3 : Option Nat) (qee : ByteArray) (qef qed qeg : Int) (qhn qhq : Bool) (qhm qhl qho : Option Nat) : St := { env := [(4,AV.bool qto)],h := [Blk.box [AV.ro 4 qd9 qd7 qd5,AV.ro 9 qdc qdd qc7],Blk.box [AV.str ql3,AV.int .u8 ql5,AV.int .i64 qlw,AV.int .i64 qyk,AV.bool qw0,AV.bool qwj,AV.flt .f64 qwv,AV.flt .f64 qx4,AV.flt .f64 qx3],Blk.box [AV.str qee,AV.int .u8 qef,AV.int .i64 qed,AV.int .i64 qeg,AV.bool qhn,AV.bool qhq,AV.flt .f64 qhm,AV.flt .f64 qhl,AV.flt .f64 qho]],kd := [] }
noncomputable def Xbars_may_0_1 (qb7 qcb : Nat) (qb3 : Ge) (qap qao : Nat) (qan : Ge) (qlz : ByteArray) (qhk qlx qxi : Int) (qyl qwx : Bool) (qw1 qwq qyw : Option Nat) : St := { env := [(2,AV.ptr 0 0),(5,AV.ptr 1 0)],h := [Blk.box [AV.ro 4 qb7 qcb qb3,AV.ro 9 qap qao qan],Blk.box [AV.str qlz,AV.int .u8 qhk,AV.int .i64 qlx,AV.int .i64 qxi,AV.bool qyl,AV.bool qwx,AV.flt .f64 qw1,AV.flt .f64 qwq,AV.flt .f64 qyw]],kd := [] }
noncomputable def gbars_may_l0_step (wb q7 : Mo) (fuel : Nat) (kn : Int → Option AV) (kx0 : Bool → Nat → Nat → Ge → Nat → Nat → Ge → ByteArray → Int → Int → Int → Bool → Bool → Option Nat → Option Nat → Option Nat → ByteArray → Int → Int → Int → Bool → Bool → Option Nat → Option Nat → Option Nat → Option AV) (kx1 : Nat → Nat → Ge → Nat → Nat → Ge → ByteArray → Int → Int → Int → Bool → Bool → Option Nat → Option Nat → Option Nat → Option AV) (qc3 qda : Nat) (z5 : Ge) (u18 : Int) (zx zy : Nat) (zw : Ge) (wt wu : Nat) (wv : Ge) (y1 : ByteArray) (ys qaj qh6 : Int) (qh1 qh5 : Bool) (qh0 qh3 qh4 : Option Nat) (u19 : Int) : Option AV :=
  bif decide (u19 < u18) then ck (decide (0 ≤ u19)) <| ck (decide (u19 < (↑qc3 : Int))) <| ck (fitKs [LK.s,LK.i .u8,LK.i .i64,LK.i .i64,LK.b,LK.b,LK.f .f64,LK.f .f64,LK.f .f64] [z5 u19.toNat 0,z5 u19.toNat 1,z5 u19.toNat 2,z5 u19.toNat 3,z5 u19.toNat 4,z5 u19.toNat 5,z5 u19.toNat 6,z5 u19.toNat 7,z5 u19.toNat 8]) <| bif strEq (toS (z5 u19.toNat 0)) y1 then kx0 false zx zy zw wt wu wv y1 ys qaj qh6 qh1 qh5 qh0 qh3 qh4 (toS (z5 u19.toNat 0)) (toI (z5 u19.toNat 1)) (toI (z5 u19.toNat 2)) (toI (z5 u19.toNat 3)) (toB (z5 u19.toNat 4)) (toB (z5 u19.toNat 5)) (toF (z5 u19.toNat 6)) (toF (z5 u19.toNat 7)) (toF (z5 u19.toNat 8))
    else kn (IntKind.i64.wrap (u19 + 1))
  else kx1 zx zy zw wt wu wv y1 ys qaj qh6 qh1 qh5 qh0 qh3 qh4
noncomputable def gbars_may_l0 (wb q7 : Mo) (fuel : Nat) (kx0 : Bool → Nat → Nat → Ge → Nat → Nat → Ge → ByteArray → Int → Int → Int → Bool → Bool → Option Nat → Option Nat → Option Nat → ByteArray → Int → Int → Int → Bool → Bool → Option Nat → Option Nat → Option Nat → Option AV) (kx1 : Nat → Nat → Ge → Nat → Nat → Ge → ByteArray → Int → Int → Int → Bool → Bool → Option Nat → Option Nat → Option Nat → Option AV) (qc3 qda : Nat) (z5 : Ge) (u18 : Int) (zx zy : Nat) (zw : Ge) (wt wu : Nat) (wv : Ge) (y1 : ByteArray) (ys qaj qh6 : Int) (qh1 qh5 : Bool) (qh0 qh3 qh4 : Option Nat) : Nat → Int → Option AV
  | 0,_ => none
  | n' + 1,u19 => gbars_may_l0_step wb q7 fuel (gbars_may_l0 wb q7 fuel kx0 kx1 qc3 qda z5 u18 zx zy zw wt wu wv y1 ys qaj qh6 qh1 qh5 qh0 qh3 qh4 n') kx0 kx1 qc3 qda z5 u18 zx zy zw wt wu wv y1 ys qaj qh6 qh1 qh5 qh0 qh3 qh4 u19
termination_by structural k => k
noncomputable def Tbars_may_0 : TS' := ⟨[(2,TA.ptr 0 0),(5,TA.ptr 1 0),(17,TA.ro 9),(18,TA.i .i64),(19,TA.i .i64)],[TB.box [TA.ro 4,TA.ro 9],TB.box [TA.s,TA.i .u8,TA.i .i64,TA.i .i64,TA.b,TA.b,TA.f .f64,TA.f .f64,TA.f .f64]],[]⟩
noncomputable def Fbars_may_0 (wb q7 : Mo) (fuel : Nat) (ps : List Pay) (K : Ex → St → Option AV) : Option AV := match ps with
  | .n qc3 :: .n qda :: .g z5 :: .i u18 :: .i u19 :: .n zx :: .n zy :: .g zw :: .n wt :: .n wu :: .g wv :: .s y1 :: .i ys :: .i qaj :: .i qh6 :: .b qh1 :: .b qh5 :: .o qh0 :: .o qh3 :: .o qh4 :: [] => gbars_may_l0 wb q7 fuel (fun qto qd9 qd7 qd5 qdc qdd qc7 ql3 ql5 qlw qyk qw0 qwj qwv qx4 qx3 qee qef qed qeg qhn qhq qhm qhl qho => K (Ex.ret) (Xbars_may_0_0 qto qd9 qd7 qd5 qdc qdd qc7 ql3 ql5 qlw qyk qw0 qwj qwv qx4 qx3 qee qef qed qeg qhn qhq qhm qhl qho)) (fun qb7 qcb qb3 qap qao qan qlz qhk qlx qxi qyl qwx qw1 qwq qyw => K (Ex.exit 0) (Xbars_may_0_1 qb7 qcb qb3 qap qao qan qlz qhk qlx qxi qyl qwx qw1 qwq qyw)) qc3 qda z5 u18 zx zy zw wt wu wv y1 ys qaj qh6 qh1 qh5 qh0 qh3 qh4 fuel u19
  | _ => none
noncomputable def Lbars_may (wb q7 : Mo) (fuel : Nat) : Lam AV := [(536346768,lam Tbars_may_0 (Fbars_may_0 wb q7 fuel))]
noncomputable def Gbars_may (wb q7 : Mo) : Gam := [(58,smM [RS.one LK.b] wb),(59,smM [RS.one LK.b] q7),(55,Go.Am.sBits)]
theorem gbars_may_l0_eq (wb q7 : Mo) (fuel : Nat) (kn : St → Option AV) (K : Ex → St → Option AV) (qc3 qda : Nat) (z5 : Ge) (u18 : Int) (zx zy : Nat) (zw : Ge) (wt wu : Nat) (wv : Ge) (y1 : ByteArray) (ys qaj qh6 : Int) (qh1 qh5 : Bool) (qh0 qh3 qh4 : Option Nat) (qpn u19 : Int) :
    bX Pr (Gbars_may wb q7) (Lbars_may wb q7 fuel) 6 37 0 fuel (Sbars_may_0 qc3 qda z5 u18 u19 zx zy zw wt wu wv y1 ys qaj qh6 qh1 qh5 qh0 qh3 qh4) (fun e s => match e with | .normal => kn (hX Pr 37 0 (Sbars_may_0 qc3 qda z5 u18 qpn zx zy zw wt wu wv y1 ys qaj qh6 qh1 qh5 qh0 qh3 qh4) s) | e => K e s) =
    gbars_may_l0_step wb q7 fuel (fun u19 => kn (Sbars_may_0 qc3 qda z5 u18 u19 zx zy zw wt wu wv y1 ys qaj qh6 qh1 qh5 qh0 qh3 qh4)) (fun xu4 vb ve vd wg wh wf qbl p3 qc6 xh1_3 xh1_4 xh1_5 xh1_6 xh1_7 xh1_8 yt yo yr yq pb pa pc y9 pe => K (Ex.ret) (Xbars_may_0_0 xu4 vb ve vd wg wh wf qbl p3 qc6 xh1_3 xh1_4 xh1_5 xh1_6 xh1_7 xh1_8 yt yo yr yq pb pa pc y9 pe)) (fun vb ve vd wg wh wf qbl p3 qc6 xh1_3 xh1_4 xh1_5 xh1_6 xh1_7 xh1_8 => K (Ex.exit 0) (Xbars_may_0_1 vb ve vd wg wh wf qbl p3 qc6 xh1_3 xh1_4 xh1_5 xh1_6 xh1_7 xh1_8)) qc3 qda z5 u18 zx zy zw wt wu wv y1 ys qaj qh6 qh1 qh5 qh0 qh3 qh4 u19 := by kernel_rfl
theorem gbars_may_l0_ok (wb q7 : Mo) (fuel : Nat) (K : Ex → St → Option AV) (qc3 qda : Nat) (z5 : Ge) (u18 : Int) (zx zy : Nat) (zw : Ge) (wt wu : Nat) (wv : Ge) (y1 : ByteArray) (ys qaj qh6 : Int) (qh1 qh5 : Bool) (qh0 qh3 qh4 : Option Nat) (qpn : Int) : ∀ (n' : Nat) (u19 : Int),
    loopK (bX Pr (Gbars_may wb q7) (Lbars_may wb q7 fuel) 6 37 0 fuel) (hX Pr 37 0 (Sbars_may_0 qc3 qda z5 u18 qpn zx zy zw wt wu wv y1 ys qaj qh6 qh1 qh5 qh0 qh3 qh4)) n' (Sbars_may_0 qc3 qda z5 u18 u19 zx zy zw wt wu wv y1 ys qaj qh6 qh1 qh5 qh0 qh3 qh4) K = gbars_may_l0 wb q7 fuel (fun xu4 vb ve vd wg wh wf qbl p3 qc6 xh1_3 xh1_4 xh1_5 xh1_6 xh1_7 xh1_8 yt yo yr yq pb pa pc y9 pe => K (Ex.ret) (Xbars_may_0_0 xu4 vb ve vd wg wh wf qbl p3 qc6 xh1_3 xh1_4 xh1_5 xh1_6 xh1_7 xh1_8 yt yo yr yq pb pa pc y9 pe)) (fun vb ve vd wg wh wf qbl p3 qc6 xh1_3 xh1_4 xh1_5 xh1_6 xh1_7 xh1_8 => K (Ex.exit 0) (Xbars_may_0_1 vb ve vd wg wh wf qbl p3 qc6 xh1_3 xh1_4 xh1_5 xh1_6 xh1_7 xh1_8)) qc3 qda z5 u18 zx zy zw wt wu wv y1 ys qaj qh6 qh1 qh5 qh0 qh3 qh4 n' u19
  | 0,_ => rfl
  | n' + 1,u19 => (gbars_may_l0_eq wb q7 fuel (fun s => loopK (bX Pr (Gbars_may wb q7) (Lbars_may wb q7 fuel) 6 37 0 fuel) (hX Pr 37 0 (Sbars_may_0 qc3 qda z5 u18 qpn zx zy zw wt wu wv y1 ys qaj qh6 qh1 qh5 qh0 qh3 qh4)) n' s K) K qc3 qda z5 u18 zx zy zw wt wu wv y1 ys qaj qh6 qh1 qh5 qh0 qh3 qh4 qpn u19).trans
    (congrArg (fun kn => gbars_may_l0_step wb q7 fuel kn _ _ qc3 qda z5 u18 zx zy zw wt wu wv y1 ys qaj qh6 qh1 qh5 qh0 qh3 qh4 u19) (funext fun u19 => gbars_may_l0_ok wb q7 fuel K qc3 qda z5 u18 zx zy zw wt wu wv y1 ys qaj qh6 qh1 qh5 qh0 qh3 qh4 qpn n' u19))
theorem gbars_may_L0 (wb q7 : Mo) (fuel : Nat) : LX Pr (Gbars_may wb q7) (Lbars_may wb q7 fuel) 6 37 0 fuel := by
  refine .of Tbars_may_0 (Fbars_may_0 wb q7 fuel) (fun L h => ?_) (fun ps st K r he hr => ?_)
  · have e : (Lbars_may wb q7 fuel).get (writes (lp Pr 37 0).1) = some (lam Tbars_may_0 (Fbars_may_0 wb q7 fuel)) := by kernel_rfl
    exact (Option.some.inj (e.symm.trans h)).symm
  · unfold Fbars_may_0 at hr
    split at hr
    · obtain rfl := (Option.some.inj he).symm
      exact (gbars_may_l0_ok wb q7 fuel K _ _ _ _ _ _ _ _ _ _ _ _ _ _ _ _ _ _ _ _ fuel _).trans hr
    · cases hr
noncomputable def gbars_may (wb q7 : Mo) (fuel vw y5 : Nat) (zh : Ge) (v9 yn : Nat) (z1 : Ge) (at1 : Int) : Option AV :=
  ck (decide (0 ≤ at1)) <| ck (decide (at1 < (↑v9 : Int))) <| ck (fitKs [LK.s,LK.i .u8,LK.i .i64,LK.i .i64,LK.b,LK.b,LK.f .f64,LK.f .f64,LK.f .f64] [z1 at1.toNat 0,z1 at1.toNat 1,z1 at1.toNat 2,z1 at1.toNat 3,z1 at1.toNat 4,z1 at1.toNat 5,z1 at1.toNat 6,z1 at1.toNat 7,z1 at1.toNat 8]) <| ck (decide (0 ≤ at1)) <| ck (decide (at1 ≤ (↑yn : Int))) <| gbars_may_l0 wb q7 fuel
    (fun (xu4 : Bool) (_ _ : Nat) (_ : Ge) (_ _ : Nat) (_ : Ge) (_ : ByteArray) (_ _ _ : Int) (_ _ : Bool) (_ _ _ : Option Nat) (_ : ByteArray) (_ _ _ : Int) (_ _ : Bool) (_ _ _ : Option Nat) => some (AV.bool xu4))
    (fun (qa8 _ : Nat) (_ : Ge) (_ _ : Nat) (_ : Ge) (qa3 : ByteArray) (qg8 pl qbo : Int) (qq9 qwy : Bool) (qq8 q0w qra : Option Nat) => ck (okM [RS.one LK.b] (wb [AV.str qa3])) <| ck (bif !!toB (getV (wb [AV.str qa3])) then true else true) <| ck (bif !bif !toB (getV (wb [AV.str qa3])) then true else decide (pl < 0) then true else true) <| ck (bif !bif bif !toB (getV (wb [AV.str qa3])) then true else decide (pl < 0) then true else decide (pl ≥ (↑qa8 : Int)) then true else true) <| ck (bif !bif bif bif !toB (getV (wb [AV.str qa3])) then true else decide (pl < 0) then true else decide (pl ≥ (↑qa8 : Int)) then true else decide (qbo < 0) then true else true) <| ck (bif !bif bif bif bif !toB (getV (wb [AV.str qa3])) then true else decide (pl < 0) then true else decide (pl ≥ (↑qa8 : Int)) then true else decide (qbo < 0) then true else decide (qbo ≥ (↑qa8 : Int)) then true else true) <| ck (bif !bif bif bif bif !toB (getV (wb [AV.str qa3])) then true else decide (pl < 0) then true else decide (pl ≥ (↑qa8 : Int)) then true else decide (qbo < 0) then true else decide (qbo ≥ (↑qa8 : Int)) then true else true) <| ck (bif !bif bif bif bif bif !toB (getV (wb [AV.str qa3])) then true else decide (pl < 0) then true else decide (pl ≥ (↑qa8 : Int)) then true else decide (qbo < 0) then true else decide (qbo ≥ (↑qa8 : Int)) then true else pl == qbo then true else true) <| ck (bif !bif bif bif bif bif !toB (getV (wb [AV.str qa3])) then true else decide (pl < 0) then true else decide (pl ≥ (↑qa8 : Int)) then true else decide (qbo < 0) then true else decide (qbo ≥ (↑qa8 : Int)) then true else pl == qbo then okM [RS.one LK.b] (q7 [AV.flt .f64 qq8]) else true) <| ck (bif !bif bif bif bif bif bif !toB (getV (wb [AV.str qa3])) then true else decide (pl < 0) then true else decide (pl ≥ (↑qa8 : Int)) then true else decide (qbo < 0) then true else decide (qbo ≥ (↑qa8 : Int)) then true else pl == qbo then true else !toB (getV (q7 [AV.flt .f64 qq8])) then true else true) <| ck (bif !bif bif bif bif bif bif !toB (getV (wb [AV.str qa3])) then true else decide (pl < 0) then true else decide (pl ≥ (↑qa8 : Int)) then true else decide (qbo < 0) then true else decide (qbo ≥ (↑qa8 : Int)) then true else pl == qbo then true else !toB (getV (q7 [AV.flt .f64 qq8])) then okM [RS.one LK.b] (q7 [AV.flt .f64 q0w]) else true) <| bif bif bif bif bif bif bif bif !toB (getV (wb [AV.str qa3])) then true else decide (pl < 0) then true else decide (pl ≥ (↑qa8 : Int)) then true else decide (qbo < 0) then true else decide (qbo ≥ (↑qa8 : Int)) then true else pl == qbo then true else !toB (getV (q7 [AV.flt .f64 qq8])) then true else !toB (getV (q7 [AV.flt .f64 q0w])) then some (AV.bool false)
      else bif qg8 == 1 then ck (bif !qq9 then true else true) <| ck (bif bif !qq9 then !qwy else false then true else true) <| ck (bif bif !qq9 then !qwy else false then sBits.ok [AV.flt .f64 qra] else true) <| some (AV.bool (bif bif !qq9 then !qwy else false then (↑(qra.getD 0) : Int) == 0 else false))
      else bif qg8 == 2 then ck (okM [RS.one LK.b] (q7 [AV.flt .f64 qra])) <| some (AV.bool (toB (getV (q7 [AV.flt .f64 qra]))))
      else some (AV.bool false))
    (at1.toNat - 0)
    (yn - 0)
    (fun (i : Nat) => z1 (0 + i))
    ((↑(at1.toNat - 0) : Int))
    vw
    y5
    zh
    v9
    yn
    z1
    (toS (z1 at1.toNat 0))
    (toI (z1 at1.toNat 1))
    (toI (z1 at1.toNat 2))
    (toI (z1 at1.toNat 3))
    (toB (z1 at1.toNat 4))
    (toB (z1 at1.toNat 5))
    (toF (z1 at1.toNat 6))
    (toF (z1 at1.toNat 7))
    (toF (z1 at1.toNat 8)) fuel (0)
noncomputable def mbars_may (wb q7 : Mo) (fuel : Nat) (xs : List AV) : Option AV := match xs with
  | [AV.agg [AV.ro 4 vw y5 zh,AV.ro 9 v9 yn z1],AV.int .i64 at1] => gbars_may wb q7 fuel vw y5 zh v9 yn z1 at1
  | _ => none
abbrev Rbars_may : List RS := [RS.one LK.b]
theorem gbars_may_sm (wb q7 : Mo) (fuel : Nat) (hΓ : GamOk Pr (Gbars_may wb q7)) (hP : NamesOk Pr) : SmOk Pr 37 (smM Rbars_may (mbars_may wb q7 fuel)) := smL (L := (Lbars_may wb q7 fuel)) (n := 1) hΓ hP (by kernel_rfl) (fun i hi => match i,hi with
  | 0,_ => gbars_may_L0 wb q7 fuel
  | i + 1,hi => absurd hi (by omega)) fun xs v h => by
  unfold mbars_may at h
  split at h
  · exact Eq.trans (by kernel_rfl) h
  · cases h
noncomputable def Sbars_Check_0 (u25 u26 : Int) (zx zy : Nat) (zw : Ge) (wt wu : Nat) (wv : Ge) : St := { env := [(1,AV.ptr 0 0),(25,AV.int .i64 u25),(26,AV.int .i64 u26)],h := [Blk.box [AV.ro 4 zx zy zw,AV.ro 9 wt wu wv]],kd := [] }
noncomputable def Xbars_Check_0_0 (qa6 qsp : Int) (qd9 qd7 : Nat) (qd5 : Ge) (qdc qdd : Nat) (qc7 : Ge) : St := { env := [(2,AV.int .i64 qa6),(3,AV.int .i64 qsp)],h := [Blk.box [AV.ro 4 qd9 qd7 qd5,AV.ro 9 qdc qdd qc7]],kd := [] }
noncomputable def Xbars_Check_0_1 (qb7 qcb : Nat) (qb3 : Ge) (qap qao : Nat) (qan : Ge) : St := { env := [],h := [Blk.box [AV.ro 4 qb7 qcb qb3,AV.ro 9 qap qao qan]],kd := [] }
noncomputable def gbars_Check_l0_step (wa w3 : Mo) (fuel : Nat) (kn : Int → Option AV) (kx0 : Int → Int → Nat → Nat → Ge → Nat → Nat → Ge → Option AV) (kx1 : Nat → Nat → Ge → Nat → Nat → Ge → Option AV) (u25 : Int) (zx zy : Nat) (zw : Ge) (wt wu : Nat) (wv : Ge) (u26 : Int) : Option AV :=
  bif decide (u26 < u25) then ck (okM [RS.one LK.b] (w3 [AV.agg [AV.ro 4 zx zy zw,AV.ro 9 wt wu wv],AV.int .i64 u26])) <| bif !toB (getV (w3 [AV.agg [AV.ro 4 zx zy zw,AV.ro 9 wt wu wv],AV.int .i64 u26])) then kx0 (290) u26 zx zy zw wt wu wv
    else kn (IntKind.i64.wrap (u26 + 1))
  else kx1 zx zy zw wt wu wv
noncomputable def gbars_Check_l0 (wa w3 : Mo) (fuel : Nat) (kx0 : Int → Int → Nat → Nat → Ge → Nat → Nat → Ge → Option AV) (kx1 : Nat → Nat → Ge → Nat → Nat → Ge → Option AV) (u25 : Int) (zx zy : Nat) (zw : Ge) (wt wu : Nat) (wv : Ge) : Nat → Int → Option AV
  | 0,_ => none
  | n' + 1,u26 => gbars_Check_l0_step wa w3 fuel (gbars_Check_l0 wa w3 fuel kx0 kx1 u25 zx zy zw wt wu wv n') kx0 kx1 u25 zx zy zw wt wu wv u26
noncomputable def Tbars_Check_0 : TS' := ⟨[(1,TA.ptr 0 0),(25,TA.i .i64),(26,TA.i .i64)],[TB.box [TA.ro 4,TA.ro 9]],[]⟩
noncomputable def Fbars_Check_0 (wa w3 : Mo) (fuel : Nat) (ps : List Pay) (K : Ex → St → Option AV) : Option AV := match ps with
  | .i u25 :: .i u26 :: .n zx :: .n zy :: .g zw :: .n wt :: .n wu :: .g wv :: [] => gbars_Check_l0 wa w3 fuel (fun qa6 qsp qd9 qd7 qd5 qdc qdd qc7 => K (Ex.ret) (Xbars_Check_0_0 qa6 qsp qd9 qd7 qd5 qdc qdd qc7)) (fun qb7 qcb qb3 qap qao qan => K (Ex.exit 1) (Xbars_Check_0_1 qb7 qcb qb3 qap qao qan)) u25 zx zy zw wt wu wv fuel u26
  | _ => none
noncomputable def Lbars_Check (wa w3 : Mo) (fuel : Nat) : Lam AV := [(34292629580,lam Tbars_Check_0 (Fbars_Check_0 wa w3 fuel))]
noncomputable def Gbars_Check (wa w3 : Mo) : Gam := [(36,smM [RS.one (LK.i .i64),RS.one (LK.i .i64)] wa),(37,smM [RS.one LK.b] w3)]
theorem gbars_Check_l0_eq (wa w3 : Mo) (fuel : Nat) (kn : St → Option AV) (K : Ex → St → Option AV) (u25 : Int) (zx zy : Nat) (zw : Ge) (wt wu : Nat) (wv : Ge) (q06 u26 : Int) :
    bX Pr (Gbars_Check wa w3) (Lbars_Check wa w3 fuel) 6 19 0 fuel (Sbars_Check_0 u25 u26 zx zy zw wt wu wv) (fun e s => match e with | .normal => kn (hX Pr 19 0 (Sbars_Check_0 u25 q06 zx zy zw wt wu wv) s) | e => K e s) =
    gbars_Check_l0_step wa w3 fuel (fun u26 => kn (Sbars_Check_0 u25 u26 zx zy zw wt wu wv)) (fun xu2 xu3 vb ve vd wg wh wf => K (Ex.ret) (Xbars_Check_0_0 xu2 xu3 vb ve vd wg wh wf)) (fun vb ve vd wg wh wf => K (Ex.exit 1) (Xbars_Check_0_1 vb ve vd wg wh wf)) u25 zx zy zw wt wu wv u26 := by kernel_rfl
theorem gbars_Check_l0_ok (wa w3 : Mo) (fuel : Nat) (K : Ex → St → Option AV) (u25 : Int) (zx zy : Nat) (zw : Ge) (wt wu : Nat) (wv : Ge) (q06 : Int) : ∀ (n' : Nat) (u26 : Int),
    loopK (bX Pr (Gbars_Check wa w3) (Lbars_Check wa w3 fuel) 6 19 0 fuel) (hX Pr 19 0 (Sbars_Check_0 u25 q06 zx zy zw wt wu wv)) n' (Sbars_Check_0 u25 u26 zx zy zw wt wu wv) K = gbars_Check_l0 wa w3 fuel (fun xu2 xu3 vb ve vd wg wh wf => K (Ex.ret) (Xbars_Check_0_0 xu2 xu3 vb ve vd wg wh wf)) (fun vb ve vd wg wh wf => K (Ex.exit 1) (Xbars_Check_0_1 vb ve vd wg wh wf)) u25 zx zy zw wt wu wv n' u26
  | 0,_ => rfl
  | n' + 1,u26 => (gbars_Check_l0_eq wa w3 fuel (fun s => loopK (bX Pr (Gbars_Check wa w3) (Lbars_Check wa w3 fuel) 6 19 0 fuel) (hX Pr 19 0 (Sbars_Check_0 u25 q06 zx zy zw wt wu wv)) n' s K) K u25 zx zy zw wt wu wv q06 u26).trans
    (congrArg (fun kn => gbars_Check_l0_step wa w3 fuel kn _ _ u25 zx zy zw wt wu wv u26) (funext fun u26 => gbars_Check_l0_ok wa w3 fuel K u25 zx zy zw wt wu wv q06 n' u26))
theorem gbars_Check_L0 (wa w3 : Mo) (fuel : Nat) : LX Pr (Gbars_Check wa w3) (Lbars_Check wa w3 fuel) 6 19 0 fuel := by
  refine .of Tbars_Check_0 (Fbars_Check_0 wa w3 fuel) (fun L h => ?_) (fun ps st K r he hr => ?_)
  · have e : (Lbars_Check wa w3 fuel).get (writes (lp Pr 19 0).1) = some (lam Tbars_Check_0 (Fbars_Check_0 wa w3 fuel)) := by kernel_rfl
    exact (Option.some.inj (e.symm.trans h)).symm
  · unfold Fbars_Check_0 at hr
    split at hr
    · obtain rfl := (Option.some.inj he).symm
      exact (gbars_Check_l0_ok wa w3 fuel K _ _ _ _ _ _ _ _ fuel _).trans hr
    · cases hr
noncomputable def gbars_Check (wa w3 : Mo) (fuel vw y5 : Nat) (zh : Ge) (v9 yn : Nat) (z1 : Ge) : Option AV :=
  let r0 : Option AV := wa [AV.ro 4 vw y5 zh]; ck (okM [RS.one (LK.i .i64),RS.one (LK.i .i64)] r0) <| bif toI ((toT (getV r0)).headD .dead) != 0 then some (AV.tup [AV.int .i64 (toI ((toT (getV r0)).headD .dead)),AV.int .i64 (toI ((toT (getV r0)).tail.headD .dead))])
  else bif decide ((↑v9 : Int) > 48) then some (AV.tup [AV.int .i64 3,AV.int .i64 0])
  else gbars_Check_l0 wa w3 fuel
    (fun (xu2 xu3 : Int) (_ _ : Nat) (_ : Ge) (_ _ : Nat) (_ : Ge) => some (AV.tup [AV.int .i64 xu2,AV.int .i64 xu3]))
    (fun (_ _ : Nat) (_ : Ge) (_ _ : Nat) (_ : Ge) => some (AV.tup [AV.int .i64 0,AV.int .i64 0]))
    ((↑v9 : Int))
    vw
    y5
    zh
    v9
    yn
    z1 fuel (0)
noncomputable def mbars_Check (wa w3 : Mo) (fuel : Nat) (xs : List AV) : Option AV := match xs with
  | [AV.agg [AV.ro 4 vw y5 zh,AV.ro 9 v9 yn z1]] => gbars_Check wa w3 fuel vw y5 zh v9 yn z1
  | _ => none
abbrev Rbars_Check : List RS := [RS.one (LK.i .i64),RS.one (LK.i .i64)]
theorem gbars_Check_sm (wa w3 : Mo) (fuel : Nat) (hΓ : GamOk Pr (Gbars_Check wa w3)) (hP : NamesOk Pr) : SmOk Pr 19 (smM Rbars_Check (mbars_Check wa w3 fuel)) := smL (L := (Lbars_Check wa w3 fuel)) (n := 1) hΓ hP (by kernel_rfl) (fun i hi => match i,hi with
  | 0,_ => gbars_Check_L0 wa w3 fuel
  | i + 1,hi => absurd hi (by omega)) fun xs v h => by
  unfold mbars_Check at h
  split at h
  · exact Eq.trans (by kernel_rfl) h
  · cases h
noncomputable def Gjoints_Apart (qy : Mo) : Gam := [(57,smM [RS.one LK.b] qy)]
noncomputable def gjoints_Apart (qy : Mo) (fuel : Nat) (z3 : ByteArray) (vt qhb qju : Int) (z4 : ByteArray) (z6 qg9 qjx : Int) : Option AV :=
  ck (okM [RS.one LK.b] (qy [AV.ro 1 4 4 fun (i j : Nat) => ([[AV.int .i32 vt],[AV.int .i32 qhb],[AV.int .i32 z6],[AV.int .i32 qg9]].getD i []).getD j AV.dead])) <| bif !toB (getV (qy [AV.ro 1 4 4 fun (i j : Nat) => ([[AV.int .i32 vt],[AV.int .i32 qhb],[AV.int .i32 z6],[AV.int .i32 qg9]].getD i []).getD j AV.dead])) then some (AV.tup [AV.int .i64 0,AV.int .i64 0,AV.int .i64 0])
  else some (AV.tup [AV.int .i64 (IntKind.i64.wrap (IntKind.i32.wrap (z6 - vt))),AV.int .i64 (IntKind.i64.wrap (IntKind.i32.wrap (qg9 - qhb))),AV.int .i64 (IntKind.i64.wrap (IntKind.i64.wrap (IntKind.i64.wrap (IntKind.i32.wrap (z6 - vt)) * IntKind.i64.wrap (IntKind.i32.wrap (z6 - vt))) + IntKind.i64.wrap (IntKind.i64.wrap (IntKind.i32.wrap (qg9 - qhb)) * IntKind.i64.wrap (IntKind.i32.wrap (qg9 - qhb)))))])
noncomputable def mjoints_Apart (qy : Mo) (fuel : Nat) (xs : List AV) : Option AV := match xs with
  | [AV.agg [AV.str z3,AV.int .i32 vt,AV.int .i32 qhb,AV.int .u8 qju],AV.agg [AV.str z4,AV.int .i32 z6,AV.int .i32 qg9,AV.int .u8 qjx]] => gjoints_Apart qy fuel z3 vt qhb qju z4 z6 qg9 qjx
  | _ => none
abbrev Rjoints_Apart : List RS := [RS.one (LK.i .i64),RS.one (LK.i .i64),RS.one (LK.i .i64)]
theorem gjoints_Apart_sm (qy : Mo) (fuel : Nat) (hΓ : GamOk Pr (Gjoints_Apart qy)) (hP : NamesOk Pr) : SmOk Pr 38 (smM Rjoints_Apart (mjoints_Apart qy fuel)) := sm0 (fuel := fuel) (d := 7) hΓ hP fun xs v h => by
  unfold mjoints_Apart at h
  split at h
  · exact Eq.trans (by kernel_rfl) h
  · cases h
noncomputable def Ground_way : Gam := []
noncomputable def ground_way (fuel : Nat) (um0 : Int) : Option AV :=
  bif bif decide (um0 < 0) then true else decide (um0 > 3) then some (AV.int .i8 0)
  else some (AV.int .i8 um0)
noncomputable def mround_way (fuel : Nat) (xs : List AV) : Option AV := match xs with
  | [AV.int .i8 um0] => ground_way fuel um0
  | _ => none
abbrev Rround_way : List RS := [RS.one (LK.i .i8)]
theorem ground_way_sm (fuel : Nat) (hΓ : GamOk Pr Ground_way) (hP : NamesOk Pr) : SmOk Pr 70 (smM Rround_way (mround_way fuel)) := sm0 (fuel := fuel) (d := 7) hΓ hP fun xs v h => by
  unfold mround_way at h
  split at h
  · exact Eq.trans (by kernel_rfl) h
  · cases h
noncomputable def Gmath_Sqrt : Gam := [(88,Go.Am.sSqrt)]
noncomputable def gmath_Sqrt (fuel : Nat) (ux0 : Option Nat) : Option AV :=
  ck (sSqrt.ok [AV.flt .f64 ux0]) <| some (AV.flt .f64 (ux0.bind fun (x : Nat) => FloatKind.f64.format.sqrt x))
noncomputable def mmath_Sqrt (fuel : Nat) (xs : List AV) : Option AV := match xs with
  | [AV.flt .f64 ux0] => gmath_Sqrt fuel ux0
  | _ => none
abbrev Rmath_Sqrt : List RS := [RS.one (LK.f .f64)]
theorem gmath_Sqrt_sm (fuel : Nat) (hΓ : GamOk Pr Gmath_Sqrt) (hP : NamesOk Pr) : SmOk Pr 71 (smM Rmath_Sqrt (mmath_Sqrt fuel)) := sm0 (fuel := fuel) (d := 7) hΓ hP fun xs v h => by
  unfold mmath_Sqrt at h
  split at h
  · exact Eq.trans (by kernel_rfl) h
  · cases h
noncomputable def Gmath_IsNaN : Gam := []
noncomputable def gmath_IsNaN (fuel : Nat) (uf0 : Option Nat) : Option AV :=
  some (AV.bool (ford .f64 uf0 uf0 != some Ordering.eq))
noncomputable def mmath_IsNaN (fuel : Nat) (xs : List AV) : Option AV := match xs with
  | [AV.flt .f64 uf0] => gmath_IsNaN fuel uf0
  | _ => none
abbrev Rmath_IsNaN : List RS := [RS.one LK.b]
theorem gmath_IsNaN_sm (fuel : Nat) (hΓ : GamOk Pr Gmath_IsNaN) (hP : NamesOk Pr) : SmOk Pr 89 (smM Rmath_IsNaN (mmath_IsNaN fuel)) := sm0 (fuel := fuel) (d := 7) hΓ hP fun xs v h => by
  unfold mmath_IsNaN at h
  split at h
  · exact Eq.trans (by kernel_rfl) h
  · cases h
noncomputable def Gmath_Abs : Gam := [(55,Go.Am.sBits),(101,Go.Am.sFrom)]
noncomputable def gmath_Abs (fuel : Nat) (ux0 : Option Nat) : Option AV :=
  ck (sBits.ok [AV.flt .f64 ux0]) <| ck (sFrom.ok [AV.int .u64 (IntKind.u64.wrap (↑(BitVec.ofInt 64 (↑(ux0.getD 0) : Int) &&& ~~~BitVec.ofInt 64 9223372036854775808).toNat : Int))]) <| some (AV.flt .f64 (some (IntKind.u64.wrap (↑(BitVec.ofInt 64 (↑(ux0.getD 0) : Int) &&& ~~~BitVec.ofInt 64 9223372036854775808).toNat : Int)).toNat))
noncomputable def mmath_Abs (fuel : Nat) (xs : List AV) : Option AV := match xs with
  | [AV.flt .f64 ux0] => gmath_Abs fuel ux0
  | _ => none
abbrev Rmath_Abs : List RS := [RS.one (LK.f .f64)]
theorem gmath_Abs_sm (fuel : Nat) (hΓ : GamOk Pr Gmath_Abs) (hP : NamesOk Pr) : SmOk Pr 100 (smM Rmath_Abs (mmath_Abs fuel)) := sm0 (fuel := fuel) (d := 7) hΓ hP fun xs v h => by
  unfold mmath_Abs at h
  split at h
  · exact Eq.trans (by kernel_rfl) h
  · cases h
noncomputable def Gmath_IsInf (zg : Mo) : Gam := [(100,smM [RS.one (LK.f .f64)] zg)]
noncomputable def gmath_IsInf (zg : Mo) (fuel : Nat) (uf0 : Option Nat) (qhi : Int) : Option AV :=
  bif qhi == 0 then ck (okM [RS.one (LK.f .f64)] (zg [AV.flt .f64 uf0])) <| some (AV.bool (ford .f64 (toF (getV (zg [AV.flt .f64 uf0]))) (some 9218868437227405311) == some Ordering.gt))
  else bif decide (qhi < 0) then some (AV.bool (ford .f64 (Option.map (Op.negFloat .f64) uf0) (some 9218868437227405311) == some Ordering.gt))
  else some (AV.bool (ford .f64 uf0 (some 9218868437227405311) == some Ordering.gt))
noncomputable def mmath_IsInf (zg : Mo) (fuel : Nat) (xs : List AV) : Option AV := match xs with
  | [AV.flt .f64 uf0,AV.int .i64 qhi] => gmath_IsInf zg fuel uf0 qhi
  | _ => none
abbrev Rmath_IsInf : List RS := [RS.one LK.b]
theorem gmath_IsInf_sm (zg : Mo) (fuel : Nat) (hΓ : GamOk Pr (Gmath_IsInf zg)) (hP : NamesOk Pr) : SmOk Pr 90 (smM Rmath_IsInf (mmath_IsInf zg fuel)) := sm0 (fuel := fuel) (d := 7) hΓ hP fun xs v h => by
  unfold mmath_IsInf at h
  split at h
  · exact Eq.trans (by kernel_rfl) h
  · cases h
end Go.Proofs.Tryz
end
section
namespace Go.Proofs.Tryz
open Go Go.Am
set_option linter.unusedVariables false
set_option maxRecDepth 1000000
noncomputable def Sround_finite_0 (u5n u5r : Nat) (u5g : Ge) (u6 u7 : Int) : St := { env := [(5,AV.ro 1 u5n u5r u5g),(6,AV.int .i64 u6),(7,AV.int .i64 u7)],h := [],kd := [] }
noncomputable def Xround_finite_0_0 (qa6 : Bool) : St := { env := [(2,AV.bool qa6)],h := [],kd := [] }
noncomputable def Xround_finite_0_1 : St := { env := [],h := [],kd := [] }
noncomputable def ground_finite_l0_step (wl qn : Mo) (fuel : Nat) (kn : Int → Option AV) (kx0 : Bool → Option AV) (kx1 : Option AV) (u5n u5r : Nat) (u5g : Ge) (u6 u7 : Int) : Option AV :=
  bif decide (u7 < u6) then ck (decide (0 ≤ u7)) <| ck (decide (u7 < (↑u5n : Int))) <| ck (fitK (LK.f .f64) (u5g u7.toNat 0)) <| ck (okM [RS.one LK.b] (wl [AV.flt .f64 (toF (u5g u7.toNat 0))])) <| ck (bif !toB (getV (wl [AV.flt .f64 (toF (u5g u7.toNat 0))])) then okM [RS.one LK.b] (qn [AV.flt .f64 (toF (u5g u7.toNat 0)),AV.int .i64 0]) else true) <| bif bif toB (getV (wl [AV.flt .f64 (toF (u5g u7.toNat 0))])) then true else toB (getV (qn [AV.flt .f64 (toF (u5g u7.toNat 0)),AV.int .i64 0])) then kx0 false
    else kn (IntKind.i64.wrap (u7 + 1))
  else kx1
noncomputable def ground_finite_l0 (wl qn : Mo) (fuel : Nat) (kx0 : Bool → Option AV) (kx1 : Option AV) (u5n u5r : Nat) (u5g : Ge) (u6 : Int) : Nat → Int → Option AV
  | 0,_ => none
  | n' + 1,u7 => ground_finite_l0_step wl qn fuel (ground_finite_l0 wl qn fuel kx0 kx1 u5n u5r u5g u6 n') kx0 kx1 u5n u5r u5g u6 u7
noncomputable def Tround_finite_0 : TS' := ⟨[(5,TA.ro 1),(6,TA.i .i64),(7,TA.i .i64)],[],[]⟩
noncomputable def Fround_finite_0 (wl qn : Mo) (fuel : Nat) (ps : List Pay) (K : Ex → St → Option AV) : Option AV := match ps with
  | .n u5n :: .n u5r :: .g u5g :: .i u6 :: .i u7 :: [] => ground_finite_l0 wl qn fuel (fun qa6 => K (Ex.ret) (Xround_finite_0_0 qa6)) (K (Ex.exit 0) Xround_finite_0_1) u5n u5r u5g u6 fuel u7
  | _ => none
noncomputable def Lround_finite (wl qn : Mo) (fuel : Nat) : Lam AV := [(262036,lam Tround_finite_0 (Fround_finite_0 wl qn fuel))]
noncomputable def Ground_finite (wl qn : Mo) : Gam := [(89,smM [RS.one LK.b] wl),(90,smM [RS.one LK.b] qn)]
theorem ground_finite_l0_eq (wl qn : Mo) (fuel : Nat) (kn : St → Option AV) (K : Ex → St → Option AV) (u5n u5r : Nat) (u5g : Ge) (u6 u70 u7 : Int) :
    bX Pr (Ground_finite wl qn) (Lround_finite wl qn fuel) 6 72 0 fuel (Sround_finite_0 u5n u5r u5g u6 u7) (fun e s => match e with | .normal => kn (hX Pr 72 0 (Sround_finite_0 u5n u5r u5g u6 u70) s) | e => K e s) =
    ground_finite_l0_step wl qn fuel (fun u7 => kn (Sround_finite_0 u5n u5r u5g u6 u7)) (fun xu2 => K (Ex.ret) (Xround_finite_0_0 xu2)) (K (Ex.exit 0) Xround_finite_0_1) u5n u5r u5g u6 u7 := by kernel_rfl
theorem ground_finite_l0_ok (wl qn : Mo) (fuel : Nat) (K : Ex → St → Option AV) (u5n u5r : Nat) (u5g : Ge) (u6 u70 : Int) : ∀ (n' : Nat) (u7 : Int),
    loopK (bX Pr (Ground_finite wl qn) (Lround_finite wl qn fuel) 6 72 0 fuel) (hX Pr 72 0 (Sround_finite_0 u5n u5r u5g u6 u70)) n' (Sround_finite_0 u5n u5r u5g u6 u7) K = ground_finite_l0 wl qn fuel (fun xu2 => K (Ex.ret) (Xround_finite_0_0 xu2)) (K (Ex.exit 0) Xround_finite_0_1) u5n u5r u5g u6 n' u7
  | 0,_ => rfl
  | n' + 1,u7 => (ground_finite_l0_eq wl qn fuel (fun s => loopK (bX Pr (Ground_finite wl qn) (Lround_finite wl qn fuel) 6 72 0 fuel) (hX Pr 72 0 (Sround_finite_0 u5n u5r u5g u6 u70)) n' s K) K u5n u5r u5g u6 u70 u7).trans
    (congrArg (fun kn => ground_finite_l0_step wl qn fuel kn _ _ u5n u5r u5g u6 u7) (funext fun u7 => ground_finite_l0_ok wl qn fuel K u5n u5r u5g u6 u70 n' u7))
theorem ground_finite_L0 (wl qn : Mo) (fuel : Nat) : LX Pr (Ground_finite wl qn) (Lround_finite wl qn fuel) 6 72 0 fuel := by
  refine .of Tround_finite_0 (Fround_finite_0 wl qn fuel) (fun L h => ?_) (fun ps st K r he hr => ?_)
  · have e : (Lround_finite wl qn fuel).get (writes (lp Pr 72 0).1) = some (lam Tround_finite_0 (Fround_finite_0 wl qn fuel)) := by kernel_rfl
    exact (Option.some.inj (e.symm.trans h)).symm
  · unfold Fround_finite_0 at hr
    split at hr
    · obtain rfl := (Option.some.inj he).symm
      exact (ground_finite_l0_ok wl qn fuel K _ _ _ _ _ fuel _).trans hr
    · cases hr
noncomputable def ground_finite (wl qn : Mo) (fuel yp qai : Nat) (pn : Ge) : Option AV :=
  ground_finite_l0 wl qn fuel
    (fun (xu2 : Bool) => some (AV.bool xu2))
    (some (AV.bool true))
    yp
    qai
    pn
    ((↑yp : Int)) fuel (0)
noncomputable def mround_finite (wl qn : Mo) (fuel : Nat) (xs : List AV) : Option AV := match xs with
  | [AV.ro 1 yp qai pn] => ground_finite wl qn fuel yp qai pn
  | _ => none
abbrev Rround_finite : List RS := [RS.one LK.b]
theorem ground_finite_sm (wl qn : Mo) (fuel : Nat) (hΓ : GamOk Pr (Ground_finite wl qn)) (hP : NamesOk Pr) : SmOk Pr 72 (smM Rround_finite (mround_finite wl qn fuel)) := smL (L := (Lround_finite wl qn fuel)) (n := 1) hΓ hP (by kernel_rfl) (fun i hi => match i,hi with
  | 0,_ => ground_finite_L0 wl qn fuel
  | i + 1,hi => absurd hi (by omega)) fun xs v h => by
  unfold mround_finite at h
  split at h
  · exact Eq.trans (by kernel_rfl) h
  · cases h
noncomputable def Sround_plain_0 (u6n u6r : Nat) (u6g : Ge) (u7 u8 : Int) : St := { env := [(6,AV.ro 1 u6n u6r u6g),(7,AV.int .i64 u7),(8,AV.int .i64 u8)],h := [],kd := [] }
noncomputable def Xround_plain_0_0 (qa6 : Bool) : St := { env := [(2,AV.bool qa6)],h := [],kd := [] }
noncomputable def Xround_plain_0_1 : St := { env := [],h := [],kd := [] }
noncomputable def ground_plain_l0_step (fuel : Nat) (kn : Int → Option AV) (kx0 : Bool → Option AV) (kx1 : Option AV) (u6n u6r : Nat) (u6g : Ge) (u7 u8 : Int) : Option AV :=
  bif decide (u8 < u7) then ck (decide (0 ≤ u8)) <| ck (decide (u8 < (↑u6n : Int))) <| ck (fitK (LK.f .f64) (u6g u8.toNat 0)) <| ck (sBits.ok [AV.flt .f64 (toF (u6g u8.toNat 0))]) <| bif bif decide (IntKind.u64.wrap (↑(BitVec.ofInt 64 ((↑((toF (u6g u8.toNat 0)).getD 0) : Int).fdiv (2 ^ 52)) &&& BitVec.ofInt 64 2047).toNat : Int) < 200) then true else decide (IntKind.u64.wrap (↑(BitVec.ofInt 64 ((↑((toF (u6g u8.toNat 0)).getD 0) : Int).fdiv (2 ^ 52)) &&& BitVec.ofInt 64 2047).toNat : Int) > 1900) then kx0 false
    else kn (IntKind.i64.wrap (u8 + 1))
  else kx1
noncomputable def ground_plain_l0 (fuel : Nat) (kx0 : Bool → Option AV) (kx1 : Option AV) (u6n u6r : Nat) (u6g : Ge) (u7 : Int) : Nat → Int → Option AV
  | 0,_ => none
  | n' + 1,u8 => ground_plain_l0_step fuel (ground_plain_l0 fuel kx0 kx1 u6n u6r u6g u7 n') kx0 kx1 u6n u6r u6g u7 u8
noncomputable def Tround_plain_0 : TS' := ⟨[(6,TA.ro 1),(7,TA.i .i64),(8,TA.i .i64)],[],[]⟩
noncomputable def Fround_plain_0 (fuel : Nat) (ps : List Pay) (K : Ex → St → Option AV) : Option AV := match ps with
  | .n u6n :: .n u6r :: .g u6g :: .i u7 :: .i u8 :: [] => ground_plain_l0 fuel (fun qa6 => K (Ex.ret) (Xround_plain_0_0 qa6)) (K (Ex.exit 0) Xround_plain_0_1) u6n u6r u6g u7 fuel u8
  | _ => none
noncomputable def Lround_plain (fuel : Nat) : Lam AV := [(8388404,lam Tround_plain_0 (Fround_plain_0 fuel))]
noncomputable def Ground_plain : Gam := [(55,Go.Am.sBits)]
theorem ground_plain_l0_eq (fuel : Nat) (kn : St → Option AV) (K : Ex → St → Option AV) (u6n u6r : Nat) (u6g : Ge) (u7 u80 u8 : Int) :
    bX Pr Ground_plain (Lround_plain fuel) 6 73 0 fuel (Sround_plain_0 u6n u6r u6g u7 u8) (fun e s => match e with | .normal => kn (hX Pr 73 0 (Sround_plain_0 u6n u6r u6g u7 u80) s) | e => K e s) =
    ground_plain_l0_step fuel (fun u8 => kn (Sround_plain_0 u6n u6r u6g u7 u8)) (fun xu2 => K (Ex.ret) (Xround_plain_0_0 xu2)) (K (Ex.exit 0) Xround_plain_0_1) u6n u6r u6g u7 u8 := by kernel_rfl
theorem ground_plain_l0_ok (fuel : Nat) (K : Ex → St → Option AV) (u6n u6r : Nat) (u6g : Ge) (u7 u80 : Int) : ∀ (n' : Nat) (u8 : Int),
    loopK (bX Pr Ground_plain (Lround_plain fuel) 6 73 0 fuel) (hX Pr 73 0 (Sround_plain_0 u6n u6r u6g u7 u80)) n' (Sround_plain_0 u6n u6r u6g u7 u8) K = ground_plain_l0 fuel (fun xu2 => K (Ex.ret) (Xround_plain_0_0 xu2)) (K (Ex.exit 0) Xround_plain_0_1) u6n u6r u6g u7 n' u8
  | 0,_ => rfl
  | n' + 1,u8 => (ground_plain_l0_eq fuel (fun s => loopK (bX Pr Ground_plain (Lround_plain fuel) 6 73 0 fuel) (hX Pr 73 0 (Sround_plain_0 u6n u6r u6g u7 u80)) n' s K) K u6n u6r u6g u7 u80 u8).trans
    (congrArg (fun kn => ground_plain_l0_step fuel kn _ _ u6n u6r u6g u7 u8) (funext fun u8 => ground_plain_l0_ok fuel K u6n u6r u6g u7 u80 n' u8))
theorem ground_plain_L0 (fuel : Nat) : LX Pr Ground_plain (Lround_plain fuel) 6 73 0 fuel := by
  refine .of Tround_plain_0 (Fround_plain_0 fuel) (fun L h => ?_) (fun ps st K r he hr => ?_)
  · have e : (Lround_plain fuel).get (writes (lp Pr 73 0).1) = some (lam Tround_plain_0 (Fround_plain_0 fuel)) := by kernel_rfl
    exact (Option.some.inj (e.symm.trans h)).symm
  · unfold Fround_plain_0 at hr
    split at hr
    · obtain rfl := (Option.some.inj he).symm
      exact (ground_plain_l0_ok fuel K _ _ _ _ _ fuel _).trans hr
    · cases hr
noncomputable def ground_plain (fuel yp qai : Nat) (pn : Ge) : Option AV :=
  ground_plain_l0 fuel
    (fun (xu2 : Bool) => some (AV.bool xu2))
    (some (AV.bool true))
    yp
    qai
    pn
    ((↑yp : Int)) fuel (0)
noncomputable def mround_plain (fuel : Nat) (xs : List AV) : Option AV := match xs with
  | [AV.ro 1 yp qai pn] => ground_plain fuel yp qai pn
  | _ => none
abbrev Rround_plain : List RS := [RS.one LK.b]
theorem ground_plain_sm (fuel : Nat) (hΓ : GamOk Pr Ground_plain) (hP : NamesOk Pr) : SmOk Pr 73 (smM Rround_plain (mround_plain fuel)) := smL (L := (Lround_plain fuel)) (n := 1) hΓ hP (by kernel_rfl) (fun i hi => match i,hi with
  | 0,_ => ground_plain_L0 fuel
  | i + 1,hi => absurd hi (by omega)) fun xs v h => by
  unfold mround_plain at h
  split at h
  · exact Eq.trans (by kernel_rfl) h
  · cases h
noncomputable def Ground_sign : Gam := []
noncomputable def ground_sign (fuel : Nat) (ux0 : Option Nat) : Option AV :=
  bif ford .f64 ux0 (some 0) == some Ordering.gt then some (AV.int .i64 1)
  else bif ford .f64 ux0 (some 0) == some Ordering.lt then some (AV.int .i64 (-1))
  else some (AV.int .i64 0)
noncomputable def mround_sign (fuel : Nat) (xs : List AV) : Option AV := match xs with
  | [AV.flt .f64 ux0] => ground_sign fuel ux0
  | _ => none
abbrev Rround_sign : List RS := [RS.one (LK.i .i64)]
theorem ground_sign_sm (fuel : Nat) (hΓ : GamOk Pr Ground_sign) (hP : NamesOk Pr) : SmOk Pr 75 (smM Rround_sign (mround_sign fuel)) := sm0 (fuel := fuel) (d := 7) hΓ hP fun xs v h => by
  unfold mround_sign at h
  split at h
  · exact Eq.trans (by kernel_rfl) h
  · cases h
noncomputable def Gmath_Signbit : Gam := [(55,Go.Am.sBits)]
noncomputable def gmath_Signbit (fuel : Nat) (ux0 : Option Nat) : Option AV :=
  ck (sBits.ok [AV.flt .f64 ux0]) <| some (AV.bool (decide (IntKind.i64.wrap (↑(ux0.getD 0) : Int) < 0)))
noncomputable def mmath_Signbit (fuel : Nat) (xs : List AV) : Option AV := match xs with
  | [AV.flt .f64 ux0] => gmath_Signbit fuel ux0
  | _ => none
abbrev Rmath_Signbit : List RS := [RS.one LK.b]
theorem gmath_Signbit_sm (fuel : Nat) (hΓ : GamOk Pr Gmath_Signbit) (hP : NamesOk Pr) : SmOk Pr 91 (smM Rmath_Signbit (mmath_Signbit fuel)) := sm0 (fuel := fuel) (d := 7) hΓ hP fun xs v h => by
  unfold mmath_Signbit at h
  split at h
  · exact Eq.trans (by kernel_rfl) h
  · cases h
noncomputable def Gmath_Copysign : Gam := [(55,Go.Am.sBits),(101,Go.Am.sFrom)]
noncomputable def gmath_Copysign (fuel : Nat) (uf0 qhi : Option Nat) : Option AV :=
  ck (sBits.ok [AV.flt .f64 uf0]) <| ck (sBits.ok [AV.flt .f64 qhi]) <| ck (sFrom.ok [AV.int .u64 (IntKind.u64.wrap (↑(BitVec.ofInt 64 (IntKind.u64.wrap (↑(BitVec.ofInt 64 (↑(uf0.getD 0) : Int) &&& ~~~BitVec.ofInt 64 9223372036854775808).toNat : Int)) ||| BitVec.ofInt 64 (IntKind.u64.wrap (↑(BitVec.ofInt 64 (↑(qhi.getD 0) : Int) &&& BitVec.ofInt 64 9223372036854775808).toNat : Int))).toNat : Int))]) <| some (AV.flt .f64 (some (IntKind.u64.wrap (↑(BitVec.ofInt 64 (IntKind.u64.wrap (↑(BitVec.ofInt 64 (↑(uf0.getD 0) : Int) &&& ~~~BitVec.ofInt 64 9223372036854775808).toNat : Int)) ||| BitVec.ofInt 64 (IntKind.u64.wrap (↑(BitVec.ofInt 64 (↑(qhi.getD 0) : Int) &&& BitVec.ofInt 64 9223372036854775808).toNat : Int))).toNat : Int)).toNat))
noncomputable def mmath_Copysign (fuel : Nat) (xs : List AV) : Option AV := match xs with
  | [AV.flt .f64 uf0,AV.flt .f64 qhi] => gmath_Copysign fuel uf0 qhi
  | _ => none
abbrev Rmath_Copysign : List RS := [RS.one (LK.f .f64)]
theorem gmath_Copysign_sm (fuel : Nat) (hΓ : GamOk Pr Gmath_Copysign) (hP : NamesOk Pr) : SmOk Pr 92 (smM Rmath_Copysign (mmath_Copysign fuel)) := sm0 (fuel := fuel) (d := 7) hΓ hP fun xs v h => by
  unfold mmath_Copysign at h
  split at h
  · exact Eq.trans (by kernel_rfl) h
  · cases h
noncomputable def Ground_step : Gam := [(55,Go.Am.sBits),(101,Go.Am.sFrom)]
noncomputable def ground_step (fuel : Nat) (ux0 : Option Nat) (up1 : Bool) : Option AV :=
  ck (sBits.ok [AV.flt .f64 ux0]) <| bif ford .f64 ux0 (some 0) == some Ordering.eq then bif !up1 then ck (sFrom.ok [AV.int .u64 (IntKind.u64.wrap (↑9223372036854775809 : Int))]) <| some (AV.flt .f64 (some 9223372036854775809))
    else ck (sFrom.ok [AV.int .u64 1]) <| some (AV.flt .f64 (some 1))
  else bif up1 == (ford .f64 ux0 (some 0) == some Ordering.gt) then ck (sFrom.ok [AV.int .u64 (IntKind.u64.wrap ((↑(ux0.getD 0) : Int) + 1))]) <| some (AV.flt .f64 (some (IntKind.u64.wrap ((↑(ux0.getD 0) : Int) + 1)).toNat))
  else ck (sFrom.ok [AV.int .u64 (IntKind.u64.wrap ((↑(ux0.getD 0) : Int) - 1))]) <| some (AV.flt .f64 (some (IntKind.u64.wrap ((↑(ux0.getD 0) : Int) - 1)).toNat))
noncomputable def mround_step (fuel : Nat) (xs : List AV) : Option AV := match xs with
  | [AV.flt .f64 ux0,AV.bool up1] => ground_step fuel ux0 up1
  | _ => none
abbrev Rround_step : List RS := [RS.one (LK.f .f64)]
theorem ground_step_sm (fuel : Nat) (hΓ : GamOk Pr Ground_step) (hP : NamesOk Pr) : SmOk Pr 93 (smM Rround_step (mround_step fuel)) := sm0 (fuel := fuel) (d := 7) hΓ hP fun xs v h => by
  unfold mround_step at h
  split at h
  · exact Eq.trans (by kernel_rfl) h
  · cases h
noncomputable def Ground_settle (wn qn : Mo) (zi vu : Mo) : Gam := [(91,smM [RS.one LK.b] wn),(90,smM [RS.one LK.b] qn),(92,smM [RS.one (LK.f .f64)] zi),(93,smM [RS.one (LK.f .f64)] vu)]
noncomputable def ground_settle (wn qn : Mo) (zi vu : Mo) (fuel : Nat) (qa5 : Option Nat) (qkl um2 : Int) : Option AV :=
  bif um2 == 3 then ck (okM [RS.one LK.b] (wn [AV.flt .f64 qa5])) <| bif toB (getV (wn [AV.flt .f64 qa5])) then ck (okM [RS.one LK.b] (qn [AV.flt .f64 qa5,AV.int .i64 0])) <| bif toB (getV (qn [AV.flt .f64 qa5,AV.int .i64 0])) then bif bif bif ford .f64 qa5 (some 0) == some Ordering.gt then false else false then true else bif ford .f64 qa5 (some 0) == some Ordering.lt then true else false then ck (okM [RS.one (LK.f .f64)] (zi [AV.flt .f64 (some 9218868437227405311),AV.flt .f64 qa5])) <| some (AV.flt .f64 (toF (getV (zi [AV.flt .f64 (some 9218868437227405311),AV.flt .f64 qa5]))))
        else some (AV.flt .f64 qa5)
      else bif bif bif decide (qkl < 0) then false else false then true else bif decide (qkl > 0) then true else false then ck (okM [RS.one (LK.f .f64)] (vu [AV.flt .f64 qa5,AV.bool (decide (qkl > 0))])) <| some (AV.flt .f64 (toF (getV (vu [AV.flt .f64 qa5,AV.bool (decide (qkl > 0))]))))
      else some (AV.flt .f64 qa5)
    else ck (okM [RS.one LK.b] (qn [AV.flt .f64 qa5,AV.int .i64 0])) <| bif toB (getV (qn [AV.flt .f64 qa5,AV.int .i64 0])) then bif bif bif ford .f64 qa5 (some 0) == some Ordering.gt then true else false then true else bif ford .f64 qa5 (some 0) == some Ordering.lt then false else false then ck (okM [RS.one (LK.f .f64)] (zi [AV.flt .f64 (some 9218868437227405311),AV.flt .f64 qa5])) <| some (AV.flt .f64 (toF (getV (zi [AV.flt .f64 (some 9218868437227405311),AV.flt .f64 qa5]))))
      else some (AV.flt .f64 qa5)
    else bif bif bif decide (qkl < 0) then true else false then true else bif decide (qkl > 0) then false else false then ck (okM [RS.one (LK.f .f64)] (vu [AV.flt .f64 qa5,AV.bool (decide (qkl > 0))])) <| some (AV.flt .f64 (toF (getV (vu [AV.flt .f64 qa5,AV.bool (decide (qkl > 0))]))))
    else some (AV.flt .f64 qa5)
  else ck (okM [RS.one LK.b] (qn [AV.flt .f64 qa5,AV.int .i64 0])) <| bif toB (getV (qn [AV.flt .f64 qa5,AV.int .i64 0])) then bif bif bif ford .f64 qa5 (some 0) == some Ordering.gt then um2 == 1 else false then true else bif ford .f64 qa5 (some 0) == some Ordering.lt then um2 == 2 else false then ck (okM [RS.one (LK.f .f64)] (zi [AV.flt .f64 (some 9218868437227405311),AV.flt .f64 qa5])) <| some (AV.flt .f64 (toF (getV (zi [AV.flt .f64 (some 9218868437227405311),AV.flt .f64 qa5]))))
    else some (AV.flt .f64 qa5)
  else bif bif bif decide (qkl < 0) then um2 == 1 else false then true else bif decide (qkl > 0) then um2 == 2 else false then ck (okM [RS.one (LK.f .f64)] (vu [AV.flt .f64 qa5,AV.bool (decide (qkl > 0))])) <| some (AV.flt .f64 (toF (getV (vu [AV.flt .f64 qa5,AV.bool (decide (qkl > 0))]))))
  else some (AV.flt .f64 qa5)
noncomputable def mround_settle (wn qn : Mo) (zi vu : Mo) (fuel : Nat) (xs : List AV) : Option AV := match xs with
  | [AV.flt .f64 qa5,AV.int .i64 qkl,AV.int .i8 um2] => ground_settle wn qn zi vu fuel qa5 qkl um2
  | _ => none
abbrev Rround_settle : List RS := [RS.one (LK.f .f64)]
theorem ground_settle_sm (wn qn : Mo) (zi vu : Mo) (fuel : Nat) (hΓ : GamOk Pr (Ground_settle wn qn zi vu)) (hP : NamesOk Pr) : SmOk Pr 74 (smM Rround_settle (mround_settle wn qn zi vu fuel)) := sm0 (fuel := fuel) (d := 7) hΓ hP fun xs v h => by
  unfold mround_settle at h
  split at h
  · exact Eq.trans (by kernel_rfl) h
  · cases h
noncomputable def Ground_Sqrt (q6 zn : Mo) (q0 q4 : Mo) (q2 qx : Mo) (wo q8 we : Mo) : Gam := [(70,smM [RS.one (LK.i .i8)] q6),(71,smM [RS.one (LK.f .f64)] zn),(72,smM [RS.one LK.b] q0),(73,smM [RS.one LK.b] q4),(75,smM [RS.one (LK.i .i64)] q2),(74,smM [RS.one (LK.f .f64)] qx),(78,smM [RS.agg [LK.b,LK.l (nat_lit 1),LK.i .i64]] wo),(79,smM [RS.agg [LK.b,LK.l (nat_lit 1),LK.i .i64]] q8),(77,smM [RS.one (LK.i .i64)] we),(76,Go.Am.sFma)]
noncomputable def ground_Sqrt (q6 zn : Mo) (q0 q4 : Mo) (q2 qx : Mo) (wo q8 we : Mo) (fuel : Nat) (ua0 : Option Nat) (um1 : Int) : Option AV :=
  ck (okM [RS.one (LK.i .i8)] (q6 [AV.int .i8 um1])) <| ck (okM [RS.one (LK.f .f64)] (zn [AV.flt .f64 ua0])) <| ck (okM [RS.one LK.b] (q0 [AV.ro 1 1 1 fun (i j : Nat) => ([[AV.flt .f64 ua0]].getD i []).getD j AV.dead])) <| bif bif !toB (getV (q0 [AV.ro 1 1 1 fun (i j : Nat) => ([[AV.flt .f64 ua0]].getD i []).getD j AV.dead])) then true else ford .f64 ua0 (some 0) == some Ordering.lt || ford .f64 ua0 (some 0) == some Ordering.eq then some (AV.flt .f64 (toF (getV (zn [AV.flt .f64 ua0]))))
  else ck (okM [RS.one LK.b] (q4 [AV.ro 1 1 1 fun (i j : Nat) => ([[AV.flt .f64 ua0]].getD i []).getD j AV.dead])) <| bif toB (getV (q4 [AV.ro 1 1 1 fun (i j : Nat) => ([[AV.flt .f64 ua0]].getD i []).getD j AV.dead])) then ck (sFma.ok [AV.flt .f64 (Option.map (Op.negFloat .f64) (toF (getV (zn [AV.flt .f64 ua0])))),AV.flt .f64 (toF (getV (zn [AV.flt .f64 ua0]))),AV.flt .f64 ua0]) <| ck (okM [RS.one (LK.i .i64)] (q2 [AV.flt .f64 ((Option.map (Op.negFloat .f64) (toF (getV (zn [AV.flt .f64 ua0])))).bind fun (x : Nat) => (toF (getV (zn [AV.flt .f64 ua0]))).bind fun (y : Nat) => ua0.bind fun (z : Nat) => FloatKind.f64.format.fma x y z)])) <| ck (okM [RS.one (LK.f .f64)] (qx [AV.flt .f64 (toF (getV (zn [AV.flt .f64 ua0]))),AV.int .i64 (toI (getV (q2 [AV.flt .f64 ((Option.map (Op.negFloat .f64) (toF (getV (zn [AV.flt .f64 ua0])))).bind fun (x : Nat) => (toF (getV (zn [AV.flt .f64 ua0]))).bind fun (y : Nat) => ua0.bind fun (z : Nat) => FloatKind.f64.format.fma x y z)]))),AV.int .i8 (toI (getV (q6 [AV.int .i8 um1])))])) <| some (AV.flt .f64 (toF (getV (qx [AV.flt .f64 (toF (getV (zn [AV.flt .f64 ua0]))),AV.int .i64 (toI (getV (q2 [AV.flt .f64 ((Option.map (Op.negFloat .f64) (toF (getV (zn [AV.flt .f64 ua0])))).bind fun (x : Nat) => (toF (getV (zn [AV.flt .f64 ua0]))).bind fun (y : Nat) => ua0.bind fun (z : Nat) => FloatKind.f64.format.fma x y z)]))),AV.int .i8 (toI (getV (q6 [AV.int .i8 um1])))]))))
  else let r0 : Option AV := wo [AV.flt .f64 ua0]; ck (okM [RS.agg [LK.b,LK.l 1,LK.i .i64]] r0) <| let r1 : Option AV := wo [AV.flt .f64 (toF (getV (zn [AV.flt .f64 ua0])))]; ck (okM [RS.agg [LK.b,LK.l 1,LK.i .i64]] r1) <| let r2 : Option AV := wo [AV.flt .f64 (toF (getV (zn [AV.flt .f64 ua0])))]; ck (okM [RS.agg [LK.b,LK.l 1,LK.i .i64]] r2) <| let r3 : Option AV := q8 [AV.agg [AV.bool (toB ((toC (getV r1)).headD .dead)),AV.ro 1 (toN ((toC (getV r1)).tail.headD .dead)) (toR ((toC (getV r1)).tail.headD .dead)) (toG ((toC (getV r1)).tail.headD .dead)),AV.int .i64 (toI ((toC (getV r1)).tail.tail.headD .dead))],AV.agg [AV.bool (toB ((toC (getV r2)).headD .dead)),AV.ro 1 (toN ((toC (getV r2)).tail.headD .dead)) (toR ((toC (getV r2)).tail.headD .dead)) (toG ((toC (getV r2)).tail.headD .dead)),AV.int .i64 (toI ((toC (getV r2)).tail.tail.headD .dead))]]; ck (okM [RS.agg [LK.b,LK.l 1,LK.i .i64]] r3) <| ck (okM [RS.one (LK.i .i64)] (we [AV.agg [AV.bool (toB ((toC (getV r0)).headD .dead)),AV.ro 1 (toN ((toC (getV r0)).tail.headD .dead)) (toR ((toC (getV r0)).tail.headD .dead)) (toG ((toC (getV r0)).tail.headD .dead)),AV.int .i64 (toI ((toC (getV r0)).tail.tail.headD .dead))],AV.agg [AV.bool (toB ((toC (getV r3)).headD .dead)),AV.ro 1 (toN ((toC (getV r3)).tail.headD .dead)) (toR ((toC (getV r3)).tail.headD .dead)) (toG ((toC (getV r3)).tail.headD .dead)),AV.int .i64 (toI ((toC (getV r3)).tail.tail.headD .dead))]])) <| ck (okM [RS.one (LK.f .f64)] (qx [AV.flt .f64 (toF (getV (zn [AV.flt .f64 ua0]))),AV.int .i64 (toI (getV (we [AV.agg [AV.bool (toB ((toC (getV r0)).headD .dead)),AV.ro 1 (toN ((toC (getV r0)).tail.headD .dead)) (toR ((toC (getV r0)).tail.headD .dead)) (toG ((toC (getV r0)).tail.headD .dead)),AV.int .i64 (toI ((toC (getV r0)).tail.tail.headD .dead))],AV.agg [AV.bool (toB ((toC (getV r3)).headD .dead)),AV.ro 1 (toN ((toC (getV r3)).tail.headD .dead)) (toR ((toC (getV r3)).tail.headD .dead)) (toG ((toC (getV r3)).tail.headD .dead)),AV.int .i64 (toI ((toC (getV r3)).tail.tail.headD .dead))]]))),AV.int .i8 (toI (getV (q6 [AV.int .i8 um1])))])) <| some (AV.flt .f64 (toF (getV (qx [AV.flt .f64 (toF (getV (zn [AV.flt .f64 ua0]))),AV.int .i64 (toI (getV (we [AV.agg [AV.bool (toB ((toC (getV r0)).headD .dead)),AV.ro 1 (toN ((toC (getV r0)).tail.headD .dead)) (toR ((toC (getV r0)).tail.headD .dead)) (toG ((toC (getV r0)).tail.headD .dead)),AV.int .i64 (toI ((toC (getV r0)).tail.tail.headD .dead))],AV.agg [AV.bool (toB ((toC (getV r3)).headD .dead)),AV.ro 1 (toN ((toC (getV r3)).tail.headD .dead)) (toR ((toC (getV r3)).tail.headD .dead)) (toG ((toC (getV r3)).tail.headD .dead)),AV.int .i64 (toI ((toC (getV r3)).tail.tail.headD .dead))]]))),AV.int .i8 (toI (getV (q6 [AV.int .i8 um1])))]))))
noncomputable def mround_Sqrt (q6 zn : Mo) (q0 q4 : Mo) (q2 qx : Mo) (wo q8 we : Mo) (fuel : Nat) (xs : List AV) : Option AV := match xs with
  | [AV.flt .f64 ua0,AV.int .i8 um1] => ground_Sqrt q6 zn q0 q4 q2 qx wo q8 we fuel ua0 um1
  | _ => none
abbrev Rround_Sqrt : List RS := [RS.one (LK.f .f64)]
theorem ground_Sqrt_sm (q6 zn : Mo) (q0 q4 : Mo) (q2 qx : Mo) (wo q8 we : Mo) (fuel : Nat) (hΓ : GamOk Pr (Ground_Sqrt q6 zn q0 q4 q2 qx wo q8 we)) (hP : NamesOk Pr) : SmOk Pr 60 (smM Rround_Sqrt (mround_Sqrt q6 zn q0 q4 q2 qx wo q8 we fuel)) := sm0 (fuel := fuel) (d := 7) hΓ hP fun xs v h => by
  unfold mround_Sqrt at h
  split at h
  · exact Eq.trans (by kernel_rfl) h
  · cases h
noncomputable def Gjoints_Length (ws vv : Mo) : Gam := [(38,smM [RS.one (LK.i .i64),RS.one (LK.i .i64),RS.one (LK.i .i64)] ws),(60,smM [RS.one (LK.f .f64)] vv)]
noncomputable def gjoints_Length (ws vv : Mo) (fuel : Nat) (z3 : ByteArray) (vt qhb qju : Int) (z4 : ByteArray) (z6 qg9 qjx : Int) : Option AV :=
  let r0 : Option AV := ws [AV.agg [AV.str z3,AV.int .i32 vt,AV.int .i32 qhb,AV.int .u8 qju],AV.agg [AV.str z4,AV.int .i32 z6,AV.int .i32 qg9,AV.int .u8 qjx]]; ck (okM [RS.one (LK.i .i64),RS.one (LK.i .i64),RS.one (LK.i .i64)] r0) <| ck (okM [RS.one (LK.f .f64)] (vv [AV.flt .f64 (some (FloatKind.f64.nearest (toI ((toT (getV r0)).tail.tail.headD .dead)))),AV.int .i8 1])) <| ck (okM [RS.one (LK.f .f64)] (vv [AV.flt .f64 (some (FloatKind.f64.nearest (toI ((toT (getV r0)).tail.tail.headD .dead)))),AV.int .i8 2])) <| ck (okM [RS.one (LK.f .f64)] (vv [AV.flt .f64 (some (FloatKind.f64.nearest (toI ((toT (getV r0)).tail.tail.headD .dead)))),AV.int .i8 0])) <| some (AV.tup [AV.agg [AV.flt .f64 (toF (getV (vv [AV.flt .f64 (some (FloatKind.f64.nearest (toI ((toT (getV r0)).tail.tail.headD .dead)))),AV.int .i8 1]))),AV.flt .f64 (toF (getV (vv [AV.flt .f64 (some (FloatKind.f64.nearest (toI ((toT (getV r0)).tail.tail.headD .dead)))),AV.int .i8 2])))],AV.flt .f64 (toF (getV (vv [AV.flt .f64 (some (FloatKind.f64.nearest (toI ((toT (getV r0)).tail.tail.headD .dead)))),AV.int .i8 0])))])
noncomputable def mjoints_Length (ws vv : Mo) (fuel : Nat) (xs : List AV) : Option AV := match xs with
  | [AV.agg [AV.str z3,AV.int .i32 vt,AV.int .i32 qhb,AV.int .u8 qju],AV.agg [AV.str z4,AV.int .i32 z6,AV.int .i32 qg9,AV.int .u8 qjx]] => gjoints_Length ws vv fuel z3 vt qhb qju z4 z6 qg9 qjx
  | _ => none
abbrev Rjoints_Length : List RS := [RS.agg [LK.f .f64,LK.f .f64],RS.one (LK.f .f64)]
theorem gjoints_Length_sm (ws vv : Mo) (fuel : Nat) (hΓ : GamOk Pr (Gjoints_Length ws vv)) (hP : NamesOk Pr) : SmOk Pr 39 (smM Rjoints_Length (mjoints_Length ws vv fuel)) := sm0 (fuel := fuel) (d := 7) hΓ hP fun xs v h => by
  unfold mjoints_Length at h
  split at h
  · exact Eq.trans (by kernel_rfl) h
  · cases h
noncomputable def Gbars_one : Gam := []
noncomputable def gbars_one (fuel : Nat) (ux0 : Option Nat) : Option AV :=
  some (AV.agg [AV.flt .f64 ux0,AV.flt .f64 ux0])
noncomputable def mbars_one (fuel : Nat) (xs : List AV) : Option AV := match xs with
  | [AV.flt .f64 ux0] => gbars_one fuel ux0
  | _ => none
abbrev Rbars_one : List RS := [RS.agg [LK.f .f64,LK.f .f64]]
theorem gbars_one_sm (fuel : Nat) (hΓ : GamOk Pr Gbars_one) (hP : NamesOk Pr) : SmOk Pr 42 (smM Rbars_one (mbars_one fuel)) := sm0 (fuel := fuel) (d := 7) hΓ hP fun xs v h => by
  unfold mbars_one at h
  split at h
  · exact Eq.trans (by kernel_rfl) h
  · cases h
noncomputable def Gmath_Inf : Gam := [(101,Go.Am.sFrom)]
noncomputable def gmath_Inf (fuel : Nat) (qwb : Int) : Option AV :=
  bif decide (qwb ≥ 0) then ck (sFrom.ok [AV.int .u64 9218868437227405312]) <| some (AV.flt .f64 (some 9218868437227405312))
  else ck (sFrom.ok [AV.int .u64 18442240474082181120]) <| some (AV.flt .f64 (some 18442240474082181120))
noncomputable def mmath_Inf (fuel : Nat) (xs : List AV) : Option AV := match xs with
  | [AV.int .i64 qwb] => gmath_Inf fuel qwb
  | _ => none
abbrev Rmath_Inf : List RS := [RS.one (LK.f .f64)]
theorem gmath_Inf_sm (fuel : Nat) (hΓ : GamOk Pr Gmath_Inf) (hP : NamesOk Pr) : SmOk Pr 111 (smM Rmath_Inf (mmath_Inf fuel)) := sm0 (fuel := fuel) (d := 7) hΓ hP fun xs v h => by
  unfold mmath_Inf at h
  split at h
  · exact Eq.trans (by kernel_rfl) h
  · cases h
noncomputable def Gspan_Right (y6 : Mo) : Gam := [(111,smM [RS.one (LK.f .f64)] y6)]
noncomputable def gspan_Right (y6 : Mo) (fuel : Nat) (qbm po : Option Nat) : Option AV :=
  ck (bif ford .f64 qbm po == some Ordering.lt || ford .f64 qbm po == some Ordering.eq then true else true) <| ck (bif ford .f64 qbm po == some Ordering.lt || ford .f64 qbm po == some Ordering.eq then okM [RS.one (LK.f .f64)] (y6 [AV.int .i64 1]) else true) <| ck (bif bif ford .f64 qbm po == some Ordering.lt || ford .f64 qbm po == some Ordering.eq then ford .f64 qbm (toF (getV (y6 [AV.int .i64 1]))) == some Ordering.lt else false then true else true) <| ck (bif bif ford .f64 qbm po == some Ordering.lt || ford .f64 qbm po == some Ordering.eq then ford .f64 qbm (toF (getV (y6 [AV.int .i64 1]))) == some Ordering.lt else false then okM [RS.one (LK.f .f64)] (y6 [AV.int .i64 (-1)]) else true) <| some (AV.bool (bif bif ford .f64 qbm po == some Ordering.lt || ford .f64 qbm po == some Ordering.eq then ford .f64 qbm (toF (getV (y6 [AV.int .i64 1]))) == some Ordering.lt else false then ford .f64 po (toF (getV (y6 [AV.int .i64 (-1)]))) == some Ordering.gt else false))
noncomputable def mspan_Right (y6 : Mo) (fuel : Nat) (xs : List AV) : Option AV := match xs with
  | [AV.agg [AV.flt .f64 qbm,AV.flt .f64 po]] => gspan_Right y6 fuel qbm po
  | _ => none
abbrev Rspan_Right : List RS := [RS.one LK.b]
theorem gspan_Right_sm (y6 : Mo) (fuel : Nat) (hΓ : GamOk Pr (Gspan_Right y6)) (hP : NamesOk Pr) : SmOk Pr 97 (smM Rspan_Right (mspan_Right y6 fuel)) := sm0 (fuel := fuel) (d := 7) hΓ hP fun xs v h => by
  unfold mspan_Right at h
  split at h
  · exact Eq.trans (by kernel_rfl) h
  · cases h
noncomputable def Sspan_right_0 (u5n u5r : Nat) (u5g : Ge) (u6 u7 : Int) : St := { env := [(5,AV.ro 2 u5n u5r u5g),(6,AV.int .i64 u6),(7,AV.int .i64 u7)],h := [],kd := [] }
noncomputable def Xspan_right_0_0 (qa6 : Bool) (qds qjm : Option Nat) : St := { env := [(2,AV.bool qa6)],h := [Blk.box [AV.flt .f64 qds,AV.flt .f64 qjm]],kd := [] }
noncomputable def Xspan_right_0_1 : St := { env := [],h := [],kd := [] }
noncomputable def gspan_right_l0_step (wm : Mo) (fuel : Nat) (kn : Int → Option AV) (kx0 : Bool → Option Nat → Option Nat → Option AV) (kx1 : Option AV) (u5n u5r : Nat) (u5g : Ge) (u6 u7 : Int) : Option AV :=
  bif decide (u7 < u6) then ck (decide (0 ≤ u7)) <| ck (decide (u7 < (↑u5n : Int))) <| ck (fitKs [LK.f .f64,LK.f .f64] [u5g u7.toNat 0,u5g u7.toNat 1]) <| ck (okM [RS.one LK.b] (wm [AV.agg [AV.flt .f64 (toF (u5g u7.toNat 0)),AV.flt .f64 (toF (u5g u7.toNat 1))]])) <| bif !toB (getV (wm [AV.agg [AV.flt .f64 (toF (u5g u7.toNat 0)),AV.flt .f64 (toF (u5g u7.toNat 1))]])) then kx0 false (toF (u5g u7.toNat 0)) (toF (u5g u7.toNat 1))
    else kn (IntKind.i64.wrap (u7 + 1))
  else kx1
noncomputable def gspan_right_l0 (wm : Mo) (fuel : Nat) (kx0 : Bool → Option Nat → Option Nat → Option AV) (kx1 : Option AV) (u5n u5r : Nat) (u5g : Ge) (u6 : Int) : Nat → Int → Option AV
  | 0,_ => none
  | n' + 1,u7 => gspan_right_l0_step wm fuel (gspan_right_l0 wm fuel kx0 kx1 u5n u5r u5g u6 n') kx0 kx1 u5n u5r u5g u6 u7
noncomputable def Tspan_right_0 : TS' := ⟨[(5,TA.ro 2),(6,TA.i .i64),(7,TA.i .i64)],[],[]⟩
noncomputable def Fspan_right_0 (wm : Mo) (fuel : Nat) (ps : List Pay) (K : Ex → St → Option AV) : Option AV := match ps with
  | .n u5n :: .n u5r :: .g u5g :: .i u6 :: .i u7 :: [] => gspan_right_l0 wm fuel (fun qa6 qds qjm => K (Ex.ret) (Xspan_right_0_0 qa6 qds qjm)) (K (Ex.exit 0) Xspan_right_0_1) u5n u5r u5g u6 fuel u7
  | _ => none
noncomputable def Lspan_right (wm : Mo) (fuel : Nat) : Lam AV := [(32660,lam Tspan_right_0 (Fspan_right_0 wm fuel))]
noncomputable def Gspan_right (wm : Mo) : Gam := [(97,smM [RS.one LK.b] wm)]
theorem gspan_right_l0_eq (wm : Mo) (fuel : Nat) (kn : St → Option AV) (K : Ex → St → Option AV) (u5n u5r : Nat) (u5g : Ge) (u6 u70 u7 : Int) :
    bX Pr (Gspan_right wm) (Lspan_right wm fuel) 6 80 0 fuel (Sspan_right_0 u5n u5r u5g u6 u7) (fun e s => match e with | .normal => kn (hX Pr 80 0 (Sspan_right_0 u5n u5r u5g u6 u70) s) | e => K e s) =
    gspan_right_l0_step wm fuel (fun u7 => kn (Sspan_right_0 u5n u5r u5g u6 u7)) (fun xu2 zk xh0_1 => K (Ex.ret) (Xspan_right_0_0 xu2 zk xh0_1)) (K (Ex.exit 0) Xspan_right_0_1) u5n u5r u5g u6 u7 := by kernel_rfl
theorem gspan_right_l0_ok (wm : Mo) (fuel : Nat) (K : Ex → St → Option AV) (u5n u5r : Nat) (u5g : Ge) (u6 u70 : Int) : ∀ (n' : Nat) (u7 : Int),
    loopK (bX Pr (Gspan_right wm) (Lspan_right wm fuel) 6 80 0 fuel) (hX Pr 80 0 (Sspan_right_0 u5n u5r u5g u6 u70)) n' (Sspan_right_0 u5n u5r u5g u6 u7) K = gspan_right_l0 wm fuel (fun xu2 zk xh0_1 => K (Ex.ret) (Xspan_right_0_0 xu2 zk xh0_1)) (K (Ex.exit 0) Xspan_right_0_1) u5n u5r u5g u6 n' u7
  | 0,_ => rfl
  | n' + 1,u7 => (gspan_right_l0_eq wm fuel (fun s => loopK (bX Pr (Gspan_right wm) (Lspan_right wm fuel) 6 80 0 fuel) (hX Pr 80 0 (Sspan_right_0 u5n u5r u5g u6 u70)) n' s K) K u5n u5r u5g u6 u70 u7).trans
    (congrArg (fun kn => gspan_right_l0_step wm fuel kn _ _ u5n u5r u5g u6 u7) (funext fun u7 => gspan_right_l0_ok wm fuel K u5n u5r u5g u6 u70 n' u7))
theorem gspan_right_L0 (wm : Mo) (fuel : Nat) : LX Pr (Gspan_right wm) (Lspan_right wm fuel) 6 80 0 fuel := by
  refine .of Tspan_right_0 (Fspan_right_0 wm fuel) (fun L h => ?_) (fun ps st K r he hr => ?_)
  · have e : (Lspan_right wm fuel).get (writes (lp Pr 80 0).1) = some (lam Tspan_right_0 (Fspan_right_0 wm fuel)) := by kernel_rfl
    exact (Option.some.inj (e.symm.trans h)).symm
  · unfold Fspan_right_0 at hr
    split at hr
    · obtain rfl := (Option.some.inj he).symm
      exact (gspan_right_l0_ok wm fuel K _ _ _ _ _ fuel _).trans hr
    · cases hr
noncomputable def gspan_right (wm : Mo) (fuel yp qai : Nat) (pn : Ge) : Option AV :=
  gspan_right_l0 wm fuel
    (fun (xu2 : Bool) (_ _ : Option Nat) => some (AV.bool xu2))
    (some (AV.bool true))
    yp
    qai
    pn
    ((↑yp : Int)) fuel (0)
noncomputable def mspan_right (wm : Mo) (fuel : Nat) (xs : List AV) : Option AV := match xs with
  | [AV.ro 2 yp qai pn] => gspan_right wm fuel yp qai pn
  | _ => none
abbrev Rspan_right : List RS := [RS.one LK.b]
theorem gspan_right_sm (wm : Mo) (fuel : Nat) (hΓ : GamOk Pr (Gspan_right wm)) (hP : NamesOk Pr) : SmOk Pr 80 (smM Rspan_right (mspan_right wm fuel)) := smL (L := (Lspan_right wm fuel)) (n := 1) hΓ hP (by kernel_rfl) (fun i hi => match i,hi with
  | 0,_ => gspan_right_L0 wm fuel
  | i + 1,hi => absurd hi (by omega)) fun xs v h => by
  unfold mspan_right at h
  split at h
  · exact Eq.trans (by kernel_rfl) h
  · cases h
noncomputable def Gbits_Place (zg : Mo) : Gam := [(100,smM [RS.one (LK.f .f64)] zg),(55,Go.Am.sBits)]
noncomputable def gbits_Place (zg : Mo) (fuel : Nat) (ux0 : Option Nat) : Option AV :=
  bif ford .f64 ux0 ux0 != some Ordering.eq then some (AV.tup [AV.int .i64 0,AV.bool false])
  else ck (okM [RS.one (LK.f .f64)] (zg [AV.flt .f64 ux0])) <| ck (sBits.ok [AV.flt .f64 (toF (getV (zg [AV.flt .f64 ux0])))]) <| bif ford .f64 ux0 (some 0) == some Ordering.lt then some (AV.tup [AV.int .i64 (IntKind.i64.wrap (0 - IntKind.i64.wrap (↑((toF (getV (zg [AV.flt .f64 ux0]))).getD 0) : Int))),AV.bool true])
  else some (AV.tup [AV.int .i64 (IntKind.i64.wrap (↑((toF (getV (zg [AV.flt .f64 ux0]))).getD 0) : Int)),AV.bool true])
noncomputable def mbits_Place (zg : Mo) (fuel : Nat) (xs : List AV) : Option AV := match xs with
  | [AV.flt .f64 ux0] => gbits_Place zg fuel ux0
  | _ => none
abbrev Rbits_Place : List RS := [RS.one (LK.i .i64),RS.one LK.b]
theorem gbits_Place_sm (zg : Mo) (fuel : Nat) (hΓ : GamOk Pr (Gbits_Place zg)) (hP : NamesOk Pr) : SmOk Pr 152 (smM Rbits_Place (mbits_Place zg fuel)) := sm0 (fuel := fuel) (d := 7) hΓ hP fun xs v h => by
  unfold mbits_Place at h
  split at h
  · exact Eq.trans (by kernel_rfl) h
  · cases h
noncomputable def Gbits_rank (y0 wn : Mo) : Gam := [(152,smM [RS.one (LK.i .i64),RS.one LK.b] y0),(91,smM [RS.one LK.b] wn)]
noncomputable def gbits_rank (y0 wn : Mo) (fuel : Nat) (ux0 : Option Nat) : Option AV :=
  let r0 : Option AV := y0 [AV.flt .f64 ux0]; ck (okM [RS.one (LK.i .i64),RS.one LK.b] r0) <| bif !toB ((toT (getV r0)).tail.headD .dead) then some (AV.tup [AV.int .i64 9223372036854775807,AV.int .i64 0])
  else ck (bif toI ((toT (getV r0)).headD .dead) == 0 then okM [RS.one LK.b] (wn [AV.flt .f64 ux0]) else true) <| bif bif toI ((toT (getV r0)).headD .dead) == 0 then !toB (getV (wn [AV.flt .f64 ux0])) else false then some (AV.tup [AV.int .i64 0,AV.int .i64 1])
  else some (AV.tup [AV.int .i64 (toI ((toT (getV r0)).headD .dead)),AV.int .i64 0])
noncomputable def mbits_rank (y0 wn : Mo) (fuel : Nat) (xs : List AV) : Option AV := match xs with
  | [AV.flt .f64 ux0] => gbits_rank y0 wn fuel ux0
  | _ => none
abbrev Rbits_rank : List RS := [RS.one (LK.i .i64),RS.one (LK.i .i64)]
theorem gbits_rank_sm (y0 wn : Mo) (fuel : Nat) (hΓ : GamOk Pr (Gbits_rank y0 wn)) (hP : NamesOk Pr) : SmOk Pr 132 (smM Rbits_rank (mbits_rank y0 wn fuel)) := sm0 (fuel := fuel) (d := 7) hΓ hP fun xs v h => by
  unfold mbits_rank at h
  split at h
  · exact Eq.trans (by kernel_rfl) h
  · cases h
noncomputable def Gcmp_isNaN_int64 : Gam := []
noncomputable def gcmp_isNaN_int64 (fuel : Nat) (ux0 : Int) : Option AV :=
  some (AV.bool (ux0 != ux0))
noncomputable def mcmp_isNaN_int64 (fuel : Nat) (xs : List AV) : Option AV := match xs with
  | [AV.int .i64 ux0] => gcmp_isNaN_int64 fuel ux0
  | _ => none
abbrev Rcmp_isNaN_int64 : List RS := [RS.one LK.b]
theorem gcmp_isNaN_int64_sm (fuel : Nat) (hΓ : GamOk Pr Gcmp_isNaN_int64) (hP : NamesOk Pr) : SmOk Pr 153 (smM Rcmp_isNaN_int64 (mcmp_isNaN_int64 fuel)) := sm0 (fuel := fuel) (d := 7) hΓ hP fun xs v h => by
  unfold mcmp_isNaN_int64 at h
  split at h
  · exact Eq.trans (by kernel_rfl) h
  · cases h
noncomputable def Gcmp_Compare_int64 (w9 : Mo) : Gam := [(153,smM [RS.one LK.b] w9)]
noncomputable def gcmp_Compare_int64 (w9 : Mo) (fuel : Nat) (ux0 uy1 : Int) : Option AV :=
  ck (okM [RS.one LK.b] (w9 [AV.int .i64 ux0])) <| ck (okM [RS.one LK.b] (w9 [AV.int .i64 uy1])) <| bif toB (getV (w9 [AV.int .i64 ux0])) then bif toB (getV (w9 [AV.int .i64 uy1])) then some (AV.int .i64 0)
    else some (AV.int .i64 (-1))
  else bif toB (getV (w9 [AV.int .i64 uy1])) then some (AV.int .i64 1)
  else bif decide (ux0 < uy1) then some (AV.int .i64 (-1))
  else bif decide (ux0 > uy1) then some (AV.int .i64 1)
  else some (AV.int .i64 0)
noncomputable def mcmp_Compare_int64 (w9 : Mo) (fuel : Nat) (xs : List AV) : Option AV := match xs with
  | [AV.int .i64 ux0,AV.int .i64 uy1] => gcmp_Compare_int64 w9 fuel ux0 uy1
  | _ => none
abbrev Rcmp_Compare_int64 : List RS := [RS.one (LK.i .i64)]
theorem gcmp_Compare_int64_sm (w9 : Mo) (fuel : Nat) (hΓ : GamOk Pr (Gcmp_Compare_int64 w9)) (hP : NamesOk Pr) : SmOk Pr 134 (smM Rcmp_Compare_int64 (mcmp_Compare_int64 w9 fuel)) := sm0 (fuel := fuel) (d := 7) hΓ hP fun xs v h => by
  unfold mcmp_Compare_int64 at h
  split at h
  · exact Eq.trans (by kernel_rfl) h
  · cases h
noncomputable def Gcmp_isNaN_int : Gam := []
noncomputable def gcmp_isNaN_int (fuel : Nat) (ux0 : Int) : Option AV :=
  some (AV.bool (ux0 != ux0))
noncomputable def mcmp_isNaN_int (fuel : Nat) (xs : List AV) : Option AV := match xs with
  | [AV.int .i64 ux0] => gcmp_isNaN_int fuel ux0
  | _ => none
abbrev Rcmp_isNaN_int : List RS := [RS.one LK.b]
theorem gcmp_isNaN_int_sm (fuel : Nat) (hΓ : GamOk Pr Gcmp_isNaN_int) (hP : NamesOk Pr) : SmOk Pr 154 (smM Rcmp_isNaN_int (mcmp_isNaN_int fuel)) := sm0 (fuel := fuel) (d := 7) hΓ hP fun xs v h => by
  unfold mcmp_isNaN_int at h
  split at h
  · exact Eq.trans (by kernel_rfl) h
  · cases h
noncomputable def Gcmp_Compare_int (zj : Mo) : Gam := [(154,smM [RS.one LK.b] zj)]
noncomputable def gcmp_Compare_int (zj : Mo) (fuel : Nat) (ux0 uy1 : Int) : Option AV :=
  ck (okM [RS.one LK.b] (zj [AV.int .i64 ux0])) <| ck (okM [RS.one LK.b] (zj [AV.int .i64 uy1])) <| bif toB (getV (zj [AV.int .i64 ux0])) then bif toB (getV (zj [AV.int .i64 uy1])) then some (AV.int .i64 0)
    else some (AV.int .i64 (-1))
  else bif toB (getV (zj [AV.int .i64 uy1])) then some (AV.int .i64 1)
  else bif decide (ux0 < uy1) then some (AV.int .i64 (-1))
  else bif decide (ux0 > uy1) then some (AV.int .i64 1)
  else some (AV.int .i64 0)
noncomputable def mcmp_Compare_int (zj : Mo) (fuel : Nat) (xs : List AV) : Option AV := match xs with
  | [AV.int .i64 ux0,AV.int .i64 uy1] => gcmp_Compare_int zj fuel ux0 uy1
  | _ => none
abbrev Rcmp_Compare_int : List RS := [RS.one (LK.i .i64)]
theorem gcmp_Compare_int_sm (zj : Mo) (fuel : Nat) (hΓ : GamOk Pr (Gcmp_Compare_int zj)) (hP : NamesOk Pr) : SmOk Pr 135 (smM Rcmp_Compare_int (mcmp_Compare_int zj fuel)) := sm0 (fuel := fuel) (d := 7) hΓ hP fun xs v h => by
  unfold mcmp_Compare_int at h
  split at h
  · exact Eq.trans (by kernel_rfl) h
  · cases h
noncomputable def Scmp_Or_int_0 (qeh : Int) (u6n u6r : Nat) (u6g : Ge) (u7 u8 : Int) : St := { env := [(3,AV.int .i64 qeh),(6,AV.ro 1 u6n u6r u6g),(7,AV.int .i64 u7),(8,AV.int .i64 u8)],h := [],kd := [] }
noncomputable def Xcmp_Or_int_0_0 (qa6 : Int) : St := { env := [(2,AV.int .i64 qa6)],h := [],kd := [] }
noncomputable def Xcmp_Or_int_0_1 (qvr : Int) : St := { env := [(3,AV.int .i64 qvr)],h := [],kd := [] }
noncomputable def gcmp_Or_int_l0_step (fuel : Nat) (kn kx0 kx1 : Int → Option AV) (qeh : Int) (u6n u6r : Nat) (u6g : Ge) (u7 u8 : Int) : Option AV :=
  bif decide (u8 < u7) then ck (decide (0 ≤ u8)) <| ck (decide (u8 < (↑u6n : Int))) <| ck (fitK (LK.i .i64) (u6g u8.toNat 0)) <| bif toI (u6g u8.toNat 0) != qeh then kx0 (toI (u6g u8.toNat 0))
    else kn (IntKind.i64.wrap (u8 + 1))
  else kx1 qeh
noncomputable def gcmp_Or_int_l0 (fuel : Nat) (kx0 kx1 : Int → Option AV) (qeh : Int) (u6n u6r : Nat) (u6g : Ge) (u7 : Int) : Nat → Int → Option AV
  | 0,_ => none
  | n' + 1,u8 => gcmp_Or_int_l0_step fuel (gcmp_Or_int_l0 fuel kx0 kx1 qeh u6n u6r u6g u7 n') kx0 kx1 qeh u6n u6r u6g u7 u8
noncomputable def Tcmp_Or_int_0 : TS' := ⟨[(3,TA.i .i64),(6,TA.ro 1),(7,TA.i .i64),(8,TA.i .i64)],[],[]⟩
noncomputable def Fcmp_Or_int_0 (fuel : Nat) (ps : List Pay) (K : Ex → St → Option AV) : Option AV := match ps with
  | .i qeh :: .n u6n :: .n u6r :: .g u6g :: .i u7 :: .i u8 :: [] => gcmp_Or_int_l0 fuel (fun qa6 => K (Ex.ret) (Xcmp_Or_int_0_0 qa6)) (fun qvr => K (Ex.exit 0) (Xcmp_Or_int_0_1 qvr)) qeh u6n u6r u6g u7 fuel u8
  | _ => none
noncomputable def Lcmp_Or_int (fuel : Nat) : Lam AV := [(130852,lam Tcmp_Or_int_0 (Fcmp_Or_int_0 fuel))]
noncomputable def Gcmp_Or_int : Gam := []
theorem gcmp_Or_int_l0_eq (fuel : Nat) (kn : St → Option AV) (K : Ex → St → Option AV) (qeh : Int) (u6n u6r : Nat) (u6g : Ge) (u7 u80 u8 : Int) :
    bX Pr Gcmp_Or_int (Lcmp_Or_int fuel) 6 133 0 fuel (Scmp_Or_int_0 qeh u6n u6r u6g u7 u8) (fun e s => match e with | .normal => kn (hX Pr 133 0 (Scmp_Or_int_0 qeh u6n u6r u6g u7 u80) s) | e => K e s) =
    gcmp_Or_int_l0_step fuel (fun u8 => kn (Scmp_Or_int_0 qeh u6n u6r u6g u7 u8)) (fun xu2 => K (Ex.ret) (Xcmp_Or_int_0_0 xu2)) (fun qld => K (Ex.exit 0) (Xcmp_Or_int_0_1 qld)) qeh u6n u6r u6g u7 u8 := by kernel_rfl
theorem gcmp_Or_int_l0_ok (fuel : Nat) (K : Ex → St → Option AV) (qeh : Int) (u6n u6r : Nat) (u6g : Ge) (u7 u80 : Int) : ∀ (n' : Nat) (u8 : Int),
    loopK (bX Pr Gcmp_Or_int (Lcmp_Or_int fuel) 6 133 0 fuel) (hX Pr 133 0 (Scmp_Or_int_0 qeh u6n u6r u6g u7 u80)) n' (Scmp_Or_int_0 qeh u6n u6r u6g u7 u8) K = gcmp_Or_int_l0 fuel (fun xu2 => K (Ex.ret) (Xcmp_Or_int_0_0 xu2)) (fun qld => K (Ex.exit 0) (Xcmp_Or_int_0_1 qld)) qeh u6n u6r u6g u7 n' u8
  | 0,_ => rfl
  | n' + 1,u8 => (gcmp_Or_int_l0_eq fuel (fun s => loopK (bX Pr Gcmp_Or_int (Lcmp_Or_int fuel) 6 133 0 fuel) (hX Pr 133 0 (Scmp_Or_int_0 qeh u6n u6r u6g u7 u80)) n' s K) K qeh u6n u6r u6g u7 u80 u8).trans
    (congrArg (fun kn => gcmp_Or_int_l0_step fuel kn _ _ qeh u6n u6r u6g u7 u8) (funext fun u8 => gcmp_Or_int_l0_ok fuel K qeh u6n u6r u6g u7 u80 n' u8))
theorem gcmp_Or_int_L0 (fuel : Nat) : LX Pr Gcmp_Or_int (Lcmp_Or_int fuel) 6 133 0 fuel := by
  refine .of Tcmp_Or_int_0 (Fcmp_Or_int_0 fuel) (fun L h => ?_) (fun ps st K r he hr => ?_)
  · have e : (Lcmp_Or_int fuel).get (writes (lp Pr 133 0).1) = some (lam Tcmp_Or_int_0 (Fcmp_Or_int_0 fuel)) := by kernel_rfl
    exact (Option.some.inj (e.symm.trans h)).symm
  · unfold Fcmp_Or_int_0 at hr
    split at hr
    · obtain rfl := (Option.some.inj he).symm
      exact (gcmp_Or_int_l0_ok fuel K _ _ _ _ _ _ fuel _).trans hr
    · cases hr
noncomputable def gcmp_Or_int (fuel qk9 qpj : Nat) (qpu : Ge) : Option AV :=
  gcmp_Or_int_l0 fuel
    (fun (xu2 : Int) => some (AV.int .i64 xu2))
    (fun (qld : Int) => some (AV.int .i64 qld))
    (0)
    qk9
    qpj
    qpu
    ((↑qk9 : Int)) fuel (0)
noncomputable def mcmp_Or_int (fuel : Nat) (xs : List AV) : Option AV := match xs with
  | [AV.ro 1 qk9 qpj qpu] => gcmp_Or_int fuel qk9 qpj qpu
  | _ => none
abbrev Rcmp_Or_int : List RS := [RS.one (LK.i .i64)]
theorem gcmp_Or_int_sm (fuel : Nat) (hΓ : GamOk Pr Gcmp_Or_int) (hP : NamesOk Pr) : SmOk Pr 133 (smM Rcmp_Or_int (mcmp_Or_int fuel)) := smL (L := (Lcmp_Or_int fuel)) (n := 1) hΓ hP (by kernel_rfl) (fun i hi => match i,hi with
  | 0,_ => gcmp_Or_int_L0 fuel
  | i + 1,hi => absurd hi (by omega)) fun xs v h => by
  unfold mcmp_Or_int at h
  split at h
  · exact Eq.trans (by kernel_rfl) h
  · cases h
noncomputable def Gbits_Order (pd w7 : Mo) (zf yk : Mo) : Gam := [(132,smM [RS.one (LK.i .i64),RS.one (LK.i .i64)] pd),(134,smM [RS.one (LK.i .i64)] w7),(135,smM [RS.one (LK.i .i64)] zf),(133,smM [RS.one (LK.i .i64)] yk)]
noncomputable def gbits_Order (pd w7 : Mo) (zf yk : Mo) (fuel : Nat) (ua0 ub1 : Option Nat) : Option AV :=
  let r0 : Option AV := pd [AV.flt .f64 ua0]; ck (okM [RS.one (LK.i .i64),RS.one (LK.i .i64)] r0) <| let r1 : Option AV := pd [AV.flt .f64 ub1]; ck (okM [RS.one (LK.i .i64),RS.one (LK.i .i64)] r1) <| ck (okM [RS.one (LK.i .i64)] (w7 [AV.int .i64 (toI ((toT (getV r0)).headD .dead)),AV.int .i64 (toI ((toT (getV r1)).headD .dead))])) <| ck (okM [RS.one (LK.i .i64)] (zf [AV.int .i64 (toI ((toT (getV r0)).tail.headD .dead)),AV.int .i64 (toI ((toT (getV r1)).tail.headD .dead))])) <| ck (okM [RS.one (LK.i .i64)] (yk [AV.ro 1 2 2 fun (i j : Nat) => ([[AV.int .i64 (toI (getV (w7 [AV.int .i64 (toI ((toT (getV r0)).headD .dead)),AV.int .i64 (toI ((toT (getV r1)).headD .dead))])))],[AV.int .i64 (toI (getV (zf [AV.int .i64 (toI ((toT (getV r0)).tail.headD .dead)),AV.int .i64 (toI ((toT (getV r1)).tail.headD .dead))])))]].getD i []).getD j AV.dead])) <| some (AV.int .i64 (toI (getV (yk [AV.ro 1 2 2 fun (i j : Nat) => ([[AV.int .i64 (toI (getV (w7 [AV.int .i64 (toI ((toT (getV r0)).headD .dead)),AV.int .i64 (toI ((toT (getV r1)).headD .dead))])))],[AV.int .i64 (toI (getV (zf [AV.int .i64 (toI ((toT (getV r0)).tail.headD .dead)),AV.int .i64 (toI ((toT (getV r1)).tail.headD .dead))])))]].getD i []).getD j AV.dead]))))
noncomputable def mbits_Order (pd w7 : Mo) (zf yk : Mo) (fuel : Nat) (xs : List AV) : Option AV := match xs with
  | [AV.flt .f64 ua0,AV.flt .f64 ub1] => gbits_Order pd w7 zf yk fuel ua0 ub1
  | _ => none
abbrev Rbits_Order : List RS := [RS.one (LK.i .i64)]
theorem gbits_Order_sm (pd w7 : Mo) (zf yk : Mo) (fuel : Nat) (hΓ : GamOk Pr (Gbits_Order pd w7 zf yk)) (hP : NamesOk Pr) : SmOk Pr 112 (smM Rbits_Order (mbits_Order pd w7 zf yk fuel)) := sm0 (fuel := fuel) (d := 7) hΓ hP fun xs v h => by
  unfold mbits_Order at h
  split at h
  · exact Eq.trans (by kernel_rfl) h
  · cases h
noncomputable def Gspan_lesser (w5 : Mo) : Gam := [(112,smM [RS.one (LK.i .i64)] w5)]
noncomputable def gspan_lesser (w5 : Mo) (fuel : Nat) (ua0 ub1 : Option Nat) : Option AV :=
  ck (okM [RS.one (LK.i .i64)] (w5 [AV.flt .f64 ub1,AV.flt .f64 ua0])) <| bif decide (toI (getV (w5 [AV.flt .f64 ub1,AV.flt .f64 ua0])) < 0) then some (AV.flt .f64 ub1)
  else some (AV.flt .f64 ua0)
noncomputable def mspan_lesser (w5 : Mo) (fuel : Nat) (xs : List AV) : Option AV := match xs with
  | [AV.flt .f64 ua0,AV.flt .f64 ub1] => gspan_lesser w5 fuel ua0 ub1
  | _ => none
abbrev Rspan_lesser : List RS := [RS.one (LK.f .f64)]
theorem gspan_lesser_sm (w5 : Mo) (fuel : Nat) (hΓ : GamOk Pr (Gspan_lesser w5)) (hP : NamesOk Pr) : SmOk Pr 98 (smM Rspan_lesser (mspan_lesser w5 fuel)) := sm0 (fuel := fuel) (d := 7) hΓ hP fun xs v h => by
  unfold mspan_lesser at h
  split at h
  · exact Eq.trans (by kernel_rfl) h
  · cases h
noncomputable def Gspan_greater (w5 : Mo) : Gam := [(112,smM [RS.one (LK.i .i64)] w5)]
noncomputable def gspan_greater (w5 : Mo) (fuel : Nat) (ua0 ub1 : Option Nat) : Option AV :=
  ck (okM [RS.one (LK.i .i64)] (w5 [AV.flt .f64 ub1,AV.flt .f64 ua0])) <| bif decide (toI (getV (w5 [AV.flt .f64 ub1,AV.flt .f64 ua0])) > 0) then some (AV.flt .f64 ub1)
  else some (AV.flt .f64 ua0)
noncomputable def mspan_greater (w5 : Mo) (fuel : Nat) (xs : List AV) : Option AV := match xs with
  | [AV.flt .f64 ua0,AV.flt .f64 ub1] => gspan_greater w5 fuel ua0 ub1
  | _ => none
abbrev Rspan_greater : List RS := [RS.one (LK.f .f64)]
theorem gspan_greater_sm (w5 : Mo) (fuel : Nat) (hΓ : GamOk Pr (Gspan_greater w5)) (hP : NamesOk Pr) : SmOk Pr 99 (smM Rspan_greater (mspan_greater w5 fuel)) := sm0 (fuel := fuel) (d := 7) hΓ hP fun xs v h => by
  unfold mspan_greater at h
  split at h
  · exact Eq.trans (by kernel_rfl) h
  · cases h
noncomputable def Ground_Mul (q6 q0 : Mo) (q4 q2 : Mo) (qx qn : Mo) (wo q8 we : Mo) : Gam := [(70,smM [RS.one (LK.i .i8)] q6),(72,smM [RS.one LK.b] q0),(73,smM [RS.one LK.b] q4),(75,smM [RS.one (LK.i .i64)] q2),(74,smM [RS.one (LK.f .f64)] qx),(90,smM [RS.one LK.b] qn),(78,smM [RS.agg [LK.b,LK.l (nat_lit 1),LK.i .i64]] wo),(79,smM [RS.agg [LK.b,LK.l (nat_lit 1),LK.i .i64]] q8),(77,smM [RS.one (LK.i .i64)] we),(76,Go.Am.sFma)]
noncomputable def ground_Mul (q6 q0 : Mo) (q4 q2 : Mo) (qx qn : Mo) (wo q8 we : Mo) (fuel : Nat) (ua0 ub1 : Option Nat) (um2 : Int) : Option AV :=
  ck (okM [RS.one (LK.i .i8)] (q6 [AV.int .i8 um2])) <| ck (okM [RS.one LK.b] (q0 [AV.ro 1 2 2 fun (i j : Nat) => ([[AV.flt .f64 ua0],[AV.flt .f64 ub1]].getD i []).getD j AV.dead])) <| bif bif bif !toB (getV (q0 [AV.ro 1 2 2 fun (i j : Nat) => ([[AV.flt .f64 ua0],[AV.flt .f64 ub1]].getD i []).getD j AV.dead])) then true else ford .f64 ua0 (some 0) == some Ordering.eq then true else ford .f64 ub1 (some 0) == some Ordering.eq then some (AV.flt .f64 (farith BinOp.mul .f64 ua0 ub1))
  else ck (okM [RS.one LK.b] (q4 [AV.ro 1 3 3 fun (i j : Nat) => ([[AV.flt .f64 ua0],[AV.flt .f64 ub1],[AV.flt .f64 (farith BinOp.mul .f64 ua0 ub1)]].getD i []).getD j AV.dead])) <| bif toB (getV (q4 [AV.ro 1 3 3 fun (i j : Nat) => ([[AV.flt .f64 ua0],[AV.flt .f64 ub1],[AV.flt .f64 (farith BinOp.mul .f64 ua0 ub1)]].getD i []).getD j AV.dead])) then ck (sFma.ok [AV.flt .f64 ua0,AV.flt .f64 ub1,AV.flt .f64 (Option.map (Op.negFloat .f64) (farith BinOp.mul .f64 ua0 ub1))]) <| ck (okM [RS.one (LK.i .i64)] (q2 [AV.flt .f64 (ua0.bind fun (x : Nat) => ub1.bind fun (y : Nat) => (Option.map (Op.negFloat .f64) (farith BinOp.mul .f64 ua0 ub1)).bind fun (z : Nat) => FloatKind.f64.format.fma x y z)])) <| ck (okM [RS.one (LK.f .f64)] (qx [AV.flt .f64 (farith BinOp.mul .f64 ua0 ub1),AV.int .i64 (toI (getV (q2 [AV.flt .f64 (ua0.bind fun (x : Nat) => ub1.bind fun (y : Nat) => (Option.map (Op.negFloat .f64) (farith BinOp.mul .f64 ua0 ub1)).bind fun (z : Nat) => FloatKind.f64.format.fma x y z)]))),AV.int .i8 (toI (getV (q6 [AV.int .i8 um2])))])) <| some (AV.flt .f64 (toF (getV (qx [AV.flt .f64 (farith BinOp.mul .f64 ua0 ub1),AV.int .i64 (toI (getV (q2 [AV.flt .f64 (ua0.bind fun (x : Nat) => ub1.bind fun (y : Nat) => (Option.map (Op.negFloat .f64) (farith BinOp.mul .f64 ua0 ub1)).bind fun (z : Nat) => FloatKind.f64.format.fma x y z)]))),AV.int .i8 (toI (getV (q6 [AV.int .i8 um2])))]))))
  else ck (okM [RS.one LK.b] (qn [AV.flt .f64 (farith BinOp.mul .f64 ua0 ub1),AV.int .i64 0])) <| bif toB (getV (qn [AV.flt .f64 (farith BinOp.mul .f64 ua0 ub1),AV.int .i64 0])) then ck (okM [RS.one (LK.f .f64)] (qx [AV.flt .f64 (farith BinOp.mul .f64 ua0 ub1),AV.int .i64 0,AV.int .i8 (toI (getV (q6 [AV.int .i8 um2])))])) <| some (AV.flt .f64 (toF (getV (qx [AV.flt .f64 (farith BinOp.mul .f64 ua0 ub1),AV.int .i64 0,AV.int .i8 (toI (getV (q6 [AV.int .i8 um2])))]))))
  else let r0 : Option AV := wo [AV.flt .f64 ua0]; ck (okM [RS.agg [LK.b,LK.l 1,LK.i .i64]] r0) <| let r1 : Option AV := wo [AV.flt .f64 ub1]; ck (okM [RS.agg [LK.b,LK.l 1,LK.i .i64]] r1) <| let r2 : Option AV := q8 [AV.agg [AV.bool (toB ((toC (getV r0)).headD .dead)),AV.ro 1 (toN ((toC (getV r0)).tail.headD .dead)) (toR ((toC (getV r0)).tail.headD .dead)) (toG ((toC (getV r0)).tail.headD .dead)),AV.int .i64 (toI ((toC (getV r0)).tail.tail.headD .dead))],AV.agg [AV.bool (toB ((toC (getV r1)).headD .dead)),AV.ro 1 (toN ((toC (getV r1)).tail.headD .dead)) (toR ((toC (getV r1)).tail.headD .dead)) (toG ((toC (getV r1)).tail.headD .dead)),AV.int .i64 (toI ((toC (getV r1)).tail.tail.headD .dead))]]; ck (okM [RS.agg [LK.b,LK.l 1,LK.i .i64]] r2) <| let r3 : Option AV := wo [AV.flt .f64 (farith BinOp.mul .f64 ua0 ub1)]; ck (okM [RS.agg [LK.b,LK.l 1,LK.i .i64]] r3) <| ck (okM [RS.one (LK.i .i64)] (we [AV.agg [AV.bool (toB ((toC (getV r2)).headD .dead)),AV.ro 1 (toN ((toC (getV r2)).tail.headD .dead)) (toR ((toC (getV r2)).tail.headD .dead)) (toG ((toC (getV r2)).tail.headD .dead)),AV.int .i64 (toI ((toC (getV r2)).tail.tail.headD .dead))],AV.agg [AV.bool (toB ((toC (getV r3)).headD .dead)),AV.ro 1 (toN ((toC (getV r3)).tail.headD .dead)) (toR ((toC (getV r3)).tail.headD .dead)) (toG ((toC (getV r3)).tail.headD .dead)),AV.int .i64 (toI ((toC (getV r3)).tail.tail.headD .dead))]])) <| ck (okM [RS.one (LK.f .f64)] (qx [AV.flt .f64 (farith BinOp.mul .f64 ua0 ub1),AV.int .i64 (toI (getV (we [AV.agg [AV.bool (toB ((toC (getV r2)).headD .dead)),AV.ro 1 (toN ((toC (getV r2)).tail.headD .dead)) (toR ((toC (getV r2)).tail.headD .dead)) (toG ((toC (getV r2)).tail.headD .dead)),AV.int .i64 (toI ((toC (getV r2)).tail.tail.headD .dead))],AV.agg [AV.bool (toB ((toC (getV r3)).headD .dead)),AV.ro 1 (toN ((toC (getV r3)).tail.headD .dead)) (toR ((toC (getV r3)).tail.headD .dead)) (toG ((toC (getV r3)).tail.headD .dead)),AV.int .i64 (toI ((toC (getV r3)).tail.tail.headD .dead))]]))),AV.int .i8 (toI (getV (q6 [AV.int .i8 um2])))])) <| some (AV.flt .f64 (toF (getV (qx [AV.flt .f64 (farith BinOp.mul .f64 ua0 ub1),AV.int .i64 (toI (getV (we [AV.agg [AV.bool (toB ((toC (getV r2)).headD .dead)),AV.ro 1 (toN ((toC (getV r2)).tail.headD .dead)) (toR ((toC (getV r2)).tail.headD .dead)) (toG ((toC (getV r2)).tail.headD .dead)),AV.int .i64 (toI ((toC (getV r2)).tail.tail.headD .dead))],AV.agg [AV.bool (toB ((toC (getV r3)).headD .dead)),AV.ro 1 (toN ((toC (getV r3)).tail.headD .dead)) (toR ((toC (getV r3)).tail.headD .dead)) (toG ((toC (getV r3)).tail.headD .dead)),AV.int .i64 (toI ((toC (getV r3)).tail.tail.headD .dead))]]))),AV.int .i8 (toI (getV (q6 [AV.int .i8 um2])))]))))
noncomputable def mround_Mul (q6 q0 : Mo) (q4 q2 : Mo) (qx qn : Mo) (wo q8 we : Mo) (fuel : Nat) (xs : List AV) : Option AV := match xs with
  | [AV.flt .f64 ua0,AV.flt .f64 ub1,AV.int .i8 um2] => ground_Mul q6 q0 q4 q2 qx qn wo q8 we fuel ua0 ub1 um2
  | _ => none
abbrev Rround_Mul : List RS := [RS.one (LK.f .f64)]
theorem ground_Mul_sm (q6 q0 : Mo) (q4 q2 : Mo) (qx qn : Mo) (wo q8 we : Mo) (fuel : Nat) (hΓ : GamOk Pr (Ground_Mul q6 q0 q4 q2 qx qn wo q8 we)) (hP : NamesOk Pr) : SmOk Pr 85 (smM Rround_Mul (mround_Mul q6 q0 q4 q2 qx qn wo q8 we fuel)) := sm0 (fuel := fuel) (d := 7) hΓ hP fun xs v h => by
  unfold mround_Mul at h
  split at h
  · exact Eq.trans (by kernel_rfl) h
  · cases h
noncomputable def Gspan_Mul_c1 (yw : Mo) : Gam := [(85,smM [RS.one (LK.f .f64)] yw)]
noncomputable def gspan_Mul_c1 (yw : Mo) (fuel : Nat) (ux0 uy1 : Option Nat) (um2 : Int) : Option AV :=
  ck (okM [RS.one (LK.f .f64)] (yw [AV.flt .f64 ux0,AV.flt .f64 uy1,AV.int .i8 um2])) <| bif ford .f64 (toF (getV (yw [AV.flt .f64 ux0,AV.flt .f64 uy1,AV.int .i8 um2]))) (toF (getV (yw [AV.flt .f64 ux0,AV.flt .f64 uy1,AV.int .i8 um2]))) == some Ordering.eq then some (AV.flt .f64 (toF (getV (yw [AV.flt .f64 ux0,AV.flt .f64 uy1,AV.int .i8 um2]))))
  else some (AV.flt .f64 (some 0))
noncomputable def mspan_Mul_c1 (yw : Mo) (fuel : Nat) (xs : List AV) : Option AV := match xs with
  | [AV.flt .f64 ux0,AV.flt .f64 uy1,AV.int .i8 um2] => gspan_Mul_c1 yw fuel ux0 uy1 um2
  | _ => none
abbrev Rspan_Mul_c1 : List RS := [RS.one (LK.f .f64)]
theorem gspan_Mul_c1_sm (yw : Mo) (fuel : Nat) (hΓ : GamOk Pr (Gspan_Mul_c1 yw)) (hP : NamesOk Pr) : SmOk Pr 84 (smM Rspan_Mul_c1 (mspan_Mul_c1 yw fuel)) := sm0 (fuel := fuel) (d := 7) hΓ hP fun xs v h => by
  unfold mspan_Mul_c1 at h
  split at h
  · exact Eq.trans (by kernel_rfl) h
  · cases h
noncomputable def Ground_Div (q6 q0 : Mo) (q4 q2 : Mo) (qx qn : Mo) (wo q8 we : Mo) : Gam := [(70,smM [RS.one (LK.i .i8)] q6),(72,smM [RS.one LK.b] q0),(73,smM [RS.one LK.b] q4),(75,smM [RS.one (LK.i .i64)] q2),(74,smM [RS.one (LK.f .f64)] qx),(90,smM [RS.one LK.b] qn),(78,smM [RS.agg [LK.b,LK.l (nat_lit 1),LK.i .i64]] wo),(79,smM [RS.agg [LK.b,LK.l (nat_lit 1),LK.i .i64]] q8),(77,smM [RS.one (LK.i .i64)] we),(76,Go.Am.sFma)]
noncomputable def ground_Div (q6 q0 : Mo) (q4 q2 : Mo) (qx qn : Mo) (wo q8 we : Mo) (fuel : Nat) (ua0 ub1 : Option Nat) (um2 : Int) : Option AV :=
  ck (okM [RS.one (LK.i .i8)] (q6 [AV.int .i8 um2])) <| ck (okM [RS.one LK.b] (q0 [AV.ro 1 2 2 fun (i j : Nat) => ([[AV.flt .f64 ua0],[AV.flt .f64 ub1]].getD i []).getD j AV.dead])) <| bif bif bif !toB (getV (q0 [AV.ro 1 2 2 fun (i j : Nat) => ([[AV.flt .f64 ua0],[AV.flt .f64 ub1]].getD i []).getD j AV.dead])) then true else ford .f64 ua0 (some 0) == some Ordering.eq then true else ford .f64 ub1 (some 0) == some Ordering.eq then some (AV.flt .f64 (farith BinOp.quo .f64 ua0 ub1))
  else ck (okM [RS.one LK.b] (q4 [AV.ro 1 3 3 fun (i j : Nat) => ([[AV.flt .f64 ua0],[AV.flt .f64 ub1],[AV.flt .f64 (farith BinOp.quo .f64 ua0 ub1)]].getD i []).getD j AV.dead])) <| bif toB (getV (q4 [AV.ro 1 3 3 fun (i j : Nat) => ([[AV.flt .f64 ua0],[AV.flt .f64 ub1],[AV.flt .f64 (farith BinOp.quo .f64 ua0 ub1)]].getD i []).getD j AV.dead])) then ck (sFma.ok [AV.flt .f64 (Option.map (Op.negFloat .f64) (farith BinOp.quo .f64 ua0 ub1)),AV.flt .f64 ub1,AV.flt .f64 ua0]) <| ck (okM [RS.one (LK.i .i64)] (q2 [AV.flt .f64 ((Option.map (Op.negFloat .f64) (farith BinOp.quo .f64 ua0 ub1)).bind fun (x : Nat) => ub1.bind fun (y : Nat) => ua0.bind fun (z : Nat) => FloatKind.f64.format.fma x y z)])) <| ck (okM [RS.one (LK.i .i64)] (q2 [AV.flt .f64 ub1])) <| ck (okM [RS.one (LK.f .f64)] (qx [AV.flt .f64 (farith BinOp.quo .f64 ua0 ub1),AV.int .i64 (IntKind.i64.wrap (toI (getV (q2 [AV.flt .f64 ((Option.map (Op.negFloat .f64) (farith BinOp.quo .f64 ua0 ub1)).bind fun (x : Nat) => ub1.bind fun (y : Nat) => ua0.bind fun (z : Nat) => FloatKind.f64.format.fma x y z)])) * toI (getV (q2 [AV.flt .f64 ub1])))),AV.int .i8 (toI (getV (q6 [AV.int .i8 um2])))])) <| some (AV.flt .f64 (toF (getV (qx [AV.flt .f64 (farith BinOp.quo .f64 ua0 ub1),AV.int .i64 (IntKind.i64.wrap (toI (getV (q2 [AV.flt .f64 ((Option.map (Op.negFloat .f64) (farith BinOp.quo .f64 ua0 ub1)).bind fun (x : Nat) => ub1.bind fun (y : Nat) => ua0.bind fun (z : Nat) => FloatKind.f64.format.fma x y z)])) * toI (getV (q2 [AV.flt .f64 ub1])))),AV.int .i8 (toI (getV (q6 [AV.int .i8 um2])))]))))
  else ck (okM [RS.one LK.b] (qn [AV.flt .f64 (farith BinOp.quo .f64 ua0 ub1),AV.int .i64 0])) <| bif toB (getV (qn [AV.flt .f64 (farith BinOp.quo .f64 ua0 ub1),AV.int .i64 0])) then ck (okM [RS.one (LK.f .f64)] (qx [AV.flt .f64 (farith BinOp.quo .f64 ua0 ub1),AV.int .i64 0,AV.int .i8 (toI (getV (q6 [AV.int .i8 um2])))])) <| some (AV.flt .f64 (toF (getV (qx [AV.flt .f64 (farith BinOp.quo .f64 ua0 ub1),AV.int .i64 0,AV.int .i8 (toI (getV (q6 [AV.int .i8 um2])))]))))
  else let r0 : Option AV := wo [AV.flt .f64 ua0]; ck (okM [RS.agg [LK.b,LK.l 1,LK.i .i64]] r0) <| let r1 : Option AV := wo [AV.flt .f64 (farith BinOp.quo .f64 ua0 ub1)]; ck (okM [RS.agg [LK.b,LK.l 1,LK.i .i64]] r1) <| let r2 : Option AV := wo [AV.flt .f64 ub1]; ck (okM [RS.agg [LK.b,LK.l 1,LK.i .i64]] r2) <| let r3 : Option AV := q8 [AV.agg [AV.bool (toB ((toC (getV r1)).headD .dead)),AV.ro 1 (toN ((toC (getV r1)).tail.headD .dead)) (toR ((toC (getV r1)).tail.headD .dead)) (toG ((toC (getV r1)).tail.headD .dead)),AV.int .i64 (toI ((toC (getV r1)).tail.tail.headD .dead))],AV.agg [AV.bool (toB ((toC (getV r2)).headD .dead)),AV.ro 1 (toN ((toC (getV r2)).tail.headD .dead)) (toR ((toC (getV r2)).tail.headD .dead)) (toG ((toC (getV r2)).tail.headD .dead)),AV.int .i64 (toI ((toC (getV r2)).tail.tail.headD .dead))]]; ck (okM [RS.agg [LK.b,LK.l 1,LK.i .i64]] r3) <| ck (okM [RS.one (LK.i .i64)] (we [AV.agg [AV.bool (toB ((toC (getV r0)).headD .dead)),AV.ro 1 (toN ((toC (getV r0)).tail.headD .dead)) (toR ((toC (getV r0)).tail.headD .dead)) (toG ((toC (getV r0)).tail.headD .dead)),AV.int .i64 (toI ((toC (getV r0)).tail.tail.headD .dead))],AV.agg [AV.bool (toB ((toC (getV r3)).headD .dead)),AV.ro 1 (toN ((toC (getV r3)).tail.headD .dead)) (toR ((toC (getV r3)).tail.headD .dead)) (toG ((toC (getV r3)).tail.headD .dead)),AV.int .i64 (toI ((toC (getV r3)).tail.tail.headD .dead))]])) <| ck (okM [RS.one (LK.i .i64)] (q2 [AV.flt .f64 ub1])) <| ck (okM [RS.one (LK.f .f64)] (qx [AV.flt .f64 (farith BinOp.quo .f64 ua0 ub1),AV.int .i64 (IntKind.i64.wrap (toI (getV (we [AV.agg [AV.bool (toB ((toC (getV r0)).headD .dead)),AV.ro 1 (toN ((toC (getV r0)).tail.headD .dead)) (toR ((toC (getV r0)).tail.headD .dead)) (toG ((toC (getV r0)).tail.headD .dead)),AV.int .i64 (toI ((toC (getV r0)).tail.tail.headD .dead))],AV.agg [AV.bool (toB ((toC (getV r3)).headD .dead)),AV.ro 1 (toN ((toC (getV r3)).tail.headD .dead)) (toR ((toC (getV r3)).tail.headD .dead)) (toG ((toC (getV r3)).tail.headD .dead)),AV.int .i64 (toI ((toC (getV r3)).tail.tail.headD .dead))]])) * toI (getV (q2 [AV.flt .f64 ub1])))),AV.int .i8 (toI (getV (q6 [AV.int .i8 um2])))])) <| some (AV.flt .f64 (toF (getV (qx [AV.flt .f64 (farith BinOp.quo .f64 ua0 ub1),AV.int .i64 (IntKind.i64.wrap (toI (getV (we [AV.agg [AV.bool (toB ((toC (getV r0)).headD .dead)),AV.ro 1 (toN ((toC (getV r0)).tail.headD .dead)) (toR ((toC (getV r0)).tail.headD .dead)) (toG ((toC (getV r0)).tail.headD .dead)),AV.int .i64 (toI ((toC (getV r0)).tail.tail.headD .dead))],AV.agg [AV.bool (toB ((toC (getV r3)).headD .dead)),AV.ro 1 (toN ((toC (getV r3)).tail.headD .dead)) (toR ((toC (getV r3)).tail.headD .dead)) (toG ((toC (getV r3)).tail.headD .dead)),AV.int .i64 (toI ((toC (getV r3)).tail.tail.headD .dead))]])) * toI (getV (q2 [AV.flt .f64 ub1])))),AV.int .i8 (toI (getV (q6 [AV.int .i8 um2])))]))))
noncomputable def mround_Div (q6 q0 : Mo) (q4 q2 : Mo) (qx qn : Mo) (wo q8 we : Mo) (fuel : Nat) (xs : List AV) : Option AV := match xs with
  | [AV.flt .f64 ua0,AV.flt .f64 ub1,AV.int .i8 um2] => ground_Div q6 q0 q4 q2 qx qn wo q8 we fuel ua0 ub1 um2
  | _ => none
abbrev Rround_Div : List RS := [RS.one (LK.f .f64)]
theorem ground_Div_sm (q6 q0 : Mo) (q4 q2 : Mo) (qx qn : Mo) (wo q8 we : Mo) (fuel : Nat) (hΓ : GamOk Pr (Ground_Div q6 q0 q4 q2 qx qn wo q8 we)) (hP : NamesOk Pr) : SmOk Pr 83 (smM Rround_Div (mround_Div q6 q0 q4 q2 qx qn wo q8 we fuel)) := sm0 (fuel := fuel) (d := 7) hΓ hP fun xs v h => by
  unfold mround_Div at h
  split at h
  · exact Eq.trans (by kernel_rfl) h
  · cases h
noncomputable def Gspan_Div_c1 (yx : Mo) : Gam := [(83,smM [RS.one (LK.f .f64)] yx)]
noncomputable def gspan_Div_c1 (yx : Mo) (fuel : Nat) (ux0 uy1 : Option Nat) (um2 : Int) : Option AV :=
  ck (okM [RS.one (LK.f .f64)] (yx [AV.flt .f64 ux0,AV.flt .f64 uy1,AV.int .i8 um2])) <| bif ford .f64 (toF (getV (yx [AV.flt .f64 ux0,AV.flt .f64 uy1,AV.int .i8 um2]))) (toF (getV (yx [AV.flt .f64 ux0,AV.flt .f64 uy1,AV.int .i8 um2]))) == some Ordering.eq then some (AV.flt .f64 (toF (getV (yx [AV.flt .f64 ux0,AV.flt .f64 uy1,AV.int .i8 um2]))))
  else some (AV.flt .f64 (some 0))
noncomputable def mspan_Div_c1 (yx : Mo) (fuel : Nat) (xs : List AV) : Option AV := match xs with
  | [AV.flt .f64 ux0,AV.flt .f64 uy1,AV.int .i8 um2] => gspan_Div_c1 yx fuel ux0 uy1 um2
  | _ => none
abbrev Rspan_Div_c1 : List RS := [RS.one (LK.f .f64)]
theorem gspan_Div_c1_sm (yx : Mo) (fuel : Nat) (hΓ : GamOk Pr (Gspan_Div_c1 yx)) (hP : NamesOk Pr) : SmOk Pr 82 (smM Rspan_Div_c1 (mspan_Div_c1 yx fuel)) := sm0 (fuel := fuel) (d := 7) hΓ hP fun xs v h => by
  unfold mspan_Div_c1 at h
  split at h
  · exact Eq.trans (by kernel_rfl) h
  · cases h
noncomputable def Gspan_corners_a (wc q9 : Mo) (qu qs : Mo) : Gam := [(98,smM [RS.one (LK.f .f64)] wc),(99,smM [RS.one (LK.f .f64)] q9),(84,smM [RS.one (LK.f .f64)] qu),(82,smM [RS.one (LK.f .f64)] qs)]
noncomputable def gspan_corners_a (wc q9 : Mo) (qu qs : Mo) (fuel : Nat) (z3 vt : Option Nat) (z4 z6 : Option Nat) : Option AV :=
  ck (okM [RS.one (LK.f .f64)] (qu [AV.flt .f64 z3,AV.flt .f64 z4,AV.int .i8 1])) <| ck (okM [RS.one (LK.f .f64)] (qu [AV.flt .f64 z3,AV.flt .f64 z4,AV.int .i8 2])) <| ck (okM [RS.one (LK.f .f64)] (qu [AV.flt .f64 z3,AV.flt .f64 z6,AV.int .i8 1])) <| ck (okM [RS.one (LK.f .f64)] (wc [AV.flt .f64 (toF (getV (qu [AV.flt .f64 z3,AV.flt .f64 z4,AV.int .i8 1]))),AV.flt .f64 (toF (getV (qu [AV.flt .f64 z3,AV.flt .f64 z6,AV.int .i8 1])))])) <| ck (okM [RS.one (LK.f .f64)] (qu [AV.flt .f64 z3,AV.flt .f64 z6,AV.int .i8 2])) <| ck (okM [RS.one (LK.f .f64)] (q9 [AV.flt .f64 (toF (getV (qu [AV.flt .f64 z3,AV.flt .f64 z4,AV.int .i8 2]))),AV.flt .f64 (toF (getV (qu [AV.flt .f64 z3,AV.flt .f64 z6,AV.int .i8 2])))])) <| ck (okM [RS.one (LK.f .f64)] (qu [AV.flt .f64 vt,AV.flt .f64 z4,AV.int .i8 1])) <| ck (okM [RS.one (LK.f .f64)] (wc [AV.flt .f64 (toF (getV (wc [AV.flt .f64 (toF (getV (qu [AV.flt .f64 z3,AV.flt .f64 z4,AV.int .i8 1]))),AV.flt .f64 (toF (getV (qu [AV.flt .f64 z3,AV.flt .f64 z6,AV.int .i8 1])))]))),AV.flt .f64 (toF (getV (qu [AV.flt .f64 vt,AV.flt .f64 z4,AV.int .i8 1])))])) <| ck (okM [RS.one (LK.f .f64)] (qu [AV.flt .f64 vt,AV.flt .f64 z4,AV.int .i8 2])) <| ck (okM [RS.one (LK.f .f64)] (q9 [AV.flt .f64 (toF (getV (q9 [AV.flt .f64 (toF (getV (qu [AV.flt .f64 z3,AV.flt .f64 z4,AV.int .i8 2]))),AV.flt .f64 (toF (getV (qu [AV.flt .f64 z3,AV.flt .f64 z6,AV.int .i8 2])))]))),AV.flt .f64 (toF (getV (qu [AV.flt .f64 vt,AV.flt .f64 z4,AV.int .i8 2])))])) <| ck (okM [RS.one (LK.f .f64)] (qu [AV.flt .f64 vt,AV.flt .f64 z6,AV.int .i8 1])) <| ck (okM [RS.one (LK.f .f64)] (wc [AV.flt .f64 (toF (getV (wc [AV.flt .f64 (toF (getV (wc [AV.flt .f64 (toF (getV (qu [AV.flt .f64 z3,AV.flt .f64 z4,AV.int .i8 1]))),AV.flt .f64 (toF (getV (qu [AV.flt .f64 z3,AV.flt .f64 z6,AV.int .i8 1])))]))),AV.flt .f64 (toF (getV (qu [AV.flt .f64 vt,AV.flt .f64 z4,AV.int .i8 1])))]))),AV.flt .f64 (toF (getV (qu [AV.flt .f64 vt,AV.flt .f64 z6,AV.int .i8 1])))])) <| ck (okM [RS.one (LK.f .f64)] (qu [AV.flt .f64 vt,AV.flt .f64 z6,AV.int .i8 2])) <| ck (okM [RS.one (LK.f .f64)] (q9 [AV.flt .f64 (toF (getV (q9 [AV.flt .f64 (toF (getV (q9 [AV.flt .f64 (toF (getV (qu [AV.flt .f64 z3,AV.flt .f64 z4,AV.int .i8 2]))),AV.flt .f64 (toF (getV (qu [AV.flt .f64 z3,AV.flt .f64 z6,AV.int .i8 2])))]))),AV.flt .f64 (toF (getV (qu [AV.flt .f64 vt,AV.flt .f64 z4,AV.int .i8 2])))]))),AV.flt .f64 (toF (getV (qu [AV.flt .f64 vt,AV.flt .f64 z6,AV.int .i8 2])))])) <| some (AV.tup [AV.agg [AV.flt .f64 (toF (getV (wc [AV.flt .f64 (toF (getV (wc [AV.flt .f64 (toF (getV (wc [AV.flt .f64 (toF (getV (qu [AV.flt .f64 z3,AV.flt .f64 z4,AV.int .i8 1]))),AV.flt .f64 (toF (getV (qu [AV.flt .f64 z3,AV.flt .f64 z6,AV.int .i8 1])))]))),AV.flt .f64 (toF (getV (qu [AV.flt .f64 vt,AV.flt .f64 z4,AV.int .i8 1])))]))),AV.flt .f64 (toF (getV (qu [AV.flt .f64 vt,AV.flt .f64 z6,AV.int .i8 1])))]))),AV.flt .f64 (toF (getV (q9 [AV.flt .f64 (toF (getV (q9 [AV.flt .f64 (toF (getV (q9 [AV.flt .f64 (toF (getV (qu [AV.flt .f64 z3,AV.flt .f64 z4,AV.int .i8 2]))),AV.flt .f64 (toF (getV (qu [AV.flt .f64 z3,AV.flt .f64 z6,AV.int .i8 2])))]))),AV.flt .f64 (toF (getV (qu [AV.flt .f64 vt,AV.flt .f64 z4,AV.int .i8 2])))]))),AV.flt .f64 (toF (getV (qu [AV.flt .f64 vt,AV.flt .f64 z6,AV.int .i8 2])))])))]])
theorem gspan_corners_a_run (wc q9 : Mo) (qu qs : Mo) (fuel : Nat) (z3 vt : Option Nat) (z4 z6 : Option Nat) : runX Pr (Gspan_corners_a wc q9 qu qs) [] (fuel + 8) 7 81 Xspan_corners_a [AV.agg [AV.flt .f64 z3,AV.flt .f64 vt],AV.agg [AV.flt .f64 z4,AV.flt .f64 z6],AV.fn (Fn.func 84) [] []] [] = gspan_corners_a wc q9 qu qs fuel z3 vt z4 z6 := by kernel_rfl
noncomputable def mspan_corners_a (wc q9 : Mo) (qu qs : Mo) (fuel : Nat) (xs : List AV) : Option AV := match xs with
  | [AV.agg [AV.flt .f64 z3,AV.flt .f64 vt],AV.agg [AV.flt .f64 z4,AV.flt .f64 z6],AV.fn (Fn.func 84) [] []] => gspan_corners_a wc q9 qu qs fuel z3 vt z4 z6
  | _ => none
theorem gspan_corners_a_sm (wc q9 : Mo) (qu qs : Mo) (fuel : Nat) (hΓ : GamOk Pr (Gspan_corners_a wc q9 qu qs)) (hP : NamesOk Pr) : XOk Pr 81 (smX Rspan_corners_a Xspan_corners_a (mspan_corners_a wc q9 qu qs fuel)) Xspan_corners_a := by
  refine smX_ok (fuel := (fuel + 8)) hΓ hP (LamOk.nil _ _ _) 7 81 Rspan_corners_a Xspan_corners_a _ (fun xs0 ys0 v ha hb h => ?_)
  · skip
    have ha0 : xs0.length = 3 := ha
    clear ha
    obtain ⟨a0,xs1,rfl,ha1⟩ := len_cons ha0
    clear ha0
    obtain ⟨a1,xs2,rfl,ha2⟩ := len_cons ha1
    clear ha1
    obtain ⟨a2,xs3,rfl,ha3⟩ := len_cons ha2
    clear ha2
    obtain rfl := List.eq_nil_of_length_eq_zero ha3
    have hy0 : ys0.map List.length = [] := hb
    clear hb
    obtain rfl := map_nil' hy0
    have h : mspan_corners_a wc q9 qu qs fuel [a0,a1,a2] = some v := h
    generalize hx0 : [a0,a1,a2] = zs at h
    unfold mspan_corners_a at h
    split at h
    · skip
      obtain ⟨rfl,hx1⟩ := List.cons.inj hx0
      obtain ⟨rfl,hx2⟩ := List.cons.inj hx1
      obtain ⟨rfl,hx3⟩ := List.cons.inj hx2
      simp only [List.map_cons,List.map_nil]
      exact (gspan_corners_a_run wc q9 qu qs fuel _ _ _ _).trans h
    · cases h
noncomputable def Gspan_corners_b (wc q9 : Mo) (qu qs : Mo) : Gam := [(98,smM [RS.one (LK.f .f64)] wc),(99,smM [RS.one (LK.f .f64)] q9),(84,smM [RS.one (LK.f .f64)] qu),(82,smM [RS.one (LK.f .f64)] qs)]
noncomputable def gspan_corners_b (wc q9 : Mo) (qu qs : Mo) (fuel : Nat) (z3 vt : Option Nat) (z4 z6 : Option Nat) : Option AV :=
  ck (okM [RS.one (LK.f .f64)] (qs [AV.flt .f64 z3,AV.flt .f64 z4,AV.int .i8 1])) <| ck (okM [RS.one (LK.f .f64)] (qs [AV.flt .f64 z3,AV.flt .f64 z4,AV.int .i8 2])) <| ck (okM [RS.one (LK.f .f64)] (qs [AV.flt .f64 z3,AV.flt .f64 z6,AV.int .i8 1])) <| ck (okM [RS.one (LK.f .f64)] (wc [AV.flt .f64 (toF (getV (qs [AV.flt .f64 z3,AV.flt .f64 z4,AV.int .i8 1]))),AV.flt .f64 (toF (getV (qs [AV.flt .f64 z3,AV.flt .f64 z6,AV.int .i8 1])))])) <| ck (okM [RS.one (LK.f .f64)] (qs [AV.flt .f64 z3,AV.flt .f64 z6,AV.int .i8 2])) <| ck (okM [RS.one (LK.f .f64)] (q9 [AV.flt .f64 (toF (getV (qs [AV.flt .f64 z3,AV.flt .f64 z4,AV.int .i8 2]))),AV.flt .f64 (toF (getV (qs [AV.flt .f64 z3,AV.flt .f64 z6,AV.int .i8 2])))])) <| ck (okM [RS.one (LK.f .f64)] (qs [AV.flt .f64 vt,AV.flt .f64 z4,AV.int .i8 1])) <| ck (okM [RS.one (LK.f .f64)] (wc [AV.flt .f64 (toF (getV (wc [AV.flt .f64 (toF (getV (qs [AV.flt .f64 z3,AV.flt .f64 z4,AV.int .i8 1]))),AV.flt .f64 (toF (getV (qs [AV.flt .f64 z3,AV.flt .f64 z6,AV.int .i8 1])))]))),AV.flt .f64 (toF (getV (qs [AV.flt .f64 vt,AV.flt .f64 z4,AV.int .i8 1])))])) <| ck (okM [RS.one (LK.f .f64)] (qs [AV.flt .f64 vt,AV.flt .f64 z4,AV.int .i8 2])) <| ck (okM [RS.one (LK.f .f64)] (q9 [AV.flt .f64 (toF (getV (q9 [AV.flt .f64 (toF (getV (qs [AV.flt .f64 z3,AV.flt .f64 z4,AV.int .i8 2]))),AV.flt .f64 (toF (getV (qs [AV.flt .f64 z3,AV.flt .f64 z6,AV.int .i8 2])))]))),AV.flt .f64 (toF (getV (qs [AV.flt .f64 vt,AV.flt .f64 z4,AV.int .i8 2])))])) <| ck (okM [RS.one (LK.f .f64)] (qs [AV.flt .f64 vt,AV.flt .f64 z6,AV.int .i8 1])) <| ck (okM [RS.one (LK.f .f64)] (wc [AV.flt .f64 (toF (getV (wc [AV.flt .f64 (toF (getV (wc [AV.flt .f64 (toF (getV (qs [AV.flt .f64 z3,AV.flt .f64 z4,AV.int .i8 1]))),AV.flt .f64 (toF (getV (qs [AV.flt .f64 z3,AV.flt .f64 z6,AV.int .i8 1])))]))),AV.flt .f64 (toF (getV (qs [AV.flt .f64 vt,AV.flt .f64 z4,AV.int .i8 1])))]))),AV.flt .f64 (toF (getV (qs [AV.flt .f64 vt,AV.flt .f64 z6,AV.int .i8 1])))])) <| ck (okM [RS.one (LK.f .f64)] (qs [AV.flt .f64 vt,AV.flt .f64 z6,AV.int .i8 2])) <| ck (okM [RS.one (LK.f .f64)] (q9 [AV.flt .f64 (toF (getV (q9 [AV.flt .f64 (toF (getV (q9 [AV.flt .f64 (toF (getV (qs [AV.flt .f64 z3,AV.flt .f64 z4,AV.int .i8 2]))),AV.flt .f64 (toF (getV (qs [AV.flt .f64 z3,AV.flt .f64 z6,AV.int .i8 2])))]))),AV.flt .f64 (toF (getV (qs [AV.flt .f64 vt,AV.flt .f64 z4,AV.int .i8 2])))]))),AV.flt .f64 (toF (getV (qs [AV.flt .f64 vt,AV.flt .f64 z6,AV.int .i8 2])))])) <| some (AV.tup [AV.agg [AV.flt .f64 (toF (getV (wc [AV.flt .f64 (toF (getV (wc [AV.flt .f64 (toF (getV (wc [AV.flt .f64 (toF (getV (qs [AV.flt .f64 z3,AV.flt .f64 z4,AV.int .i8 1]))),AV.flt .f64 (toF (getV (qs [AV.flt .f64 z3,AV.flt .f64 z6,AV.int .i8 1])))]))),AV.flt .f64 (toF (getV (qs [AV.flt .f64 vt,AV.flt .f64 z4,AV.int .i8 1])))]))),AV.flt .f64 (toF (getV (qs [AV.flt .f64 vt,AV.flt .f64 z6,AV.int .i8 1])))]))),AV.flt .f64 (toF (getV (q9 [AV.flt .f64 (toF (getV (q9 [AV.flt .f64 (toF (getV (q9 [AV.flt .f64 (toF (getV (qs [AV.flt .f64 z3,AV.flt .f64 z4,AV.int .i8 2]))),AV.flt .f64 (toF (getV (qs [AV.flt .f64 z3,AV.flt .f64 z6,AV.int .i8 2])))]))),AV.flt .f64 (toF (getV (qs [AV.flt .f64 vt,AV.flt .f64 z4,AV.int .i8 2])))]))),AV.flt .f64 (toF (getV (qs [AV.flt .f64 vt,AV.flt .f64 z6,AV.int .i8 2])))])))]])
theorem gspan_corners_b_run (wc q9 : Mo) (qu qs : Mo) (fuel : Nat) (z3 vt : Option Nat) (z4 z6 : Option Nat) : runX Pr (Gspan_corners_b wc q9 qu qs) [] (fuel + 8) 7 81 Xspan_corners_b [AV.agg [AV.flt .f64 z3,AV.flt .f64 vt],AV.agg [AV.flt .f64 z4,AV.flt .f64 z6],AV.fn (Fn.func 82) [] []] [] = gspan_corners_b wc q9 qu qs fuel z3 vt z4 z6 := by kernel_rfl
noncomputable def mspan_corners_b (wc q9 : Mo) (qu qs : Mo) (fuel : Nat) (xs : List AV) : Option AV := match xs with
  | [AV.agg [AV.flt .f64 z3,AV.flt .f64 vt],AV.agg [AV.flt .f64 z4,AV.flt .f64 z6],AV.fn (Fn.func 82) [] []] => gspan_corners_b wc q9 qu qs fuel z3 vt z4 z6
  | _ => none
theorem gspan_corners_b_sm (wc q9 : Mo) (qu qs : Mo) (fuel : Nat) (hΓ : GamOk Pr (Gspan_corners_b wc q9 qu qs)) (hP : NamesOk Pr) : XOk Pr 81 (smX Rspan_corners_b Xspan_corners_b (mspan_corners_b wc q9 qu qs fuel)) Xspan_corners_b := by
  refine smX_ok (fuel := (fuel + 8)) hΓ hP (LamOk.nil _ _ _) 7 81 Rspan_corners_b Xspan_corners_b _ (fun xs0 ys0 v ha hb h => ?_)
  · skip
    have ha0 : xs0.length = 3 := ha
    clear ha
    obtain ⟨a0,xs1,rfl,ha1⟩ := len_cons ha0
    clear ha0
    obtain ⟨a1,xs2,rfl,ha2⟩ := len_cons ha1
    clear ha1
    obtain ⟨a2,xs3,rfl,ha3⟩ := len_cons ha2
    clear ha2
    obtain rfl := List.eq_nil_of_length_eq_zero ha3
    have hy0 : ys0.map List.length = [] := hb
    clear hb
    obtain rfl := map_nil' hy0
    have h : mspan_corners_b wc q9 qu qs fuel [a0,a1,a2] = some v := h
    generalize hx0 : [a0,a1,a2] = zs at h
    unfold mspan_corners_b at h
    split at h
    · skip
      obtain ⟨rfl,hx1⟩ := List.cons.inj hx0
      obtain ⟨rfl,hx2⟩ := List.cons.inj hx1
      obtain ⟨rfl,hx3⟩ := List.cons.inj hx2
      simp only [List.map_cons,List.map_nil]
      exact (gspan_corners_b_run wc q9 qu qs fuel _ _ _ _).trans h
    · cases h
noncomputable def Gspan_Mul (w4 qu : Mo) (wi wj : Mo) : Gam := [(80,smM [RS.one LK.b] w4),(84,smM [RS.one (LK.f .f64)] qu),(81,smX Rspan_corners_a Xspan_corners_a wi),(81,smX Rspan_corners_b Xspan_corners_b wj)]
noncomputable def gspan_Mul (w4 qu : Mo) (wi wj : Mo) (fuel : Nat) (z3 vt : Option Nat) (z4 z6 : Option Nat) : Option AV :=
  ck (okM [RS.one LK.b] (w4 [AV.ro 2 2 2 fun (i j : Nat) => ([[AV.flt .f64 z3,AV.flt .f64 vt],[AV.flt .f64 z4,AV.flt .f64 z6]].getD i []).getD j AV.dead])) <| bif !toB (getV (w4 [AV.ro 2 2 2 fun (i j : Nat) => ([[AV.flt .f64 z3,AV.flt .f64 vt],[AV.flt .f64 z4,AV.flt .f64 z6]].getD i []).getD j AV.dead])) then some (AV.tup [AV.agg [AV.flt .f64 (some 0),AV.flt .f64 (some 0)],AV.int .i64 2])
  else let r0 : Option AV := wi [AV.agg [AV.flt .f64 z3,AV.flt .f64 vt],AV.agg [AV.flt .f64 z4,AV.flt .f64 z6],AV.fn (Fn.func 84) [] []]; ck (okX [RS.agg [LK.f .f64,LK.f .f64]] r0) <| some (AV.tup [AV.agg [AV.flt .f64 (toF ((toC ((toT (getV r0)).headD .dead)).headD .dead)),AV.flt .f64 (toF ((toC ((toT (getV r0)).headD .dead)).tail.headD .dead))],AV.int .i64 0])
noncomputable def mspan_Mul (w4 qu : Mo) (wi wj : Mo) (fuel : Nat) (xs : List AV) : Option AV := match xs with
  | [AV.agg [AV.flt .f64 z3,AV.flt .f64 vt],AV.agg [AV.flt .f64 z4,AV.flt .f64 z6]] => gspan_Mul w4 qu wi wj fuel z3 vt z4 z6
  | _ => none
abbrev Rspan_Mul : List RS := [RS.agg [LK.f .f64,LK.f .f64],RS.one (LK.i .i64)]
theorem gspan_Mul_sm (w4 qu : Mo) (wi wj : Mo) (fuel : Nat) (hΓ : GamOk Pr (Gspan_Mul w4 qu wi wj)) (hP : NamesOk Pr) : SmOk Pr 62 (smM Rspan_Mul (mspan_Mul w4 qu wi wj fuel)) := sm0 (fuel := fuel) (d := 7) hΓ hP fun xs v h => by
  unfold mspan_Mul at h
  split at h
  · exact Eq.trans (by kernel_rfl) h
  · cases h
noncomputable def Sbars_times_0 (qih qi3 : Nat) (qht : Ge) (u11 u12 : Int) (vx qc0 : Option Nat) (y1 ys : Option Nat) : St := { env := [(2,AV.ptr 0 0),(3,AV.ptr 1 0),(10,AV.ro 2 qih qi3 qht),(11,AV.int .i64 u11),(12,AV.int .i64 u12)],h := [Blk.box [AV.flt .f64 vx,AV.flt .f64 qc0],Blk.box [AV.flt .f64 y1,AV.flt .f64 ys]],kd := [] }
noncomputable def Xbars_times_0_0 (qds qjm : Option Nat) (qa3 qg8 : Option Nat) : St := { env := [(2,AV.ptr 0 0),(3,AV.ptr 1 0)],h := [Blk.box [AV.flt .f64 qds,AV.flt .f64 qjm],Blk.box [AV.flt .f64 qa3,AV.flt .f64 qg8]],kd := [] }
noncomputable def gbars_times_l0_step (w6 : Mo) (fuel : Nat) (kn : Int → Option Nat → Option Nat → Option AV) (kx0 : Option Nat → Option Nat → Option Nat → Option Nat → Option AV) (qih qi3 : Nat) (qht : Ge) (u11 : Int) (vx qc0 : Option Nat) (u12 : Int) (y1 ys : Option Nat) : Option AV :=
  bif decide (u12 < u11) then ck (decide (0 ≤ u12)) <| ck (decide (u12 < (↑qih : Int))) <| ck (fitKs [LK.f .f64,LK.f .f64] [qht u12.toNat 0,qht u12.toNat 1]) <| let r0 : Option AV := w6 [AV.agg [AV.flt .f64 y1,AV.flt .f64 ys],AV.agg [AV.flt .f64 (toF (qht u12.toNat 0)),AV.flt .f64 (toF (qht u12.toNat 1))]]; ck (okM [RS.agg [LK.f .f64,LK.f .f64],RS.one (LK.i .i64)] r0) <| kn (IntKind.i64.wrap (u12 + 1)) (toF ((toC ((toT (getV r0)).headD .dead)).headD .dead)) (toF ((toC ((toT (getV r0)).headD .dead)).tail.headD .dead))
  else kx0 vx qc0 y1 ys
noncomputable def gbars_times_l0 (w6 : Mo) (fuel : Nat) (kx0 : Option Nat → Option Nat → Option Nat → Option Nat → Option AV) (qih qi3 : Nat) (qht : Ge) (u11 : Int) (vx qc0 : Option Nat) : Nat → Int → Option Nat → Option Nat → Option AV
  | 0,_,_,_ => none
  | n' + 1,u12,y1,ys => gbars_times_l0_step w6 fuel (gbars_times_l0 w6 fuel kx0 qih qi3 qht u11 vx qc0 n') kx0 qih qi3 qht u11 vx qc0 u12 y1 ys
noncomputable def Tbars_times_0 : TS' := ⟨[(2,TA.ptr 0 0),(3,TA.ptr 1 0),(10,TA.ro 2),(11,TA.i .i64),(12,TA.i .i64)],[TB.box [TA.f .f64,TA.f .f64],TB.box [TA.f .f64,TA.f .f64]],[]⟩
noncomputable def Fbars_times_0 (w6 : Mo) (fuel : Nat) (ps : List Pay) (K : Ex → St → Option AV) : Option AV := match ps with
  | .n qih :: .n qi3 :: .g qht :: .i u11 :: .i u12 :: .o vx :: .o qc0 :: .o y1 :: .o ys :: [] => gbars_times_l0 w6 fuel (fun qds qjm qa3 qg8 => K (Ex.exit 0) (Xbars_times_0_0 qds qjm qa3 qg8)) qih qi3 qht u11 vx qc0 fuel u12 y1 ys
  | _ => none
noncomputable def Lbars_times (w6 : Mo) (fuel : Nat) : Lam AV := [(8384544,lam Tbars_times_0 (Fbars_times_0 w6 fuel))]
noncomputable def Gbars_times (w6 : Mo) : Gam := [(62,smM [RS.agg [LK.f .f64,LK.f .f64],RS.one (LK.i .i64)] w6)]
theorem gbars_times_l0_eq (w6 : Mo) (fuel : Nat) (kn : St → Option AV) (K : Ex → St → Option AV) (qih qi3 : Nat) (qht : Ge) (u11 : Int) (vx qc0 : Option Nat) (q1q : Int) (qjf qir : Option Nat) (u12 : Int) (y1 ys : Option Nat) :
    bX Pr (Gbars_times w6) (Lbars_times w6 fuel) 6 41 0 fuel (Sbars_times_0 qih qi3 qht u11 u12 vx qc0 y1 ys) (fun e s => match e with | .normal => kn (hX Pr 41 0 (Sbars_times_0 qih qi3 qht u11 q1q vx qc0 qjf qir) s) | e => K e s) =
    gbars_times_l0_step w6 fuel (fun u12 y1 ys => kn (Sbars_times_0 qih qi3 qht u11 u12 vx qc0 y1 ys)) (fun zk xh0_1 qbl p3 => K (Ex.exit 0) (Xbars_times_0_0 zk xh0_1 qbl p3)) qih qi3 qht u11 vx qc0 u12 y1 ys := by kernel_rfl
theorem gbars_times_l0_ok (w6 : Mo) (fuel : Nat) (K : Ex → St → Option AV) (qih qi3 : Nat) (qht : Ge) (u11 : Int) (vx qc0 : Option Nat) (q1q : Int) (qjf qir : Option Nat) : ∀ (n' : Nat) (u12 : Int) (y1 ys : Option Nat),
    loopK (bX Pr (Gbars_times w6) (Lbars_times w6 fuel) 6 41 0 fuel) (hX Pr 41 0 (Sbars_times_0 qih qi3 qht u11 q1q vx qc0 qjf qir)) n' (Sbars_times_0 qih qi3 qht u11 u12 vx qc0 y1 ys) K = gbars_times_l0 w6 fuel (fun zk xh0_1 qbl p3 => K (Ex.exit 0) (Xbars_times_0_0 zk xh0_1 qbl p3)) qih qi3 qht u11 vx qc0 n' u12 y1 ys
  | 0,_,_,_ => rfl
  | n' + 1,u12,y1,ys => (gbars_times_l0_eq w6 fuel (fun s => loopK (bX Pr (Gbars_times w6) (Lbars_times w6 fuel) 6 41 0 fuel) (hX Pr 41 0 (Sbars_times_0 qih qi3 qht u11 q1q vx qc0 qjf qir)) n' s K) K qih qi3 qht u11 vx qc0 q1q qjf qir u12 y1 ys).trans
    (congrArg (fun kn => gbars_times_l0_step w6 fuel kn _ qih qi3 qht u11 vx qc0 u12 y1 ys) (funext fun u12 => funext fun y1 => funext fun ys => gbars_times_l0_ok w6 fuel K qih qi3 qht u11 vx qc0 q1q qjf qir n' u12 y1 ys))
theorem gbars_times_L0 (w6 : Mo) (fuel : Nat) : LX Pr (Gbars_times w6) (Lbars_times w6 fuel) 6 41 0 fuel := by
  refine .of Tbars_times_0 (Fbars_times_0 w6 fuel) (fun L h => ?_) (fun ps st K r he hr => ?_)
  · have e : (Lbars_times w6 fuel).get (writes (lp Pr 41 0).1) = some (lam Tbars_times_0 (Fbars_times_0 w6 fuel)) := by kernel_rfl
    exact (Option.some.inj (e.symm.trans h)).symm
  · unfold Fbars_times_0 at hr
    split at hr
    · obtain rfl := (Option.some.inj he).symm
      exact (gbars_times_l0_ok w6 fuel K _ _ _ _ _ _ _ _ _ fuel _ _ _).trans hr
    · cases hr
noncomputable def gbars_times (w6 : Mo) (fuel yp qai : Nat) (pn : Ge) : Option AV :=
  ck (decide (0 < (↑yp : Int))) <| ck (fitKs [LK.f .f64,LK.f .f64] [pn 0 0,pn 0 1]) <| ck (decide (1 ≤ (↑yp : Int))) <| gbars_times_l0 w6 fuel
    (fun (_ _ : Option Nat) (qbl p3 : Option Nat) => some (AV.agg [AV.flt .f64 qbl,AV.flt .f64 p3]))
    (yp - 1)
    (qai - 1)
    (fun (i : Nat) => pn (1 + i))
    ((↑(yp - 1) : Int))
    (some 0)
    (some 0) fuel (0) (toF (pn 0 0)) (toF (pn 0 1))
noncomputable def mbars_times (w6 : Mo) (fuel : Nat) (xs : List AV) : Option AV := match xs with
  | [AV.ro 2 yp qai pn] => gbars_times w6 fuel yp qai pn
  | _ => none
abbrev Rbars_times : List RS := [RS.agg [LK.f .f64,LK.f .f64]]
theorem gbars_times_sm (w6 : Mo) (fuel : Nat) (hΓ : GamOk Pr (Gbars_times w6)) (hP : NamesOk Pr) : SmOk Pr 41 (smM Rbars_times (mbars_times w6 fuel)) := smL (L := (Lbars_times w6 fuel)) (n := 1) hΓ hP (by kernel_rfl) (fun i hi => match i,hi with
  | 0,_ => gbars_times_L0 w6 fuel
  | i + 1,hi => absurd hi (by omega)) fun xs v h => by
  unfold mbars_times at h
  split at h
  · exact Eq.trans (by kernel_rfl) h
  · cases h
noncomputable def Gspan_Div (w4 qs : Mo) (wi wj : Mo) : Gam := [(80,smM [RS.one LK.b] w4),(82,smM [RS.one (LK.f .f64)] qs),(81,smX Rspan_corners_a Xspan_corners_a wi),(81,smX Rspan_corners_b Xspan_corners_b wj)]
noncomputable def gspan_Div (w4 qs : Mo) (wi wj : Mo) (fuel : Nat) (z3 vt : Option Nat) (z4 z6 : Option Nat) : Option AV :=
  ck (okM [RS.one LK.b] (w4 [AV.ro 2 2 2 fun (i j : Nat) => ([[AV.flt .f64 z3,AV.flt .f64 vt],[AV.flt .f64 z4,AV.flt .f64 z6]].getD i []).getD j AV.dead])) <| bif !toB (getV (w4 [AV.ro 2 2 2 fun (i j : Nat) => ([[AV.flt .f64 z3,AV.flt .f64 vt],[AV.flt .f64 z4,AV.flt .f64 z6]].getD i []).getD j AV.dead])) then some (AV.tup [AV.agg [AV.flt .f64 (some 0),AV.flt .f64 (some 0)],AV.int .i64 2])
  else ck (bif ford .f64 z4 (some 0) == some Ordering.lt || ford .f64 z4 (some 0) == some Ordering.eq then true else true) <| bif bif ford .f64 z4 (some 0) == some Ordering.lt || ford .f64 z4 (some 0) == some Ordering.eq then ford .f64 z6 (some 0) == some Ordering.gt || ford .f64 z6 (some 0) == some Ordering.eq else false then some (AV.tup [AV.agg [AV.flt .f64 (some 0),AV.flt .f64 (some 0)],AV.int .i64 7])
  else let r0 : Option AV := wj [AV.agg [AV.flt .f64 z3,AV.flt .f64 vt],AV.agg [AV.flt .f64 z4,AV.flt .f64 z6],AV.fn (Fn.func 82) [] []]; ck (okX [RS.agg [LK.f .f64,LK.f .f64]] r0) <| some (AV.tup [AV.agg [AV.flt .f64 (toF ((toC ((toT (getV r0)).headD .dead)).headD .dead)),AV.flt .f64 (toF ((toC ((toT (getV r0)).headD .dead)).tail.headD .dead))],AV.int .i64 0])
noncomputable def mspan_Div (w4 qs : Mo) (wi wj : Mo) (fuel : Nat) (xs : List AV) : Option AV := match xs with
  | [AV.agg [AV.flt .f64 z3,AV.flt .f64 vt],AV.agg [AV.flt .f64 z4,AV.flt .f64 z6]] => gspan_Div w4 qs wi wj fuel z3 vt z4 z6
  | _ => none
abbrev Rspan_Div : List RS := [RS.agg [LK.f .f64,LK.f .f64],RS.one (LK.i .i64)]
theorem gspan_Div_sm (w4 qs : Mo) (wi wj : Mo) (fuel : Nat) (hΓ : GamOk Pr (Gspan_Div w4 qs wi wj)) (hP : NamesOk Pr) : SmOk Pr 61 (smM Rspan_Div (mspan_Div w4 qs wi wj fuel)) := sm0 (fuel := fuel) (d := 7) hΓ hP fun xs v h => by
  unfold mspan_Div at h
  split at h
  · exact Eq.trans (by kernel_rfl) h
  · cases h
noncomputable def Gbars_spring (p7 : Mo) : Gam := [(61,smM [RS.agg [LK.f .f64,LK.f .f64],RS.one (LK.i .i64)] p7)]
noncomputable def gbars_spring (p7 : Mo) (fuel : Nat) (qji qgi : Int) (qgb qgw : Int) (qgl qgx qgd : Int) (qkx qk7 : Option Nat) (qi7 qix : Option Nat) (qwa qn2 : Option Nat) : Option AV :=
  let r0 : Option AV := p7 [AV.agg [AV.flt .f64 qkx,AV.flt .f64 qk7],AV.agg [AV.flt .f64 qi7,AV.flt .f64 qix]]; ck (okM [RS.agg [LK.f .f64,LK.f .f64],RS.one (LK.i .i64)] r0) <| some (AV.agg [AV.int .i64 0,AV.int .u8 qji,AV.int .i64 qgi,AV.int .i64 qgb,AV.int .i64 qgw,AV.int .i64 qgl,AV.int .i64 qgx,AV.int .i64 qgd,AV.flt .f64 (toF ((toC ((toT (getV r0)).headD .dead)).headD .dead)),AV.flt .f64 (toF ((toC ((toT (getV r0)).headD .dead)).tail.headD .dead)),AV.flt .f64 (farith BinOp.quo .f64 qwa qn2)])
noncomputable def mbars_spring (p7 : Mo) (fuel : Nat) (xs : List AV) : Option AV := match xs with
  | [AV.int .u8 qji,AV.agg [AV.int .i64 qgi,AV.int .i64 qgb,AV.int .i64 qgw,AV.int .i64 qgl,AV.int .i64 qgx,AV.int .i64 qgd],AV.agg [AV.flt .f64 qkx,AV.flt .f64 qk7],AV.agg [AV.flt .f64 qi7,AV.flt .f64 qix],AV.flt .f64 qwa,AV.flt .f64 qn2] => gbars_spring p7 fuel qji qgi qgb qgw qgl qgx qgd qkx qk7 qi7 qix qwa qn2
  | _ => none
abbrev Rbars_spring : List RS := [RS.agg [LK.i .i64,LK.i .u8,LK.i .i64,LK.i .i64,LK.i .i64,LK.i .i64,LK.i .i64,LK.i .i64,LK.f .f64,LK.f .f64,LK.f .f64]]
theorem gbars_spring_sm (p7 : Mo) (fuel : Nat) (hΓ : GamOk Pr (Gbars_spring p7)) (hP : NamesOk Pr) : SmOk Pr 40 (smM Rbars_spring (mbars_spring p7 fuel)) := sm0 (fuel := fuel) (d := 7) hΓ hP fun xs v h => by
  unfold mbars_spring at h
  split at h
  · exact Eq.trans (by kernel_rfl) h
  · cases h
noncomputable def Gbars_stands : Gam := []
noncomputable def gbars_stands (fuel : Nat) (qha : ByteArray) (qd4 qfg qhe : Int) (qep qe3 : Bool) (qfs qf4 qe0 : Option Nat) : Option AV :=
  ck (bif qd4 == 2 then true else true) <| ck (bif qd4 == 2 then true else true) <| some (AV.tup [AV.bool (bif qd4 == 2 then !qep else false),AV.bool (bif qd4 == 2 then !qe3 else false)])
noncomputable def mbars_stands (fuel : Nat) (xs : List AV) : Option AV := match xs with
  | [AV.agg [AV.str qha,AV.int .u8 qd4,AV.int .i64 qfg,AV.int .i64 qhe,AV.bool qep,AV.bool qe3,AV.flt .f64 qfs,AV.flt .f64 qf4,AV.flt .f64 qe0]] => gbars_stands fuel qha qd4 qfg qhe qep qe3 qfs qf4 qe0
  | _ => none
abbrev Rbars_stands : List RS := [RS.one LK.b,RS.one LK.b]
theorem gbars_stands_sm (fuel : Nat) (hΓ : GamOk Pr Gbars_stands) (hP : NamesOk Pr) : SmOk Pr 44 (smM Rbars_stands (mbars_stands fuel)) := sm0 (fuel := fuel) (d := 7) hΓ hP fun xs v h => by
  unfold mbars_stands at h
  split at h
  · exact Eq.trans (by kernel_rfl) h
  · cases h
noncomputable def Gbars_springs_c1 (w8 wz wx : Mo) : Gam := [(42,smM [RS.agg [LK.f .f64,LK.f .f64]] w8),(41,smM [RS.agg [LK.f .f64,LK.f .f64]] wz),(40,smM [RS.agg [LK.i .i64,LK.i .u8,LK.i .i64,LK.i .i64,LK.i .i64,LK.i .i64,LK.i .i64,LK.i .i64,LK.f .f64,LK.f .f64,LK.f .f64]] wx)]
noncomputable def gbars_springs_c1 (w8 wz wx : Mo) (fuel : Nat) (qji qgi : Int) (qgb qgw : Int) (qgl qgx qgd : Int) (f0n : Nat) (f0g : Nat → AV) (f1n : Nat) (f1g : Nat → AV) (f2n : Nat) (f2g : Nat → AV) (f3n : Nat) (f3g : Nat → AV) : Option AV :=
  let r0 : Option AV := w8 [AV.flt .f64 (some 4613937818241073152)]; ck (okM [RS.agg [LK.f .f64,LK.f .f64]] r0) <| ck (Nat.blt 0 (f0n - 6)) <| ck (fitK (LK.f .f64) (f0g 6)) <| let r1 : Option AV := w8 [AV.flt .f64 (toF (f0g 6))]; ck (okM [RS.agg [LK.f .f64,LK.f .f64]] r1) <| ck (Nat.blt 0 (f0n - 8)) <| ck (fitK (LK.f .f64) (f0g 8)) <| let r2 : Option AV := w8 [AV.flt .f64 (toF (f0g 8))]; ck (okM [RS.agg [LK.f .f64,LK.f .f64]] r2) <| let r3 : Option AV := wz [AV.ro 2 2 2 fun (i j : Nat) => ([[AV.flt .f64 (toF ((toC (getV r1)).headD .dead)),AV.flt .f64 (toF ((toC (getV r1)).tail.headD .dead))],[AV.flt .f64 (toF ((toC (getV r2)).headD .dead)),AV.flt .f64 (toF ((toC (getV r2)).tail.headD .dead))]].getD i []).getD j AV.dead]; ck (okM [RS.agg [LK.f .f64,LK.f .f64]] r3) <| let r4 : Option AV := wz [AV.ro 2 2 2 fun (i j : Nat) => ([[AV.flt .f64 (toF ((toC (getV r0)).headD .dead)),AV.flt .f64 (toF ((toC (getV r0)).tail.headD .dead))],[AV.flt .f64 (toF ((toC (getV r3)).headD .dead)),AV.flt .f64 (toF ((toC (getV r3)).tail.headD .dead))]].getD i []).getD j AV.dead]; ck (okM [RS.agg [LK.f .f64,LK.f .f64]] r4) <| ck (Nat.blt 0 f1n) <| ck (fitK (LK.f .f64) (f1g 0)) <| let r5 : Option AV := w8 [AV.flt .f64 (toF (f1g 0))]; ck (okM [RS.agg [LK.f .f64,LK.f .f64]] r5) <| ck (Nat.blt 0 f1n) <| ck (fitK (LK.f .f64) (f1g 0)) <| let r6 : Option AV := w8 [AV.flt .f64 (toF (f1g 0))]; ck (okM [RS.agg [LK.f .f64,LK.f .f64]] r6) <| let r7 : Option AV := wz [AV.ro 2 2 2 fun (i j : Nat) => ([[AV.flt .f64 (toF ((toC (getV r5)).headD .dead)),AV.flt .f64 (toF ((toC (getV r5)).tail.headD .dead))],[AV.flt .f64 (toF ((toC (getV r6)).headD .dead)),AV.flt .f64 (toF ((toC (getV r6)).tail.headD .dead))]].getD i []).getD j AV.dead]; ck (okM [RS.agg [LK.f .f64,LK.f .f64]] r7) <| ck (Nat.ble 2 f2n) <| ck (fitKs [LK.f .f64,LK.f .f64] [f2g 0,f2g 1]) <| let r8 : Option AV := wz [AV.ro 2 2 2 fun (i j : Nat) => ([[AV.flt .f64 (toF ((toC (getV r7)).headD .dead)),AV.flt .f64 (toF ((toC (getV r7)).tail.headD .dead))],[AV.flt .f64 (toF (f2g 0)),AV.flt .f64 (toF (f2g 1))]].getD i []).getD j AV.dead]; ck (okM [RS.agg [LK.f .f64,LK.f .f64]] r8) <| ck (Nat.blt 0 (f0n - 6)) <| ck (fitK (LK.f .f64) (f0g 6)) <| ck (Nat.blt 0 (f0n - 8)) <| ck (fitK (LK.f .f64) (f0g 8)) <| ck (Nat.blt 0 f1n) <| ck (fitK (LK.f .f64) (f1g 0)) <| ck (Nat.blt 0 f1n) <| ck (fitK (LK.f .f64) (f1g 0)) <| ck (Nat.blt 0 f3n) <| ck (fitK (LK.f .f64) (f3g 0)) <| let r9 : Option AV := wx [AV.int .u8 qji,AV.agg [AV.int .i64 qgi,AV.int .i64 qgb,AV.int .i64 qgw,AV.int .i64 qgl,AV.int .i64 qgx,AV.int .i64 qgd],AV.agg [AV.flt .f64 (toF ((toC (getV r4)).headD .dead)),AV.flt .f64 (toF ((toC (getV r4)).tail.headD .dead))],AV.agg [AV.flt .f64 (toF ((toC (getV r8)).headD .dead)),AV.flt .f64 (toF ((toC (getV r8)).tail.headD .dead))],AV.flt .f64 (farith BinOp.mul .f64 (some 4613937818241073152) (farith BinOp.mul .f64 (toF (f0g 6)) (toF (f0g 8)))),AV.flt .f64 (farith BinOp.mul .f64 (farith BinOp.mul .f64 (toF (f1g 0)) (toF (f1g 0))) (toF (f3g 0)))]; ck (okM [RS.agg [LK.i .i64,LK.i .u8,LK.i .i64,LK.i .i64,LK.i .i64,LK.i .i64,LK.i .i64,LK.i .i64,LK.f .f64,LK.f .f64,LK.f .f64]] r9) <| some (AV.agg [AV.int .i64 (toI ((toC (getV r9)).headD .dead)),AV.int .u8 (toI ((toC (getV r9)).tail.headD .dead)),AV.int .i64 (toI ((toC (getV r9)).tail.tail.headD .dead)),AV.int .i64 (toI ((toC (getV r9)).tail.tail.tail.headD .dead)),AV.int .i64 (toI ((toC (getV r9)).tail.tail.tail.tail.headD .dead)),AV.int .i64 (toI ((toC (getV r9)).tail.tail.tail.tail.tail.headD .dead)),AV.int .i64 (toI ((toC (getV r9)).tail.tail.tail.tail.tail.tail.headD .dead)),AV.int .i64 (toI ((toC (getV r9)).tail.tail.tail.tail.tail.tail.tail.headD .dead)),AV.flt .f64 (toF ((toC (getV r9)).tail.tail.tail.tail.tail.tail.tail.tail.headD .dead)),AV.flt .f64 (toF ((toC (getV r9)).tail.tail.tail.tail.tail.tail.tail.tail.tail.headD .dead)),AV.flt .f64 (toF ((toC (getV r9)).tail.tail.tail.tail.tail.tail.tail.tail.tail.tail.headD .dead))])
noncomputable def mbars_springs_c1 (w8 wz wx : Mo) (fuel : Nat) (xs : List AV) : Option AV := match xs with
  | [AV.int .u8 qji,AV.agg [AV.int .i64 qgi,AV.int .i64 qgb,AV.int .i64 qgw,AV.int .i64 qgl,AV.int .i64 qgx,AV.int .i64 qgd],AV.rp f0n f0g,AV.rp f1n f1g,AV.rp f2n f2g,AV.rp f3n f3g] => gbars_springs_c1 w8 wz wx fuel qji qgi qgb qgw qgl qgx qgd f0n f0g f1n f1g f2n f2g f3n f3g
  | _ => none
abbrev Rbars_springs_c1 : List RS := [RS.agg [LK.i .i64,LK.i .u8,LK.i .i64,LK.i .i64,LK.i .i64,LK.i .i64,LK.i .i64,LK.i .i64,LK.f .f64,LK.f .f64,LK.f .f64]]
theorem gbars_springs_c1_sm (w8 wz wx : Mo) (fuel : Nat) (hΓ : GamOk Pr (Gbars_springs_c1 w8 wz wx)) (hP : NamesOk Pr) : SmOk Pr 43 (smM Rbars_springs_c1 (mbars_springs_c1 w8 wz wx fuel)) := sm0 (fuel := fuel) (d := 7) hΓ hP fun xs v h => by
  unfold mbars_springs_c1 at h
  split at h
  · exact Eq.trans (by kernel_rfl) h
  · cases h
end Go.Proofs.Tryz
end
