/- Part 6 of the proof: models of the functions, and laws on them. -/
import Derived.Test.YtelhcngnnnhfpaaGreatDoorW5
set_option linter.unusedVariables false
set_option linter.unusedSimpArgs false
set_option linter.unusedSectionVars false
section
namespace Go.Proofs.Tryz
open Go Go.Am
set_option linter.unusedVariables false
set_option maxRecDepth 1000000
noncomputable def Sexact_Limbs_a_0 (wx : Bool) (qu qx : Nat) (qw : Ge) (zj : Bool) (ze zg : Nat) (zh : Ge) (h2z : List AV) (h2e : List (List AV)) : St := { env := [(3,AV.lst 2 1),(4,AV.ptr 1 0)],h := [Blk.box [AV.bool wx,AV.ro 1 qu qx qw],Blk.box [AV.bool zj,AV.ro 1 ze zg zh],Blk.fl 1 h2z h2e],kd := [2] }
noncomputable def Xexact_Limbs_a_0_0 (vm : Bool) (vl vk : Nat) (vi : Ge) (vy : Bool) (pc pb : Nat) (y7 : Ge) (qee : List AV) (qed : List (List AV)) : St := { env := [(3,AV.lst 2 1)],h := [Blk.box [AV.bool vm,AV.ro 1 vl vk vi],Blk.box [AV.bool vy,AV.ro 1 pc pb y7],Blk.fl 1 qee qed],kd := [2] }
noncomputable def gexact_Limbs_a_l0_step (qk qi : Mo) (qd ql qo : Mo) (fuel : Nat) (kn : Bool → Nat → Nat → Ge → List (List AV) → Option AV) (kx0 : Bool → Nat → Nat → Ge → Bool → Nat → Nat → Ge → List AV → List (List AV) → Option AV) (wx : Bool) (qu qx : Nat) (qw : Ge) (h2z : List AV) (zj : Bool) (ze zg : Nat) (zh : Ge) (h2e : List (List AV)) : Option AV :=
  bif (↑ze : Int) == 0 then kx0 wx qu qx qw zj ze zg zh h2z h2e
  else bif zj then kx0 wx qu qx qw zj ze zg zh h2z h2e
  else let r1 : Option AV := qd [AV.ptr 0 0,AV.bool zj,AV.ro 1 ze zg zh]; ck (okX [RS.one LK.b,RS.one (LK.l 1),RS.one (LK.i .u64)] r1) <| ck (decide ((h2e.length + 1) * 8 < 70368744177664)) <| ck (decide (h2e.length + 1 < 4611686018427387904)) <| let r2 : Option AV := qo [AV.ptr (xidx 1 (xtoks [AV.ptr 1 0,AV.ptr 1 0,AV.int .u64 64] [])) 0,AV.ptr (xidx 1 (xtoks [AV.ptr 1 0,AV.ptr 1 0,AV.int .u64 64] [])) 0,AV.int .u64 64,AV.bool (toB ((toT (getV r1)).headD .dead)),AV.ro 1 (toN ((toT (getV r1)).tail.headD .dead)) (toR ((toT (getV r1)).tail.headD .dead)) (toG ((toT (getV r1)).tail.headD .dead))]; ck (okX [RS.one LK.b,RS.one (LK.l 1)] r2) <| kn (toB ((toT (getV r2)).headD .dead)) (toN ((toT (getV r2)).tail.headD .dead)) (toR ((toT (getV r2)).tail.headD .dead)) (toG ((toT (getV r2)).tail.headD .dead)) (h2e ++ [[AV.int .u64 (toI ((toT (getV r1)).tail.tail.headD .dead))]])
noncomputable def gexact_Limbs_a_l0 (qk qi : Mo) (qd ql qo : Mo) (fuel : Nat) (kx0 : Bool → Nat → Nat → Ge → Bool → Nat → Nat → Ge → List AV → List (List AV) → Option AV) (wx : Bool) (qu qx : Nat) (qw : Ge) (h2z : List AV) : Nat → Bool → Nat → Nat → Ge → List (List AV) → Option AV
  | 0,_,_,_,_,_ => none
  | n' + 1,zj,ze,zg,zh,h2e => gexact_Limbs_a_l0_step qk qi qd ql qo fuel (gexact_Limbs_a_l0 qk qi qd ql qo fuel kx0 wx qu qx qw h2z n') kx0 wx qu qx qw h2z zj ze zg zh h2e
noncomputable def Texact_Limbs_a_0 : TS' := ⟨[(3,TA.lst 2 1),(4,TA.ptr 1 0)],[TB.box [TA.b,TA.ro 1],TB.box [TA.b,TA.ro 1],TB.fl 1],[2]⟩
noncomputable def Fexact_Limbs_a_0 (qk qi : Mo) (qd ql qo : Mo) (fuel : Nat) (ps : List Pay) (K : Ex → St → Option AV) : Option AV := match ps with
  | .b wx :: .n qu :: .n qx :: .g qw :: .b zj :: .n ze :: .n zg :: .g zh :: .z h2z :: .e h2e :: [] => gexact_Limbs_a_l0 qk qi qd ql qo fuel (fun vm vl vk vi vy pc pb y7 qee qed => K (Ex.exit 0) (Xexact_Limbs_a_0_0 vm vl vk vi vy pc pb y7 qee qed)) wx qu qx qw h2z fuel zj ze zg zh h2e
  | _ => none
noncomputable def Lexact_Limbs_a (qk qi : Mo) (qd ql qo : Mo) (fuel : Nat) : Lam AV := [(524040,lam Texact_Limbs_a_0 (Fexact_Limbs_a_0 qk qi qd ql qo fuel))]
noncomputable def Gexact_Limbs_a (qk qi : Mo) (qd ql qo : Mo) : Gam := [(84,smX RInt_Abs_ir XInt_Abs_ir qk),(84,smX RInt_Abs_ii XInt_Abs_ii qi),(86,smX RInt_Uint64_i XInt_Uint64_i qd),(85,smX RInt_Rsh_ii XInt_Rsh_ii ql),(85,smX RInt_Rsh_p XInt_Rsh_p qo)]
theorem gexact_Limbs_a_l0_eq (qk qi : Mo) (qd ql qo : Mo) (fuel : Nat) (kn : St → Option AV) (K : Ex → St → Option AV) (wx : Bool) (qu qx : Nat) (qw : Ge) (h2z : List AV) (qb8 : Bool) (qbg qbe : Nat) (qbf : Ge) (qg2 : List (List AV)) (zj : Bool) (ze zg : Nat) (zh : Ge) (h2e : List (List AV)) :
    bX Pr (Gexact_Limbs_a qk qi qd ql qo) (Lexact_Limbs_a qk qi qd ql qo fuel) 6 38 0 fuel (Sexact_Limbs_a_0 wx qu qx qw zj ze zg zh h2z h2e) (fun e s => match e with | .normal => kn (hX Pr 38 0 (Sexact_Limbs_a_0 wx qu qx qw qb8 qbg qbe qbf h2z qg2) s) | e => K e s) =
    gexact_Limbs_a_l0_step qk qi qd ql qo fuel (fun zj ze zg zh h2e => kn (Sexact_Limbs_a_0 wx qu qx qw zj ze zg zh h2z h2e)) (fun z9 zb za w9 v6 yh yg yj qen qdu => K (Ex.exit 0) (Xexact_Limbs_a_0_0 z9 zb za w9 v6 yh yg yj qen qdu)) wx qu qx qw h2z zj ze zg zh h2e := by kernel_rfl
theorem gexact_Limbs_a_l0_ok (qk qi : Mo) (qd ql qo : Mo) (fuel : Nat) (K : Ex → St → Option AV) (wx : Bool) (qu qx : Nat) (qw : Ge) (h2z : List AV) (qb8 : Bool) (qbg qbe : Nat) (qbf : Ge) (qg2 : List (List AV)) : ∀ (n' : Nat) (zj : Bool) (ze zg : Nat) (zh : Ge) (h2e : List (List AV)),
    loopK (bX Pr (Gexact_Limbs_a qk qi qd ql qo) (Lexact_Limbs_a qk qi qd ql qo fuel) 6 38 0 fuel) (hX Pr 38 0 (Sexact_Limbs_a_0 wx qu qx qw qb8 qbg qbe qbf h2z qg2)) n' (Sexact_Limbs_a_0 wx qu qx qw zj ze zg zh h2z h2e) K = gexact_Limbs_a_l0 qk qi qd ql qo fuel (fun z9 zb za w9 v6 yh yg yj qen qdu => K (Ex.exit 0) (Xexact_Limbs_a_0_0 z9 zb za w9 v6 yh yg yj qen qdu)) wx qu qx qw h2z n' zj ze zg zh h2e
  | 0,_,_,_,_,_ => rfl
  | n' + 1,zj,ze,zg,zh,h2e => (gexact_Limbs_a_l0_eq qk qi qd ql qo fuel (fun s => loopK (bX Pr (Gexact_Limbs_a qk qi qd ql qo) (Lexact_Limbs_a qk qi qd ql qo fuel) 6 38 0 fuel) (hX Pr 38 0 (Sexact_Limbs_a_0 wx qu qx qw qb8 qbg qbe qbf h2z qg2)) n' s K) K wx qu qx qw h2z qb8 qbg qbe qbf qg2 zj ze zg zh h2e).trans
    (congrArg (fun kn => gexact_Limbs_a_l0_step qk qi qd ql qo fuel kn _ wx qu qx qw h2z zj ze zg zh h2e) (funext fun zj => funext fun ze => funext fun zg => funext fun zh => funext fun h2e => gexact_Limbs_a_l0_ok qk qi qd ql qo fuel K wx qu qx qw h2z qb8 qbg qbe qbf qg2 n' zj ze zg zh h2e))
theorem gexact_Limbs_a_L0 (qk qi : Mo) (qd ql qo : Mo) (fuel : Nat) : LX Pr (Gexact_Limbs_a qk qi qd ql qo) (Lexact_Limbs_a qk qi qd ql qo fuel) 6 38 0 fuel := by
  refine .of Texact_Limbs_a_0 (Fexact_Limbs_a_0 qk qi qd ql qo fuel) (fun L h => ?_) (fun ps st K r he hr => ?_)
  · have e : (Lexact_Limbs_a qk qi qd ql qo fuel).get (writes (lp Pr 38 0).1) = some (lam Texact_Limbs_a_0 (Fexact_Limbs_a_0 qk qi qd ql qo fuel)) := by kernel_rfl
    exact (Option.some.inj (e.symm.trans h)).symm
  · unfold Fexact_Limbs_a_0 at hr
    split at hr
    · obtain rfl := (Option.some.inj he).symm
      exact (gexact_Limbs_a_l0_ok qk qi qd ql qo fuel K _ _ _ _ _ _ _ _ _ _ fuel _ _ _ _ _).trans hr
    · cases hr
noncomputable def gexact_Limbs_a (qk qi : Mo) (qd ql qo : Mo) (fuel : Nat) (wh : Bool) (qr qz : Nat) (qy : Ge) : Option AV :=
  let r0 : Option AV := qi [AV.ptr (xidx [Blk.box [AV.bool wh,AV.ro 1 qr qz qy]].length (xtoks [AV.ptr [Blk.box [AV.bool wh,AV.ro 1 qr qz qy]].length 0,AV.ptr 0 0] [])) 0,AV.ptr (xidx 0 (xtoks [AV.ptr [Blk.box [AV.bool wh,AV.ro 1 qr qz qy]].length 0,AV.ptr 0 0] [])) 0,AV.bool false,AV.ro 1 0 0 fun (x j : Nat) => [AV.int .u32 0].getD j AV.dead,AV.bool wh,AV.ro 1 qr qz qy]; ck (okX [RS.one LK.b,RS.one (LK.l 1),RS.one LK.b,RS.one (LK.l 1)] r0) <| gexact_Limbs_a_l0 qk qi qd ql qo fuel
    (fun (z9 : Bool) (zb za : Nat) (w9 : Ge) (_ : Bool) (_ _ : Nat) (_ : Ge) (qen : List AV) (qdu : List (List AV)) => some (AV.tup [AV.bool z9,AV.ro 1 zb za w9,AV.ro 1 qdu.length qdu.length fun (i j : Nat) => (qdu.getD i qen).getD j AV.dead]))
    (toB ((toT (getV r0)).tail.tail.headD .dead))
    (toN ((toT (getV r0)).tail.tail.tail.headD .dead))
    (toR ((toT (getV r0)).tail.tail.tail.headD .dead))
    (toG ((toT (getV r0)).tail.tail.tail.headD .dead))
    ([AV.int .u64 0]) fuel (toB ((toT (getV r0)).headD .dead)) (toN ((toT (getV r0)).tail.headD .dead)) (toR ((toT (getV r0)).tail.headD .dead)) (toG ((toT (getV r0)).tail.headD .dead)) ([])
theorem gexact_Limbs_a_run (qk qi : Mo) (qd ql qo : Mo) (fuel : Nat) (wh : Bool) (qr qz : Nat) (qy : Ge) : runX Pr (Gexact_Limbs_a qk qi qd ql qo) [((6,38),Lexact_Limbs_a qk qi qd ql qo fuel)] fuel 7 38 Xexact_Limbs_a [AV.ptr 0 0] [Blk.box [AV.bool wh,AV.ro 1 qr qz qy]] = gexact_Limbs_a qk qi qd ql qo fuel wh qr qz qy := by kernel_rfl
noncomputable def mexact_Limbs_a (qk qi : Mo) (qd ql qo : Mo) (fuel : Nat) (xs : List AV) : Option AV := match xs with
  | [AV.ptr 0 0,AV.bool wh,AV.ro 1 qr qz qy] => gexact_Limbs_a qk qi qd ql qo fuel wh qr qz qy
  | _ => none
theorem gexact_Limbs_a_sm (qk qi : Mo) (qd ql qo : Mo) (fuel : Nat) (hΓ : GamOk Pr (Gexact_Limbs_a qk qi qd ql qo)) (hP : NamesOk Pr) : XOk Pr 38 (smX Rexact_Limbs_a Xexact_Limbs_a (mexact_Limbs_a qk qi qd ql qo fuel)) Xexact_Limbs_a := by
  refine smX_ok (fuel := fuel) hΓ hP (LamOk.of 6 38 (Lexact_Limbs_a qk qi qd ql qo fuel) 1 (by kernel_rfl) (fun i hi => ?_)) 7 38 Rexact_Limbs_a Xexact_Limbs_a _ (fun xs0 ys0 v ha hb h => ?_)
  · match i,hi with
    | 0,_ => exact gexact_Limbs_a_L0 qk qi qd ql qo fuel
    | i + 1,hi => exact absurd hi (by omega)
  · skip
    have ha0 : xs0.length = 1 := ha
    clear ha
    obtain ⟨a0,xs1,rfl,ha1⟩ := len_cons ha0
    clear ha0
    obtain rfl := List.eq_nil_of_length_eq_zero ha1
    have hy0 : ys0.map List.length = [2] := hb
    clear hb
    obtain ⟨wh,ys1,rfl,hb0_0,hy1⟩ := map_cons' hy0
    clear hy0
    obtain ⟨c0_0,b0_1,rfl,hb0_1⟩ := len_cons hb0_0
    clear hb0_0
    obtain ⟨c0_1,z8,rfl,hb0_2⟩ := len_cons hb0_1
    clear hb0_1
    obtain rfl := List.eq_nil_of_length_eq_zero hb0_2
    obtain rfl := map_nil' hy1
    have h : mexact_Limbs_a qk qi qd ql qo fuel [a0,c0_0,c0_1] = some v := h
    generalize hx0 : [a0,c0_0,c0_1] = zs at h
    unfold mexact_Limbs_a at h
    split at h
    · skip
      obtain ⟨rfl,hx1⟩ := List.cons.inj hx0
      obtain ⟨rfl,hx2⟩ := List.cons.inj hx1
      obtain ⟨rfl,hx3⟩ := List.cons.inj hx2
      simp only [List.map_cons,List.map_nil]
      exact (gexact_Limbs_a_run qk qi qd ql qo fuel _ _ _ _).trans h
    · cases h
noncomputable def Sexact_Limbs_r_0 (wx : Bool) (qu qx : Nat) (qw : Ge) (ph : Bool) (qfn qfl : Nat) (qfo : Ge) (zj : Bool) (ze zg : Nat) (zh : Ge) (h2z : List AV) (h2e : List (List AV)) : St := { env := [(3,AV.lst 2 1),(4,AV.ptr 1 0)],h := [Blk.box [AV.bool wx,AV.ro 1 qu qx qw,AV.bool ph,AV.ro 1 qfn qfl qfo],Blk.box [AV.bool zj,AV.ro 1 ze zg zh],Blk.fl 1 h2z h2e],kd := [2] }
noncomputable def Xexact_Limbs_r_0_0 (vm : Bool) (vl vk : Nat) (vi : Ge) (qgg : Bool) (qme qny : Nat) (qng : Ge) (vy : Bool) (pc pb : Nat) (y7 : Ge) (qee : List AV) (qed : List (List AV)) : St := { env := [(3,AV.lst 2 1)],h := [Blk.box [AV.bool vm,AV.ro 1 vl vk vi,AV.bool qgg,AV.ro 1 qme qny qng],Blk.box [AV.bool vy,AV.ro 1 pc pb y7],Blk.fl 1 qee qed],kd := [2] }
noncomputable def gexact_Limbs_r_l0_step (qk qi : Mo) (qd ql qo : Mo) (fuel : Nat) (kn : Bool → Nat → Nat → Ge → List (List AV) → Option AV) (kx0 : Bool → Nat → Nat → Ge → Bool → Nat → Nat → Ge → Bool → Nat → Nat → Ge → List AV → List (List AV) → Option AV) (wx : Bool) (qu qx : Nat) (qw : Ge) (ph : Bool) (qfn qfl : Nat) (qfo : Ge) (h2z : List AV) (zj : Bool) (ze zg : Nat) (zh : Ge) (h2e : List (List AV)) : Option AV :=
  bif (↑ze : Int) == 0 then kx0 wx qu qx qw ph qfn qfl qfo zj ze zg zh h2z h2e
  else bif zj then kx0 wx qu qx qw ph qfn qfl qfo zj ze zg zh h2z h2e
  else let r1 : Option AV := qd [AV.ptr 0 0,AV.bool zj,AV.ro 1 ze zg zh]; ck (okX [RS.one LK.b,RS.one (LK.l 1),RS.one (LK.i .u64)] r1) <| ck (decide ((h2e.length + 1) * 8 < 70368744177664)) <| ck (decide (h2e.length + 1 < 4611686018427387904)) <| let r2 : Option AV := qo [AV.ptr (xidx 1 (xtoks [AV.ptr 1 0,AV.ptr 1 0,AV.int .u64 64] [])) 0,AV.ptr (xidx 1 (xtoks [AV.ptr 1 0,AV.ptr 1 0,AV.int .u64 64] [])) 0,AV.int .u64 64,AV.bool (toB ((toT (getV r1)).headD .dead)),AV.ro 1 (toN ((toT (getV r1)).tail.headD .dead)) (toR ((toT (getV r1)).tail.headD .dead)) (toG ((toT (getV r1)).tail.headD .dead))]; ck (okX [RS.one LK.b,RS.one (LK.l 1)] r2) <| kn (toB ((toT (getV r2)).headD .dead)) (toN ((toT (getV r2)).tail.headD .dead)) (toR ((toT (getV r2)).tail.headD .dead)) (toG ((toT (getV r2)).tail.headD .dead)) (h2e ++ [[AV.int .u64 (toI ((toT (getV r1)).tail.tail.headD .dead))]])
noncomputable def gexact_Limbs_r_l0 (qk qi : Mo) (qd ql qo : Mo) (fuel : Nat) (kx0 : Bool → Nat → Nat → Ge → Bool → Nat → Nat → Ge → Bool → Nat → Nat → Ge → List AV → List (List AV) → Option AV) (wx : Bool) (qu qx : Nat) (qw : Ge) (ph : Bool) (qfn qfl : Nat) (qfo : Ge) (h2z : List AV) : Nat → Bool → Nat → Nat → Ge → List (List AV) → Option AV
  | 0,_,_,_,_,_ => none
  | n' + 1,zj,ze,zg,zh,h2e => gexact_Limbs_r_l0_step qk qi qd ql qo fuel (gexact_Limbs_r_l0 qk qi qd ql qo fuel kx0 wx qu qx qw ph qfn qfl qfo h2z n') kx0 wx qu qx qw ph qfn qfl qfo h2z zj ze zg zh h2e
termination_by structural k => k
noncomputable def Texact_Limbs_r_0 : TS' := ⟨[(3,TA.lst 2 1),(4,TA.ptr 1 0)],[TB.box [TA.b,TA.ro 1,TA.b,TA.ro 1],TB.box [TA.b,TA.ro 1],TB.fl 1],[2]⟩
noncomputable def Fexact_Limbs_r_0 (qk qi : Mo) (qd ql qo : Mo) (fuel : Nat) (ps : List Pay) (K : Ex → St → Option AV) : Option AV := match ps with
  | .b wx :: .n qu :: .n qx :: .g qw :: .b ph :: .n qfn :: .n qfl :: .g qfo :: .b zj :: .n ze :: .n zg :: .g zh :: .z h2z :: .e h2e :: [] => gexact_Limbs_r_l0 qk qi qd ql qo fuel (fun vm vl vk vi qgg qme qny qng vy pc pb y7 qee qed => K (Ex.exit 0) (Xexact_Limbs_r_0_0 vm vl vk vi qgg qme qny qng vy pc pb y7 qee qed)) wx qu qx qw ph qfn qfl qfo h2z fuel zj ze zg zh h2e
  | _ => none
noncomputable def Lexact_Limbs_r (qk qi : Mo) (qd ql qo : Mo) (fuel : Nat) : Lam AV := [(524040,lam Texact_Limbs_r_0 (Fexact_Limbs_r_0 qk qi qd ql qo fuel))]
noncomputable def Gexact_Limbs_r (qk qi : Mo) (qd ql qo : Mo) : Gam := [(84,smX RInt_Abs_ir XInt_Abs_ir qk),(84,smX RInt_Abs_ii XInt_Abs_ii qi),(86,smX RInt_Uint64_i XInt_Uint64_i qd),(85,smX RInt_Rsh_ii XInt_Rsh_ii ql),(85,smX RInt_Rsh_p XInt_Rsh_p qo)]
theorem gexact_Limbs_r_l0_eq (qk qi : Mo) (qd ql qo : Mo) (fuel : Nat) (kn : St → Option AV) (K : Ex → St → Option AV) (wx : Bool) (qu qx : Nat) (qw : Ge) (ph : Bool) (qfn qfl : Nat) (qfo : Ge) (h2z : List AV) (qb8 : Bool) (qbg qbe : Nat) (qbf : Ge) (qg2 : List (List AV)) (zj : Bool) (ze zg : Nat) (zh : Ge) (h2e : List (List AV)) :
    bX Pr (Gexact_Limbs_r qk qi qd ql qo) (Lexact_Limbs_r qk qi qd ql qo fuel) 6 38 0 fuel (Sexact_Limbs_r_0 wx qu qx qw ph qfn qfl qfo zj ze zg zh h2z h2e) (fun e s => match e with | .normal => kn (hX Pr 38 0 (Sexact_Limbs_r_0 wx qu qx qw ph qfn qfl qfo qb8 qbg qbe qbf h2z qg2) s) | e => K e s) =
    gexact_Limbs_r_l0_step qk qi qd ql qo fuel (fun zj ze zg zh h2e => kn (Sexact_Limbs_r_0 wx qu qx qw ph qfn qfl qfo zj ze zg zh h2z h2e)) (fun z9 zb za w9 qdv qke qj2 qkd v6 yh yg yj qen qdu => K (Ex.exit 0) (Xexact_Limbs_r_0_0 z9 zb za w9 qdv qke qj2 qkd v6 yh yg yj qen qdu)) wx qu qx qw ph qfn qfl qfo h2z zj ze zg zh h2e := by kernel_rfl
theorem gexact_Limbs_r_l0_ok (qk qi : Mo) (qd ql qo : Mo) (fuel : Nat) (K : Ex → St → Option AV) (wx : Bool) (qu qx : Nat) (qw : Ge) (ph : Bool) (qfn qfl : Nat) (qfo : Ge) (h2z : List AV) (qb8 : Bool) (qbg qbe : Nat) (qbf : Ge) (qg2 : List (List AV)) : ∀ (n' : Nat) (zj : Bool) (ze zg : Nat) (zh : Ge) (h2e : List (List AV)),
    loopK (bX Pr (Gexact_Limbs_r qk qi qd ql qo) (Lexact_Limbs_r qk qi qd ql qo fuel) 6 38 0 fuel) (hX Pr 38 0 (Sexact_Limbs_r_0 wx qu qx qw ph qfn qfl qfo qb8 qbg qbe qbf h2z qg2)) n' (Sexact_Limbs_r_0 wx qu qx qw ph qfn qfl qfo zj ze zg zh h2z h2e) K = gexact_Limbs_r_l0 qk qi qd ql qo fuel (fun z9 zb za w9 qdv qke qj2 qkd v6 yh yg yj qen qdu => K (Ex.exit 0) (Xexact_Limbs_r_0_0 z9 zb za w9 qdv qke qj2 qkd v6 yh yg yj qen qdu)) wx qu qx qw ph qfn qfl qfo h2z n' zj ze zg zh h2e
  | 0,_,_,_,_,_ => rfl
  | n' + 1,zj,ze,zg,zh,h2e => (gexact_Limbs_r_l0_eq qk qi qd ql qo fuel (fun s => loopK (bX Pr (Gexact_Limbs_r qk qi qd ql qo) (Lexact_Limbs_r qk qi qd ql qo fuel) 6 38 0 fuel) (hX Pr 38 0 (Sexact_Limbs_r_0 wx qu qx qw ph qfn qfl qfo qb8 qbg qbe qbf h2z qg2)) n' s K) K wx qu qx qw ph qfn qfl qfo h2z qb8 qbg qbe qbf qg2 zj ze zg zh h2e).trans
    (congrArg (fun kn => gexact_Limbs_r_l0_step qk qi qd ql qo fuel kn _ wx qu qx qw ph qfn qfl qfo h2z zj ze zg zh h2e) (funext fun zj => funext fun ze => funext fun zg => funext fun zh => funext fun h2e => gexact_Limbs_r_l0_ok qk qi qd ql qo fuel K wx qu qx qw ph qfn qfl qfo h2z qb8 qbg qbe qbf qg2 n' zj ze zg zh h2e))
theorem gexact_Limbs_r_L0 (qk qi : Mo) (qd ql qo : Mo) (fuel : Nat) : LX Pr (Gexact_Limbs_r qk qi qd ql qo) (Lexact_Limbs_r qk qi qd ql qo fuel) 6 38 0 fuel := by
  refine .of Texact_Limbs_r_0 (Fexact_Limbs_r_0 qk qi qd ql qo fuel) (fun L h => ?_) (fun ps st K r he hr => ?_)
  · have e : (Lexact_Limbs_r qk qi qd ql qo fuel).get (writes (lp Pr 38 0).1) = some (lam Texact_Limbs_r_0 (Fexact_Limbs_r_0 qk qi qd ql qo fuel)) := by kernel_rfl
    exact (Option.some.inj (e.symm.trans h)).symm
  · unfold Fexact_Limbs_r_0 at hr
    split at hr
    · obtain rfl := (Option.some.inj he).symm
      exact (gexact_Limbs_r_l0_ok qk qi qd ql qo fuel K _ _ _ _ _ _ _ _ _ _ _ _ _ _ fuel _ _ _ _ _).trans hr
    · cases hr
noncomputable def gexact_Limbs_r (qk qi : Mo) (qd ql qo : Mo) (fuel : Nat) (wh : Bool) (qr qz : Nat) (qy : Ge) (z8 : Bool) (zu zz : Nat) (zw : Ge) : Option AV :=
  let r0 : Option AV := qk [AV.ptr (xidx [Blk.box [AV.bool wh,AV.ro 1 qr qz qy,AV.bool z8,AV.ro 1 zu zz zw]].length (xtoks [AV.ptr [Blk.box [AV.bool wh,AV.ro 1 qr qz qy,AV.bool z8,AV.ro 1 zu zz zw]].length 0,AV.ptr 0 0] [])) 0,AV.ptr (xidx 0 (xtoks [AV.ptr [Blk.box [AV.bool wh,AV.ro 1 qr qz qy,AV.bool z8,AV.ro 1 zu zz zw]].length 0,AV.ptr 0 0] [])) 0,AV.bool false,AV.ro 1 0 0 fun (x j : Nat) => [AV.int .u32 0].getD j AV.dead,AV.bool wh,AV.ro 1 qr qz qy,AV.bool z8,AV.ro 1 zu zz zw]; ck (okX [RS.one LK.b,RS.one (LK.l 1),RS.one LK.b,RS.one (LK.l 1),RS.one LK.b,RS.one (LK.l 1)] r0) <| gexact_Limbs_r_l0 qk qi qd ql qo fuel
    (fun (z9 : Bool) (zb za : Nat) (w9 : Ge) (qdv : Bool) (qke qj2 : Nat) (qkd : Ge) (_ : Bool) (_ _ : Nat) (_ : Ge) (qen : List AV) (qdu : List (List AV)) => some (AV.tup [AV.bool z9,AV.ro 1 zb za w9,AV.bool qdv,AV.ro 1 qke qj2 qkd,AV.ro 1 qdu.length qdu.length fun (i j : Nat) => (qdu.getD i qen).getD j AV.dead]))
    (toB ((toT (getV r0)).tail.tail.headD .dead))
    (toN ((toT (getV r0)).tail.tail.tail.headD .dead))
    (toR ((toT (getV r0)).tail.tail.tail.headD .dead))
    (toG ((toT (getV r0)).tail.tail.tail.headD .dead))
    (toB ((toT (getV r0)).tail.tail.tail.tail.headD .dead))
    (toN ((toT (getV r0)).tail.tail.tail.tail.tail.headD .dead))
    (toR ((toT (getV r0)).tail.tail.tail.tail.tail.headD .dead))
    (toG ((toT (getV r0)).tail.tail.tail.tail.tail.headD .dead))
    ([AV.int .u64 0]) fuel (toB ((toT (getV r0)).headD .dead)) (toN ((toT (getV r0)).tail.headD .dead)) (toR ((toT (getV r0)).tail.headD .dead)) (toG ((toT (getV r0)).tail.headD .dead)) ([])
theorem gexact_Limbs_r_run (qk qi : Mo) (qd ql qo : Mo) (fuel : Nat) (wh : Bool) (qr qz : Nat) (qy : Ge) (z8 : Bool) (zu zz : Nat) (zw : Ge) : runX Pr (Gexact_Limbs_r qk qi qd ql qo) [((6,38),Lexact_Limbs_r qk qi qd ql qo fuel)] fuel 7 38 Xexact_Limbs_r [AV.ptr 0 0] [Blk.box [AV.bool wh,AV.ro 1 qr qz qy,AV.bool z8,AV.ro 1 zu zz zw]] = gexact_Limbs_r qk qi qd ql qo fuel wh qr qz qy z8 zu zz zw := by kernel_rfl
noncomputable def mexact_Limbs_r (qk qi : Mo) (qd ql qo : Mo) (fuel : Nat) (xs : List AV) : Option AV := match xs with
  | [AV.ptr 0 0,AV.bool wh,AV.ro 1 qr qz qy,AV.bool z8,AV.ro 1 zu zz zw] => gexact_Limbs_r qk qi qd ql qo fuel wh qr qz qy z8 zu zz zw
  | _ => none
theorem gexact_Limbs_r_sm (qk qi : Mo) (qd ql qo : Mo) (fuel : Nat) (hΓ : GamOk Pr (Gexact_Limbs_r qk qi qd ql qo)) (hP : NamesOk Pr) : XOk Pr 38 (smX Rexact_Limbs_r Xexact_Limbs_r (mexact_Limbs_r qk qi qd ql qo fuel)) Xexact_Limbs_r := by
  refine smX_ok (fuel := fuel) hΓ hP (LamOk.of 6 38 (Lexact_Limbs_r qk qi qd ql qo fuel) 1 (by kernel_rfl) (fun i hi => ?_)) 7 38 Rexact_Limbs_r Xexact_Limbs_r _ (fun xs0 ys0 v ha hb h => ?_)
  · match i,hi with
    | 0,_ => exact gexact_Limbs_r_L0 qk qi qd ql qo fuel
    | i + 1,hi => exact absurd hi (by omega)
  · skip
    have ha0 : xs0.length = 1 := ha
    clear ha
    obtain ⟨a0,xs1,rfl,ha1⟩ := len_cons ha0
    clear ha0
    obtain rfl := List.eq_nil_of_length_eq_zero ha1
    have hy0 : ys0.map List.length = [4] := hb
    clear hb
    obtain ⟨wh,ys1,rfl,hb0_0,hy1⟩ := map_cons' hy0
    clear hy0
    obtain ⟨c0_0,b0_1,rfl,hb0_1⟩ := len_cons hb0_0
    clear hb0_0
    obtain ⟨c0_1,z8,rfl,hb0_2⟩ := len_cons hb0_1
    clear hb0_1
    obtain ⟨c0_2,b0_3,rfl,hb0_3⟩ := len_cons hb0_2
    clear hb0_2
    obtain ⟨c0_3,b0_4,rfl,hb0_4⟩ := len_cons hb0_3
    clear hb0_3
    obtain rfl := List.eq_nil_of_length_eq_zero hb0_4
    obtain rfl := map_nil' hy1
    have h : mexact_Limbs_r qk qi qd ql qo fuel [a0,c0_0,c0_1,c0_2,c0_3] = some v := h
    generalize hx0 : [a0,c0_0,c0_1,c0_2,c0_3] = zs at h
    unfold mexact_Limbs_r at h
    split at h
    · skip
      obtain ⟨rfl,hx1⟩ := List.cons.inj hx0
      obtain ⟨rfl,hx2⟩ := List.cons.inj hx1
      obtain ⟨rfl,hx3⟩ := List.cons.inj hx2
      obtain ⟨rfl,hx4⟩ := List.cons.inj hx3
      obtain ⟨rfl,hx5⟩ := List.cons.inj hx4
      simp only [List.map_cons,List.map_nil]
      exact (gexact_Limbs_r_run qk qi qd ql qo fuel _ _ _ _ _ _ _ _).trans h
    · cases h
noncomputable def LInt_SetInt64_rb (qj qc : Mo) (qb qa : Mo) (fuel : Nat) : Lam AV := []
noncomputable def GInt_SetInt64_rb (qj qc : Mo) (qb qa : Mo) : Gam := [(194,smM [RS.one (LK.l (nat_lit 1))] qj),(133,smX RInt_give_i XInt_give_i qc),(133,smX RInt_give_ra XInt_give_ra qb),(133,smX RInt_give_rb XInt_give_rb qa)]
noncomputable def gInt_SetInt64_rb (qj qc : Mo) (qb qa : Mo) (fuel : Nat) (ux1 : Int) (wh : Bool) (qr qz : Nat) (qy : Ge) (z8 : Bool) (zu zz : Nat) (zw : Ge) : Option AV :=
  bif decide (ux1 < 0) then let r0 : Option AV := qj [AV.int .u64 (IntKind.u64.wrap (0 - IntKind.u64.wrap ux1))]; ck (okM [RS.one (LK.l 1)] r0) <| let r1 : Option AV := qa [AV.ptr (xidx 0 (xtoks [AV.ptr 0 2,AV.bool (decide (ux1 < 0)),AV.ro 1 (toN (getV r0)) (toR (getV r0)) (toG (getV r0))] [])) 2,AV.bool (decide (ux1 < 0)),AV.ro 1 (toN (getV r0)) (toR (getV r0)) (toG (getV r0)),AV.bool wh,AV.ro 1 qr qz qy,AV.bool z8,AV.ro 1 zu zz zw]; ck (okX [RS.one LK.b,RS.one (LK.l 1),RS.one LK.b,RS.one (LK.l 1)] r1) <| some (AV.tup [AV.bool (toB ((toT (getV r1)).headD .dead)),AV.ro 1 (toN ((toT (getV r1)).tail.headD .dead)) (toR ((toT (getV r1)).tail.headD .dead)) (toG ((toT (getV r1)).tail.headD .dead)),AV.bool (toB ((toT (getV r1)).tail.tail.headD .dead)),AV.ro 1 (toN ((toT (getV r1)).tail.tail.tail.headD .dead)) (toR ((toT (getV r1)).tail.tail.tail.headD .dead)) (toG ((toT (getV r1)).tail.tail.tail.headD .dead))])
  else let r2 : Option AV := qj [AV.int .u64 (IntKind.u64.wrap ux1)]; ck (okM [RS.one (LK.l 1)] r2) <| let r3 : Option AV := qa [AV.ptr (xidx 0 (xtoks [AV.ptr 0 2,AV.bool (decide (ux1 < 0)),AV.ro 1 (toN (getV r2)) (toR (getV r2)) (toG (getV r2))] [])) 2,AV.bool (decide (ux1 < 0)),AV.ro 1 (toN (getV r2)) (toR (getV r2)) (toG (getV r2)),AV.bool wh,AV.ro 1 qr qz qy,AV.bool z8,AV.ro 1 zu zz zw]; ck (okX [RS.one LK.b,RS.one (LK.l 1),RS.one LK.b,RS.one (LK.l 1)] r3) <| some (AV.tup [AV.bool (toB ((toT (getV r3)).headD .dead)),AV.ro 1 (toN ((toT (getV r3)).tail.headD .dead)) (toR ((toT (getV r3)).tail.headD .dead)) (toG ((toT (getV r3)).tail.headD .dead)),AV.bool (toB ((toT (getV r3)).tail.tail.headD .dead)),AV.ro 1 (toN ((toT (getV r3)).tail.tail.tail.headD .dead)) (toR ((toT (getV r3)).tail.tail.tail.headD .dead)) (toG ((toT (getV r3)).tail.tail.tail.headD .dead))])
theorem gInt_SetInt64_rb_run (qj qc : Mo) (qb qa : Mo) (fuel : Nat) (ux1 : Int) (wh : Bool) (qr qz : Nat) (qy : Ge) (z8 : Bool) (zu zz : Nat) (zw : Ge) : runX Pr (GInt_SetInt64_rb qj qc qb qa) [((6,132),LInt_SetInt64_rb qj qc qb qa fuel)] fuel 7 132 XInt_SetInt64_rb [AV.ptr 0 2,AV.int .i64 ux1] [Blk.box [AV.bool wh,AV.ro 1 qr qz qy,AV.bool z8,AV.ro 1 zu zz zw]] = gInt_SetInt64_rb qj qc qb qa fuel ux1 wh qr qz qy z8 zu zz zw := by kernel_rfl
noncomputable def mInt_SetInt64_rb (qj qc : Mo) (qb qa : Mo) (fuel : Nat) (xs : List AV) : Option AV := match xs with
  | [AV.ptr 0 2,AV.int .i64 ux1,AV.bool wh,AV.ro 1 qr qz qy,AV.bool z8,AV.ro 1 zu zz zw] => gInt_SetInt64_rb qj qc qb qa fuel ux1 wh qr qz qy z8 zu zz zw
  | _ => none
theorem gInt_SetInt64_rb_sm (qj qc : Mo) (qb qa : Mo) (fuel : Nat) (hΓ : GamOk Pr (GInt_SetInt64_rb qj qc qb qa)) (hP : NamesOk Pr) : XOk Pr 132 (smX RInt_SetInt64_rb XInt_SetInt64_rb (mInt_SetInt64_rb qj qc qb qa fuel)) XInt_SetInt64_rb := by
  refine smX_ok (fuel := fuel) hΓ hP (LamOk.of 6 132 (LInt_SetInt64_rb qj qc qb qa fuel) 0 (by kernel_rfl) (fun i hi => ?_)) 7 132 RInt_SetInt64_rb XInt_SetInt64_rb _ (fun xs0 ys0 v ha hb h => ?_)
  · match i,hi with
    | i + 0,hi => exact absurd hi (by omega)
  · skip
    have ha0 : xs0.length = 2 := ha
    clear ha
    obtain ⟨a0,xs1,rfl,ha1⟩ := len_cons ha0
    clear ha0
    obtain ⟨a1,xs2,rfl,ha2⟩ := len_cons ha1
    clear ha1
    obtain rfl := List.eq_nil_of_length_eq_zero ha2
    have hy0 : ys0.map List.length = [4] := hb
    clear hb
    obtain ⟨wh,ys1,rfl,hb0_0,hy1⟩ := map_cons' hy0
    clear hy0
    obtain ⟨c0_0,b0_1,rfl,hb0_1⟩ := len_cons hb0_0
    clear hb0_0
    obtain ⟨c0_1,z8,rfl,hb0_2⟩ := len_cons hb0_1
    clear hb0_1
    obtain ⟨c0_2,b0_3,rfl,hb0_3⟩ := len_cons hb0_2
    clear hb0_2
    obtain ⟨c0_3,b0_4,rfl,hb0_4⟩ := len_cons hb0_3
    clear hb0_3
    obtain rfl := List.eq_nil_of_length_eq_zero hb0_4
    obtain rfl := map_nil' hy1
    have h : mInt_SetInt64_rb qj qc qb qa fuel [a0,a1,c0_0,c0_1,c0_2,c0_3] = some v := h
    generalize hx0 : [a0,a1,c0_0,c0_1,c0_2,c0_3] = zs at h
    unfold mInt_SetInt64_rb at h
    split at h
    · skip
      obtain ⟨rfl,hx1⟩ := List.cons.inj hx0
      obtain ⟨rfl,hx2⟩ := List.cons.inj hx1
      obtain ⟨rfl,hx3⟩ := List.cons.inj hx2
      obtain ⟨rfl,hx4⟩ := List.cons.inj hx3
      obtain ⟨rfl,hx5⟩ := List.cons.inj hx4
      obtain ⟨rfl,hx6⟩ := List.cons.inj hx5
      simp only [List.map_cons,List.map_nil]
      exact (gInt_SetInt64_rb_run qj qc qb qa fuel _ _ _ _ _ _ _ _ _).trans h
    · cases h
noncomputable def LInt_SetInt64_i (qj qc : Mo) (qb qa : Mo) (fuel : Nat) : Lam AV := []
noncomputable def GInt_SetInt64_i (qj qc : Mo) (qb qa : Mo) : Gam := [(194,smM [RS.one (LK.l (nat_lit 1))] qj),(133,smX RInt_give_i XInt_give_i qc),(133,smX RInt_give_ra XInt_give_ra qb),(133,smX RInt_give_rb XInt_give_rb qa)]
noncomputable def gInt_SetInt64_i (qj qc : Mo) (qb qa : Mo) (fuel : Nat) (ux1 : Int) (wh : Bool) (qr qz : Nat) (qy : Ge) : Option AV :=
  bif decide (ux1 < 0) then let r0 : Option AV := qj [AV.int .u64 (IntKind.u64.wrap (0 - IntKind.u64.wrap ux1))]; ck (okM [RS.one (LK.l 1)] r0) <| let r1 : Option AV := qc [AV.ptr (xidx 0 (xtoks [AV.ptr 0 0,AV.bool (decide (ux1 < 0)),AV.ro 1 (toN (getV r0)) (toR (getV r0)) (toG (getV r0))] [])) 0,AV.bool (decide (ux1 < 0)),AV.ro 1 (toN (getV r0)) (toR (getV r0)) (toG (getV r0)),AV.bool wh,AV.ro 1 qr qz qy]; ck (okX [RS.one LK.b,RS.one (LK.l 1)] r1) <| some (AV.tup [AV.bool (toB ((toT (getV r1)).headD .dead)),AV.ro 1 (toN ((toT (getV r1)).tail.headD .dead)) (toR ((toT (getV r1)).tail.headD .dead)) (toG ((toT (getV r1)).tail.headD .dead))])
  else let r2 : Option AV := qj [AV.int .u64 (IntKind.u64.wrap ux1)]; ck (okM [RS.one (LK.l 1)] r2) <| let r3 : Option AV := qc [AV.ptr (xidx 0 (xtoks [AV.ptr 0 0,AV.bool (decide (ux1 < 0)),AV.ro 1 (toN (getV r2)) (toR (getV r2)) (toG (getV r2))] [])) 0,AV.bool (decide (ux1 < 0)),AV.ro 1 (toN (getV r2)) (toR (getV r2)) (toG (getV r2)),AV.bool wh,AV.ro 1 qr qz qy]; ck (okX [RS.one LK.b,RS.one (LK.l 1)] r3) <| some (AV.tup [AV.bool (toB ((toT (getV r3)).headD .dead)),AV.ro 1 (toN ((toT (getV r3)).tail.headD .dead)) (toR ((toT (getV r3)).tail.headD .dead)) (toG ((toT (getV r3)).tail.headD .dead))])
theorem gInt_SetInt64_i_run (qj qc : Mo) (qb qa : Mo) (fuel : Nat) (ux1 : Int) (wh : Bool) (qr qz : Nat) (qy : Ge) : runX Pr (GInt_SetInt64_i qj qc qb qa) [((6,132),LInt_SetInt64_i qj qc qb qa fuel)] fuel 7 132 XInt_SetInt64_i [AV.ptr 0 0,AV.int .i64 ux1] [Blk.box [AV.bool wh,AV.ro 1 qr qz qy]] = gInt_SetInt64_i qj qc qb qa fuel ux1 wh qr qz qy := by kernel_rfl
noncomputable def mInt_SetInt64_i (qj qc : Mo) (qb qa : Mo) (fuel : Nat) (xs : List AV) : Option AV := match xs with
  | [AV.ptr 0 0,AV.int .i64 ux1,AV.bool wh,AV.ro 1 qr qz qy] => gInt_SetInt64_i qj qc qb qa fuel ux1 wh qr qz qy
  | _ => none
theorem gInt_SetInt64_i_sm (qj qc : Mo) (qb qa : Mo) (fuel : Nat) (hΓ : GamOk Pr (GInt_SetInt64_i qj qc qb qa)) (hP : NamesOk Pr) : XOk Pr 132 (smX RInt_SetInt64_i XInt_SetInt64_i (mInt_SetInt64_i qj qc qb qa fuel)) XInt_SetInt64_i := by
  refine smX_ok (fuel := fuel) hΓ hP (LamOk.of 6 132 (LInt_SetInt64_i qj qc qb qa fuel) 0 (by kernel_rfl) (fun i hi => ?_)) 7 132 RInt_SetInt64_i XInt_SetInt64_i _ (fun xs0 ys0 v ha hb h => ?_)
  · match i,hi with
    | i + 0,hi => exact absurd hi (by omega)
  · skip
    have ha0 : xs0.length = 2 := ha
    clear ha
    obtain ⟨a0,xs1,rfl,ha1⟩ := len_cons ha0
    clear ha0
    obtain ⟨a1,xs2,rfl,ha2⟩ := len_cons ha1
    clear ha1
    obtain rfl := List.eq_nil_of_length_eq_zero ha2
    have hy0 : ys0.map List.length = [2] := hb
    clear hb
    obtain ⟨wh,ys1,rfl,hb0_0,hy1⟩ := map_cons' hy0
    clear hy0
    obtain ⟨c0_0,b0_1,rfl,hb0_1⟩ := len_cons hb0_0
    clear hb0_0
    obtain ⟨c0_1,z8,rfl,hb0_2⟩ := len_cons hb0_1
    clear hb0_1
    obtain rfl := List.eq_nil_of_length_eq_zero hb0_2
    obtain rfl := map_nil' hy1
    have h : mInt_SetInt64_i qj qc qb qa fuel [a0,a1,c0_0,c0_1] = some v := h
    generalize hx0 : [a0,a1,c0_0,c0_1] = zs at h
    unfold mInt_SetInt64_i at h
    split at h
    · skip
      obtain ⟨rfl,hx1⟩ := List.cons.inj hx0
      obtain ⟨rfl,hx2⟩ := List.cons.inj hx1
      obtain ⟨rfl,hx3⟩ := List.cons.inj hx2
      obtain ⟨rfl,hx4⟩ := List.cons.inj hx3
      simp only [List.map_cons,List.map_nil]
      exact (gInt_SetInt64_i_run qj qc qb qa fuel _ _ _ _ _).trans h
    · cases h
noncomputable def LNewInt_a (wu w7 : Mo) (fuel : Nat) : Lam AV := []
noncomputable def GNewInt_a (wu w7 : Mo) : Gam := [(132,smX RInt_SetInt64_rb XInt_SetInt64_rb wu),(132,smX RInt_SetInt64_i XInt_SetInt64_i w7)]
noncomputable def gNewInt_a (wu w7 : Mo) (fuel : Nat) (ux0 : Int) : Option AV :=
  let r0 : Option AV := w7 [AV.ptr (xidx 0 (xtoks [AV.ptr 0 0,AV.int .i64 ux0] [])) 0,AV.int .i64 ux0,AV.bool false,AV.ro 1 0 0 fun (x j : Nat) => [AV.int .u32 0].getD j AV.dead]; ck (okX [RS.one LK.b,RS.one (LK.l 1)] r0) <| some (AV.tup [AV.bool (toB ((toT (getV r0)).headD .dead)),AV.ro 1 (toN ((toT (getV r0)).tail.headD .dead)) (toR ((toT (getV r0)).tail.headD .dead)) (toG ((toT (getV r0)).tail.headD .dead))])
theorem gNewInt_a_run (wu w7 : Mo) (fuel : Nat) (ux0 : Int) : runX Pr (GNewInt_a wu w7) [((6,74),LNewInt_a wu w7 fuel)] fuel 7 74 XNewInt_a [AV.int .i64 ux0] [] = gNewInt_a wu w7 fuel ux0 := by kernel_rfl
noncomputable def mNewInt_a (wu w7 : Mo) (fuel : Nat) (xs : List AV) : Option AV := match xs with
  | [AV.int .i64 ux0] => gNewInt_a wu w7 fuel ux0
  | _ => none
theorem gNewInt_a_sm (wu w7 : Mo) (fuel : Nat) (hΓ : GamOk Pr (GNewInt_a wu w7)) (hP : NamesOk Pr) : XOk Pr 74 (smX RNewInt_a XNewInt_a (mNewInt_a wu w7 fuel)) XNewInt_a := by
  refine smX_ok (fuel := fuel) hΓ hP (LamOk.of 6 74 (LNewInt_a wu w7 fuel) 0 (by kernel_rfl) (fun i hi => ?_)) 7 74 RNewInt_a XNewInt_a _ (fun xs0 ys0 v ha hb h => ?_)
  · match i,hi with
    | i + 0,hi => exact absurd hi (by omega)
  · skip
    have ha0 : xs0.length = 1 := ha
    clear ha
    obtain ⟨a0,xs1,rfl,ha1⟩ := len_cons ha0
    clear ha0
    obtain rfl := List.eq_nil_of_length_eq_zero ha1
    have hy0 : ys0.map List.length = [] := hb
    clear hb
    obtain rfl := map_nil' hy0
    have h : mNewInt_a wu w7 fuel [a0] = some v := h
    generalize hx0 : [a0] = zs at h
    unfold mNewInt_a at h
    split at h
    · skip
      obtain ⟨rfl,hx1⟩ := List.cons.inj hx0
      simp only [List.map_cons,List.map_nil]
      exact (gNewInt_a_run wu w7 fuel _).trans h
    · cases h
noncomputable def LRat_den_b (ve : Mo) (fuel : Nat) : Lam AV := []
noncomputable def GRat_den_b (ve : Mo) : Gam := [(74,smX RNewInt_a XNewInt_a ve)]
noncomputable def gRat_den_b (ve : Mo) (fuel : Nat) (wh : Bool) (qr qz : Nat) (qy : Ge) (z8 : Bool) (zu zz : Nat) (zw : Ge) : Option AV :=
  bif (↑zu : Int) == 0 then let r0 : Option AV := ve [AV.int .i64 1]; ck (okX [RS.one LK.b,RS.one (LK.l 1)] r0) <| none
  else some (AV.tup [AV.bool wh,AV.ro 1 qr qz qy,AV.bool z8,AV.ro 1 zu zz zw])
theorem gRat_den_b_run (ve : Mo) (fuel : Nat) (wh : Bool) (qr qz : Nat) (qy : Ge) (z8 : Bool) (zu zz : Nat) (zw : Ge) : runX Pr (GRat_den_b ve) [((6,76),LRat_den_b ve fuel)] fuel 7 76 XRat_den_b [AV.ptr 0 0] [Blk.box [AV.bool wh,AV.ro 1 qr qz qy,AV.bool z8,AV.ro 1 zu zz zw]] = gRat_den_b ve fuel wh qr qz qy z8 zu zz zw := by kernel_rfl
noncomputable def mRat_den_b (ve : Mo) (fuel : Nat) (xs : List AV) : Option AV := match xs with
  | [AV.ptr 0 0,AV.bool wh,AV.ro 1 qr qz qy,AV.bool z8,AV.ro 1 zu zz zw] => gRat_den_b ve fuel wh qr qz qy z8 zu zz zw
  | _ => none
theorem gRat_den_b_sm (ve : Mo) (fuel : Nat) (hΓ : GamOk Pr (GRat_den_b ve)) (hP : NamesOk Pr) : XOk Pr 76 (smX RRat_den_b XRat_den_b (mRat_den_b ve fuel)) XRat_den_b := by
  refine smX_ok (fuel := fuel) hΓ hP (LamOk.of 6 76 (LRat_den_b ve fuel) 0 (by kernel_rfl) (fun i hi => ?_)) 7 76 RRat_den_b XRat_den_b _ (fun xs0 ys0 v ha hb h => ?_)
  · match i,hi with
    | i + 0,hi => exact absurd hi (by omega)
  · skip
    have ha0 : xs0.length = 1 := ha
    clear ha
    obtain ⟨a0,xs1,rfl,ha1⟩ := len_cons ha0
    clear ha0
    obtain rfl := List.eq_nil_of_length_eq_zero ha1
    have hy0 : ys0.map List.length = [4] := hb
    clear hb
    obtain ⟨wh,ys1,rfl,hb0_0,hy1⟩ := map_cons' hy0
    clear hy0
    obtain ⟨c0_0,b0_1,rfl,hb0_1⟩ := len_cons hb0_0
    clear hb0_0
    obtain ⟨c0_1,z8,rfl,hb0_2⟩ := len_cons hb0_1
    clear hb0_1
    obtain ⟨c0_2,b0_3,rfl,hb0_3⟩ := len_cons hb0_2
    clear hb0_2
    obtain ⟨c0_3,b0_4,rfl,hb0_4⟩ := len_cons hb0_3
    clear hb0_3
    obtain rfl := List.eq_nil_of_length_eq_zero hb0_4
    obtain rfl := map_nil' hy1
    have h : mRat_den_b ve fuel [a0,c0_0,c0_1,c0_2,c0_3] = some v := h
    generalize hx0 : [a0,c0_0,c0_1,c0_2,c0_3] = zs at h
    unfold mRat_den_b at h
    split at h
    · skip
      obtain ⟨rfl,hx1⟩ := List.cons.inj hx0
      obtain ⟨rfl,hx2⟩ := List.cons.inj hx1
      obtain ⟨rfl,hx3⟩ := List.cons.inj hx2
      obtain ⟨rfl,hx4⟩ := List.cons.inj hx3
      obtain ⟨rfl,hx5⟩ := List.cons.inj hx4
      simp only [List.map_cons,List.map_nil]
      exact (gRat_den_b_run ve fuel _ _ _ _ _ _ _ _).trans h
    · cases h
noncomputable def LInt_Set_ii (q3 qc : Mo) (qb qa : Mo) (fuel : Nat) : Lam AV := []
noncomputable def GInt_Set_ii (q3 qc : Mo) (qb qa : Mo) : Gam := [(137,smM [RS.one (LK.l (nat_lit 1))] q3),(133,smX RInt_give_i XInt_give_i qc),(133,smX RInt_give_ra XInt_give_ra qb),(133,smX RInt_give_rb XInt_give_rb qa)]
noncomputable def gInt_Set_ii (q3 qc : Mo) (qb qa : Mo) (fuel : Nat) (wh : Bool) (qr qz : Nat) (qy : Ge) (z4 : Bool) (w5 zl : Nat) (zm : Ge) : Option AV :=
  let r0 : Option AV := q3 [AV.ro 1 w5 zl zm]; ck (okM [RS.one (LK.l 1)] r0) <| let r1 : Option AV := qc [AV.ptr (xidx 0 (xtoks [AV.ptr 0 0,AV.bool z4,AV.ro 1 (toN (getV r0)) (toR (getV r0)) (toG (getV r0))] [])) 0,AV.bool z4,AV.ro 1 (toN (getV r0)) (toR (getV r0)) (toG (getV r0)),AV.bool wh,AV.ro 1 qr qz qy]; ck (okX [RS.one LK.b,RS.one (LK.l 1)] r1) <| some (AV.tup [AV.bool (toB ((toT (getV r1)).headD .dead)),AV.ro 1 (toN ((toT (getV r1)).tail.headD .dead)) (toR ((toT (getV r1)).tail.headD .dead)) (toG ((toT (getV r1)).tail.headD .dead)),AV.bool z4,AV.ro 1 w5 zl zm])
theorem gInt_Set_ii_run (q3 qc : Mo) (qb qa : Mo) (fuel : Nat) (wh : Bool) (qr qz : Nat) (qy : Ge) (z4 : Bool) (w5 zl : Nat) (zm : Ge) : runX Pr (GInt_Set_ii q3 qc qb qa) [((6,87),LInt_Set_ii q3 qc qb qa fuel)] fuel 7 87 XInt_Set_ii [AV.ptr 0 0,AV.ptr 1 0] [Blk.box [AV.bool wh,AV.ro 1 qr qz qy],Blk.box [AV.bool z4,AV.ro 1 w5 zl zm]] = gInt_Set_ii q3 qc qb qa fuel wh qr qz qy z4 w5 zl zm := by kernel_rfl
noncomputable def mInt_Set_ii (q3 qc : Mo) (qb qa : Mo) (fuel : Nat) (xs : List AV) : Option AV := match xs with
  | [AV.ptr 0 0,AV.ptr 1 0,AV.bool wh,AV.ro 1 qr qz qy,AV.bool z4,AV.ro 1 w5 zl zm] => gInt_Set_ii q3 qc qb qa fuel wh qr qz qy z4 w5 zl zm
  | _ => none
theorem gInt_Set_ii_sm (q3 qc : Mo) (qb qa : Mo) (fuel : Nat) (hΓ : GamOk Pr (GInt_Set_ii q3 qc qb qa)) (hP : NamesOk Pr) : XOk Pr 87 (smX RInt_Set_ii XInt_Set_ii (mInt_Set_ii q3 qc qb qa fuel)) XInt_Set_ii := by
  refine smX_ok (fuel := fuel) hΓ hP (LamOk.of 6 87 (LInt_Set_ii q3 qc qb qa fuel) 0 (by kernel_rfl) (fun i hi => ?_)) 7 87 RInt_Set_ii XInt_Set_ii _ (fun xs0 ys0 v ha hb h => ?_)
  · match i,hi with
    | i + 0,hi => exact absurd hi (by omega)
  · skip
    have ha0 : xs0.length = 2 := ha
    clear ha
    obtain ⟨a0,xs1,rfl,ha1⟩ := len_cons ha0
    clear ha0
    obtain ⟨a1,xs2,rfl,ha2⟩ := len_cons ha1
    clear ha1
    obtain rfl := List.eq_nil_of_length_eq_zero ha2
    have hy0 : ys0.map List.length = [2,2] := hb
    clear hb
    obtain ⟨wh,ys1,rfl,hb0_0,hy1⟩ := map_cons' hy0
    clear hy0
    obtain ⟨c0_0,b0_1,rfl,hb0_1⟩ := len_cons hb0_0
    clear hb0_0
    obtain ⟨c0_1,z8,rfl,hb0_2⟩ := len_cons hb0_1
    clear hb0_1
    obtain rfl := List.eq_nil_of_length_eq_zero hb0_2
    obtain ⟨z4,ys2,rfl,hb1_0,hy2⟩ := map_cons' hy1
    clear hy1
    obtain ⟨c1_0,b1_1,rfl,hb1_1⟩ := len_cons hb1_0
    clear hb1_0
    obtain ⟨c1_1,qaq,rfl,hb1_2⟩ := len_cons hb1_1
    clear hb1_1
    obtain rfl := List.eq_nil_of_length_eq_zero hb1_2
    obtain rfl := map_nil' hy2
    have h : mInt_Set_ii q3 qc qb qa fuel [a0,a1,c0_0,c0_1,c1_0,c1_1] = some v := h
    generalize hx0 : [a0,a1,c0_0,c0_1,c1_0,c1_1] = zs at h
    unfold mInt_Set_ii at h
    split at h
    · skip
      obtain ⟨rfl,hx1⟩ := List.cons.inj hx0
      obtain ⟨rfl,hx2⟩ := List.cons.inj hx1
      obtain ⟨rfl,hx3⟩ := List.cons.inj hx2
      obtain ⟨rfl,hx4⟩ := List.cons.inj hx3
      obtain ⟨rfl,hx5⟩ := List.cons.inj hx4
      obtain ⟨rfl,hx6⟩ := List.cons.inj hx5
      simp only [List.map_cons,List.map_nil]
      exact (gInt_Set_ii_run q3 qc qb qa fuel _ _ _ _ _ _ _ _).trans h
    · cases h
noncomputable def LInt_Set_ir (q3 qc : Mo) (qb qa : Mo) (fuel : Nat) : Lam AV := []
noncomputable def GInt_Set_ir (q3 qc : Mo) (qb qa : Mo) : Gam := [(137,smM [RS.one (LK.l (nat_lit 1))] q3),(133,smX RInt_give_i XInt_give_i qc),(133,smX RInt_give_ra XInt_give_ra qb),(133,smX RInt_give_rb XInt_give_rb qa)]
noncomputable def gInt_Set_ir (q3 qc : Mo) (qb qa : Mo) (fuel : Nat) (wh : Bool) (qr qz : Nat) (qy : Ge) (z4 : Bool) (w5 zl : Nat) (zm : Ge) (qaq : Bool) (qaa qad : Nat) (qac : Ge) : Option AV :=
  let r0 : Option AV := q3 [AV.ro 1 qaa qad qac]; ck (okM [RS.one (LK.l 1)] r0) <| let r1 : Option AV := qc [AV.ptr (xidx 0 (xtoks [AV.ptr 0 0,AV.bool qaq,AV.ro 1 (toN (getV r0)) (toR (getV r0)) (toG (getV r0))] [])) 0,AV.bool qaq,AV.ro 1 (toN (getV r0)) (toR (getV r0)) (toG (getV r0)),AV.bool wh,AV.ro 1 qr qz qy]; ck (okX [RS.one LK.b,RS.one (LK.l 1)] r1) <| some (AV.tup [AV.bool (toB ((toT (getV r1)).headD .dead)),AV.ro 1 (toN ((toT (getV r1)).tail.headD .dead)) (toR ((toT (getV r1)).tail.headD .dead)) (toG ((toT (getV r1)).tail.headD .dead)),AV.bool z4,AV.ro 1 w5 zl zm,AV.bool qaq,AV.ro 1 qaa qad qac])
theorem gInt_Set_ir_run (q3 qc : Mo) (qb qa : Mo) (fuel : Nat) (wh : Bool) (qr qz : Nat) (qy : Ge) (z4 : Bool) (w5 zl : Nat) (zm : Ge) (qaq : Bool) (qaa qad : Nat) (qac : Ge) : runX Pr (GInt_Set_ir q3 qc qb qa) [((6,87),LInt_Set_ir q3 qc qb qa fuel)] fuel 7 87 XInt_Set_ir [AV.ptr 0 0,AV.ptr 1 2] [Blk.box [AV.bool wh,AV.ro 1 qr qz qy],Blk.box [AV.bool z4,AV.ro 1 w5 zl zm,AV.bool qaq,AV.ro 1 qaa qad qac]] = gInt_Set_ir q3 qc qb qa fuel wh qr qz qy z4 w5 zl zm qaq qaa qad qac := by kernel_rfl
noncomputable def mInt_Set_ir (q3 qc : Mo) (qb qa : Mo) (fuel : Nat) (xs : List AV) : Option AV := match xs with
  | [AV.ptr 0 0,AV.ptr 1 2,AV.bool wh,AV.ro 1 qr qz qy,AV.bool z4,AV.ro 1 w5 zl zm,AV.bool qaq,AV.ro 1 qaa qad qac] => gInt_Set_ir q3 qc qb qa fuel wh qr qz qy z4 w5 zl zm qaq qaa qad qac
  | _ => none
theorem gInt_Set_ir_sm (q3 qc : Mo) (qb qa : Mo) (fuel : Nat) (hΓ : GamOk Pr (GInt_Set_ir q3 qc qb qa)) (hP : NamesOk Pr) : XOk Pr 87 (smX RInt_Set_ir XInt_Set_ir (mInt_Set_ir q3 qc qb qa fuel)) XInt_Set_ir := by
  refine smX_ok (fuel := fuel) hΓ hP (LamOk.of 6 87 (LInt_Set_ir q3 qc qb qa fuel) 0 (by kernel_rfl) (fun i hi => ?_)) 7 87 RInt_Set_ir XInt_Set_ir _ (fun xs0 ys0 v ha hb h => ?_)
  · match i,hi with
    | i + 0,hi => exact absurd hi (by omega)
  · skip
    have ha0 : xs0.length = 2 := ha
    clear ha
    obtain ⟨a0,xs1,rfl,ha1⟩ := len_cons ha0
    clear ha0
    obtain ⟨a1,xs2,rfl,ha2⟩ := len_cons ha1
    clear ha1
    obtain rfl := List.eq_nil_of_length_eq_zero ha2
    have hy0 : ys0.map List.length = [2,4] := hb
    clear hb
    obtain ⟨wh,ys1,rfl,hb0_0,hy1⟩ := map_cons' hy0
    clear hy0
    obtain ⟨c0_0,b0_1,rfl,hb0_1⟩ := len_cons hb0_0
    clear hb0_0
    obtain ⟨c0_1,z8,rfl,hb0_2⟩ := len_cons hb0_1
    clear hb0_1
    obtain rfl := List.eq_nil_of_length_eq_zero hb0_2
    obtain ⟨z4,ys2,rfl,hb1_0,hy2⟩ := map_cons' hy1
    clear hy1
    obtain ⟨c1_0,b1_1,rfl,hb1_1⟩ := len_cons hb1_0
    clear hb1_0
    obtain ⟨c1_1,qaq,rfl,hb1_2⟩ := len_cons hb1_1
    clear hb1_1
    obtain ⟨c1_2,b1_3,rfl,hb1_3⟩ := len_cons hb1_2
    clear hb1_2
    obtain ⟨c1_3,b1_4,rfl,hb1_4⟩ := len_cons hb1_3
    clear hb1_3
    obtain rfl := List.eq_nil_of_length_eq_zero hb1_4
    obtain rfl := map_nil' hy2
    have h : mInt_Set_ir q3 qc qb qa fuel [a0,a1,c0_0,c0_1,c1_0,c1_1,c1_2,c1_3] = some v := h
    generalize hx0 : [a0,a1,c0_0,c0_1,c1_0,c1_1,c1_2,c1_3] = zs at h
    unfold mInt_Set_ir at h
    split at h
    · skip
      obtain ⟨rfl,hx1⟩ := List.cons.inj hx0
      obtain ⟨rfl,hx2⟩ := List.cons.inj hx1
      obtain ⟨rfl,hx3⟩ := List.cons.inj hx2
      obtain ⟨rfl,hx4⟩ := List.cons.inj hx3
      obtain ⟨rfl,hx5⟩ := List.cons.inj hx4
      obtain ⟨rfl,hx6⟩ := List.cons.inj hx5
      obtain ⟨rfl,hx7⟩ := List.cons.inj hx6
      obtain ⟨rfl,hx8⟩ := List.cons.inj hx7
      simp only [List.map_cons,List.map_nil]
      exact (gInt_Set_ir_run q3 qc qb qa fuel _ _ _ _ _ _ _ _ _ _ _ _).trans h
    · cases h
noncomputable def LRat_Denom_r (y8 zt z1 : Mo) (fuel : Nat) : Lam AV := []
noncomputable def GRat_Denom_r (y8 zt z1 : Mo) : Gam := [(76,smX RRat_den_b XRat_den_b y8),(87,smX RInt_Set_ii XInt_Set_ii zt),(87,smX RInt_Set_ir XInt_Set_ir z1)]
noncomputable def gRat_Denom_r (y8 zt z1 : Mo) (fuel : Nat) (wh : Bool) (qr qz : Nat) (qy : Ge) (z8 : Bool) (zu zz : Nat) (zw : Ge) : Option AV :=
  let r0 : Option AV := y8 [AV.ptr (xidx 0 (xtoks [AV.ptr 0 0] [])) 0,AV.bool wh,AV.ro 1 qr qz qy,AV.bool z8,AV.ro 1 zu zz zw]; ck (okX [RS.one LK.b,RS.one (LK.l 1),RS.one LK.b,RS.one (LK.l 1)] r0) <| let r1 : Option AV := z1 [AV.ptr (xidx [Blk.box [AV.bool wh,AV.ro 1 qr qz qy,AV.bool z8,AV.ro 1 zu zz zw]].length (xtoks [AV.ptr [Blk.box [AV.bool wh,AV.ro 1 qr qz qy,AV.bool z8,AV.ro 1 zu zz zw]].length 0,AV.ptr (xren (xtoks [AV.ptr 0 0] []) [Blk.box [AV.bool wh,AV.ro 1 qr qz qy,AV.bool z8,AV.ro 1 zu zz zw],Blk.box [AV.bool false,AV.nils 1 [AV.int .u32 0]]].length 0) 2] [])) 0,AV.ptr (xidx (xren (xtoks [AV.ptr 0 0] []) [Blk.box [AV.bool wh,AV.ro 1 qr qz qy,AV.bool z8,AV.ro 1 zu zz zw],Blk.box [AV.bool false,AV.nils 1 [AV.int .u32 0]]].length 0) (xtoks [AV.ptr [Blk.box [AV.bool wh,AV.ro 1 qr qz qy,AV.bool z8,AV.ro 1 zu zz zw]].length 0,AV.ptr (xren (xtoks [AV.ptr 0 0] []) [Blk.box [AV.bool wh,AV.ro 1 qr qz qy,AV.bool z8,AV.ro 1 zu zz zw],Blk.box [AV.bool false,AV.nils 1 [AV.int .u32 0]]].length 0) 2] [])) 2,AV.bool false,AV.ro 1 0 0 fun (x j : Nat) => [AV.int .u32 0].getD j AV.dead,AV.bool (toB ((toT (getV r0)).headD .dead)),AV.ro 1 (toN ((toT (getV r0)).tail.headD .dead)) (toR ((toT (getV r0)).tail.headD .dead)) (toG ((toT (getV r0)).tail.headD .dead)),AV.bool (toB ((toT (getV r0)).tail.tail.headD .dead)),AV.ro 1 (toN ((toT (getV r0)).tail.tail.tail.headD .dead)) (toR ((toT (getV r0)).tail.tail.tail.headD .dead)) (toG ((toT (getV r0)).tail.tail.tail.headD .dead))]; ck (okX [RS.one LK.b,RS.one (LK.l 1),RS.one LK.b,RS.one (LK.l 1),RS.one LK.b,RS.one (LK.l 1)] r1) <| some (AV.tup [AV.bool (toB ((toT (getV r1)).tail.tail.headD .dead)),AV.ro 1 (toN ((toT (getV r1)).tail.tail.tail.headD .dead)) (toR ((toT (getV r1)).tail.tail.tail.headD .dead)) (toG ((toT (getV r1)).tail.tail.tail.headD .dead)),AV.bool (toB ((toT (getV r1)).tail.tail.tail.tail.headD .dead)),AV.ro 1 (toN ((toT (getV r1)).tail.tail.tail.tail.tail.headD .dead)) (toR ((toT (getV r1)).tail.tail.tail.tail.tail.headD .dead)) (toG ((toT (getV r1)).tail.tail.tail.tail.tail.headD .dead)),AV.bool (toB ((toT (getV r1)).headD .dead)),AV.ro 1 (toN ((toT (getV r1)).tail.headD .dead)) (toR ((toT (getV r1)).tail.headD .dead)) (toG ((toT (getV r1)).tail.headD .dead))])
theorem gRat_Denom_r_run (y8 zt z1 : Mo) (fuel : Nat) (wh : Bool) (qr qz : Nat) (qy : Ge) (z8 : Bool) (zu zz : Nat) (zw : Ge) : runX Pr (GRat_Denom_r y8 zt z1) [((6,40),LRat_Denom_r y8 zt z1 fuel)] fuel 7 40 XRat_Denom_r [AV.ptr 0 0] [Blk.box [AV.bool wh,AV.ro 1 qr qz qy,AV.bool z8,AV.ro 1 zu zz zw]] = gRat_Denom_r y8 zt z1 fuel wh qr qz qy z8 zu zz zw := by kernel_rfl
noncomputable def mRat_Denom_r (y8 zt z1 : Mo) (fuel : Nat) (xs : List AV) : Option AV := match xs with
  | [AV.ptr 0 0,AV.bool wh,AV.ro 1 qr qz qy,AV.bool z8,AV.ro 1 zu zz zw] => gRat_Denom_r y8 zt z1 fuel wh qr qz qy z8 zu zz zw
  | _ => none
theorem gRat_Denom_r_sm (y8 zt z1 : Mo) (fuel : Nat) (hΓ : GamOk Pr (GRat_Denom_r y8 zt z1)) (hP : NamesOk Pr) : XOk Pr 40 (smX RRat_Denom_r XRat_Denom_r (mRat_Denom_r y8 zt z1 fuel)) XRat_Denom_r := by
  refine smX_ok (fuel := fuel) hΓ hP (LamOk.of 6 40 (LRat_Denom_r y8 zt z1 fuel) 0 (by kernel_rfl) (fun i hi => ?_)) 7 40 RRat_Denom_r XRat_Denom_r _ (fun xs0 ys0 v ha hb h => ?_)
  · match i,hi with
    | i + 0,hi => exact absurd hi (by omega)
  · skip
    have ha0 : xs0.length = 1 := ha
    clear ha
    obtain ⟨a0,xs1,rfl,ha1⟩ := len_cons ha0
    clear ha0
    obtain rfl := List.eq_nil_of_length_eq_zero ha1
    have hy0 : ys0.map List.length = [4] := hb
    clear hb
    obtain ⟨wh,ys1,rfl,hb0_0,hy1⟩ := map_cons' hy0
    clear hy0
    obtain ⟨c0_0,b0_1,rfl,hb0_1⟩ := len_cons hb0_0
    clear hb0_0
    obtain ⟨c0_1,z8,rfl,hb0_2⟩ := len_cons hb0_1
    clear hb0_1
    obtain ⟨c0_2,b0_3,rfl,hb0_3⟩ := len_cons hb0_2
    clear hb0_2
    obtain ⟨c0_3,b0_4,rfl,hb0_4⟩ := len_cons hb0_3
    clear hb0_3
    obtain rfl := List.eq_nil_of_length_eq_zero hb0_4
    obtain rfl := map_nil' hy1
    have h : mRat_Denom_r y8 zt z1 fuel [a0,c0_0,c0_1,c0_2,c0_3] = some v := h
    generalize hx0 : [a0,c0_0,c0_1,c0_2,c0_3] = zs at h
    unfold mRat_Denom_r at h
    split at h
    · skip
      obtain ⟨rfl,hx1⟩ := List.cons.inj hx0
      obtain ⟨rfl,hx2⟩ := List.cons.inj hx1
      obtain ⟨rfl,hx3⟩ := List.cons.inj hx2
      obtain ⟨rfl,hx4⟩ := List.cons.inj hx3
      obtain ⟨rfl,hx5⟩ := List.cons.inj hx4
      simp only [List.map_cons,List.map_nil]
      exact (gRat_Denom_r_run y8 zt z1 fuel _ _ _ _ _ _ _ _).trans h
    · cases h
noncomputable def Slength_0 (qp qt : Nat) (qm : Ge) (un3 ut4 : Int) : St := { env := [(0,AV.ro 1 qp qt qm),(3,AV.int .i64 un3),(4,AV.int .u32 ut4)],h := [],kd := [] }
noncomputable def Xlength_0_0 (qb7 qd8 : Nat) (qd7 : Ge) (qd9 : Int) : St := { env := [(0,AV.ro 1 qb7 qd8 qd7),(3,AV.int .i64 qd9)],h := [],kd := [] }
noncomputable def glength_l0_step (fuel : Nat) (kn : Int → Int → Option AV) (kx0 : Nat → Nat → Ge → Int → Option AV) (qp qt : Nat) (qm : Ge) (un3 ut4 : Int) : Option AV :=
  bif ut4 != 0 then kn (IntKind.i64.wrap (un3 + 1)) (ut4.fdiv (2 ^ 1))
  else kx0 qp qt qm un3
noncomputable def glength_l0 (fuel : Nat) (kx0 : Nat → Nat → Ge → Int → Option AV) (qp qt : Nat) (qm : Ge) : Nat → Int → Int → Option AV
  | 0,_,_ => none
  | n' + 1,un3,ut4 => glength_l0_step fuel (glength_l0 fuel kx0 qp qt qm n') kx0 qp qt qm un3 ut4
noncomputable def Tlength_0 : TS' := ⟨[(0,TA.ro 1),(3,TA.i .i64),(4,TA.i .u32)],[],[]⟩
noncomputable def Flength_0 (fuel : Nat) (ps : List Pay) (K : Ex → St → Option AV) : Option AV := match ps with
  | .n qp :: .n qt :: .g qm :: .i un3 :: .i ut4 :: [] => glength_l0 fuel (fun qb7 qd8 qd7 qd9 => K (Ex.exit 0) (Xlength_0_0 qb7 qd8 qd7 qd9)) qp qt qm fuel un3 ut4
  | _ => none
noncomputable def Llength (fuel : Nat) : Lam AV := [(1032216,lam Tlength_0 (Flength_0 fuel))]
noncomputable def Glength : Gam := []
theorem glength_l0_eq (fuel : Nat) (kn : St → Option AV) (K : Ex → St → Option AV) (qp qt : Nat) (qm : Ge) (qfb qs0 : Int) (un3 ut4 : Int) :
    bX Pr Glength (Llength fuel) 6 88 0 fuel (Slength_0 qp qt qm un3 ut4) (fun e s => match e with | .normal => kn (hX Pr 88 0 (Slength_0 qp qt qm qfb qs0) s) | e => K e s) =
    glength_l0_step fuel (fun un3 ut4 => kn (Slength_0 qp qt qm un3 ut4)) (fun p7 qax qay qco => K (Ex.exit 0) (Xlength_0_0 p7 qax qay qco)) qp qt qm un3 ut4 := by kernel_rfl
theorem glength_l0_ok (fuel : Nat) (K : Ex → St → Option AV) (qp qt : Nat) (qm : Ge) (qfb qs0 : Int) : ∀ (n' : Nat) (un3 ut4 : Int),
    loopK (bX Pr Glength (Llength fuel) 6 88 0 fuel) (hX Pr 88 0 (Slength_0 qp qt qm qfb qs0)) n' (Slength_0 qp qt qm un3 ut4) K = glength_l0 fuel (fun p7 qax qay qco => K (Ex.exit 0) (Xlength_0_0 p7 qax qay qco)) qp qt qm n' un3 ut4
  | 0,_,_ => rfl
  | n' + 1,un3,ut4 => (glength_l0_eq fuel (fun s => loopK (bX Pr Glength (Llength fuel) 6 88 0 fuel) (hX Pr 88 0 (Slength_0 qp qt qm qfb qs0)) n' s K) K qp qt qm qfb qs0 un3 ut4).trans
    (congrArg (fun kn => glength_l0_step fuel kn _ qp qt qm un3 ut4) (funext fun un3 => funext fun ut4 => glength_l0_ok fuel K qp qt qm qfb qs0 n' un3 ut4))
theorem glength_L0 (fuel : Nat) : LX Pr Glength (Llength fuel) 6 88 0 fuel := by
  refine .of Tlength_0 (Flength_0 fuel) (fun L h => ?_) (fun ps st K r he hr => ?_)
  · have e : (Llength fuel).get (writes (lp Pr 88 0).1) = some (lam Tlength_0 (Flength_0 fuel)) := by kernel_rfl
    exact (Option.some.inj (e.symm.trans h)).symm
  · unfold Flength_0 at hr
    split at hr
    · obtain rfl := (Option.some.inj he).symm
      exact (glength_l0_ok fuel K _ _ _ _ _ fuel _ _).trans hr
    · cases hr
noncomputable def glength (fuel zn vq : Nat) (vh : Ge) : Option AV :=
  bif (↑zn : Int) == 0 then some (AV.int .i64 0)
  else ck (decide (0 ≤ IntKind.i64.wrap ((↑zn : Int) - 1))) <| ck (decide (IntKind.i64.wrap ((↑zn : Int) - 1) < (↑zn : Int))) <| ck (fitK (LK.i .u32) (vh (IntKind.i64.wrap ((↑zn : Int) - 1)).toNat 0)) <| glength_l0 fuel
    (fun (p7 _ : Nat) (_ : Ge) (qco : Int) => some (AV.int .i64 (IntKind.i64.wrap (IntKind.i64.wrap (IntKind.i64.wrap ((↑p7 : Int) - 1) * 32) + qco))))
    zn
    vq
    vh fuel (0) (toI (vh (IntKind.i64.wrap ((↑zn : Int) - 1)).toNat 0))
noncomputable def mlength (fuel : Nat) (xs : List AV) : Option AV := match xs with
  | [AV.ro 1 zn vq vh] => glength fuel zn vq vh
  | _ => none
abbrev Rlength : List RS := [RS.one (LK.i .i64)]
theorem glength_sm (fuel : Nat) (hΓ : GamOk Pr Glength) (hP : NamesOk Pr) : SmOk Pr 88 (smM Rlength (mlength fuel)) := smL (L := (Llength fuel)) (n := 1) hΓ hP (by kernel_rfl) (fun i hi => match i,hi with
  | 0,_ => glength_L0 fuel
  | i + 1,hi => absurd hi (by omega)) fun xs v h => by
  unfold mlength at h
  split at h
  · exact Eq.trans (by kernel_rfl) h
  · cases h
noncomputable def LInt_BitLen_i (q6 : Mo) (fuel : Nat) : Lam AV := []
noncomputable def GInt_BitLen_i (q6 : Mo) : Gam := [(88,smM [RS.one (LK.i .i64)] q6)]
noncomputable def gInt_BitLen_i (q6 : Mo) (fuel : Nat) (wh : Bool) (qr qz : Nat) (qy : Ge) : Option AV :=
  ck (okM [RS.one (LK.i .i64)] (q6 [AV.ro 1 qr qz qy])) <| some (AV.tup [AV.bool wh,AV.ro 1 qr qz qy,AV.int .i64 (toI (getV (q6 [AV.ro 1 qr qz qy])))])
theorem gInt_BitLen_i_run (q6 : Mo) (fuel : Nat) (wh : Bool) (qr qz : Nat) (qy : Ge) : runX Pr (GInt_BitLen_i q6) [((6,41),LInt_BitLen_i q6 fuel)] fuel 7 41 XInt_BitLen_i [AV.ptr 0 0] [Blk.box [AV.bool wh,AV.ro 1 qr qz qy]] = gInt_BitLen_i q6 fuel wh qr qz qy := by kernel_rfl
noncomputable def mInt_BitLen_i (q6 : Mo) (fuel : Nat) (xs : List AV) : Option AV := match xs with
  | [AV.ptr 0 0,AV.bool wh,AV.ro 1 qr qz qy] => gInt_BitLen_i q6 fuel wh qr qz qy
  | _ => none
theorem gInt_BitLen_i_sm (q6 : Mo) (fuel : Nat) (hΓ : GamOk Pr (GInt_BitLen_i q6)) (hP : NamesOk Pr) : XOk Pr 41 (smX RInt_BitLen_i XInt_BitLen_i (mInt_BitLen_i q6 fuel)) XInt_BitLen_i := by
  refine smX_ok (fuel := fuel) hΓ hP (LamOk.of 6 41 (LInt_BitLen_i q6 fuel) 0 (by kernel_rfl) (fun i hi => ?_)) 7 41 RInt_BitLen_i XInt_BitLen_i _ (fun xs0 ys0 v ha hb h => ?_)
  · match i,hi with
    | i + 0,hi => exact absurd hi (by omega)
  · skip
    have ha0 : xs0.length = 1 := ha
    clear ha
    obtain ⟨a0,xs1,rfl,ha1⟩ := len_cons ha0
    clear ha0
    obtain rfl := List.eq_nil_of_length_eq_zero ha1
    have hy0 : ys0.map List.length = [2] := hb
    clear hb
    obtain ⟨wh,ys1,rfl,hb0_0,hy1⟩ := map_cons' hy0
    clear hy0
    obtain ⟨c0_0,b0_1,rfl,hb0_1⟩ := len_cons hb0_0
    clear hb0_0
    obtain ⟨c0_1,z8,rfl,hb0_2⟩ := len_cons hb0_1
    clear hb0_1
    obtain rfl := List.eq_nil_of_length_eq_zero hb0_2
    obtain rfl := map_nil' hy1
    have h : mInt_BitLen_i q6 fuel [a0,c0_0,c0_1] = some v := h
    generalize hx0 : [a0,c0_0,c0_1] = zs at h
    unfold mInt_BitLen_i at h
    split at h
    · skip
      obtain ⟨rfl,hx1⟩ := List.cons.inj hx0
      obtain ⟨rfl,hx2⟩ := List.cons.inj hx1
      obtain ⟨rfl,hx3⟩ := List.cons.inj hx2
      simp only [List.map_cons,List.map_nil]
      exact (gInt_BitLen_i_run q6 fuel _ _ _ _).trans h
    · cases h
noncomputable def Gbit : Gam := []
noncomputable def gbit (fuel zn vq : Nat) (vh : Ge) (ui1 : Int) : Option AV :=
  ck (bif !decide (ui1 < 0) then true else true) <| bif bif decide (ui1 < 0) then true else decide (IntKind.i64.wrap (ui1.tdiv 32) ≥ (↑zn : Int)) then some (AV.int .u64 0)
  else ck (decide (0 ≤ IntKind.i64.wrap (ui1.tdiv 32))) <| ck (decide (IntKind.i64.wrap (ui1.tdiv 32) < (↑zn : Int))) <| ck (fitK (LK.i .u32) (vh (IntKind.i64.wrap (ui1.tdiv 32)).toNat 0)) <| ck (decide (0 ≤ (IntKind.u64.wrap ui1).tmod 32)) <| some (AV.int .u64 (IntKind.u64.wrap (↑(BitVec.ofInt 64 (IntKind.u64.wrap ((toI (vh (IntKind.i64.wrap (ui1.tdiv 32)).toNat 0)).fdiv (2 ^ min ((IntKind.u64.wrap ui1).tmod 32).toNat 32))) &&& BitVec.ofInt 64 1).toNat : Int)))
noncomputable def mbit (fuel : Nat) (xs : List AV) : Option AV := match xs with
  | [AV.ro 1 zn vq vh,AV.int .i64 ui1] => gbit fuel zn vq vh ui1
  | _ => none
abbrev Rbit : List RS := [RS.one (LK.i .u64)]
theorem gbit_sm (fuel : Nat) (hΓ : GamOk Pr Gbit) (hP : NamesOk Pr) : SmOk Pr 196 (smM Rbit (mbit fuel)) := sm0 (fuel := fuel) (d := 7) hΓ hP fun xs v h => by
  unfold mbit at h
  split at h
  · exact Eq.trans (by kernel_rfl) h
  · cases h
noncomputable def SInt_TrailingZeroBits_a_0 (un3 : Int) (wx : Bool) (qu qx : Nat) (qw : Ge) : St := { env := [(0,AV.ptr 0 0),(3,AV.int .u64 un3)],h := [Blk.box [AV.bool wx,AV.ro 1 qu qx qw]],kd := [] }
noncomputable def XInt_TrailingZeroBits_a_0_0 (qd9 : Int) (vm : Bool) (vl vk : Nat) (vi : Ge) : St := { env := [(3,AV.int .u64 qd9)],h := [Blk.box [AV.bool vm,AV.ro 1 vl vk vi]],kd := [] }
noncomputable def gInt_TrailingZeroBits_a_l0_step (qbm : Mo) (fuel : Nat) (kn : Int → Option AV) (kx0 : Int → Bool → Nat → Nat → Ge → Option AV) (wx : Bool) (qu qx : Nat) (qw : Ge) (un3 : Int) : Option AV :=
  ck (okM [RS.one (LK.i .u64)] (qbm [AV.ro 1 qu qx qw,AV.int .i64 (IntKind.i64.wrap un3)])) <| bif toI (getV (qbm [AV.ro 1 qu qx qw,AV.int .i64 (IntKind.i64.wrap un3)])) == 0 then kn (IntKind.u64.wrap (un3 + 1))
  else kx0 un3 wx qu qx qw
noncomputable def gInt_TrailingZeroBits_a_l0 (qbm : Mo) (fuel : Nat) (kx0 : Int → Bool → Nat → Nat → Ge → Option AV) (wx : Bool) (qu qx : Nat) (qw : Ge) : Nat → Int → Option AV
  | 0,_ => none
  | n' + 1,un3 => gInt_TrailingZeroBits_a_l0_step qbm fuel (gInt_TrailingZeroBits_a_l0 qbm fuel kx0 wx qu qx qw n') kx0 wx qu qx qw un3
noncomputable def TInt_TrailingZeroBits_a_0 : TS' := ⟨[(0,TA.ptr 0 0),(3,TA.i .u64)],[TB.box [TA.b,TA.ro 1]],[]⟩
noncomputable def FInt_TrailingZeroBits_a_0 (qbm : Mo) (fuel : Nat) (ps : List Pay) (K : Ex → St → Option AV) : Option AV := match ps with
  | .i un3 :: .b wx :: .n qu :: .n qx :: .g qw :: [] => gInt_TrailingZeroBits_a_l0 qbm fuel (fun qd9 vm vl vk vi => K (Ex.exit 0) (XInt_TrailingZeroBits_a_0_0 qd9 vm vl vk vi)) wx qu qx qw fuel un3
  | _ => none
noncomputable def LInt_TrailingZeroBits_a (qbm : Mo) (fuel : Nat) : Lam AV := [(1047560,lam TInt_TrailingZeroBits_a_0 (FInt_TrailingZeroBits_a_0 qbm fuel))]
noncomputable def GInt_TrailingZeroBits_a (qbm : Mo) : Gam := [(196,smM [RS.one (LK.i .u64)] qbm)]
theorem gInt_TrailingZeroBits_a_l0_eq (qbm : Mo) (fuel : Nat) (kn : St → Option AV) (K : Ex → St → Option AV) (wx : Bool) (qu qx : Nat) (qw : Ge) (qfb un3 : Int) :
    bX Pr (GInt_TrailingZeroBits_a qbm) (LInt_TrailingZeroBits_a qbm fuel) 6 139 0 fuel (SInt_TrailingZeroBits_a_0 un3 wx qu qx qw) (fun e s => match e with | .normal => kn (hX Pr 139 0 (SInt_TrailingZeroBits_a_0 qfb wx qu qx qw) s) | e => K e s) =
    gInt_TrailingZeroBits_a_l0_step qbm fuel (fun un3 => kn (SInt_TrailingZeroBits_a_0 un3 wx qu qx qw)) (fun qco z9 zb za w9 => K (Ex.exit 0) (XInt_TrailingZeroBits_a_0_0 qco z9 zb za w9)) wx qu qx qw un3 := by kernel_rfl
theorem gInt_TrailingZeroBits_a_l0_ok (qbm : Mo) (fuel : Nat) (K : Ex → St → Option AV) (wx : Bool) (qu qx : Nat) (qw : Ge) (qfb : Int) : ∀ (n' : Nat) (un3 : Int),
    loopK (bX Pr (GInt_TrailingZeroBits_a qbm) (LInt_TrailingZeroBits_a qbm fuel) 6 139 0 fuel) (hX Pr 139 0 (SInt_TrailingZeroBits_a_0 qfb wx qu qx qw)) n' (SInt_TrailingZeroBits_a_0 un3 wx qu qx qw) K = gInt_TrailingZeroBits_a_l0 qbm fuel (fun qco z9 zb za w9 => K (Ex.exit 0) (XInt_TrailingZeroBits_a_0_0 qco z9 zb za w9)) wx qu qx qw n' un3
  | 0,_ => rfl
  | n' + 1,un3 => (gInt_TrailingZeroBits_a_l0_eq qbm fuel (fun s => loopK (bX Pr (GInt_TrailingZeroBits_a qbm) (LInt_TrailingZeroBits_a qbm fuel) 6 139 0 fuel) (hX Pr 139 0 (SInt_TrailingZeroBits_a_0 qfb wx qu qx qw)) n' s K) K wx qu qx qw qfb un3).trans
    (congrArg (fun kn => gInt_TrailingZeroBits_a_l0_step qbm fuel kn _ wx qu qx qw un3) (funext fun un3 => gInt_TrailingZeroBits_a_l0_ok qbm fuel K wx qu qx qw qfb n' un3))
theorem gInt_TrailingZeroBits_a_L0 (qbm : Mo) (fuel : Nat) : LX Pr (GInt_TrailingZeroBits_a qbm) (LInt_TrailingZeroBits_a qbm fuel) 6 139 0 fuel := by
  refine .of TInt_TrailingZeroBits_a_0 (FInt_TrailingZeroBits_a_0 qbm fuel) (fun L h => ?_) (fun ps st K r he hr => ?_)
  · have e : (LInt_TrailingZeroBits_a qbm fuel).get (writes (lp Pr 139 0).1) = some (lam TInt_TrailingZeroBits_a_0 (FInt_TrailingZeroBits_a_0 qbm fuel)) := by kernel_rfl
    exact (Option.some.inj (e.symm.trans h)).symm
  · unfold FInt_TrailingZeroBits_a_0 at hr
    split at hr
    · obtain rfl := (Option.some.inj he).symm
      exact (gInt_TrailingZeroBits_a_l0_ok qbm fuel K _ _ _ _ _ fuel _).trans hr
    · cases hr
noncomputable def gInt_TrailingZeroBits_a (qbm : Mo) (fuel : Nat) (wh : Bool) (qr qz : Nat) (qy : Ge) : Option AV :=
  bif (↑qr : Int) == 0 then some (AV.tup [AV.bool wh,AV.ro 1 qr qz qy,AV.int .u64 0])
  else gInt_TrailingZeroBits_a_l0 qbm fuel
    (fun (qco : Int) (z9 : Bool) (zb za : Nat) (w9 : Ge) => some (AV.tup [AV.bool z9,AV.ro 1 zb za w9,AV.int .u64 qco]))
    wh
    qr
    qz
    qy fuel (0)
theorem gInt_TrailingZeroBits_a_run (qbm : Mo) (fuel : Nat) (wh : Bool) (qr qz : Nat) (qy : Ge) : runX Pr (GInt_TrailingZeroBits_a qbm) [((6,139),LInt_TrailingZeroBits_a qbm fuel)] fuel 7 139 XInt_TrailingZeroBits_a [AV.ptr 0 0] [Blk.box [AV.bool wh,AV.ro 1 qr qz qy]] = gInt_TrailingZeroBits_a qbm fuel wh qr qz qy := by kernel_rfl
noncomputable def mInt_TrailingZeroBits_a (qbm : Mo) (fuel : Nat) (xs : List AV) : Option AV := match xs with
  | [AV.ptr 0 0,AV.bool wh,AV.ro 1 qr qz qy] => gInt_TrailingZeroBits_a qbm fuel wh qr qz qy
  | _ => none
theorem gInt_TrailingZeroBits_a_sm (qbm : Mo) (fuel : Nat) (hΓ : GamOk Pr (GInt_TrailingZeroBits_a qbm)) (hP : NamesOk Pr) : XOk Pr 139 (smX RInt_TrailingZeroBits_a XInt_TrailingZeroBits_a (mInt_TrailingZeroBits_a qbm fuel)) XInt_TrailingZeroBits_a := by
  refine smX_ok (fuel := fuel) hΓ hP (LamOk.of 6 139 (LInt_TrailingZeroBits_a qbm fuel) 1 (by kernel_rfl) (fun i hi => ?_)) 7 139 RInt_TrailingZeroBits_a XInt_TrailingZeroBits_a _ (fun xs0 ys0 v ha hb h => ?_)
  · match i,hi with
    | 0,_ => exact gInt_TrailingZeroBits_a_L0 qbm fuel
    | i + 1,hi => exact absurd hi (by omega)
  · skip
    have ha0 : xs0.length = 1 := ha
    clear ha
    obtain ⟨a0,xs1,rfl,ha1⟩ := len_cons ha0
    clear ha0
    obtain rfl := List.eq_nil_of_length_eq_zero ha1
    have hy0 : ys0.map List.length = [2] := hb
    clear hb
    obtain ⟨wh,ys1,rfl,hb0_0,hy1⟩ := map_cons' hy0
    clear hy0
    obtain ⟨c0_0,b0_1,rfl,hb0_1⟩ := len_cons hb0_0
    clear hb0_0
    obtain ⟨c0_1,z8,rfl,hb0_2⟩ := len_cons hb0_1
    clear hb0_1
    obtain rfl := List.eq_nil_of_length_eq_zero hb0_2
    obtain rfl := map_nil' hy1
    have h : mInt_TrailingZeroBits_a qbm fuel [a0,c0_0,c0_1] = some v := h
    generalize hx0 : [a0,c0_0,c0_1] = zs at h
    unfold mInt_TrailingZeroBits_a at h
    split at h
    · skip
      obtain ⟨rfl,hx1⟩ := List.cons.inj hx0
      obtain ⟨rfl,hx2⟩ := List.cons.inj hx1
      obtain ⟨rfl,hx3⟩ := List.cons.inj hx2
      simp only [List.map_cons,List.map_nil]
      exact (gInt_TrailingZeroBits_a_run qbm fuel _ _ _ _).trans h
    · cases h
noncomputable def SInt_And_a_0 (un7 : Int) (pd pv : Nat) (qab pw : Nat) (qag qal : Nat) (vr : Int) (wx : Bool) (qu qx : Nat) (qw : Ge) (zj : Bool) (ze zg : Nat) (zh : Ge) (p3 : Bool) (px py : Nat) (pz : Ge) (h3z : List AV) (h3e : List (List AV)) (h4z : List AV) (h4e : List (List AV)) : St := { env := [(0,AV.ptr 0 0),(7,AV.int .i64 un7),(8,AV.own 3 pd 1 pv qab),(9,AV.own 4 pw 1 qag qal),(10,AV.int .i64 vr)],h := [Blk.box [AV.bool wx,AV.ro 1 qu qx qw],Blk.box [AV.bool zj,AV.ro 1 ze zg zh],Blk.box [AV.bool p3,AV.ro 1 px py pz],Blk.fx 1 h3z h3e,Blk.fx 1 h4z h4e],kd := [] }
noncomputable def XInt_And_a_0_0 (qgh qgn qgd : Nat) (vm : Bool) (vl vk : Nat) (vi : Ge) (vy : Bool) (pc pb : Nat) (y7 : Ge) (qcm : Bool) (qhc qhj : Nat) (qhk : Ge) (qf1 : List AV) (qf3 : List (List AV)) (qj3 : List AV) (qj9 : List (List AV)) : St := { env := [(0,AV.ptr 0 0),(8,AV.own 3 qgh 1 qgn qgd)],h := [Blk.box [AV.bool vm,AV.ro 1 vl vk vi],Blk.box [AV.bool vy,AV.ro 1 pc pb y7],Blk.box [AV.bool qcm,AV.ro 1 qhc qhj qhk],Blk.fx 1 qf1 qf3,Blk.fx 1 qj3 qj9],kd := [] }
noncomputable def gInt_And_a_l0_step (qn qq : Mo) (fuel : Nat) (kn : Int → List (List AV) → Option AV) (kx0 : Nat → Nat → Nat → Bool → Nat → Nat → Ge → Bool → Nat → Nat → Ge → Bool → Nat → Nat → Ge → List AV → List (List AV) → List AV → List (List AV) → Option AV) (un7 : Int) (pd pv : Nat) (qab pw : Nat) (qag qal : Nat) (wx : Bool) (qu qx : Nat) (qw : Ge) (zj : Bool) (ze zg : Nat) (zh : Ge) (p3 : Bool) (px py : Nat) (pz : Ge) (h3z h4z : List AV) (h4e : List (List AV)) (vr : Int) (h3e : List (List AV)) : Option AV :=
  bif decide (vr < un7) then ck (decide (0 ≤ vr)) <| ck (decide (vr < (↑pv : Int))) <| ck (fitK (LK.i .u32) ((h3e.getD (pd + vr.toNat) h3z).getD 0 AV.dead)) <| ck (decide (0 ≤ vr)) <| ck (decide (vr < (↑qag : Int))) <| ck (fitK (LK.i .u32) ((h4e.getD (pw + vr.toNat) h4z).getD 0 AV.dead)) <| ck (decide (0 ≤ vr)) <| ck (decide (vr < (↑pv : Int))) <| kn (IntKind.i64.wrap (vr + 1)) (h3e.set (pd + vr.toNat) (AV.int .u32 (IntKind.u32.wrap (↑(BitVec.ofInt 32 (toI ((h3e.getD (pd + vr.toNat) h3z).getD 0 AV.dead)) &&& BitVec.ofInt 32 (toI ((h4e.getD (pw + vr.toNat) h4z).getD 0 AV.dead))).toNat : Int)) :: List.drop (0 + [AV.int .u32 (IntKind.u32.wrap (↑(BitVec.ofInt 32 (toI ((h3e.getD (pd + vr.toNat) h3z).getD 0 AV.dead)) &&& BitVec.ofInt 32 (toI ((h4e.getD (pw + vr.toNat) h4z).getD 0 AV.dead))).toNat : Int))].length) (h3e.getD (pd + vr.toNat) h3z)))
  else kx0 pd pv qab wx qu qx qw zj ze zg zh p3 px py pz h3z h3e h4z h4e
noncomputable def gInt_And_a_l0 (qn qq : Mo) (fuel : Nat) (kx0 : Nat → Nat → Nat → Bool → Nat → Nat → Ge → Bool → Nat → Nat → Ge → Bool → Nat → Nat → Ge → List AV → List (List AV) → List AV → List (List AV) → Option AV) (un7 : Int) (pd pv : Nat) (qab pw : Nat) (qag qal : Nat) (wx : Bool) (qu qx : Nat) (qw : Ge) (zj : Bool) (ze zg : Nat) (zh : Ge) (p3 : Bool) (px py : Nat) (pz : Ge) (h3z h4z : List AV) (h4e : List (List AV)) : Nat → Int → List (List AV) → Option AV
  | 0,_,_ => none
  | n' + 1,vr,h3e => gInt_And_a_l0_step qn qq fuel (gInt_And_a_l0 qn qq fuel kx0 un7 pd pv qab pw qag qal wx qu qx qw zj ze zg zh p3 px py pz h3z h4z h4e n') kx0 un7 pd pv qab pw qag qal wx qu qx qw zj ze zg zh p3 px py pz h3z h4z h4e vr h3e
termination_by structural k => k
noncomputable def TInt_And_a_0 : TS' := ⟨[(0,TA.ptr 0 0),(7,TA.i .i64),(8,TA.own 3 1),(9,TA.own 4 1),(10,TA.i .i64)],[TB.box [TA.b,TA.ro 1],TB.box [TA.b,TA.ro 1],TB.box [TA.b,TA.ro 1],TB.fx 1,TB.fx 1],[]⟩
noncomputable def FInt_And_a_0 (qn qq : Mo) (fuel : Nat) (ps : List Pay) (K : Ex → St → Option AV) : Option AV := match ps with
  | .i un7 :: .n pd :: .n pv :: .n qab :: .n pw :: .n qag :: .n qal :: .i vr :: .b wx :: .n qu :: .n qx :: .g qw :: .b zj :: .n ze :: .n zg :: .g zh :: .b p3 :: .n px :: .n py :: .g pz :: .z h3z :: .e h3e :: .z h4z :: .e h4e :: [] => gInt_And_a_l0 qn qq fuel (fun qgh qgn qgd vm vl vk vi vy pc pb y7 qcm qhc qhj qhk qf1 qf3 qj3 qj9 => K (Ex.exit 0) (XInt_And_a_0_0 qgh qgn qgd vm vl vk vi vy pc pb y7 qcm qhc qhj qhk qf1 qf3 qj3 qj9)) un7 pd pv qab pw qag qal wx qu qx qw zj ze zg zh p3 px py pz h3z h4z h4e fuel vr h3e
  | _ => none
noncomputable def LInt_And_a (qn qq : Mo) (fuel : Nat) : Lam AV := [(17591649174528,lam TInt_And_a_0 (FInt_And_a_0 qn qq fuel))]
noncomputable def GInt_And_a (qn qq : Mo) : Gam := [(198,smX RInt_low_a XInt_low_a qn),(199,smX RInt_of_a XInt_of_a qq)]
theorem gInt_And_a_l0_eq (qn qq : Mo) (fuel : Nat) (kn : St → Option AV) (K : Ex → St → Option AV) (un7 : Int) (pd pv : Nat) (qab pw : Nat) (qag qal : Nat) (wx : Bool) (qu qx : Nat) (qw : Ge) (zj : Bool) (ze zg : Nat) (zh : Ge) (p3 : Bool) (px py : Nat) (pz : Ge) (h3z h4z : List AV) (h4e : List (List AV)) (qdz : Int) (qlo : List (List AV)) (vr : Int) (h3e : List (List AV)) :
    bX Pr (GInt_And_a qn qq) (LInt_And_a qn qq fuel) 6 197 0 fuel (SInt_And_a_0 un7 pd pv qab pw qag qal vr wx qu qx qw zj ze zg zh p3 px py pz h3z h3e h4z h4e) (fun e s => match e with | .normal => kn (hX Pr 197 0 (SInt_And_a_0 un7 pd pv qab pw qag qal qdz wx qu qx qw zj ze zg zh p3 px py pz h3z qlo h4z h4e) s) | e => K e s) =
    gInt_And_a_l0_step qn qq fuel (fun vr h3e => kn (SInt_And_a_0 un7 pd pv qab pw qag qal vr wx qu qx qw zj ze zg zh p3 px py pz h3z h3e h4z h4e)) (fun qd3 qd5 qd1 z9 zb za w9 v6 yh yg yj qcw qg3 qgt qgs qg1 qf9 qlk qj5 => K (Ex.exit 0) (XInt_And_a_0_0 qd3 qd5 qd1 z9 zb za w9 v6 yh yg yj qcw qg3 qgt qgs qg1 qf9 qlk qj5)) un7 pd pv qab pw qag qal wx qu qx qw zj ze zg zh p3 px py pz h3z h4z h4e vr h3e := by kernel_rfl
theorem gInt_And_a_l0_ok (qn qq : Mo) (fuel : Nat) (K : Ex → St → Option AV) (un7 : Int) (pd pv : Nat) (qab pw : Nat) (qag qal : Nat) (wx : Bool) (qu qx : Nat) (qw : Ge) (zj : Bool) (ze zg : Nat) (zh : Ge) (p3 : Bool) (px py : Nat) (pz : Ge) (h3z h4z : List AV) (h4e : List (List AV)) (qdz : Int) (qlo : List (List AV)) : ∀ (n' : Nat) (vr : Int) (h3e : List (List AV)),
    loopK (bX Pr (GInt_And_a qn qq) (LInt_And_a qn qq fuel) 6 197 0 fuel) (hX Pr 197 0 (SInt_And_a_0 un7 pd pv qab pw qag qal qdz wx qu qx qw zj ze zg zh p3 px py pz h3z qlo h4z h4e)) n' (SInt_And_a_0 un7 pd pv qab pw qag qal vr wx qu qx qw zj ze zg zh p3 px py pz h3z h3e h4z h4e) K = gInt_And_a_l0 qn qq fuel (fun qd3 qd5 qd1 z9 zb za w9 v6 yh yg yj qcw qg3 qgt qgs qg1 qf9 qlk qj5 => K (Ex.exit 0) (XInt_And_a_0_0 qd3 qd5 qd1 z9 zb za w9 v6 yh yg yj qcw qg3 qgt qgs qg1 qf9 qlk qj5)) un7 pd pv qab pw qag qal wx qu qx qw zj ze zg zh p3 px py pz h3z h4z h4e n' vr h3e
  | 0,_,_ => rfl
  | n' + 1,vr,h3e => (gInt_And_a_l0_eq qn qq fuel (fun s => loopK (bX Pr (GInt_And_a qn qq) (LInt_And_a qn qq fuel) 6 197 0 fuel) (hX Pr 197 0 (SInt_And_a_0 un7 pd pv qab pw qag qal qdz wx qu qx qw zj ze zg zh p3 px py pz h3z qlo h4z h4e)) n' s K) K un7 pd pv qab pw qag qal wx qu qx qw zj ze zg zh p3 px py pz h3z h4z h4e qdz qlo vr h3e).trans
    (congrArg (fun kn => gInt_And_a_l0_step qn qq fuel kn _ un7 pd pv qab pw qag qal wx qu qx qw zj ze zg zh p3 px py pz h3z h4z h4e vr h3e) (funext fun vr => funext fun h3e => gInt_And_a_l0_ok qn qq fuel K un7 pd pv qab pw qag qal wx qu qx qw zj ze zg zh p3 px py pz h3z h4z h4e qdz qlo n' vr h3e))
theorem gInt_And_a_L0 (qn qq : Mo) (fuel : Nat) : LX Pr (GInt_And_a qn qq) (LInt_And_a qn qq fuel) 6 197 0 fuel := by
  refine .of TInt_And_a_0 (FInt_And_a_0 qn qq fuel) (fun L h => ?_) (fun ps st K r he hr => ?_)
  · have e : (LInt_And_a qn qq fuel).get (writes (lp Pr 197 0).1) = some (lam TInt_And_a_0 (FInt_And_a_0 qn qq fuel)) := by kernel_rfl
    exact (Option.some.inj (e.symm.trans h)).symm
  · unfold FInt_And_a_0 at hr
    split at hr
    · obtain rfl := (Option.some.inj he).symm
      exact (gInt_And_a_l0_ok qn qq fuel K _ _ _ _ _ _ _ _ _ _ _ _ _ _ _ _ _ _ _ _ _ _ _ _ fuel _ _).trans hr
    · cases hr
noncomputable def gInt_And_a (qn qq : Mo) (fuel : Nat) (wh : Bool) (qr qz : Nat) (qy : Ge) (z4 : Bool) (w5 zl : Nat) (zm : Ge) (v9 : Bool) (z7 vf : Nat) (vg : Ge) : Option AV :=
  let r0 : Option AV := qn [AV.ptr (xidx 1 (xtoks [AV.ptr 1 0,AV.int .i64 (IntKind.i64.wrap ((if (↑z7 : Int) > (↑w5 : Int) then (↑z7 : Int) else (↑w5 : Int)) + 1))] [])) 0,AV.int .i64 (IntKind.i64.wrap ((if (↑z7 : Int) > (↑w5 : Int) then (↑z7 : Int) else (↑w5 : Int)) + 1)),AV.bool z4,AV.ro 1 w5 zl zm]; ck (okX [RS.one LK.b,RS.one (LK.l 1),RS.one (LK.l 1),RS.one (LK.l 1),RS.one (LK.i .i64)] r0) <| let r1 : Option AV := qn [AV.ptr (xidx 2 (xtoks [AV.ptr 2 0,AV.int .i64 (IntKind.i64.wrap ((if (↑z7 : Int) > (↑w5 : Int) then (↑z7 : Int) else (↑w5 : Int)) + 1))] [])) 0,AV.int .i64 (IntKind.i64.wrap ((if (↑z7 : Int) > (↑w5 : Int) then (↑z7 : Int) else (↑w5 : Int)) + 1)),AV.bool v9,AV.ro 1 z7 vf vg]; ck (okX [RS.one LK.b,RS.one (LK.l 1),RS.one (LK.l 1),RS.one (LK.l 1),RS.one (LK.i .i64)] r1) <| gInt_And_a_l0 qn qq fuel
    (fun (qd3 qd5 qd1 : Nat) (z9 : Bool) (zb za : Nat) (w9 : Ge) (v6 : Bool) (yh yg : Nat) (yj : Ge) (qcw : Bool) (qg3 qgt : Nat) (qgs : Ge) (qg1 : List AV) (qf9 : List (List AV)) (_ : List AV) (_ : List (List AV)) => let r2 : Option AV := qq [AV.ptr (xidx 0 (xtoks [AV.ptr 0 0,AV.own 3 qd3 1 qd5 qd1] [])) 0,AV.ro 1 qd5 qd1 fun (i j : Nat) => (qf9.getD (qd3 + i) qg1).getD j AV.dead,AV.bool z9,AV.ro 1 zb za w9]; ck (okX [RS.one LK.b,RS.one (LK.l 1)] r2) <| some (AV.tup [AV.bool (toB ((toT (getV r2)).headD .dead)),AV.ro 1 (toN ((toT (getV r2)).tail.headD .dead)) (toR ((toT (getV r2)).tail.headD .dead)) (toG ((toT (getV r2)).tail.headD .dead)),AV.bool v6,AV.ro 1 yh yg yj,AV.bool qcw,AV.ro 1 qg3 qgt qgs]))
    (IntKind.i64.wrap ((if (↑z7 : Int) > (↑w5 : Int) then (↑z7 : Int) else (↑w5 : Int)) + 1))
    ((match (toT (getV r0)).tail.tail.tail.tail.headD .dead with | AV.int k n => n | x => 0).toNat)
    (match (toT (getV r0)).tail.tail.headD .dead with | AV.ro sz n rd get => n | x => 0)
    (match (toT (getV r0)).tail.tail.headD .dead with | AV.ro sz n r get => r | x => 0)
    ((match (toT (getV r1)).tail.tail.tail.tail.headD .dead with | AV.int k n => n | x => 0).toNat)
    (match (toT (getV r1)).tail.tail.headD .dead with | AV.ro sz n rd get => n | x => 0)
    (match (toT (getV r1)).tail.tail.headD .dead with | AV.ro sz n r get => r | x => 0)
    wh
    qr
    qz
    qy
    (toB ((toT (getV r0)).headD .dead))
    (toN ((toT (getV r0)).tail.headD .dead))
    (toR ((toT (getV r0)).tail.headD .dead))
    (toG ((toT (getV r0)).tail.headD .dead))
    (toB ((toT (getV r1)).headD .dead))
    (toN ((toT (getV r1)).tail.headD .dead))
    (toR ((toT (getV r1)).tail.headD .dead))
    (toG ((toT (getV r1)).tail.headD .dead))
    ([AV.int .u32 0])
    ([AV.int .u32 0])
    (rows 1 (match (toT (getV r1)).tail.tail.tail.headD .dead with | AV.ro sz n rd get => n | x => 0) (toG (AV.ro 1 (toN ((toT (getV r1)).tail.tail.tail.headD .dead)) (toR ((toT (getV r1)).tail.tail.tail.headD .dead)) (toG ((toT (getV r1)).tail.tail.tail.headD .dead))))) fuel (0) (rows 1 (match (toT (getV r0)).tail.tail.tail.headD .dead with | AV.ro sz n rd get => n | x => 0) (toG (AV.ro 1 (toN ((toT (getV r0)).tail.tail.tail.headD .dead)) (toR ((toT (getV r0)).tail.tail.tail.headD .dead)) (toG ((toT (getV r0)).tail.tail.tail.headD .dead)))))
theorem gInt_And_a_run (qn qq : Mo) (fuel : Nat) (wh : Bool) (qr qz : Nat) (qy : Ge) (z4 : Bool) (w5 zl : Nat) (zm : Ge) (v9 : Bool) (z7 vf : Nat) (vg : Ge) : runX Pr (GInt_And_a qn qq) [((6,197),LInt_And_a qn qq fuel)] fuel 7 197 XInt_And_a [AV.ptr 0 0,AV.ptr 1 0,AV.ptr 2 0] [Blk.box [AV.bool wh,AV.ro 1 qr qz qy],Blk.box [AV.bool z4,AV.ro 1 w5 zl zm],Blk.box [AV.bool v9,AV.ro 1 z7 vf vg]] = gInt_And_a qn qq fuel wh qr qz qy z4 w5 zl zm v9 z7 vf vg := by kernel_rfl
noncomputable def mInt_And_a (qn qq : Mo) (fuel : Nat) (xs : List AV) : Option AV := match xs with
  | [AV.ptr 0 0,AV.ptr 1 0,AV.ptr 2 0,AV.bool wh,AV.ro 1 qr qz qy,AV.bool z4,AV.ro 1 w5 zl zm,AV.bool v9,AV.ro 1 z7 vf vg] => gInt_And_a qn qq fuel wh qr qz qy z4 w5 zl zm v9 z7 vf vg
  | _ => none
theorem gInt_And_a_sm (qn qq : Mo) (fuel : Nat) (hΓ : GamOk Pr (GInt_And_a qn qq)) (hP : NamesOk Pr) : XOk Pr 197 (smX RInt_And_a XInt_And_a (mInt_And_a qn qq fuel)) XInt_And_a := by
  refine smX_ok (fuel := fuel) hΓ hP (LamOk.of 6 197 (LInt_And_a qn qq fuel) 1 (by kernel_rfl) (fun i hi => ?_)) 7 197 RInt_And_a XInt_And_a _ (fun xs0 ys0 v ha hb h => ?_)
  · match i,hi with
    | 0,_ => exact gInt_And_a_L0 qn qq fuel
    | i + 1,hi => exact absurd hi (by omega)
  · skip
    have ha0 : xs0.length = 3 := ha
    clear ha
    obtain ⟨a0,xs1,rfl,ha1⟩ := len_cons ha0
    clear ha0
    obtain ⟨a1,xs2,rfl,ha2⟩ := len_cons ha1
    clear ha1
    obtain ⟨a2,xs3,rfl,ha3⟩ := len_cons ha2
    clear ha2
    obtain rfl := List.eq_nil_of_length_eq_zero ha3
    have hy0 : ys0.map List.length = [2,2,2] := hb
    clear hb
    obtain ⟨wh,ys1,rfl,hb0_0,hy1⟩ := map_cons' hy0
    clear hy0
    obtain ⟨c0_0,b0_1,rfl,hb0_1⟩ := len_cons hb0_0
    clear hb0_0
    obtain ⟨c0_1,z8,rfl,hb0_2⟩ := len_cons hb0_1
    clear hb0_1
    obtain rfl := List.eq_nil_of_length_eq_zero hb0_2
    obtain ⟨z4,ys2,rfl,hb1_0,hy2⟩ := map_cons' hy1
    clear hy1
    obtain ⟨c1_0,b1_1,rfl,hb1_1⟩ := len_cons hb1_0
    clear hb1_0
    obtain ⟨c1_1,qaq,rfl,hb1_2⟩ := len_cons hb1_1
    clear hb1_1
    obtain rfl := List.eq_nil_of_length_eq_zero hb1_2
    obtain ⟨v9,ys3,rfl,hb2_0,hy3⟩ := map_cons' hy2
    clear hy2
    obtain ⟨c2_0,b2_1,rfl,hb2_1⟩ := len_cons hb2_0
    clear hb2_0
    obtain ⟨c2_1,qdq,rfl,hb2_2⟩ := len_cons hb2_1
    clear hb2_1
    obtain rfl := List.eq_nil_of_length_eq_zero hb2_2
    obtain rfl := map_nil' hy3
    have h : mInt_And_a qn qq fuel [a0,a1,a2,c0_0,c0_1,c1_0,c1_1,c2_0,c2_1] = some v := h
    generalize hx0 : [a0,a1,a2,c0_0,c0_1,c1_0,c1_1,c2_0,c2_1] = zs at h
    unfold mInt_And_a at h
    split at h
    · skip
      obtain ⟨rfl,hx1⟩ := List.cons.inj hx0
      obtain ⟨rfl,hx2⟩ := List.cons.inj hx1
      obtain ⟨rfl,hx3⟩ := List.cons.inj hx2
      obtain ⟨rfl,hx4⟩ := List.cons.inj hx3
      obtain ⟨rfl,hx5⟩ := List.cons.inj hx4
      obtain ⟨rfl,hx6⟩ := List.cons.inj hx5
      obtain ⟨rfl,hx7⟩ := List.cons.inj hx6
      obtain ⟨rfl,hx8⟩ := List.cons.inj hx7
      obtain ⟨rfl,hx9⟩ := List.cons.inj hx8
      simp only [List.map_cons,List.map_nil]
      exact (gInt_And_a_run qn qq fuel _ _ _ _ _ _ _ _ _ _ _ _).trans h
    · cases h
noncomputable def SInt_And_pp_0 (un7 : Int) (pd pv : Nat) (qab pw : Nat) (qag qal : Nat) (vr : Int) (wx : Bool) (qu qx : Nat) (qw : Ge) (zj : Bool) (ze zg : Nat) (zh : Ge) (h2z : List AV) (h2e : List (List AV)) (h3z : List AV) (h3e : List (List AV)) : St := { env := [(0,AV.ptr 0 0),(7,AV.int .i64 un7),(8,AV.own 2 pd 1 pv qab),(9,AV.own 3 pw 1 qag qal),(10,AV.int .i64 vr)],h := [Blk.box [AV.bool wx,AV.ro 1 qu qx qw],Blk.box [AV.bool zj,AV.ro 1 ze zg zh],Blk.fx 1 h2z h2e,Blk.fx 1 h3z h3e],kd := [] }
noncomputable def XInt_And_pp_0_0 (qgh qgn qgd : Nat) (vm : Bool) (vl vk : Nat) (vi : Ge) (vy : Bool) (pc pb : Nat) (y7 : Ge) (qee : List AV) (qed : List (List AV)) (qf1 : List AV) (qf3 : List (List AV)) : St := { env := [(0,AV.ptr 0 0),(8,AV.own 2 qgh 1 qgn qgd)],h := [Blk.box [AV.bool vm,AV.ro 1 vl vk vi],Blk.box [AV.bool vy,AV.ro 1 pc pb y7],Blk.fx 1 qee qed,Blk.fx 1 qf1 qf3],kd := [] }
noncomputable def gInt_And_pp_l0_step (qn qq : Mo) (fuel : Nat) (kn : Int → List (List AV) → Option AV) (kx0 : Nat → Nat → Nat → Bool → Nat → Nat → Ge → Bool → Nat → Nat → Ge → List AV → List (List AV) → List AV → List (List AV) → Option AV) (un7 : Int) (pd pv : Nat) (qab pw : Nat) (qag qal : Nat) (wx : Bool) (qu qx : Nat) (qw : Ge) (zj : Bool) (ze zg : Nat) (zh : Ge) (h2z h3z : List AV) (h3e : List (List AV)) (vr : Int) (h2e : List (List AV)) : Option AV :=
  bif decide (vr < un7) then ck (decide (0 ≤ vr)) <| ck (decide (vr < (↑pv : Int))) <| ck (fitK (LK.i .u32) ((h2e.getD (pd + vr.toNat) h2z).getD 0 AV.dead)) <| ck (decide (0 ≤ vr)) <| ck (decide (vr < (↑qag : Int))) <| ck (fitK (LK.i .u32) ((h3e.getD (pw + vr.toNat) h3z).getD 0 AV.dead)) <| ck (decide (0 ≤ vr)) <| ck (decide (vr < (↑pv : Int))) <| kn (IntKind.i64.wrap (vr + 1)) (h2e.set (pd + vr.toNat) (AV.int .u32 (IntKind.u32.wrap (↑(BitVec.ofInt 32 (toI ((h2e.getD (pd + vr.toNat) h2z).getD 0 AV.dead)) &&& BitVec.ofInt 32 (toI ((h3e.getD (pw + vr.toNat) h3z).getD 0 AV.dead))).toNat : Int)) :: List.drop (0 + [AV.int .u32 (IntKind.u32.wrap (↑(BitVec.ofInt 32 (toI ((h2e.getD (pd + vr.toNat) h2z).getD 0 AV.dead)) &&& BitVec.ofInt 32 (toI ((h3e.getD (pw + vr.toNat) h3z).getD 0 AV.dead))).toNat : Int))].length) (h2e.getD (pd + vr.toNat) h2z)))
  else kx0 pd pv qab wx qu qx qw zj ze zg zh h2z h2e h3z h3e
noncomputable def gInt_And_pp_l0 (qn qq : Mo) (fuel : Nat) (kx0 : Nat → Nat → Nat → Bool → Nat → Nat → Ge → Bool → Nat → Nat → Ge → List AV → List (List AV) → List AV → List (List AV) → Option AV) (un7 : Int) (pd pv : Nat) (qab pw : Nat) (qag qal : Nat) (wx : Bool) (qu qx : Nat) (qw : Ge) (zj : Bool) (ze zg : Nat) (zh : Ge) (h2z h3z : List AV) (h3e : List (List AV)) : Nat → Int → List (List AV) → Option AV
  | 0,_,_ => none
  | n' + 1,vr,h2e => gInt_And_pp_l0_step qn qq fuel (gInt_And_pp_l0 qn qq fuel kx0 un7 pd pv qab pw qag qal wx qu qx qw zj ze zg zh h2z h3z h3e n') kx0 un7 pd pv qab pw qag qal wx qu qx qw zj ze zg zh h2z h3z h3e vr h2e
termination_by structural k => k
noncomputable def TInt_And_pp_0 : TS' := ⟨[(0,TA.ptr 0 0),(7,TA.i .i64),(8,TA.own 2 1),(9,TA.own 3 1),(10,TA.i .i64)],[TB.box [TA.b,TA.ro 1],TB.box [TA.b,TA.ro 1],TB.fx 1,TB.fx 1],[]⟩
noncomputable def FInt_And_pp_0 (qn qq : Mo) (fuel : Nat) (ps : List Pay) (K : Ex → St → Option AV) : Option AV := match ps with
  | .i un7 :: .n pd :: .n pv :: .n qab :: .n pw :: .n qag :: .n qal :: .i vr :: .b wx :: .n qu :: .n qx :: .g qw :: .b zj :: .n ze :: .n zg :: .g zh :: .z h2z :: .e h2e :: .z h3z :: .e h3e :: [] => gInt_And_pp_l0 qn qq fuel (fun qgh qgn qgd vm vl vk vi vy pc pb y7 qee qed qf1 qf3 => K (Ex.exit 0) (XInt_And_pp_0_0 qgh qgn qgd vm vl vk vi vy pc pb y7 qee qed qf1 qf3)) un7 pd pv qab pw qag qal wx qu qx qw zj ze zg zh h2z h3z h3e fuel vr h2e
  | _ => none
noncomputable def LInt_And_pp (qn qq : Mo) (fuel : Nat) : Lam AV := [(17591649174528,lam TInt_And_pp_0 (FInt_And_pp_0 qn qq fuel))]
noncomputable def GInt_And_pp (qn qq : Mo) : Gam := [(198,smX RInt_low_a XInt_low_a qn),(199,smX RInt_of_a XInt_of_a qq)]
theorem gInt_And_pp_l0_eq (qn qq : Mo) (fuel : Nat) (kn : St → Option AV) (K : Ex → St → Option AV) (un7 : Int) (pd pv : Nat) (qab pw : Nat) (qag qal : Nat) (wx : Bool) (qu qx : Nat) (qw : Ge) (zj : Bool) (ze zg : Nat) (zh : Ge) (h2z h3z : List AV) (h3e : List (List AV)) (qdz : Int) (qg2 : List (List AV)) (vr : Int) (h2e : List (List AV)) :
    bX Pr (GInt_And_pp qn qq) (LInt_And_pp qn qq fuel) 6 197 0 fuel (SInt_And_pp_0 un7 pd pv qab pw qag qal vr wx qu qx qw zj ze zg zh h2z h2e h3z h3e) (fun e s => match e with | .normal => kn (hX Pr 197 0 (SInt_And_pp_0 un7 pd pv qab pw qag qal qdz wx qu qx qw zj ze zg zh h2z qg2 h3z h3e) s) | e => K e s) =
    gInt_And_pp_l0_step qn qq fuel (fun vr h2e => kn (SInt_And_pp_0 un7 pd pv qab pw qag qal vr wx qu qx qw zj ze zg zh h2z h2e h3z h3e)) (fun qd3 qd5 qd1 z9 zb za w9 v6 yh yg yj qen qdu qg1 qf9 => K (Ex.exit 0) (XInt_And_pp_0_0 qd3 qd5 qd1 z9 zb za w9 v6 yh yg yj qen qdu qg1 qf9)) un7 pd pv qab pw qag qal wx qu qx qw zj ze zg zh h2z h3z h3e vr h2e := by kernel_rfl
theorem gInt_And_pp_l0_ok (qn qq : Mo) (fuel : Nat) (K : Ex → St → Option AV) (un7 : Int) (pd pv : Nat) (qab pw : Nat) (qag qal : Nat) (wx : Bool) (qu qx : Nat) (qw : Ge) (zj : Bool) (ze zg : Nat) (zh : Ge) (h2z h3z : List AV) (h3e : List (List AV)) (qdz : Int) (qg2 : List (List AV)) : ∀ (n' : Nat) (vr : Int) (h2e : List (List AV)),
    loopK (bX Pr (GInt_And_pp qn qq) (LInt_And_pp qn qq fuel) 6 197 0 fuel) (hX Pr 197 0 (SInt_And_pp_0 un7 pd pv qab pw qag qal qdz wx qu qx qw zj ze zg zh h2z qg2 h3z h3e)) n' (SInt_And_pp_0 un7 pd pv qab pw qag qal vr wx qu qx qw zj ze zg zh h2z h2e h3z h3e) K = gInt_And_pp_l0 qn qq fuel (fun qd3 qd5 qd1 z9 zb za w9 v6 yh yg yj qen qdu qg1 qf9 => K (Ex.exit 0) (XInt_And_pp_0_0 qd3 qd5 qd1 z9 zb za w9 v6 yh yg yj qen qdu qg1 qf9)) un7 pd pv qab pw qag qal wx qu qx qw zj ze zg zh h2z h3z h3e n' vr h2e
  | 0,_,_ => rfl
  | n' + 1,vr,h2e => (gInt_And_pp_l0_eq qn qq fuel (fun s => loopK (bX Pr (GInt_And_pp qn qq) (LInt_And_pp qn qq fuel) 6 197 0 fuel) (hX Pr 197 0 (SInt_And_pp_0 un7 pd pv qab pw qag qal qdz wx qu qx qw zj ze zg zh h2z qg2 h3z h3e)) n' s K) K un7 pd pv qab pw qag qal wx qu qx qw zj ze zg zh h2z h3z h3e qdz qg2 vr h2e).trans
    (congrArg (fun kn => gInt_And_pp_l0_step qn qq fuel kn _ un7 pd pv qab pw qag qal wx qu qx qw zj ze zg zh h2z h3z h3e vr h2e) (funext fun vr => funext fun h2e => gInt_And_pp_l0_ok qn qq fuel K un7 pd pv qab pw qag qal wx qu qx qw zj ze zg zh h2z h3z h3e qdz qg2 n' vr h2e))
theorem gInt_And_pp_L0 (qn qq : Mo) (fuel : Nat) : LX Pr (GInt_And_pp qn qq) (LInt_And_pp qn qq fuel) 6 197 0 fuel := by
  refine .of TInt_And_pp_0 (FInt_And_pp_0 qn qq fuel) (fun L h => ?_) (fun ps st K r he hr => ?_)
  · have e : (LInt_And_pp qn qq fuel).get (writes (lp Pr 197 0).1) = some (lam TInt_And_pp_0 (FInt_And_pp_0 qn qq fuel)) := by kernel_rfl
    exact (Option.some.inj (e.symm.trans h)).symm
  · unfold FInt_And_pp_0 at hr
    split at hr
    · obtain rfl := (Option.some.inj he).symm
      exact (gInt_And_pp_l0_ok qn qq fuel K _ _ _ _ _ _ _ _ _ _ _ _ _ _ _ _ _ _ _ _ fuel _ _).trans hr
    · cases hr
noncomputable def gInt_And_pp (qn qq : Mo) (fuel : Nat) (wh : Bool) (qr qz : Nat) (qy : Ge) (z4 : Bool) (w5 zl : Nat) (zm : Ge) : Option AV :=
  let r0 : Option AV := qn [AV.ptr (xidx 0 (xtoks [AV.ptr 0 0,AV.int .i64 (IntKind.i64.wrap ((if (↑w5 : Int) > (↑qr : Int) then (↑w5 : Int) else (↑qr : Int)) + 1))] [])) 0,AV.int .i64 (IntKind.i64.wrap ((if (↑w5 : Int) > (↑qr : Int) then (↑w5 : Int) else (↑qr : Int)) + 1)),AV.bool wh,AV.ro 1 qr qz qy]; ck (okX [RS.one LK.b,RS.one (LK.l 1),RS.one (LK.l 1),RS.one (LK.l 1),RS.one (LK.i .i64)] r0) <| let r1 : Option AV := qn [AV.ptr (xidx 1 (xtoks [AV.ptr 1 0,AV.int .i64 (IntKind.i64.wrap ((if (↑w5 : Int) > (↑qr : Int) then (↑w5 : Int) else (↑qr : Int)) + 1))] [])) 0,AV.int .i64 (IntKind.i64.wrap ((if (↑w5 : Int) > (↑qr : Int) then (↑w5 : Int) else (↑qr : Int)) + 1)),AV.bool z4,AV.ro 1 w5 zl zm]; ck (okX [RS.one LK.b,RS.one (LK.l 1),RS.one (LK.l 1),RS.one (LK.l 1),RS.one (LK.i .i64)] r1) <| gInt_And_pp_l0 qn qq fuel
    (fun (qd3 qd5 qd1 : Nat) (z9 : Bool) (zb za : Nat) (w9 : Ge) (v6 : Bool) (yh yg : Nat) (yj : Ge) (qen : List AV) (qdu : List (List AV)) (_ : List AV) (_ : List (List AV)) => let r2 : Option AV := qq [AV.ptr (xidx 0 (xtoks [AV.ptr 0 0,AV.own 2 qd3 1 qd5 qd1] [])) 0,AV.ro 1 qd5 qd1 fun (i j : Nat) => (qdu.getD (qd3 + i) qen).getD j AV.dead,AV.bool z9,AV.ro 1 zb za w9]; ck (okX [RS.one LK.b,RS.one (LK.l 1)] r2) <| some (AV.tup [AV.bool (toB ((toT (getV r2)).headD .dead)),AV.ro 1 (toN ((toT (getV r2)).tail.headD .dead)) (toR ((toT (getV r2)).tail.headD .dead)) (toG ((toT (getV r2)).tail.headD .dead)),AV.bool v6,AV.ro 1 yh yg yj]))
    (IntKind.i64.wrap ((if (↑w5 : Int) > (↑qr : Int) then (↑w5 : Int) else (↑qr : Int)) + 1))
    ((match (toT (getV r0)).tail.tail.tail.tail.headD .dead with | AV.int k n => n | x => 0).toNat)
    (match (toT (getV r0)).tail.tail.headD .dead with | AV.ro sz n rd get => n | x => 0)
    (match (toT (getV r0)).tail.tail.headD .dead with | AV.ro sz n r get => r | x => 0)
    ((match (toT (getV r1)).tail.tail.tail.tail.headD .dead with | AV.int k n => n | x => 0).toNat)
    (match (toT (getV r1)).tail.tail.headD .dead with | AV.ro sz n rd get => n | x => 0)
    (match (toT (getV r1)).tail.tail.headD .dead with | AV.ro sz n r get => r | x => 0)
    (toB ((toT (getV r0)).headD .dead))
    (toN ((toT (getV r0)).tail.headD .dead))
    (toR ((toT (getV r0)).tail.headD .dead))
    (toG ((toT (getV r0)).tail.headD .dead))
    (toB ((toT (getV r1)).headD .dead))
    (toN ((toT (getV r1)).tail.headD .dead))
    (toR ((toT (getV r1)).tail.headD .dead))
    (toG ((toT (getV r1)).tail.headD .dead))
    ([AV.int .u32 0])
    ([AV.int .u32 0])
    (rows 1 (match (toT (getV r1)).tail.tail.tail.headD .dead with | AV.ro sz n rd get => n | x => 0) (toG (AV.ro 1 (toN ((toT (getV r1)).tail.tail.tail.headD .dead)) (toR ((toT (getV r1)).tail.tail.tail.headD .dead)) (toG ((toT (getV r1)).tail.tail.tail.headD .dead))))) fuel (0) (rows 1 (match (toT (getV r0)).tail.tail.tail.headD .dead with | AV.ro sz n rd get => n | x => 0) (toG (AV.ro 1 (toN ((toT (getV r0)).tail.tail.tail.headD .dead)) (toR ((toT (getV r0)).tail.tail.tail.headD .dead)) (toG ((toT (getV r0)).tail.tail.tail.headD .dead)))))
theorem gInt_And_pp_run (qn qq : Mo) (fuel : Nat) (wh : Bool) (qr qz : Nat) (qy : Ge) (z4 : Bool) (w5 zl : Nat) (zm : Ge) : runX Pr (GInt_And_pp qn qq) [((6,197),LInt_And_pp qn qq fuel)] fuel 7 197 XInt_And_pp [AV.ptr 0 0,AV.ptr 0 0,AV.ptr 1 0] [Blk.box [AV.bool wh,AV.ro 1 qr qz qy],Blk.box [AV.bool z4,AV.ro 1 w5 zl zm]] = gInt_And_pp qn qq fuel wh qr qz qy z4 w5 zl zm := by kernel_rfl
noncomputable def mInt_And_pp (qn qq : Mo) (fuel : Nat) (xs : List AV) : Option AV := match xs with
  | [AV.ptr 0 0,AV.ptr 0 0,AV.ptr 1 0,AV.bool wh,AV.ro 1 qr qz qy,AV.bool z4,AV.ro 1 w5 zl zm] => gInt_And_pp qn qq fuel wh qr qz qy z4 w5 zl zm
  | _ => none
theorem gInt_And_pp_sm (qn qq : Mo) (fuel : Nat) (hΓ : GamOk Pr (GInt_And_pp qn qq)) (hP : NamesOk Pr) : XOk Pr 197 (smX RInt_And_pp XInt_And_pp (mInt_And_pp qn qq fuel)) XInt_And_pp := by
  refine smX_ok (fuel := fuel) hΓ hP (LamOk.of 6 197 (LInt_And_pp qn qq fuel) 1 (by kernel_rfl) (fun i hi => ?_)) 7 197 RInt_And_pp XInt_And_pp _ (fun xs0 ys0 v ha hb h => ?_)
  · match i,hi with
    | 0,_ => exact gInt_And_pp_L0 qn qq fuel
    | i + 1,hi => exact absurd hi (by omega)
  · skip
    have ha0 : xs0.length = 3 := ha
    clear ha
    obtain ⟨a0,xs1,rfl,ha1⟩ := len_cons ha0
    clear ha0
    obtain ⟨a1,xs2,rfl,ha2⟩ := len_cons ha1
    clear ha1
    obtain ⟨a2,xs3,rfl,ha3⟩ := len_cons ha2
    clear ha2
    obtain rfl := List.eq_nil_of_length_eq_zero ha3
    have hy0 : ys0.map List.length = [2,2] := hb
    clear hb
    obtain ⟨wh,ys1,rfl,hb0_0,hy1⟩ := map_cons' hy0
    clear hy0
    obtain ⟨c0_0,b0_1,rfl,hb0_1⟩ := len_cons hb0_0
    clear hb0_0
    obtain ⟨c0_1,z8,rfl,hb0_2⟩ := len_cons hb0_1
    clear hb0_1
    obtain rfl := List.eq_nil_of_length_eq_zero hb0_2
    obtain ⟨z4,ys2,rfl,hb1_0,hy2⟩ := map_cons' hy1
    clear hy1
    obtain ⟨c1_0,b1_1,rfl,hb1_1⟩ := len_cons hb1_0
    clear hb1_0
    obtain ⟨c1_1,qaq,rfl,hb1_2⟩ := len_cons hb1_1
    clear hb1_1
    obtain rfl := List.eq_nil_of_length_eq_zero hb1_2
    obtain rfl := map_nil' hy2
    have h : mInt_And_pp qn qq fuel [a0,a1,a2,c0_0,c0_1,c1_0,c1_1] = some v := h
    generalize hx0 : [a0,a1,a2,c0_0,c0_1,c1_0,c1_1] = zs at h
    unfold mInt_And_pp at h
    split at h
    · skip
      obtain ⟨rfl,hx1⟩ := List.cons.inj hx0
      obtain ⟨rfl,hx2⟩ := List.cons.inj hx1
      obtain ⟨rfl,hx3⟩ := List.cons.inj hx2
      obtain ⟨rfl,hx4⟩ := List.cons.inj hx3
      obtain ⟨rfl,hx5⟩ := List.cons.inj hx4
      obtain ⟨rfl,hx6⟩ := List.cons.inj hx5
      obtain ⟨rfl,hx7⟩ := List.cons.inj hx6
      simp only [List.map_cons,List.map_nil]
      exact (gInt_And_pp_run qn qq fuel _ _ _ _ _ _ _ _).trans h
    · cases h
end Go.Proofs.Tryz
end
section
namespace Go.Proofs.Tryz
open Go Go.Am
set_option linter.unusedVariables false
set_option maxRecDepth 1000000
noncomputable def Sdyad_limbs_a_0 (wx : Bool) (qu qx : Nat) (qw : Ge) (zj : Bool) (ze zg : Nat) (zh : Ge) (p3 : Bool) (px py : Nat) (pz : Ge) (qg8 : Bool) (qes qeo : Nat) (qev : Ge) (h4z : List AV) (h4e : List (List AV)) : St := { env := [(3,AV.lst 4 1),(4,AV.ptr 1 0),(5,AV.ptr 2 0),(6,AV.ptr 3 0)],h := [Blk.box [AV.bool wx,AV.ro 1 qu qx qw],Blk.box [AV.bool zj,AV.ro 1 ze zg zh],Blk.box [AV.bool p3,AV.ro 1 px py pz],Blk.box [AV.bool qg8,AV.ro 1 qes qeo qev],Blk.fl 1 h4z h4e],kd := [4] }
noncomputable def Xdyad_limbs_a_0_0 (vm : Bool) (vl vk : Nat) (vi : Ge) (vy : Bool) (pc pb : Nat) (y7 : Ge) (qcm : Bool) (qhc qhj : Nat) (qhk : Ge) (qqf : Bool) (qn2 qnx : Nat) (qn5 : Ge) (qj3 : List AV) (qj9 : List (List AV)) : St := { env := [(3,AV.lst 4 1)],h := [Blk.box [AV.bool vm,AV.ro 1 vl vk vi],Blk.box [AV.bool vy,AV.ro 1 pc pb y7],Blk.box [AV.bool qcm,AV.ro 1 qhc qhj qhk],Blk.box [AV.bool qqf,AV.ro 1 qn2 qnx qn5],Blk.fl 1 qj3 qj9],kd := [4] }
noncomputable def gdyad_limbs_a_l0_step (qk qi : Mo) (qh zp : Mo) (zi qd : Mo) (ql qo : Mo) (fuel : Nat) (kn : Bool → Nat → Nat → Ge → Bool → Nat → Nat → Ge → Bool → Nat → Nat → Ge → List (List AV) → Option AV) (kx0 : Bool → Nat → Nat → Ge → Bool → Nat → Nat → Ge → Bool → Nat → Nat → Ge → Bool → Nat → Nat → Ge → List AV → List (List AV) → Option AV) (wx : Bool) (qu qx : Nat) (qw : Ge) (h4z : List AV) (zj : Bool) (ze zg : Nat) (zh : Ge) (p3 : Bool) (px py : Nat) (pz : Ge) (qg8 : Bool) (qes qeo : Nat) (qev : Ge) (h4e : List (List AV)) : Option AV :=
  bif (↑ze : Int) == 0 then kx0 wx qu qx qw zj ze zg zh p3 px py pz qg8 qes qeo qev h4z h4e
  else bif zj then kx0 wx qu qx qw zj ze zg zh p3 px py pz qg8 qes qeo qev h4z h4e
  else let r2 : Option AV := zp [AV.ptr 0 0,AV.ptr 1 0,AV.ptr 2 0,AV.bool p3,AV.ro 1 px py pz,AV.bool zj,AV.ro 1 ze zg zh,AV.bool qg8,AV.ro 1 qes qeo qev]; ck (okX [RS.one LK.b,RS.one (LK.l 1),RS.one LK.b,RS.one (LK.l 1),RS.one LK.b,RS.one (LK.l 1)] r2) <| let r3 : Option AV := qd [AV.ptr (xidx (xren (xtoks [AV.ptr 2 0,AV.ptr 1 0,AV.ptr 3 0] []) [Blk.box [AV.bool wx,AV.ro 1 qu qx qw],Blk.box [AV.bool zj,AV.ro 1 ze zg zh],Blk.box [AV.bool p3,AV.ro 1 px py pz],Blk.box [AV.bool qg8,AV.ro 1 qes qeo qev],Blk.fl 1 h4z h4e].length 0) (xtoks [AV.ptr (xren (xtoks [AV.ptr 2 0,AV.ptr 1 0,AV.ptr 3 0] []) [Blk.box [AV.bool wx,AV.ro 1 qu qx qw],Blk.box [AV.bool zj,AV.ro 1 ze zg zh],Blk.box [AV.bool p3,AV.ro 1 px py pz],Blk.box [AV.bool qg8,AV.ro 1 qes qeo qev],Blk.fl 1 h4z h4e].length 0) 0] [])) 0,AV.bool (toB ((toT (getV r2)).headD .dead)),AV.ro 1 (toN ((toT (getV r2)).tail.headD .dead)) (toR ((toT (getV r2)).tail.headD .dead)) (toG ((toT (getV r2)).tail.headD .dead))]; ck (okX [RS.one LK.b,RS.one (LK.l 1),RS.one (LK.i .u64)] r3) <| ck (decide ((h4e.length + 1) * 8 < 70368744177664)) <| ck (decide (h4e.length + 1 < 4611686018427387904)) <| let r4 : Option AV := qo [AV.ptr (xidx 1 (xtoks [AV.ptr 1 0,AV.ptr 1 0,AV.int .u64 64] [])) 0,AV.ptr (xidx 1 (xtoks [AV.ptr 1 0,AV.ptr 1 0,AV.int .u64 64] [])) 0,AV.int .u64 64,AV.bool (toB ((toT (getV r2)).tail.tail.headD .dead)),AV.ro 1 (toN ((toT (getV r2)).tail.tail.tail.headD .dead)) (toR ((toT (getV r2)).tail.tail.tail.headD .dead)) (toG ((toT (getV r2)).tail.tail.tail.headD .dead))]; ck (okX [RS.one LK.b,RS.one (LK.l 1)] r4) <| kn (toB ((toT (getV r4)).headD .dead)) (toN ((toT (getV r4)).tail.headD .dead)) (toR ((toT (getV r4)).tail.headD .dead)) (toG ((toT (getV r4)).tail.headD .dead)) (toB ((toT (getV r3)).headD .dead)) (toN ((toT (getV r3)).tail.headD .dead)) (toR ((toT (getV r3)).tail.headD .dead)) (toG ((toT (getV r3)).tail.headD .dead)) (toB ((toT (getV r2)).tail.tail.tail.tail.headD .dead)) (toN ((toT (getV r2)).tail.tail.tail.tail.tail.headD .dead)) (toR ((toT (getV r2)).tail.tail.tail.tail.tail.headD .dead)) (toG ((toT (getV r2)).tail.tail.tail.tail.tail.headD .dead)) (h4e ++ [[AV.int .u64 (toI ((toT (getV r3)).tail.tail.headD .dead))]])
noncomputable def gdyad_limbs_a_l0 (qk qi : Mo) (qh zp : Mo) (zi qd : Mo) (ql qo : Mo) (fuel : Nat) (kx0 : Bool → Nat → Nat → Ge → Bool → Nat → Nat → Ge → Bool → Nat → Nat → Ge → Bool → Nat → Nat → Ge → List AV → List (List AV) → Option AV) (wx : Bool) (qu qx : Nat) (qw : Ge) (h4z : List AV) : Nat → Bool → Nat → Nat → Ge → Bool → Nat → Nat → Ge → Bool → Nat → Nat → Ge → List (List AV) → Option AV
  | 0,_,_,_,_,_,_,_,_,_,_,_,_,_ => none
  | n' + 1,zj,ze,zg,zh,p3,px,py,pz,qg8,qes,qeo,qev,h4e => gdyad_limbs_a_l0_step qk qi qh zp zi qd ql qo fuel (gdyad_limbs_a_l0 qk qi qh zp zi qd ql qo fuel kx0 wx qu qx qw h4z n') kx0 wx qu qx qw h4z zj ze zg zh p3 px py pz qg8 qes qeo qev h4e
termination_by structural k => k
noncomputable def Tdyad_limbs_a_0 : TS' := ⟨[(3,TA.lst 4 1),(4,TA.ptr 1 0),(5,TA.ptr 2 0),(6,TA.ptr 3 0)],[TB.box [TA.b,TA.ro 1],TB.box [TA.b,TA.ro 1],TB.box [TA.b,TA.ro 1],TB.box [TA.b,TA.ro 1],TB.fl 1],[4]⟩
noncomputable def Fdyad_limbs_a_0 (qk qi : Mo) (qh zp : Mo) (zi qd : Mo) (ql qo : Mo) (fuel : Nat) (ps : List Pay) (K : Ex → St → Option AV) : Option AV := match ps with
  | .b wx :: .n qu :: .n qx :: .g qw :: .b zj :: .n ze :: .n zg :: .g zh :: .b p3 :: .n px :: .n py :: .g pz :: .b qg8 :: .n qes :: .n qeo :: .g qev :: .z h4z :: .e h4e :: [] => gdyad_limbs_a_l0 qk qi qh zp zi qd ql qo fuel (fun vm vl vk vi vy pc pb y7 qcm qhc qhj qhk qqf qn2 qnx qn5 qj3 qj9 => K (Ex.exit 0) (Xdyad_limbs_a_0_0 vm vl vk vi vy pc pb y7 qcm qhc qhj qhk qqf qn2 qnx qn5 qj3 qj9)) wx qu qx qw h4z fuel zj ze zg zh p3 px py pz qg8 qes qeo qev h4e
  | _ => none
noncomputable def Ldyad_limbs_a (qk qi : Mo) (qh zp : Mo) (zi qd : Mo) (ql qo : Mo) (fuel : Nat) : Lam AV := [(134209544,lam Tdyad_limbs_a_0 (Fdyad_limbs_a_0 qk qi qh zp zi qd ql qo fuel))]
noncomputable def Gdyad_limbs_a (qk qi : Mo) (qh zp : Mo) (zi qd : Mo) (ql qo : Mo) : Gam := [(84,smX RInt_Abs_ir XInt_Abs_ir qk),(84,smX RInt_Abs_ii XInt_Abs_ii qi),(142,smX RInt_SetUint64_i XInt_SetUint64_i qh),(197,smX RInt_And_a XInt_And_a zp),(197,smX RInt_And_pp XInt_And_pp zi),(86,smX RInt_Uint64_i XInt_Uint64_i qd),(85,smX RInt_Rsh_ii XInt_Rsh_ii ql),(85,smX RInt_Rsh_p XInt_Rsh_p qo)]
theorem gdyad_limbs_a_l0_eq (qk qi : Mo) (qh zp : Mo) (zi qd : Mo) (ql qo : Mo) (fuel : Nat) (kn : St → Option AV) (K : Ex → St → Option AV) (wx : Bool) (qu qx : Nat) (qw : Ge) (h4z : List AV) (qb8 : Bool) (qbg qbe : Nat) (qbf : Ge) (qok : Bool) (qlv qlw : Nat) (qkn : Ge) (qo3 : Bool) (qk3 qlq : Nat) (qls : Ge) (qsy : List (List AV)) (zj : Bool) (ze zg : Nat) (zh : Ge) (p3 : Bool) (px py : Nat) (pz : Ge) (qg8 : Bool) (qes qeo : Nat) (qev : Ge) (h4e : List (List AV)) :
    bX Pr (Gdyad_limbs_a qk qi qh zp zi qd ql qo) (Ldyad_limbs_a qk qi qh zp zi qd ql qo fuel) 6 140 0 fuel (Sdyad_limbs_a_0 wx qu qx qw zj ze zg zh p3 px py pz qg8 qes qeo qev h4z h4e) (fun e s => match e with | .normal => kn (hX Pr 140 0 (Sdyad_limbs_a_0 wx qu qx qw qb8 qbg qbe qbf qok qlv qlw qkn qo3 qk3 qlq qls h4z qsy) s) | e => K e s) =
    gdyad_limbs_a_l0_step qk qi qh zp zi qd ql qo fuel (fun zj ze zg zh p3 px py pz qg8 qes qeo qev h4e => kn (Sdyad_limbs_a_0 wx qu qx qw zj ze zg zh p3 px py pz qg8 qes qeo qev h4z h4e)) (fun z9 zb za w9 v6 yh yg yj qcw qg3 qgt qgs xh3_0 xh3_1n xh3_1r xh3_1g qlk qj5 => K (Ex.exit 0) (Xdyad_limbs_a_0_0 z9 zb za w9 v6 yh yg yj qcw qg3 qgt qgs xh3_0 xh3_1n xh3_1r xh3_1g qlk qj5)) wx qu qx qw h4z zj ze zg zh p3 px py pz qg8 qes qeo qev h4e := by kernel_rfl
theorem gdyad_limbs_a_l0_ok (qk qi : Mo) (qh zp : Mo) (zi qd : Mo) (ql qo : Mo) (fuel : Nat) (K : Ex → St → Option AV) (wx : Bool) (qu qx : Nat) (qw : Ge) (h4z : List AV) (qb8 : Bool) (qbg qbe : Nat) (qbf : Ge) (qok : Bool) (qlv qlw : Nat) (qkn : Ge) (qo3 : Bool) (qk3 qlq : Nat) (qls : Ge) (qsy : List (List AV)) : ∀ (n' : Nat) (zj : Bool) (ze zg : Nat) (zh : Ge) (p3 : Bool) (px py : Nat) (pz : Ge) (qg8 : Bool) (qes qeo : Nat) (qev : Ge) (h4e : List (List AV)),
    loopK (bX Pr (Gdyad_limbs_a qk qi qh zp zi qd ql qo) (Ldyad_limbs_a qk qi qh zp zi qd ql qo fuel) 6 140 0 fuel) (hX Pr 140 0 (Sdyad_limbs_a_0 wx qu qx qw qb8 qbg qbe qbf qok qlv qlw qkn qo3 qk3 qlq qls h4z qsy)) n' (Sdyad_limbs_a_0 wx qu qx qw zj ze zg zh p3 px py pz qg8 qes qeo qev h4z h4e) K = gdyad_limbs_a_l0 qk qi qh zp zi qd ql qo fuel (fun z9 zb za w9 v6 yh yg yj qcw qg3 qgt qgs xh3_0 xh3_1n xh3_1r xh3_1g qlk qj5 => K (Ex.exit 0) (Xdyad_limbs_a_0_0 z9 zb za w9 v6 yh yg yj qcw qg3 qgt qgs xh3_0 xh3_1n xh3_1r xh3_1g qlk qj5)) wx qu qx qw h4z n' zj ze zg zh p3 px py pz qg8 qes qeo qev h4e
  | 0,_,_,_,_,_,_,_,_,_,_,_,_,_ => rfl
  | n' + 1,zj,ze,zg,zh,p3,px,py,pz,qg8,qes,qeo,qev,h4e => (gdyad_limbs_a_l0_eq qk qi qh zp zi qd ql qo fuel (fun s => loopK (bX Pr (Gdyad_limbs_a qk qi qh zp zi qd ql qo) (Ldyad_limbs_a qk qi qh zp zi qd ql qo fuel) 6 140 0 fuel) (hX Pr 140 0 (Sdyad_limbs_a_0 wx qu qx qw qb8 qbg qbe qbf qok qlv qlw qkn qo3 qk3 qlq qls h4z qsy)) n' s K) K wx qu qx qw h4z qb8 qbg qbe qbf qok qlv qlw qkn qo3 qk3 qlq qls qsy zj ze zg zh p3 px py pz qg8 qes qeo qev h4e).trans
    (congrArg (fun kn => gdyad_limbs_a_l0_step qk qi qh zp zi qd ql qo fuel kn _ wx qu qx qw h4z zj ze zg zh p3 px py pz qg8 qes qeo qev h4e) (funext fun zj => funext fun ze => funext fun zg => funext fun zh => funext fun p3 => funext fun px => funext fun py => funext fun pz => funext fun qg8 => funext fun qes => funext fun qeo => funext fun qev => funext fun h4e => gdyad_limbs_a_l0_ok qk qi qh zp zi qd ql qo fuel K wx qu qx qw h4z qb8 qbg qbe qbf qok qlv qlw qkn qo3 qk3 qlq qls qsy n' zj ze zg zh p3 px py pz qg8 qes qeo qev h4e))
termination_by structural k => k
theorem gdyad_limbs_a_L0 (qk qi : Mo) (qh zp : Mo) (zi qd : Mo) (ql qo : Mo) (fuel : Nat) : LX Pr (Gdyad_limbs_a qk qi qh zp zi qd ql qo) (Ldyad_limbs_a qk qi qh zp zi qd ql qo fuel) 6 140 0 fuel := by
  refine .of Tdyad_limbs_a_0 (Fdyad_limbs_a_0 qk qi qh zp zi qd ql qo fuel) (fun L h => ?_) (fun ps st K r he hr => ?_)
  · have e : (Ldyad_limbs_a qk qi qh zp zi qd ql qo fuel).get (writes (lp Pr 140 0).1) = some (lam Tdyad_limbs_a_0 (Fdyad_limbs_a_0 qk qi qh zp zi qd ql qo fuel)) := by kernel_rfl
    exact (Option.some.inj (e.symm.trans h)).symm
  · unfold Fdyad_limbs_a_0 at hr
    split at hr
    · obtain rfl := (Option.some.inj he).symm
      exact (gdyad_limbs_a_l0_ok qk qi qh zp zi qd ql qo fuel K _ _ _ _ _ _ _ _ _ _ _ _ _ _ _ _ _ _ fuel _ _ _ _ _ _ _ _ _ _ _ _ _).trans hr
    · cases hr
noncomputable def gdyad_limbs_a (qk qi : Mo) (qh zp : Mo) (zi qd : Mo) (ql qo : Mo) (fuel : Nat) (wh : Bool) (qr qz : Nat) (qy : Ge) : Option AV :=
  let r0 : Option AV := qi [AV.ptr (xidx [Blk.box [AV.bool wh,AV.ro 1 qr qz qy]].length (xtoks [AV.ptr [Blk.box [AV.bool wh,AV.ro 1 qr qz qy]].length 0,AV.ptr 0 0] [])) 0,AV.ptr (xidx 0 (xtoks [AV.ptr [Blk.box [AV.bool wh,AV.ro 1 qr qz qy]].length 0,AV.ptr 0 0] [])) 0,AV.bool false,AV.ro 1 0 0 fun (x j : Nat) => [AV.int .u32 0].getD j AV.dead,AV.bool wh,AV.ro 1 qr qz qy]; ck (okX [RS.one LK.b,RS.one (LK.l 1),RS.one LK.b,RS.one (LK.l 1)] r0) <| let r1 : Option AV := qh [AV.ptr (xidx [Blk.box [AV.bool (toB ((toT (getV r0)).tail.tail.headD .dead)),AV.ro 1 (toN ((toT (getV r0)).tail.tail.tail.headD .dead)) (toR ((toT (getV r0)).tail.tail.tail.headD .dead)) (toG ((toT (getV r0)).tail.tail.tail.headD .dead))],Blk.box [AV.bool (toB ((toT (getV r0)).headD .dead)),AV.ro 1 (toN ((toT (getV r0)).tail.headD .dead)) (toR ((toT (getV r0)).tail.headD .dead)) (toG ((toT (getV r0)).tail.headD .dead))],Blk.box [AV.bool false,AV.nils 1 [AV.int .u32 0]]].length (xtoks [AV.ptr [Blk.box [AV.bool (toB ((toT (getV r0)).tail.tail.headD .dead)),AV.ro 1 (toN ((toT (getV r0)).tail.tail.tail.headD .dead)) (toR ((toT (getV r0)).tail.tail.tail.headD .dead)) (toG ((toT (getV r0)).tail.tail.tail.headD .dead))],Blk.box [AV.bool (toB ((toT (getV r0)).headD .dead)),AV.ro 1 (toN ((toT (getV r0)).tail.headD .dead)) (toR ((toT (getV r0)).tail.headD .dead)) (toG ((toT (getV r0)).tail.headD .dead))],Blk.box [AV.bool false,AV.nils 1 [AV.int .u32 0]]].length 0,AV.int .u64 18446744073709551615] [])) 0,AV.int .u64 18446744073709551615,AV.bool false,AV.ro 1 0 0 fun (x j : Nat) => [AV.int .u32 0].getD j AV.dead]; ck (okX [RS.one LK.b,RS.one (LK.l 1)] r1) <| gdyad_limbs_a_l0 qk qi qh zp zi qd ql qo fuel
    (fun (z9 : Bool) (zb za : Nat) (w9 : Ge) (_ : Bool) (_ _ : Nat) (_ : Ge) (_ : Bool) (_ _ : Nat) (_ : Ge) (_ : Bool) (_ _ : Nat) (_ : Ge) (qlk : List AV) (qj5 : List (List AV)) => some (AV.tup [AV.bool z9,AV.ro 1 zb za w9,AV.ro 1 qj5.length qj5.length fun (i j : Nat) => (qj5.getD i qlk).getD j AV.dead]))
    (toB ((toT (getV r0)).tail.tail.headD .dead))
    (toN ((toT (getV r0)).tail.tail.tail.headD .dead))
    (toR ((toT (getV r0)).tail.tail.tail.headD .dead))
    (toG ((toT (getV r0)).tail.tail.tail.headD .dead))
    ([AV.int .u64 0]) fuel (toB ((toT (getV r0)).headD .dead)) (toN ((toT (getV r0)).tail.headD .dead)) (toR ((toT (getV r0)).tail.headD .dead)) (toG ((toT (getV r0)).tail.headD .dead)) false (0) (0) (fun (x j : Nat) => [AV.int .u32 0].getD j AV.dead) (toB ((toT (getV r1)).headD .dead)) (toN ((toT (getV r1)).tail.headD .dead)) (toR ((toT (getV r1)).tail.headD .dead)) (toG ((toT (getV r1)).tail.headD .dead)) ([])
theorem gdyad_limbs_a_run (qk qi : Mo) (qh zp : Mo) (zi qd : Mo) (ql qo : Mo) (fuel : Nat) (wh : Bool) (qr qz : Nat) (qy : Ge) : runX Pr (Gdyad_limbs_a qk qi qh zp zi qd ql qo) [((6,140),Ldyad_limbs_a qk qi qh zp zi qd ql qo fuel)] fuel 7 140 Xdyad_limbs_a [AV.ptr 0 0] [Blk.box [AV.bool wh,AV.ro 1 qr qz qy]] = gdyad_limbs_a qk qi qh zp zi qd ql qo fuel wh qr qz qy := by kernel_rfl
noncomputable def mdyad_limbs_a (qk qi : Mo) (qh zp : Mo) (zi qd : Mo) (ql qo : Mo) (fuel : Nat) (xs : List AV) : Option AV := match xs with
  | [AV.ptr 0 0,AV.bool wh,AV.ro 1 qr qz qy] => gdyad_limbs_a qk qi qh zp zi qd ql qo fuel wh qr qz qy
  | _ => none
theorem gdyad_limbs_a_sm (qk qi : Mo) (qh zp : Mo) (zi qd : Mo) (ql qo : Mo) (fuel : Nat) (hΓ : GamOk Pr (Gdyad_limbs_a qk qi qh zp zi qd ql qo)) (hP : NamesOk Pr) : XOk Pr 140 (smX Rdyad_limbs_a Xdyad_limbs_a (mdyad_limbs_a qk qi qh zp zi qd ql qo fuel)) Xdyad_limbs_a := by
  refine smX_ok (fuel := fuel) hΓ hP (LamOk.of 6 140 (Ldyad_limbs_a qk qi qh zp zi qd ql qo fuel) 1 (by kernel_rfl) (fun i hi => ?_)) 7 140 Rdyad_limbs_a Xdyad_limbs_a _ (fun xs0 ys0 v ha hb h => ?_)
  · match i,hi with
    | 0,_ => exact gdyad_limbs_a_L0 qk qi qh zp zi qd ql qo fuel
    | i + 1,hi => exact absurd hi (by omega)
  · skip
    have ha0 : xs0.length = 1 := ha
    clear ha
    obtain ⟨a0,xs1,rfl,ha1⟩ := len_cons ha0
    clear ha0
    obtain rfl := List.eq_nil_of_length_eq_zero ha1
    have hy0 : ys0.map List.length = [2] := hb
    clear hb
    obtain ⟨wh,ys1,rfl,hb0_0,hy1⟩ := map_cons' hy0
    clear hy0
    obtain ⟨c0_0,b0_1,rfl,hb0_1⟩ := len_cons hb0_0
    clear hb0_0
    obtain ⟨c0_1,z8,rfl,hb0_2⟩ := len_cons hb0_1
    clear hb0_1
    obtain rfl := List.eq_nil_of_length_eq_zero hb0_2
    obtain rfl := map_nil' hy1
    have h : mdyad_limbs_a qk qi qh zp zi qd ql qo fuel [a0,c0_0,c0_1] = some v := h
    generalize hx0 : [a0,c0_0,c0_1] = zs at h
    unfold mdyad_limbs_a at h
    split at h
    · skip
      obtain ⟨rfl,hx1⟩ := List.cons.inj hx0
      obtain ⟨rfl,hx2⟩ := List.cons.inj hx1
      obtain ⟨rfl,hx3⟩ := List.cons.inj hx2
      simp only [List.map_cons,List.map_nil]
      exact (gdyad_limbs_a_run qk qi qh zp zi qd ql qo fuel _ _ _ _).trans h
    · cases h
noncomputable def Gplain : Gam := []
noncomputable def gplain (fuel zn vq : Nat) (vh : Ge) : Option AV :=
  bif decide ((↑zn : Int) > 0) then ck (decide (0 < (↑zn : Int))) <| ck (fitK (LK.i .u32) (vh 0 0)) <| bif decide ((↑zn : Int) > 1) then ck (decide (1 < (↑zn : Int))) <| ck (fitK (LK.i .u32) (vh 1 0)) <| some (AV.int .u64 (IntKind.u64.wrap (↑(BitVec.ofInt 64 (IntKind.u64.wrap (toI (vh 0 0))) ||| BitVec.ofInt 64 (IntKind.u64.wrap (IntKind.u64.wrap (toI (vh 1 0)) * 2 ^ 32))).toNat : Int)))
    else some (AV.int .u64 (IntKind.u64.wrap (toI (vh 0 0))))
  else bif decide ((↑zn : Int) > 1) then ck (decide (1 < (↑zn : Int))) <| ck (fitK (LK.i .u32) (vh 1 0)) <| some (AV.int .u64 (IntKind.u64.wrap (↑(BitVec.ofInt 64 0 ||| BitVec.ofInt 64 (IntKind.u64.wrap (IntKind.u64.wrap (toI (vh 1 0)) * 2 ^ 32))).toNat : Int)))
  else some (AV.int .u64 0)
noncomputable def mplain (fuel : Nat) (xs : List AV) : Option AV := match xs with
  | [AV.ro 1 zn vq vh] => gplain fuel zn vq vh
  | _ => none
abbrev Rplain : List RS := [RS.one (LK.i .u64)]
theorem gplain_sm (fuel : Nat) (hΓ : GamOk Pr Gplain) (hP : NamesOk Pr) : SmOk Pr 228 (smM Rplain (mplain fuel)) := sm0 (fuel := fuel) (d := 7) hΓ hP fun xs v h => by
  unfold mplain at h
  split at h
  · exact Eq.trans (by kernel_rfl) h
  · cases h
noncomputable def Ssmall_0 (qp qt : Nat) (qm : Ge) (qel : Int) (qhh qhx qik : Nat) (ur7 ui8 : Int) (h0z : List AV) (h0e : List (List AV)) : St := { env := [(0,AV.ro 1 qp qt qm),(1,AV.int .u32 qel),(6,AV.own 0 qhh 1 qhx qik),(7,AV.int .u64 ur7),(8,AV.int .i64 ui8)],h := [Blk.fx 1 h0z h0e],kd := [] }
noncomputable def Xsmall_0_0 (qqc qqj qo6 : Nat) (qrv : Int) (yp : List AV) (yr : List (List AV)) : St := { env := [(6,AV.own 0 qqc 1 qqj qo6),(7,AV.int .u64 qrv)],h := [Blk.fx 1 yp yr],kd := [] }
noncomputable def gsmall_l0_step (qe : Mo) (fuel : Nat) (kn : Int → Int → List (List AV) → Option AV) (kx0 : Nat → Nat → Nat → Int → List AV → List (List AV) → Option AV) (qp qt : Nat) (qm : Ge) (qel : Int) (qhh qhx qik : Nat) (h0z : List AV) (ur7 ui8 : Int) (h0e : List (List AV)) : Option AV :=
  bif decide (ui8 ≥ 0) then ck (decide (0 ≤ ui8)) <| ck (decide (ui8 < (↑qp : Int))) <| ck (fitK (LK.i .u32) (qm ui8.toNat 0)) <| ck (!decide (IntKind.u64.wrap qel = 0)) <| ck (decide (0 ≤ ui8)) <| ck (decide (ui8 < (↑qhx : Int))) <| ck (!decide (IntKind.u64.wrap qel = 0)) <| kn ((IntKind.u64.wrap (↑(BitVec.ofInt 64 (IntKind.u64.wrap (ur7 * 2 ^ 32)) ||| BitVec.ofInt 64 (IntKind.u64.wrap (toI (qm ui8.toNat 0)))).toNat : Int)).tmod (IntKind.u64.wrap qel)) (IntKind.i64.wrap (ui8 - 1)) (h0e.set (qhh + ui8.toNat) (AV.int .u32 (IntKind.u32.wrap (IntKind.u64.wrap ((IntKind.u64.wrap (↑(BitVec.ofInt 64 (IntKind.u64.wrap (ur7 * 2 ^ 32)) ||| BitVec.ofInt 64 (IntKind.u64.wrap (toI (qm ui8.toNat 0)))).toNat : Int)).tdiv (IntKind.u64.wrap qel)))) :: List.drop (0 + [AV.int .u32 (IntKind.u32.wrap (IntKind.u64.wrap ((IntKind.u64.wrap (↑(BitVec.ofInt 64 (IntKind.u64.wrap (ur7 * 2 ^ 32)) ||| BitVec.ofInt 64 (IntKind.u64.wrap (toI (qm ui8.toNat 0)))).toNat : Int)).tdiv (IntKind.u64.wrap qel))))].length) (h0e.getD (qhh + ui8.toNat) h0z)))
  else kx0 qhh qhx qik ur7 h0z h0e
noncomputable def gsmall_l0 (qe : Mo) (fuel : Nat) (kx0 : Nat → Nat → Nat → Int → List AV → List (List AV) → Option AV) (qp qt : Nat) (qm : Ge) (qel : Int) (qhh qhx qik : Nat) (h0z : List AV) : Nat → Int → Int → List (List AV) → Option AV
  | 0,_,_,_ => none
  | n' + 1,ur7,ui8,h0e => gsmall_l0_step qe fuel (gsmall_l0 qe fuel kx0 qp qt qm qel qhh qhx qik h0z n') kx0 qp qt qm qel qhh qhx qik h0z ur7 ui8 h0e
noncomputable def Tsmall_0 : TS' := ⟨[(0,TA.ro 1),(1,TA.i .u32),(6,TA.own 0 1),(7,TA.i .u64),(8,TA.i .i64)],[TB.fx 1],[]⟩
noncomputable def Fsmall_0 (qe : Mo) (fuel : Nat) (ps : List Pay) (K : Ex → St → Option AV) : Option AV := match ps with
  | .n qp :: .n qt :: .g qm :: .i qel :: .n qhh :: .n qhx :: .n qik :: .i ur7 :: .i ui8 :: .z h0z :: .e h0e :: [] => gsmall_l0 qe fuel (fun qqc qqj qo6 qrv yp yr => K (Ex.exit 0) (Xsmall_0_0 qqc qqj qo6 qrv yp yr)) qp qt qm qel qhh qhx qik h0z fuel ur7 ui8 h0e
  | _ => none
noncomputable def Lsmall (qe : Mo) (fuel : Nat) : Lam AV := [(549755781504,lam Tsmall_0 (Fsmall_0 qe fuel))]
noncomputable def Gsmall (qe : Mo) : Gam := [(195,smM [RS.one (LK.l (nat_lit 1))] qe)]
theorem gsmall_l0_eq (qe : Mo) (fuel : Nat) (kn : St → Option AV) (K : Ex → St → Option AV) (qp qt : Nat) (qm : Ge) (qel : Int) (qhh qhx qik : Nat) (h0z : List AV) (qta qfd : Int) (pj : List (List AV)) (ur7 ui8 : Int) (h0e : List (List AV)) :
    bX Pr (Gsmall qe) (Lsmall qe fuel) 6 229 0 fuel (Ssmall_0 qp qt qm qel qhh qhx qik ur7 ui8 h0z h0e) (fun e s => match e with | .normal => kn (hX Pr 229 0 (Ssmall_0 qp qt qm qel qhh qhx qik qta qfd h0z pj) s) | e => K e s) =
    gsmall_l0_step qe fuel (fun ur7 ui8 h0e => kn (Ssmall_0 qp qt qm qel qhh qhx qik ur7 ui8 h0z h0e)) (fun qmj qn7 qms qrt v1 v0 => K (Ex.exit 0) (Xsmall_0_0 qmj qn7 qms qrt v1 v0)) qp qt qm qel qhh qhx qik h0z ur7 ui8 h0e := by kernel_rfl
theorem gsmall_l0_ok (qe : Mo) (fuel : Nat) (K : Ex → St → Option AV) (qp qt : Nat) (qm : Ge) (qel : Int) (qhh qhx qik : Nat) (h0z : List AV) (qta qfd : Int) (pj : List (List AV)) : ∀ (n' : Nat) (ur7 ui8 : Int) (h0e : List (List AV)),
    loopK (bX Pr (Gsmall qe) (Lsmall qe fuel) 6 229 0 fuel) (hX Pr 229 0 (Ssmall_0 qp qt qm qel qhh qhx qik qta qfd h0z pj)) n' (Ssmall_0 qp qt qm qel qhh qhx qik ur7 ui8 h0z h0e) K = gsmall_l0 qe fuel (fun qmj qn7 qms qrt v1 v0 => K (Ex.exit 0) (Xsmall_0_0 qmj qn7 qms qrt v1 v0)) qp qt qm qel qhh qhx qik h0z n' ur7 ui8 h0e
  | 0,_,_,_ => rfl
  | n' + 1,ur7,ui8,h0e => (gsmall_l0_eq qe fuel (fun s => loopK (bX Pr (Gsmall qe) (Lsmall qe fuel) 6 229 0 fuel) (hX Pr 229 0 (Ssmall_0 qp qt qm qel qhh qhx qik qta qfd h0z pj)) n' s K) K qp qt qm qel qhh qhx qik h0z qta qfd pj ur7 ui8 h0e).trans
    (congrArg (fun kn => gsmall_l0_step qe fuel kn _ qp qt qm qel qhh qhx qik h0z ur7 ui8 h0e) (funext fun ur7 => funext fun ui8 => funext fun h0e => gsmall_l0_ok qe fuel K qp qt qm qel qhh qhx qik h0z qta qfd pj n' ur7 ui8 h0e))
theorem gsmall_L0 (qe : Mo) (fuel : Nat) : LX Pr (Gsmall qe) (Lsmall qe fuel) 6 229 0 fuel := by
  refine .of Tsmall_0 (Fsmall_0 qe fuel) (fun L h => ?_) (fun ps st K r he hr => ?_)
  · have e : (Lsmall qe fuel).get (writes (lp Pr 229 0).1) = some (lam Tsmall_0 (Fsmall_0 qe fuel)) := by kernel_rfl
    exact (Option.some.inj (e.symm.trans h)).symm
  · unfold Fsmall_0 at hr
    split at hr
    · obtain rfl := (Option.some.inj he).symm
      exact (gsmall_l0_ok qe fuel K _ _ _ _ _ _ _ _ _ _ _ fuel _ _ _).trans hr
    · cases hr
noncomputable def gsmall (qe : Mo) (fuel zn vq : Nat) (vh : Ge) (ud1 : Int) : Option AV :=
  ck (decide (0 ≤ (↑zn : Int))) <| ck (decide ((↑zn : Int) ≤ (↑zn : Int))) <| ck ((4 * (↑zn : Int).toNat).ble 281474976710656) <| ck (((↑zn : Int).toNat + 1).ble 4611686018427387904) <| gsmall_l0 qe fuel
    (fun (qmj qn7 qms : Nat) (qrt : Int) (v1 : List AV) (v0 : List (List AV)) => let r0 : Option AV := qe [AV.ro 1 qn7 qms fun (i j : Nat) => (v0.getD (qmj + i) v1).getD j AV.dead]; ck (okM [RS.one (LK.l 1)] r0) <| some (AV.tup [AV.ro 1 (toN (getV r0)) (toR (getV r0)) (toG (getV r0)),AV.int .u32 (IntKind.u32.wrap qrt)]))
    zn
    vq
    vh
    ud1
    (0)
    ((↑zn : Int).toNat)
    ((↑zn : Int).toNat)
    ([AV.int .u32 0]) fuel (0) (IntKind.i64.wrap ((↑zn : Int) - 1)) (List.replicate (↑zn : Int).toNat [AV.int .u32 0])
noncomputable def msmall (qe : Mo) (fuel : Nat) (xs : List AV) : Option AV := match xs with
  | [AV.ro 1 zn vq vh,AV.int .u32 ud1] => gsmall qe fuel zn vq vh ud1
  | _ => none
abbrev Rsmall : List RS := [RS.one (LK.l (nat_lit 1)),RS.one (LK.i .u32)]
theorem gsmall_sm (qe : Mo) (fuel : Nat) (hΓ : GamOk Pr (Gsmall qe)) (hP : NamesOk Pr) : SmOk Pr 229 (smM Rsmall (msmall qe fuel)) := smL (L := (Lsmall qe fuel)) (n := 1) hΓ hP (by kernel_rfl) (fun i hi => match i,hi with
  | 0,_ => gsmall_L0 qe fuel
  | i + 1,hi => absurd hi (by omega)) fun xs v h => by
  unfold msmall at h
  split at h
  · exact Eq.trans (by kernel_rfl) h
  · cases h
noncomputable def Sdiv_0 (qc6 : Int) (qa8 qa9 : Nat) (qa3 : Ge) (qao qaw qa7 : Nat) (qb4 : Int) (qa2 qa5 qa1 : Nat) (qap pu : Int) (qb3 qgp qhy : Int) (pf : List AV) (pg : List (List AV)) (p5 : List AV) (p4 : List (List AV)) : St := { env := [(10,AV.int .u64 qc6),(11,AV.ro 1 qa8 qa9 qa3),(12,AV.own 0 qao 1 qaw qa7),(13,AV.int .i64 qb4),(15,AV.own 1 qa2 1 qa5 qa1),(16,AV.int .u64 qap),(17,AV.int .u64 pu),(18,AV.int .i64 qb3),(20,AV.int .u64 qgp),(21,AV.int .u64 qhy)],h := [Blk.fx 1 pf pg,Blk.fx 1 p5 p4],kd := [] }
noncomputable def Xdiv_0_0 (qpt : Int) (qmd qmy : Nat) (qmb : Ge) (qnd qm0 qns : Nat) (qo9 : Int) (qnw qno qmp : Nat) (qn1 qk0 : Int) (qqh qpp : Int) (qrs : List AV) (qr7 : List (List AV)) (qr6 : List AV) (qsq : List (List AV)) : St := { env := [(10,AV.int .u64 qpt),(11,AV.ro 1 qmd qmy qmb),(12,AV.own 0 qnd 1 qm0 qns),(13,AV.int .i64 qo9),(15,AV.own 1 qnw 1 qno qmp),(16,AV.int .u64 qn1),(17,AV.int .u64 qk0),(18,AV.int .i64 qqh),(20,AV.int .u64 qpp)],h := [Blk.fx 1 qrs qr7,Blk.fx 1 qr6 qsq],kd := [] }
noncomputable def gdiv_l0_step (z3 q3 : Mo) (q0 qj : Mo) (ww qe : Mo) (q6 wd wc : Mo) (fuel : Nat) (kn : Int → Int → Option AV) (kx0 : Int → Nat → Nat → Ge → Nat → Nat → Nat → Int → Nat → Nat → Nat → Int → Int → Int → Int → List AV → List (List AV) → List AV → List (List AV) → Option AV) (qc6 : Int) (qa8 qa9 : Nat) (qa3 : Ge) (qao qaw qa7 : Nat) (qb4 : Int) (qa2 qa5 qa1 : Nat) (qap pu qb3 : Int) (pf : List AV) (pg : List (List AV)) (p5 : List AV) (p4 : List (List AV)) (qgp qhy : Int) : Option AV :=
  ck (bif !decide (qgp > 4294967295) then true else true) <| ck (bif !decide (qgp > 4294967295) then decide (0 ≤ IntKind.i64.wrap (IntKind.i64.wrap (qb3 + qb4) - 2)) else true) <| ck (bif !decide (qgp > 4294967295) then decide (IntKind.i64.wrap (IntKind.i64.wrap (qb3 + qb4) - 2) < (↑qaw : Int)) else true) <| ck (bif !decide (qgp > 4294967295) then fitK (LK.i .u32) ((pg.getD (qao + (IntKind.i64.wrap (IntKind.i64.wrap (qb3 + qb4) - 2)).toNat) pf).getD 0 AV.dead) else true) <| bif bif decide (qgp > 4294967295) then true else decide (IntKind.u64.wrap (qgp * pu) > IntKind.u64.wrap (↑(BitVec.ofInt 64 (IntKind.u64.wrap (qhy * 2 ^ 32)) ||| BitVec.ofInt 64 (IntKind.u64.wrap (toI ((pg.getD (qao + (IntKind.i64.wrap (IntKind.i64.wrap (qb3 + qb4) - 2)).toNat) pf).getD 0 AV.dead)))).toNat : Int)) then bif decide (IntKind.u64.wrap (qhy + qap) > 4294967295) then kx0 qc6 qa8 qa9 qa3 qao qaw qa7 qb4 qa2 qa5 qa1 qap pu qb3 (IntKind.u64.wrap (qgp - 1)) pf pg p5 p4
    else kn (IntKind.u64.wrap (qgp - 1)) (IntKind.u64.wrap (qhy + qap))
  else kx0 qc6 qa8 qa9 qa3 qao qaw qa7 qb4 qa2 qa5 qa1 qap pu qb3 qgp pf pg p5 p4
noncomputable def gdiv_l0 (z3 q3 : Mo) (q0 qj : Mo) (ww qe : Mo) (q6 wd wc : Mo) (fuel : Nat) (kx0 : Int → Nat → Nat → Ge → Nat → Nat → Nat → Int → Nat → Nat → Nat → Int → Int → Int → Int → List AV → List (List AV) → List AV → List (List AV) → Option AV) (qc6 : Int) (qa8 qa9 : Nat) (qa3 : Ge) (qao qaw qa7 : Nat) (qb4 : Int) (qa2 qa5 qa1 : Nat) (qap pu qb3 : Int) (pf : List AV) (pg : List (List AV)) (p5 : List AV) (p4 : List (List AV)) : Nat → Int → Int → Option AV
  | 0,_,_ => none
  | n' + 1,qgp,qhy => gdiv_l0_step z3 q3 q0 qj ww qe q6 wd wc fuel (gdiv_l0 z3 q3 q0 qj ww qe q6 wd wc fuel kx0 qc6 qa8 qa9 qa3 qao qaw qa7 qb4 qa2 qa5 qa1 qap pu qb3 pf pg p5 p4 n') kx0 qc6 qa8 qa9 qa3 qao qaw qa7 qb4 qa2 qa5 qa1 qap pu qb3 pf pg p5 p4 qgp qhy
termination_by structural k => k
noncomputable def Tdiv_0 : TS' := ⟨[(10,TA.i .u64),(11,TA.ro 1),(12,TA.own 0 1),(13,TA.i .i64),(15,TA.own 1 1),(16,TA.i .u64),(17,TA.i .u64),(18,TA.i .i64),(20,TA.i .u64),(21,TA.i .u64)],[TB.fx 1,TB.fx 1],[]⟩
noncomputable def Fdiv_0 (z3 q3 : Mo) (q0 qj : Mo) (ww qe : Mo) (q6 wd wc : Mo) (fuel : Nat) (ps : List Pay) (K : Ex → St → Option AV) : Option AV := match ps with
  | .i qc6 :: .n qa8 :: .n qa9 :: .g qa3 :: .n qao :: .n qaw :: .n qa7 :: .i qb4 :: .n qa2 :: .n qa5 :: .n qa1 :: .i qap :: .i pu :: .i qb3 :: .i qgp :: .i qhy :: .z pf :: .e pg :: .z p5 :: .e p4 :: [] => gdiv_l0 z3 q3 q0 qj ww qe q6 wd wc fuel (fun qpt qmd qmy qmb qnd qm0 qns qo9 qnw qno qmp qn1 qk0 qqh qpp qrs qr7 qr6 qsq => K (Ex.exit 2) (Xdiv_0_0 qpt qmd qmy qmb qnd qm0 qns qo9 qnw qno qmp qn1 qk0 qqh qpp qrs qr7 qr6 qsq)) qc6 qa8 qa9 qa3 qao qaw qa7 qb4 qa2 qa5 qa1 qap pu qb3 pf pg p5 p4 fuel qgp qhy
  | _ => none
noncomputable def Sdiv_1 (qdb : Int) (qa4 qby : Nat) (p6 : Ge) (p0 qav qbr : Nat) (qc3 : Int) (qbl qbk qb1 : Nat) (qbn qae : Int) (qaj qcd : Int) (qg9 qhg qei : Int) (qd6 : List AV) (qd0 : List (List AV)) (qfs : List AV) (qfu : List (List AV)) : St := { env := [(10,AV.int .u64 qdb),(11,AV.ro 1 qa4 qby p6),(12,AV.own 0 p0 1 qav qbr),(13,AV.int .i64 qc3),(15,AV.own 1 qbl 1 qbk qb1),(16,AV.int .u64 qbn),(17,AV.int .u64 qae),(18,AV.int .i64 qaj),(20,AV.int .u64 qcd),(22,AV.int .u64 qg9),(23,AV.int .u64 qhg),(24,AV.int .i64 qei)],h := [Blk.fx 1 qd6 qd0,Blk.fx 1 qfs qfu],kd := [] }
noncomputable def Xdiv_1_0 (qq4 : Int) (ql7 qmz : Nat) (qm5 : Ge) (qm9 qmg qnv : Nat) (qpn : Int) (qnf qnr qm6 : Nat) (qn0 qlf : Int) (qpj qqo : Int) (qpr qqu : Int) (qsa : List AV) (qrr : List (List AV)) (qsg : List AV) (qse : List (List AV)) : St := { env := [(10,AV.int .u64 qq4),(11,AV.ro 1 ql7 qmz qm5),(12,AV.own 0 qm9 1 qmg qnv),(13,AV.int .i64 qpn),(15,AV.own 1 qnf 1 qnr qm6),(16,AV.int .u64 qn0),(17,AV.int .u64 qlf),(18,AV.int .i64 qpj),(20,AV.int .u64 qqo),(22,AV.int .u64 qpr),(23,AV.int .u64 qqu)],h := [Blk.fx 1 qsa qrr,Blk.fx 1 qsg qse],kd := [] }
noncomputable def gdiv_l1_step (z3 q3 : Mo) (q0 qj : Mo) (ww qe : Mo) (q6 wd wc : Mo) (fuel : Nat) (kn : Int → Int → Int → List (List AV) → Option AV) (kx0 : Int → Nat → Nat → Ge → Nat → Nat → Nat → Int → Nat → Nat → Nat → Int → Int → Int → Int → Int → Int → List AV → List (List AV) → List AV → List (List AV) → Option AV) (qdb : Int) (qa4 qby : Nat) (p6 : Ge) (p0 qav qbr : Nat) (qc3 : Int) (qbl qbk qb1 : Nat) (qbn qae : Int) (qaj qcd : Int) (qd6 qfs : List AV) (qfu : List (List AV)) (qg9 qhg qei : Int) (qd0 : List (List AV)) : Option AV :=
  bif decide (qei < qc3) then ck (decide (0 ≤ qei)) <| ck (decide (qei < (↑qa4 : Int))) <| ck (fitK (LK.i .u32) (p6 qei.toNat 0)) <| ck (decide (0 ≤ IntKind.i64.wrap (qei + qaj))) <| ck (decide (IntKind.i64.wrap (qei + qaj) < (↑qav : Int))) <| ck (fitK (LK.i .u32) ((qd0.getD (p0 + (IntKind.i64.wrap (qei + qaj)).toNat) qd6).getD 0 AV.dead)) <| ck (decide (0 ≤ IntKind.i64.wrap (qei + qaj))) <| ck (decide (IntKind.i64.wrap (qei + qaj) < (↑qav : Int))) <| kn ((IntKind.u64.wrap (qg9 + IntKind.u64.wrap (qcd * IntKind.u64.wrap (toI (p6 qei.toNat 0))))).fdiv (2 ^ 32)) ((IntKind.u64.wrap (IntKind.u64.wrap (IntKind.u64.wrap (toI ((qd0.getD (p0 + (IntKind.i64.wrap (qei + qaj)).toNat) qd6).getD 0 AV.dead)) - IntKind.u64.wrap (IntKind.u32.wrap (IntKind.u64.wrap (qg9 + IntKind.u64.wrap (qcd * IntKind.u64.wrap (toI (p6 qei.toNat 0))))))) - qhg)).fdiv (2 ^ 63)) (IntKind.i64.wrap (qei + 1)) (qd0.set (p0 + (IntKind.i64.wrap (qei + qaj)).toNat) (AV.int .u32 (IntKind.u32.wrap (IntKind.u64.wrap (IntKind.u64.wrap (IntKind.u64.wrap (toI ((qd0.getD (p0 + (IntKind.i64.wrap (qei + qaj)).toNat) qd6).getD 0 AV.dead)) - IntKind.u64.wrap (IntKind.u32.wrap (IntKind.u64.wrap (qg9 + IntKind.u64.wrap (qcd * IntKind.u64.wrap (toI (p6 qei.toNat 0))))))) - qhg))) :: List.drop (0 + [AV.int .u32 (IntKind.u32.wrap (IntKind.u64.wrap (IntKind.u64.wrap (IntKind.u64.wrap (toI ((qd0.getD (p0 + (IntKind.i64.wrap (qei + qaj)).toNat) qd6).getD 0 AV.dead)) - IntKind.u64.wrap (IntKind.u32.wrap (IntKind.u64.wrap (qg9 + IntKind.u64.wrap (qcd * IntKind.u64.wrap (toI (p6 qei.toNat 0))))))) - qhg)))].length) (qd0.getD (p0 + (IntKind.i64.wrap (qei + qaj)).toNat) qd6)))
  else kx0 qdb qa4 qby p6 p0 qav qbr qc3 qbl qbk qb1 qbn qae qaj qcd qg9 qhg qd6 qd0 qfs qfu
noncomputable def gdiv_l1 (z3 q3 : Mo) (q0 qj : Mo) (ww qe : Mo) (q6 wd wc : Mo) (fuel : Nat) (kx0 : Int → Nat → Nat → Ge → Nat → Nat → Nat → Int → Nat → Nat → Nat → Int → Int → Int → Int → Int → Int → List AV → List (List AV) → List AV → List (List AV) → Option AV) (qdb : Int) (qa4 qby : Nat) (p6 : Ge) (p0 qav qbr : Nat) (qc3 : Int) (qbl qbk qb1 : Nat) (qbn qae : Int) (qaj qcd : Int) (qd6 qfs : List AV) (qfu : List (List AV)) : Nat → Int → Int → Int → List (List AV) → Option AV
  | 0,_,_,_,_ => none
  | n' + 1,qg9,qhg,qei,qd0 => gdiv_l1_step z3 q3 q0 qj ww qe q6 wd wc fuel (gdiv_l1 z3 q3 q0 qj ww qe q6 wd wc fuel kx0 qdb qa4 qby p6 p0 qav qbr qc3 qbl qbk qb1 qbn qae qaj qcd qd6 qfs qfu n') kx0 qdb qa4 qby p6 p0 qav qbr qc3 qbl qbk qb1 qbn qae qaj qcd qd6 qfs qfu qg9 qhg qei qd0
termination_by structural k => k
noncomputable def Tdiv_1 : TS' := ⟨[(10,TA.i .u64),(11,TA.ro 1),(12,TA.own 0 1),(13,TA.i .i64),(15,TA.own 1 1),(16,TA.i .u64),(17,TA.i .u64),(18,TA.i .i64),(20,TA.i .u64),(22,TA.i .u64),(23,TA.i .u64),(24,TA.i .i64)],[TB.fx 1,TB.fx 1],[]⟩
noncomputable def Fdiv_1 (z3 q3 : Mo) (q0 qj : Mo) (ww qe : Mo) (q6 wd wc : Mo) (fuel : Nat) (ps : List Pay) (K : Ex → St → Option AV) : Option AV := match ps with
  | .i qdb :: .n qa4 :: .n qby :: .g p6 :: .n p0 :: .n qav :: .n qbr :: .i qc3 :: .n qbl :: .n qbk :: .n qb1 :: .i qbn :: .i qae :: .i qaj :: .i qcd :: .i qg9 :: .i qhg :: .i qei :: .z qd6 :: .e qd0 :: .z qfs :: .e qfu :: [] => gdiv_l1 z3 q3 q0 qj ww qe q6 wd wc fuel (fun qq4 ql7 qmz qm5 qm9 qmg qnv qpn qnf qnr qm6 qn0 qlf qpj qqo qpr qqu qsa qrr qsg qse => K (Ex.exit 4) (Xdiv_1_0 qq4 ql7 qmz qm5 qm9 qmg qnv qpn qnf qnr qm6 qn0 qlf qpj qqo qpr qqu qsa qrr qsg qse)) qdb qa4 qby p6 p0 qav qbr qc3 qbl qbk qb1 qbn qae qaj qcd qd6 qfs qfu fuel qg9 qhg qei qd0
  | _ => none
noncomputable def Sdiv_2 (qdi : Int) (qa6 qbo : Nat) (qai : Ge) (p2 qau qbw : Nat) (qc7 : Int) (qbv qbt qbx : Nat) (qbs qaf : Int) (qak qda : Int) (qcx qem : Int) (qd2 : List AV) (qd4 : List (List AV)) (qft : List AV) (qfx : List (List AV)) : St := { env := [(10,AV.int .u64 qdi),(11,AV.ro 1 qa6 qbo qai),(12,AV.own 0 p2 1 qau qbw),(13,AV.int .i64 qc7),(15,AV.own 1 qbv 1 qbt qbx),(16,AV.int .u64 qbs),(17,AV.int .u64 qaf),(18,AV.int .i64 qak),(20,AV.int .u64 qda),(22,AV.int .u64 qcx),(27,AV.int .i64 qem)],h := [Blk.fx 1 qd2 qd4,Blk.fx 1 qft qfx],kd := [] }
noncomputable def Xdiv_2_0 (qpa : Int) (qmf qnu : Nat) (qnm : Ge) (qmv qm3 qnc : Nat) (qpq : Int) (ql9 qmx ql6 : Nat) (qm7 qkw : Int) (qqs qph qpm : Int) (qsb : List AV) (qso : List (List AV)) (qro : List AV) (qsi : List (List AV)) : St := { env := [(10,AV.int .u64 qpa),(11,AV.ro 1 qmf qnu qnm),(12,AV.own 0 qmv 1 qm3 qnc),(13,AV.int .i64 qpq),(15,AV.own 1 ql9 1 qmx ql6),(16,AV.int .u64 qm7),(17,AV.int .u64 qkw),(18,AV.int .i64 qqs),(20,AV.int .u64 qph),(22,AV.int .u64 qpm)],h := [Blk.fx 1 qsb qso,Blk.fx 1 qro qsi],kd := [] }
noncomputable def gdiv_l2_step (z3 q3 : Mo) (q0 qj : Mo) (ww qe : Mo) (q6 wd wc : Mo) (fuel : Nat) (kn : Int → Int → List (List AV) → Option AV) (kx0 : Int → Nat → Nat → Ge → Nat → Nat → Nat → Int → Nat → Nat → Nat → Int → Int → Int → Int → Int → List AV → List (List AV) → List AV → List (List AV) → Option AV) (qdi : Int) (qa6 qbo : Nat) (qai : Ge) (p2 qau qbw : Nat) (qc7 : Int) (qbv qbt qbx : Nat) (qbs qaf : Int) (qak qda : Int) (qd2 qft : List AV) (qfx : List (List AV)) (qcx qem : Int) (qd4 : List (List AV)) : Option AV :=
  bif decide (qem < qc7) then ck (decide (0 ≤ IntKind.i64.wrap (qem + qak))) <| ck (decide (IntKind.i64.wrap (qem + qak) < (↑qau : Int))) <| ck (fitK (LK.i .u32) ((qd4.getD (p2 + (IntKind.i64.wrap (qem + qak)).toNat) qd2).getD 0 AV.dead)) <| ck (decide (0 ≤ qem)) <| ck (decide (qem < (↑qa6 : Int))) <| ck (fitK (LK.i .u32) (qai qem.toNat 0)) <| ck (decide (0 ≤ IntKind.i64.wrap (qem + qak))) <| ck (decide (IntKind.i64.wrap (qem + qak) < (↑qau : Int))) <| kn ((IntKind.u64.wrap (qcx + IntKind.u64.wrap (IntKind.u64.wrap (toI ((qd4.getD (p2 + (IntKind.i64.wrap (qem + qak)).toNat) qd2).getD 0 AV.dead)) + IntKind.u64.wrap (toI (qai qem.toNat 0))))).fdiv (2 ^ 32)) (IntKind.i64.wrap (qem + 1)) (qd4.set (p2 + (IntKind.i64.wrap (qem + qak)).toNat) (AV.int .u32 (IntKind.u32.wrap (IntKind.u64.wrap (qcx + IntKind.u64.wrap (IntKind.u64.wrap (toI ((qd4.getD (p2 + (IntKind.i64.wrap (qem + qak)).toNat) qd2).getD 0 AV.dead)) + IntKind.u64.wrap (toI (qai qem.toNat 0)))))) :: List.drop (0 + [AV.int .u32 (IntKind.u32.wrap (IntKind.u64.wrap (qcx + IntKind.u64.wrap (IntKind.u64.wrap (toI ((qd4.getD (p2 + (IntKind.i64.wrap (qem + qak)).toNat) qd2).getD 0 AV.dead)) + IntKind.u64.wrap (toI (qai qem.toNat 0))))))].length) (qd4.getD (p2 + (IntKind.i64.wrap (qem + qak)).toNat) qd2)))
  else kx0 qdi qa6 qbo qai p2 qau qbw qc7 qbv qbt qbx qbs qaf qak qda qcx qd2 qd4 qft qfx
noncomputable def gdiv_l2 (z3 q3 : Mo) (q0 qj : Mo) (ww qe : Mo) (q6 wd wc : Mo) (fuel : Nat) (kx0 : Int → Nat → Nat → Ge → Nat → Nat → Nat → Int → Nat → Nat → Nat → Int → Int → Int → Int → Int → List AV → List (List AV) → List AV → List (List AV) → Option AV) (qdi : Int) (qa6 qbo : Nat) (qai : Ge) (p2 qau qbw : Nat) (qc7 : Int) (qbv qbt qbx : Nat) (qbs qaf : Int) (qak qda : Int) (qd2 qft : List AV) (qfx : List (List AV)) : Nat → Int → Int → List (List AV) → Option AV
  | 0,_,_,_ => none
  | n' + 1,qcx,qem,qd4 => gdiv_l2_step z3 q3 q0 qj ww qe q6 wd wc fuel (gdiv_l2 z3 q3 q0 qj ww qe q6 wd wc fuel kx0 qdi qa6 qbo qai p2 qau qbw qc7 qbv qbt qbx qbs qaf qak qda qd2 qft qfx n') kx0 qdi qa6 qbo qai p2 qau qbw qc7 qbv qbt qbx qbs qaf qak qda qd2 qft qfx qcx qem qd4
termination_by structural k => k
noncomputable def Tdiv_2 : TS' := ⟨[(10,TA.i .u64),(11,TA.ro 1),(12,TA.own 0 1),(13,TA.i .i64),(15,TA.own 1 1),(16,TA.i .u64),(17,TA.i .u64),(18,TA.i .i64),(20,TA.i .u64),(22,TA.i .u64),(27,TA.i .i64)],[TB.fx 1,TB.fx 1],[]⟩
noncomputable def Fdiv_2 (z3 q3 : Mo) (q0 qj : Mo) (ww qe : Mo) (q6 wd wc : Mo) (fuel : Nat) (ps : List Pay) (K : Ex → St → Option AV) : Option AV := match ps with
  | .i qdi :: .n qa6 :: .n qbo :: .g qai :: .n p2 :: .n qau :: .n qbw :: .i qc7 :: .n qbv :: .n qbt :: .n qbx :: .i qbs :: .i qaf :: .i qak :: .i qda :: .i qcx :: .i qem :: .z qd2 :: .e qd4 :: .z qft :: .e qfx :: [] => gdiv_l2 z3 q3 q0 qj ww qe q6 wd wc fuel (fun qpa qmf qnu qnm qmv qm3 qnc qpq ql9 qmx ql6 qm7 qkw qqs qph qpm qsb qso qro qsi => K (Ex.exit 6) (Xdiv_2_0 qpa qmf qnu qnm qmv qm3 qnc qpq ql9 qmx ql6 qm7 qkw qqs qph qpm qsb qso qro qsi)) qdi qa6 qbo qai p2 qau qbw qc7 qbv qbt qbx qbs qaf qak qda qd2 qft qfx fuel qcx qem qd4
  | _ => none
noncomputable def Sdiv_3 (qh8 : Int) (qf6 qf4 : Nat) (qf5 : Ge) (qdy qey qfw : Nat) (qf8 : Int) (qfy qfr qf0 : Nat) (qer qdw qf2 : Int) (h0z : List AV) (h0e : List (List AV)) (h1z : List AV) (h1e : List (List AV)) : St := { env := [(10,AV.int .u64 qh8),(11,AV.ro 1 qf6 qf4 qf5),(12,AV.own 0 qdy 1 qey qfw),(13,AV.int .i64 qf8),(15,AV.own 1 qfy 1 qfr qf0),(16,AV.int .u64 qer),(17,AV.int .u64 qdw),(18,AV.int .i64 qf2)],h := [Blk.fx 1 h0z h0e,Blk.fx 1 h1z h1e],kd := [] }
noncomputable def Xdiv_3_0 (qqy : Int) (qn6 qne : Nat) (qmu qmt : Nat) (qmh qn3 : Nat) (qr1 : List AV) (qrn : List (List AV)) (qrw : List AV) (qsp : List (List AV)) : St := { env := [(10,AV.int .u64 qqy),(12,AV.own 0 qn6 1 qne qmu),(15,AV.own 1 qmt 1 qmh qn3)],h := [Blk.fx 1 qr1 qrn,Blk.fx 1 qrw qsp],kd := [] }
noncomputable def gdiv_l3_step (z3 q3 : Mo) (q0 qj : Mo) (ww qe : Mo) (q6 wd wc : Mo) (fuel : Nat) (kn : Int → Nat → Nat → Ge → Nat → Nat → Nat → Int → Nat → Nat → Nat → Int → Int → Int → List AV → List (List AV) → List AV → List (List AV) → Option AV) (kx0 : Int → Nat → Nat → Nat → Nat → Nat → Nat → List AV → List (List AV) → List AV → List (List AV) → Option AV) (qh8 : Int) (qf6 qf4 : Nat) (qf5 : Ge) (qdy qey qfw : Nat) (qf8 : Int) (qfy qfr qf0 : Nat) (qer qdw qf2 : Int) (h0z : List AV) (h0e : List (List AV)) (h1z : List AV) (h1e : List (List AV)) : Option AV :=
  bif decide (qf2 ≥ 0) then ck (decide (0 ≤ IntKind.i64.wrap (qf2 + qf8))) <| ck (decide (IntKind.i64.wrap (qf2 + qf8) < (↑qey : Int))) <| ck (fitK (LK.i .u32) ((h0e.getD (qdy + (IntKind.i64.wrap (qf2 + qf8)).toNat) h0z).getD 0 AV.dead)) <| ck (decide (0 ≤ IntKind.i64.wrap (IntKind.i64.wrap (qf2 + qf8) - 1))) <| ck (decide (IntKind.i64.wrap (IntKind.i64.wrap (qf2 + qf8) - 1) < (↑qey : Int))) <| ck (fitK (LK.i .u32) ((h0e.getD (qdy + (IntKind.i64.wrap (IntKind.i64.wrap (qf2 + qf8) - 1)).toNat) h0z).getD 0 AV.dead)) <| ck (!decide (qer = 0)) <| ck (!decide (qer = 0)) <| gdiv_l0 z3 q3 q0 qj ww qe q6 wd wc fuel
      (fun (qek : Int) (qec qea : Nat) (qef : Ge) (qcf qci qca : Nat) (qgf : Int) (qcb qcg qch : Nat) (qeb qcn : Int) (qgb qgo : Int) (v1 : List AV) (v0 : List (List AV)) (qc4 : List AV) (qb5 : List (List AV)) => gdiv_l1 z3 q3 q0 qj ww qe q6 wd wc fuel
          (fun (qsw : Int) (qrj qrh : Nat) (qri : Ge) (qeg qkg qre : Nat) (qdr : Int) (qkh qnn qrc : Nat) (qrg qo0 : Int) (qb6 qp8 : Int) (qg5 qju : Int) (yp : List AV) (yr : List (List AV)) (qj7 : List AV) (qhe : List (List AV)) => ck (decide (0 ≤ IntKind.i64.wrap (qb6 + qdr))) <| ck (decide (IntKind.i64.wrap (qb6 + qdr) < (↑qkg : Int))) <| ck (fitK (LK.i .u32) ((yr.getD (qeg + (IntKind.i64.wrap (qb6 + qdr)).toNat) yp).getD 0 AV.dead)) <| ck (decide (0 ≤ IntKind.i64.wrap (qb6 + qdr))) <| ck (decide (IntKind.i64.wrap (qb6 + qdr) < (↑qkg : Int))) <| bif (IntKind.u64.wrap (IntKind.u64.wrap (IntKind.u64.wrap (toI ((yr.getD (qeg + (IntKind.i64.wrap (qb6 + qdr)).toNat) yp).getD 0 AV.dead)) - qg5) - qju)).fdiv (2 ^ 63) != 0 then gdiv_l2 z3 q3 q0 qj ww qe q6 wd wc fuel
                (fun (qtt : Int) (qtf qth : Nat) (qts : Ge) (qiw qmc qtq : Nat) (qg4 : Int) (qmw qq8 qtg : Nat) (qtp qs6 : Int) (qeq qss qst : Int) (qg0 : List AV) (qgv : List (List AV)) (qkx : List AV) (qk4 : List (List AV)) => ck (decide (0 ≤ IntKind.i64.wrap (qeq + qg4))) <| ck (decide (IntKind.i64.wrap (qeq + qg4) < (↑qmc : Int))) <| ck (fitK (LK.i .u32) ((qgv.getD (qiw + (IntKind.i64.wrap (qeq + qg4)).toNat) qg0).getD 0 AV.dead)) <| ck (decide (0 ≤ IntKind.i64.wrap (qeq + qg4))) <| ck (decide (IntKind.i64.wrap (qeq + qg4) < (↑qmc : Int))) <| ck (decide (0 ≤ qeq)) <| ck (decide (qeq < (↑qq8 : Int))) <| kn qtt qtf qth qts qiw qmc qtq qg4 qmw qq8 qtg qtp qs6 (IntKind.i64.wrap (qeq - 1)) qg0 (qgv.set (qiw + (IntKind.i64.wrap (qeq + qg4)).toNat) (AV.int .u32 (IntKind.u32.wrap (toI ((qgv.getD (qiw + (IntKind.i64.wrap (qeq + qg4)).toNat) qg0).getD 0 AV.dead) + IntKind.u32.wrap qst)) :: List.drop (0 + [AV.int .u32 (IntKind.u32.wrap (toI ((qgv.getD (qiw + (IntKind.i64.wrap (qeq + qg4)).toNat) qg0).getD 0 AV.dead) + IntKind.u32.wrap qst))].length) (qgv.getD (qiw + (IntKind.i64.wrap (qeq + qg4)).toNat) qg0))) qkx (qk4.set (qmw + qeq.toNat) (AV.int .u32 (IntKind.u32.wrap qss) :: List.drop (0 + [AV.int .u32 (IntKind.u32.wrap qss)].length) (qk4.getD (qmw + qeq.toNat) qkx))))
                qsw
                qrj
                qrh
                qri
                qeg
                qkg
                qre
                qdr
                qkh
                qnn
                qrc
                qrg
                qo0
                qb6
                (IntKind.u64.wrap (qp8 - 1))
                yp
                qj7
                qhe fuel (0) (0) (yr.set (qeg + (IntKind.i64.wrap (qb6 + qdr)).toNat) (AV.int .u32 (IntKind.u32.wrap (IntKind.u64.wrap (IntKind.u64.wrap (IntKind.u64.wrap (toI ((yr.getD (qeg + (IntKind.i64.wrap (qb6 + qdr)).toNat) yp).getD 0 AV.dead)) - qg5) - qju))) :: List.drop (0 + [AV.int .u32 (IntKind.u32.wrap (IntKind.u64.wrap (IntKind.u64.wrap (IntKind.u64.wrap (toI ((yr.getD (qeg + (IntKind.i64.wrap (qb6 + qdr)).toNat) yp).getD 0 AV.dead)) - qg5) - qju)))].length) (yr.getD (qeg + (IntKind.i64.wrap (qb6 + qdr)).toNat) yp)))
            else ck (decide (0 ≤ qb6)) <| ck (decide (qb6 < (↑qnn : Int))) <| kn qsw qrj qrh qri qeg qkg qre qdr qkh qnn qrc qrg qo0 (IntKind.i64.wrap (qb6 - 1)) yp (yr.set (qeg + (IntKind.i64.wrap (qb6 + qdr)).toNat) (AV.int .u32 (IntKind.u32.wrap (IntKind.u64.wrap (IntKind.u64.wrap (IntKind.u64.wrap (toI ((yr.getD (qeg + (IntKind.i64.wrap (qb6 + qdr)).toNat) yp).getD 0 AV.dead)) - qg5) - qju))) :: List.drop (0 + [AV.int .u32 (IntKind.u32.wrap (IntKind.u64.wrap (IntKind.u64.wrap (IntKind.u64.wrap (toI ((yr.getD (qeg + (IntKind.i64.wrap (qb6 + qdr)).toNat) yp).getD 0 AV.dead)) - qg5) - qju)))].length) (yr.getD (qeg + (IntKind.i64.wrap (qb6 + qdr)).toNat) yp))) qj7 (qhe.set (qkh + qb6.toNat) (AV.int .u32 (IntKind.u32.wrap qp8) :: List.drop (0 + [AV.int .u32 (IntKind.u32.wrap qp8)].length) (qhe.getD (qkh + qb6.toNat) qj7))))
          qek
          qec
          qea
          qef
          qcf
          qci
          qca
          qgf
          qcb
          qcg
          qch
          qeb
          qcn
          qgb
          qgo
          v1
          qc4
          qb5 fuel (0) (0) (0) v0)
      qh8
      qf6
      qf4
      qf5
      qdy
      qey
      qfw
      qf8
      qfy
      qfr
      qf0
      qer
      qdw
      qf2
      h0z
      h0e
      h1z
      h1e fuel (IntKind.u64.wrap ((IntKind.u64.wrap (↑(BitVec.ofInt 64 (IntKind.u64.wrap (IntKind.u64.wrap (toI ((h0e.getD (qdy + (IntKind.i64.wrap (qf2 + qf8)).toNat) h0z).getD 0 AV.dead)) * 2 ^ 32)) ||| BitVec.ofInt 64 (IntKind.u64.wrap (toI ((h0e.getD (qdy + (IntKind.i64.wrap (IntKind.i64.wrap (qf2 + qf8) - 1)).toNat) h0z).getD 0 AV.dead)))).toNat : Int)).tdiv qer)) ((IntKind.u64.wrap (↑(BitVec.ofInt 64 (IntKind.u64.wrap (IntKind.u64.wrap (toI ((h0e.getD (qdy + (IntKind.i64.wrap (qf2 + qf8)).toNat) h0z).getD 0 AV.dead)) * 2 ^ 32)) ||| BitVec.ofInt 64 (IntKind.u64.wrap (toI ((h0e.getD (qdy + (IntKind.i64.wrap (IntKind.i64.wrap (qf2 + qf8) - 1)).toNat) h0z).getD 0 AV.dead)))).toNat : Int)).tmod qer)
  else kx0 qh8 qdy qey qfw qfy qfr qf0 h0z h0e h1z h1e
noncomputable def gdiv_l3 (z3 q3 : Mo) (q0 qj : Mo) (ww qe : Mo) (q6 wd wc : Mo) (fuel : Nat) (kx0 : Int → Nat → Nat → Nat → Nat → Nat → Nat → List AV → List (List AV) → List AV → List (List AV) → Option AV) : Nat → Int → Nat → Nat → Ge → Nat → Nat → Nat → Int → Nat → Nat → Nat → Int → Int → Int → List AV → List (List AV) → List AV → List (List AV) → Option AV
  | 0,_,_,_,_,_,_,_,_,_,_,_,_,_,_,_,_,_,_ => none
  | n' + 1,qh8,qf6,qf4,qf5,qdy,qey,qfw,qf8,qfy,qfr,qf0,qer,qdw,qf2,h0z,h0e,h1z,h1e => gdiv_l3_step z3 q3 q0 qj ww qe q6 wd wc fuel (gdiv_l3 z3 q3 q0 qj ww qe q6 wd wc fuel kx0 n') kx0 qh8 qf6 qf4 qf5 qdy qey qfw qf8 qfy qfr qf0 qer qdw qf2 h0z h0e h1z h1e
termination_by structural k => k
noncomputable def Tdiv_3 : TS' := ⟨[(10,TA.i .u64),(11,TA.ro 1),(12,TA.own 0 1),(13,TA.i .i64),(15,TA.own 1 1),(16,TA.i .u64),(17,TA.i .u64),(18,TA.i .i64)],[TB.fx 1,TB.fx 1],[]⟩
noncomputable def Fdiv_3 (z3 q3 : Mo) (q0 qj : Mo) (ww qe : Mo) (q6 wd wc : Mo) (fuel : Nat) (ps : List Pay) (K : Ex → St → Option AV) : Option AV := match ps with
  | .i qh8 :: .n qf6 :: .n qf4 :: .g qf5 :: .n qdy :: .n qey :: .n qfw :: .i qf8 :: .n qfy :: .n qfr :: .n qf0 :: .i qer :: .i qdw :: .i qf2 :: .z h0z :: .e h0e :: .z h1z :: .e h1e :: [] => gdiv_l3 z3 q3 q0 qj ww qe q6 wd wc fuel (fun qqy qn6 qne qmu qmt qmh qn3 qr1 qrn qrw qsp => K (Ex.exit 0) (Xdiv_3_0 qqy qn6 qne qmu qmt qmh qn3 qr1 qrn qrw qsp)) fuel qh8 qf6 qf4 qf5 qdy qey qfw qf8 qfy qfr qf0 qer qdw qf2 h0z h0e h1z h1e
  | _ => none
noncomputable def Ldiv (z3 q3 : Mo) (q0 qj : Mo) (ww qe : Mo) (q6 wd wc : Mo) (fuel : Nat) : Lam AV := [(5846006462211325741054492684241232576091071184896,lam Tdiv_0 (Fdiv_0 z3 q3 q0 qj ww qe q6 wd wc fuel)),(1606938044253144268992638480668347863191337861704169168044032,lam Tdiv_1 (Fdiv_1 z3 q3 q0 qj ww qe q6 wd wc fuel)),(7237005563852288880397866665709486697319558704783963041195812759942903889920,lam Tdiv_2 (Fdiv_2 z3 q3 q0 qj ww qe q6 wd wc fuel)),(237142198758023568227473377297792835283496928594582838045492278594639777729609728,lam Tdiv_3 (Fdiv_3 z3 q3 q0 qj ww qe q6 wd wc fuel))]
noncomputable def Gdiv (z3 q3 : Mo) (q0 qj : Mo) (ww qe : Mo) (q6 wd wc : Mo) : Gam := [(191,smM [RS.one (LK.i .i64)] z3),(137,smM [RS.one (LK.l (nat_lit 1))] q3),(228,smM [RS.one (LK.i .u64)] q0),(194,smM [RS.one (LK.l (nat_lit 1))] qj),(229,smM [RS.one (LK.l (nat_lit 1)),RS.one (LK.i .u32)] ww),(195,smM [RS.one (LK.l (nat_lit 1))] qe),(88,smM [RS.one (LK.i .i64)] q6),(138,smM [RS.one (LK.l (nat_lit 1))] wd),(144,smM [RS.one (LK.l (nat_lit 1))] wc)]
theorem gdiv_l0_eq (z3 q3 : Mo) (q0 qj : Mo) (ww qe : Mo) (q6 wd wc : Mo) (fuel : Nat) (kn : St → Option AV) (K : Ex → St → Option AV) (qc6 : Int) (qa8 qa9 : Nat) (qa3 : Ge) (qao qaw qa7 : Nat) (qb4 : Int) (qa2 qa5 qa1 : Nat) (qap pu qb3 : Int) (pf : List AV) (pg : List (List AV)) (p5 : List AV) (p4 : List (List AV)) (qos qoy : Int) (qgp qhy : Int) :
    bX Pr (Gdiv z3 q3 q0 qj ww qe q6 wd wc) (Ldiv z3 q3 q0 qj ww qe q6 wd wc fuel) 6 193 1 fuel (Sdiv_0 qc6 qa8 qa9 qa3 qao qaw qa7 qb4 qa2 qa5 qa1 qap pu qb3 qgp qhy pf pg p5 p4) (fun e s => match e with | .normal => kn (hX Pr 193 1 (Sdiv_0 qc6 qa8 qa9 qa3 qao qaw qa7 qb4 qa2 qa5 qa1 qap pu qb3 qos qoy pf pg p5 p4) s) | e => K e s) =
    gdiv_l0_step z3 q3 q0 qj ww qe q6 wd wc fuel (fun qgp qhy => kn (Sdiv_0 qc6 qa8 qa9 qa3 qao qaw qa7 qb4 qa2 qa5 qa1 qap pu qb3 qgp qhy pf pg p5 p4)) (fun qek qec qea qef qcf qci qca qgf qcb qcg qch qeb qcn qgb qgo v1 v0 qc4 qb5 => K (Ex.exit 2) (Xdiv_0_0 qek qec qea qef qcf qci qca qgf qcb qcg qch qeb qcn qgb qgo v1 v0 qc4 qb5)) qc6 qa8 qa9 qa3 qao qaw qa7 qb4 qa2 qa5 qa1 qap pu qb3 pf pg p5 p4 qgp qhy := by kernel_rfl
theorem gdiv_l0_ok (z3 q3 : Mo) (q0 qj : Mo) (ww qe : Mo) (q6 wd wc : Mo) (fuel : Nat) (K : Ex → St → Option AV) (qc6 : Int) (qa8 qa9 : Nat) (qa3 : Ge) (qao qaw qa7 : Nat) (qb4 : Int) (qa2 qa5 qa1 : Nat) (qap pu qb3 : Int) (pf : List AV) (pg : List (List AV)) (p5 : List AV) (p4 : List (List AV)) (qos qoy : Int) : ∀ (n' : Nat) (qgp qhy : Int),
    loopK (bX Pr (Gdiv z3 q3 q0 qj ww qe q6 wd wc) (Ldiv z3 q3 q0 qj ww qe q6 wd wc fuel) 6 193 1 fuel) (hX Pr 193 1 (Sdiv_0 qc6 qa8 qa9 qa3 qao qaw qa7 qb4 qa2 qa5 qa1 qap pu qb3 qos qoy pf pg p5 p4)) n' (Sdiv_0 qc6 qa8 qa9 qa3 qao qaw qa7 qb4 qa2 qa5 qa1 qap pu qb3 qgp qhy pf pg p5 p4) K = gdiv_l0 z3 q3 q0 qj ww qe q6 wd wc fuel (fun qek qec qea qef qcf qci qca qgf qcb qcg qch qeb qcn qgb qgo v1 v0 qc4 qb5 => K (Ex.exit 2) (Xdiv_0_0 qek qec qea qef qcf qci qca qgf qcb qcg qch qeb qcn qgb qgo v1 v0 qc4 qb5)) qc6 qa8 qa9 qa3 qao qaw qa7 qb4 qa2 qa5 qa1 qap pu qb3 pf pg p5 p4 n' qgp qhy
  | 0,_,_ => rfl
  | n' + 1,qgp,qhy => (gdiv_l0_eq z3 q3 q0 qj ww qe q6 wd wc fuel (fun s => loopK (bX Pr (Gdiv z3 q3 q0 qj ww qe q6 wd wc) (Ldiv z3 q3 q0 qj ww qe q6 wd wc fuel) 6 193 1 fuel) (hX Pr 193 1 (Sdiv_0 qc6 qa8 qa9 qa3 qao qaw qa7 qb4 qa2 qa5 qa1 qap pu qb3 qos qoy pf pg p5 p4)) n' s K) K qc6 qa8 qa9 qa3 qao qaw qa7 qb4 qa2 qa5 qa1 qap pu qb3 pf pg p5 p4 qos qoy qgp qhy).trans
    (congrArg (fun kn => gdiv_l0_step z3 q3 q0 qj ww qe q6 wd wc fuel kn _ qc6 qa8 qa9 qa3 qao qaw qa7 qb4 qa2 qa5 qa1 qap pu qb3 pf pg p5 p4 qgp qhy) (funext fun qgp => funext fun qhy => gdiv_l0_ok z3 q3 q0 qj ww qe q6 wd wc fuel K qc6 qa8 qa9 qa3 qao qaw qa7 qb4 qa2 qa5 qa1 qap pu qb3 pf pg p5 p4 qos qoy n' qgp qhy))
theorem gdiv_L0 (z3 q3 : Mo) (q0 qj : Mo) (ww qe : Mo) (q6 wd wc : Mo) (fuel : Nat) : LX Pr (Gdiv z3 q3 q0 qj ww qe q6 wd wc) (Ldiv z3 q3 q0 qj ww qe q6 wd wc fuel) 6 193 1 fuel := by
  refine .of Tdiv_0 (Fdiv_0 z3 q3 q0 qj ww qe q6 wd wc fuel) (fun L h => ?_) (fun ps st K r he hr => ?_)
  · have e : (Ldiv z3 q3 q0 qj ww qe q6 wd wc fuel).get (writes (lp Pr 193 1).1) = some (lam Tdiv_0 (Fdiv_0 z3 q3 q0 qj ww qe q6 wd wc fuel)) := by kernel_rfl
    exact (Option.some.inj (e.symm.trans h)).symm
  · unfold Fdiv_0 at hr
    split at hr
    · obtain rfl := (Option.some.inj he).symm
      exact (gdiv_l0_ok z3 q3 q0 qj ww qe q6 wd wc fuel K _ _ _ _ _ _ _ _ _ _ _ _ _ _ _ _ _ _ _ _ fuel _ _).trans hr
    · cases hr
theorem gdiv_l1_eq (z3 q3 : Mo) (q0 qj : Mo) (ww qe : Mo) (q6 wd wc : Mo) (fuel : Nat) (kn : St → Option AV) (K : Ex → St → Option AV) (qdb : Int) (qa4 qby : Nat) (p6 : Ge) (p0 qav qbr : Nat) (qc3 : Int) (qbl qbk qb1 : Nat) (qbn qae : Int) (qaj qcd : Int) (qd6 qfs : List AV) (qfu : List (List AV)) (qor qoo qov : Int) (qlm : List (List AV)) (qg9 qhg qei : Int) (qd0 : List (List AV)) :
    bX Pr (Gdiv z3 q3 q0 qj ww qe q6 wd wc) (Ldiv z3 q3 q0 qj ww qe q6 wd wc fuel) 6 193 2 fuel (Sdiv_1 qdb qa4 qby p6 p0 qav qbr qc3 qbl qbk qb1 qbn qae qaj qcd qg9 qhg qei qd6 qd0 qfs qfu) (fun e s => match e with | .normal => kn (hX Pr 193 2 (Sdiv_1 qdb qa4 qby p6 p0 qav qbr qc3 qbl qbk qb1 qbn qae qaj qcd qor qoo qov qd6 qlm qfs qfu) s) | e => K e s) =
    gdiv_l1_step z3 q3 q0 qj ww qe q6 wd wc fuel (fun qg9 qhg qei qd0 => kn (Sdiv_1 qdb qa4 qby p6 p0 qav qbr qc3 qbl qbk qb1 qbn qae qaj qcd qg9 qhg qei qd6 qd0 qfs qfu)) (fun qek qec qea qef qcf qci qca qgf qcb qcg qch qeb qcn qgb qgo qg5 qju v1 v0 qc4 qb5 => K (Ex.exit 4) (Xdiv_1_0 qek qec qea qef qcf qci qca qgf qcb qcg qch qeb qcn qgb qgo qg5 qju v1 v0 qc4 qb5)) qdb qa4 qby p6 p0 qav qbr qc3 qbl qbk qb1 qbn qae qaj qcd qd6 qfs qfu qg9 qhg qei qd0 := by kernel_rfl
theorem gdiv_l1_ok (z3 q3 : Mo) (q0 qj : Mo) (ww qe : Mo) (q6 wd wc : Mo) (fuel : Nat) (K : Ex → St → Option AV) (qdb : Int) (qa4 qby : Nat) (p6 : Ge) (p0 qav qbr : Nat) (qc3 : Int) (qbl qbk qb1 : Nat) (qbn qae : Int) (qaj qcd : Int) (qd6 qfs : List AV) (qfu : List (List AV)) (qor qoo qov : Int) (qlm : List (List AV)) : ∀ (n' : Nat) (qg9 qhg qei : Int) (qd0 : List (List AV)),
    loopK (bX Pr (Gdiv z3 q3 q0 qj ww qe q6 wd wc) (Ldiv z3 q3 q0 qj ww qe q6 wd wc fuel) 6 193 2 fuel) (hX Pr 193 2 (Sdiv_1 qdb qa4 qby p6 p0 qav qbr qc3 qbl qbk qb1 qbn qae qaj qcd qor qoo qov qd6 qlm qfs qfu)) n' (Sdiv_1 qdb qa4 qby p6 p0 qav qbr qc3 qbl qbk qb1 qbn qae qaj qcd qg9 qhg qei qd6 qd0 qfs qfu) K = gdiv_l1 z3 q3 q0 qj ww qe q6 wd wc fuel (fun qek qec qea qef qcf qci qca qgf qcb qcg qch qeb qcn qgb qgo qg5 qju v1 v0 qc4 qb5 => K (Ex.exit 4) (Xdiv_1_0 qek qec qea qef qcf qci qca qgf qcb qcg qch qeb qcn qgb qgo qg5 qju v1 v0 qc4 qb5)) qdb qa4 qby p6 p0 qav qbr qc3 qbl qbk qb1 qbn qae qaj qcd qd6 qfs qfu n' qg9 qhg qei qd0
  | 0,_,_,_,_ => rfl
  | n' + 1,qg9,qhg,qei,qd0 => (gdiv_l1_eq z3 q3 q0 qj ww qe q6 wd wc fuel (fun s => loopK (bX Pr (Gdiv z3 q3 q0 qj ww qe q6 wd wc) (Ldiv z3 q3 q0 qj ww qe q6 wd wc fuel) 6 193 2 fuel) (hX Pr 193 2 (Sdiv_1 qdb qa4 qby p6 p0 qav qbr qc3 qbl qbk qb1 qbn qae qaj qcd qor qoo qov qd6 qlm qfs qfu)) n' s K) K qdb qa4 qby p6 p0 qav qbr qc3 qbl qbk qb1 qbn qae qaj qcd qd6 qfs qfu qor qoo qov qlm qg9 qhg qei qd0).trans
    (congrArg (fun kn => gdiv_l1_step z3 q3 q0 qj ww qe q6 wd wc fuel kn _ qdb qa4 qby p6 p0 qav qbr qc3 qbl qbk qb1 qbn qae qaj qcd qd6 qfs qfu qg9 qhg qei qd0) (funext fun qg9 => funext fun qhg => funext fun qei => funext fun qd0 => gdiv_l1_ok z3 q3 q0 qj ww qe q6 wd wc fuel K qdb qa4 qby p6 p0 qav qbr qc3 qbl qbk qb1 qbn qae qaj qcd qd6 qfs qfu qor qoo qov qlm n' qg9 qhg qei qd0))
theorem gdiv_L1 (z3 q3 : Mo) (q0 qj : Mo) (ww qe : Mo) (q6 wd wc : Mo) (fuel : Nat) : LX Pr (Gdiv z3 q3 q0 qj ww qe q6 wd wc) (Ldiv z3 q3 q0 qj ww qe q6 wd wc fuel) 6 193 2 fuel := by
  refine .of Tdiv_1 (Fdiv_1 z3 q3 q0 qj ww qe q6 wd wc fuel) (fun L h => ?_) (fun ps st K r he hr => ?_)
  · have e : (Ldiv z3 q3 q0 qj ww qe q6 wd wc fuel).get (writes (lp Pr 193 2).1) = some (lam Tdiv_1 (Fdiv_1 z3 q3 q0 qj ww qe q6 wd wc fuel)) := by kernel_rfl
    exact (Option.some.inj (e.symm.trans h)).symm
  · unfold Fdiv_1 at hr
    split at hr
    · obtain rfl := (Option.some.inj he).symm
      exact (gdiv_l1_ok z3 q3 q0 qj ww qe q6 wd wc fuel K _ _ _ _ _ _ _ _ _ _ _ _ _ _ _ _ _ _ _ _ _ _ fuel _ _ _ _).trans hr
    · cases hr
theorem gdiv_l2_eq (z3 q3 : Mo) (q0 qj : Mo) (ww qe : Mo) (q6 wd wc : Mo) (fuel : Nat) (kn : St → Option AV) (K : Ex → St → Option AV) (qdi : Int) (qa6 qbo : Nat) (qai : Ge) (p2 qau qbw : Nat) (qc7 : Int) (qbv qbt qbx : Nat) (qbs qaf : Int) (qak qda : Int) (qd2 qft : List AV) (qfx : List (List AV)) (qj0 qoj : Int) (qli : List (List AV)) (qcx qem : Int) (qd4 : List (List AV)) :
    bX Pr (Gdiv z3 q3 q0 qj ww qe q6 wd wc) (Ldiv z3 q3 q0 qj ww qe q6 wd wc fuel) 6 193 3 fuel (Sdiv_2 qdi qa6 qbo qai p2 qau qbw qc7 qbv qbt qbx qbs qaf qak qda qcx qem qd2 qd4 qft qfx) (fun e s => match e with | .normal => kn (hX Pr 193 3 (Sdiv_2 qdi qa6 qbo qai p2 qau qbw qc7 qbv qbt qbx qbs qaf qak qda qj0 qoj qd2 qli qft qfx) s) | e => K e s) =
    gdiv_l2_step z3 q3 q0 qj ww qe q6 wd wc fuel (fun qcx qem qd4 => kn (Sdiv_2 qdi qa6 qbo qai p2 qau qbw qc7 qbv qbt qbx qbs qaf qak qda qcx qem qd2 qd4 qft qfx)) (fun qek qec qea qef qcf qci qca qgf qcb qcg qch qeb qcn qgb qgo qg5 v1 v0 qc4 qb5 => K (Ex.exit 6) (Xdiv_2_0 qek qec qea qef qcf qci qca qgf qcb qcg qch qeb qcn qgb qgo qg5 v1 v0 qc4 qb5)) qdi qa6 qbo qai p2 qau qbw qc7 qbv qbt qbx qbs qaf qak qda qd2 qft qfx qcx qem qd4 := by kernel_rfl
theorem gdiv_l2_ok (z3 q3 : Mo) (q0 qj : Mo) (ww qe : Mo) (q6 wd wc : Mo) (fuel : Nat) (K : Ex → St → Option AV) (qdi : Int) (qa6 qbo : Nat) (qai : Ge) (p2 qau qbw : Nat) (qc7 : Int) (qbv qbt qbx : Nat) (qbs qaf : Int) (qak qda : Int) (qd2 qft : List AV) (qfx : List (List AV)) (qj0 qoj : Int) (qli : List (List AV)) : ∀ (n' : Nat) (qcx qem : Int) (qd4 : List (List AV)),
    loopK (bX Pr (Gdiv z3 q3 q0 qj ww qe q6 wd wc) (Ldiv z3 q3 q0 qj ww qe q6 wd wc fuel) 6 193 3 fuel) (hX Pr 193 3 (Sdiv_2 qdi qa6 qbo qai p2 qau qbw qc7 qbv qbt qbx qbs qaf qak qda qj0 qoj qd2 qli qft qfx)) n' (Sdiv_2 qdi qa6 qbo qai p2 qau qbw qc7 qbv qbt qbx qbs qaf qak qda qcx qem qd2 qd4 qft qfx) K = gdiv_l2 z3 q3 q0 qj ww qe q6 wd wc fuel (fun qek qec qea qef qcf qci qca qgf qcb qcg qch qeb qcn qgb qgo qg5 v1 v0 qc4 qb5 => K (Ex.exit 6) (Xdiv_2_0 qek qec qea qef qcf qci qca qgf qcb qcg qch qeb qcn qgb qgo qg5 v1 v0 qc4 qb5)) qdi qa6 qbo qai p2 qau qbw qc7 qbv qbt qbx qbs qaf qak qda qd2 qft qfx n' qcx qem qd4
  | 0,_,_,_ => rfl
  | n' + 1,qcx,qem,qd4 => (gdiv_l2_eq z3 q3 q0 qj ww qe q6 wd wc fuel (fun s => loopK (bX Pr (Gdiv z3 q3 q0 qj ww qe q6 wd wc) (Ldiv z3 q3 q0 qj ww qe q6 wd wc fuel) 6 193 3 fuel) (hX Pr 193 3 (Sdiv_2 qdi qa6 qbo qai p2 qau qbw qc7 qbv qbt qbx qbs qaf qak qda qj0 qoj qd2 qli qft qfx)) n' s K) K qdi qa6 qbo qai p2 qau qbw qc7 qbv qbt qbx qbs qaf qak qda qd2 qft qfx qj0 qoj qli qcx qem qd4).trans
    (congrArg (fun kn => gdiv_l2_step z3 q3 q0 qj ww qe q6 wd wc fuel kn _ qdi qa6 qbo qai p2 qau qbw qc7 qbv qbt qbx qbs qaf qak qda qd2 qft qfx qcx qem qd4) (funext fun qcx => funext fun qem => funext fun qd4 => gdiv_l2_ok z3 q3 q0 qj ww qe q6 wd wc fuel K qdi qa6 qbo qai p2 qau qbw qc7 qbv qbt qbx qbs qaf qak qda qd2 qft qfx qj0 qoj qli n' qcx qem qd4))
theorem gdiv_L2 (z3 q3 : Mo) (q0 qj : Mo) (ww qe : Mo) (q6 wd wc : Mo) (fuel : Nat) : LX Pr (Gdiv z3 q3 q0 qj ww qe q6 wd wc) (Ldiv z3 q3 q0 qj ww qe q6 wd wc fuel) 6 193 3 fuel := by
  refine .of Tdiv_2 (Fdiv_2 z3 q3 q0 qj ww qe q6 wd wc fuel) (fun L h => ?_) (fun ps st K r he hr => ?_)
  · have e : (Ldiv z3 q3 q0 qj ww qe q6 wd wc fuel).get (writes (lp Pr 193 3).1) = some (lam Tdiv_2 (Fdiv_2 z3 q3 q0 qj ww qe q6 wd wc fuel)) := by kernel_rfl
    exact (Option.some.inj (e.symm.trans h)).symm
  · unfold Fdiv_2 at hr
    split at hr
    · obtain rfl := (Option.some.inj he).symm
      exact (gdiv_l2_ok z3 q3 q0 qj ww qe q6 wd wc fuel K _ _ _ _ _ _ _ _ _ _ _ _ _ _ _ _ _ _ _ _ _ fuel _ _ _).trans hr
    · cases hr
theorem gdiv_l3_eq (z3 q3 : Mo) (q0 qj : Mo) (ww qe : Mo) (q6 wd wc : Mo) (fuel : Nat) (kn : St → Option AV) (K : Ex → St → Option AV) (qom : Int) (qld qkv : Nat) (qk2 : Ge) (qla qk5 qku : Nat) (qoh : Int) (qlg qks qk6 : Nat) (qkt qjz qoe : Int) (qlp : List AV) (pj : List (List AV)) (qkr : List AV) (qil : List (List AV)) (qh8 : Int) (qf6 qf4 : Nat) (qf5 : Ge) (qdy qey qfw : Nat) (qf8 : Int) (qfy qfr qf0 : Nat) (qer qdw qf2 : Int) (h0z : List AV) (h0e : List (List AV)) (h1z : List AV) (h1e : List (List AV)) :
    bX Pr (Gdiv z3 q3 q0 qj ww qe q6 wd wc) (Ldiv z3 q3 q0 qj ww qe q6 wd wc fuel) 6 193 0 fuel (Sdiv_3 qh8 qf6 qf4 qf5 qdy qey qfw qf8 qfy qfr qf0 qer qdw qf2 h0z h0e h1z h1e) (fun e s => match e with | .normal => kn (hX Pr 193 0 (Sdiv_3 qom qld qkv qk2 qla qk5 qku qoh qlg qks qk6 qkt qjz qoe qlp pj qkr qil) s) | e => K e s) =
    gdiv_l3_step z3 q3 q0 qj ww qe q6 wd wc fuel (fun qh8 qf6 qf4 qf5 qdy qey qfw qf8 qfy qfr qf0 qer qdw qf2 h0z h0e h1z h1e => kn (Sdiv_3 qh8 qf6 qf4 qf5 qdy qey qfw qf8 qfy qfr qf0 qer qdw qf2 h0z h0e h1z h1e)) (fun qek qcf qci qca qcb qcg qch v1 v0 qc4 qb5 => K (Ex.exit 0) (Xdiv_3_0 qek qcf qci qca qcb qcg qch v1 v0 qc4 qb5)) qh8 qf6 qf4 qf5 qdy qey qfw qf8 qfy qfr qf0 qer qdw qf2 h0z h0e h1z h1e := by kernel_rfl
theorem gdiv_l3_ok (z3 q3 : Mo) (q0 qj : Mo) (ww qe : Mo) (q6 wd wc : Mo) (fuel : Nat) (K : Ex → St → Option AV) (qom : Int) (qld qkv : Nat) (qk2 : Ge) (qla qk5 qku : Nat) (qoh : Int) (qlg qks qk6 : Nat) (qkt qjz qoe : Int) (qlp : List AV) (pj : List (List AV)) (qkr : List AV) (qil : List (List AV)) : ∀ (n' : Nat) (qh8 : Int) (qf6 qf4 : Nat) (qf5 : Ge) (qdy qey qfw : Nat) (qf8 : Int) (qfy qfr qf0 : Nat) (qer qdw qf2 : Int) (h0z : List AV) (h0e : List (List AV)) (h1z : List AV) (h1e : List (List AV)),
    loopK (bX Pr (Gdiv z3 q3 q0 qj ww qe q6 wd wc) (Ldiv z3 q3 q0 qj ww qe q6 wd wc fuel) 6 193 0 fuel) (hX Pr 193 0 (Sdiv_3 qom qld qkv qk2 qla qk5 qku qoh qlg qks qk6 qkt qjz qoe qlp pj qkr qil)) n' (Sdiv_3 qh8 qf6 qf4 qf5 qdy qey qfw qf8 qfy qfr qf0 qer qdw qf2 h0z h0e h1z h1e) K = gdiv_l3 z3 q3 q0 qj ww qe q6 wd wc fuel (fun qek qcf qci qca qcb qcg qch v1 v0 qc4 qb5 => K (Ex.exit 0) (Xdiv_3_0 qek qcf qci qca qcb qcg qch v1 v0 qc4 qb5)) n' qh8 qf6 qf4 qf5 qdy qey qfw qf8 qfy qfr qf0 qer qdw qf2 h0z h0e h1z h1e
  | 0,_,_,_,_,_,_,_,_,_,_,_,_,_,_,_,_,_,_ => rfl
  | n' + 1,qh8,qf6,qf4,qf5,qdy,qey,qfw,qf8,qfy,qfr,qf0,qer,qdw,qf2,h0z,h0e,h1z,h1e => (gdiv_l3_eq z3 q3 q0 qj ww qe q6 wd wc fuel (fun s => loopK (bX Pr (Gdiv z3 q3 q0 qj ww qe q6 wd wc) (Ldiv z3 q3 q0 qj ww qe q6 wd wc fuel) 6 193 0 fuel) (hX Pr 193 0 (Sdiv_3 qom qld qkv qk2 qla qk5 qku qoh qlg qks qk6 qkt qjz qoe qlp pj qkr qil)) n' s K) K qom qld qkv qk2 qla qk5 qku qoh qlg qks qk6 qkt qjz qoe qlp pj qkr qil qh8 qf6 qf4 qf5 qdy qey qfw qf8 qfy qfr qf0 qer qdw qf2 h0z h0e h1z h1e).trans
    (congrArg (fun kn => gdiv_l3_step z3 q3 q0 qj ww qe q6 wd wc fuel kn _ qh8 qf6 qf4 qf5 qdy qey qfw qf8 qfy qfr qf0 qer qdw qf2 h0z h0e h1z h1e) (funext fun qh8 => funext fun qf6 => funext fun qf4 => funext fun qf5 => funext fun qdy => funext fun qey => funext fun qfw => funext fun qf8 => funext fun qfy => funext fun qfr => funext fun qf0 => funext fun qer => funext fun qdw => funext fun qf2 => funext fun h0z => funext fun h0e => funext fun h1z => funext fun h1e => gdiv_l3_ok z3 q3 q0 qj ww qe q6 wd wc fuel K qom qld qkv qk2 qla qk5 qku qoh qlg qks qk6 qkt qjz qoe qlp pj qkr qil n' qh8 qf6 qf4 qf5 qdy qey qfw qf8 qfy qfr qf0 qer qdw qf2 h0z h0e h1z h1e))
termination_by structural k => k
theorem gdiv_L3 (z3 q3 : Mo) (q0 qj : Mo) (ww qe : Mo) (q6 wd wc : Mo) (fuel : Nat) : LX Pr (Gdiv z3 q3 q0 qj ww qe q6 wd wc) (Ldiv z3 q3 q0 qj ww qe q6 wd wc fuel) 6 193 0 fuel := by
  refine .of Tdiv_3 (Fdiv_3 z3 q3 q0 qj ww qe q6 wd wc fuel) (fun L h => ?_) (fun ps st K r he hr => ?_)
  · have e : (Ldiv z3 q3 q0 qj ww qe q6 wd wc fuel).get (writes (lp Pr 193 0).1) = some (lam Tdiv_3 (Fdiv_3 z3 q3 q0 qj ww qe q6 wd wc fuel)) := by kernel_rfl
    exact (Option.some.inj (e.symm.trans h)).symm
  · unfold Fdiv_3 at hr
    split at hr
    · obtain rfl := (Option.some.inj he).symm
      exact (gdiv_l3_ok z3 q3 q0 qj ww qe q6 wd wc fuel K _ _ _ _ _ _ _ _ _ _ _ _ _ _ _ _ _ _ fuel _ _ _ _ _ _ _ _ _ _ _ _ _ _ _ _ _ _).trans hr
    · cases hr
noncomputable def gdiv (z3 q3 : Mo) (q0 qj : Mo) (ww qe : Mo) (q6 wd wc : Mo) (fuel zn vq : Nat) (vh : Ge) (ym pp : Nat) (pi : Ge) : Option AV :=
  bif (↑ym : Int) == 0 then some (AV.tup [AV.ro 1 0 0 fun (x j : Nat) => [AV.int .u32 0].getD j AV.dead,AV.ro 1 0 0 fun (x j : Nat) => [AV.int .u32 0].getD j AV.dead])
  else ck (okM [RS.one (LK.i .i64)] (z3 [AV.ro 1 zn vq vh,AV.ro 1 ym pp pi])) <| bif decide (toI (getV (z3 [AV.ro 1 zn vq vh,AV.ro 1 ym pp pi])) < 0) then let r0 : Option AV := q3 [AV.ro 1 zn vq vh]; ck (okM [RS.one (LK.l 1)] r0) <| some (AV.tup [AV.ro 1 0 0 fun (x j : Nat) => [AV.int .u32 0].getD j AV.dead,AV.ro 1 (toN (getV r0)) (toR (getV r0)) (toG (getV r0))])
  else bif decide ((↑zn : Int) ≤ 2) then ck (okM [RS.one (LK.i .u64)] (q0 [AV.ro 1 zn vq vh])) <| ck (okM [RS.one (LK.i .u64)] (q0 [AV.ro 1 ym pp pi])) <| ck (!decide (toI (getV (q0 [AV.ro 1 ym pp pi])) = 0)) <| let r1 : Option AV := qj [AV.int .u64 (IntKind.u64.wrap ((toI (getV (q0 [AV.ro 1 zn vq vh]))).tdiv (toI (getV (q0 [AV.ro 1 ym pp pi])))))]; ck (okM [RS.one (LK.l 1)] r1) <| ck (!decide (toI (getV (q0 [AV.ro 1 ym pp pi])) = 0)) <| let r2 : Option AV := qj [AV.int .u64 ((toI (getV (q0 [AV.ro 1 zn vq vh]))).tmod (toI (getV (q0 [AV.ro 1 ym pp pi]))))]; ck (okM [RS.one (LK.l 1)] r2) <| some (AV.tup [AV.ro 1 (toN (getV r1)) (toR (getV r1)) (toG (getV r1)),AV.ro 1 (toN (getV r2)) (toR (getV r2)) (toG (getV r2))])
  else bif (↑ym : Int) == 1 then ck (decide (0 < (↑ym : Int))) <| ck (fitK (LK.i .u32) (pi 0 0)) <| let r3 : Option AV := ww [AV.ro 1 zn vq vh,AV.int .u32 (toI (pi 0 0))]; ck (okM [RS.one (LK.l 1),RS.one (LK.i .u32)] r3) <| let r4 : Option AV := qe [AV.ro 1 1 1 fun (i j : Nat) => ([[AV.int .u32 (toI ((toT (getV r3)).tail.headD .dead))]].getD i []).getD j AV.dead]; ck (okM [RS.one (LK.l 1)] r4) <| some (AV.tup [AV.ro 1 (toN ((toT (getV r3)).headD .dead)) (toR ((toT (getV r3)).headD .dead)) (toG ((toT (getV r3)).headD .dead)),AV.ro 1 (toN (getV r4)) (toR (getV r4)) (toG (getV r4))])
  else ck (okM [RS.one (LK.i .i64)] (q6 [AV.ro 1 ym pp pi])) <| let r5 : Option AV := wd [AV.ro 1 ym pp pi,AV.int .u64 (IntKind.u64.wrap (IntKind.i64.wrap (IntKind.i64.wrap (32 - (IntKind.i64.wrap (toI (getV (q6 [AV.ro 1 ym pp pi])) - 1)).tmod 32) - 1)))]; ck (okM [RS.one (LK.l 1)] r5) <| ck (decide (0 ≤ IntKind.i64.wrap ((↑zn : Int) + 2))) <| ck (decide (IntKind.i64.wrap ((↑zn : Int) + 2) ≤ IntKind.i64.wrap ((↑zn : Int) + 2))) <| ck ((4 * (IntKind.i64.wrap ((↑zn : Int) + 2)).toNat).ble 281474976710656) <| ck (((IntKind.i64.wrap ((↑zn : Int) + 2)).toNat + 1).ble 4611686018427387904) <| let r6 : Option AV := wd [AV.ro 1 zn vq vh,AV.int .u64 (IntKind.u64.wrap (IntKind.i64.wrap (IntKind.i64.wrap (32 - (IntKind.i64.wrap (toI (getV (q6 [AV.ro 1 ym pp pi])) - 1)).tmod 32) - 1)))]; ck (okM [RS.one (LK.l 1)] r6) <| ck (decide (0 ≤ IntKind.i64.wrap (IntKind.i64.wrap (IntKind.i64.wrap ((↑(IntKind.i64.wrap ((↑zn : Int) + 2)).toNat : Int) - (↑(toN (getV r5)) : Int)) - 1) + 1))) <| ck (decide (IntKind.i64.wrap (IntKind.i64.wrap (IntKind.i64.wrap ((↑(IntKind.i64.wrap ((↑zn : Int) + 2)).toNat : Int) - (↑(toN (getV r5)) : Int)) - 1) + 1) ≤ IntKind.i64.wrap (IntKind.i64.wrap (IntKind.i64.wrap ((↑(IntKind.i64.wrap ((↑zn : Int) + 2)).toNat : Int) - (↑(toN (getV r5)) : Int)) - 1) + 1))) <| ck ((4 * (IntKind.i64.wrap (IntKind.i64.wrap (IntKind.i64.wrap ((↑(IntKind.i64.wrap ((↑zn : Int) + 2)).toNat : Int) - (↑(toN (getV r5)) : Int)) - 1) + 1)).toNat).ble 281474976710656) <| ck (((IntKind.i64.wrap (IntKind.i64.wrap (IntKind.i64.wrap ((↑(IntKind.i64.wrap ((↑zn : Int) + 2)).toNat : Int) - (↑(toN (getV r5)) : Int)) - 1) + 1)).toNat + 1).ble 4611686018427387904) <| ck (decide (0 ≤ IntKind.i64.wrap ((↑(toN (getV r5)) : Int) - 1))) <| ck (decide (IntKind.i64.wrap ((↑(toN (getV r5)) : Int) - 1) < (↑(toN (getV r5)) : Int))) <| ck (fitK (LK.i .u32) (toG (getV r5) (IntKind.i64.wrap ((↑(toN (getV r5)) : Int) - 1)).toNat 0)) <| ck (decide (0 ≤ IntKind.i64.wrap ((↑(toN (getV r5)) : Int) - 2))) <| ck (decide (IntKind.i64.wrap ((↑(toN (getV r5)) : Int) - 2) < (↑(toN (getV r5)) : Int))) <| ck (fitK (LK.i .u32) (toG (getV r5) (IntKind.i64.wrap ((↑(toN (getV r5)) : Int) - 2)).toNat 0)) <| gdiv_l3 z3 q3 q0 qj ww qe q6 wd wc fuel
    (fun (qtw : Int) (qtn qto : Nat) (qtr qtj : Nat) (qtk qti : Nat) (qnq : List AV) (qmi : List (List AV)) (qmk : List AV) (qmo : List (List AV)) => let r7 : Option AV := qe [AV.ro 1 qtk qti fun (i j : Nat) => (qmo.getD (qtj + i) qmk).getD j AV.dead]; ck (okM [RS.one (LK.l 1)] r7) <| let r8 : Option AV := qe [AV.ro 1 qto qtr fun (i j : Nat) => (qmi.getD (qtn + i) qnq).getD j AV.dead]; ck (okM [RS.one (LK.l 1)] r8) <| let r9 : Option AV := wc [AV.ro 1 (toN (getV r8)) (toR (getV r8)) (toG (getV r8)),AV.int .u64 qtw]; ck (okM [RS.one (LK.l 1)] r9) <| some (AV.tup [AV.ro 1 (toN (getV r7)) (toR (getV r7)) (toG (getV r7)),AV.ro 1 (toN (getV r9)) (toR (getV r9)) (toG (getV r9))])) fuel (IntKind.u64.wrap (IntKind.i64.wrap (IntKind.i64.wrap (32 - (IntKind.i64.wrap (toI (getV (q6 [AV.ro 1 ym pp pi])) - 1)).tmod 32) - 1))) (toN (getV r5)) (toR (getV r5)) (toG (getV r5)) (0) ((IntKind.i64.wrap ((↑zn : Int) + 2)).toNat) ((IntKind.i64.wrap ((↑zn : Int) + 2)).toNat) ((↑(toN (getV r5)) : Int)) (0) ((IntKind.i64.wrap (IntKind.i64.wrap (IntKind.i64.wrap ((↑(IntKind.i64.wrap ((↑zn : Int) + 2)).toNat : Int) - (↑(toN (getV r5)) : Int)) - 1) + 1)).toNat) ((IntKind.i64.wrap (IntKind.i64.wrap (IntKind.i64.wrap ((↑(IntKind.i64.wrap ((↑zn : Int) + 2)).toNat : Int) - (↑(toN (getV r5)) : Int)) - 1) + 1)).toNat) (IntKind.u64.wrap (toI (toG (getV r5) (IntKind.i64.wrap ((↑(toN (getV r5)) : Int) - 1)).toNat 0))) (IntKind.u64.wrap (toI (toG (getV r5) (IntKind.i64.wrap ((↑(toN (getV r5)) : Int) - 2)).toNat 0))) (IntKind.i64.wrap (IntKind.i64.wrap ((↑(IntKind.i64.wrap ((↑zn : Int) + 2)).toNat : Int) - (↑(toN (getV r5)) : Int)) - 1)) ([AV.int .u32 0]) ([] ++ rows 1 ((toN (getV r6)).min (IntKind.i64.wrap ((↑zn : Int) + 2)).toNat) (toG (getV r6)) ++ List.drop (0 + (toN (getV r6)).min (IntKind.i64.wrap ((↑zn : Int) + 2)).toNat) (List.replicate (IntKind.i64.wrap ((↑zn : Int) + 2)).toNat [AV.int .u32 0])) ([AV.int .u32 0]) (List.replicate (IntKind.i64.wrap (IntKind.i64.wrap (IntKind.i64.wrap ((↑(IntKind.i64.wrap ((↑zn : Int) + 2)).toNat : Int) - (↑(toN (getV r5)) : Int)) - 1) + 1)).toNat [AV.int .u32 0])
noncomputable def mdiv (z3 q3 : Mo) (q0 qj : Mo) (ww qe : Mo) (q6 wd wc : Mo) (fuel : Nat) (xs : List AV) : Option AV := match xs with
  | [AV.ro 1 zn vq vh,AV.ro 1 ym pp pi] => gdiv z3 q3 q0 qj ww qe q6 wd wc fuel zn vq vh ym pp pi
  | _ => none
abbrev Rdiv : List RS := [RS.one (LK.l (nat_lit 1)),RS.one (LK.l (nat_lit 1))]
theorem gdiv_sm (z3 q3 : Mo) (q0 qj : Mo) (ww qe : Mo) (q6 wd wc : Mo) (fuel : Nat) (hΓ : GamOk Pr (Gdiv z3 q3 q0 qj ww qe q6 wd wc)) (hP : NamesOk Pr) : SmOk Pr 193 (smM Rdiv (mdiv z3 q3 q0 qj ww qe q6 wd wc fuel)) := smL (L := (Ldiv z3 q3 q0 qj ww qe q6 wd wc fuel)) (n := 4) hΓ hP (by kernel_rfl) (fun i hi => match i,hi with
  | 1,_ => gdiv_L0 z3 q3 q0 qj ww qe q6 wd wc fuel
  | 2,_ => gdiv_L1 z3 q3 q0 qj ww qe q6 wd wc fuel
  | 3,_ => gdiv_L2 z3 q3 q0 qj ww qe q6 wd wc fuel
  | 0,_ => gdiv_L3 z3 q3 q0 qj ww qe q6 wd wc fuel
  | i + 4,hi => absurd hi (by omega)) fun xs v h => by
  unfold mdiv at h
  split at h
  · exact Eq.trans (by kernel_rfl) h
  · cases h
noncomputable def Scommon_0 (qp qt : Nat) (qm : Ge) (wj wn : Nat) (wi : Ge) : St := { env := [(0,AV.ro 1 qp qt qm),(1,AV.ro 1 wj wn wi)],h := [],kd := [] }
noncomputable def Xcommon_0_0 (qb7 qd8 : Nat) (qd7 : Ge) (qje qjm : Nat) (qjd : Ge) : St := { env := [(0,AV.ro 1 qb7 qd8 qd7),(1,AV.ro 1 qje qjm qjd)],h := [],kd := [] }
noncomputable def gcommon_l0_step (v3 q0 qj : Mo) (fuel : Nat) (kn : Nat → Nat → Ge → Nat → Nat → Ge → Option AV) (kx0 : Nat → Nat → Ge → Nat → Nat → Ge → Option AV) (qp qt : Nat) (qm : Ge) (wj wn : Nat) (wi : Ge) : Option AV :=
  bif decide ((↑wj : Int) > 2) then let r0 : Option AV := v3 [AV.ro 1 qp qt qm,AV.ro 1 wj wn wi]; ck (okM [RS.one (LK.l 1),RS.one (LK.l 1)] r0) <| kn wj wn wi (toN ((toT (getV r0)).tail.headD .dead)) (toR ((toT (getV r0)).tail.headD .dead)) (toG ((toT (getV r0)).tail.headD .dead))
  else kx0 qp qt qm wj wn wi
noncomputable def gcommon_l0 (v3 q0 qj : Mo) (fuel : Nat) (kx0 : Nat → Nat → Ge → Nat → Nat → Ge → Option AV) : Nat → Nat → Nat → Ge → Nat → Nat → Ge → Option AV
  | 0,_,_,_,_,_,_ => none
  | n' + 1,qp,qt,qm,wj,wn,wi => gcommon_l0_step v3 q0 qj fuel (gcommon_l0 v3 q0 qj fuel kx0 n') kx0 qp qt qm wj wn wi
noncomputable def Tcommon_0 : TS' := ⟨[(0,TA.ro 1),(1,TA.ro 1)],[],[]⟩
noncomputable def Fcommon_0 (v3 q0 qj : Mo) (fuel : Nat) (ps : List Pay) (K : Ex → St → Option AV) : Option AV := match ps with
  | .n qp :: .n qt :: .g qm :: .n wj :: .n wn :: .g wi :: [] => gcommon_l0 v3 q0 qj fuel (fun qb7 qd8 qd7 qje qjm qjd => K (Ex.exit 0) (Xcommon_0_0 qb7 qd8 qd7 qje qjm qjd)) fuel qp qt qm wj wn wi
  | _ => none
noncomputable def Scommon_1 (ux9 qhq : Int) : St := { env := [(9,AV.int .u64 ux9),(10,AV.int .u64 qhq)],h := [],kd := [] }
noncomputable def Xcommon_1_0 (qsf : Int) : St := { env := [(9,AV.int .u64 qsf)],h := [],kd := [] }
noncomputable def gcommon_l1_step (v3 q0 qj : Mo) (fuel : Nat) (kn : Int → Int → Option AV) (kx0 : Int → Option AV) (ux9 qhq : Int) : Option AV :=
  bif decide (qhq > 0) then ck (!decide (qhq = 0)) <| kn qhq (ux9.tmod qhq)
  else kx0 ux9
noncomputable def gcommon_l1 (v3 q0 qj : Mo) (fuel : Nat) (kx0 : Int → Option AV) : Nat → Int → Int → Option AV
  | 0,_,_ => none
  | n' + 1,ux9,qhq => gcommon_l1_step v3 q0 qj fuel (gcommon_l1 v3 q0 qj fuel kx0 n') kx0 ux9 qhq
noncomputable def Tcommon_1 : TS' := ⟨[(9,TA.i .u64),(10,TA.i .u64)],[],[]⟩
noncomputable def Fcommon_1 (v3 q0 qj : Mo) (fuel : Nat) (ps : List Pay) (K : Ex → St → Option AV) : Option AV := match ps with
  | .i ux9 :: .i qhq :: [] => gcommon_l1 v3 q0 qj fuel (fun qsf => K (Ex.exit 2) (Xcommon_1_0 qsf)) fuel ux9 qhq
  | _ => none
noncomputable def Lcommon (v3 q0 qj : Mo) (fuel : Nat) : Lam AV := [(4192355,lam Tcommon_0 (Fcommon_0 v3 q0 qj fuel)),(138538465101312,lam Tcommon_1 (Fcommon_1 v3 q0 qj fuel))]
noncomputable def Gcommon (v3 q0 qj : Mo) : Gam := [(193,smM [RS.one (LK.l (nat_lit 1)),RS.one (LK.l (nat_lit 1))] v3),(228,smM [RS.one (LK.i .u64)] q0),(194,smM [RS.one (LK.l (nat_lit 1))] qj)]
theorem gcommon_l0_eq (v3 q0 qj : Mo) (fuel : Nat) (kn : St → Option AV) (K : Ex → St → Option AV) (qfg qfj : Nat) (qff : Ge) (qfe qfi : Nat) (qfh : Ge) (qp qt : Nat) (qm : Ge) (wj wn : Nat) (wi : Ge) :
    bX Pr (Gcommon v3 q0 qj) (Lcommon v3 q0 qj fuel) 6 192 0 fuel (Scommon_0 qp qt qm wj wn wi) (fun e s => match e with | .normal => kn (hX Pr 192 0 (Scommon_0 qfg qfj qff qfe qfi qfh) s) | e => K e s) =
    gcommon_l0_step v3 q0 qj fuel (fun qp qt qm wj wn wi => kn (Scommon_0 qp qt qm wj wn wi)) (fun p7 qax qay qet qgc qgm => K (Ex.exit 0) (Xcommon_0_0 p7 qax qay qet qgc qgm)) qp qt qm wj wn wi := by kernel_rfl
theorem gcommon_l0_ok (v3 q0 qj : Mo) (fuel : Nat) (K : Ex → St → Option AV) (qfg qfj : Nat) (qff : Ge) (qfe qfi : Nat) (qfh : Ge) : ∀ (n' qp qt : Nat) (qm : Ge) (wj wn : Nat) (wi : Ge),
    loopK (bX Pr (Gcommon v3 q0 qj) (Lcommon v3 q0 qj fuel) 6 192 0 fuel) (hX Pr 192 0 (Scommon_0 qfg qfj qff qfe qfi qfh)) n' (Scommon_0 qp qt qm wj wn wi) K = gcommon_l0 v3 q0 qj fuel (fun p7 qax qay qet qgc qgm => K (Ex.exit 0) (Xcommon_0_0 p7 qax qay qet qgc qgm)) n' qp qt qm wj wn wi
  | 0,_,_,_,_,_,_ => rfl
  | n' + 1,qp,qt,qm,wj,wn,wi => (gcommon_l0_eq v3 q0 qj fuel (fun s => loopK (bX Pr (Gcommon v3 q0 qj) (Lcommon v3 q0 qj fuel) 6 192 0 fuel) (hX Pr 192 0 (Scommon_0 qfg qfj qff qfe qfi qfh)) n' s K) K qfg qfj qff qfe qfi qfh qp qt qm wj wn wi).trans
    (congrArg (fun kn => gcommon_l0_step v3 q0 qj fuel kn _ qp qt qm wj wn wi) (funext fun qp => funext fun qt => funext fun qm => funext fun wj => funext fun wn => funext fun wi => gcommon_l0_ok v3 q0 qj fuel K qfg qfj qff qfe qfi qfh n' qp qt qm wj wn wi))
theorem gcommon_L0 (v3 q0 qj : Mo) (fuel : Nat) : LX Pr (Gcommon v3 q0 qj) (Lcommon v3 q0 qj fuel) 6 192 0 fuel := by
  refine .of Tcommon_0 (Fcommon_0 v3 q0 qj fuel) (fun L h => ?_) (fun ps st K r he hr => ?_)
  · have e : (Lcommon v3 q0 qj fuel).get (writes (lp Pr 192 0).1) = some (lam Tcommon_0 (Fcommon_0 v3 q0 qj fuel)) := by kernel_rfl
    exact (Option.some.inj (e.symm.trans h)).symm
  · unfold Fcommon_0 at hr
    split at hr
    · obtain rfl := (Option.some.inj he).symm
      exact (gcommon_l0_ok v3 q0 qj fuel K _ _ _ _ _ _ fuel _ _ _ _ _ _).trans hr
    · cases hr
theorem gcommon_l1_eq (v3 q0 qj : Mo) (fuel : Nat) (kn : St → Option AV) (K : Ex → St → Option AV) (qtb qoq : Int) (ux9 qhq : Int) :
    bX Pr (Gcommon v3 q0 qj) (Lcommon v3 q0 qj fuel) 6 192 1 fuel (Scommon_1 ux9 qhq) (fun e s => match e with | .normal => kn (hX Pr 192 1 (Scommon_1 qtb qoq) s) | e => K e s) =
    gcommon_l1_step v3 q0 qj fuel (fun ux9 qhq => kn (Scommon_1 ux9 qhq)) (fun qru => K (Ex.exit 2) (Xcommon_1_0 qru)) ux9 qhq := by kernel_rfl
theorem gcommon_l1_ok (v3 q0 qj : Mo) (fuel : Nat) (K : Ex → St → Option AV) (qtb qoq : Int) : ∀ (n' : Nat) (ux9 qhq : Int),
    loopK (bX Pr (Gcommon v3 q0 qj) (Lcommon v3 q0 qj fuel) 6 192 1 fuel) (hX Pr 192 1 (Scommon_1 qtb qoq)) n' (Scommon_1 ux9 qhq) K = gcommon_l1 v3 q0 qj fuel (fun qru => K (Ex.exit 2) (Xcommon_1_0 qru)) n' ux9 qhq
  | 0,_,_ => rfl
  | n' + 1,ux9,qhq => (gcommon_l1_eq v3 q0 qj fuel (fun s => loopK (bX Pr (Gcommon v3 q0 qj) (Lcommon v3 q0 qj fuel) 6 192 1 fuel) (hX Pr 192 1 (Scommon_1 qtb qoq)) n' s K) K qtb qoq ux9 qhq).trans
    (congrArg (fun kn => gcommon_l1_step v3 q0 qj fuel kn _ ux9 qhq) (funext fun ux9 => funext fun qhq => gcommon_l1_ok v3 q0 qj fuel K qtb qoq n' ux9 qhq))
theorem gcommon_L1 (v3 q0 qj : Mo) (fuel : Nat) : LX Pr (Gcommon v3 q0 qj) (Lcommon v3 q0 qj fuel) 6 192 1 fuel := by
  refine .of Tcommon_1 (Fcommon_1 v3 q0 qj fuel) (fun L h => ?_) (fun ps st K r he hr => ?_)
  · have e : (Lcommon v3 q0 qj fuel).get (writes (lp Pr 192 1).1) = some (lam Tcommon_1 (Fcommon_1 v3 q0 qj fuel)) := by kernel_rfl
    exact (Option.some.inj (e.symm.trans h)).symm
  · unfold Fcommon_1 at hr
    split at hr
    · obtain rfl := (Option.some.inj he).symm
      exact (gcommon_l1_ok v3 q0 qj fuel K _ _ fuel _ _).trans hr
    · cases hr
noncomputable def gcommon (v3 q0 qj : Mo) (fuel zn vq : Nat) (vh : Ge) (ym pp : Nat) (pi : Ge) : Option AV :=
  gcommon_l0 v3 q0 qj fuel
    (fun (p7 qax : Nat) (qay : Ge) (qet qgc : Nat) (qgm : Ge) => bif (↑qet : Int) == 0 then some (AV.ro 1 p7 qax qay)
      else bif decide ((↑p7 : Int) > 2) then let r1 : Option AV := v3 [AV.ro 1 p7 qax qay,AV.ro 1 qet qgc qgm]; ck (okM [RS.one (LK.l 1),RS.one (LK.l 1)] r1) <| ck (okM [RS.one (LK.i .u64)] (q0 [AV.ro 1 qet qgc qgm])) <| ck (okM [RS.one (LK.i .u64)] (q0 [AV.ro 1 (toN ((toT (getV r1)).tail.headD .dead)) (toR ((toT (getV r1)).tail.headD .dead)) (toG ((toT (getV r1)).tail.headD .dead))])) <| gcommon_l1 v3 q0 qj fuel
          (fun (qru : Int) => let r2 : Option AV := qj [AV.int .u64 qru]; ck (okM [RS.one (LK.l 1)] r2) <| some (AV.ro 1 (toN (getV r2)) (toR (getV r2)) (toG (getV r2)))) fuel (toI (getV (q0 [AV.ro 1 qet qgc qgm]))) (toI (getV (q0 [AV.ro 1 (toN ((toT (getV r1)).tail.headD .dead)) (toR ((toT (getV r1)).tail.headD .dead)) (toG ((toT (getV r1)).tail.headD .dead))])))
      else ck (okM [RS.one (LK.i .u64)] (q0 [AV.ro 1 p7 qax qay])) <| ck (okM [RS.one (LK.i .u64)] (q0 [AV.ro 1 qet qgc qgm])) <| gcommon_l1 v3 q0 qj fuel
        (fun (qtx : Int) => let r3 : Option AV := qj [AV.int .u64 qtx]; ck (okM [RS.one (LK.l 1)] r3) <| some (AV.ro 1 (toN (getV r3)) (toR (getV r3)) (toG (getV r3)))) fuel (toI (getV (q0 [AV.ro 1 p7 qax qay]))) (toI (getV (q0 [AV.ro 1 qet qgc qgm])))) fuel zn vq vh ym pp pi
noncomputable def mcommon (v3 q0 qj : Mo) (fuel : Nat) (xs : List AV) : Option AV := match xs with
  | [AV.ro 1 zn vq vh,AV.ro 1 ym pp pi] => gcommon v3 q0 qj fuel zn vq vh ym pp pi
  | _ => none
abbrev Rcommon : List RS := [RS.one (LK.l (nat_lit 1))]
theorem gcommon_sm (v3 q0 qj : Mo) (fuel : Nat) (hΓ : GamOk Pr (Gcommon v3 q0 qj)) (hP : NamesOk Pr) : SmOk Pr 192 (smM Rcommon (mcommon v3 q0 qj fuel)) := smL (L := (Lcommon v3 q0 qj fuel)) (n := 2) hΓ hP (by kernel_rfl) (fun i hi => match i,hi with
  | 0,_ => gcommon_L0 v3 q0 qj fuel
  | 1,_ => gcommon_L1 v3 q0 qj fuel
  | i + 2,hi => absurd hi (by omega)) fun xs v h => by
  unfold mcommon at h
  split at h
  · exact Eq.trans (by kernel_rfl) h
  · cases h
noncomputable def LRat_norm_a (qas v3 : Mo) (wu w7 : Mo) (wp wo wq : Mo) (fuel : Nat) : Lam AV := []
noncomputable def GRat_norm_a (qas v3 : Mo) (wu w7 : Mo) (wp wo wq : Mo) : Gam := [(192,smM [RS.one (LK.l (nat_lit 1))] qas),(193,smM [RS.one (LK.l (nat_lit 1)),RS.one (LK.l (nat_lit 1))] v3),(132,smX RInt_SetInt64_rb XInt_SetInt64_rb wu),(132,smX RInt_SetInt64_i XInt_SetInt64_i w7),(79,smX RInt_Neg_ra XInt_Neg_ra wp),(79,smX RInt_Neg_rb XInt_Neg_rb wo),(79,smX RInt_Neg_ii XInt_Neg_ii wq)]
noncomputable def gRat_norm_a (qas v3 : Mo) (wu w7 : Mo) (wp wo wq : Mo) (fuel : Nat) (wh : Bool) (qr qz : Nat) (qy : Ge) (z8 : Bool) (zu zz : Nat) (zw : Ge) : Option AV :=
  bif (↑zu : Int) == 0 then let r0 : Option AV := wu [AV.ptr (xidx 0 (xtoks [AV.ptr 0 2,AV.int .i64 1] [])) 2,AV.int .i64 1,AV.bool wh,AV.ro 1 qr qz qy,AV.bool z8,AV.ro 1 zu zz zw]; ck (okX [RS.one LK.b,RS.one (LK.l 1),RS.one LK.b,RS.one (LK.l 1)] r0) <| bif toB ((toT (getV r0)).tail.tail.headD .dead) then let r1 : Option AV := wp [AV.ptr (xidx 0 (xtoks [AV.ptr 0 0,AV.ptr 0 0] [])) 0,AV.ptr (xidx 0 (xtoks [AV.ptr 0 0,AV.ptr 0 0] [])) 0,AV.bool (toB ((toT (getV r0)).headD .dead)),AV.ro 1 (toN ((toT (getV r0)).tail.headD .dead)) (toR ((toT (getV r0)).tail.headD .dead)) (toG ((toT (getV r0)).tail.headD .dead)),AV.bool (toB ((toT (getV r0)).tail.tail.headD .dead)),AV.ro 1 (toN ((toT (getV r0)).tail.tail.tail.headD .dead)) (toR ((toT (getV r0)).tail.tail.tail.headD .dead)) (toG ((toT (getV r0)).tail.tail.tail.headD .dead))]; ck (okX [RS.one LK.b,RS.one (LK.l 1),RS.one LK.b,RS.one (LK.l 1)] r1) <| let r2 : Option AV := wo [AV.ptr (xidx 0 (xtoks [AV.ptr 0 2,AV.ptr 0 2] [])) 2,AV.ptr (xidx 0 (xtoks [AV.ptr 0 2,AV.ptr 0 2] [])) 2,AV.bool (toB ((toT (getV r1)).headD .dead)),AV.ro 1 (toN ((toT (getV r1)).tail.headD .dead)) (toR ((toT (getV r1)).tail.headD .dead)) (toG ((toT (getV r1)).tail.headD .dead)),AV.bool (toB ((toT (getV r1)).tail.tail.headD .dead)),AV.ro 1 (toN ((toT (getV r1)).tail.tail.tail.headD .dead)) (toR ((toT (getV r1)).tail.tail.tail.headD .dead)) (toG ((toT (getV r1)).tail.tail.tail.headD .dead))]; ck (okX [RS.one LK.b,RS.one (LK.l 1),RS.one LK.b,RS.one (LK.l 1)] r2) <| bif (↑(toN ((toT (getV r2)).tail.headD .dead)) : Int) == 0 then let r3 : Option AV := wu [AV.ptr (xidx 0 (xtoks [AV.ptr 0 2,AV.int .i64 1] [])) 2,AV.int .i64 1,AV.bool (toB ((toT (getV r2)).headD .dead)),AV.ro 1 (toN ((toT (getV r2)).tail.headD .dead)) (toR ((toT (getV r2)).tail.headD .dead)) (toG ((toT (getV r2)).tail.headD .dead)),AV.bool (toB ((toT (getV r2)).tail.tail.headD .dead)),AV.ro 1 (toN ((toT (getV r2)).tail.tail.tail.headD .dead)) (toR ((toT (getV r2)).tail.tail.tail.headD .dead)) (toG ((toT (getV r2)).tail.tail.tail.headD .dead))]; ck (okX [RS.one LK.b,RS.one (LK.l 1),RS.one LK.b,RS.one (LK.l 1)] r3) <| some (AV.tup [AV.bool (toB ((toT (getV r3)).headD .dead)),AV.ro 1 (toN ((toT (getV r3)).tail.headD .dead)) (toR ((toT (getV r3)).tail.headD .dead)) (toG ((toT (getV r3)).tail.headD .dead)),AV.bool (toB ((toT (getV r3)).tail.tail.headD .dead)),AV.ro 1 (toN ((toT (getV r3)).tail.tail.tail.headD .dead)) (toR ((toT (getV r3)).tail.tail.tail.headD .dead)) (toG ((toT (getV r3)).tail.tail.tail.headD .dead))])
      else ck (bif (↑(toN ((toT (getV r2)).tail.tail.tail.headD .dead)) : Int) == 1 then true else true) <| ck (bif (↑(toN ((toT (getV r2)).tail.tail.tail.headD .dead)) : Int) == 1 then true else true) <| ck (bif (↑(toN ((toT (getV r2)).tail.tail.tail.headD .dead)) : Int) == 1 then decide (0 < (↑(toN ((toT (getV r2)).tail.tail.tail.headD .dead)) : Int)) else true) <| ck (bif (↑(toN ((toT (getV r2)).tail.tail.tail.headD .dead)) : Int) == 1 then true else true) <| ck (bif (↑(toN ((toT (getV r2)).tail.tail.tail.headD .dead)) : Int) == 1 then fitK (LK.i .u32) (toG ((toT (getV r2)).tail.tail.tail.headD .dead) 0 0) else true) <| bif bif (↑(toN ((toT (getV r2)).tail.tail.tail.headD .dead)) : Int) == 1 then toI (toG ((toT (getV r2)).tail.tail.tail.headD .dead) 0 0) == 1 else false then some (AV.tup [AV.bool (toB ((toT (getV r2)).headD .dead)),AV.ro 1 (toN ((toT (getV r2)).tail.headD .dead)) (toR ((toT (getV r2)).tail.headD .dead)) (toG ((toT (getV r2)).tail.headD .dead)),AV.bool (toB ((toT (getV r2)).tail.tail.headD .dead)),AV.ro 1 (toN ((toT (getV r2)).tail.tail.tail.headD .dead)) (toR ((toT (getV r2)).tail.tail.tail.headD .dead)) (toG ((toT (getV r2)).tail.tail.tail.headD .dead))])
      else let r4 : Option AV := qas [AV.ro 1 (toN ((toT (getV r2)).tail.headD .dead)) (toR ((toT (getV r2)).tail.headD .dead)) (toG ((toT (getV r2)).tail.headD .dead)),AV.ro 1 (toN ((toT (getV r2)).tail.tail.tail.headD .dead)) (toR ((toT (getV r2)).tail.tail.tail.headD .dead)) (toG ((toT (getV r2)).tail.tail.tail.headD .dead))]; ck (okM [RS.one (LK.l 1)] r4) <| ck (bif (↑(toN (getV r4)) : Int) == 1 then true else true) <| ck (bif (↑(toN (getV r4)) : Int) == 1 then decide (0 < (↑(toN (getV r4)) : Int)) else true) <| ck (bif (↑(toN (getV r4)) : Int) == 1 then true else true) <| ck (bif (↑(toN (getV r4)) : Int) == 1 then fitK (LK.i .u32) (toG (getV r4) 0 0) else true) <| bif bif (↑(toN (getV r4)) : Int) == 1 then toI (toG (getV r4) 0 0) == 1 else false then some (AV.tup [AV.bool (toB ((toT (getV r2)).headD .dead)),AV.ro 1 (toN ((toT (getV r2)).tail.headD .dead)) (toR ((toT (getV r2)).tail.headD .dead)) (toG ((toT (getV r2)).tail.headD .dead)),AV.bool (toB ((toT (getV r2)).tail.tail.headD .dead)),AV.ro 1 (toN ((toT (getV r2)).tail.tail.tail.headD .dead)) (toR ((toT (getV r2)).tail.tail.tail.headD .dead)) (toG ((toT (getV r2)).tail.tail.tail.headD .dead))])
      else let r5 : Option AV := v3 [AV.ro 1 (toN ((toT (getV r2)).tail.headD .dead)) (toR ((toT (getV r2)).tail.headD .dead)) (toG ((toT (getV r2)).tail.headD .dead)),AV.ro 1 (toN (getV r4)) (toR (getV r4)) (toG (getV r4))]; ck (okM [RS.one (LK.l 1),RS.one (LK.l 1)] r5) <| let r6 : Option AV := v3 [AV.ro 1 (toN ((toT (getV r2)).tail.tail.tail.headD .dead)) (toR ((toT (getV r2)).tail.tail.tail.headD .dead)) (toG ((toT (getV r2)).tail.tail.tail.headD .dead)),AV.ro 1 (toN (getV r4)) (toR (getV r4)) (toG (getV r4))]; ck (okM [RS.one (LK.l 1),RS.one (LK.l 1)] r6) <| some (AV.tup [AV.bool (toB ((toT (getV r2)).headD .dead)),AV.ro 1 (toN ((toT (getV r5)).headD .dead)) (toR ((toT (getV r5)).headD .dead)) (toG ((toT (getV r5)).headD .dead)),AV.bool (toB ((toT (getV r2)).tail.tail.headD .dead)),AV.ro 1 (toN ((toT (getV r6)).headD .dead)) (toR ((toT (getV r6)).headD .dead)) (toG ((toT (getV r6)).headD .dead))])
    else bif (↑(toN ((toT (getV r0)).tail.headD .dead)) : Int) == 0 then let r7 : Option AV := wu [AV.ptr (xidx 0 (xtoks [AV.ptr 0 2,AV.int .i64 1] [])) 2,AV.int .i64 1,AV.bool (toB ((toT (getV r0)).headD .dead)),AV.ro 1 (toN ((toT (getV r0)).tail.headD .dead)) (toR ((toT (getV r0)).tail.headD .dead)) (toG ((toT (getV r0)).tail.headD .dead)),AV.bool (toB ((toT (getV r0)).tail.tail.headD .dead)),AV.ro 1 (toN ((toT (getV r0)).tail.tail.tail.headD .dead)) (toR ((toT (getV r0)).tail.tail.tail.headD .dead)) (toG ((toT (getV r0)).tail.tail.tail.headD .dead))]; ck (okX [RS.one LK.b,RS.one (LK.l 1),RS.one LK.b,RS.one (LK.l 1)] r7) <| some (AV.tup [AV.bool (toB ((toT (getV r7)).headD .dead)),AV.ro 1 (toN ((toT (getV r7)).tail.headD .dead)) (toR ((toT (getV r7)).tail.headD .dead)) (toG ((toT (getV r7)).tail.headD .dead)),AV.bool (toB ((toT (getV r7)).tail.tail.headD .dead)),AV.ro 1 (toN ((toT (getV r7)).tail.tail.tail.headD .dead)) (toR ((toT (getV r7)).tail.tail.tail.headD .dead)) (toG ((toT (getV r7)).tail.tail.tail.headD .dead))])
    else ck (bif (↑(toN ((toT (getV r0)).tail.tail.tail.headD .dead)) : Int) == 1 then true else true) <| ck (bif (↑(toN ((toT (getV r0)).tail.tail.tail.headD .dead)) : Int) == 1 then true else true) <| ck (bif (↑(toN ((toT (getV r0)).tail.tail.tail.headD .dead)) : Int) == 1 then decide (0 < (↑(toN ((toT (getV r0)).tail.tail.tail.headD .dead)) : Int)) else true) <| ck (bif (↑(toN ((toT (getV r0)).tail.tail.tail.headD .dead)) : Int) == 1 then true else true) <| ck (bif (↑(toN ((toT (getV r0)).tail.tail.tail.headD .dead)) : Int) == 1 then fitK (LK.i .u32) (toG ((toT (getV r0)).tail.tail.tail.headD .dead) 0 0) else true) <| bif bif (↑(toN ((toT (getV r0)).tail.tail.tail.headD .dead)) : Int) == 1 then toI (toG ((toT (getV r0)).tail.tail.tail.headD .dead) 0 0) == 1 else false then some (AV.tup [AV.bool (toB ((toT (getV r0)).headD .dead)),AV.ro 1 (toN ((toT (getV r0)).tail.headD .dead)) (toR ((toT (getV r0)).tail.headD .dead)) (toG ((toT (getV r0)).tail.headD .dead)),AV.bool (toB ((toT (getV r0)).tail.tail.headD .dead)),AV.ro 1 (toN ((toT (getV r0)).tail.tail.tail.headD .dead)) (toR ((toT (getV r0)).tail.tail.tail.headD .dead)) (toG ((toT (getV r0)).tail.tail.tail.headD .dead))])
    else let r8 : Option AV := qas [AV.ro 1 (toN ((toT (getV r0)).tail.headD .dead)) (toR ((toT (getV r0)).tail.headD .dead)) (toG ((toT (getV r0)).tail.headD .dead)),AV.ro 1 (toN ((toT (getV r0)).tail.tail.tail.headD .dead)) (toR ((toT (getV r0)).tail.tail.tail.headD .dead)) (toG ((toT (getV r0)).tail.tail.tail.headD .dead))]; ck (okM [RS.one (LK.l 1)] r8) <| ck (bif (↑(toN (getV r8)) : Int) == 1 then true else true) <| ck (bif (↑(toN (getV r8)) : Int) == 1 then decide (0 < (↑(toN (getV r8)) : Int)) else true) <| ck (bif (↑(toN (getV r8)) : Int) == 1 then true else true) <| ck (bif (↑(toN (getV r8)) : Int) == 1 then fitK (LK.i .u32) (toG (getV r8) 0 0) else true) <| bif bif (↑(toN (getV r8)) : Int) == 1 then toI (toG (getV r8) 0 0) == 1 else false then some (AV.tup [AV.bool (toB ((toT (getV r0)).headD .dead)),AV.ro 1 (toN ((toT (getV r0)).tail.headD .dead)) (toR ((toT (getV r0)).tail.headD .dead)) (toG ((toT (getV r0)).tail.headD .dead)),AV.bool (toB ((toT (getV r0)).tail.tail.headD .dead)),AV.ro 1 (toN ((toT (getV r0)).tail.tail.tail.headD .dead)) (toR ((toT (getV r0)).tail.tail.tail.headD .dead)) (toG ((toT (getV r0)).tail.tail.tail.headD .dead))])
    else let r9 : Option AV := v3 [AV.ro 1 (toN ((toT (getV r0)).tail.headD .dead)) (toR ((toT (getV r0)).tail.headD .dead)) (toG ((toT (getV r0)).tail.headD .dead)),AV.ro 1 (toN (getV r8)) (toR (getV r8)) (toG (getV r8))]; ck (okM [RS.one (LK.l 1),RS.one (LK.l 1)] r9) <| let r10 : Option AV := v3 [AV.ro 1 (toN ((toT (getV r0)).tail.tail.tail.headD .dead)) (toR ((toT (getV r0)).tail.tail.tail.headD .dead)) (toG ((toT (getV r0)).tail.tail.tail.headD .dead)),AV.ro 1 (toN (getV r8)) (toR (getV r8)) (toG (getV r8))]; ck (okM [RS.one (LK.l 1),RS.one (LK.l 1)] r10) <| some (AV.tup [AV.bool (toB ((toT (getV r0)).headD .dead)),AV.ro 1 (toN ((toT (getV r9)).headD .dead)) (toR ((toT (getV r9)).headD .dead)) (toG ((toT (getV r9)).headD .dead)),AV.bool (toB ((toT (getV r0)).tail.tail.headD .dead)),AV.ro 1 (toN ((toT (getV r10)).headD .dead)) (toR ((toT (getV r10)).headD .dead)) (toG ((toT (getV r10)).headD .dead))])
  else bif z8 then let r11 : Option AV := wp [AV.ptr (xidx 0 (xtoks [AV.ptr 0 0,AV.ptr 0 0] [])) 0,AV.ptr (xidx 0 (xtoks [AV.ptr 0 0,AV.ptr 0 0] [])) 0,AV.bool wh,AV.ro 1 qr qz qy,AV.bool z8,AV.ro 1 zu zz zw]; ck (okX [RS.one LK.b,RS.one (LK.l 1),RS.one LK.b,RS.one (LK.l 1)] r11) <| let r12 : Option AV := wo [AV.ptr (xidx 0 (xtoks [AV.ptr 0 2,AV.ptr 0 2] [])) 2,AV.ptr (xidx 0 (xtoks [AV.ptr 0 2,AV.ptr 0 2] [])) 2,AV.bool (toB ((toT (getV r11)).headD .dead)),AV.ro 1 (toN ((toT (getV r11)).tail.headD .dead)) (toR ((toT (getV r11)).tail.headD .dead)) (toG ((toT (getV r11)).tail.headD .dead)),AV.bool (toB ((toT (getV r11)).tail.tail.headD .dead)),AV.ro 1 (toN ((toT (getV r11)).tail.tail.tail.headD .dead)) (toR ((toT (getV r11)).tail.tail.tail.headD .dead)) (toG ((toT (getV r11)).tail.tail.tail.headD .dead))]; ck (okX [RS.one LK.b,RS.one (LK.l 1),RS.one LK.b,RS.one (LK.l 1)] r12) <| bif (↑(toN ((toT (getV r12)).tail.headD .dead)) : Int) == 0 then let r13 : Option AV := wu [AV.ptr (xidx 0 (xtoks [AV.ptr 0 2,AV.int .i64 1] [])) 2,AV.int .i64 1,AV.bool (toB ((toT (getV r12)).headD .dead)),AV.ro 1 (toN ((toT (getV r12)).tail.headD .dead)) (toR ((toT (getV r12)).tail.headD .dead)) (toG ((toT (getV r12)).tail.headD .dead)),AV.bool (toB ((toT (getV r12)).tail.tail.headD .dead)),AV.ro 1 (toN ((toT (getV r12)).tail.tail.tail.headD .dead)) (toR ((toT (getV r12)).tail.tail.tail.headD .dead)) (toG ((toT (getV r12)).tail.tail.tail.headD .dead))]; ck (okX [RS.one LK.b,RS.one (LK.l 1),RS.one LK.b,RS.one (LK.l 1)] r13) <| some (AV.tup [AV.bool (toB ((toT (getV r13)).headD .dead)),AV.ro 1 (toN ((toT (getV r13)).tail.headD .dead)) (toR ((toT (getV r13)).tail.headD .dead)) (toG ((toT (getV r13)).tail.headD .dead)),AV.bool (toB ((toT (getV r13)).tail.tail.headD .dead)),AV.ro 1 (toN ((toT (getV r13)).tail.tail.tail.headD .dead)) (toR ((toT (getV r13)).tail.tail.tail.headD .dead)) (toG ((toT (getV r13)).tail.tail.tail.headD .dead))])
    else ck (bif (↑(toN ((toT (getV r12)).tail.tail.tail.headD .dead)) : Int) == 1 then true else true) <| ck (bif (↑(toN ((toT (getV r12)).tail.tail.tail.headD .dead)) : Int) == 1 then true else true) <| ck (bif (↑(toN ((toT (getV r12)).tail.tail.tail.headD .dead)) : Int) == 1 then decide (0 < (↑(toN ((toT (getV r12)).tail.tail.tail.headD .dead)) : Int)) else true) <| ck (bif (↑(toN ((toT (getV r12)).tail.tail.tail.headD .dead)) : Int) == 1 then true else true) <| ck (bif (↑(toN ((toT (getV r12)).tail.tail.tail.headD .dead)) : Int) == 1 then fitK (LK.i .u32) (toG ((toT (getV r12)).tail.tail.tail.headD .dead) 0 0) else true) <| bif bif (↑(toN ((toT (getV r12)).tail.tail.tail.headD .dead)) : Int) == 1 then toI (toG ((toT (getV r12)).tail.tail.tail.headD .dead) 0 0) == 1 else false then some (AV.tup [AV.bool (toB ((toT (getV r12)).headD .dead)),AV.ro 1 (toN ((toT (getV r12)).tail.headD .dead)) (toR ((toT (getV r12)).tail.headD .dead)) (toG ((toT (getV r12)).tail.headD .dead)),AV.bool (toB ((toT (getV r12)).tail.tail.headD .dead)),AV.ro 1 (toN ((toT (getV r12)).tail.tail.tail.headD .dead)) (toR ((toT (getV r12)).tail.tail.tail.headD .dead)) (toG ((toT (getV r12)).tail.tail.tail.headD .dead))])
    else let r14 : Option AV := qas [AV.ro 1 (toN ((toT (getV r12)).tail.headD .dead)) (toR ((toT (getV r12)).tail.headD .dead)) (toG ((toT (getV r12)).tail.headD .dead)),AV.ro 1 (toN ((toT (getV r12)).tail.tail.tail.headD .dead)) (toR ((toT (getV r12)).tail.tail.tail.headD .dead)) (toG ((toT (getV r12)).tail.tail.tail.headD .dead))]; ck (okM [RS.one (LK.l 1)] r14) <| ck (bif (↑(toN (getV r14)) : Int) == 1 then true else true) <| ck (bif (↑(toN (getV r14)) : Int) == 1 then decide (0 < (↑(toN (getV r14)) : Int)) else true) <| ck (bif (↑(toN (getV r14)) : Int) == 1 then true else true) <| ck (bif (↑(toN (getV r14)) : Int) == 1 then fitK (LK.i .u32) (toG (getV r14) 0 0) else true) <| bif bif (↑(toN (getV r14)) : Int) == 1 then toI (toG (getV r14) 0 0) == 1 else false then some (AV.tup [AV.bool (toB ((toT (getV r12)).headD .dead)),AV.ro 1 (toN ((toT (getV r12)).tail.headD .dead)) (toR ((toT (getV r12)).tail.headD .dead)) (toG ((toT (getV r12)).tail.headD .dead)),AV.bool (toB ((toT (getV r12)).tail.tail.headD .dead)),AV.ro 1 (toN ((toT (getV r12)).tail.tail.tail.headD .dead)) (toR ((toT (getV r12)).tail.tail.tail.headD .dead)) (toG ((toT (getV r12)).tail.tail.tail.headD .dead))])
    else let r15 : Option AV := v3 [AV.ro 1 (toN ((toT (getV r12)).tail.headD .dead)) (toR ((toT (getV r12)).tail.headD .dead)) (toG ((toT (getV r12)).tail.headD .dead)),AV.ro 1 (toN (getV r14)) (toR (getV r14)) (toG (getV r14))]; ck (okM [RS.one (LK.l 1),RS.one (LK.l 1)] r15) <| let r16 : Option AV := v3 [AV.ro 1 (toN ((toT (getV r12)).tail.tail.tail.headD .dead)) (toR ((toT (getV r12)).tail.tail.tail.headD .dead)) (toG ((toT (getV r12)).tail.tail.tail.headD .dead)),AV.ro 1 (toN (getV r14)) (toR (getV r14)) (toG (getV r14))]; ck (okM [RS.one (LK.l 1),RS.one (LK.l 1)] r16) <| some (AV.tup [AV.bool (toB ((toT (getV r12)).headD .dead)),AV.ro 1 (toN ((toT (getV r15)).headD .dead)) (toR ((toT (getV r15)).headD .dead)) (toG ((toT (getV r15)).headD .dead)),AV.bool (toB ((toT (getV r12)).tail.tail.headD .dead)),AV.ro 1 (toN ((toT (getV r16)).headD .dead)) (toR ((toT (getV r16)).headD .dead)) (toG ((toT (getV r16)).headD .dead))])
  else bif (↑qr : Int) == 0 then let r17 : Option AV := wu [AV.ptr (xidx 0 (xtoks [AV.ptr 0 2,AV.int .i64 1] [])) 2,AV.int .i64 1,AV.bool wh,AV.ro 1 qr qz qy,AV.bool z8,AV.ro 1 zu zz zw]; ck (okX [RS.one LK.b,RS.one (LK.l 1),RS.one LK.b,RS.one (LK.l 1)] r17) <| some (AV.tup [AV.bool (toB ((toT (getV r17)).headD .dead)),AV.ro 1 (toN ((toT (getV r17)).tail.headD .dead)) (toR ((toT (getV r17)).tail.headD .dead)) (toG ((toT (getV r17)).tail.headD .dead)),AV.bool (toB ((toT (getV r17)).tail.tail.headD .dead)),AV.ro 1 (toN ((toT (getV r17)).tail.tail.tail.headD .dead)) (toR ((toT (getV r17)).tail.tail.tail.headD .dead)) (toG ((toT (getV r17)).tail.tail.tail.headD .dead))])
  else ck (bif (↑zu : Int) == 1 then true else true) <| ck (bif (↑zu : Int) == 1 then true else true) <| ck (bif (↑zu : Int) == 1 then decide (0 < (↑zu : Int)) else true) <| ck (bif (↑zu : Int) == 1 then true else true) <| ck (bif (↑zu : Int) == 1 then fitK (LK.i .u32) (zw 0 0) else true) <| bif bif (↑zu : Int) == 1 then toI (zw 0 0) == 1 else false then some (AV.tup [AV.bool wh,AV.ro 1 qr qz qy,AV.bool z8,AV.ro 1 zu zz zw])
  else let r18 : Option AV := qas [AV.ro 1 qr qz qy,AV.ro 1 zu zz zw]; ck (okM [RS.one (LK.l 1)] r18) <| ck (bif (↑(toN (getV r18)) : Int) == 1 then true else true) <| ck (bif (↑(toN (getV r18)) : Int) == 1 then decide (0 < (↑(toN (getV r18)) : Int)) else true) <| ck (bif (↑(toN (getV r18)) : Int) == 1 then true else true) <| ck (bif (↑(toN (getV r18)) : Int) == 1 then fitK (LK.i .u32) (toG (getV r18) 0 0) else true) <| bif bif (↑(toN (getV r18)) : Int) == 1 then toI (toG (getV r18) 0 0) == 1 else false then some (AV.tup [AV.bool wh,AV.ro 1 qr qz qy,AV.bool z8,AV.ro 1 zu zz zw])
  else let r19 : Option AV := v3 [AV.ro 1 qr qz qy,AV.ro 1 (toN (getV r18)) (toR (getV r18)) (toG (getV r18))]; ck (okM [RS.one (LK.l 1),RS.one (LK.l 1)] r19) <| let r20 : Option AV := v3 [AV.ro 1 zu zz zw,AV.ro 1 (toN (getV r18)) (toR (getV r18)) (toG (getV r18))]; ck (okM [RS.one (LK.l 1),RS.one (LK.l 1)] r20) <| some (AV.tup [AV.bool wh,AV.ro 1 (toN ((toT (getV r19)).headD .dead)) (toR ((toT (getV r19)).headD .dead)) (toG ((toT (getV r19)).headD .dead)),AV.bool z8,AV.ro 1 (toN ((toT (getV r20)).headD .dead)) (toR ((toT (getV r20)).headD .dead)) (toG ((toT (getV r20)).headD .dead))])
theorem gRat_norm_a_run (qas v3 : Mo) (wu w7 : Mo) (wp wo wq : Mo) (fuel : Nat) (wh : Bool) (qr qz : Nat) (qy : Ge) (z8 : Bool) (zu zz : Nat) (zw : Ge) : runX Pr (GRat_norm_a qas v3 wu w7 wp wo wq) [((6,131),LRat_norm_a qas v3 wu w7 wp wo wq fuel)] fuel 7 131 XRat_norm_a [AV.ptr 0 0] [Blk.box [AV.bool wh,AV.ro 1 qr qz qy,AV.bool z8,AV.ro 1 zu zz zw]] = gRat_norm_a qas v3 wu w7 wp wo wq fuel wh qr qz qy z8 zu zz zw := by kernel_rfl
noncomputable def mRat_norm_a (qas v3 : Mo) (wu w7 : Mo) (wp wo wq : Mo) (fuel : Nat) (xs : List AV) : Option AV := match xs with
  | [AV.ptr 0 0,AV.bool wh,AV.ro 1 qr qz qy,AV.bool z8,AV.ro 1 zu zz zw] => gRat_norm_a qas v3 wu w7 wp wo wq fuel wh qr qz qy z8 zu zz zw
  | _ => none
theorem gRat_norm_a_sm (qas v3 : Mo) (wu w7 : Mo) (wp wo wq : Mo) (fuel : Nat) (hΓ : GamOk Pr (GRat_norm_a qas v3 wu w7 wp wo wq)) (hP : NamesOk Pr) : XOk Pr 131 (smX RRat_norm_a XRat_norm_a (mRat_norm_a qas v3 wu w7 wp wo wq fuel)) XRat_norm_a := by
  refine smX_ok (fuel := fuel) hΓ hP (LamOk.of 6 131 (LRat_norm_a qas v3 wu w7 wp wo wq fuel) 0 (by kernel_rfl) (fun i hi => ?_)) 7 131 RRat_norm_a XRat_norm_a _ (fun xs0 ys0 v ha hb h => ?_)
  · match i,hi with
    | i + 0,hi => exact absurd hi (by omega)
  · skip
    have ha0 : xs0.length = 1 := ha
    clear ha
    obtain ⟨a0,xs1,rfl,ha1⟩ := len_cons ha0
    clear ha0
    obtain rfl := List.eq_nil_of_length_eq_zero ha1
    have hy0 : ys0.map List.length = [4] := hb
    clear hb
    obtain ⟨wh,ys1,rfl,hb0_0,hy1⟩ := map_cons' hy0
    clear hy0
    obtain ⟨c0_0,b0_1,rfl,hb0_1⟩ := len_cons hb0_0
    clear hb0_0
    obtain ⟨c0_1,z8,rfl,hb0_2⟩ := len_cons hb0_1
    clear hb0_1
    obtain ⟨c0_2,b0_3,rfl,hb0_3⟩ := len_cons hb0_2
    clear hb0_2
    obtain ⟨c0_3,b0_4,rfl,hb0_4⟩ := len_cons hb0_3
    clear hb0_3
    obtain rfl := List.eq_nil_of_length_eq_zero hb0_4
    obtain rfl := map_nil' hy1
    have h : mRat_norm_a qas v3 wu w7 wp wo wq fuel [a0,c0_0,c0_1,c0_2,c0_3] = some v := h
    generalize hx0 : [a0,c0_0,c0_1,c0_2,c0_3] = zs at h
    unfold mRat_norm_a at h
    split at h
    · skip
      obtain ⟨rfl,hx1⟩ := List.cons.inj hx0
      obtain ⟨rfl,hx2⟩ := List.cons.inj hx1
      obtain ⟨rfl,hx3⟩ := List.cons.inj hx2
      obtain ⟨rfl,hx4⟩ := List.cons.inj hx3
      obtain ⟨rfl,hx5⟩ := List.cons.inj hx4
      simp only [List.map_cons,List.map_nil]
      exact (gRat_norm_a_run qas v3 wu w7 wp wo wq fuel _ _ _ _ _ _ _ _).trans h
    · cases h
end Go.Proofs.Tryz
end
