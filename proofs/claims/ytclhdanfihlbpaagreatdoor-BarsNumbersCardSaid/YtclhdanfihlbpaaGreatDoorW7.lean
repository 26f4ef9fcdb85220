/- Part 7 of the proof: models of the functions, and laws on them. -/
import Derived.Test.YtclhdanfihlbpaaGreatDoorW6
set_option linter.unusedVariables false
set_option linter.unusedSimpArgs false
set_option linter.unusedSectionVars false
section
namespace Go.Proofs.Tryz
open Go Go.Am
set_option linter.unusedVariables false
set_option maxRecDepth 1000000
noncomputable def Sexact_Limbs_a_0 (zi : Bool) (q5 q8 : Nat) (q7 : Ge) (z2 : Bool) (zm zp : Nat) (zo : Ge) (h2z : List AV) (h2e : List (List AV)) : St := { env := [(3,AV.lst 2 1),(4,AV.ptr 1 0)],h := [Blk.box [AV.bool zi,AV.ro 1 q5 q8 q7],Blk.box [AV.bool z2,AV.ro 1 zm zp zo],Blk.fl 1 h2z h2e],kd := [2] }
noncomputable def Xexact_Limbs_a_0_0 (yy : Bool) (y3 y2 : Nat) (y1 : Ge) (pc : Bool) (qbb qa9 : Nat) (qba : Ge) (qgh : List AV) (qgk : List (List AV)) : St := { env := [(3,AV.lst 2 1)],h := [Blk.box [AV.bool yy,AV.ro 1 y3 y2 y1],Blk.box [AV.bool pc,AV.ro 1 qbb qa9 qba],Blk.fl 1 qgh qgk],kd := [2] }
noncomputable def gexact_Limbs_a_l0_step (qo qr : Mo) (qe qg ql : Mo) (fuel : Nat) (kn : Bool → Nat → Nat → Ge → List (List AV) → Option AV) (kx0 : Bool → Nat → Nat → Ge → Bool → Nat → Nat → Ge → List AV → List (List AV) → Option AV) (zi : Bool) (q5 q8 : Nat) (q7 : Ge) (h2z : List AV) (z2 : Bool) (zm zp : Nat) (zo : Ge) (h2e : List (List AV)) : Option AV :=
  bif (↑zm : Int) == 0 then kx0 zi q5 q8 q7 z2 zm zp zo h2z h2e
  else bif z2 then kx0 zi q5 q8 q7 z2 zm zp zo h2z h2e
  else let r1 : Option AV := qe [AV.ptr 0 0,AV.bool z2,AV.ro 1 zm zp zo]; ck (okX [RS.one LK.b,RS.one (LK.l 1),RS.one (LK.i .u64)] r1) <| ck (decide ((h2e.length + 1) * 8 < 70368744177664)) <| ck (decide (h2e.length + 1 < 4611686018427387904)) <| let r2 : Option AV := ql [AV.ptr (xidx 1 (xtoks [AV.ptr 1 0,AV.ptr 1 0,AV.int .u64 64] [])) 0,AV.ptr (xidx 1 (xtoks [AV.ptr 1 0,AV.ptr 1 0,AV.int .u64 64] [])) 0,AV.int .u64 64,AV.bool (toB ((toT (getV r1)).headD .dead)),AV.ro 1 (toN ((toT (getV r1)).tail.headD .dead)) (toR ((toT (getV r1)).tail.headD .dead)) (toG ((toT (getV r1)).tail.headD .dead))]; ck (okX [RS.one LK.b,RS.one (LK.l 1)] r2) <| kn (toB ((toT (getV r2)).headD .dead)) (toN ((toT (getV r2)).tail.headD .dead)) (toR ((toT (getV r2)).tail.headD .dead)) (toG ((toT (getV r2)).tail.headD .dead)) (h2e ++ [[AV.int .u64 (toI ((toT (getV r1)).tail.tail.headD .dead))]])
noncomputable def gexact_Limbs_a_l0 (qo qr : Mo) (qe qg ql : Mo) (fuel : Nat) (kx0 : Bool → Nat → Nat → Ge → Bool → Nat → Nat → Ge → List AV → List (List AV) → Option AV) (zi : Bool) (q5 q8 : Nat) (q7 : Ge) (h2z : List AV) : Nat → Bool → Nat → Nat → Ge → List (List AV) → Option AV
  | 0,_,_,_,_,_ => none
  | n' + 1,z2,zm,zp,zo,h2e => gexact_Limbs_a_l0_step qo qr qe qg ql fuel (gexact_Limbs_a_l0 qo qr qe qg ql fuel kx0 zi q5 q8 q7 h2z n') kx0 zi q5 q8 q7 h2z z2 zm zp zo h2e
noncomputable def Texact_Limbs_a_0 : TS' := ⟨[(3,TA.lst 2 1),(4,TA.ptr 1 0)],[TB.box [TA.b,TA.ro 1],TB.box [TA.b,TA.ro 1],TB.fl 1],[2]⟩
noncomputable def Fexact_Limbs_a_0 (qo qr : Mo) (qe qg ql : Mo) (fuel : Nat) (ps : List Pay) (K : Ex → St → Option AV) : Option AV := match ps with
  | .b zi :: .n q5 :: .n q8 :: .g q7 :: .b z2 :: .n zm :: .n zp :: .g zo :: .z h2z :: .e h2e :: [] => gexact_Limbs_a_l0 qo qr qe qg ql fuel (fun yy y3 y2 y1 pc qbb qa9 qba qgh qgk => K (Ex.exit 0) (Xexact_Limbs_a_0_0 yy y3 y2 y1 pc qbb qa9 qba qgh qgk)) zi q5 q8 q7 h2z fuel z2 zm zp zo h2e
  | _ => none
noncomputable def Lexact_Limbs_a (qo qr : Mo) (qe qg ql : Mo) (fuel : Nat) : Lam AV := [(524040,lam Texact_Limbs_a_0 (Fexact_Limbs_a_0 qo qr qe qg ql fuel))]
noncomputable def Gexact_Limbs_a (qo qr : Mo) (qe qg ql : Mo) : Gam := [(75,smX RInt_Abs_ir XInt_Abs_ir qo),(75,smX RInt_Abs_ii XInt_Abs_ii qr),(51,smX RInt_Uint64_i XInt_Uint64_i qe),(92,smX RInt_Rsh_ii XInt_Rsh_ii qg),(92,smX RInt_Rsh_p XInt_Rsh_p ql)]
theorem gexact_Limbs_a_l0_eq (qo qr : Mo) (qe qg ql : Mo) (fuel : Nat) (kn : St → Option AV) (K : Ex → St → Option AV) (zi : Bool) (q5 q8 : Nat) (q7 : Ge) (h2z : List AV) (qd6 : Bool) (qeh qec : Nat) (qd8 : Ge) (qg9 : List (List AV)) (z2 : Bool) (zm zp : Nat) (zo : Ge) (h2e : List (List AV)) :
    bX Pr (Gexact_Limbs_a qo qr qe qg ql) (Lexact_Limbs_a qo qr qe qg ql fuel) 6 63 0 fuel (Sexact_Limbs_a_0 zi q5 q8 q7 z2 zm zp zo h2z h2e) (fun e s => match e with | .normal => kn (hX Pr 63 0 (Sexact_Limbs_a_0 zi q5 q8 q7 qd6 qeh qec qd8 h2z qg9) s) | e => K e s) =
    gexact_Limbs_a_l0_step qo qr qe qg ql fuel (fun z2 zm zp zo h2e => kn (Sexact_Limbs_a_0 zi q5 q8 q7 z2 zm zp zo h2z h2e)) (fun yg zx zv zw p2 qal qao qam qgi qe1 => K (Ex.exit 0) (Xexact_Limbs_a_0_0 yg zx zv zw p2 qal qao qam qgi qe1)) zi q5 q8 q7 h2z z2 zm zp zo h2e := by kernel_rfl
theorem gexact_Limbs_a_l0_ok (qo qr : Mo) (qe qg ql : Mo) (fuel : Nat) (K : Ex → St → Option AV) (zi : Bool) (q5 q8 : Nat) (q7 : Ge) (h2z : List AV) (qd6 : Bool) (qeh qec : Nat) (qd8 : Ge) (qg9 : List (List AV)) : ∀ (n' : Nat) (z2 : Bool) (zm zp : Nat) (zo : Ge) (h2e : List (List AV)),
    loopK (bX Pr (Gexact_Limbs_a qo qr qe qg ql) (Lexact_Limbs_a qo qr qe qg ql fuel) 6 63 0 fuel) (hX Pr 63 0 (Sexact_Limbs_a_0 zi q5 q8 q7 qd6 qeh qec qd8 h2z qg9)) n' (Sexact_Limbs_a_0 zi q5 q8 q7 z2 zm zp zo h2z h2e) K = gexact_Limbs_a_l0 qo qr qe qg ql fuel (fun yg zx zv zw p2 qal qao qam qgi qe1 => K (Ex.exit 0) (Xexact_Limbs_a_0_0 yg zx zv zw p2 qal qao qam qgi qe1)) zi q5 q8 q7 h2z n' z2 zm zp zo h2e
  | 0,_,_,_,_,_ => rfl
  | n' + 1,z2,zm,zp,zo,h2e => (gexact_Limbs_a_l0_eq qo qr qe qg ql fuel (fun s => loopK (bX Pr (Gexact_Limbs_a qo qr qe qg ql) (Lexact_Limbs_a qo qr qe qg ql fuel) 6 63 0 fuel) (hX Pr 63 0 (Sexact_Limbs_a_0 zi q5 q8 q7 qd6 qeh qec qd8 h2z qg9)) n' s K) K zi q5 q8 q7 h2z qd6 qeh qec qd8 qg9 z2 zm zp zo h2e).trans
    (congrArg (fun kn => gexact_Limbs_a_l0_step qo qr qe qg ql fuel kn _ zi q5 q8 q7 h2z z2 zm zp zo h2e) (funext fun z2 => funext fun zm => funext fun zp => funext fun zo => funext fun h2e => gexact_Limbs_a_l0_ok qo qr qe qg ql fuel K zi q5 q8 q7 h2z qd6 qeh qec qd8 qg9 n' z2 zm zp zo h2e))
theorem gexact_Limbs_a_L0 (qo qr : Mo) (qe qg ql : Mo) (fuel : Nat) : LX Pr (Gexact_Limbs_a qo qr qe qg ql) (Lexact_Limbs_a qo qr qe qg ql fuel) 6 63 0 fuel := by
  refine .of Texact_Limbs_a_0 (Fexact_Limbs_a_0 qo qr qe qg ql fuel) (fun L h => ?_) (fun ps st K r he hr => ?_)
  · have e : (Lexact_Limbs_a qo qr qe qg ql fuel).get (writes (lp Pr 63 0).1) = some (lam Texact_Limbs_a_0 (Fexact_Limbs_a_0 qo qr qe qg ql fuel)) := by kernel_rfl
    exact (Option.some.inj (e.symm.trans h)).symm
  · unfold Fexact_Limbs_a_0 at hr
    split at hr
    · obtain rfl := (Option.some.inj he).symm
      exact (gexact_Limbs_a_l0_ok qo qr qe qg ql fuel K _ _ _ _ _ _ _ _ _ _ fuel _ _ _ _ _).trans hr
    · cases hr
noncomputable def gexact_Limbs_a (qo qr : Mo) (qe qg ql : Mo) (fuel : Nat) (q4 : Bool) (qm qu : Nat) (qq : Ge) : Option AV :=
  let r0 : Option AV := qr [AV.ptr (xidx [Blk.box [AV.bool q4,AV.ro 1 qm qu qq]].length (xtoks [AV.ptr [Blk.box [AV.bool q4,AV.ro 1 qm qu qq]].length 0,AV.ptr 0 0] [])) 0,AV.ptr (xidx 0 (xtoks [AV.ptr [Blk.box [AV.bool q4,AV.ro 1 qm qu qq]].length 0,AV.ptr 0 0] [])) 0,AV.bool false,AV.ro 1 0 0 fun (x j : Nat) => [AV.int .u32 0].getD j AV.dead,AV.bool q4,AV.ro 1 qm qu qq]; ck (okX [RS.one LK.b,RS.one (LK.l 1),RS.one LK.b,RS.one (LK.l 1)] r0) <| gexact_Limbs_a_l0 qo qr qe qg ql fuel
    (fun (yg : Bool) (zx zv : Nat) (zw : Ge) (_ : Bool) (_ _ : Nat) (_ : Ge) (qgi : List AV) (qe1 : List (List AV)) => some (AV.tup [AV.bool yg,AV.ro 1 zx zv zw,AV.ro 1 qe1.length qe1.length fun (i j : Nat) => (qe1.getD i qgi).getD j AV.dead]))
    (toB ((toT (getV r0)).tail.tail.headD .dead))
    (toN ((toT (getV r0)).tail.tail.tail.headD .dead))
    (toR ((toT (getV r0)).tail.tail.tail.headD .dead))
    (toG ((toT (getV r0)).tail.tail.tail.headD .dead))
    ([AV.int .u64 0]) fuel (toB ((toT (getV r0)).headD .dead)) (toN ((toT (getV r0)).tail.headD .dead)) (toR ((toT (getV r0)).tail.headD .dead)) (toG ((toT (getV r0)).tail.headD .dead)) ([])
theorem gexact_Limbs_a_run (qo qr : Mo) (qe qg ql : Mo) (fuel : Nat) (q4 : Bool) (qm qu : Nat) (qq : Ge) : runX Pr (Gexact_Limbs_a qo qr qe qg ql) [((6,63),Lexact_Limbs_a qo qr qe qg ql fuel)] fuel 7 63 Xexact_Limbs_a [AV.ptr 0 0] [Blk.box [AV.bool q4,AV.ro 1 qm qu qq]] = gexact_Limbs_a qo qr qe qg ql fuel q4 qm qu qq := by kernel_rfl
noncomputable def mexact_Limbs_a (qo qr : Mo) (qe qg ql : Mo) (fuel : Nat) (xs : List AV) : Option AV := match xs with
  | [AV.ptr 0 0,AV.bool q4,AV.ro 1 qm qu qq] => gexact_Limbs_a qo qr qe qg ql fuel q4 qm qu qq
  | _ => none
theorem gexact_Limbs_a_sm (qo qr : Mo) (qe qg ql : Mo) (fuel : Nat) (hΓ : GamOk Pr (Gexact_Limbs_a qo qr qe qg ql)) (hP : NamesOk Pr) : XOk Pr 63 (smX Rexact_Limbs_a Xexact_Limbs_a (mexact_Limbs_a qo qr qe qg ql fuel)) Xexact_Limbs_a := by
  refine smX_ok (fuel := fuel) hΓ hP (LamOk.of 6 63 (Lexact_Limbs_a qo qr qe qg ql fuel) 1 (by kernel_rfl) (fun i hi => ?_)) 7 63 Rexact_Limbs_a Xexact_Limbs_a _ (fun xs0 ys0 v ha hb h => ?_)
  · match i,hi with
    | 0,_ => exact gexact_Limbs_a_L0 qo qr qe qg ql fuel
    | i + 1,hi => exact absurd hi (by omega)
  · skip
    have ha0 : xs0.length = 1 := ha
    clear ha
    obtain ⟨a0,xs1,rfl,ha1⟩ := len_cons ha0
    clear ha0
    obtain rfl := List.eq_nil_of_length_eq_zero ha1
    have hy0 : ys0.map List.length = [2] := hb
    clear hb
    obtain ⟨q4,ys1,rfl,hb0_0,hy1⟩ := map_cons' hy0
    clear hy0
    obtain ⟨c0_0,b0_1,rfl,hb0_1⟩ := len_cons hb0_0
    clear hb0_0
    obtain ⟨c0_1,z0,rfl,hb0_2⟩ := len_cons hb0_1
    clear hb0_1
    obtain rfl := List.eq_nil_of_length_eq_zero hb0_2
    obtain rfl := map_nil' hy1
    have h : mexact_Limbs_a qo qr qe qg ql fuel [a0,c0_0,c0_1] = some v := h
    generalize hx0 : [a0,c0_0,c0_1] = zs at h
    unfold mexact_Limbs_a at h
    split at h
    · skip
      obtain ⟨rfl,hx1⟩ := List.cons.inj hx0
      obtain ⟨rfl,hx2⟩ := List.cons.inj hx1
      obtain ⟨rfl,hx3⟩ := List.cons.inj hx2
      simp only [List.map_cons,List.map_nil]
      exact (gexact_Limbs_a_run qo qr qe qg ql fuel _ _ _ _).trans h
    · cases h
noncomputable def Sexact_Limbs_r_0 (zi : Bool) (q5 q8 : Nat) (q7 : Ge) (qil : Bool) (qfx qfu : Nat) (qfz : Ge) (z2 : Bool) (zm zp : Nat) (zo : Ge) (h2z : List AV) (h2e : List (List AV)) : St := { env := [(3,AV.lst 2 1),(4,AV.ptr 1 0)],h := [Blk.box [AV.bool zi,AV.ro 1 q5 q8 q7,AV.bool qil,AV.ro 1 qfx qfu qfz],Blk.box [AV.bool z2,AV.ro 1 zm zp zo],Blk.fl 1 h2z h2e],kd := [2] }
noncomputable def Xexact_Limbs_r_0_0 (yy : Bool) (y3 y2 : Nat) (y1 : Ge) (qq5 : Bool) (qof qno : Nat) (qnr : Ge) (pc : Bool) (qbb qa9 : Nat) (qba : Ge) (qgh : List AV) (qgk : List (List AV)) : St := { env := [(3,AV.lst 2 1)],h := [Blk.box [AV.bool yy,AV.ro 1 y3 y2 y1,AV.bool qq5,AV.ro 1 qof qno qnr],Blk.box [AV.bool pc,AV.ro 1 qbb qa9 qba],Blk.fl 1 qgh qgk],kd := [2] }
noncomputable def gexact_Limbs_r_l0_step (qo qr : Mo) (qe qg ql : Mo) (fuel : Nat) (kn : Bool → Nat → Nat → Ge → List (List AV) → Option AV) (kx0 : Bool → Nat → Nat → Ge → Bool → Nat → Nat → Ge → Bool → Nat → Nat → Ge → List AV → List (List AV) → Option AV) (zi : Bool) (q5 q8 : Nat) (q7 : Ge) (qil : Bool) (qfx qfu : Nat) (qfz : Ge) (h2z : List AV) (z2 : Bool) (zm zp : Nat) (zo : Ge) (h2e : List (List AV)) : Option AV :=
  bif (↑zm : Int) == 0 then kx0 zi q5 q8 q7 qil qfx qfu qfz z2 zm zp zo h2z h2e
  else bif z2 then kx0 zi q5 q8 q7 qil qfx qfu qfz z2 zm zp zo h2z h2e
  else let r1 : Option AV := qe [AV.ptr 0 0,AV.bool z2,AV.ro 1 zm zp zo]; ck (okX [RS.one LK.b,RS.one (LK.l 1),RS.one (LK.i .u64)] r1) <| ck (decide ((h2e.length + 1) * 8 < 70368744177664)) <| ck (decide (h2e.length + 1 < 4611686018427387904)) <| let r2 : Option AV := ql [AV.ptr (xidx 1 (xtoks [AV.ptr 1 0,AV.ptr 1 0,AV.int .u64 64] [])) 0,AV.ptr (xidx 1 (xtoks [AV.ptr 1 0,AV.ptr 1 0,AV.int .u64 64] [])) 0,AV.int .u64 64,AV.bool (toB ((toT (getV r1)).headD .dead)),AV.ro 1 (toN ((toT (getV r1)).tail.headD .dead)) (toR ((toT (getV r1)).tail.headD .dead)) (toG ((toT (getV r1)).tail.headD .dead))]; ck (okX [RS.one LK.b,RS.one (LK.l 1)] r2) <| kn (toB ((toT (getV r2)).headD .dead)) (toN ((toT (getV r2)).tail.headD .dead)) (toR ((toT (getV r2)).tail.headD .dead)) (toG ((toT (getV r2)).tail.headD .dead)) (h2e ++ [[AV.int .u64 (toI ((toT (getV r1)).tail.tail.headD .dead))]])
noncomputable def gexact_Limbs_r_l0 (qo qr : Mo) (qe qg ql : Mo) (fuel : Nat) (kx0 : Bool → Nat → Nat → Ge → Bool → Nat → Nat → Ge → Bool → Nat → Nat → Ge → List AV → List (List AV) → Option AV) (zi : Bool) (q5 q8 : Nat) (q7 : Ge) (qil : Bool) (qfx qfu : Nat) (qfz : Ge) (h2z : List AV) : Nat → Bool → Nat → Nat → Ge → List (List AV) → Option AV
  | 0,_,_,_,_,_ => none
  | n' + 1,z2,zm,zp,zo,h2e => gexact_Limbs_r_l0_step qo qr qe qg ql fuel (gexact_Limbs_r_l0 qo qr qe qg ql fuel kx0 zi q5 q8 q7 qil qfx qfu qfz h2z n') kx0 zi q5 q8 q7 qil qfx qfu qfz h2z z2 zm zp zo h2e
termination_by structural k => k
noncomputable def Texact_Limbs_r_0 : TS' := ⟨[(3,TA.lst 2 1),(4,TA.ptr 1 0)],[TB.box [TA.b,TA.ro 1,TA.b,TA.ro 1],TB.box [TA.b,TA.ro 1],TB.fl 1],[2]⟩
noncomputable def Fexact_Limbs_r_0 (qo qr : Mo) (qe qg ql : Mo) (fuel : Nat) (ps : List Pay) (K : Ex → St → Option AV) : Option AV := match ps with
  | .b zi :: .n q5 :: .n q8 :: .g q7 :: .b qil :: .n qfx :: .n qfu :: .g qfz :: .b z2 :: .n zm :: .n zp :: .g zo :: .z h2z :: .e h2e :: [] => gexact_Limbs_r_l0 qo qr qe qg ql fuel (fun yy y3 y2 y1 qq5 qof qno qnr pc qbb qa9 qba qgh qgk => K (Ex.exit 0) (Xexact_Limbs_r_0_0 yy y3 y2 y1 qq5 qof qno qnr pc qbb qa9 qba qgh qgk)) zi q5 q8 q7 qil qfx qfu qfz h2z fuel z2 zm zp zo h2e
  | _ => none
noncomputable def Lexact_Limbs_r (qo qr : Mo) (qe qg ql : Mo) (fuel : Nat) : Lam AV := [(524040,lam Texact_Limbs_r_0 (Fexact_Limbs_r_0 qo qr qe qg ql fuel))]
noncomputable def Gexact_Limbs_r (qo qr : Mo) (qe qg ql : Mo) : Gam := [(75,smX RInt_Abs_ir XInt_Abs_ir qo),(75,smX RInt_Abs_ii XInt_Abs_ii qr),(51,smX RInt_Uint64_i XInt_Uint64_i qe),(92,smX RInt_Rsh_ii XInt_Rsh_ii qg),(92,smX RInt_Rsh_p XInt_Rsh_p ql)]
theorem gexact_Limbs_r_l0_eq (qo qr : Mo) (qe qg ql : Mo) (fuel : Nat) (kn : St → Option AV) (K : Ex → St → Option AV) (zi : Bool) (q5 q8 : Nat) (q7 : Ge) (qil : Bool) (qfx qfu : Nat) (qfz : Ge) (h2z : List AV) (qd6 : Bool) (qeh qec : Nat) (qd8 : Ge) (qg9 : List (List AV)) (z2 : Bool) (zm zp : Nat) (zo : Ge) (h2e : List (List AV)) :
    bX Pr (Gexact_Limbs_r qo qr qe qg ql) (Lexact_Limbs_r qo qr qe qg ql fuel) 6 63 0 fuel (Sexact_Limbs_r_0 zi q5 q8 q7 qil qfx qfu qfz z2 zm zp zo h2z h2e) (fun e s => match e with | .normal => kn (hX Pr 63 0 (Sexact_Limbs_r_0 zi q5 q8 q7 qil qfx qfu qfz qd6 qeh qec qd8 h2z qg9) s) | e => K e s) =
    gexact_Limbs_r_l0_step qo qr qe qg ql fuel (fun z2 zm zp zo h2e => kn (Sexact_Limbs_r_0 zi q5 q8 q7 qil qfx qfu qfz z2 zm zp zo h2z h2e)) (fun yg zx zv zw qn8 qlw qlf qlb p2 qal qao qam qgi qe1 => K (Ex.exit 0) (Xexact_Limbs_r_0_0 yg zx zv zw qn8 qlw qlf qlb p2 qal qao qam qgi qe1)) zi q5 q8 q7 qil qfx qfu qfz h2z z2 zm zp zo h2e := by kernel_rfl
theorem gexact_Limbs_r_l0_ok (qo qr : Mo) (qe qg ql : Mo) (fuel : Nat) (K : Ex → St → Option AV) (zi : Bool) (q5 q8 : Nat) (q7 : Ge) (qil : Bool) (qfx qfu : Nat) (qfz : Ge) (h2z : List AV) (qd6 : Bool) (qeh qec : Nat) (qd8 : Ge) (qg9 : List (List AV)) : ∀ (n' : Nat) (z2 : Bool) (zm zp : Nat) (zo : Ge) (h2e : List (List AV)),
    loopK (bX Pr (Gexact_Limbs_r qo qr qe qg ql) (Lexact_Limbs_r qo qr qe qg ql fuel) 6 63 0 fuel) (hX Pr 63 0 (Sexact_Limbs_r_0 zi q5 q8 q7 qil qfx qfu qfz qd6 qeh qec qd8 h2z qg9)) n' (Sexact_Limbs_r_0 zi q5 q8 q7 qil qfx qfu qfz z2 zm zp zo h2z h2e) K = gexact_Limbs_r_l0 qo qr qe qg ql fuel (fun yg zx zv zw qn8 qlw qlf qlb p2 qal qao qam qgi qe1 => K (Ex.exit 0) (Xexact_Limbs_r_0_0 yg zx zv zw qn8 qlw qlf qlb p2 qal qao qam qgi qe1)) zi q5 q8 q7 qil qfx qfu qfz h2z n' z2 zm zp zo h2e
  | 0,_,_,_,_,_ => rfl
  | n' + 1,z2,zm,zp,zo,h2e => (gexact_Limbs_r_l0_eq qo qr qe qg ql fuel (fun s => loopK (bX Pr (Gexact_Limbs_r qo qr qe qg ql) (Lexact_Limbs_r qo qr qe qg ql fuel) 6 63 0 fuel) (hX Pr 63 0 (Sexact_Limbs_r_0 zi q5 q8 q7 qil qfx qfu qfz qd6 qeh qec qd8 h2z qg9)) n' s K) K zi q5 q8 q7 qil qfx qfu qfz h2z qd6 qeh qec qd8 qg9 z2 zm zp zo h2e).trans
    (congrArg (fun kn => gexact_Limbs_r_l0_step qo qr qe qg ql fuel kn _ zi q5 q8 q7 qil qfx qfu qfz h2z z2 zm zp zo h2e) (funext fun z2 => funext fun zm => funext fun zp => funext fun zo => funext fun h2e => gexact_Limbs_r_l0_ok qo qr qe qg ql fuel K zi q5 q8 q7 qil qfx qfu qfz h2z qd6 qeh qec qd8 qg9 n' z2 zm zp zo h2e))
theorem gexact_Limbs_r_L0 (qo qr : Mo) (qe qg ql : Mo) (fuel : Nat) : LX Pr (Gexact_Limbs_r qo qr qe qg ql) (Lexact_Limbs_r qo qr qe qg ql fuel) 6 63 0 fuel := by
  refine .of Texact_Limbs_r_0 (Fexact_Limbs_r_0 qo qr qe qg ql fuel) (fun L h => ?_) (fun ps st K r he hr => ?_)
  · have e : (Lexact_Limbs_r qo qr qe qg ql fuel).get (writes (lp Pr 63 0).1) = some (lam Texact_Limbs_r_0 (Fexact_Limbs_r_0 qo qr qe qg ql fuel)) := by kernel_rfl
    exact (Option.some.inj (e.symm.trans h)).symm
  · unfold Fexact_Limbs_r_0 at hr
    split at hr
    · obtain rfl := (Option.some.inj he).symm
      exact (gexact_Limbs_r_l0_ok qo qr qe qg ql fuel K _ _ _ _ _ _ _ _ _ _ _ _ _ _ fuel _ _ _ _ _).trans hr
    · cases hr
noncomputable def gexact_Limbs_r (qo qr : Mo) (qe qg ql : Mo) (fuel : Nat) (q4 : Bool) (qm qu : Nat) (qq : Ge) (z0 : Bool) (zd zl : Nat) (zj : Ge) : Option AV :=
  let r0 : Option AV := qo [AV.ptr (xidx [Blk.box [AV.bool q4,AV.ro 1 qm qu qq,AV.bool z0,AV.ro 1 zd zl zj]].length (xtoks [AV.ptr [Blk.box [AV.bool q4,AV.ro 1 qm qu qq,AV.bool z0,AV.ro 1 zd zl zj]].length 0,AV.ptr 0 0] [])) 0,AV.ptr (xidx 0 (xtoks [AV.ptr [Blk.box [AV.bool q4,AV.ro 1 qm qu qq,AV.bool z0,AV.ro 1 zd zl zj]].length 0,AV.ptr 0 0] [])) 0,AV.bool false,AV.ro 1 0 0 fun (x j : Nat) => [AV.int .u32 0].getD j AV.dead,AV.bool q4,AV.ro 1 qm qu qq,AV.bool z0,AV.ro 1 zd zl zj]; ck (okX [RS.one LK.b,RS.one (LK.l 1),RS.one LK.b,RS.one (LK.l 1),RS.one LK.b,RS.one (LK.l 1)] r0) <| gexact_Limbs_r_l0 qo qr qe qg ql fuel
    (fun (yg : Bool) (zx zv : Nat) (zw : Ge) (qn8 : Bool) (qlw qlf : Nat) (qlb : Ge) (_ : Bool) (_ _ : Nat) (_ : Ge) (qgi : List AV) (qe1 : List (List AV)) => some (AV.tup [AV.bool yg,AV.ro 1 zx zv zw,AV.bool qn8,AV.ro 1 qlw qlf qlb,AV.ro 1 qe1.length qe1.length fun (i j : Nat) => (qe1.getD i qgi).getD j AV.dead]))
    (toB ((toT (getV r0)).tail.tail.headD .dead))
    (toN ((toT (getV r0)).tail.tail.tail.headD .dead))
    (toR ((toT (getV r0)).tail.tail.tail.headD .dead))
    (toG ((toT (getV r0)).tail.tail.tail.headD .dead))
    (toB ((toT (getV r0)).tail.tail.tail.tail.headD .dead))
    (toN ((toT (getV r0)).tail.tail.tail.tail.tail.headD .dead))
    (toR ((toT (getV r0)).tail.tail.tail.tail.tail.headD .dead))
    (toG ((toT (getV r0)).tail.tail.tail.tail.tail.headD .dead))
    ([AV.int .u64 0]) fuel (toB ((toT (getV r0)).headD .dead)) (toN ((toT (getV r0)).tail.headD .dead)) (toR ((toT (getV r0)).tail.headD .dead)) (toG ((toT (getV r0)).tail.headD .dead)) ([])
theorem gexact_Limbs_r_run (qo qr : Mo) (qe qg ql : Mo) (fuel : Nat) (q4 : Bool) (qm qu : Nat) (qq : Ge) (z0 : Bool) (zd zl : Nat) (zj : Ge) : runX Pr (Gexact_Limbs_r qo qr qe qg ql) [((6,63),Lexact_Limbs_r qo qr qe qg ql fuel)] fuel 7 63 Xexact_Limbs_r [AV.ptr 0 0] [Blk.box [AV.bool q4,AV.ro 1 qm qu qq,AV.bool z0,AV.ro 1 zd zl zj]] = gexact_Limbs_r qo qr qe qg ql fuel q4 qm qu qq z0 zd zl zj := by kernel_rfl
noncomputable def mexact_Limbs_r (qo qr : Mo) (qe qg ql : Mo) (fuel : Nat) (xs : List AV) : Option AV := match xs with
  | [AV.ptr 0 0,AV.bool q4,AV.ro 1 qm qu qq,AV.bool z0,AV.ro 1 zd zl zj] => gexact_Limbs_r qo qr qe qg ql fuel q4 qm qu qq z0 zd zl zj
  | _ => none
theorem gexact_Limbs_r_sm (qo qr : Mo) (qe qg ql : Mo) (fuel : Nat) (hΓ : GamOk Pr (Gexact_Limbs_r qo qr qe qg ql)) (hP : NamesOk Pr) : XOk Pr 63 (smX Rexact_Limbs_r Xexact_Limbs_r (mexact_Limbs_r qo qr qe qg ql fuel)) Xexact_Limbs_r := by
  refine smX_ok (fuel := fuel) hΓ hP (LamOk.of 6 63 (Lexact_Limbs_r qo qr qe qg ql fuel) 1 (by kernel_rfl) (fun i hi => ?_)) 7 63 Rexact_Limbs_r Xexact_Limbs_r _ (fun xs0 ys0 v ha hb h => ?_)
  · match i,hi with
    | 0,_ => exact gexact_Limbs_r_L0 qo qr qe qg ql fuel
    | i + 1,hi => exact absurd hi (by omega)
  · skip
    have ha0 : xs0.length = 1 := ha
    clear ha
    obtain ⟨a0,xs1,rfl,ha1⟩ := len_cons ha0
    clear ha0
    obtain rfl := List.eq_nil_of_length_eq_zero ha1
    have hy0 : ys0.map List.length = [4] := hb
    clear hb
    obtain ⟨q4,ys1,rfl,hb0_0,hy1⟩ := map_cons' hy0
    clear hy0
    obtain ⟨c0_0,b0_1,rfl,hb0_1⟩ := len_cons hb0_0
    clear hb0_0
    obtain ⟨c0_1,z0,rfl,hb0_2⟩ := len_cons hb0_1
    clear hb0_1
    obtain ⟨c0_2,b0_3,rfl,hb0_3⟩ := len_cons hb0_2
    clear hb0_2
    obtain ⟨c0_3,b0_4,rfl,hb0_4⟩ := len_cons hb0_3
    clear hb0_3
    obtain rfl := List.eq_nil_of_length_eq_zero hb0_4
    obtain rfl := map_nil' hy1
    have h : mexact_Limbs_r qo qr qe qg ql fuel [a0,c0_0,c0_1,c0_2,c0_3] = some v := h
    generalize hx0 : [a0,c0_0,c0_1,c0_2,c0_3] = zs at h
    unfold mexact_Limbs_r at h
    split at h
    · skip
      obtain ⟨rfl,hx1⟩ := List.cons.inj hx0
      obtain ⟨rfl,hx2⟩ := List.cons.inj hx1
      obtain ⟨rfl,hx3⟩ := List.cons.inj hx2
      obtain ⟨rfl,hx4⟩ := List.cons.inj hx3
      obtain ⟨rfl,hx5⟩ := List.cons.inj hx4
      simp only [List.map_cons,List.map_nil]
      exact (gexact_Limbs_r_run qo qr qe qg ql fuel _ _ _ _ _ _ _ _).trans h
    · cases h
noncomputable def LRat_Denom_r (vf zu va : Mo) (fuel : Nat) : Lam AV := []
noncomputable def GRat_Denom_r (vf zu va : Mo) : Gam := [(56,smX RRat_den_b XRat_den_b vf),(80,smX RInt_Set_ii XInt_Set_ii zu),(80,smX RInt_Set_ir XInt_Set_ir va)]
noncomputable def gRat_Denom_r (vf zu va : Mo) (fuel : Nat) (q4 : Bool) (qm qu : Nat) (qq : Ge) (z0 : Bool) (zd zl : Nat) (zj : Ge) : Option AV :=
  let r0 : Option AV := vf [AV.ptr (xidx 0 (xtoks [AV.ptr 0 0] [])) 0,AV.bool q4,AV.ro 1 qm qu qq,AV.bool z0,AV.ro 1 zd zl zj]; ck (okX [RS.one LK.b,RS.one (LK.l 1),RS.one LK.b,RS.one (LK.l 1)] r0) <| let r1 : Option AV := va [AV.ptr (xidx [Blk.box [AV.bool q4,AV.ro 1 qm qu qq,AV.bool z0,AV.ro 1 zd zl zj]].length (xtoks [AV.ptr [Blk.box [AV.bool q4,AV.ro 1 qm qu qq,AV.bool z0,AV.ro 1 zd zl zj]].length 0,AV.ptr (xren (xtoks [AV.ptr 0 0] []) [Blk.box [AV.bool q4,AV.ro 1 qm qu qq,AV.bool z0,AV.ro 1 zd zl zj],Blk.box [AV.bool false,AV.nils 1 [AV.int .u32 0]]].length 0) 2] [])) 0,AV.ptr (xidx (xren (xtoks [AV.ptr 0 0] []) [Blk.box [AV.bool q4,AV.ro 1 qm qu qq,AV.bool z0,AV.ro 1 zd zl zj],Blk.box [AV.bool false,AV.nils 1 [AV.int .u32 0]]].length 0) (xtoks [AV.ptr [Blk.box [AV.bool q4,AV.ro 1 qm qu qq,AV.bool z0,AV.ro 1 zd zl zj]].length 0,AV.ptr (xren (xtoks [AV.ptr 0 0] []) [Blk.box [AV.bool q4,AV.ro 1 qm qu qq,AV.bool z0,AV.ro 1 zd zl zj],Blk.box [AV.bool false,AV.nils 1 [AV.int .u32 0]]].length 0) 2] [])) 2,AV.bool false,AV.ro 1 0 0 fun (x j : Nat) => [AV.int .u32 0].getD j AV.dead,AV.bool (toB ((toT (getV r0)).headD .dead)),AV.ro 1 (toN ((toT (getV r0)).tail.headD .dead)) (toR ((toT (getV r0)).tail.headD .dead)) (toG ((toT (getV r0)).tail.headD .dead)),AV.bool (toB ((toT (getV r0)).tail.tail.headD .dead)),AV.ro 1 (toN ((toT (getV r0)).tail.tail.tail.headD .dead)) (toR ((toT (getV r0)).tail.tail.tail.headD .dead)) (toG ((toT (getV r0)).tail.tail.tail.headD .dead))]; ck (okX [RS.one LK.b,RS.one (LK.l 1),RS.one LK.b,RS.one (LK.l 1),RS.one LK.b,RS.one (LK.l 1)] r1) <| some (AV.tup [AV.bool (toB ((toT (getV r1)).tail.tail.headD .dead)),AV.ro 1 (toN ((toT (getV r1)).tail.tail.tail.headD .dead)) (toR ((toT (getV r1)).tail.tail.tail.headD .dead)) (toG ((toT (getV r1)).tail.tail.tail.headD .dead)),AV.bool (toB ((toT (getV r1)).tail.tail.tail.tail.headD .dead)),AV.ro 1 (toN ((toT (getV r1)).tail.tail.tail.tail.tail.headD .dead)) (toR ((toT (getV r1)).tail.tail.tail.tail.tail.headD .dead)) (toG ((toT (getV r1)).tail.tail.tail.tail.tail.headD .dead)),AV.bool (toB ((toT (getV r1)).headD .dead)),AV.ro 1 (toN ((toT (getV r1)).tail.headD .dead)) (toR ((toT (getV r1)).tail.headD .dead)) (toG ((toT (getV r1)).tail.headD .dead))])
theorem gRat_Denom_r_run (vf zu va : Mo) (fuel : Nat) (q4 : Bool) (qm qu : Nat) (qq : Ge) (z0 : Bool) (zd zl : Nat) (zj : Ge) : runX Pr (GRat_Denom_r vf zu va) [((6,65),LRat_Denom_r vf zu va fuel)] fuel 7 65 XRat_Denom_r [AV.ptr 0 0] [Blk.box [AV.bool q4,AV.ro 1 qm qu qq,AV.bool z0,AV.ro 1 zd zl zj]] = gRat_Denom_r vf zu va fuel q4 qm qu qq z0 zd zl zj := by kernel_rfl
noncomputable def mRat_Denom_r (vf zu va : Mo) (fuel : Nat) (xs : List AV) : Option AV := match xs with
  | [AV.ptr 0 0,AV.bool q4,AV.ro 1 qm qu qq,AV.bool z0,AV.ro 1 zd zl zj] => gRat_Denom_r vf zu va fuel q4 qm qu qq z0 zd zl zj
  | _ => none
theorem gRat_Denom_r_sm (vf zu va : Mo) (fuel : Nat) (hΓ : GamOk Pr (GRat_Denom_r vf zu va)) (hP : NamesOk Pr) : XOk Pr 65 (smX RRat_Denom_r XRat_Denom_r (mRat_Denom_r vf zu va fuel)) XRat_Denom_r := by
  refine smX_ok (fuel := fuel) hΓ hP (LamOk.of 6 65 (LRat_Denom_r vf zu va fuel) 0 (by kernel_rfl) (fun i hi => ?_)) 7 65 RRat_Denom_r XRat_Denom_r _ (fun xs0 ys0 v ha hb h => ?_)
  · match i,hi with
    | i + 0,hi => exact absurd hi (by omega)
  · skip
    have ha0 : xs0.length = 1 := ha
    clear ha
    obtain ⟨a0,xs1,rfl,ha1⟩ := len_cons ha0
    clear ha0
    obtain rfl := List.eq_nil_of_length_eq_zero ha1
    have hy0 : ys0.map List.length = [4] := hb
    clear hb
    obtain ⟨q4,ys1,rfl,hb0_0,hy1⟩ := map_cons' hy0
    clear hy0
    obtain ⟨c0_0,b0_1,rfl,hb0_1⟩ := len_cons hb0_0
    clear hb0_0
    obtain ⟨c0_1,z0,rfl,hb0_2⟩ := len_cons hb0_1
    clear hb0_1
    obtain ⟨c0_2,b0_3,rfl,hb0_3⟩ := len_cons hb0_2
    clear hb0_2
    obtain ⟨c0_3,b0_4,rfl,hb0_4⟩ := len_cons hb0_3
    clear hb0_3
    obtain rfl := List.eq_nil_of_length_eq_zero hb0_4
    obtain rfl := map_nil' hy1
    have h : mRat_Denom_r vf zu va fuel [a0,c0_0,c0_1,c0_2,c0_3] = some v := h
    generalize hx0 : [a0,c0_0,c0_1,c0_2,c0_3] = zs at h
    unfold mRat_Denom_r at h
    split at h
    · skip
      obtain ⟨rfl,hx1⟩ := List.cons.inj hx0
      obtain ⟨rfl,hx2⟩ := List.cons.inj hx1
      obtain ⟨rfl,hx3⟩ := List.cons.inj hx2
      obtain ⟨rfl,hx4⟩ := List.cons.inj hx3
      obtain ⟨rfl,hx5⟩ := List.cons.inj hx4
      simp only [List.map_cons,List.map_nil]
      exact (gRat_Denom_r_run vf zu va fuel _ _ _ _ _ _ _ _).trans h
    · cases h
noncomputable def Lexact_Ratio_a (zz v8 : Mo) (v5 zr : Mo) (fuel : Nat) : Lam AV := []
noncomputable def Gexact_Ratio_a (zz v8 : Mo) (v5 zr : Mo) : Gam := [(62,smX RRat_Sign_r XRat_Sign_r zz),(63,smX Rexact_Limbs_a Xexact_Limbs_a v8),(63,smX Rexact_Limbs_r Xexact_Limbs_r v5),(65,smX RRat_Denom_r XRat_Denom_r zr)]
noncomputable def gexact_Ratio_a (zz v8 : Mo) (v5 zr : Mo) (fuel : Nat) (q4 : Bool) (qm qu : Nat) (qq : Ge) (z0 : Bool) (zd zl : Nat) (zj : Ge) : Option AV :=
  let r0 : Option AV := zz [AV.ptr (xidx 0 (xtoks [AV.ptr 0 0] [])) 0,AV.bool q4,AV.ro 1 qm qu qq,AV.bool z0,AV.ro 1 zd zl zj]; ck (okX [RS.one LK.b,RS.one (LK.l 1),RS.one LK.b,RS.one (LK.l 1),RS.one (LK.i .i64)] r0) <| let r1 : Option AV := v5 [AV.ptr (xidx 0 (xtoks [AV.ptr 0 0] [])) 0,AV.bool (toB ((toT (getV r0)).headD .dead)),AV.ro 1 (toN ((toT (getV r0)).tail.headD .dead)) (toR ((toT (getV r0)).tail.headD .dead)) (toG ((toT (getV r0)).tail.headD .dead)),AV.bool (toB ((toT (getV r0)).tail.tail.headD .dead)),AV.ro 1 (toN ((toT (getV r0)).tail.tail.tail.headD .dead)) (toR ((toT (getV r0)).tail.tail.tail.headD .dead)) (toG ((toT (getV r0)).tail.tail.tail.headD .dead))]; ck (okX [RS.one LK.b,RS.one (LK.l 1),RS.one LK.b,RS.one (LK.l 1),RS.one (LK.l 1)] r1) <| let r2 : Option AV := zr [AV.ptr (xidx 0 (xtoks [AV.ptr 0 0] [])) 0,AV.bool (toB ((toT (getV r1)).headD .dead)),AV.ro 1 (toN ((toT (getV r1)).tail.headD .dead)) (toR ((toT (getV r1)).tail.headD .dead)) (toG ((toT (getV r1)).tail.headD .dead)),AV.bool (toB ((toT (getV r1)).tail.tail.headD .dead)),AV.ro 1 (toN ((toT (getV r1)).tail.tail.tail.headD .dead)) (toR ((toT (getV r1)).tail.tail.tail.headD .dead)) (toG ((toT (getV r1)).tail.tail.tail.headD .dead))]; ck (okX [RS.one LK.b,RS.one (LK.l 1),RS.one LK.b,RS.one (LK.l 1),RS.one LK.b,RS.one (LK.l 1)] r2) <| let r3 : Option AV := v8 [AV.ptr (xidx (xren (xtoks [AV.ptr 0 0] []) [Blk.box [AV.bool (toB ((toT (getV r1)).headD .dead)),AV.ro 1 (toN ((toT (getV r1)).tail.headD .dead)) (toR ((toT (getV r1)).tail.headD .dead)) (toG ((toT (getV r1)).tail.headD .dead)),AV.bool (toB ((toT (getV r1)).tail.tail.headD .dead)),AV.ro 1 (toN ((toT (getV r1)).tail.tail.tail.headD .dead)) (toR ((toT (getV r1)).tail.tail.tail.headD .dead)) (toG ((toT (getV r1)).tail.tail.tail.headD .dead))],Blk.box [AV.bool false,AV.nils 1 [AV.int .u64 0],AV.nils 1 [AV.int .u64 0]]].length 1) (xtoks [AV.ptr (xren (xtoks [AV.ptr 0 0] []) [Blk.box [AV.bool (toB ((toT (getV r1)).headD .dead)),AV.ro 1 (toN ((toT (getV r1)).tail.headD .dead)) (toR ((toT (getV r1)).tail.headD .dead)) (toG ((toT (getV r1)).tail.headD .dead)),AV.bool (toB ((toT (getV r1)).tail.tail.headD .dead)),AV.ro 1 (toN ((toT (getV r1)).tail.tail.tail.headD .dead)) (toR ((toT (getV r1)).tail.tail.tail.headD .dead)) (toG ((toT (getV r1)).tail.tail.tail.headD .dead))],Blk.box [AV.bool false,AV.nils 1 [AV.int .u64 0],AV.nils 1 [AV.int .u64 0]]].length 1) 0] [])) 0,AV.bool (toB ((toT (getV r2)).tail.tail.tail.tail.headD .dead)),AV.ro 1 (toN ((toT (getV r2)).tail.tail.tail.tail.tail.headD .dead)) (toR ((toT (getV r2)).tail.tail.tail.tail.tail.headD .dead)) (toG ((toT (getV r2)).tail.tail.tail.tail.tail.headD .dead))]; ck (okX [RS.one LK.b,RS.one (LK.l 1),RS.one (LK.l 1)] r3) <| some (AV.tup [AV.bool (toB ((toT (getV r2)).headD .dead)),AV.ro 1 (toN ((toT (getV r2)).tail.headD .dead)) (toR ((toT (getV r2)).tail.headD .dead)) (toG ((toT (getV r2)).tail.headD .dead)),AV.bool (toB ((toT (getV r2)).tail.tail.headD .dead)),AV.ro 1 (toN ((toT (getV r2)).tail.tail.tail.headD .dead)) (toR ((toT (getV r2)).tail.tail.tail.headD .dead)) (toG ((toT (getV r2)).tail.tail.tail.headD .dead)),AV.agg [AV.bool (decide (toI ((toT (getV r0)).tail.tail.tail.tail.headD .dead) < 0)),AV.ro 1 (toN ((toT (getV r1)).tail.tail.tail.tail.headD .dead)) (toR ((toT (getV r1)).tail.tail.tail.tail.headD .dead)) (toG ((toT (getV r1)).tail.tail.tail.tail.headD .dead)),AV.ro 1 (toN ((toT (getV r3)).tail.tail.headD .dead)) (toR ((toT (getV r3)).tail.tail.headD .dead)) (toG ((toT (getV r3)).tail.tail.headD .dead))]])
theorem gexact_Ratio_a_run (zz v8 : Mo) (v5 zr : Mo) (fuel : Nat) (q4 : Bool) (qm qu : Nat) (qq : Ge) (z0 : Bool) (zd zl : Nat) (zj : Ge) : runX Pr (Gexact_Ratio_a zz v8 v5 zr) [((6,29),Lexact_Ratio_a zz v8 v5 zr fuel)] fuel 7 29 Xexact_Ratio_a [AV.ptr 0 0] [Blk.box [AV.bool q4,AV.ro 1 qm qu qq,AV.bool z0,AV.ro 1 zd zl zj]] = gexact_Ratio_a zz v8 v5 zr fuel q4 qm qu qq z0 zd zl zj := by kernel_rfl
noncomputable def mexact_Ratio_a (zz v8 : Mo) (v5 zr : Mo) (fuel : Nat) (xs : List AV) : Option AV := match xs with
  | [AV.ptr 0 0,AV.bool q4,AV.ro 1 qm qu qq,AV.bool z0,AV.ro 1 zd zl zj] => gexact_Ratio_a zz v8 v5 zr fuel q4 qm qu qq z0 zd zl zj
  | _ => none
theorem gexact_Ratio_a_sm (zz v8 : Mo) (v5 zr : Mo) (fuel : Nat) (hΓ : GamOk Pr (Gexact_Ratio_a zz v8 v5 zr)) (hP : NamesOk Pr) : XOk Pr 29 (smX Rexact_Ratio_a Xexact_Ratio_a (mexact_Ratio_a zz v8 v5 zr fuel)) Xexact_Ratio_a := by
  refine smX_ok (fuel := fuel) hΓ hP (LamOk.of 6 29 (Lexact_Ratio_a zz v8 v5 zr fuel) 0 (by kernel_rfl) (fun i hi => ?_)) 7 29 Rexact_Ratio_a Xexact_Ratio_a _ (fun xs0 ys0 v ha hb h => ?_)
  · match i,hi with
    | i + 0,hi => exact absurd hi (by omega)
  · skip
    have ha0 : xs0.length = 1 := ha
    clear ha
    obtain ⟨a0,xs1,rfl,ha1⟩ := len_cons ha0
    clear ha0
    obtain rfl := List.eq_nil_of_length_eq_zero ha1
    have hy0 : ys0.map List.length = [4] := hb
    clear hb
    obtain ⟨q4,ys1,rfl,hb0_0,hy1⟩ := map_cons' hy0
    clear hy0
    obtain ⟨c0_0,b0_1,rfl,hb0_1⟩ := len_cons hb0_0
    clear hb0_0
    obtain ⟨c0_1,z0,rfl,hb0_2⟩ := len_cons hb0_1
    clear hb0_1
    obtain ⟨c0_2,b0_3,rfl,hb0_3⟩ := len_cons hb0_2
    clear hb0_2
    obtain ⟨c0_3,b0_4,rfl,hb0_4⟩ := len_cons hb0_3
    clear hb0_3
    obtain rfl := List.eq_nil_of_length_eq_zero hb0_4
    obtain rfl := map_nil' hy1
    have h : mexact_Ratio_a zz v8 v5 zr fuel [a0,c0_0,c0_1,c0_2,c0_3] = some v := h
    generalize hx0 : [a0,c0_0,c0_1,c0_2,c0_3] = zs at h
    unfold mexact_Ratio_a at h
    split at h
    · skip
      obtain ⟨rfl,hx1⟩ := List.cons.inj hx0
      obtain ⟨rfl,hx2⟩ := List.cons.inj hx1
      obtain ⟨rfl,hx3⟩ := List.cons.inj hx2
      obtain ⟨rfl,hx4⟩ := List.cons.inj hx3
      obtain ⟨rfl,hx5⟩ := List.cons.inj hx4
      simp only [List.map_cons,List.map_nil]
      exact (gexact_Ratio_a_run zz v8 v5 zr fuel _ _ _ _ _ _ _ _).trans h
    · cases h
noncomputable def LInt_SetUint64_i (qh qc : Mo) (qb qa : Mo) (fuel : Nat) : Lam AV := []
noncomputable def GInt_SetUint64_i (qh qc : Mo) (qb qa : Mo) : Gam := [(114,smM [RS.one (LK.l (nat_lit 1))] qh),(84,smX RInt_give_i XInt_give_i qc),(84,smX RInt_give_ra XInt_give_ra qb),(84,smX RInt_give_rb XInt_give_rb qa)]
noncomputable def gInt_SetUint64_i (qh qc : Mo) (qb qa : Mo) (fuel : Nat) (ux1 : Int) (q4 : Bool) (qm qu : Nat) (qq : Ge) : Option AV :=
  let r0 : Option AV := qh [AV.int .u64 ux1]; ck (okM [RS.one (LK.l 1)] r0) <| let r1 : Option AV := qc [AV.ptr (xidx 0 (xtoks [AV.ptr 0 0,AV.bool false,AV.ro 1 (toN (getV r0)) (toR (getV r0)) (toG (getV r0))] [])) 0,AV.bool false,AV.ro 1 (toN (getV r0)) (toR (getV r0)) (toG (getV r0)),AV.bool q4,AV.ro 1 qm qu qq]; ck (okX [RS.one LK.b,RS.one (LK.l 1)] r1) <| some (AV.tup [AV.bool (toB ((toT (getV r1)).headD .dead)),AV.ro 1 (toN ((toT (getV r1)).tail.headD .dead)) (toR ((toT (getV r1)).tail.headD .dead)) (toG ((toT (getV r1)).tail.headD .dead))])
theorem gInt_SetUint64_i_run (qh qc : Mo) (qb qa : Mo) (fuel : Nat) (ux1 : Int) (q4 : Bool) (qm qu : Nat) (qq : Ge) : runX Pr (GInt_SetUint64_i qh qc qb qa) [((6,123),LInt_SetUint64_i qh qc qb qa fuel)] fuel 7 123 XInt_SetUint64_i [AV.ptr 0 0,AV.int .u64 ux1] [Blk.box [AV.bool q4,AV.ro 1 qm qu qq]] = gInt_SetUint64_i qh qc qb qa fuel ux1 q4 qm qu qq := by kernel_rfl
noncomputable def mInt_SetUint64_i (qh qc : Mo) (qb qa : Mo) (fuel : Nat) (xs : List AV) : Option AV := match xs with
  | [AV.ptr 0 0,AV.int .u64 ux1,AV.bool q4,AV.ro 1 qm qu qq] => gInt_SetUint64_i qh qc qb qa fuel ux1 q4 qm qu qq
  | _ => none
theorem gInt_SetUint64_i_sm (qh qc : Mo) (qb qa : Mo) (fuel : Nat) (hΓ : GamOk Pr (GInt_SetUint64_i qh qc qb qa)) (hP : NamesOk Pr) : XOk Pr 123 (smX RInt_SetUint64_i XInt_SetUint64_i (mInt_SetUint64_i qh qc qb qa fuel)) XInt_SetUint64_i := by
  refine smX_ok (fuel := fuel) hΓ hP (LamOk.of 6 123 (LInt_SetUint64_i qh qc qb qa fuel) 0 (by kernel_rfl) (fun i hi => ?_)) 7 123 RInt_SetUint64_i XInt_SetUint64_i _ (fun xs0 ys0 v ha hb h => ?_)
  · match i,hi with
    | i + 0,hi => exact absurd hi (by omega)
  · skip
    have ha0 : xs0.length = 2 := ha
    clear ha
    obtain ⟨a0,xs1,rfl,ha1⟩ := len_cons ha0
    clear ha0
    obtain ⟨a1,xs2,rfl,ha2⟩ := len_cons ha1
    clear ha1
    obtain rfl := List.eq_nil_of_length_eq_zero ha2
    have hy0 : ys0.map List.length = [2] := hb
    clear hb
    obtain ⟨q4,ys1,rfl,hb0_0,hy1⟩ := map_cons' hy0
    clear hy0
    obtain ⟨c0_0,b0_1,rfl,hb0_1⟩ := len_cons hb0_0
    clear hb0_0
    obtain ⟨c0_1,z0,rfl,hb0_2⟩ := len_cons hb0_1
    clear hb0_1
    obtain rfl := List.eq_nil_of_length_eq_zero hb0_2
    obtain rfl := map_nil' hy1
    have h : mInt_SetUint64_i qh qc qb qa fuel [a0,a1,c0_0,c0_1] = some v := h
    generalize hx0 : [a0,a1,c0_0,c0_1] = zs at h
    unfold mInt_SetUint64_i at h
    split at h
    · skip
      obtain ⟨rfl,hx1⟩ := List.cons.inj hx0
      obtain ⟨rfl,hx2⟩ := List.cons.inj hx1
      obtain ⟨rfl,hx3⟩ := List.cons.inj hx2
      obtain ⟨rfl,hx4⟩ := List.cons.inj hx3
      simp only [List.map_cons,List.map_nil]
      exact (gInt_SetUint64_i_run qh qc qb qa fuel _ _ _ _ _).trans h
    · cases h
noncomputable def LInt_BitLen_i (qy : Mo) (fuel : Nat) : Lam AV := []
noncomputable def GInt_BitLen_i (qy : Mo) : Gam := [(82,smM [RS.one (LK.i .i64)] qy)]
noncomputable def gInt_BitLen_i (qy : Mo) (fuel : Nat) (q4 : Bool) (qm qu : Nat) (qq : Ge) : Option AV :=
  ck (okM [RS.one (LK.i .i64)] (qy [AV.ro 1 qm qu qq])) <| some (AV.tup [AV.bool q4,AV.ro 1 qm qu qq,AV.int .i64 (toI (getV (qy [AV.ro 1 qm qu qq])))])
theorem gInt_BitLen_i_run (qy : Mo) (fuel : Nat) (q4 : Bool) (qm qu : Nat) (qq : Ge) : runX Pr (GInt_BitLen_i qy) [((6,124),LInt_BitLen_i qy fuel)] fuel 7 124 XInt_BitLen_i [AV.ptr 0 0] [Blk.box [AV.bool q4,AV.ro 1 qm qu qq]] = gInt_BitLen_i qy fuel q4 qm qu qq := by kernel_rfl
noncomputable def mInt_BitLen_i (qy : Mo) (fuel : Nat) (xs : List AV) : Option AV := match xs with
  | [AV.ptr 0 0,AV.bool q4,AV.ro 1 qm qu qq] => gInt_BitLen_i qy fuel q4 qm qu qq
  | _ => none
theorem gInt_BitLen_i_sm (qy : Mo) (fuel : Nat) (hΓ : GamOk Pr (GInt_BitLen_i qy)) (hP : NamesOk Pr) : XOk Pr 124 (smX RInt_BitLen_i XInt_BitLen_i (mInt_BitLen_i qy fuel)) XInt_BitLen_i := by
  refine smX_ok (fuel := fuel) hΓ hP (LamOk.of 6 124 (LInt_BitLen_i qy fuel) 0 (by kernel_rfl) (fun i hi => ?_)) 7 124 RInt_BitLen_i XInt_BitLen_i _ (fun xs0 ys0 v ha hb h => ?_)
  · match i,hi with
    | i + 0,hi => exact absurd hi (by omega)
  · skip
    have ha0 : xs0.length = 1 := ha
    clear ha
    obtain ⟨a0,xs1,rfl,ha1⟩ := len_cons ha0
    clear ha0
    obtain rfl := List.eq_nil_of_length_eq_zero ha1
    have hy0 : ys0.map List.length = [2] := hb
    clear hb
    obtain ⟨q4,ys1,rfl,hb0_0,hy1⟩ := map_cons' hy0
    clear hy0
    obtain ⟨c0_0,b0_1,rfl,hb0_1⟩ := len_cons hb0_0
    clear hb0_0
    obtain ⟨c0_1,z0,rfl,hb0_2⟩ := len_cons hb0_1
    clear hb0_1
    obtain rfl := List.eq_nil_of_length_eq_zero hb0_2
    obtain rfl := map_nil' hy1
    have h : mInt_BitLen_i qy fuel [a0,c0_0,c0_1] = some v := h
    generalize hx0 : [a0,c0_0,c0_1] = zs at h
    unfold mInt_BitLen_i at h
    split at h
    · skip
      obtain ⟨rfl,hx1⟩ := List.cons.inj hx0
      obtain ⟨rfl,hx2⟩ := List.cons.inj hx1
      obtain ⟨rfl,hx3⟩ := List.cons.inj hx2
      simp only [List.map_cons,List.map_nil]
      exact (gInt_BitLen_i_run qy fuel _ _ _ _).trans h
    · cases h
noncomputable def SInt_low_a_0 (qf0 : Int) (yt yd pp : Nat) (uc6 ui7 : Int) (zi : Bool) (q5 q8 : Nat) (q7 : Ge) (h1z : List AV) (h1e : List (List AV)) : St := { env := [(1,AV.int .i64 qf0),(5,AV.own 1 yt 1 yd pp),(6,AV.int .u64 uc6),(7,AV.int .i64 ui7)],h := [Blk.box [AV.bool zi,AV.ro 1 q5 q8 q7],Blk.fx 1 h1z h1e],kd := [] }
noncomputable def XInt_low_a_0_0 (qfr qd4 qgs : Nat) (yy : Bool) (y3 y2 : Nat) (y1 : Ge) (qlk : List AV) (qh5 : List (List AV)) : St := { env := [(5,AV.own 1 qfr 1 qd4 qgs)],h := [Blk.box [AV.bool yy,AV.ro 1 y3 y2 y1],Blk.fx 1 qlk qh5],kd := [] }
noncomputable def gInt_low_a_l0_step (fuel : Nat) (kn : Int → Int → List (List AV) → Option AV) (kx0 : Nat → Nat → Nat → Bool → Nat → Nat → Ge → List AV → List (List AV) → Option AV) (qf0 : Int) (yt yd pp : Nat) (zi : Bool) (q5 q8 : Nat) (q7 : Ge) (h1z : List AV) (uc6 ui7 : Int) (h1e : List (List AV)) : Option AV :=
  bif decide (ui7 < qf0) then ck (decide (0 ≤ ui7)) <| ck (decide (ui7 < (↑yd : Int))) <| ck (fitK (LK.i .u32) ((h1e.getD (yt + ui7.toNat) h1z).getD 0 AV.dead)) <| ck (decide (0 ≤ ui7)) <| ck (decide (ui7 < (↑yd : Int))) <| kn ((IntKind.u64.wrap (uc6 + IntKind.u64.wrap (IntKind.u32.wrap (↑(BitVec.ofInt 32 (if IntKind.u32.signed = true then (-1) else IntKind.u32.max) ^^^ BitVec.ofInt 32 (toI ((h1e.getD (yt + ui7.toNat) h1z).getD 0 AV.dead))).toNat : Int)))).fdiv (2 ^ 32)) (IntKind.i64.wrap (ui7 + 1)) (h1e.set (yt + ui7.toNat) (AV.int .u32 (IntKind.u32.wrap (IntKind.u64.wrap (uc6 + IntKind.u64.wrap (IntKind.u32.wrap (↑(BitVec.ofInt 32 (if IntKind.u32.signed = true then (-1) else IntKind.u32.max) ^^^ BitVec.ofInt 32 (toI ((h1e.getD (yt + ui7.toNat) h1z).getD 0 AV.dead))).toNat : Int))))) :: List.drop (0 + [AV.int .u32 (IntKind.u32.wrap (IntKind.u64.wrap (uc6 + IntKind.u64.wrap (IntKind.u32.wrap (↑(BitVec.ofInt 32 (if IntKind.u32.signed = true then (-1) else IntKind.u32.max) ^^^ BitVec.ofInt 32 (toI ((h1e.getD (yt + ui7.toNat) h1z).getD 0 AV.dead))).toNat : Int)))))].length) (h1e.getD (yt + ui7.toNat) h1z)))
  else kx0 yt yd pp zi q5 q8 q7 h1z h1e
noncomputable def gInt_low_a_l0 (fuel : Nat) (kx0 : Nat → Nat → Nat → Bool → Nat → Nat → Ge → List AV → List (List AV) → Option AV) (qf0 : Int) (yt yd pp : Nat) (zi : Bool) (q5 q8 : Nat) (q7 : Ge) (h1z : List AV) : Nat → Int → Int → List (List AV) → Option AV
  | 0,_,_,_ => none
  | n' + 1,uc6,ui7,h1e => gInt_low_a_l0_step fuel (gInt_low_a_l0 fuel kx0 qf0 yt yd pp zi q5 q8 q7 h1z n') kx0 qf0 yt yd pp zi q5 q8 q7 h1z uc6 ui7 h1e
noncomputable def TInt_low_a_0 : TS' := ⟨[(1,TA.i .i64),(5,TA.own 1 1),(6,TA.i .u64),(7,TA.i .i64)],[TB.box [TA.b,TA.ro 1],TB.fx 1],[]⟩
noncomputable def FInt_low_a_0 (fuel : Nat) (ps : List Pay) (K : Ex → St → Option AV) : Option AV := match ps with
  | .i qf0 :: .n yt :: .n yd :: .n pp :: .i uc6 :: .i ui7 :: .b zi :: .n q5 :: .n q8 :: .g q7 :: .z h1z :: .e h1e :: [] => gInt_low_a_l0 fuel (fun qfr qd4 qgs yy y3 y2 y1 qlk qh5 => K (Ex.exit 0) (XInt_low_a_0_0 qfr qd4 qgs yy y3 y2 y1 qlk qh5)) qf0 yt yd pp zi q5 q8 q7 h1z fuel uc6 ui7 h1e
  | _ => none
noncomputable def LInt_low_a (fuel : Nat) : Lam AV := [(1099510579392,lam TInt_low_a_0 (FInt_low_a_0 fuel))]
noncomputable def GInt_low_a : Gam := []
theorem gInt_low_a_l0_eq (fuel : Nat) (kn : St → Option AV) (K : Ex → St → Option AV) (qf0 : Int) (yt yd pp : Nat) (zi : Bool) (q5 q8 : Nat) (q7 : Ge) (h1z : List AV) (qjp qhe : Int) (qjn : List (List AV)) (uc6 ui7 : Int) (h1e : List (List AV)) :
    bX Pr GInt_low_a (LInt_low_a fuel) 6 143 0 fuel (SInt_low_a_0 qf0 yt yd pp uc6 ui7 zi q5 q8 q7 h1z h1e) (fun e s => match e with | .normal => kn (hX Pr 143 0 (SInt_low_a_0 qf0 yt yd pp qjp qhe zi q5 q8 q7 h1z qjn) s) | e => K e s) =
    gInt_low_a_l0_step fuel (fun uc6 ui7 h1e => kn (SInt_low_a_0 qf0 yt yd pp uc6 ui7 zi q5 q8 q7 h1z h1e)) (fun qa1 qaf qbt yg zx zv zw qdf qci => K (Ex.exit 0) (XInt_low_a_0_0 qa1 qaf qbt yg zx zv zw qdf qci)) qf0 yt yd pp zi q5 q8 q7 h1z uc6 ui7 h1e := by kernel_rfl
theorem gInt_low_a_l0_ok (fuel : Nat) (K : Ex → St → Option AV) (qf0 : Int) (yt yd pp : Nat) (zi : Bool) (q5 q8 : Nat) (q7 : Ge) (h1z : List AV) (qjp qhe : Int) (qjn : List (List AV)) : ∀ (n' : Nat) (uc6 ui7 : Int) (h1e : List (List AV)),
    loopK (bX Pr GInt_low_a (LInt_low_a fuel) 6 143 0 fuel) (hX Pr 143 0 (SInt_low_a_0 qf0 yt yd pp qjp qhe zi q5 q8 q7 h1z qjn)) n' (SInt_low_a_0 qf0 yt yd pp uc6 ui7 zi q5 q8 q7 h1z h1e) K = gInt_low_a_l0 fuel (fun qa1 qaf qbt yg zx zv zw qdf qci => K (Ex.exit 0) (XInt_low_a_0_0 qa1 qaf qbt yg zx zv zw qdf qci)) qf0 yt yd pp zi q5 q8 q7 h1z n' uc6 ui7 h1e
  | 0,_,_,_ => rfl
  | n' + 1,uc6,ui7,h1e => (gInt_low_a_l0_eq fuel (fun s => loopK (bX Pr GInt_low_a (LInt_low_a fuel) 6 143 0 fuel) (hX Pr 143 0 (SInt_low_a_0 qf0 yt yd pp qjp qhe zi q5 q8 q7 h1z qjn)) n' s K) K qf0 yt yd pp zi q5 q8 q7 h1z qjp qhe qjn uc6 ui7 h1e).trans
    (congrArg (fun kn => gInt_low_a_l0_step fuel kn _ qf0 yt yd pp zi q5 q8 q7 h1z uc6 ui7 h1e) (funext fun uc6 => funext fun ui7 => funext fun h1e => gInt_low_a_l0_ok fuel K qf0 yt yd pp zi q5 q8 q7 h1z qjp qhe qjn n' uc6 ui7 h1e))
theorem gInt_low_a_L0 (fuel : Nat) : LX Pr GInt_low_a (LInt_low_a fuel) 6 143 0 fuel := by
  refine .of TInt_low_a_0 (FInt_low_a_0 fuel) (fun L h => ?_) (fun ps st K r he hr => ?_)
  · have e : (LInt_low_a fuel).get (writes (lp Pr 143 0).1) = some (lam TInt_low_a_0 (FInt_low_a_0 fuel)) := by kernel_rfl
    exact (Option.some.inj (e.symm.trans h)).symm
  · unfold FInt_low_a_0 at hr
    split at hr
    · obtain rfl := (Option.some.inj he).symm
      exact (gInt_low_a_l0_ok fuel K _ _ _ _ _ _ _ _ _ _ _ _ fuel _ _ _).trans hr
    · cases hr
noncomputable def gInt_low_a (fuel : Nat) (un1 : Int) (q4 : Bool) (qm qu : Nat) (qq : Ge) : Option AV :=
  ck (decide (0 ≤ un1)) <| ck (decide (un1 ≤ un1)) <| ck ((4 * un1.toNat).ble 281474976710656) <| ck ((un1.toNat + 1).ble 4611686018427387904) <| bif q4 then gInt_low_a_l0 fuel
      (fun (qa1 qaf qbt : Nat) (yg : Bool) (zx zv : Nat) (zw : Ge) (_ : List AV) (qci : List (List AV)) => some (AV.tup [AV.bool yg,AV.ro 1 zx zv zw,AV.ro 1 qaf qbt fun (i j : Nat) => (qci.getD i []).getD j AV.dead,AV.ro 1 qci.length qci.length fun (i j : Nat) => (qci.getD i []).getD j AV.dead,AV.int .i64 (↑qa1 : Int)]))
      un1
      (0)
      (un1.toNat)
      (un1.toNat)
      q4
      qm
      qu
      qq
      ([AV.int .u32 0]) fuel (1) (0) ([] ++ rows 1 (qm.min un1.toNat) qq ++ List.drop (0 + qm.min un1.toNat) (List.replicate un1.toNat [AV.int .u32 0]))
  else some (AV.tup [AV.bool q4,AV.ro 1 qm qu qq,AV.ro 1 un1.toNat un1.toNat fun (i j : Nat) => (([] ++ rows 1 (qm.min un1.toNat) qq ++ List.drop (0 + qm.min un1.toNat) (List.replicate un1.toNat [AV.int .u32 0])).getD i []).getD j AV.dead,AV.ro 1 ([] ++ rows 1 (qm.min un1.toNat) qq ++ List.drop (0 + qm.min un1.toNat) (List.replicate un1.toNat [AV.int .u32 0])).length ([] ++ rows 1 (qm.min un1.toNat) qq ++ List.drop (0 + qm.min un1.toNat) (List.replicate un1.toNat [AV.int .u32 0])).length fun (i j : Nat) => (([] ++ rows 1 (qm.min un1.toNat) qq ++ List.drop (0 + qm.min un1.toNat) (List.replicate un1.toNat [AV.int .u32 0])).getD i []).getD j AV.dead,AV.int .i64 (↑0 : Int)])
theorem gInt_low_a_run (fuel : Nat) (un1 : Int) (q4 : Bool) (qm qu : Nat) (qq : Ge) : runX Pr GInt_low_a [((6,143),LInt_low_a fuel)] fuel 7 143 XInt_low_a [AV.ptr 0 0,AV.int .i64 un1] [Blk.box [AV.bool q4,AV.ro 1 qm qu qq]] = gInt_low_a fuel un1 q4 qm qu qq := by kernel_rfl
noncomputable def mInt_low_a (fuel : Nat) (xs : List AV) : Option AV := match xs with
  | [AV.ptr 0 0,AV.int .i64 un1,AV.bool q4,AV.ro 1 qm qu qq] => gInt_low_a fuel un1 q4 qm qu qq
  | _ => none
theorem gInt_low_a_sm (fuel : Nat) (hΓ : GamOk Pr GInt_low_a) (hP : NamesOk Pr) : XOk Pr 143 (smX RInt_low_a XInt_low_a (mInt_low_a fuel)) XInt_low_a := by
  refine smX_ok (fuel := fuel) hΓ hP (LamOk.of 6 143 (LInt_low_a fuel) 1 (by kernel_rfl) (fun i hi => ?_)) 7 143 RInt_low_a XInt_low_a _ (fun xs0 ys0 v ha hb h => ?_)
  · match i,hi with
    | 0,_ => exact gInt_low_a_L0 fuel
    | i + 1,hi => exact absurd hi (by omega)
  · skip
    have ha0 : xs0.length = 2 := ha
    clear ha
    obtain ⟨a0,xs1,rfl,ha1⟩ := len_cons ha0
    clear ha0
    obtain ⟨a1,xs2,rfl,ha2⟩ := len_cons ha1
    clear ha1
    obtain rfl := List.eq_nil_of_length_eq_zero ha2
    have hy0 : ys0.map List.length = [2] := hb
    clear hb
    obtain ⟨q4,ys1,rfl,hb0_0,hy1⟩ := map_cons' hy0
    clear hy0
    obtain ⟨c0_0,b0_1,rfl,hb0_1⟩ := len_cons hb0_0
    clear hb0_0
    obtain ⟨c0_1,z0,rfl,hb0_2⟩ := len_cons hb0_1
    clear hb0_1
    obtain rfl := List.eq_nil_of_length_eq_zero hb0_2
    obtain rfl := map_nil' hy1
    have h : mInt_low_a fuel [a0,a1,c0_0,c0_1] = some v := h
    generalize hx0 : [a0,a1,c0_0,c0_1] = zs at h
    unfold mInt_low_a at h
    split at h
    · skip
      obtain ⟨rfl,hx1⟩ := List.cons.inj hx0
      obtain ⟨rfl,hx2⟩ := List.cons.inj hx1
      obtain ⟨rfl,hx3⟩ := List.cons.inj hx2
      obtain ⟨rfl,hx4⟩ := List.cons.inj hx3
      simp only [List.map_cons,List.map_nil]
      exact (gInt_low_a_run fuel _ _ _ _ _).trans h
    · cases h
noncomputable def SInt_of_a_0 (qcy qdn : Nat) (qdc : Ge) (uc5 ui6 : Int) (zi : Bool) (q5 q8 : Nat) (q7 : Ge) : St := { env := [(0,AV.ptr 0 0),(1,AV.ro 1 qcy qdn qdc),(5,AV.int .u64 uc5),(6,AV.int .i64 ui6)],h := [Blk.box [AV.bool zi,AV.ro 1 q5 q8 q7]],kd := [] }
noncomputable def XInt_of_a_0_0 (qq3 qqc : Nat) (qqt : Ge) (yy : Bool) (y3 y2 : Nat) (y1 : Ge) : St := { env := [(0,AV.ptr 0 0),(1,AV.ro 1 qq3 qqc qqt)],h := [Blk.box [AV.bool yy,AV.ro 1 y3 y2 y1]],kd := [] }
noncomputable def gInt_of_a_l0_step (qf qc : Mo) (qb qa : Mo) (fuel : Nat) (kn : Option AV) (kx0 : Nat → Nat → Ge → Bool → Nat → Nat → Ge → Option AV) (qcy qdn : Nat) (qdc : Ge) (uc5 ui6 : Int) (zi : Bool) (q5 q8 : Nat) (q7 : Ge) : Option AV :=
  bif decide (ui6 < (↑qcy : Int)) then ck (decide (0 ≤ ui6)) <| ck (decide (ui6 < (↑qcy : Int))) <| ck (fitK (LK.i .u32) (qdc ui6.toNat 0)) <| ck (decide (0 ≤ ui6)) <| ck (decide (ui6 < (↑qcy : Int))) <| none
  else kx0 qcy qdn qdc zi q5 q8 q7
noncomputable def gInt_of_a_l0 (qf qc : Mo) (qb qa : Mo) (fuel : Nat) (kx0 : Nat → Nat → Ge → Bool → Nat → Nat → Ge → Option AV) (qcy qdn : Nat) (qdc : Ge) (uc5 ui6 : Int) (zi : Bool) (q5 q8 : Nat) (q7 : Ge) : Nat → Option AV
  | 0 => none
  | n' + 1 => gInt_of_a_l0_step qf qc qb qa fuel (gInt_of_a_l0 qf qc qb qa fuel kx0 qcy qdn qdc uc5 ui6 zi q5 q8 q7 n') kx0 qcy qdn qdc uc5 ui6 zi q5 q8 q7
noncomputable def TInt_of_a_0 : TS' := ⟨[(0,TA.ptr 0 0),(1,TA.ro 1),(5,TA.i .u64),(6,TA.i .i64)],[TB.box [TA.b,TA.ro 1]],[]⟩
noncomputable def FInt_of_a_0 (qf qc : Mo) (qb qa : Mo) (fuel : Nat) (ps : List Pay) (K : Ex → St → Option AV) : Option AV := match ps with
  | .n qcy :: .n qdn :: .g qdc :: .i uc5 :: .i ui6 :: .b zi :: .n q5 :: .n q8 :: .g q7 :: [] => gInt_of_a_l0 qf qc qb qa fuel (fun qq3 qqc qqt yy y3 y2 y1 => K (Ex.exit 0) (XInt_of_a_0_0 qq3 qqc qqt yy y3 y2 y1)) qcy qdn qdc uc5 ui6 zi q5 q8 q7 fuel
  | _ => none
noncomputable def LInt_of_a (qf qc : Mo) (qb qa : Mo) (fuel : Nat) : Lam AV := [(2199022207072,lam TInt_of_a_0 (FInt_of_a_0 qf qc qb qa fuel))]
noncomputable def GInt_of_a (qf qc : Mo) (qb qa : Mo) : Gam := [(121,smM [RS.one (LK.l (nat_lit 1))] qf),(84,smX RInt_give_i XInt_give_i qc),(84,smX RInt_give_ra XInt_give_ra qb),(84,smX RInt_give_rb XInt_give_rb qa)]
theorem gInt_of_a_l0_eq (qf qc : Mo) (qb qa : Mo) (fuel : Nat) (kn : St → Option AV) (K : Ex → St → Option AV) (qcy qdn : Nat) (qdc : Ge) (uc5 ui6 : Int) (zi : Bool) (q5 q8 : Nat) (q7 : Ge) :
    bX Pr (GInt_of_a qf qc qb qa) (LInt_of_a qf qc qb qa fuel) 6 144 0 fuel (SInt_of_a_0 qcy qdn qdc uc5 ui6 zi q5 q8 q7) (fun e s => match e with | .normal => kn (hX Pr 144 0 (SInt_of_a_0 qcy qdn qdc uc5 ui6 zi q5 q8 q7) s) | e => K e s) =
    gInt_of_a_l0_step qf qc qb qa fuel (kn (SInt_of_a_0 qcy qdn qdc uc5 ui6 zi q5 q8 q7)) (fun qne qnn qo6 yg zx zv zw => K (Ex.exit 0) (XInt_of_a_0_0 qne qnn qo6 yg zx zv zw)) qcy qdn qdc uc5 ui6 zi q5 q8 q7 := by kernel_rfl
theorem gInt_of_a_l0_ok (qf qc : Mo) (qb qa : Mo) (fuel : Nat) (K : Ex → St → Option AV) (qcy qdn : Nat) (qdc : Ge) (uc5 ui6 : Int) (zi : Bool) (q5 q8 : Nat) (q7 : Ge) : ∀ (n' : Nat),
    loopK (bX Pr (GInt_of_a qf qc qb qa) (LInt_of_a qf qc qb qa fuel) 6 144 0 fuel) (hX Pr 144 0 (SInt_of_a_0 qcy qdn qdc uc5 ui6 zi q5 q8 q7)) n' (SInt_of_a_0 qcy qdn qdc uc5 ui6 zi q5 q8 q7) K = gInt_of_a_l0 qf qc qb qa fuel (fun qne qnn qo6 yg zx zv zw => K (Ex.exit 0) (XInt_of_a_0_0 qne qnn qo6 yg zx zv zw)) qcy qdn qdc uc5 ui6 zi q5 q8 q7 n'
  | 0 => rfl
  | n' + 1 => (gInt_of_a_l0_eq qf qc qb qa fuel (fun s => loopK (bX Pr (GInt_of_a qf qc qb qa) (LInt_of_a qf qc qb qa fuel) 6 144 0 fuel) (hX Pr 144 0 (SInt_of_a_0 qcy qdn qdc uc5 ui6 zi q5 q8 q7)) n' s K) K qcy qdn qdc uc5 ui6 zi q5 q8 q7).trans
    (congrArg (fun kn => gInt_of_a_l0_step qf qc qb qa fuel kn (fun qne qnn qo6 yg zx zv zw => K (Ex.exit 0) (XInt_of_a_0_0 qne qnn qo6 yg zx zv zw)) qcy qdn qdc uc5 ui6 zi q5 q8 q7) (gInt_of_a_l0_ok qf qc qb qa fuel K qcy qdn qdc uc5 ui6 zi q5 q8 q7 n'))
theorem gInt_of_a_L0 (qf qc : Mo) (qb qa : Mo) (fuel : Nat) : LX Pr (GInt_of_a qf qc qb qa) (LInt_of_a qf qc qb qa fuel) 6 144 0 fuel := by
  refine .of TInt_of_a_0 (FInt_of_a_0 qf qc qb qa fuel) (fun L h => ?_) (fun ps st K r he hr => ?_)
  · have e : (LInt_of_a qf qc qb qa fuel).get (writes (lp Pr 144 0).1) = some (lam TInt_of_a_0 (FInt_of_a_0 qf qc qb qa fuel)) := by kernel_rfl
    exact (Option.some.inj (e.symm.trans h)).symm
  · unfold FInt_of_a_0 at hr
    split at hr
    · obtain rfl := (Option.some.inj he).symm
      exact (gInt_of_a_l0_ok qf qc qb qa fuel K _ _ _ _ _ _ _ _ _ fuel).trans hr
    · cases hr
noncomputable def gInt_of_a (qf qc : Mo) (qb qa : Mo) (fuel qkv qsh : Nat) (qql : Ge) (q4 : Bool) (qm qu : Nat) (qq : Ge) : Option AV :=
  ck (bif decide ((↑qkv : Int) > 0) then decide (0 ≤ IntKind.i64.wrap ((↑qkv : Int) - 1)) else true) <| ck (bif decide ((↑qkv : Int) > 0) then decide (IntKind.i64.wrap ((↑qkv : Int) - 1) < (↑qkv : Int)) else true) <| ck (bif decide ((↑qkv : Int) > 0) then true else true) <| ck (bif decide ((↑qkv : Int) > 0) then fitK (LK.i .u32) (qql (IntKind.i64.wrap ((↑qkv : Int) - 1)).toNat 0) else true) <| ck (bif decide ((↑qkv : Int) > 0) then true else true) <| bif bif decide ((↑qkv : Int) > 0) then (toI (qql (IntKind.i64.wrap ((↑qkv : Int) - 1)).toNat 0)).fdiv (2 ^ 31) == 1 else false then gInt_of_a_l0 qf qc qb qa fuel
      (fun (qne qnn : Nat) (qo6 : Ge) (yg : Bool) (zx zv : Nat) (zw : Ge) => let r0 : Option AV := qf [AV.ro 1 qne qnn qo6]; ck (okM [RS.one (LK.l 1)] r0) <| let r1 : Option AV := qc [AV.ptr (xidx 0 (xtoks [AV.ptr 0 0,AV.bool true,AV.ro 1 (toN (getV r0)) (toR (getV r0)) (toG (getV r0))] [])) 0,AV.bool true,AV.ro 1 (toN (getV r0)) (toR (getV r0)) (toG (getV r0)),AV.bool yg,AV.ro 1 zx zv zw]; ck (okX [RS.one LK.b,RS.one (LK.l 1)] r1) <| some (AV.tup [AV.bool (toB ((toT (getV r1)).headD .dead)),AV.ro 1 (toN ((toT (getV r1)).tail.headD .dead)) (toR ((toT (getV r1)).tail.headD .dead)) (toG ((toT (getV r1)).tail.headD .dead))]))
      qkv
      qsh
      qql
      (1)
      (0)
      q4
      qm
      qu
      qq fuel
  else let r2 : Option AV := qf [AV.ro 1 qkv qsh qql]; ck (okM [RS.one (LK.l 1)] r2) <| let r3 : Option AV := qc [AV.ptr (xidx 0 (xtoks [AV.ptr 0 0,AV.bool false,AV.ro 1 (toN (getV r2)) (toR (getV r2)) (toG (getV r2))] [])) 0,AV.bool false,AV.ro 1 (toN (getV r2)) (toR (getV r2)) (toG (getV r2)),AV.bool q4,AV.ro 1 qm qu qq]; ck (okX [RS.one LK.b,RS.one (LK.l 1)] r3) <| some (AV.tup [AV.bool (toB ((toT (getV r3)).headD .dead)),AV.ro 1 (toN ((toT (getV r3)).tail.headD .dead)) (toR ((toT (getV r3)).tail.headD .dead)) (toG ((toT (getV r3)).tail.headD .dead))])
theorem gInt_of_a_run (qf qc : Mo) (qb qa : Mo) (fuel qkv qsh : Nat) (qql : Ge) (q4 : Bool) (qm qu : Nat) (qq : Ge) : runX Pr (GInt_of_a qf qc qb qa) [((6,144),LInt_of_a qf qc qb qa fuel)] fuel 7 144 XInt_of_a [AV.ptr 0 0,AV.ro 1 qkv qsh qql] [Blk.box [AV.bool q4,AV.ro 1 qm qu qq]] = gInt_of_a qf qc qb qa fuel qkv qsh qql q4 qm qu qq := by kernel_rfl
noncomputable def mInt_of_a (qf qc : Mo) (qb qa : Mo) (fuel : Nat) (xs : List AV) : Option AV := match xs with
  | [AV.ptr 0 0,AV.ro 1 qkv qsh qql,AV.bool q4,AV.ro 1 qm qu qq] => gInt_of_a qf qc qb qa fuel qkv qsh qql q4 qm qu qq
  | _ => none
theorem gInt_of_a_sm (qf qc : Mo) (qb qa : Mo) (fuel : Nat) (hΓ : GamOk Pr (GInt_of_a qf qc qb qa)) (hP : NamesOk Pr) : XOk Pr 144 (smX RInt_of_a XInt_of_a (mInt_of_a qf qc qb qa fuel)) XInt_of_a := by
  refine smX_ok (fuel := fuel) hΓ hP (LamOk.of 6 144 (LInt_of_a qf qc qb qa fuel) 1 (by kernel_rfl) (fun i hi => ?_)) 7 144 RInt_of_a XInt_of_a _ (fun xs0 ys0 v ha hb h => ?_)
  · match i,hi with
    | 0,_ => exact gInt_of_a_L0 qf qc qb qa fuel
    | i + 1,hi => exact absurd hi (by omega)
  · skip
    have ha0 : xs0.length = 2 := ha
    clear ha
    obtain ⟨a0,xs1,rfl,ha1⟩ := len_cons ha0
    clear ha0
    obtain ⟨a1,xs2,rfl,ha2⟩ := len_cons ha1
    clear ha1
    obtain rfl := List.eq_nil_of_length_eq_zero ha2
    have hy0 : ys0.map List.length = [2] := hb
    clear hb
    obtain ⟨q4,ys1,rfl,hb0_0,hy1⟩ := map_cons' hy0
    clear hy0
    obtain ⟨c0_0,b0_1,rfl,hb0_1⟩ := len_cons hb0_0
    clear hb0_0
    obtain ⟨c0_1,z0,rfl,hb0_2⟩ := len_cons hb0_1
    clear hb0_1
    obtain rfl := List.eq_nil_of_length_eq_zero hb0_2
    obtain rfl := map_nil' hy1
    have h : mInt_of_a qf qc qb qa fuel [a0,a1,c0_0,c0_1] = some v := h
    generalize hx0 : [a0,a1,c0_0,c0_1] = zs at h
    unfold mInt_of_a at h
    split at h
    · skip
      obtain ⟨rfl,hx1⟩ := List.cons.inj hx0
      obtain ⟨rfl,hx2⟩ := List.cons.inj hx1
      obtain ⟨rfl,hx3⟩ := List.cons.inj hx2
      obtain ⟨rfl,hx4⟩ := List.cons.inj hx3
      simp only [List.map_cons,List.map_nil]
      exact (gInt_of_a_run qf qc qb qa fuel _ _ _ _ _ _ _).trans h
    · cases h
noncomputable def SInt_And_a_0 (un7 : Int) (qcg qc2 : Nat) (qds qc7 : Nat) (qdz qeg : Nat) (qag : Int) (zi : Bool) (q5 q8 : Nat) (q7 : Ge) (z2 : Bool) (zm zp : Nat) (zo : Ge) (qdm : Bool) (qgb qf6 : Nat) (qf3 : Ge) (h3z : List AV) (h3e : List (List AV)) (h4z : List AV) (h4e : List (List AV)) : St := { env := [(0,AV.ptr 0 0),(7,AV.int .i64 un7),(8,AV.own 3 qcg 1 qc2 qds),(9,AV.own 4 qc7 1 qdz qeg),(10,AV.int .i64 qag)],h := [Blk.box [AV.bool zi,AV.ro 1 q5 q8 q7],Blk.box [AV.bool z2,AV.ro 1 zm zp zo],Blk.box [AV.bool qdm,AV.ro 1 qgb qf6 qf3],Blk.fx 1 h3z h3e,Blk.fx 1 h4z h4e],kd := [] }
noncomputable def XInt_And_a_0_0 (qkc qjz qj3 : Nat) (yy : Bool) (y3 y2 : Nat) (y1 : Ge) (pc : Bool) (qbb qa9 : Nat) (qba : Ge) (qet : Bool) (qm7 qnp : Nat) (qn9 : Ge) (qhy : List AV) (qh2 : List (List AV)) (qtc : List AV) (qtb : List (List AV)) : St := { env := [(0,AV.ptr 0 0),(8,AV.own 3 qkc 1 qjz qj3)],h := [Blk.box [AV.bool yy,AV.ro 1 y3 y2 y1],Blk.box [AV.bool pc,AV.ro 1 qbb qa9 qba],Blk.box [AV.bool qet,AV.ro 1 qm7 qnp qn9],Blk.fx 1 qhy qh2,Blk.fx 1 qtc qtb],kd := [] }
noncomputable def gInt_And_a_l0_step (q2 wg : Mo) (fuel : Nat) (kn : Int → List (List AV) → Option AV) (kx0 : Nat → Nat → Nat → Bool → Nat → Nat → Ge → Bool → Nat → Nat → Ge → Bool → Nat → Nat → Ge → List AV → List (List AV) → List AV → List (List AV) → Option AV) (un7 : Int) (qcg qc2 : Nat) (qds qc7 : Nat) (qdz qeg : Nat) (zi : Bool) (q5 q8 : Nat) (q7 : Ge) (z2 : Bool) (zm zp : Nat) (zo : Ge) (qdm : Bool) (qgb qf6 : Nat) (qf3 : Ge) (h3z h4z : List AV) (h4e : List (List AV)) (qag : Int) (h3e : List (List AV)) : Option AV :=
  bif decide (qag < un7) then ck (decide (0 ≤ qag)) <| ck (decide (qag < (↑qc2 : Int))) <| ck (fitK (LK.i .u32) ((h3e.getD (qcg + qag.toNat) h3z).getD 0 AV.dead)) <| ck (decide (0 ≤ qag)) <| ck (decide (qag < (↑qdz : Int))) <| ck (fitK (LK.i .u32) ((h4e.getD (qc7 + qag.toNat) h4z).getD 0 AV.dead)) <| ck (decide (0 ≤ qag)) <| ck (decide (qag < (↑qc2 : Int))) <| kn (IntKind.i64.wrap (qag + 1)) (h3e.set (qcg + qag.toNat) (AV.int .u32 (IntKind.u32.wrap (↑(BitVec.ofInt 32 (toI ((h3e.getD (qcg + qag.toNat) h3z).getD 0 AV.dead)) &&& BitVec.ofInt 32 (toI ((h4e.getD (qc7 + qag.toNat) h4z).getD 0 AV.dead))).toNat : Int)) :: List.drop (0 + [AV.int .u32 (IntKind.u32.wrap (↑(BitVec.ofInt 32 (toI ((h3e.getD (qcg + qag.toNat) h3z).getD 0 AV.dead)) &&& BitVec.ofInt 32 (toI ((h4e.getD (qc7 + qag.toNat) h4z).getD 0 AV.dead))).toNat : Int))].length) (h3e.getD (qcg + qag.toNat) h3z)))
  else kx0 qcg qc2 qds zi q5 q8 q7 z2 zm zp zo qdm qgb qf6 qf3 h3z h3e h4z h4e
noncomputable def gInt_And_a_l0 (q2 wg : Mo) (fuel : Nat) (kx0 : Nat → Nat → Nat → Bool → Nat → Nat → Ge → Bool → Nat → Nat → Ge → Bool → Nat → Nat → Ge → List AV → List (List AV) → List AV → List (List AV) → Option AV) (un7 : Int) (qcg qc2 : Nat) (qds qc7 : Nat) (qdz qeg : Nat) (zi : Bool) (q5 q8 : Nat) (q7 : Ge) (z2 : Bool) (zm zp : Nat) (zo : Ge) (qdm : Bool) (qgb qf6 : Nat) (qf3 : Ge) (h3z h4z : List AV) (h4e : List (List AV)) : Nat → Int → List (List AV) → Option AV
  | 0,_,_ => none
  | n' + 1,qag,h3e => gInt_And_a_l0_step q2 wg fuel (gInt_And_a_l0 q2 wg fuel kx0 un7 qcg qc2 qds qc7 qdz qeg zi q5 q8 q7 z2 zm zp zo qdm qgb qf6 qf3 h3z h4z h4e n') kx0 un7 qcg qc2 qds qc7 qdz qeg zi q5 q8 q7 z2 zm zp zo qdm qgb qf6 qf3 h3z h4z h4e qag h3e
termination_by structural k => k
noncomputable def TInt_And_a_0 : TS' := ⟨[(0,TA.ptr 0 0),(7,TA.i .i64),(8,TA.own 3 1),(9,TA.own 4 1),(10,TA.i .i64)],[TB.box [TA.b,TA.ro 1],TB.box [TA.b,TA.ro 1],TB.box [TA.b,TA.ro 1],TB.fx 1,TB.fx 1],[]⟩
noncomputable def FInt_And_a_0 (q2 wg : Mo) (fuel : Nat) (ps : List Pay) (K : Ex → St → Option AV) : Option AV := match ps with
  | .i un7 :: .n qcg :: .n qc2 :: .n qds :: .n qc7 :: .n qdz :: .n qeg :: .i qag :: .b zi :: .n q5 :: .n q8 :: .g q7 :: .b z2 :: .n zm :: .n zp :: .g zo :: .b qdm :: .n qgb :: .n qf6 :: .g qf3 :: .z h3z :: .e h3e :: .z h4z :: .e h4e :: [] => gInt_And_a_l0 q2 wg fuel (fun qkc qjz qj3 yy y3 y2 y1 pc qbb qa9 qba qet qm7 qnp qn9 qhy qh2 qtc qtb => K (Ex.exit 0) (XInt_And_a_0_0 qkc qjz qj3 yy y3 y2 y1 pc qbb qa9 qba qet qm7 qnp qn9 qhy qh2 qtc qtb)) un7 qcg qc2 qds qc7 qdz qeg zi q5 q8 q7 z2 zm zp zo qdm qgb qf6 qf3 h3z h4z h4e fuel qag h3e
  | _ => none
noncomputable def LInt_And_a (q2 wg : Mo) (fuel : Nat) : Lam AV := [(17591649174528,lam TInt_And_a_0 (FInt_And_a_0 q2 wg fuel))]
noncomputable def GInt_And_a (q2 wg : Mo) : Gam := [(143,smX RInt_low_a XInt_low_a q2),(144,smX RInt_of_a XInt_of_a wg)]
theorem gInt_And_a_l0_eq (q2 wg : Mo) (fuel : Nat) (kn : St → Option AV) (K : Ex → St → Option AV) (un7 : Int) (qcg qc2 : Nat) (qds qc7 : Nat) (qdz qeg : Nat) (zi : Bool) (q5 q8 : Nat) (q7 : Ge) (z2 : Bool) (zm zp : Nat) (zo : Ge) (qdm : Bool) (qgb qf6 : Nat) (qf3 : Ge) (h3z h4z : List AV) (h4e : List (List AV)) (qjl : Int) (ql9 : List (List AV)) (qag : Int) (h3e : List (List AV)) :
    bX Pr (GInt_And_a q2 wg) (LInt_And_a q2 wg fuel) 6 125 0 fuel (SInt_And_a_0 un7 qcg qc2 qds qc7 qdz qeg qag zi q5 q8 q7 z2 zm zp zo qdm qgb qf6 qf3 h3z h3e h4z h4e) (fun e s => match e with | .normal => kn (hX Pr 125 0 (SInt_And_a_0 un7 qcg qc2 qds qc7 qdz qeg qjl zi q5 q8 q7 z2 zm zp zo qdm qgb qf6 qf3 h3z ql9 h4z h4e) s) | e => K e s) =
    gInt_And_a_l0_step q2 wg fuel (fun qag h3e => kn (SInt_And_a_0 un7 qcg qc2 qds qc7 qdz qeg qag zi q5 q8 q7 z2 zm zp zo qdm qgb qf6 qf3 h3z h3e h4z h4e)) (fun qho qhh qhk yg zx zv zw p2 qal qao qam qez qlh qll qle qi4 qhs xh4z xh4e => K (Ex.exit 0) (XInt_And_a_0_0 qho qhh qhk yg zx zv zw p2 qal qao qam qez qlh qll qle qi4 qhs xh4z xh4e)) un7 qcg qc2 qds qc7 qdz qeg zi q5 q8 q7 z2 zm zp zo qdm qgb qf6 qf3 h3z h4z h4e qag h3e := by kernel_rfl
theorem gInt_And_a_l0_ok (q2 wg : Mo) (fuel : Nat) (K : Ex → St → Option AV) (un7 : Int) (qcg qc2 : Nat) (qds qc7 : Nat) (qdz qeg : Nat) (zi : Bool) (q5 q8 : Nat) (q7 : Ge) (z2 : Bool) (zm zp : Nat) (zo : Ge) (qdm : Bool) (qgb qf6 : Nat) (qf3 : Ge) (h3z h4z : List AV) (h4e : List (List AV)) (qjl : Int) (ql9 : List (List AV)) : ∀ (n' : Nat) (qag : Int) (h3e : List (List AV)),
    loopK (bX Pr (GInt_And_a q2 wg) (LInt_And_a q2 wg fuel) 6 125 0 fuel) (hX Pr 125 0 (SInt_And_a_0 un7 qcg qc2 qds qc7 qdz qeg qjl zi q5 q8 q7 z2 zm zp zo qdm qgb qf6 qf3 h3z ql9 h4z h4e)) n' (SInt_And_a_0 un7 qcg qc2 qds qc7 qdz qeg qag zi q5 q8 q7 z2 zm zp zo qdm qgb qf6 qf3 h3z h3e h4z h4e) K = gInt_And_a_l0 q2 wg fuel (fun qho qhh qhk yg zx zv zw p2 qal qao qam qez qlh qll qle qi4 qhs xh4z xh4e => K (Ex.exit 0) (XInt_And_a_0_0 qho qhh qhk yg zx zv zw p2 qal qao qam qez qlh qll qle qi4 qhs xh4z xh4e)) un7 qcg qc2 qds qc7 qdz qeg zi q5 q8 q7 z2 zm zp zo qdm qgb qf6 qf3 h3z h4z h4e n' qag h3e
  | 0,_,_ => rfl
  | n' + 1,qag,h3e => (gInt_And_a_l0_eq q2 wg fuel (fun s => loopK (bX Pr (GInt_And_a q2 wg) (LInt_And_a q2 wg fuel) 6 125 0 fuel) (hX Pr 125 0 (SInt_And_a_0 un7 qcg qc2 qds qc7 qdz qeg qjl zi q5 q8 q7 z2 zm zp zo qdm qgb qf6 qf3 h3z ql9 h4z h4e)) n' s K) K un7 qcg qc2 qds qc7 qdz qeg zi q5 q8 q7 z2 zm zp zo qdm qgb qf6 qf3 h3z h4z h4e qjl ql9 qag h3e).trans
    (congrArg (fun kn => gInt_And_a_l0_step q2 wg fuel kn _ un7 qcg qc2 qds qc7 qdz qeg zi q5 q8 q7 z2 zm zp zo qdm qgb qf6 qf3 h3z h4z h4e qag h3e) (funext fun qag => funext fun h3e => gInt_And_a_l0_ok q2 wg fuel K un7 qcg qc2 qds qc7 qdz qeg zi q5 q8 q7 z2 zm zp zo qdm qgb qf6 qf3 h3z h4z h4e qjl ql9 n' qag h3e))
theorem gInt_And_a_L0 (q2 wg : Mo) (fuel : Nat) : LX Pr (GInt_And_a q2 wg) (LInt_And_a q2 wg fuel) 6 125 0 fuel := by
  refine .of TInt_And_a_0 (FInt_And_a_0 q2 wg fuel) (fun L h => ?_) (fun ps st K r he hr => ?_)
  · have e : (LInt_And_a q2 wg fuel).get (writes (lp Pr 125 0).1) = some (lam TInt_And_a_0 (FInt_And_a_0 q2 wg fuel)) := by kernel_rfl
    exact (Option.some.inj (e.symm.trans h)).symm
  · unfold FInt_And_a_0 at hr
    split at hr
    · obtain rfl := (Option.some.inj he).symm
      exact (gInt_And_a_l0_ok q2 wg fuel K _ _ _ _ _ _ _ _ _ _ _ _ _ _ _ _ _ _ _ _ _ _ _ _ fuel _ _).trans hr
    · cases hr
noncomputable def gInt_And_a (q2 wg : Mo) (fuel : Nat) (q4 : Bool) (qm qu : Nat) (qq : Ge) (zy : Bool) (wz w5 : Nat) (w6 : Ge) (v4 : Bool) (z4 vd : Nat) (ve : Ge) : Option AV :=
  let r0 : Option AV := q2 [AV.ptr (xidx 1 (xtoks [AV.ptr 1 0,AV.int .i64 (IntKind.i64.wrap ((if (↑z4 : Int) > (↑wz : Int) then (↑z4 : Int) else (↑wz : Int)) + 1))] [])) 0,AV.int .i64 (IntKind.i64.wrap ((if (↑z4 : Int) > (↑wz : Int) then (↑z4 : Int) else (↑wz : Int)) + 1)),AV.bool zy,AV.ro 1 wz w5 w6]; ck (okX [RS.one LK.b,RS.one (LK.l 1),RS.one (LK.l 1),RS.one (LK.l 1),RS.one (LK.i .i64)] r0) <| let r1 : Option AV := q2 [AV.ptr (xidx 2 (xtoks [AV.ptr 2 0,AV.int .i64 (IntKind.i64.wrap ((if (↑z4 : Int) > (↑wz : Int) then (↑z4 : Int) else (↑wz : Int)) + 1))] [])) 0,AV.int .i64 (IntKind.i64.wrap ((if (↑z4 : Int) > (↑wz : Int) then (↑z4 : Int) else (↑wz : Int)) + 1)),AV.bool v4,AV.ro 1 z4 vd ve]; ck (okX [RS.one LK.b,RS.one (LK.l 1),RS.one (LK.l 1),RS.one (LK.l 1),RS.one (LK.i .i64)] r1) <| gInt_And_a_l0 q2 wg fuel
    (fun (qho qhh qhk : Nat) (yg : Bool) (zx zv : Nat) (zw : Ge) (p2 : Bool) (qal qao : Nat) (qam : Ge) (qez : Bool) (qlh qll : Nat) (qle : Ge) (qi4 : List AV) (qhs : List (List AV)) (_ : List AV) (_ : List (List AV)) => let r2 : Option AV := wg [AV.ptr (xidx 0 (xtoks [AV.ptr 0 0,AV.own 3 qho 1 qhh qhk] [])) 0,AV.ro 1 qhh qhk fun (i j : Nat) => (qhs.getD (qho + i) qi4).getD j AV.dead,AV.bool yg,AV.ro 1 zx zv zw]; ck (okX [RS.one LK.b,RS.one (LK.l 1)] r2) <| some (AV.tup [AV.bool (toB ((toT (getV r2)).headD .dead)),AV.ro 1 (toN ((toT (getV r2)).tail.headD .dead)) (toR ((toT (getV r2)).tail.headD .dead)) (toG ((toT (getV r2)).tail.headD .dead)),AV.bool p2,AV.ro 1 qal qao qam,AV.bool qez,AV.ro 1 qlh qll qle]))
    (IntKind.i64.wrap ((if (↑z4 : Int) > (↑wz : Int) then (↑z4 : Int) else (↑wz : Int)) + 1))
    ((match (toT (getV r0)).tail.tail.tail.tail.headD .dead with | AV.int k n => n | x => 0).toNat)
    (match (toT (getV r0)).tail.tail.headD .dead with | AV.ro sz n rd get => n | x => 0)
    (match (toT (getV r0)).tail.tail.headD .dead with | AV.ro sz n r get => r | x => 0)
    ((match (toT (getV r1)).tail.tail.tail.tail.headD .dead with | AV.int k n => n | x => 0).toNat)
    (match (toT (getV r1)).tail.tail.headD .dead with | AV.ro sz n rd get => n | x => 0)
    (match (toT (getV r1)).tail.tail.headD .dead with | AV.ro sz n r get => r | x => 0)
    q4
    qm
    qu
    qq
    (toB ((toT (getV r0)).headD .dead))
    (toN ((toT (getV r0)).tail.headD .dead))
    (toR ((toT (getV r0)).tail.headD .dead))
    (toG ((toT (getV r0)).tail.headD .dead))
    (toB ((toT (getV r1)).headD .dead))
    (toN ((toT (getV r1)).tail.headD .dead))
    (toR ((toT (getV r1)).tail.headD .dead))
    (toG ((toT (getV r1)).tail.headD .dead))
    ([AV.int .u32 0])
    ([AV.int .u32 0])
    (rows 1 (match (toT (getV r1)).tail.tail.tail.headD .dead with | AV.ro sz n rd get => n | x => 0) (toG (AV.ro 1 (toN ((toT (getV r1)).tail.tail.tail.headD .dead)) (toR ((toT (getV r1)).tail.tail.tail.headD .dead)) (toG ((toT (getV r1)).tail.tail.tail.headD .dead))))) fuel (0) (rows 1 (match (toT (getV r0)).tail.tail.tail.headD .dead with | AV.ro sz n rd get => n | x => 0) (toG (AV.ro 1 (toN ((toT (getV r0)).tail.tail.tail.headD .dead)) (toR ((toT (getV r0)).tail.tail.tail.headD .dead)) (toG ((toT (getV r0)).tail.tail.tail.headD .dead)))))
theorem gInt_And_a_run (q2 wg : Mo) (fuel : Nat) (q4 : Bool) (qm qu : Nat) (qq : Ge) (zy : Bool) (wz w5 : Nat) (w6 : Ge) (v4 : Bool) (z4 vd : Nat) (ve : Ge) : runX Pr (GInt_And_a q2 wg) [((6,125),LInt_And_a q2 wg fuel)] fuel 7 125 XInt_And_a [AV.ptr 0 0,AV.ptr 1 0,AV.ptr 2 0] [Blk.box [AV.bool q4,AV.ro 1 qm qu qq],Blk.box [AV.bool zy,AV.ro 1 wz w5 w6],Blk.box [AV.bool v4,AV.ro 1 z4 vd ve]] = gInt_And_a q2 wg fuel q4 qm qu qq zy wz w5 w6 v4 z4 vd ve := by kernel_rfl
noncomputable def mInt_And_a (q2 wg : Mo) (fuel : Nat) (xs : List AV) : Option AV := match xs with
  | [AV.ptr 0 0,AV.ptr 1 0,AV.ptr 2 0,AV.bool q4,AV.ro 1 qm qu qq,AV.bool zy,AV.ro 1 wz w5 w6,AV.bool v4,AV.ro 1 z4 vd ve] => gInt_And_a q2 wg fuel q4 qm qu qq zy wz w5 w6 v4 z4 vd ve
  | _ => none
theorem gInt_And_a_sm (q2 wg : Mo) (fuel : Nat) (hΓ : GamOk Pr (GInt_And_a q2 wg)) (hP : NamesOk Pr) : XOk Pr 125 (smX RInt_And_a XInt_And_a (mInt_And_a q2 wg fuel)) XInt_And_a := by
  refine smX_ok (fuel := fuel) hΓ hP (LamOk.of 6 125 (LInt_And_a q2 wg fuel) 1 (by kernel_rfl) (fun i hi => ?_)) 7 125 RInt_And_a XInt_And_a _ (fun xs0 ys0 v ha hb h => ?_)
  · match i,hi with
    | 0,_ => exact gInt_And_a_L0 q2 wg fuel
    | i + 1,hi => exact absurd hi (by omega)
  · skip
    have ha0 : xs0.length = 3 := ha
    clear ha
    obtain ⟨a0,xs1,rfl,ha1⟩ := len_cons ha0
    clear ha0
    obtain ⟨a1,xs2,rfl,ha2⟩ := len_cons ha1
    clear ha1
    obtain ⟨a2,xs3,rfl,ha3⟩ := len_cons ha2
    clear ha2
    obtain rfl := List.eq_nil_of_length_eq_zero ha3
    have hy0 : ys0.map List.length = [2,2,2] := hb
    clear hb
    obtain ⟨q4,ys1,rfl,hb0_0,hy1⟩ := map_cons' hy0
    clear hy0
    obtain ⟨c0_0,b0_1,rfl,hb0_1⟩ := len_cons hb0_0
    clear hb0_0
    obtain ⟨c0_1,z0,rfl,hb0_2⟩ := len_cons hb0_1
    clear hb0_1
    obtain rfl := List.eq_nil_of_length_eq_zero hb0_2
    obtain ⟨zy,ys2,rfl,hb1_0,hy2⟩ := map_cons' hy1
    clear hy1
    obtain ⟨c1_0,b1_1,rfl,hb1_1⟩ := len_cons hb1_0
    clear hb1_0
    obtain ⟨c1_1,qac,rfl,hb1_2⟩ := len_cons hb1_1
    clear hb1_1
    obtain rfl := List.eq_nil_of_length_eq_zero hb1_2
    obtain ⟨v4,ys3,rfl,hb2_0,hy3⟩ := map_cons' hy2
    clear hy2
    obtain ⟨c2_0,b2_1,rfl,hb2_1⟩ := len_cons hb2_0
    clear hb2_0
    obtain ⟨c2_1,qdl,rfl,hb2_2⟩ := len_cons hb2_1
    clear hb2_1
    obtain rfl := List.eq_nil_of_length_eq_zero hb2_2
    obtain rfl := map_nil' hy3
    have h : mInt_And_a q2 wg fuel [a0,a1,a2,c0_0,c0_1,c1_0,c1_1,c2_0,c2_1] = some v := h
    generalize hx0 : [a0,a1,a2,c0_0,c0_1,c1_0,c1_1,c2_0,c2_1] = zs at h
    unfold mInt_And_a at h
    split at h
    · skip
      obtain ⟨rfl,hx1⟩ := List.cons.inj hx0
      obtain ⟨rfl,hx2⟩ := List.cons.inj hx1
      obtain ⟨rfl,hx3⟩ := List.cons.inj hx2
      obtain ⟨rfl,hx4⟩ := List.cons.inj hx3
      obtain ⟨rfl,hx5⟩ := List.cons.inj hx4
      obtain ⟨rfl,hx6⟩ := List.cons.inj hx5
      obtain ⟨rfl,hx7⟩ := List.cons.inj hx6
      obtain ⟨rfl,hx8⟩ := List.cons.inj hx7
      obtain ⟨rfl,hx9⟩ := List.cons.inj hx8
      simp only [List.map_cons,List.map_nil]
      exact (gInt_And_a_run q2 wg fuel _ _ _ _ _ _ _ _ _ _ _ _).trans h
    · cases h
noncomputable def SInt_And_pp_0 (un7 : Int) (qcg qc2 : Nat) (qds qc7 : Nat) (qdz qeg : Nat) (qag : Int) (zi : Bool) (q5 q8 : Nat) (q7 : Ge) (z2 : Bool) (zm zp : Nat) (zo : Ge) (h2z : List AV) (h2e : List (List AV)) (h3z : List AV) (h3e : List (List AV)) : St := { env := [(0,AV.ptr 0 0),(7,AV.int .i64 un7),(8,AV.own 2 qcg 1 qc2 qds),(9,AV.own 3 qc7 1 qdz qeg),(10,AV.int .i64 qag)],h := [Blk.box [AV.bool zi,AV.ro 1 q5 q8 q7],Blk.box [AV.bool z2,AV.ro 1 zm zp zo],Blk.fx 1 h2z h2e,Blk.fx 1 h3z h3e],kd := [] }
noncomputable def XInt_And_pp_0_0 (qkc qjz qj3 : Nat) (yy : Bool) (y3 y2 : Nat) (y1 : Ge) (pc : Bool) (qbb qa9 : Nat) (qba : Ge) (qgh : List AV) (qgk : List (List AV)) (qhy : List AV) (qh2 : List (List AV)) : St := { env := [(0,AV.ptr 0 0),(8,AV.own 2 qkc 1 qjz qj3)],h := [Blk.box [AV.bool yy,AV.ro 1 y3 y2 y1],Blk.box [AV.bool pc,AV.ro 1 qbb qa9 qba],Blk.fx 1 qgh qgk,Blk.fx 1 qhy qh2],kd := [] }
noncomputable def gInt_And_pp_l0_step (q2 wg : Mo) (fuel : Nat) (kn : Int → List (List AV) → Option AV) (kx0 : Nat → Nat → Nat → Bool → Nat → Nat → Ge → Bool → Nat → Nat → Ge → List AV → List (List AV) → List AV → List (List AV) → Option AV) (un7 : Int) (qcg qc2 : Nat) (qds qc7 : Nat) (qdz qeg : Nat) (zi : Bool) (q5 q8 : Nat) (q7 : Ge) (z2 : Bool) (zm zp : Nat) (zo : Ge) (h2z h3z : List AV) (h3e : List (List AV)) (qag : Int) (h2e : List (List AV)) : Option AV :=
  bif decide (qag < un7) then ck (decide (0 ≤ qag)) <| ck (decide (qag < (↑qc2 : Int))) <| ck (fitK (LK.i .u32) ((h2e.getD (qcg + qag.toNat) h2z).getD 0 AV.dead)) <| ck (decide (0 ≤ qag)) <| ck (decide (qag < (↑qdz : Int))) <| ck (fitK (LK.i .u32) ((h3e.getD (qc7 + qag.toNat) h3z).getD 0 AV.dead)) <| ck (decide (0 ≤ qag)) <| ck (decide (qag < (↑qc2 : Int))) <| kn (IntKind.i64.wrap (qag + 1)) (h2e.set (qcg + qag.toNat) (AV.int .u32 (IntKind.u32.wrap (↑(BitVec.ofInt 32 (toI ((h2e.getD (qcg + qag.toNat) h2z).getD 0 AV.dead)) &&& BitVec.ofInt 32 (toI ((h3e.getD (qc7 + qag.toNat) h3z).getD 0 AV.dead))).toNat : Int)) :: List.drop (0 + [AV.int .u32 (IntKind.u32.wrap (↑(BitVec.ofInt 32 (toI ((h2e.getD (qcg + qag.toNat) h2z).getD 0 AV.dead)) &&& BitVec.ofInt 32 (toI ((h3e.getD (qc7 + qag.toNat) h3z).getD 0 AV.dead))).toNat : Int))].length) (h2e.getD (qcg + qag.toNat) h2z)))
  else kx0 qcg qc2 qds zi q5 q8 q7 z2 zm zp zo h2z h2e h3z h3e
noncomputable def gInt_And_pp_l0 (q2 wg : Mo) (fuel : Nat) (kx0 : Nat → Nat → Nat → Bool → Nat → Nat → Ge → Bool → Nat → Nat → Ge → List AV → List (List AV) → List AV → List (List AV) → Option AV) (un7 : Int) (qcg qc2 : Nat) (qds qc7 : Nat) (qdz qeg : Nat) (zi : Bool) (q5 q8 : Nat) (q7 : Ge) (z2 : Bool) (zm zp : Nat) (zo : Ge) (h2z h3z : List AV) (h3e : List (List AV)) : Nat → Int → List (List AV) → Option AV
  | 0,_,_ => none
  | n' + 1,qag,h2e => gInt_And_pp_l0_step q2 wg fuel (gInt_And_pp_l0 q2 wg fuel kx0 un7 qcg qc2 qds qc7 qdz qeg zi q5 q8 q7 z2 zm zp zo h2z h3z h3e n') kx0 un7 qcg qc2 qds qc7 qdz qeg zi q5 q8 q7 z2 zm zp zo h2z h3z h3e qag h2e
termination_by structural k => k
noncomputable def TInt_And_pp_0 : TS' := ⟨[(0,TA.ptr 0 0),(7,TA.i .i64),(8,TA.own 2 1),(9,TA.own 3 1),(10,TA.i .i64)],[TB.box [TA.b,TA.ro 1],TB.box [TA.b,TA.ro 1],TB.fx 1,TB.fx 1],[]⟩
noncomputable def FInt_And_pp_0 (q2 wg : Mo) (fuel : Nat) (ps : List Pay) (K : Ex → St → Option AV) : Option AV := match ps with
  | .i un7 :: .n qcg :: .n qc2 :: .n qds :: .n qc7 :: .n qdz :: .n qeg :: .i qag :: .b zi :: .n q5 :: .n q8 :: .g q7 :: .b z2 :: .n zm :: .n zp :: .g zo :: .z h2z :: .e h2e :: .z h3z :: .e h3e :: [] => gInt_And_pp_l0 q2 wg fuel (fun qkc qjz qj3 yy y3 y2 y1 pc qbb qa9 qba qgh qgk qhy qh2 => K (Ex.exit 0) (XInt_And_pp_0_0 qkc qjz qj3 yy y3 y2 y1 pc qbb qa9 qba qgh qgk qhy qh2)) un7 qcg qc2 qds qc7 qdz qeg zi q5 q8 q7 z2 zm zp zo h2z h3z h3e fuel qag h2e
  | _ => none
noncomputable def LInt_And_pp (q2 wg : Mo) (fuel : Nat) : Lam AV := [(17591649174528,lam TInt_And_pp_0 (FInt_And_pp_0 q2 wg fuel))]
noncomputable def GInt_And_pp (q2 wg : Mo) : Gam := [(143,smX RInt_low_a XInt_low_a q2),(144,smX RInt_of_a XInt_of_a wg)]
theorem gInt_And_pp_l0_eq (q2 wg : Mo) (fuel : Nat) (kn : St → Option AV) (K : Ex → St → Option AV) (un7 : Int) (qcg qc2 : Nat) (qds qc7 : Nat) (qdz qeg : Nat) (zi : Bool) (q5 q8 : Nat) (q7 : Ge) (z2 : Bool) (zm zp : Nat) (zo : Ge) (h2z h3z : List AV) (h3e : List (List AV)) (qjl : Int) (qg9 : List (List AV)) (qag : Int) (h2e : List (List AV)) :
    bX Pr (GInt_And_pp q2 wg) (LInt_And_pp q2 wg fuel) 6 125 0 fuel (SInt_And_pp_0 un7 qcg qc2 qds qc7 qdz qeg qag zi q5 q8 q7 z2 zm zp zo h2z h2e h3z h3e) (fun e s => match e with | .normal => kn (hX Pr 125 0 (SInt_And_pp_0 un7 qcg qc2 qds qc7 qdz qeg qjl zi q5 q8 q7 z2 zm zp zo h2z qg9 h3z h3e) s) | e => K e s) =
    gInt_And_pp_l0_step q2 wg fuel (fun qag h2e => kn (SInt_And_pp_0 un7 qcg qc2 qds qc7 qdz qeg qag zi q5 q8 q7 z2 zm zp zo h2z h2e h3z h3e)) (fun qho qhh qhk yg zx zv zw p2 qal qao qam qgi qe1 qi4 qhs => K (Ex.exit 0) (XInt_And_pp_0_0 qho qhh qhk yg zx zv zw p2 qal qao qam qgi qe1 qi4 qhs)) un7 qcg qc2 qds qc7 qdz qeg zi q5 q8 q7 z2 zm zp zo h2z h3z h3e qag h2e := by kernel_rfl
theorem gInt_And_pp_l0_ok (q2 wg : Mo) (fuel : Nat) (K : Ex → St → Option AV) (un7 : Int) (qcg qc2 : Nat) (qds qc7 : Nat) (qdz qeg : Nat) (zi : Bool) (q5 q8 : Nat) (q7 : Ge) (z2 : Bool) (zm zp : Nat) (zo : Ge) (h2z h3z : List AV) (h3e : List (List AV)) (qjl : Int) (qg9 : List (List AV)) : ∀ (n' : Nat) (qag : Int) (h2e : List (List AV)),
    loopK (bX Pr (GInt_And_pp q2 wg) (LInt_And_pp q2 wg fuel) 6 125 0 fuel) (hX Pr 125 0 (SInt_And_pp_0 un7 qcg qc2 qds qc7 qdz qeg qjl zi q5 q8 q7 z2 zm zp zo h2z qg9 h3z h3e)) n' (SInt_And_pp_0 un7 qcg qc2 qds qc7 qdz qeg qag zi q5 q8 q7 z2 zm zp zo h2z h2e h3z h3e) K = gInt_And_pp_l0 q2 wg fuel (fun qho qhh qhk yg zx zv zw p2 qal qao qam qgi qe1 qi4 qhs => K (Ex.exit 0) (XInt_And_pp_0_0 qho qhh qhk yg zx zv zw p2 qal qao qam qgi qe1 qi4 qhs)) un7 qcg qc2 qds qc7 qdz qeg zi q5 q8 q7 z2 zm zp zo h2z h3z h3e n' qag h2e
  | 0,_,_ => rfl
  | n' + 1,qag,h2e => (gInt_And_pp_l0_eq q2 wg fuel (fun s => loopK (bX Pr (GInt_And_pp q2 wg) (LInt_And_pp q2 wg fuel) 6 125 0 fuel) (hX Pr 125 0 (SInt_And_pp_0 un7 qcg qc2 qds qc7 qdz qeg qjl zi q5 q8 q7 z2 zm zp zo h2z qg9 h3z h3e)) n' s K) K un7 qcg qc2 qds qc7 qdz qeg zi q5 q8 q7 z2 zm zp zo h2z h3z h3e qjl qg9 qag h2e).trans
    (congrArg (fun kn => gInt_And_pp_l0_step q2 wg fuel kn _ un7 qcg qc2 qds qc7 qdz qeg zi q5 q8 q7 z2 zm zp zo h2z h3z h3e qag h2e) (funext fun qag => funext fun h2e => gInt_And_pp_l0_ok q2 wg fuel K un7 qcg qc2 qds qc7 qdz qeg zi q5 q8 q7 z2 zm zp zo h2z h3z h3e qjl qg9 n' qag h2e))
theorem gInt_And_pp_L0 (q2 wg : Mo) (fuel : Nat) : LX Pr (GInt_And_pp q2 wg) (LInt_And_pp q2 wg fuel) 6 125 0 fuel := by
  refine .of TInt_And_pp_0 (FInt_And_pp_0 q2 wg fuel) (fun L h => ?_) (fun ps st K r he hr => ?_)
  · have e : (LInt_And_pp q2 wg fuel).get (writes (lp Pr 125 0).1) = some (lam TInt_And_pp_0 (FInt_And_pp_0 q2 wg fuel)) := by kernel_rfl
    exact (Option.some.inj (e.symm.trans h)).symm
  · unfold FInt_And_pp_0 at hr
    split at hr
    · obtain rfl := (Option.some.inj he).symm
      exact (gInt_And_pp_l0_ok q2 wg fuel K _ _ _ _ _ _ _ _ _ _ _ _ _ _ _ _ _ _ _ _ fuel _ _).trans hr
    · cases hr
noncomputable def gInt_And_pp (q2 wg : Mo) (fuel : Nat) (q4 : Bool) (qm qu : Nat) (qq : Ge) (zy : Bool) (wz w5 : Nat) (w6 : Ge) : Option AV :=
  let r0 : Option AV := q2 [AV.ptr (xidx 0 (xtoks [AV.ptr 0 0,AV.int .i64 (IntKind.i64.wrap ((if (↑wz : Int) > (↑qm : Int) then (↑wz : Int) else (↑qm : Int)) + 1))] [])) 0,AV.int .i64 (IntKind.i64.wrap ((if (↑wz : Int) > (↑qm : Int) then (↑wz : Int) else (↑qm : Int)) + 1)),AV.bool q4,AV.ro 1 qm qu qq]; ck (okX [RS.one LK.b,RS.one (LK.l 1),RS.one (LK.l 1),RS.one (LK.l 1),RS.one (LK.i .i64)] r0) <| let r1 : Option AV := q2 [AV.ptr (xidx 1 (xtoks [AV.ptr 1 0,AV.int .i64 (IntKind.i64.wrap ((if (↑wz : Int) > (↑qm : Int) then (↑wz : Int) else (↑qm : Int)) + 1))] [])) 0,AV.int .i64 (IntKind.i64.wrap ((if (↑wz : Int) > (↑qm : Int) then (↑wz : Int) else (↑qm : Int)) + 1)),AV.bool zy,AV.ro 1 wz w5 w6]; ck (okX [RS.one LK.b,RS.one (LK.l 1),RS.one (LK.l 1),RS.one (LK.l 1),RS.one (LK.i .i64)] r1) <| gInt_And_pp_l0 q2 wg fuel
    (fun (qho qhh qhk : Nat) (yg : Bool) (zx zv : Nat) (zw : Ge) (p2 : Bool) (qal qao : Nat) (qam : Ge) (qgi : List AV) (qe1 : List (List AV)) (_ : List AV) (_ : List (List AV)) => let r2 : Option AV := wg [AV.ptr (xidx 0 (xtoks [AV.ptr 0 0,AV.own 2 qho 1 qhh qhk] [])) 0,AV.ro 1 qhh qhk fun (i j : Nat) => (qe1.getD (qho + i) qgi).getD j AV.dead,AV.bool yg,AV.ro 1 zx zv zw]; ck (okX [RS.one LK.b,RS.one (LK.l 1)] r2) <| some (AV.tup [AV.bool (toB ((toT (getV r2)).headD .dead)),AV.ro 1 (toN ((toT (getV r2)).tail.headD .dead)) (toR ((toT (getV r2)).tail.headD .dead)) (toG ((toT (getV r2)).tail.headD .dead)),AV.bool p2,AV.ro 1 qal qao qam]))
    (IntKind.i64.wrap ((if (↑wz : Int) > (↑qm : Int) then (↑wz : Int) else (↑qm : Int)) + 1))
    ((match (toT (getV r0)).tail.tail.tail.tail.headD .dead with | AV.int k n => n | x => 0).toNat)
    (match (toT (getV r0)).tail.tail.headD .dead with | AV.ro sz n rd get => n | x => 0)
    (match (toT (getV r0)).tail.tail.headD .dead with | AV.ro sz n r get => r | x => 0)
    ((match (toT (getV r1)).tail.tail.tail.tail.headD .dead with | AV.int k n => n | x => 0).toNat)
    (match (toT (getV r1)).tail.tail.headD .dead with | AV.ro sz n rd get => n | x => 0)
    (match (toT (getV r1)).tail.tail.headD .dead with | AV.ro sz n r get => r | x => 0)
    (toB ((toT (getV r0)).headD .dead))
    (toN ((toT (getV r0)).tail.headD .dead))
    (toR ((toT (getV r0)).tail.headD .dead))
    (toG ((toT (getV r0)).tail.headD .dead))
    (toB ((toT (getV r1)).headD .dead))
    (toN ((toT (getV r1)).tail.headD .dead))
    (toR ((toT (getV r1)).tail.headD .dead))
    (toG ((toT (getV r1)).tail.headD .dead))
    ([AV.int .u32 0])
    ([AV.int .u32 0])
    (rows 1 (match (toT (getV r1)).tail.tail.tail.headD .dead with | AV.ro sz n rd get => n | x => 0) (toG (AV.ro 1 (toN ((toT (getV r1)).tail.tail.tail.headD .dead)) (toR ((toT (getV r1)).tail.tail.tail.headD .dead)) (toG ((toT (getV r1)).tail.tail.tail.headD .dead))))) fuel (0) (rows 1 (match (toT (getV r0)).tail.tail.tail.headD .dead with | AV.ro sz n rd get => n | x => 0) (toG (AV.ro 1 (toN ((toT (getV r0)).tail.tail.tail.headD .dead)) (toR ((toT (getV r0)).tail.tail.tail.headD .dead)) (toG ((toT (getV r0)).tail.tail.tail.headD .dead)))))
theorem gInt_And_pp_run (q2 wg : Mo) (fuel : Nat) (q4 : Bool) (qm qu : Nat) (qq : Ge) (zy : Bool) (wz w5 : Nat) (w6 : Ge) : runX Pr (GInt_And_pp q2 wg) [((6,125),LInt_And_pp q2 wg fuel)] fuel 7 125 XInt_And_pp [AV.ptr 0 0,AV.ptr 0 0,AV.ptr 1 0] [Blk.box [AV.bool q4,AV.ro 1 qm qu qq],Blk.box [AV.bool zy,AV.ro 1 wz w5 w6]] = gInt_And_pp q2 wg fuel q4 qm qu qq zy wz w5 w6 := by kernel_rfl
noncomputable def mInt_And_pp (q2 wg : Mo) (fuel : Nat) (xs : List AV) : Option AV := match xs with
  | [AV.ptr 0 0,AV.ptr 0 0,AV.ptr 1 0,AV.bool q4,AV.ro 1 qm qu qq,AV.bool zy,AV.ro 1 wz w5 w6] => gInt_And_pp q2 wg fuel q4 qm qu qq zy wz w5 w6
  | _ => none
theorem gInt_And_pp_sm (q2 wg : Mo) (fuel : Nat) (hΓ : GamOk Pr (GInt_And_pp q2 wg)) (hP : NamesOk Pr) : XOk Pr 125 (smX RInt_And_pp XInt_And_pp (mInt_And_pp q2 wg fuel)) XInt_And_pp := by
  refine smX_ok (fuel := fuel) hΓ hP (LamOk.of 6 125 (LInt_And_pp q2 wg fuel) 1 (by kernel_rfl) (fun i hi => ?_)) 7 125 RInt_And_pp XInt_And_pp _ (fun xs0 ys0 v ha hb h => ?_)
  · match i,hi with
    | 0,_ => exact gInt_And_pp_L0 q2 wg fuel
    | i + 1,hi => exact absurd hi (by omega)
  · skip
    have ha0 : xs0.length = 3 := ha
    clear ha
    obtain ⟨a0,xs1,rfl,ha1⟩ := len_cons ha0
    clear ha0
    obtain ⟨a1,xs2,rfl,ha2⟩ := len_cons ha1
    clear ha1
    obtain ⟨a2,xs3,rfl,ha3⟩ := len_cons ha2
    clear ha2
    obtain rfl := List.eq_nil_of_length_eq_zero ha3
    have hy0 : ys0.map List.length = [2,2] := hb
    clear hb
    obtain ⟨q4,ys1,rfl,hb0_0,hy1⟩ := map_cons' hy0
    clear hy0
    obtain ⟨c0_0,b0_1,rfl,hb0_1⟩ := len_cons hb0_0
    clear hb0_0
    obtain ⟨c0_1,z0,rfl,hb0_2⟩ := len_cons hb0_1
    clear hb0_1
    obtain rfl := List.eq_nil_of_length_eq_zero hb0_2
    obtain ⟨zy,ys2,rfl,hb1_0,hy2⟩ := map_cons' hy1
    clear hy1
    obtain ⟨c1_0,b1_1,rfl,hb1_1⟩ := len_cons hb1_0
    clear hb1_0
    obtain ⟨c1_1,qac,rfl,hb1_2⟩ := len_cons hb1_1
    clear hb1_1
    obtain rfl := List.eq_nil_of_length_eq_zero hb1_2
    obtain rfl := map_nil' hy2
    have h : mInt_And_pp q2 wg fuel [a0,a1,a2,c0_0,c0_1,c1_0,c1_1] = some v := h
    generalize hx0 : [a0,a1,a2,c0_0,c0_1,c1_0,c1_1] = zs at h
    unfold mInt_And_pp at h
    split at h
    · skip
      obtain ⟨rfl,hx1⟩ := List.cons.inj hx0
      obtain ⟨rfl,hx2⟩ := List.cons.inj hx1
      obtain ⟨rfl,hx3⟩ := List.cons.inj hx2
      obtain ⟨rfl,hx4⟩ := List.cons.inj hx3
      obtain ⟨rfl,hx5⟩ := List.cons.inj hx4
      obtain ⟨rfl,hx6⟩ := List.cons.inj hx5
      obtain ⟨rfl,hx7⟩ := List.cons.inj hx6
      simp only [List.map_cons,List.map_nil]
      exact (gInt_And_pp_run q2 wg fuel _ _ _ _ _ _ _ _).trans h
    · cases h
noncomputable def Sratio_limbs_a_0 (u12 u13 : Int) (zi : Bool) (q5 q8 : Nat) (q7 : Ge) (z2 : Bool) (zm zp : Nat) (zo : Ge) (h2z : List AV) (h2e : List (List AV)) : St := { env := [(0,AV.ptr 0 0),(3,AV.lst 2 1),(4,AV.ptr 1 0),(12,AV.int .i64 u12),(13,AV.int .i64 u13)],h := [Blk.box [AV.bool zi,AV.ro 1 q5 q8 q7],Blk.box [AV.bool z2,AV.ro 1 zm zp zo],Blk.fl 1 h2z h2e],kd := [2] }
noncomputable def Xratio_limbs_a_0_0 (yy : Bool) (y3 y2 : Nat) (y1 : Ge) (pc : Bool) (qbb qa9 : Nat) (qba : Ge) (qgh : List AV) (qgk : List (List AV)) : St := { env := [(3,AV.lst 2 1)],h := [Blk.box [AV.bool yy,AV.ro 1 y3 y2 y1],Blk.box [AV.bool pc,AV.ro 1 qbb qa9 qba],Blk.fl 1 qgh qgk],kd := [2] }
noncomputable def gratio_limbs_a_l0_step (wi ww : Mo) (qg ql : Mo) (zn zc qe : Mo) (fuel : Nat) (kn : Int → Bool → Nat → Nat → Ge → Bool → Nat → Nat → Ge → List (List AV) → Option AV) (kx0 : Bool → Nat → Nat → Ge → Bool → Nat → Nat → Ge → List AV → List (List AV) → Option AV) (u12 : Int) (h2z : List AV) (u13 : Int) (zi : Bool) (q5 q8 : Nat) (q7 : Ge) (z2 : Bool) (zm zp : Nat) (zo : Ge) (h2e : List (List AV)) : Option AV :=
  bif decide (u13 < u12) then let r2 : Option AV := qg [AV.ptr (xidx [Blk.box [AV.bool zi,AV.ro 1 q5 q8 q7],Blk.box [AV.bool z2,AV.ro 1 zm zp zo],Blk.fl 1 h2z h2e].length (xtoks [AV.ptr [Blk.box [AV.bool zi,AV.ro 1 q5 q8 q7],Blk.box [AV.bool z2,AV.ro 1 zm zp zo],Blk.fl 1 h2z h2e].length 0,AV.ptr 0 0,AV.int .u64 (IntKind.u64.wrap (IntKind.i64.wrap (64 * u13)))] [])) 0,AV.ptr (xidx 0 (xtoks [AV.ptr [Blk.box [AV.bool zi,AV.ro 1 q5 q8 q7],Blk.box [AV.bool z2,AV.ro 1 zm zp zo],Blk.fl 1 h2z h2e].length 0,AV.ptr 0 0,AV.int .u64 (IntKind.u64.wrap (IntKind.i64.wrap (64 * u13)))] [])) 0,AV.int .u64 (IntKind.u64.wrap (IntKind.i64.wrap (64 * u13))),AV.bool false,AV.ro 1 0 0 fun (x j : Nat) => [AV.int .u32 0].getD j AV.dead,AV.bool zi,AV.ro 1 q5 q8 q7]; ck (okX [RS.one LK.b,RS.one (LK.l 1),RS.one LK.b,RS.one (LK.l 1)] r2) <| let r3 : Option AV := zc [AV.ptr (xidx (xren (xtoks [AV.ptr [Blk.box [AV.bool zi,AV.ro 1 q5 q8 q7],Blk.box [AV.bool z2,AV.ro 1 zm zp zo],Blk.fl 1 h2z h2e].length 0,AV.ptr 0 0,AV.int .u64 (IntKind.u64.wrap (IntKind.i64.wrap (64 * u13)))] []) [Blk.box [AV.bool zi,AV.ro 1 q5 q8 q7],Blk.box [AV.bool z2,AV.ro 1 zm zp zo],Blk.fl 1 h2z h2e,Blk.box [AV.bool false,AV.nils 1 [AV.int .u32 0]]].length 0) (xtoks [AV.ptr (xren (xtoks [AV.ptr [Blk.box [AV.bool zi,AV.ro 1 q5 q8 q7],Blk.box [AV.bool z2,AV.ro 1 zm zp zo],Blk.fl 1 h2z h2e].length 0,AV.ptr 0 0,AV.int .u64 (IntKind.u64.wrap (IntKind.i64.wrap (64 * u13)))] []) [Blk.box [AV.bool zi,AV.ro 1 q5 q8 q7],Blk.box [AV.bool z2,AV.ro 1 zm zp zo],Blk.fl 1 h2z h2e,Blk.box [AV.bool false,AV.nils 1 [AV.int .u32 0]]].length 0) 0,AV.ptr (xren (xtoks [AV.ptr [Blk.box [AV.bool zi,AV.ro 1 q5 q8 q7],Blk.box [AV.bool z2,AV.ro 1 zm zp zo],Blk.fl 1 h2z h2e].length 0,AV.ptr 0 0,AV.int .u64 (IntKind.u64.wrap (IntKind.i64.wrap (64 * u13)))] []) [Blk.box [AV.bool zi,AV.ro 1 q5 q8 q7],Blk.box [AV.bool z2,AV.ro 1 zm zp zo],Blk.fl 1 h2z h2e,Blk.box [AV.bool false,AV.nils 1 [AV.int .u32 0]]].length 0) 0,AV.ptr 1 0] [])) 0,AV.ptr (xidx (xren (xtoks [AV.ptr [Blk.box [AV.bool zi,AV.ro 1 q5 q8 q7],Blk.box [AV.bool z2,AV.ro 1 zm zp zo],Blk.fl 1 h2z h2e].length 0,AV.ptr 0 0,AV.int .u64 (IntKind.u64.wrap (IntKind.i64.wrap (64 * u13)))] []) [Blk.box [AV.bool zi,AV.ro 1 q5 q8 q7],Blk.box [AV.bool z2,AV.ro 1 zm zp zo],Blk.fl 1 h2z h2e,Blk.box [AV.bool false,AV.nils 1 [AV.int .u32 0]]].length 0) (xtoks [AV.ptr (xren (xtoks [AV.ptr [Blk.box [AV.bool zi,AV.ro 1 q5 q8 q7],Blk.box [AV.bool z2,AV.ro 1 zm zp zo],Blk.fl 1 h2z h2e].length 0,AV.ptr 0 0,AV.int .u64 (IntKind.u64.wrap (IntKind.i64.wrap (64 * u13)))] []) [Blk.box [AV.bool zi,AV.ro 1 q5 q8 q7],Blk.box [AV.bool z2,AV.ro 1 zm zp zo],Blk.fl 1 h2z h2e,Blk.box [AV.bool false,AV.nils 1 [AV.int .u32 0]]].length 0) 0,AV.ptr (xren (xtoks [AV.ptr [Blk.box [AV.bool zi,AV.ro 1 q5 q8 q7],Blk.box [AV.bool z2,AV.ro 1 zm zp zo],Blk.fl 1 h2z h2e].length 0,AV.ptr 0 0,AV.int .u64 (IntKind.u64.wrap (IntKind.i64.wrap (64 * u13)))] []) [Blk.box [AV.bool zi,AV.ro 1 q5 q8 q7],Blk.box [AV.bool z2,AV.ro 1 zm zp zo],Blk.fl 1 h2z h2e,Blk.box [AV.bool false,AV.nils 1 [AV.int .u32 0]]].length 0) 0,AV.ptr 1 0] [])) 0,AV.ptr (xidx 1 (xtoks [AV.ptr (xren (xtoks [AV.ptr [Blk.box [AV.bool zi,AV.ro 1 q5 q8 q7],Blk.box [AV.bool z2,AV.ro 1 zm zp zo],Blk.fl 1 h2z h2e].length 0,AV.ptr 0 0,AV.int .u64 (IntKind.u64.wrap (IntKind.i64.wrap (64 * u13)))] []) [Blk.box [AV.bool zi,AV.ro 1 q5 q8 q7],Blk.box [AV.bool z2,AV.ro 1 zm zp zo],Blk.fl 1 h2z h2e,Blk.box [AV.bool false,AV.nils 1 [AV.int .u32 0]]].length 0) 0,AV.ptr (xren (xtoks [AV.ptr [Blk.box [AV.bool zi,AV.ro 1 q5 q8 q7],Blk.box [AV.bool z2,AV.ro 1 zm zp zo],Blk.fl 1 h2z h2e].length 0,AV.ptr 0 0,AV.int .u64 (IntKind.u64.wrap (IntKind.i64.wrap (64 * u13)))] []) [Blk.box [AV.bool zi,AV.ro 1 q5 q8 q7],Blk.box [AV.bool z2,AV.ro 1 zm zp zo],Blk.fl 1 h2z h2e,Blk.box [AV.bool false,AV.nils 1 [AV.int .u32 0]]].length 0) 0,AV.ptr 1 0] [])) 0,AV.bool (toB ((toT (getV r2)).headD .dead)),AV.ro 1 (toN ((toT (getV r2)).tail.headD .dead)) (toR ((toT (getV r2)).tail.headD .dead)) (toG ((toT (getV r2)).tail.headD .dead)),AV.bool z2,AV.ro 1 zm zp zo]; ck (okX [RS.one LK.b,RS.one (LK.l 1),RS.one LK.b,RS.one (LK.l 1)] r3) <| let r4 : Option AV := qe [AV.ptr (xidx (xren (xtoks [AV.ptr (xren (xtoks [AV.ptr [Blk.box [AV.bool zi,AV.ro 1 q5 q8 q7],Blk.box [AV.bool z2,AV.ro 1 zm zp zo],Blk.fl 1 h2z h2e].length 0,AV.ptr 0 0,AV.int .u64 (IntKind.u64.wrap (IntKind.i64.wrap (64 * u13)))] []) [Blk.box [AV.bool zi,AV.ro 1 q5 q8 q7],Blk.box [AV.bool z2,AV.ro 1 zm zp zo],Blk.fl 1 h2z h2e,Blk.box [AV.bool false,AV.nils 1 [AV.int .u32 0]]].length 0) 0,AV.ptr (xren (xtoks [AV.ptr [Blk.box [AV.bool zi,AV.ro 1 q5 q8 q7],Blk.box [AV.bool z2,AV.ro 1 zm zp zo],Blk.fl 1 h2z h2e].length 0,AV.ptr 0 0,AV.int .u64 (IntKind.u64.wrap (IntKind.i64.wrap (64 * u13)))] []) [Blk.box [AV.bool zi,AV.ro 1 q5 q8 q7],Blk.box [AV.bool z2,AV.ro 1 zm zp zo],Blk.fl 1 h2z h2e,Blk.box [AV.bool false,AV.nils 1 [AV.int .u32 0]]].length 0) 0,AV.ptr 1 0] []) [Blk.box [AV.bool (toB ((toT (getV r2)).tail.tail.headD .dead)),AV.ro 1 (toN ((toT (getV r2)).tail.tail.tail.headD .dead)) (toR ((toT (getV r2)).tail.tail.tail.headD .dead)) (toG ((toT (getV r2)).tail.tail.tail.headD .dead))],Blk.box [AV.bool z2,AV.ro 1 zm zp zo],Blk.fl 1 h2z h2e,Blk.box [AV.bool (toB ((toT (getV r2)).headD .dead)),AV.ro 1 (toN ((toT (getV r2)).tail.headD .dead)) (toR ((toT (getV r2)).tail.headD .dead)) (toG ((toT (getV r2)).tail.headD .dead))]].length 0) (xtoks [AV.ptr (xren (xtoks [AV.ptr (xren (xtoks [AV.ptr [Blk.box [AV.bool zi,AV.ro 1 q5 q8 q7],Blk.box [AV.bool z2,AV.ro 1 zm zp zo],Blk.fl 1 h2z h2e].length 0,AV.ptr 0 0,AV.int .u64 (IntKind.u64.wrap (IntKind.i64.wrap (64 * u13)))] []) [Blk.box [AV.bool zi,AV.ro 1 q5 q8 q7],Blk.box [AV.bool z2,AV.ro 1 zm zp zo],Blk.fl 1 h2z h2e,Blk.box [AV.bool false,AV.nils 1 [AV.int .u32 0]]].length 0) 0,AV.ptr (xren (xtoks [AV.ptr [Blk.box [AV.bool zi,AV.ro 1 q5 q8 q7],Blk.box [AV.bool z2,AV.ro 1 zm zp zo],Blk.fl 1 h2z h2e].length 0,AV.ptr 0 0,AV.int .u64 (IntKind.u64.wrap (IntKind.i64.wrap (64 * u13)))] []) [Blk.box [AV.bool zi,AV.ro 1 q5 q8 q7],Blk.box [AV.bool z2,AV.ro 1 zm zp zo],Blk.fl 1 h2z h2e,Blk.box [AV.bool false,AV.nils 1 [AV.int .u32 0]]].length 0) 0,AV.ptr 1 0] []) [Blk.box [AV.bool (toB ((toT (getV r2)).tail.tail.headD .dead)),AV.ro 1 (toN ((toT (getV r2)).tail.tail.tail.headD .dead)) (toR ((toT (getV r2)).tail.tail.tail.headD .dead)) (toG ((toT (getV r2)).tail.tail.tail.headD .dead))],Blk.box [AV.bool z2,AV.ro 1 zm zp zo],Blk.fl 1 h2z h2e,Blk.box [AV.bool (toB ((toT (getV r2)).headD .dead)),AV.ro 1 (toN ((toT (getV r2)).tail.headD .dead)) (toR ((toT (getV r2)).tail.headD .dead)) (toG ((toT (getV r2)).tail.headD .dead))]].length 0) 0] [])) 0,AV.bool (toB ((toT (getV r3)).headD .dead)),AV.ro 1 (toN ((toT (getV r3)).tail.headD .dead)) (toR ((toT (getV r3)).tail.headD .dead)) (toG ((toT (getV r3)).tail.headD .dead))]; ck (okX [RS.one LK.b,RS.one (LK.l 1),RS.one (LK.i .u64)] r4) <| ck (decide ((h2e.length + 1) * 8 < 70368744177664)) <| ck (decide (h2e.length + 1 < 4611686018427387904)) <| kn (IntKind.i64.wrap (u13 + 1)) (toB ((toT (getV r2)).tail.tail.headD .dead)) (toN ((toT (getV r2)).tail.tail.tail.headD .dead)) (toR ((toT (getV r2)).tail.tail.tail.headD .dead)) (toG ((toT (getV r2)).tail.tail.tail.headD .dead)) (toB ((toT (getV r3)).tail.tail.headD .dead)) (toN ((toT (getV r3)).tail.tail.tail.headD .dead)) (toR ((toT (getV r3)).tail.tail.tail.headD .dead)) (toG ((toT (getV r3)).tail.tail.tail.headD .dead)) (h2e ++ [[AV.int .u64 (toI ((toT (getV r4)).tail.tail.headD .dead))]])
  else kx0 zi q5 q8 q7 z2 zm zp zo h2z h2e
noncomputable def gratio_limbs_a_l0 (wi ww : Mo) (qg ql : Mo) (zn zc qe : Mo) (fuel : Nat) (kx0 : Bool → Nat → Nat → Ge → Bool → Nat → Nat → Ge → List AV → List (List AV) → Option AV) (u12 : Int) (h2z : List AV) : Nat → Int → Bool → Nat → Nat → Ge → Bool → Nat → Nat → Ge → List (List AV) → Option AV
  | 0,_,_,_,_,_,_,_,_,_,_ => none
  | n' + 1,u13,zi,q5,q8,q7,z2,zm,zp,zo,h2e => gratio_limbs_a_l0_step wi ww qg ql zn zc qe fuel (gratio_limbs_a_l0 wi ww qg ql zn zc qe fuel kx0 u12 h2z n') kx0 u12 h2z u13 zi q5 q8 q7 z2 zm zp zo h2e
noncomputable def Tratio_limbs_a_0 : TS' := ⟨[(0,TA.ptr 0 0),(3,TA.lst 2 1),(4,TA.ptr 1 0),(12,TA.i .i64),(13,TA.i .i64)],[TB.box [TA.b,TA.ro 1],TB.box [TA.b,TA.ro 1],TB.fl 1],[2]⟩
noncomputable def Fratio_limbs_a_0 (wi ww : Mo) (qg ql : Mo) (zn zc qe : Mo) (fuel : Nat) (ps : List Pay) (K : Ex → St → Option AV) : Option AV := match ps with
  | .i u12 :: .i u13 :: .b zi :: .n q5 :: .n q8 :: .g q7 :: .b z2 :: .n zm :: .n zp :: .g zo :: .z h2z :: .e h2e :: [] => gratio_limbs_a_l0 wi ww qg ql zn zc qe fuel (fun yy y3 y2 y1 pc qbb qa9 qba qgh qgk => K (Ex.exit 0) (Xratio_limbs_a_0_0 yy y3 y2 y1 pc qbb qa9 qba qgh qgk)) u12 h2z fuel u13 zi q5 q8 q7 z2 zm zp zo h2e
  | _ => none
noncomputable def Lratio_limbs_a (wi ww : Mo) (qg ql : Mo) (zn zc qe : Mo) (fuel : Nat) : Lam AV := [(2147475560,lam Tratio_limbs_a_0 (Fratio_limbs_a_0 wi ww qg ql zn zc qe fuel))]
noncomputable def Gratio_limbs_a (wi ww : Mo) (qg ql : Mo) (zn zc qe : Mo) : Gam := [(123,smX RInt_SetUint64_i XInt_SetUint64_i wi),(124,smX RInt_BitLen_i XInt_BitLen_i ww),(92,smX RInt_Rsh_ii XInt_Rsh_ii qg),(92,smX RInt_Rsh_p XInt_Rsh_p ql),(125,smX RInt_And_a XInt_And_a zn),(125,smX RInt_And_pp XInt_And_pp zc),(51,smX RInt_Uint64_i XInt_Uint64_i qe)]
theorem gratio_limbs_a_l0_eq (wi ww : Mo) (qg ql : Mo) (zn zc qe : Mo) (fuel : Nat) (kn : St → Option AV) (K : Ex → St → Option AV) (u12 : Int) (h2z : List AV) (ql7 : Int) (qp5 : Bool) (qg5 qg3 : Nat) (qha : Ge) (qd6 : Bool) (qeh qec : Nat) (qd8 : Ge) (qg9 : List (List AV)) (u13 : Int) (zi : Bool) (q5 q8 : Nat) (q7 : Ge) (z2 : Bool) (zm zp : Nat) (zo : Ge) (h2e : List (List AV)) :
    bX Pr (Gratio_limbs_a wi ww qg ql zn zc qe) (Lratio_limbs_a wi ww qg ql zn zc qe fuel) 6 90 0 fuel (Sratio_limbs_a_0 u12 u13 zi q5 q8 q7 z2 zm zp zo h2z h2e) (fun e s => match e with | .normal => kn (hX Pr 90 0 (Sratio_limbs_a_0 u12 ql7 qp5 qg5 qg3 qha qd6 qeh qec qd8 h2z qg9) s) | e => K e s) =
    gratio_limbs_a_l0_step wi ww qg ql zn zc qe fuel (fun u13 zi q5 q8 q7 z2 zm zp zo h2e => kn (Sratio_limbs_a_0 u12 u13 zi q5 q8 q7 z2 zm zp zo h2z h2e)) (fun yg zx zv zw p2 qal qao qam qgi qe1 => K (Ex.exit 0) (Xratio_limbs_a_0_0 yg zx zv zw p2 qal qao qam qgi qe1)) u12 h2z u13 zi q5 q8 q7 z2 zm zp zo h2e := by kernel_rfl
theorem gratio_limbs_a_l0_ok (wi ww : Mo) (qg ql : Mo) (zn zc qe : Mo) (fuel : Nat) (K : Ex → St → Option AV) (u12 : Int) (h2z : List AV) (ql7 : Int) (qp5 : Bool) (qg5 qg3 : Nat) (qha : Ge) (qd6 : Bool) (qeh qec : Nat) (qd8 : Ge) (qg9 : List (List AV)) : ∀ (n' : Nat) (u13 : Int) (zi : Bool) (q5 q8 : Nat) (q7 : Ge) (z2 : Bool) (zm zp : Nat) (zo : Ge) (h2e : List (List AV)),
    loopK (bX Pr (Gratio_limbs_a wi ww qg ql zn zc qe) (Lratio_limbs_a wi ww qg ql zn zc qe fuel) 6 90 0 fuel) (hX Pr 90 0 (Sratio_limbs_a_0 u12 ql7 qp5 qg5 qg3 qha qd6 qeh qec qd8 h2z qg9)) n' (Sratio_limbs_a_0 u12 u13 zi q5 q8 q7 z2 zm zp zo h2z h2e) K = gratio_limbs_a_l0 wi ww qg ql zn zc qe fuel (fun yg zx zv zw p2 qal qao qam qgi qe1 => K (Ex.exit 0) (Xratio_limbs_a_0_0 yg zx zv zw p2 qal qao qam qgi qe1)) u12 h2z n' u13 zi q5 q8 q7 z2 zm zp zo h2e
  | 0,_,_,_,_,_,_,_,_,_,_ => rfl
  | n' + 1,u13,zi,q5,q8,q7,z2,zm,zp,zo,h2e => (gratio_limbs_a_l0_eq wi ww qg ql zn zc qe fuel (fun s => loopK (bX Pr (Gratio_limbs_a wi ww qg ql zn zc qe) (Lratio_limbs_a wi ww qg ql zn zc qe fuel) 6 90 0 fuel) (hX Pr 90 0 (Sratio_limbs_a_0 u12 ql7 qp5 qg5 qg3 qha qd6 qeh qec qd8 h2z qg9)) n' s K) K u12 h2z ql7 qp5 qg5 qg3 qha qd6 qeh qec qd8 qg9 u13 zi q5 q8 q7 z2 zm zp zo h2e).trans
    (congrArg (fun kn => gratio_limbs_a_l0_step wi ww qg ql zn zc qe fuel kn _ u12 h2z u13 zi q5 q8 q7 z2 zm zp zo h2e) (funext fun u13 => funext fun zi => funext fun q5 => funext fun q8 => funext fun q7 => funext fun z2 => funext fun zm => funext fun zp => funext fun zo => funext fun h2e => gratio_limbs_a_l0_ok wi ww qg ql zn zc qe fuel K u12 h2z ql7 qp5 qg5 qg3 qha qd6 qeh qec qd8 qg9 n' u13 zi q5 q8 q7 z2 zm zp zo h2e))
theorem gratio_limbs_a_L0 (wi ww : Mo) (qg ql : Mo) (zn zc qe : Mo) (fuel : Nat) : LX Pr (Gratio_limbs_a wi ww qg ql zn zc qe) (Lratio_limbs_a wi ww qg ql zn zc qe fuel) 6 90 0 fuel := by
  refine .of Tratio_limbs_a_0 (Fratio_limbs_a_0 wi ww qg ql zn zc qe fuel) (fun L h => ?_) (fun ps st K r he hr => ?_)
  · have e : (Lratio_limbs_a wi ww qg ql zn zc qe fuel).get (writes (lp Pr 90 0).1) = some (lam Tratio_limbs_a_0 (Fratio_limbs_a_0 wi ww qg ql zn zc qe fuel)) := by kernel_rfl
    exact (Option.some.inj (e.symm.trans h)).symm
  · unfold Fratio_limbs_a_0 at hr
    split at hr
    · obtain rfl := (Option.some.inj he).symm
      exact (gratio_limbs_a_l0_ok wi ww qg ql zn zc qe fuel K _ _ _ _ _ _ _ _ _ _ _ _ fuel _ _ _ _ _ _ _ _ _ _).trans hr
    · cases hr
noncomputable def gratio_limbs_a (wi ww : Mo) (qg ql : Mo) (zn zc qe : Mo) (fuel : Nat) (q4 : Bool) (qm qu : Nat) (qq : Ge) : Option AV :=
  let r0 : Option AV := wi [AV.ptr (xidx [Blk.box [AV.bool q4,AV.ro 1 qm qu qq]].length (xtoks [AV.ptr [Blk.box [AV.bool q4,AV.ro 1 qm qu qq]].length 0,AV.int .u64 18446744073709551615] [])) 0,AV.int .u64 18446744073709551615,AV.bool false,AV.ro 1 0 0 fun (x j : Nat) => [AV.int .u32 0].getD j AV.dead]; ck (okX [RS.one LK.b,RS.one (LK.l 1)] r0) <| let r1 : Option AV := ww [AV.ptr (xidx 0 (xtoks [AV.ptr 0 0] [])) 0,AV.bool q4,AV.ro 1 qm qu qq]; ck (okX [RS.one LK.b,RS.one (LK.l 1),RS.one (LK.i .i64)] r1) <| gratio_limbs_a_l0 wi ww qg ql zn zc qe fuel
    (fun (yg : Bool) (zx zv : Nat) (zw : Ge) (_ : Bool) (_ _ : Nat) (_ : Ge) (qgi : List AV) (qe1 : List (List AV)) => some (AV.tup [AV.bool yg,AV.ro 1 zx zv zw,AV.ro 1 qe1.length qe1.length fun (i j : Nat) => (qe1.getD i qgi).getD j AV.dead]))
    (IntKind.i64.wrap ((IntKind.i64.wrap (toI ((toT (getV r1)).tail.tail.headD .dead) + 63)).tdiv 64))
    ([AV.int .u64 0]) fuel (0) (toB ((toT (getV r1)).headD .dead)) (toN ((toT (getV r1)).tail.headD .dead)) (toR ((toT (getV r1)).tail.headD .dead)) (toG ((toT (getV r1)).tail.headD .dead)) (toB ((toT (getV r0)).headD .dead)) (toN ((toT (getV r0)).tail.headD .dead)) (toR ((toT (getV r0)).tail.headD .dead)) (toG ((toT (getV r0)).tail.headD .dead)) ([])
theorem gratio_limbs_a_run (wi ww : Mo) (qg ql : Mo) (zn zc qe : Mo) (fuel : Nat) (q4 : Bool) (qm qu : Nat) (qq : Ge) : runX Pr (Gratio_limbs_a wi ww qg ql zn zc qe) [((6,90),Lratio_limbs_a wi ww qg ql zn zc qe fuel)] fuel 7 90 Xratio_limbs_a [AV.ptr 0 0] [Blk.box [AV.bool q4,AV.ro 1 qm qu qq]] = gratio_limbs_a wi ww qg ql zn zc qe fuel q4 qm qu qq := by kernel_rfl
noncomputable def mratio_limbs_a (wi ww : Mo) (qg ql : Mo) (zn zc qe : Mo) (fuel : Nat) (xs : List AV) : Option AV := match xs with
  | [AV.ptr 0 0,AV.bool q4,AV.ro 1 qm qu qq] => gratio_limbs_a wi ww qg ql zn zc qe fuel q4 qm qu qq
  | _ => none
theorem gratio_limbs_a_sm (wi ww : Mo) (qg ql : Mo) (zn zc qe : Mo) (fuel : Nat) (hΓ : GamOk Pr (Gratio_limbs_a wi ww qg ql zn zc qe)) (hP : NamesOk Pr) : XOk Pr 90 (smX Rratio_limbs_a Xratio_limbs_a (mratio_limbs_a wi ww qg ql zn zc qe fuel)) Xratio_limbs_a := by
  refine smX_ok (fuel := fuel) hΓ hP (LamOk.of 6 90 (Lratio_limbs_a wi ww qg ql zn zc qe fuel) 1 (by kernel_rfl) (fun i hi => ?_)) 7 90 Rratio_limbs_a Xratio_limbs_a _ (fun xs0 ys0 v ha hb h => ?_)
  · match i,hi with
    | 0,_ => exact gratio_limbs_a_L0 wi ww qg ql zn zc qe fuel
    | i + 1,hi => exact absurd hi (by omega)
  · skip
    have ha0 : xs0.length = 1 := ha
    clear ha
    obtain ⟨a0,xs1,rfl,ha1⟩ := len_cons ha0
    clear ha0
    obtain rfl := List.eq_nil_of_length_eq_zero ha1
    have hy0 : ys0.map List.length = [2] := hb
    clear hb
    obtain ⟨q4,ys1,rfl,hb0_0,hy1⟩ := map_cons' hy0
    clear hy0
    obtain ⟨c0_0,b0_1,rfl,hb0_1⟩ := len_cons hb0_0
    clear hb0_0
    obtain ⟨c0_1,z0,rfl,hb0_2⟩ := len_cons hb0_1
    clear hb0_1
    obtain rfl := List.eq_nil_of_length_eq_zero hb0_2
    obtain rfl := map_nil' hy1
    have h : mratio_limbs_a wi ww qg ql zn zc qe fuel [a0,c0_0,c0_1] = some v := h
    generalize hx0 : [a0,c0_0,c0_1] = zs at h
    unfold mratio_limbs_a at h
    split at h
    · skip
      obtain ⟨rfl,hx1⟩ := List.cons.inj hx0
      obtain ⟨rfl,hx2⟩ := List.cons.inj hx1
      obtain ⟨rfl,hx3⟩ := List.cons.inj hx2
      simp only [List.map_cons,List.map_nil]
      exact (gratio_limbs_a_run wi ww qg ql zn zc qe fuel _ _ _ _).trans h
    · cases h
end Go.Proofs.Tryz
end
section
namespace Go.Proofs.Tryz
open Go Go.Am
set_option linter.unusedVariables false
set_option maxRecDepth 1000000
noncomputable def Lratio_told_a (zz qo : Mo) (qr v2 zr : Mo) (fuel : Nat) : Lam AV := []
noncomputable def Gratio_told_a (zz qo : Mo) (qr v2 zr : Mo) : Gam := [(62,smX RRat_Sign_r XRat_Sign_r zz),(75,smX RInt_Abs_ir XInt_Abs_ir qo),(75,smX RInt_Abs_ii XInt_Abs_ii qr),(90,smX Rratio_limbs_a Xratio_limbs_a v2),(65,smX RRat_Denom_r XRat_Denom_r zr)]
noncomputable def gratio_told_a (zz qo : Mo) (qr v2 zr : Mo) (fuel : Nat) (q4 : Bool) (qm qu : Nat) (qq : Ge) (z0 : Bool) (zd zl : Nat) (zj : Ge) : Option AV :=
  let r0 : Option AV := zz [AV.ptr (xidx 0 (xtoks [AV.ptr 0 0] [])) 0,AV.bool q4,AV.ro 1 qm qu qq,AV.bool z0,AV.ro 1 zd zl zj]; ck (okX [RS.one LK.b,RS.one (LK.l 1),RS.one LK.b,RS.one (LK.l 1),RS.one (LK.i .i64)] r0) <| bif toI ((toT (getV r0)).tail.tail.tail.tail.headD .dead) == 0 then some (AV.tup [AV.bool (toB ((toT (getV r0)).headD .dead)),AV.ro 1 (toN ((toT (getV r0)).tail.headD .dead)) (toR ((toT (getV r0)).tail.headD .dead)) (toG ((toT (getV r0)).tail.headD .dead)),AV.bool (toB ((toT (getV r0)).tail.tail.headD .dead)),AV.ro 1 (toN ((toT (getV r0)).tail.tail.tail.headD .dead)) (toR ((toT (getV r0)).tail.tail.tail.headD .dead)) (toG ((toT (getV r0)).tail.tail.tail.headD .dead)),AV.agg [AV.bool false,AV.ro 1 0 0 fun (x j : Nat) => [AV.int .u64 0].getD j AV.dead,AV.ro 1 1 1 fun (i j : Nat) => ([[AV.int .u64 1]].getD i [AV.int .u64 0]).getD j AV.dead],AV.int .i64 0])
  else let r1 : Option AV := zz [AV.ptr (xidx 0 (xtoks [AV.ptr 0 0] [])) 0,AV.bool (toB ((toT (getV r0)).headD .dead)),AV.ro 1 (toN ((toT (getV r0)).tail.headD .dead)) (toR ((toT (getV r0)).tail.headD .dead)) (toG ((toT (getV r0)).tail.headD .dead)),AV.bool (toB ((toT (getV r0)).tail.tail.headD .dead)),AV.ro 1 (toN ((toT (getV r0)).tail.tail.tail.headD .dead)) (toR ((toT (getV r0)).tail.tail.tail.headD .dead)) (toG ((toT (getV r0)).tail.tail.tail.headD .dead))]; ck (okX [RS.one LK.b,RS.one (LK.l 1),RS.one LK.b,RS.one (LK.l 1),RS.one (LK.i .i64)] r1) <| let r2 : Option AV := qo [AV.ptr (xidx [Blk.box [AV.bool (toB ((toT (getV r1)).headD .dead)),AV.ro 1 (toN ((toT (getV r1)).tail.headD .dead)) (toR ((toT (getV r1)).tail.headD .dead)) (toG ((toT (getV r1)).tail.headD .dead)),AV.bool (toB ((toT (getV r1)).tail.tail.headD .dead)),AV.ro 1 (toN ((toT (getV r1)).tail.tail.tail.headD .dead)) (toR ((toT (getV r1)).tail.tail.tail.headD .dead)) (toG ((toT (getV r1)).tail.tail.tail.headD .dead))],Blk.box [AV.bool false,AV.nils 1 [AV.int .u64 0],AV.nils 1 [AV.int .u64 0]]].length (xtoks [AV.ptr [Blk.box [AV.bool (toB ((toT (getV r1)).headD .dead)),AV.ro 1 (toN ((toT (getV r1)).tail.headD .dead)) (toR ((toT (getV r1)).tail.headD .dead)) (toG ((toT (getV r1)).tail.headD .dead)),AV.bool (toB ((toT (getV r1)).tail.tail.headD .dead)),AV.ro 1 (toN ((toT (getV r1)).tail.tail.tail.headD .dead)) (toR ((toT (getV r1)).tail.tail.tail.headD .dead)) (toG ((toT (getV r1)).tail.tail.tail.headD .dead))],Blk.box [AV.bool false,AV.nils 1 [AV.int .u64 0],AV.nils 1 [AV.int .u64 0]]].length 0,AV.ptr 0 0] [])) 0,AV.ptr (xidx 0 (xtoks [AV.ptr [Blk.box [AV.bool (toB ((toT (getV r1)).headD .dead)),AV.ro 1 (toN ((toT (getV r1)).tail.headD .dead)) (toR ((toT (getV r1)).tail.headD .dead)) (toG ((toT (getV r1)).tail.headD .dead)),AV.bool (toB ((toT (getV r1)).tail.tail.headD .dead)),AV.ro 1 (toN ((toT (getV r1)).tail.tail.tail.headD .dead)) (toR ((toT (getV r1)).tail.tail.tail.headD .dead)) (toG ((toT (getV r1)).tail.tail.tail.headD .dead))],Blk.box [AV.bool false,AV.nils 1 [AV.int .u64 0],AV.nils 1 [AV.int .u64 0]]].length 0,AV.ptr 0 0] [])) 0,AV.bool false,AV.ro 1 0 0 fun (x j : Nat) => [AV.int .u32 0].getD j AV.dead,AV.bool (toB ((toT (getV r1)).headD .dead)),AV.ro 1 (toN ((toT (getV r1)).tail.headD .dead)) (toR ((toT (getV r1)).tail.headD .dead)) (toG ((toT (getV r1)).tail.headD .dead)),AV.bool (toB ((toT (getV r1)).tail.tail.headD .dead)),AV.ro 1 (toN ((toT (getV r1)).tail.tail.tail.headD .dead)) (toR ((toT (getV r1)).tail.tail.tail.headD .dead)) (toG ((toT (getV r1)).tail.tail.tail.headD .dead))]; ck (okX [RS.one LK.b,RS.one (LK.l 1),RS.one LK.b,RS.one (LK.l 1),RS.one LK.b,RS.one (LK.l 1)] r2) <| let r3 : Option AV := v2 [AV.ptr (xidx (xren (xtoks [AV.ptr [Blk.box [AV.bool (toB ((toT (getV r1)).headD .dead)),AV.ro 1 (toN ((toT (getV r1)).tail.headD .dead)) (toR ((toT (getV r1)).tail.headD .dead)) (toG ((toT (getV r1)).tail.headD .dead)),AV.bool (toB ((toT (getV r1)).tail.tail.headD .dead)),AV.ro 1 (toN ((toT (getV r1)).tail.tail.tail.headD .dead)) (toR ((toT (getV r1)).tail.tail.tail.headD .dead)) (toG ((toT (getV r1)).tail.tail.tail.headD .dead))],Blk.box [AV.bool false,AV.nils 1 [AV.int .u64 0],AV.nils 1 [AV.int .u64 0]]].length 0,AV.ptr 0 0] []) [Blk.box [AV.bool (toB ((toT (getV r1)).headD .dead)),AV.ro 1 (toN ((toT (getV r1)).tail.headD .dead)) (toR ((toT (getV r1)).tail.headD .dead)) (toG ((toT (getV r1)).tail.headD .dead)),AV.bool (toB ((toT (getV r1)).tail.tail.headD .dead)),AV.ro 1 (toN ((toT (getV r1)).tail.tail.tail.headD .dead)) (toR ((toT (getV r1)).tail.tail.tail.headD .dead)) (toG ((toT (getV r1)).tail.tail.tail.headD .dead))],Blk.box [AV.bool false,AV.nils 1 [AV.int .u64 0],AV.nils 1 [AV.int .u64 0]],Blk.box [AV.bool false,AV.nils 1 [AV.int .u32 0]]].length 0) (xtoks [AV.ptr (xren (xtoks [AV.ptr [Blk.box [AV.bool (toB ((toT (getV r1)).headD .dead)),AV.ro 1 (toN ((toT (getV r1)).tail.headD .dead)) (toR ((toT (getV r1)).tail.headD .dead)) (toG ((toT (getV r1)).tail.headD .dead)),AV.bool (toB ((toT (getV r1)).tail.tail.headD .dead)),AV.ro 1 (toN ((toT (getV r1)).tail.tail.tail.headD .dead)) (toR ((toT (getV r1)).tail.tail.tail.headD .dead)) (toG ((toT (getV r1)).tail.tail.tail.headD .dead))],Blk.box [AV.bool false,AV.nils 1 [AV.int .u64 0],AV.nils 1 [AV.int .u64 0]]].length 0,AV.ptr 0 0] []) [Blk.box [AV.bool (toB ((toT (getV r1)).headD .dead)),AV.ro 1 (toN ((toT (getV r1)).tail.headD .dead)) (toR ((toT (getV r1)).tail.headD .dead)) (toG ((toT (getV r1)).tail.headD .dead)),AV.bool (toB ((toT (getV r1)).tail.tail.headD .dead)),AV.ro 1 (toN ((toT (getV r1)).tail.tail.tail.headD .dead)) (toR ((toT (getV r1)).tail.tail.tail.headD .dead)) (toG ((toT (getV r1)).tail.tail.tail.headD .dead))],Blk.box [AV.bool false,AV.nils 1 [AV.int .u64 0],AV.nils 1 [AV.int .u64 0]],Blk.box [AV.bool false,AV.nils 1 [AV.int .u32 0]]].length 0) 0] [])) 0,AV.bool (toB ((toT (getV r2)).headD .dead)),AV.ro 1 (toN ((toT (getV r2)).tail.headD .dead)) (toR ((toT (getV r2)).tail.headD .dead)) (toG ((toT (getV r2)).tail.headD .dead))]; ck (okX [RS.one LK.b,RS.one (LK.l 1),RS.one (LK.l 1)] r3) <| let r4 : Option AV := zr [AV.ptr (xidx 0 (xtoks [AV.ptr 0 0] [])) 0,AV.bool (toB ((toT (getV r2)).tail.tail.headD .dead)),AV.ro 1 (toN ((toT (getV r2)).tail.tail.tail.headD .dead)) (toR ((toT (getV r2)).tail.tail.tail.headD .dead)) (toG ((toT (getV r2)).tail.tail.tail.headD .dead)),AV.bool (toB ((toT (getV r2)).tail.tail.tail.tail.headD .dead)),AV.ro 1 (toN ((toT (getV r2)).tail.tail.tail.tail.tail.headD .dead)) (toR ((toT (getV r2)).tail.tail.tail.tail.tail.headD .dead)) (toG ((toT (getV r2)).tail.tail.tail.tail.tail.headD .dead))]; ck (okX [RS.one LK.b,RS.one (LK.l 1),RS.one LK.b,RS.one (LK.l 1),RS.one LK.b,RS.one (LK.l 1)] r4) <| let r5 : Option AV := v2 [AV.ptr (xidx (xren (xtoks [AV.ptr 0 0] []) [Blk.box [AV.bool (toB ((toT (getV r2)).tail.tail.headD .dead)),AV.ro 1 (toN ((toT (getV r2)).tail.tail.tail.headD .dead)) (toR ((toT (getV r2)).tail.tail.tail.headD .dead)) (toG ((toT (getV r2)).tail.tail.tail.headD .dead)),AV.bool (toB ((toT (getV r2)).tail.tail.tail.tail.headD .dead)),AV.ro 1 (toN ((toT (getV r2)).tail.tail.tail.tail.tail.headD .dead)) (toR ((toT (getV r2)).tail.tail.tail.tail.tail.headD .dead)) (toG ((toT (getV r2)).tail.tail.tail.tail.tail.headD .dead))],Blk.box [AV.bool false,AV.nils 1 [AV.int .u64 0],AV.nils 1 [AV.int .u64 0]],Blk.box [AV.bool (toB ((toT (getV r3)).headD .dead)),AV.ro 1 (toN ((toT (getV r3)).tail.headD .dead)) (toR ((toT (getV r3)).tail.headD .dead)) (toG ((toT (getV r3)).tail.headD .dead))]].length 1) (xtoks [AV.ptr (xren (xtoks [AV.ptr 0 0] []) [Blk.box [AV.bool (toB ((toT (getV r2)).tail.tail.headD .dead)),AV.ro 1 (toN ((toT (getV r2)).tail.tail.tail.headD .dead)) (toR ((toT (getV r2)).tail.tail.tail.headD .dead)) (toG ((toT (getV r2)).tail.tail.tail.headD .dead)),AV.bool (toB ((toT (getV r2)).tail.tail.tail.tail.headD .dead)),AV.ro 1 (toN ((toT (getV r2)).tail.tail.tail.tail.tail.headD .dead)) (toR ((toT (getV r2)).tail.tail.tail.tail.tail.headD .dead)) (toG ((toT (getV r2)).tail.tail.tail.tail.tail.headD .dead))],Blk.box [AV.bool false,AV.nils 1 [AV.int .u64 0],AV.nils 1 [AV.int .u64 0]],Blk.box [AV.bool (toB ((toT (getV r3)).headD .dead)),AV.ro 1 (toN ((toT (getV r3)).tail.headD .dead)) (toR ((toT (getV r3)).tail.headD .dead)) (toG ((toT (getV r3)).tail.headD .dead))]].length 1) 0] [])) 0,AV.bool (toB ((toT (getV r4)).tail.tail.tail.tail.headD .dead)),AV.ro 1 (toN ((toT (getV r4)).tail.tail.tail.tail.tail.headD .dead)) (toR ((toT (getV r4)).tail.tail.tail.tail.tail.headD .dead)) (toG ((toT (getV r4)).tail.tail.tail.tail.tail.headD .dead))]; ck (okX [RS.one LK.b,RS.one (LK.l 1),RS.one (LK.l 1)] r5) <| ck (bif !decide ((↑(toN ((toT (getV r3)).tail.tail.headD .dead)) : Int) > 256) then true else true) <| bif bif decide ((↑(toN ((toT (getV r3)).tail.tail.headD .dead)) : Int) > 256) then true else decide ((↑(toN ((toT (getV r5)).tail.tail.headD .dead)) : Int) > 256) then some (AV.tup [AV.bool (toB ((toT (getV r4)).headD .dead)),AV.ro 1 (toN ((toT (getV r4)).tail.headD .dead)) (toR ((toT (getV r4)).tail.headD .dead)) (toG ((toT (getV r4)).tail.headD .dead)),AV.bool (toB ((toT (getV r4)).tail.tail.headD .dead)),AV.ro 1 (toN ((toT (getV r4)).tail.tail.tail.headD .dead)) (toR ((toT (getV r4)).tail.tail.tail.headD .dead)) (toG ((toT (getV r4)).tail.tail.tail.headD .dead)),AV.agg [AV.bool false,AV.ro 1 0 0 fun (x j : Nat) => [AV.int .u64 0].getD j AV.dead,AV.ro 1 0 0 fun (x j : Nat) => [AV.int .u64 0].getD j AV.dead],AV.int .i64 3])
  else some (AV.tup [AV.bool (toB ((toT (getV r4)).headD .dead)),AV.ro 1 (toN ((toT (getV r4)).tail.headD .dead)) (toR ((toT (getV r4)).tail.headD .dead)) (toG ((toT (getV r4)).tail.headD .dead)),AV.bool (toB ((toT (getV r4)).tail.tail.headD .dead)),AV.ro 1 (toN ((toT (getV r4)).tail.tail.tail.headD .dead)) (toR ((toT (getV r4)).tail.tail.tail.headD .dead)) (toG ((toT (getV r4)).tail.tail.tail.headD .dead)),AV.agg [AV.bool (decide (toI ((toT (getV r1)).tail.tail.tail.tail.headD .dead) < 0)),AV.ro 1 (toN ((toT (getV r3)).tail.tail.headD .dead)) (toR ((toT (getV r3)).tail.tail.headD .dead)) (toG ((toT (getV r3)).tail.tail.headD .dead)),AV.ro 1 (toN ((toT (getV r5)).tail.tail.headD .dead)) (toR ((toT (getV r5)).tail.tail.headD .dead)) (toG ((toT (getV r5)).tail.tail.headD .dead))],AV.int .i64 0])
theorem gratio_told_a_run (zz qo : Mo) (qr v2 zr : Mo) (fuel : Nat) (q4 : Bool) (qm qu : Nat) (qq : Ge) (z0 : Bool) (zd zl : Nat) (zj : Ge) : runX Pr (Gratio_told_a zz qo qr v2 zr) [((6,60),Lratio_told_a zz qo qr v2 zr fuel)] fuel 7 60 Xratio_told_a [AV.ptr 0 0] [Blk.box [AV.bool q4,AV.ro 1 qm qu qq,AV.bool z0,AV.ro 1 zd zl zj]] = gratio_told_a zz qo qr v2 zr fuel q4 qm qu qq z0 zd zl zj := by kernel_rfl
noncomputable def mratio_told_a (zz qo : Mo) (qr v2 zr : Mo) (fuel : Nat) (xs : List AV) : Option AV := match xs with
  | [AV.ptr 0 0,AV.bool q4,AV.ro 1 qm qu qq,AV.bool z0,AV.ro 1 zd zl zj] => gratio_told_a zz qo qr v2 zr fuel q4 qm qu qq z0 zd zl zj
  | _ => none
theorem gratio_told_a_sm (zz qo : Mo) (qr v2 zr : Mo) (fuel : Nat) (hΓ : GamOk Pr (Gratio_told_a zz qo qr v2 zr)) (hP : NamesOk Pr) : XOk Pr 60 (smX Rratio_told_a Xratio_told_a (mratio_told_a zz qo qr v2 zr fuel)) Xratio_told_a := by
  refine smX_ok (fuel := fuel) hΓ hP (LamOk.of 6 60 (Lratio_told_a zz qo qr v2 zr fuel) 0 (by kernel_rfl) (fun i hi => ?_)) 7 60 Rratio_told_a Xratio_told_a _ (fun xs0 ys0 v ha hb h => ?_)
  · match i,hi with
    | i + 0,hi => exact absurd hi (by omega)
  · skip
    have ha0 : xs0.length = 1 := ha
    clear ha
    obtain ⟨a0,xs1,rfl,ha1⟩ := len_cons ha0
    clear ha0
    obtain rfl := List.eq_nil_of_length_eq_zero ha1
    have hy0 : ys0.map List.length = [4] := hb
    clear hb
    obtain ⟨q4,ys1,rfl,hb0_0,hy1⟩ := map_cons' hy0
    clear hy0
    obtain ⟨c0_0,b0_1,rfl,hb0_1⟩ := len_cons hb0_0
    clear hb0_0
    obtain ⟨c0_1,z0,rfl,hb0_2⟩ := len_cons hb0_1
    clear hb0_1
    obtain ⟨c0_2,b0_3,rfl,hb0_3⟩ := len_cons hb0_2
    clear hb0_2
    obtain ⟨c0_3,b0_4,rfl,hb0_4⟩ := len_cons hb0_3
    clear hb0_3
    obtain rfl := List.eq_nil_of_length_eq_zero hb0_4
    obtain rfl := map_nil' hy1
    have h : mratio_told_a zz qo qr v2 zr fuel [a0,c0_0,c0_1,c0_2,c0_3] = some v := h
    generalize hx0 : [a0,c0_0,c0_1,c0_2,c0_3] = zs at h
    unfold mratio_told_a at h
    split at h
    · skip
      obtain ⟨rfl,hx1⟩ := List.cons.inj hx0
      obtain ⟨rfl,hx2⟩ := List.cons.inj hx1
      obtain ⟨rfl,hx3⟩ := List.cons.inj hx2
      obtain ⟨rfl,hx4⟩ := List.cons.inj hx3
      obtain ⟨rfl,hx5⟩ := List.cons.inj hx4
      simp only [List.map_cons,List.map_nil]
      exact (gratio_told_a_run zz qo qr v2 zr fuel _ _ _ _ _ _ _ _).trans h
    · cases h
noncomputable def Skit_SameLimbs_0 (qn qv : Nat) (qk : Ge) (wj wl : Nat) (q9 : Ge) (ui5 : Int) : St := { env := [(0,AV.ro 1 qn qv qk),(1,AV.ro 1 wj wl q9),(5,AV.int .i64 ui5)],h := [],kd := [] }
noncomputable def Xkit_SameLimbs_0_0 (qfg : Bool) : St := { env := [(4,AV.bool qfg)],h := [],kd := [] }
noncomputable def Xkit_SameLimbs_0_1 : St := { env := [],h := [],kd := [] }
noncomputable def gkit_SameLimbs_l0_step (fuel : Nat) (kn : Int → Option AV) (kx0 : Bool → Option AV) (kx1 : Option AV) (qn qv : Nat) (qk : Ge) (wj wl : Nat) (q9 : Ge) (ui5 : Int) : Option AV :=
  bif decide (ui5 < (↑qn : Int)) then ck (decide (0 ≤ ui5)) <| ck (decide (ui5 < (↑qn : Int))) <| ck (fitK (LK.i .u64) (qk ui5.toNat 0)) <| ck (decide (0 ≤ ui5)) <| ck (decide (ui5 < (↑wj : Int))) <| ck (fitK (LK.i .u64) (q9 ui5.toNat 0)) <| bif toI (qk ui5.toNat 0) != toI (q9 ui5.toNat 0) then kx0 false
    else kn (IntKind.i64.wrap (ui5 + 1))
  else kx1
noncomputable def gkit_SameLimbs_l0 (fuel : Nat) (kx0 : Bool → Option AV) (kx1 : Option AV) (qn qv : Nat) (qk : Ge) (wj wl : Nat) (q9 : Ge) : Nat → Int → Option AV
  | 0,_ => none
  | n' + 1,ui5 => gkit_SameLimbs_l0_step fuel (gkit_SameLimbs_l0 fuel kx0 kx1 qn qv qk wj wl q9 n') kx0 kx1 qn qv qk wj wl q9 ui5
noncomputable def Tkit_SameLimbs_0 : TS' := ⟨[(0,TA.ro 1),(1,TA.ro 1),(5,TA.i .i64)],[],[]⟩
noncomputable def Fkit_SameLimbs_0 (fuel : Nat) (ps : List Pay) (K : Ex → St → Option AV) : Option AV := match ps with
  | .n qn :: .n qv :: .g qk :: .n wj :: .n wl :: .g q9 :: .i ui5 :: [] => gkit_SameLimbs_l0 fuel (fun qfg => K (Ex.ret) (Xkit_SameLimbs_0_0 qfg)) (K (Ex.exit 0) Xkit_SameLimbs_0_1) qn qv qk wj wl q9 fuel ui5
  | _ => none
noncomputable def Lkit_SameLimbs (fuel : Nat) : Lam AV := [(67106864,lam Tkit_SameLimbs_0 (Fkit_SameLimbs_0 fuel))]
noncomputable def Gkit_SameLimbs : Gam := []
theorem gkit_SameLimbs_l0_eq (fuel : Nat) (kn : St → Option AV) (K : Ex → St → Option AV) (qn qv : Nat) (qk : Ge) (wj wl : Nat) (q9 : Ge) (qjq ui5 : Int) :
    bX Pr Gkit_SameLimbs (Lkit_SameLimbs fuel) 6 66 0 fuel (Skit_SameLimbs_0 qn qv qk wj wl q9 ui5) (fun e s => match e with | .normal => kn (hX Pr 66 0 (Skit_SameLimbs_0 qn qv qk wj wl q9 qjq) s) | e => K e s) =
    gkit_SameLimbs_l0_step fuel (fun ui5 => kn (Skit_SameLimbs_0 qn qv qk wj wl q9 ui5)) (fun xu4 => K (Ex.ret) (Xkit_SameLimbs_0_0 xu4)) (K (Ex.exit 0) Xkit_SameLimbs_0_1) qn qv qk wj wl q9 ui5 := by kernel_rfl
theorem gkit_SameLimbs_l0_ok (fuel : Nat) (K : Ex → St → Option AV) (qn qv : Nat) (qk : Ge) (wj wl : Nat) (q9 : Ge) (qjq : Int) : ∀ (n' : Nat) (ui5 : Int),
    loopK (bX Pr Gkit_SameLimbs (Lkit_SameLimbs fuel) 6 66 0 fuel) (hX Pr 66 0 (Skit_SameLimbs_0 qn qv qk wj wl q9 qjq)) n' (Skit_SameLimbs_0 qn qv qk wj wl q9 ui5) K = gkit_SameLimbs_l0 fuel (fun xu4 => K (Ex.ret) (Xkit_SameLimbs_0_0 xu4)) (K (Ex.exit 0) Xkit_SameLimbs_0_1) qn qv qk wj wl q9 n' ui5
  | 0,_ => rfl
  | n' + 1,ui5 => (gkit_SameLimbs_l0_eq fuel (fun s => loopK (bX Pr Gkit_SameLimbs (Lkit_SameLimbs fuel) 6 66 0 fuel) (hX Pr 66 0 (Skit_SameLimbs_0 qn qv qk wj wl q9 qjq)) n' s K) K qn qv qk wj wl q9 qjq ui5).trans
    (congrArg (fun kn => gkit_SameLimbs_l0_step fuel kn _ _ qn qv qk wj wl q9 ui5) (funext fun ui5 => gkit_SameLimbs_l0_ok fuel K qn qv qk wj wl q9 qjq n' ui5))
theorem gkit_SameLimbs_L0 (fuel : Nat) : LX Pr Gkit_SameLimbs (Lkit_SameLimbs fuel) 6 66 0 fuel := by
  refine .of Tkit_SameLimbs_0 (Fkit_SameLimbs_0 fuel) (fun L h => ?_) (fun ps st K r he hr => ?_)
  · have e : (Lkit_SameLimbs fuel).get (writes (lp Pr 66 0).1) = some (lam Tkit_SameLimbs_0 (Fkit_SameLimbs_0 fuel)) := by kernel_rfl
    exact (Option.some.inj (e.symm.trans h)).symm
  · unfold Fkit_SameLimbs_0 at hr
    split at hr
    · obtain rfl := (Option.some.inj he).symm
      exact (gkit_SameLimbs_l0_ok fuel K _ _ _ _ _ _ _ fuel _).trans hr
    · cases hr
noncomputable def gkit_SameLimbs (fuel zh v3 : Nat) (vs : Ge) (yl p1 : Nat) (pv : Ge) : Option AV :=
  bif (↑zh : Int) != (↑yl : Int) then some (AV.bool false)
  else gkit_SameLimbs_l0 fuel
    (fun (xu4 : Bool) => some (AV.bool xu4))
    (some (AV.bool true))
    zh
    v3
    vs
    yl
    p1
    pv fuel (0)
noncomputable def mkit_SameLimbs (fuel : Nat) (xs : List AV) : Option AV := match xs with
  | [AV.ro 1 zh v3 vs,AV.ro 1 yl p1 pv] => gkit_SameLimbs fuel zh v3 vs yl p1 pv
  | _ => none
abbrev Rkit_SameLimbs : List RS := [RS.one LK.b]
theorem gkit_SameLimbs_sm (fuel : Nat) (hΓ : GamOk Pr Gkit_SameLimbs) (hP : NamesOk Pr) : SmOk Pr 66 (smM Rkit_SameLimbs (mkit_SameLimbs fuel)) := smL (L := (Lkit_SameLimbs fuel)) (n := 1) hΓ hP (by kernel_rfl) (fun i hi => match i,hi with
  | 0,_ => gkit_SameLimbs_L0 fuel
  | i + 1,hi => absurd hi (by omega)) fun xs v h => by
  unfold mkit_SameLimbs at h
  split at h
  · exact Eq.trans (by kernel_rfl) h
  · cases h
noncomputable def Gkit_SameRatio (vj : Mo) : Gam := [(66,smM [RS.one LK.b] vj)]
noncomputable def gkit_SameRatio (vj : Mo) (fuel : Nat) (vp : Bool) (qi5 qix : Nat) (qjb : Ge) (qlj qls : Nat) (qlc : Ge) (vu : Bool) (qi0 qjc : Nat) (qjf : Ge) (qlm qk9 : Nat) (qlp : Ge) : Option AV :=
  ck (bif vp == vu then true else true) <| ck (bif vp == vu then true else true) <| ck (bif vp == vu then okM [RS.one LK.b] (vj [AV.ro 1 qi5 qix qjb,AV.ro 1 qi0 qjc qjf]) else true) <| ck (bif bif vp == vu then toB (getV (vj [AV.ro 1 qi5 qix qjb,AV.ro 1 qi0 qjc qjf])) else false then true else true) <| ck (bif bif vp == vu then toB (getV (vj [AV.ro 1 qi5 qix qjb,AV.ro 1 qi0 qjc qjf])) else false then true else true) <| ck (bif bif vp == vu then toB (getV (vj [AV.ro 1 qi5 qix qjb,AV.ro 1 qi0 qjc qjf])) else false then okM [RS.one LK.b] (vj [AV.ro 1 qlj qls qlc,AV.ro 1 qlm qk9 qlp]) else true) <| some (AV.bool (bif bif vp == vu then toB (getV (vj [AV.ro 1 qi5 qix qjb,AV.ro 1 qi0 qjc qjf])) else false then toB (getV (vj [AV.ro 1 qlj qls qlc,AV.ro 1 qlm qk9 qlp])) else false))
noncomputable def mkit_SameRatio (vj : Mo) (fuel : Nat) (xs : List AV) : Option AV := match xs with
  | [AV.agg [AV.bool vp,AV.ro 1 qi5 qix qjb,AV.ro 1 qlj qls qlc],AV.agg [AV.bool vu,AV.ro 1 qi0 qjc qjf,AV.ro 1 qlm qk9 qlp]] => gkit_SameRatio vj fuel vp qi5 qix qjb qlj qls qlc vu qi0 qjc qjf qlm qk9 qlp
  | _ => none
abbrev Rkit_SameRatio : List RS := [RS.one LK.b]
theorem gkit_SameRatio_sm (vj : Mo) (fuel : Nat) (hΓ : GamOk Pr (Gkit_SameRatio vj)) (hP : NamesOk Pr) : SmOk Pr 30 (smM Rkit_SameRatio (mkit_SameRatio vj fuel)) := sm0 (fuel := fuel) (d := 7) hΓ hP fun xs v h => by
  unfold mkit_SameRatio at h
  split at h
  · exact Eq.trans (by kernel_rfl) h
  · cases h
noncomputable def Skit_SameRatios_0 (qn qv : Nat) (qk : Ge) (wj wl : Nat) (q9 : Ge) (ui5 : Int) : St := { env := [(0,AV.ro 3 qn qv qk),(1,AV.ro 3 wj wl q9),(5,AV.int .i64 ui5)],h := [],kd := [] }
noncomputable def Xkit_SameRatios_0_0 (qfg : Bool) : St := { env := [(4,AV.bool qfg)],h := [],kd := [] }
noncomputable def Xkit_SameRatios_0_1 : St := { env := [],h := [],kd := [] }
noncomputable def gkit_SameRatios_l0_step (wm : Mo) (fuel : Nat) (kn : Int → Option AV) (kx0 : Bool → Option AV) (kx1 : Option AV) (qn qv : Nat) (qk : Ge) (wj wl : Nat) (q9 : Ge) (ui5 : Int) : Option AV :=
  bif decide (ui5 < (↑qn : Int)) then ck (decide (0 ≤ ui5)) <| ck (decide (ui5 < (↑qn : Int))) <| ck (fitKs [LK.b,LK.l 1,LK.l 1] [qk ui5.toNat 0,qk ui5.toNat 1,qk ui5.toNat 2]) <| ck (decide (0 ≤ ui5)) <| ck (decide (ui5 < (↑wj : Int))) <| ck (fitKs [LK.b,LK.l 1,LK.l 1] [q9 ui5.toNat 0,q9 ui5.toNat 1,q9 ui5.toNat 2]) <| ck (okM [RS.one LK.b] (wm [AV.agg [AV.bool (toB (qk ui5.toNat 0)),AV.ro 1 (toN (qk ui5.toNat 1)) (toR (qk ui5.toNat 1)) (toG (qk ui5.toNat 1)),AV.ro 1 (toN (qk ui5.toNat 2)) (toR (qk ui5.toNat 2)) (toG (qk ui5.toNat 2))],AV.agg [AV.bool (toB (q9 ui5.toNat 0)),AV.ro 1 (toN (q9 ui5.toNat 1)) (toR (q9 ui5.toNat 1)) (toG (q9 ui5.toNat 1)),AV.ro 1 (toN (q9 ui5.toNat 2)) (toR (q9 ui5.toNat 2)) (toG (q9 ui5.toNat 2))]])) <| bif !toB (getV (wm [AV.agg [AV.bool (toB (qk ui5.toNat 0)),AV.ro 1 (toN (qk ui5.toNat 1)) (toR (qk ui5.toNat 1)) (toG (qk ui5.toNat 1)),AV.ro 1 (toN (qk ui5.toNat 2)) (toR (qk ui5.toNat 2)) (toG (qk ui5.toNat 2))],AV.agg [AV.bool (toB (q9 ui5.toNat 0)),AV.ro 1 (toN (q9 ui5.toNat 1)) (toR (q9 ui5.toNat 1)) (toG (q9 ui5.toNat 1)),AV.ro 1 (toN (q9 ui5.toNat 2)) (toR (q9 ui5.toNat 2)) (toG (q9 ui5.toNat 2))]])) then kx0 false
    else kn (IntKind.i64.wrap (ui5 + 1))
  else kx1
noncomputable def gkit_SameRatios_l0 (wm : Mo) (fuel : Nat) (kx0 : Bool → Option AV) (kx1 : Option AV) (qn qv : Nat) (qk : Ge) (wj wl : Nat) (q9 : Ge) : Nat → Int → Option AV
  | 0,_ => none
  | n' + 1,ui5 => gkit_SameRatios_l0_step wm fuel (gkit_SameRatios_l0 wm fuel kx0 kx1 qn qv qk wj wl q9 n') kx0 kx1 qn qv qk wj wl q9 ui5
noncomputable def Tkit_SameRatios_0 : TS' := ⟨[(0,TA.ro 3),(1,TA.ro 3),(5,TA.i .i64)],[],[]⟩
noncomputable def Fkit_SameRatios_0 (wm : Mo) (fuel : Nat) (ps : List Pay) (K : Ex → St → Option AV) : Option AV := match ps with
  | .n qn :: .n qv :: .g qk :: .n wj :: .n wl :: .g q9 :: .i ui5 :: [] => gkit_SameRatios_l0 wm fuel (fun qfg => K (Ex.ret) (Xkit_SameRatios_0_0 qfg)) (K (Ex.exit 0) Xkit_SameRatios_0_1) qn qv qk wj wl q9 fuel ui5
  | _ => none
noncomputable def Lkit_SameRatios (wm : Mo) (fuel : Nat) : Lam AV := [(134215728,lam Tkit_SameRatios_0 (Fkit_SameRatios_0 wm fuel))]
noncomputable def Gkit_SameRatios (wm : Mo) : Gam := [(30,smM [RS.one LK.b] wm)]
theorem gkit_SameRatios_l0_eq (wm : Mo) (fuel : Nat) (kn : St → Option AV) (K : Ex → St → Option AV) (qn qv : Nat) (qk : Ge) (wj wl : Nat) (q9 : Ge) (qjq ui5 : Int) :
    bX Pr (Gkit_SameRatios wm) (Lkit_SameRatios wm fuel) 6 13 0 fuel (Skit_SameRatios_0 qn qv qk wj wl q9 ui5) (fun e s => match e with | .normal => kn (hX Pr 13 0 (Skit_SameRatios_0 qn qv qk wj wl q9 qjq) s) | e => K e s) =
    gkit_SameRatios_l0_step wm fuel (fun ui5 => kn (Skit_SameRatios_0 qn qv qk wj wl q9 ui5)) (fun xu4 => K (Ex.ret) (Xkit_SameRatios_0_0 xu4)) (K (Ex.exit 0) Xkit_SameRatios_0_1) qn qv qk wj wl q9 ui5 := by kernel_rfl
theorem gkit_SameRatios_l0_ok (wm : Mo) (fuel : Nat) (K : Ex → St → Option AV) (qn qv : Nat) (qk : Ge) (wj wl : Nat) (q9 : Ge) (qjq : Int) : ∀ (n' : Nat) (ui5 : Int),
    loopK (bX Pr (Gkit_SameRatios wm) (Lkit_SameRatios wm fuel) 6 13 0 fuel) (hX Pr 13 0 (Skit_SameRatios_0 qn qv qk wj wl q9 qjq)) n' (Skit_SameRatios_0 qn qv qk wj wl q9 ui5) K = gkit_SameRatios_l0 wm fuel (fun xu4 => K (Ex.ret) (Xkit_SameRatios_0_0 xu4)) (K (Ex.exit 0) Xkit_SameRatios_0_1) qn qv qk wj wl q9 n' ui5
  | 0,_ => rfl
  | n' + 1,ui5 => (gkit_SameRatios_l0_eq wm fuel (fun s => loopK (bX Pr (Gkit_SameRatios wm) (Lkit_SameRatios wm fuel) 6 13 0 fuel) (hX Pr 13 0 (Skit_SameRatios_0 qn qv qk wj wl q9 qjq)) n' s K) K qn qv qk wj wl q9 qjq ui5).trans
    (congrArg (fun kn => gkit_SameRatios_l0_step wm fuel kn _ _ qn qv qk wj wl q9 ui5) (funext fun ui5 => gkit_SameRatios_l0_ok wm fuel K qn qv qk wj wl q9 qjq n' ui5))
theorem gkit_SameRatios_L0 (wm : Mo) (fuel : Nat) : LX Pr (Gkit_SameRatios wm) (Lkit_SameRatios wm fuel) 6 13 0 fuel := by
  refine .of Tkit_SameRatios_0 (Fkit_SameRatios_0 wm fuel) (fun L h => ?_) (fun ps st K r he hr => ?_)
  · have e : (Lkit_SameRatios wm fuel).get (writes (lp Pr 13 0).1) = some (lam Tkit_SameRatios_0 (Fkit_SameRatios_0 wm fuel)) := by kernel_rfl
    exact (Option.some.inj (e.symm.trans h)).symm
  · unfold Fkit_SameRatios_0 at hr
    split at hr
    · obtain rfl := (Option.some.inj he).symm
      exact (gkit_SameRatios_l0_ok wm fuel K _ _ _ _ _ _ _ fuel _).trans hr
    · cases hr
noncomputable def gkit_SameRatios (wm : Mo) (fuel zh v3 : Nat) (vs : Ge) (yl p1 : Nat) (pv : Ge) : Option AV :=
  bif (↑zh : Int) != (↑yl : Int) then some (AV.bool false)
  else gkit_SameRatios_l0 wm fuel
    (fun (xu4 : Bool) => some (AV.bool xu4))
    (some (AV.bool true))
    zh
    v3
    vs
    yl
    p1
    pv fuel (0)
noncomputable def mkit_SameRatios (wm : Mo) (fuel : Nat) (xs : List AV) : Option AV := match xs with
  | [AV.ro 3 zh v3 vs,AV.ro 3 yl p1 pv] => gkit_SameRatios wm fuel zh v3 vs yl p1 pv
  | _ => none
abbrev Rkit_SameRatios : List RS := [RS.one LK.b]
theorem gkit_SameRatios_sm (wm : Mo) (fuel : Nat) (hΓ : GamOk Pr (Gkit_SameRatios wm)) (hP : NamesOk Pr) : SmOk Pr 13 (smM Rkit_SameRatios (mkit_SameRatios wm fuel)) := smL (L := (Lkit_SameRatios wm fuel)) (n := 1) hΓ hP (by kernel_rfl) (fun i hi => match i,hi with
  | 0,_ => gkit_SameRatios_L0 wm fuel
  | i + 1,hi => absurd hi (by omega)) fun xs v h => by
  unfold mkit_SameRatios at h
  split at h
  · exact Eq.trans (by kernel_rfl) h
  · cases h
end Go.Proofs.Tryz
end
section
namespace Go.Proofs.Tryz
open Go Go.Am
set_option maxRecDepth 1000000
def NN : Nat := 1125899906842624
def namesB (P : Program) : Bool := P.funcs.toList.all fun fn => !(fn.body.isSome) || !(fn.name == "runtime.NumGoroutine")
theorem names_of {P : Program} (h : namesB P = true) : NamesOk P := by
  intro f fn hf hb
  have := List.all_eq_true.1 h fn (by
    have : P.funcs.toList[f]? = some fn := by simpa using hf
    exact List.mem_of_getElem? this)
  simp only [hb, Bool.not_true, Bool.false_or, Bool.not_eq_true'] at this
  exact this
theorem namesA : NamesOk Pr := names_of (by decide +kernel)
theorem stub_ok (f : Nat) (rs : List RS) : SmOk Pr f (smM rs fun _ => none) :=
  ⟨fun args vs w S _ _ _ _ h => (by cases h), fun _ args h => (by cases h)⟩
theorem ext15 : SmOk Pr 15 sFrom := from_ok (fn := f15) (by kernel_rfl) (by kernel_rfl) (by kernel_rfl) (by kernel_rfl) (by kernel_rfl)
theorem ext16 : SmOk Pr 16 sBits := bits_ok (fn := f16) (by kernel_rfl) (by kernel_rfl) (by kernel_rfl) (by kernel_rfl) (by kernel_rfl)
theorem ext99 : SmOk Pr 99 sFma := fma_ok (fn := f99) (by kernel_rfl) (by kernel_rfl) (by kernel_rfl) (by kernel_rfl) (by kernel_rfl)
theorem ext127 : SmOk Pr 127 sSqrt := sqrt_ok (fn := f127) (by kernel_rfl) (by kernel_rfl) (by kernel_rfl) (by kernel_rfl) (by kernel_rfl)
def kround_cmp : Mo := fun _ => none
def kround_of : Mo := fun _ => none
def kround_times : Mo := fun _ => none
noncomputable def kmath_Copysign : Mo := mmath_Copysign  NN
theorem okmath_Copysign : SmOk Pr 4 (smM Rmath_Copysign kmath_Copysign) := gmath_Copysign_sm  NN (show GamOk Pr (Gmath_Copysign ) from (.cons ext16 rfl (.cons ext15 rfl GamOk.nil))) namesA
noncomputable def kmath_NaN : Mo := mmath_NaN  NN
theorem okmath_NaN : SmOk Pr 5 (smM Rmath_NaN kmath_NaN) := gmath_NaN_sm  NN (show GamOk Pr (Gmath_NaN ) from (.cons ext15 rfl GamOk.nil)) namesA
noncomputable def kjoints_named : Mo := mjoints_named  NN
theorem okjoints_named : SmOk Pr 32 (smM Rjoints_named kjoints_named) := gjoints_named_sm  NN (show GamOk Pr (Gjoints_named ) from GamOk.nil) namesA
noncomputable def kjoints_near : Mo := mjoints_near  NN
theorem okjoints_near : SmOk Pr 33 (smM Rjoints_near kjoints_near) := gjoints_near_sm  NN (show GamOk Pr (Gjoints_near ) from GamOk.nil) namesA
noncomputable def kjoints_Check : Mo := mjoints_Check kjoints_named kjoints_near NN
theorem okjoints_Check : SmOk Pr 17 (smM Rjoints_Check kjoints_Check) := gjoints_Check_sm kjoints_named kjoints_near NN (show GamOk Pr (Gjoints_Check kjoints_named kjoints_near) from (.cons (okjoints_named) rfl (.cons (okjoints_near) rfl GamOk.nil))) namesA
noncomputable def kbars_named : Mo := mbars_named  NN
theorem okbars_named : SmOk Pr 34 (smM Rbars_named kbars_named) := gbars_named_sm  NN (show GamOk Pr (Gbars_named ) from GamOk.nil) namesA
noncomputable def kbars_number : Mo := mbars_number  NN
theorem okbars_number : SmOk Pr 35 (smM Rbars_number kbars_number) := gbars_number_sm  NN (show GamOk Pr (Gbars_number ) from GamOk.nil) namesA
noncomputable def kbars_may : Mo := mbars_may kbars_named kbars_number NN
theorem okbars_may : SmOk Pr 18 (smM Rbars_may kbars_may) := gbars_may_sm kbars_named kbars_number NN (show GamOk Pr (Gbars_may kbars_named kbars_number) from (.cons (okbars_named) rfl (.cons (okbars_number) rfl (.cons ext16 rfl GamOk.nil)))) namesA
noncomputable def kbars_Check : Mo := mbars_Check kjoints_Check kbars_may NN
theorem okbars_Check : SmOk Pr 6 (smM Rbars_Check kbars_Check) := gbars_Check_sm kjoints_Check kbars_may NN (show GamOk Pr (Gbars_Check kjoints_Check kbars_may) from (.cons (okjoints_Check) rfl (.cons (okbars_may) rfl GamOk.nil))) namesA
noncomputable def kmath_Inf : Mo := mmath_Inf  NN
theorem okmath_Inf : SmOk Pr 8 (smM Rmath_Inf kmath_Inf) := gmath_Inf_sm  NN (show GamOk Pr (Gmath_Inf ) from (.cons ext15 rfl GamOk.nil)) namesA
noncomputable def klaw19_beam : Mo := mlaw19_beam  NN
theorem oklaw19_beam : SmOk Pr 10 (smM Rlaw19_beam klaw19_beam) := glaw19_beam_sm  NN (show GamOk Pr (Glaw19_beam ) from GamOk.nil) namesA
noncomputable def kjoints_Apart : Mo := mjoints_Apart kjoints_near NN
theorem okjoints_Apart : SmOk Pr 36 (smM Rjoints_Apart kjoints_Apart) := gjoints_Apart_sm kjoints_near NN (show GamOk Pr (Gjoints_Apart kjoints_near) from (.cons (okjoints_near) rfl GamOk.nil)) namesA
noncomputable def kround_way : Mo := mround_way  NN
theorem okround_way : SmOk Pr 93 (smM Rround_way kround_way) := ground_way_sm  NN (show GamOk Pr (Ground_way ) from GamOk.nil) namesA
noncomputable def kmath_Sqrt : Mo := mmath_Sqrt  NN
theorem okmath_Sqrt : SmOk Pr 94 (smM Rmath_Sqrt kmath_Sqrt) := gmath_Sqrt_sm  NN (show GamOk Pr (Gmath_Sqrt ) from (.cons ext127 rfl GamOk.nil)) namesA
noncomputable def kmath_IsNaN : Mo := mmath_IsNaN  NN
theorem okmath_IsNaN : SmOk Pr 128 (smM Rmath_IsNaN kmath_IsNaN) := gmath_IsNaN_sm  NN (show GamOk Pr (Gmath_IsNaN ) from GamOk.nil) namesA
noncomputable def kmath_Abs : Mo := mmath_Abs  NN
theorem okmath_Abs : SmOk Pr 145 (smM Rmath_Abs kmath_Abs) := gmath_Abs_sm  NN (show GamOk Pr (Gmath_Abs ) from (.cons ext16 rfl (.cons ext15 rfl GamOk.nil))) namesA
noncomputable def kmath_IsInf : Mo := mmath_IsInf kmath_Abs NN
theorem okmath_IsInf : SmOk Pr 129 (smM Rmath_IsInf kmath_IsInf) := gmath_IsInf_sm kmath_Abs NN (show GamOk Pr (Gmath_IsInf kmath_Abs) from (.cons (okmath_Abs) rfl GamOk.nil)) namesA
noncomputable def kround_finite : Mo := mround_finite kmath_IsNaN kmath_IsInf NN
theorem okround_finite : SmOk Pr 95 (smM Rround_finite kround_finite) := ground_finite_sm kmath_IsNaN kmath_IsInf NN (show GamOk Pr (Ground_finite kmath_IsNaN kmath_IsInf) from (.cons (okmath_IsNaN) rfl (.cons (okmath_IsInf) rfl GamOk.nil))) namesA
noncomputable def kround_plain : Mo := mround_plain  NN
theorem okround_plain : SmOk Pr 96 (smM Rround_plain kround_plain) := ground_plain_sm  NN (show GamOk Pr (Ground_plain ) from (.cons ext16 rfl GamOk.nil)) namesA
noncomputable def kround_sign : Mo := mround_sign  NN
theorem okround_sign : SmOk Pr 98 (smM Rround_sign kround_sign) := ground_sign_sm  NN (show GamOk Pr (Ground_sign ) from GamOk.nil) namesA
noncomputable def kmath_Signbit : Mo := mmath_Signbit  NN
theorem okmath_Signbit : SmOk Pr 130 (smM Rmath_Signbit kmath_Signbit) := gmath_Signbit_sm  NN (show GamOk Pr (Gmath_Signbit ) from (.cons ext16 rfl GamOk.nil)) namesA
noncomputable def kround_step : Mo := mround_step  NN
theorem okround_step : SmOk Pr 131 (smM Rround_step kround_step) := ground_step_sm  NN (show GamOk Pr (Ground_step ) from (.cons ext16 rfl (.cons ext15 rfl GamOk.nil))) namesA
noncomputable def kround_settle : Mo := mround_settle kmath_Signbit kmath_IsInf kmath_Copysign kround_step NN
theorem okround_settle : SmOk Pr 97 (smM Rround_settle kround_settle) := ground_settle_sm kmath_Signbit kmath_IsInf kmath_Copysign kround_step NN (show GamOk Pr (Ground_settle kmath_Signbit kmath_IsInf kmath_Copysign kround_step) from (.cons (okmath_Signbit) rfl (.cons (okmath_IsInf) rfl (.cons (okmath_Copysign) rfl (.cons (okround_step) rfl GamOk.nil))))) namesA
noncomputable def kround_Sqrt : Mo := mround_Sqrt kround_way kmath_Sqrt kround_finite kround_plain kround_sign kround_settle kround_of kround_times kround_cmp NN
theorem okround_Sqrt : SmOk Pr 67 (smM Rround_Sqrt kround_Sqrt) := ground_Sqrt_sm kround_way kmath_Sqrt kround_finite kround_plain kround_sign kround_settle kround_of kround_times kround_cmp NN (show GamOk Pr (Ground_Sqrt kround_way kmath_Sqrt kround_finite kround_plain kround_sign kround_settle kround_of kround_times kround_cmp) from (.cons (okround_way) rfl (.cons (okmath_Sqrt) rfl (.cons (okround_finite) rfl (.cons (okround_plain) rfl (.cons (okround_sign) rfl (.cons (okround_settle) rfl (.cons (stub_ok _ _) rfl (.cons (stub_ok _ _) rfl (.cons (stub_ok _ _) rfl (.cons ext99 rfl GamOk.nil))))))))))) namesA
noncomputable def kjoints_Length : Mo := mjoints_Length kjoints_Apart kround_Sqrt NN
theorem okjoints_Length : SmOk Pr 37 (smM Rjoints_Length kjoints_Length) := gjoints_Length_sm kjoints_Apart kround_Sqrt NN (show GamOk Pr (Gjoints_Length kjoints_Apart kround_Sqrt) from (.cons (okjoints_Apart) rfl (.cons (okround_Sqrt) rfl GamOk.nil))) namesA
noncomputable def kbars_one : Mo := mbars_one  NN
theorem okbars_one : SmOk Pr 40 (smM Rbars_one kbars_one) := gbars_one_sm  NN (show GamOk Pr (Gbars_one ) from GamOk.nil) namesA
noncomputable def kspan_Right : Mo := mspan_Right kmath_Inf NN
theorem okspan_Right : SmOk Pr 135 (smM Rspan_Right kspan_Right) := gspan_Right_sm kmath_Inf NN (show GamOk Pr (Gspan_Right kmath_Inf) from (.cons (okmath_Inf) rfl GamOk.nil)) namesA
noncomputable def kspan_right : Mo := mspan_right kspan_Right NN
theorem okspan_right : SmOk Pr 103 (smM Rspan_right kspan_right) := gspan_right_sm kspan_Right NN (show GamOk Pr (Gspan_right kspan_Right) from (.cons (okspan_Right) rfl GamOk.nil)) namesA
noncomputable def kbits_Place : Mo := mbits_Place kmath_Abs NN
theorem okbits_Place : SmOk Pr 174 (smM Rbits_Place kbits_Place) := gbits_Place_sm kmath_Abs NN (show GamOk Pr (Gbits_Place kmath_Abs) from (.cons (okmath_Abs) rfl (.cons ext16 rfl GamOk.nil))) namesA
noncomputable def kbits_rank : Mo := mbits_rank kbits_Place kmath_Signbit NN
theorem okbits_rank : SmOk Pr 165 (smM Rbits_rank kbits_rank) := gbits_rank_sm kbits_Place kmath_Signbit NN (show GamOk Pr (Gbits_rank kbits_Place kmath_Signbit) from (.cons (okbits_Place) rfl (.cons (okmath_Signbit) rfl GamOk.nil))) namesA
noncomputable def kcmp_isNaN_int64 : Mo := mcmp_isNaN_int64  NN
theorem okcmp_isNaN_int64 : SmOk Pr 175 (smM Rcmp_isNaN_int64 kcmp_isNaN_int64) := gcmp_isNaN_int64_sm  NN (show GamOk Pr (Gcmp_isNaN_int64 ) from GamOk.nil) namesA
noncomputable def kcmp_Compare_int64 : Mo := mcmp_Compare_int64 kcmp_isNaN_int64 NN
theorem okcmp_Compare_int64 : SmOk Pr 167 (smM Rcmp_Compare_int64 kcmp_Compare_int64) := gcmp_Compare_int64_sm kcmp_isNaN_int64 NN (show GamOk Pr (Gcmp_Compare_int64 kcmp_isNaN_int64) from (.cons (okcmp_isNaN_int64) rfl GamOk.nil)) namesA
noncomputable def kcmp_isNaN_int : Mo := mcmp_isNaN_int  NN
theorem okcmp_isNaN_int : SmOk Pr 176 (smM Rcmp_isNaN_int kcmp_isNaN_int) := gcmp_isNaN_int_sm  NN (show GamOk Pr (Gcmp_isNaN_int ) from GamOk.nil) namesA
noncomputable def kcmp_Compare_int : Mo := mcmp_Compare_int kcmp_isNaN_int NN
theorem okcmp_Compare_int : SmOk Pr 168 (smM Rcmp_Compare_int kcmp_Compare_int) := gcmp_Compare_int_sm kcmp_isNaN_int NN (show GamOk Pr (Gcmp_Compare_int kcmp_isNaN_int) from (.cons (okcmp_isNaN_int) rfl GamOk.nil)) namesA
noncomputable def kcmp_Or_int : Mo := mcmp_Or_int  NN
theorem okcmp_Or_int : SmOk Pr 166 (smM Rcmp_Or_int kcmp_Or_int) := gcmp_Or_int_sm  NN (show GamOk Pr (Gcmp_Or_int ) from GamOk.nil) namesA
noncomputable def kbits_Order : Mo := mbits_Order kbits_rank kcmp_Compare_int64 kcmp_Compare_int kcmp_Or_int NN
theorem okbits_Order : SmOk Pr 154 (smM Rbits_Order kbits_Order) := gbits_Order_sm kbits_rank kcmp_Compare_int64 kcmp_Compare_int kcmp_Or_int NN (show GamOk Pr (Gbits_Order kbits_rank kcmp_Compare_int64 kcmp_Compare_int kcmp_Or_int) from (.cons (okbits_rank) rfl (.cons (okcmp_Compare_int64) rfl (.cons (okcmp_Compare_int) rfl (.cons (okcmp_Or_int) rfl GamOk.nil))))) namesA
noncomputable def kspan_lesser : Mo := mspan_lesser kbits_Order NN
theorem okspan_lesser : SmOk Pr 136 (smM Rspan_lesser kspan_lesser) := gspan_lesser_sm kbits_Order NN (show GamOk Pr (Gspan_lesser kbits_Order) from (.cons (okbits_Order) rfl GamOk.nil)) namesA
noncomputable def kspan_greater : Mo := mspan_greater kbits_Order NN
theorem okspan_greater : SmOk Pr 137 (smM Rspan_greater kspan_greater) := gspan_greater_sm kbits_Order NN (show GamOk Pr (Gspan_greater kbits_Order) from (.cons (okbits_Order) rfl GamOk.nil)) namesA
noncomputable def kround_Mul : Mo := mround_Mul kround_way kround_finite kround_plain kround_sign kround_settle kmath_IsInf kround_of kround_times kround_cmp NN
theorem okround_Mul : SmOk Pr 108 (smM Rround_Mul kround_Mul) := ground_Mul_sm kround_way kround_finite kround_plain kround_sign kround_settle kmath_IsInf kround_of kround_times kround_cmp NN (show GamOk Pr (Ground_Mul kround_way kround_finite kround_plain kround_sign kround_settle kmath_IsInf kround_of kround_times kround_cmp) from (.cons (okround_way) rfl (.cons (okround_finite) rfl (.cons (okround_plain) rfl (.cons (okround_sign) rfl (.cons (okround_settle) rfl (.cons (okmath_IsInf) rfl (.cons (stub_ok _ _) rfl (.cons (stub_ok _ _) rfl (.cons (stub_ok _ _) rfl (.cons ext99 rfl GamOk.nil))))))))))) namesA
noncomputable def kspan_Mul_c1 : Mo := mspan_Mul_c1 kround_Mul NN
theorem okspan_Mul_c1 : SmOk Pr 107 (smM Rspan_Mul_c1 kspan_Mul_c1) := gspan_Mul_c1_sm kround_Mul NN (show GamOk Pr (Gspan_Mul_c1 kround_Mul) from (.cons (okround_Mul) rfl GamOk.nil)) namesA
noncomputable def kround_Div : Mo := mround_Div kround_way kround_finite kround_plain kround_sign kround_settle kmath_IsInf kround_of kround_times kround_cmp NN
theorem okround_Div : SmOk Pr 106 (smM Rround_Div kround_Div) := ground_Div_sm kround_way kround_finite kround_plain kround_sign kround_settle kmath_IsInf kround_of kround_times kround_cmp NN (show GamOk Pr (Ground_Div kround_way kround_finite kround_plain kround_sign kround_settle kmath_IsInf kround_of kround_times kround_cmp) from (.cons (okround_way) rfl (.cons (okround_finite) rfl (.cons (okround_plain) rfl (.cons (okround_sign) rfl (.cons (okround_settle) rfl (.cons (okmath_IsInf) rfl (.cons (stub_ok _ _) rfl (.cons (stub_ok _ _) rfl (.cons (stub_ok _ _) rfl (.cons ext99 rfl GamOk.nil))))))))))) namesA
noncomputable def kspan_Div_c1 : Mo := mspan_Div_c1 kround_Div NN
theorem okspan_Div_c1 : SmOk Pr 105 (smM Rspan_Div_c1 kspan_Div_c1) := gspan_Div_c1_sm kround_Div NN (show GamOk Pr (Gspan_Div_c1 kround_Div) from (.cons (okround_Div) rfl GamOk.nil)) namesA
noncomputable def kspan_corners_a : Mo := mspan_corners_a kspan_lesser kspan_greater kspan_Mul_c1 kspan_Div_c1 NN
theorem okspan_corners_a : XOk Pr 104 (smX Rspan_corners_a Xspan_corners_a kspan_corners_a) Xspan_corners_a := gspan_corners_a_sm kspan_lesser kspan_greater kspan_Mul_c1 kspan_Div_c1 NN (show GamOk Pr (Gspan_corners_a kspan_lesser kspan_greater kspan_Mul_c1 kspan_Div_c1) from (.cons (okspan_lesser) rfl (.cons (okspan_greater) rfl (.cons (okspan_Mul_c1) rfl (.cons (okspan_Div_c1) rfl GamOk.nil))))) namesA
noncomputable def kspan_corners_b : Mo := mspan_corners_b kspan_lesser kspan_greater kspan_Mul_c1 kspan_Div_c1 NN
theorem okspan_corners_b : XOk Pr 104 (smX Rspan_corners_b Xspan_corners_b kspan_corners_b) Xspan_corners_b := gspan_corners_b_sm kspan_lesser kspan_greater kspan_Mul_c1 kspan_Div_c1 NN (show GamOk Pr (Gspan_corners_b kspan_lesser kspan_greater kspan_Mul_c1 kspan_Div_c1) from (.cons (okspan_lesser) rfl (.cons (okspan_greater) rfl (.cons (okspan_Mul_c1) rfl (.cons (okspan_Div_c1) rfl GamOk.nil))))) namesA
noncomputable def kspan_Mul : Mo := mspan_Mul kspan_right kspan_Mul_c1 kspan_corners_a kspan_corners_b NN
theorem okspan_Mul : SmOk Pr 69 (smM Rspan_Mul kspan_Mul) := gspan_Mul_sm kspan_right kspan_Mul_c1 kspan_corners_a kspan_corners_b NN (show GamOk Pr (Gspan_Mul kspan_right kspan_Mul_c1 kspan_corners_a kspan_corners_b) from (.cons (okspan_right) rfl (.cons (okspan_Mul_c1) rfl (.consX rfl okspan_corners_a (.consX rfl okspan_corners_b GamOk.nil))))) namesA
noncomputable def kbars_times : Mo := mbars_times kspan_Mul NN
theorem okbars_times : SmOk Pr 39 (smM Rbars_times kbars_times) := gbars_times_sm kspan_Mul NN (show GamOk Pr (Gbars_times kspan_Mul) from (.cons (okspan_Mul) rfl GamOk.nil)) namesA
noncomputable def kspan_Div : Mo := mspan_Div kspan_right kspan_Div_c1 kspan_corners_a kspan_corners_b NN
theorem okspan_Div : SmOk Pr 68 (smM Rspan_Div kspan_Div) := gspan_Div_sm kspan_right kspan_Div_c1 kspan_corners_a kspan_corners_b NN (show GamOk Pr (Gspan_Div kspan_right kspan_Div_c1 kspan_corners_a kspan_corners_b) from (.cons (okspan_right) rfl (.cons (okspan_Div_c1) rfl (.consX rfl okspan_corners_a (.consX rfl okspan_corners_b GamOk.nil))))) namesA
noncomputable def kbars_spring : Mo := mbars_spring kspan_Div NN
theorem okbars_spring : SmOk Pr 38 (smM Rbars_spring kbars_spring) := gbars_spring_sm kspan_Div NN (show GamOk Pr (Gbars_spring kspan_Div) from (.cons (okspan_Div) rfl GamOk.nil)) namesA
noncomputable def kbars_stands : Mo := mbars_stands  NN
theorem okbars_stands : SmOk Pr 42 (smM Rbars_stands kbars_stands) := gbars_stands_sm  NN (show GamOk Pr (Gbars_stands ) from GamOk.nil) namesA
noncomputable def kbars_springs_c1 : Mo := mbars_springs_c1 kbars_one kbars_times kbars_spring NN
theorem okbars_springs_c1 : SmOk Pr 41 (smM Rbars_springs_c1 kbars_springs_c1) := gbars_springs_c1_sm kbars_one kbars_times kbars_spring NN (show GamOk Pr (Gbars_springs_c1 kbars_one kbars_times kbars_spring) from (.cons (okbars_one) rfl (.cons (okbars_times) rfl (.cons (okbars_spring) rfl GamOk.nil)))) namesA
noncomputable def kbars_springs_a : Mo := mbars_springs_a kjoints_Apart kjoints_Length kbars_one kbars_times kbars_spring kbars_stands kbars_springs_c1 NN
theorem okbars_springs_a : XOk Pr 19 (smX Rbars_springs_a Xbars_springs_a kbars_springs_a) Xbars_springs_a := gbars_springs_a_sm kjoints_Apart kjoints_Length kbars_one kbars_times kbars_spring kbars_stands kbars_springs_c1 NN (show GamOk Pr (Gbars_springs_a kjoints_Apart kjoints_Length kbars_one kbars_times kbars_spring kbars_stands kbars_springs_c1) from (.cons (okjoints_Apart) rfl (.cons (okjoints_Length) rfl (.cons (okbars_one) rfl (.cons (okbars_times) rfl (.cons (okbars_spring) rfl (.cons (okbars_stands) rfl (.cons (okbars_springs_c1) rfl GamOk.nil)))))))) namesA
noncomputable def kbars_Springs_a : Mo := mbars_Springs_a kbars_Check kbars_springs_a NN
theorem okbars_Springs_a : XOk Pr 9 (smX Rbars_Springs_a Xbars_Springs_a kbars_Springs_a) Xbars_Springs_a := gbars_Springs_a_sm kbars_Check kbars_springs_a NN (show GamOk Pr (Gbars_Springs_a kbars_Check kbars_springs_a) from (.cons (okbars_Check) rfl (.consX rfl okbars_springs_a GamOk.nil))) namesA
noncomputable def kref02_NatTrim : Mo := mref02_NatTrim  NN
theorem okref02_NatTrim : SmOk Pr 74 (smM Rref02_NatTrim kref02_NatTrim) := gref02_NatTrim_sm  NN (show GamOk Pr (Gref02_NatTrim ) from GamOk.nil) namesA
noncomputable def kref02_NatOf : Mo := mref02_NatOf kref02_NatTrim NN
theorem okref02_NatOf : SmOk Pr 44 (smM Rref02_NatOf kref02_NatOf) := gref02_NatOf_sm kref02_NatTrim NN (show GamOk Pr (Gref02_NatOf kref02_NatTrim) from (.cons (okref02_NatTrim) rfl GamOk.nil)) namesA
noncomputable def kref07_one : Mo := mref07_one  NN
theorem okref07_one : SmOk Pr 45 (smM Rref07_one kref07_one) := gref07_one_sm  NN (show GamOk Pr (Gref07_one ) from GamOk.nil) namesA
noncomputable def kref07_Whole : Mo := mref07_Whole kref02_NatOf kref07_one NN
theorem okref07_Whole : SmOk Pr 21 (smM Rref07_Whole kref07_Whole) := gref07_Whole_sm kref02_NatOf kref07_one NN (show GamOk Pr (Gref07_Whole kref02_NatOf kref07_one) from (.cons (okref02_NatOf) rfl (.cons (okref07_one) rfl GamOk.nil))) namesA
noncomputable def kref02_NatBits : Mo := mref02_NatBits kref02_NatTrim NN
theorem okref02_NatBits : SmOk Pr 109 (smM Rref02_NatBits kref02_NatBits) := gref02_NatBits_sm kref02_NatTrim NN (show GamOk Pr (Gref02_NatBits kref02_NatTrim) from (.cons (okref02_NatTrim) rfl GamOk.nil)) namesA
noncomputable def kref07_Frac_Sign : Mo := mref07_Frac_Sign kref02_NatBits NN
theorem okref07_Frac_Sign : SmOk Pr 70 (smM Rref07_Frac_Sign kref07_Frac_Sign) := gref07_Frac_Sign_sm kref02_NatBits NN (show GamOk Pr (Gref07_Frac_Sign kref02_NatBits) from (.cons (okref02_NatBits) rfl GamOk.nil)) namesA
noncomputable def kref02_low : Mo := mref02_low  NN
theorem okref02_low : SmOk Pr 138 (smM Rref02_low kref02_low) := gref02_low_sm  NN (show GamOk Pr (Gref02_low ) from GamOk.nil) namesA
noncomputable def kref02_halves : Mo := mref02_halves kref02_low NN
theorem okref02_halves : SmOk Pr 110 (smM Rref02_halves kref02_halves) := gref02_halves_sm kref02_low NN (show GamOk Pr (Gref02_halves kref02_low) from (.cons (okref02_low) rfl GamOk.nil)) namesA
noncomputable def kref02_short : Mo := mref02_short kref02_low NN
theorem okref02_short : SmOk Pr 111 (smM Rref02_short kref02_short) := gref02_short_sm kref02_low NN (show GamOk Pr (Gref02_short kref02_low) from (.cons (okref02_low) rfl GamOk.nil)) namesA
noncomputable def kref02_limbs : Mo := mref02_limbs kref02_NatTrim NN
theorem okref02_limbs : SmOk Pr 112 (smM Rref02_limbs kref02_limbs) := gref02_limbs_sm kref02_NatTrim NN (show GamOk Pr (Gref02_limbs kref02_NatTrim) from (.cons (okref02_NatTrim) rfl GamOk.nil)) namesA
noncomputable def kref02_digit : Mo := mref02_digit  NN
theorem okref02_digit : SmOk Pr 155 (smM Rref02_digit kref02_digit) := gref02_digit_sm  NN (show GamOk Pr (Gref02_digit ) from GamOk.nil) namesA
noncomputable def kref02_times : Mo := mref02_times kref02_digit NN
theorem okref02_times : SmOk Pr 139 (smM Rref02_times kref02_times) := gref02_times_sm kref02_digit NN (show GamOk Pr (Gref02_times kref02_digit) from (.cons (okref02_digit) rfl GamOk.nil)) namesA
noncomputable def kref02_NatCmp : Mo := mref02_NatCmp kref02_NatTrim NN
theorem okref02_NatCmp : SmOk Pr 72 (smM Rref02_NatCmp kref02_NatCmp) := gref02_NatCmp_sm kref02_NatTrim NN (show GamOk Pr (Gref02_NatCmp kref02_NatTrim) from (.cons (okref02_NatTrim) rfl GamOk.nil)) namesA
noncomputable def kslices_Equal_uint64_uint64 : Mo := mslices_Equal_uint64_uint64  NN
theorem okslices_Equal_uint64_uint64 : SmOk Pr 46 (smM Rslices_Equal_uint64_uint64 kslices_Equal_uint64_uint64) := gslices_Equal_uint64_uint64_sm  NN (show GamOk Pr (Gslices_Equal_uint64_uint64 ) from GamOk.nil) namesA
noncomputable def kratio_top : Mo := mratio_top  NN
theorem okratio_top : SmOk Pr 47 (smM Rratio_top kratio_top) := gratio_top_sm  NN (show GamOk Pr (Gratio_top ) from GamOk.nil) namesA
noncomputable def ktrim : Mo := mtrim  NN
theorem oktrim : SmOk Pr 121 (smM Rtrim ktrim) := gtrim_sm  NN (show GamOk Pr (Gtrim ) from GamOk.nil) namesA
noncomputable def kleft : Mo := mleft ktrim NN
theorem okleft : SmOk Pr 117 (smM Rleft kleft) := gleft_sm ktrim NN (show GamOk Pr (Gleft ktrim) from (.cons (oktrim) rfl GamOk.nil)) namesA
noncomputable def kwords : Mo := mwords ktrim NN
theorem okwords : SmOk Pr 114 (smM Rwords kwords) := gwords_sm ktrim NN (show GamOk Pr (Gwords ktrim) from (.cons (oktrim) rfl GamOk.nil)) namesA
noncomputable def kadd : Mo := madd ktrim NN
theorem okadd : SmOk Pr 116 (smM Radd kadd) := gadd_sm ktrim NN (show GamOk Pr (Gadd ktrim) from (.cons (oktrim) rfl GamOk.nil)) namesA
noncomputable def kInt_give_i : Mo := mInt_give_i  NN
theorem okInt_give_i : XOk Pr 84 (smX RInt_give_i XInt_give_i kInt_give_i) XInt_give_i := gInt_give_i_sm  NN (show GamOk Pr (GInt_give_i ) from GamOk.nil) namesA
noncomputable def kInt_give_ra : Mo := mInt_give_ra  NN
theorem okInt_give_ra : XOk Pr 84 (smX RInt_give_ra XInt_give_ra kInt_give_ra) XInt_give_ra := gInt_give_ra_sm  NN (show GamOk Pr (GInt_give_ra ) from GamOk.nil) namesA
noncomputable def kInt_give_rb : Mo := mInt_give_rb  NN
theorem okInt_give_rb : XOk Pr 84 (smX RInt_give_rb XInt_give_rb kInt_give_rb) XInt_give_rb := gInt_give_rb_sm  NN (show GamOk Pr (GInt_give_rb ) from GamOk.nil) namesA
noncomputable def kInt_SetBytes_a : Mo := mInt_SetBytes_a kleft kwords kadd kInt_give_i kInt_give_ra kInt_give_rb NN
theorem okInt_SetBytes_a : XOk Pr 81 (smX RInt_SetBytes_a XInt_SetBytes_a kInt_SetBytes_a) XInt_SetBytes_a := gInt_SetBytes_a_sm kleft kwords kadd kInt_give_i kInt_give_ra kInt_give_rb NN (show GamOk Pr (GInt_SetBytes_a kleft kwords kadd kInt_give_i kInt_give_ra kInt_give_rb) from (.cons (okleft) rfl (.cons (okwords) rfl (.cons (okadd) rfl (.consX rfl okInt_give_i (.consX rfl okInt_give_ra (.consX rfl okInt_give_rb GamOk.nil))))))) namesA
noncomputable def kratio_whole_a : Mo := mratio_whole_a kInt_SetBytes_a NN
theorem okratio_whole_a : XOk Pr 49 (smX Rratio_whole_a Xratio_whole_a kratio_whole_a) Xratio_whole_a := gratio_whole_a_sm kInt_SetBytes_a NN (show GamOk Pr (Gratio_whole_a kInt_SetBytes_a) from (.consX rfl okInt_SetBytes_a GamOk.nil)) namesA
noncomputable def ktwin : Mo := mtwin  NN
theorem oktwin : SmOk Pr 87 (smM Rtwin ktwin) := gtwin_sm  NN (show GamOk Pr (Gtwin ) from GamOk.nil) namesA
noncomputable def kInt_Abs_ir : Mo := mInt_Abs_ir ktwin kInt_give_i kInt_give_ra kInt_give_rb NN
theorem okInt_Abs_ir : XOk Pr 75 (smX RInt_Abs_ir XInt_Abs_ir kInt_Abs_ir) XInt_Abs_ir := gInt_Abs_ir_sm ktwin kInt_give_i kInt_give_ra kInt_give_rb NN (show GamOk Pr (GInt_Abs_ir ktwin kInt_give_i kInt_give_ra kInt_give_rb) from (.cons (oktwin) rfl (.consX rfl okInt_give_i (.consX rfl okInt_give_ra (.consX rfl okInt_give_rb GamOk.nil))))) namesA
noncomputable def kInt_Abs_ii : Mo := mInt_Abs_ii ktwin kInt_give_i kInt_give_ra kInt_give_rb NN
theorem okInt_Abs_ii : XOk Pr 75 (smX RInt_Abs_ii XInt_Abs_ii kInt_Abs_ii) XInt_Abs_ii := gInt_Abs_ii_sm ktwin kInt_give_i kInt_give_ra kInt_give_rb NN (show GamOk Pr (GInt_Abs_ii ktwin kInt_give_i kInt_give_ra kInt_give_rb) from (.cons (oktwin) rfl (.consX rfl okInt_give_i (.consX rfl okInt_give_ra (.consX rfl okInt_give_rb GamOk.nil))))) namesA
noncomputable def kInt_SetInt64_rb : Mo := mInt_SetInt64_rb kwords kInt_give_i kInt_give_ra kInt_give_rb NN
theorem okInt_SetInt64_rb : XOk Pr 76 (smX RInt_SetInt64_rb XInt_SetInt64_rb kInt_SetInt64_rb) XInt_SetInt64_rb := gInt_SetInt64_rb_sm kwords kInt_give_i kInt_give_ra kInt_give_rb NN (show GamOk Pr (GInt_SetInt64_rb kwords kInt_give_i kInt_give_ra kInt_give_rb) from (.cons (okwords) rfl (.consX rfl okInt_give_i (.consX rfl okInt_give_ra (.consX rfl okInt_give_rb GamOk.nil))))) namesA
noncomputable def kInt_SetInt64_i : Mo := mInt_SetInt64_i kwords kInt_give_i kInt_give_ra kInt_give_rb NN
theorem okInt_SetInt64_i : XOk Pr 76 (smX RInt_SetInt64_i XInt_SetInt64_i kInt_SetInt64_i) XInt_SetInt64_i := gInt_SetInt64_i_sm kwords kInt_give_i kInt_give_ra kInt_give_rb NN (show GamOk Pr (GInt_SetInt64_i kwords kInt_give_i kInt_give_ra kInt_give_rb) from (.cons (okwords) rfl (.consX rfl okInt_give_i (.consX rfl okInt_give_ra (.consX rfl okInt_give_rb GamOk.nil))))) namesA
noncomputable def kNewInt_a : Mo := mNewInt_a kInt_SetInt64_rb kInt_SetInt64_i NN
theorem okNewInt_a : XOk Pr 53 (smX RNewInt_a XNewInt_a kNewInt_a) XNewInt_a := gNewInt_a_sm kInt_SetInt64_rb kInt_SetInt64_i NN (show GamOk Pr (GNewInt_a kInt_SetInt64_rb kInt_SetInt64_i) from (.consX rfl okInt_SetInt64_rb (.consX rfl okInt_SetInt64_i GamOk.nil))) namesA
noncomputable def kcmp : Mo := mcmp  NN
theorem okcmp : SmOk Pr 119 (smM Rcmp kcmp) := gcmp_sm  NN (show GamOk Pr (Gcmp ) from GamOk.nil) namesA
noncomputable def kplain : Mo := mplain  NN
theorem okplain : SmOk Pr 141 (smM Rplain kplain) := gplain_sm  NN (show GamOk Pr (Gplain ) from GamOk.nil) namesA
noncomputable def ksmall : Mo := msmall ktrim NN
theorem oksmall : SmOk Pr 142 (smM Rsmall ksmall) := gsmall_sm ktrim NN (show GamOk Pr (Gsmall ktrim) from (.cons (oktrim) rfl GamOk.nil)) namesA
noncomputable def klength : Mo := mlength  NN
theorem oklength : SmOk Pr 82 (smM Rlength klength) := glength_sm  NN (show GamOk Pr (Glength ) from GamOk.nil) namesA
noncomputable def kright : Mo := mright ktrim NN
theorem okright : SmOk Pr 126 (smM Rright kright) := gright_sm ktrim NN (show GamOk Pr (Gright ktrim) from (.cons (oktrim) rfl GamOk.nil)) namesA
noncomputable def kdiv : Mo := mdiv kcmp ktwin kplain kwords ksmall ktrim klength kleft kright NN
theorem okdiv : SmOk Pr 115 (smM Rdiv kdiv) := gdiv_sm kcmp ktwin kplain kwords ksmall ktrim klength kleft kright NN (show GamOk Pr (Gdiv kcmp ktwin kplain kwords ksmall ktrim klength kleft kright) from (.cons (okcmp) rfl (.cons (oktwin) rfl (.cons (okplain) rfl (.cons (okwords) rfl (.cons (oksmall) rfl (.cons (oktrim) rfl (.cons (oklength) rfl (.cons (okleft) rfl (.cons (okright) rfl GamOk.nil)))))))))) namesA
noncomputable def kInt_QuoRem_i4 : Mo := mInt_QuoRem_i4 kdiv kInt_give_i kInt_give_ra kInt_give_rb NN
theorem okInt_QuoRem_i4 : XOk Pr 77 (smX RInt_QuoRem_i4 XInt_QuoRem_i4 kInt_QuoRem_i4) XInt_QuoRem_i4 := gInt_QuoRem_i4_sm kdiv kInt_give_i kInt_give_ra kInt_give_rb NN (show GamOk Pr (GInt_QuoRem_i4 kdiv kInt_give_i kInt_give_ra kInt_give_rb) from (.cons (okdiv) rfl (.consX rfl okInt_give_i (.consX rfl okInt_give_ra (.consX rfl okInt_give_rb GamOk.nil))))) namesA
noncomputable def kmul : Mo := mmul ktrim NN
theorem okmul : SmOk Pr 86 (smM Rmul kmul) := gmul_sm ktrim NN (show GamOk Pr (Gmul ktrim) from (.cons (oktrim) rfl GamOk.nil)) namesA
noncomputable def kInt_Mul_rr : Mo := mInt_Mul_rr kmul kInt_give_i kInt_give_ra kInt_give_rb NN
theorem okInt_Mul_rr : XOk Pr 55 (smX RInt_Mul_rr XInt_Mul_rr kInt_Mul_rr) XInt_Mul_rr := gInt_Mul_rr_sm kmul kInt_give_i kInt_give_ra kInt_give_rb NN (show GamOk Pr (GInt_Mul_rr kmul kInt_give_i kInt_give_ra kInt_give_rb) from (.cons (okmul) rfl (.consX rfl okInt_give_i (.consX rfl okInt_give_ra (.consX rfl okInt_give_rb GamOk.nil))))) namesA
noncomputable def kInt_Mul_bb : Mo := mInt_Mul_bb kmul kInt_give_i kInt_give_ra kInt_give_rb NN
theorem okInt_Mul_bb : XOk Pr 55 (smX RInt_Mul_bb XInt_Mul_bb kInt_Mul_bb) XInt_Mul_bb := gInt_Mul_bb_sm kmul kInt_give_i kInt_give_ra kInt_give_rb NN (show GamOk Pr (GInt_Mul_bb kmul kInt_give_i kInt_give_ra kInt_give_rb) from (.cons (okmul) rfl (.consX rfl okInt_give_i (.consX rfl okInt_give_ra (.consX rfl okInt_give_rb GamOk.nil))))) namesA
noncomputable def kInt_Mul_ab : Mo := mInt_Mul_ab kmul kInt_give_i kInt_give_ra kInt_give_rb NN
theorem okInt_Mul_ab : XOk Pr 55 (smX RInt_Mul_ab XInt_Mul_ab kInt_Mul_ab) XInt_Mul_ab := gInt_Mul_ab_sm kmul kInt_give_i kInt_give_ra kInt_give_rb NN (show GamOk Pr (GInt_Mul_ab kmul kInt_give_i kInt_give_ra kInt_give_rb) from (.cons (okmul) rfl (.consX rfl okInt_give_i (.consX rfl okInt_give_ra (.consX rfl okInt_give_rb GamOk.nil))))) namesA
noncomputable def kInt_Mul_iii : Mo := mInt_Mul_iii kmul kInt_give_i kInt_give_ra kInt_give_rb NN
theorem okInt_Mul_iii : XOk Pr 55 (smX RInt_Mul_iii XInt_Mul_iii kInt_Mul_iii) XInt_Mul_iii := gInt_Mul_iii_sm kmul kInt_give_i kInt_give_ra kInt_give_rb NN (show GamOk Pr (GInt_Mul_iii kmul kInt_give_i kInt_give_ra kInt_give_rb) from (.cons (okmul) rfl (.consX rfl okInt_give_i (.consX rfl okInt_give_ra (.consX rfl okInt_give_rb GamOk.nil))))) namesA
noncomputable def kInt_Mul_ri : Mo := mInt_Mul_ri kmul kInt_give_i kInt_give_ra kInt_give_rb NN
theorem okInt_Mul_ri : XOk Pr 55 (smX RInt_Mul_ri XInt_Mul_ri kInt_Mul_ri) XInt_Mul_ri := gInt_Mul_ri_sm kmul kInt_give_i kInt_give_ra kInt_give_rb NN (show GamOk Pr (GInt_Mul_ri kmul kInt_give_i kInt_give_ra kInt_give_rb) from (.cons (okmul) rfl (.consX rfl okInt_give_i (.consX rfl okInt_give_ra (.consX rfl okInt_give_rb GamOk.nil))))) namesA
noncomputable def kInt_Mul_ir : Mo := mInt_Mul_ir kmul kInt_give_i kInt_give_ra kInt_give_rb NN
theorem okInt_Mul_ir : XOk Pr 55 (smX RInt_Mul_ir XInt_Mul_ir kInt_Mul_ir) XInt_Mul_ir := gInt_Mul_ir_sm kmul kInt_give_i kInt_give_ra kInt_give_rb NN (show GamOk Pr (GInt_Mul_ir kmul kInt_give_i kInt_give_ra kInt_give_rb) from (.cons (okmul) rfl (.consX rfl okInt_give_i (.consX rfl okInt_give_ra (.consX rfl okInt_give_rb GamOk.nil))))) namesA
noncomputable def ksub : Mo := msub ktrim NN
theorem oksub : SmOk Pr 120 (smM Rsub ksub) := gsub_sm ktrim NN (show GamOk Pr (Gsub ktrim) from (.cons (oktrim) rfl GamOk.nil)) namesA
noncomputable def ksum : Mo := msum kadd kcmp ksub NN
theorem oksum : SmOk Pr 85 (smM Rsum ksum) := gsum_sm kadd kcmp ksub NN (show GamOk Pr (Gsum kadd kcmp ksub) from (.cons (okadd) rfl (.cons (okcmp) rfl (.cons (oksub) rfl GamOk.nil)))) namesA
noncomputable def kInt_Sub_iii : Mo := mInt_Sub_iii ksum kInt_give_i kInt_give_ra kInt_give_rb NN
theorem okInt_Sub_iii : XOk Pr 78 (smX RInt_Sub_iii XInt_Sub_iii kInt_Sub_iii) XInt_Sub_iii := gInt_Sub_iii_sm ksum kInt_give_i kInt_give_ra kInt_give_rb NN (show GamOk Pr (GInt_Sub_iii ksum kInt_give_i kInt_give_ra kInt_give_rb) from (.cons (oksum) rfl (.consX rfl okInt_give_i (.consX rfl okInt_give_ra (.consX rfl okInt_give_rb GamOk.nil))))) namesA
noncomputable def kInt_Neg_ra : Mo := mInt_Neg_ra ktwin kInt_give_i kInt_give_ra kInt_give_rb NN
theorem okInt_Neg_ra : XOk Pr 58 (smX RInt_Neg_ra XInt_Neg_ra kInt_Neg_ra) XInt_Neg_ra := gInt_Neg_ra_sm ktwin kInt_give_i kInt_give_ra kInt_give_rb NN (show GamOk Pr (GInt_Neg_ra ktwin kInt_give_i kInt_give_ra kInt_give_rb) from (.cons (oktwin) rfl (.consX rfl okInt_give_i (.consX rfl okInt_give_ra (.consX rfl okInt_give_rb GamOk.nil))))) namesA
noncomputable def kInt_Neg_rb : Mo := mInt_Neg_rb ktwin kInt_give_i kInt_give_ra kInt_give_rb NN
theorem okInt_Neg_rb : XOk Pr 58 (smX RInt_Neg_rb XInt_Neg_rb kInt_Neg_rb) XInt_Neg_rb := gInt_Neg_rb_sm ktwin kInt_give_i kInt_give_ra kInt_give_rb NN (show GamOk Pr (GInt_Neg_rb ktwin kInt_give_i kInt_give_ra kInt_give_rb) from (.cons (oktwin) rfl (.consX rfl okInt_give_i (.consX rfl okInt_give_ra (.consX rfl okInt_give_rb GamOk.nil))))) namesA
noncomputable def kInt_Neg_ii : Mo := mInt_Neg_ii ktwin kInt_give_i kInt_give_ra kInt_give_rb NN
theorem okInt_Neg_ii : XOk Pr 58 (smX RInt_Neg_ii XInt_Neg_ii kInt_Neg_ii) XInt_Neg_ii := gInt_Neg_ii_sm ktwin kInt_give_i kInt_give_ra kInt_give_rb NN (show GamOk Pr (GInt_Neg_ii ktwin kInt_give_i kInt_give_ra kInt_give_rb) from (.cons (oktwin) rfl (.consX rfl okInt_give_i (.consX rfl okInt_give_ra (.consX rfl okInt_give_rb GamOk.nil))))) namesA
noncomputable def kInt_Set_ii : Mo := mInt_Set_ii ktwin kInt_give_i kInt_give_ra kInt_give_rb NN
theorem okInt_Set_ii : XOk Pr 80 (smX RInt_Set_ii XInt_Set_ii kInt_Set_ii) XInt_Set_ii := gInt_Set_ii_sm ktwin kInt_give_i kInt_give_ra kInt_give_rb NN (show GamOk Pr (GInt_Set_ii ktwin kInt_give_i kInt_give_ra kInt_give_rb) from (.cons (oktwin) rfl (.consX rfl okInt_give_i (.consX rfl okInt_give_ra (.consX rfl okInt_give_rb GamOk.nil))))) namesA
noncomputable def kInt_Set_ir : Mo := mInt_Set_ir ktwin kInt_give_i kInt_give_ra kInt_give_rb NN
theorem okInt_Set_ir : XOk Pr 80 (smX RInt_Set_ir XInt_Set_ir kInt_Set_ir) XInt_Set_ir := gInt_Set_ir_sm ktwin kInt_give_i kInt_give_ra kInt_give_rb NN (show GamOk Pr (GInt_Set_ir ktwin kInt_give_i kInt_give_ra kInt_give_rb) from (.cons (oktwin) rfl (.consX rfl okInt_give_i (.consX rfl okInt_give_ra (.consX rfl okInt_give_rb GamOk.nil))))) namesA
noncomputable def kInt_IsUint64_i : Mo := mInt_IsUint64_i klength NN
theorem okInt_IsUint64_i : XOk Pr 50 (smX RInt_IsUint64_i XInt_IsUint64_i kInt_IsUint64_i) XInt_IsUint64_i := gInt_IsUint64_i_sm klength NN (show GamOk Pr (GInt_IsUint64_i klength) from (.cons (oklength) rfl GamOk.nil)) namesA
noncomputable def kInt_Uint64_i : Mo := mInt_Uint64_i  NN
theorem okInt_Uint64_i : XOk Pr 51 (smX RInt_Uint64_i XInt_Uint64_i kInt_Uint64_i) XInt_Uint64_i := gInt_Uint64_i_sm  NN (show GamOk Pr (GInt_Uint64_i ) from GamOk.nil) namesA
noncomputable def kcommon : Mo := mcommon kdiv kplain kwords NN
theorem okcommon : SmOk Pr 118 (smM Rcommon kcommon) := gcommon_sm kdiv kplain kwords NN (show GamOk Pr (Gcommon kdiv kplain kwords) from (.cons (okdiv) rfl (.cons (okplain) rfl (.cons (okwords) rfl GamOk.nil)))) namesA
noncomputable def kRat_norm_a : Mo := mRat_norm_a kcommon kdiv kInt_SetInt64_rb kInt_SetInt64_i kInt_Neg_ra kInt_Neg_rb kInt_Neg_ii NN
theorem okRat_norm_a : XOk Pr 83 (smX RRat_norm_a XRat_norm_a kRat_norm_a) XRat_norm_a := gRat_norm_a_sm kcommon kdiv kInt_SetInt64_rb kInt_SetInt64_i kInt_Neg_ra kInt_Neg_rb kInt_Neg_ii NN (show GamOk Pr (GRat_norm_a kcommon kdiv kInt_SetInt64_rb kInt_SetInt64_i kInt_Neg_ra kInt_Neg_rb kInt_Neg_ii) from (.cons (okcommon) rfl (.cons (okdiv) rfl (.consX rfl okInt_SetInt64_rb (.consX rfl okInt_SetInt64_i (.consX rfl okInt_Neg_ra (.consX rfl okInt_Neg_rb (.consX rfl okInt_Neg_ii GamOk.nil)))))))) namesA
noncomputable def kRat_SetFrac_a : Mo := mRat_SetFrac_a kNewInt_a kInt_Set_ii kInt_Set_ir kRat_norm_a NN
theorem okRat_SetFrac_a : XOk Pr 52 (smX RRat_SetFrac_a XRat_SetFrac_a kRat_SetFrac_a) XRat_SetFrac_a := gRat_SetFrac_a_sm kNewInt_a kInt_Set_ii kInt_Set_ir kRat_norm_a NN (show GamOk Pr (GRat_SetFrac_a kNewInt_a kInt_Set_ii kInt_Set_ir kRat_norm_a) from (.consX rfl okNewInt_a (.consX rfl okInt_Set_ii (.consX rfl okInt_Set_ir (.consX rfl okRat_norm_a GamOk.nil))))) namesA
noncomputable def kexact_Whole_a : Mo := mexact_Whole_a kInt_SetBytes_a NN
theorem okexact_Whole_a : XOk Pr 57 (smX Rexact_Whole_a Xexact_Whole_a kexact_Whole_a) Xexact_Whole_a := gexact_Whole_a_sm kInt_SetBytes_a NN (show GamOk Pr (Gexact_Whole_a kInt_SetBytes_a) from (.consX rfl okInt_SetBytes_a GamOk.nil)) namesA
noncomputable def kexact_Fraction_a : Mo := mexact_Fraction_a kexact_Whole_a kInt_Neg_ra kInt_Neg_rb kInt_Neg_ii kRat_SetFrac_a NN
theorem okexact_Fraction_a : XOk Pr 27 (smX Rexact_Fraction_a Xexact_Fraction_a kexact_Fraction_a) Xexact_Fraction_a := gexact_Fraction_a_sm kexact_Whole_a kInt_Neg_ra kInt_Neg_rb kInt_Neg_ii kRat_SetFrac_a NN (show GamOk Pr (Gexact_Fraction_a kexact_Whole_a kInt_Neg_ra kInt_Neg_rb kInt_Neg_ii kRat_SetFrac_a) from (.consX rfl okexact_Whole_a (.consX rfl okInt_Neg_ra (.consX rfl okInt_Neg_rb (.consX rfl okInt_Neg_ii (.consX rfl okRat_SetFrac_a GamOk.nil)))))) namesA
noncomputable def kRat_den_b : Mo := mRat_den_b kNewInt_a NN
theorem okRat_den_b : XOk Pr 56 (smX RRat_den_b XRat_den_b kRat_den_b) XRat_den_b := gRat_den_b_sm kNewInt_a NN (show GamOk Pr (GRat_den_b kNewInt_a) from (.consX rfl okNewInt_a GamOk.nil)) namesA
noncomputable def kRat_Mul_a : Mo := mRat_Mul_a kInt_Mul_rr kInt_Mul_bb kInt_Mul_ab kInt_Mul_iii kRat_den_b kRat_SetFrac_a NN
theorem okRat_Mul_a : XOk Pr 26 (smX RRat_Mul_a XRat_Mul_a kRat_Mul_a) XRat_Mul_a := gRat_Mul_a_sm kInt_Mul_rr kInt_Mul_bb kInt_Mul_ab kInt_Mul_iii kRat_den_b kRat_SetFrac_a NN (show GamOk Pr (GRat_Mul_a kInt_Mul_rr kInt_Mul_bb kInt_Mul_ab kInt_Mul_iii kRat_den_b kRat_SetFrac_a) from (.consX rfl okInt_Mul_rr (.consX rfl okInt_Mul_bb (.consX rfl okInt_Mul_ab (.consX rfl okInt_Mul_iii (.consX rfl okRat_den_b (.consX rfl okRat_SetFrac_a GamOk.nil))))))) namesA
noncomputable def kInt_Add_iii : Mo := mInt_Add_iii ksum kInt_give_i kInt_give_ra kInt_give_rb NN
theorem okInt_Add_iii : XOk Pr 54 (smX RInt_Add_iii XInt_Add_iii kInt_Add_iii) XInt_Add_iii := gInt_Add_iii_sm ksum kInt_give_i kInt_give_ra kInt_give_rb NN (show GamOk Pr (GInt_Add_iii ksum kInt_give_i kInt_give_ra kInt_give_rb) from (.cons (oksum) rfl (.consX rfl okInt_give_i (.consX rfl okInt_give_ra (.consX rfl okInt_give_rb GamOk.nil))))) namesA
noncomputable def kRat_Sign_r : Mo := mRat_Sign_r  NN
theorem okRat_Sign_r : XOk Pr 62 (smX RRat_Sign_r XRat_Sign_r kRat_Sign_r) XRat_Sign_r := gRat_Sign_r_sm  NN (show GamOk Pr (GRat_Sign_r ) from GamOk.nil) namesA
noncomputable def kInt_Rsh_ii : Mo := mInt_Rsh_ii ksub kright kadd kInt_give_i kInt_give_ra kInt_give_rb NN
theorem okInt_Rsh_ii : XOk Pr 92 (smX RInt_Rsh_ii XInt_Rsh_ii kInt_Rsh_ii) XInt_Rsh_ii := gInt_Rsh_ii_sm ksub kright kadd kInt_give_i kInt_give_ra kInt_give_rb NN (show GamOk Pr (GInt_Rsh_ii ksub kright kadd kInt_give_i kInt_give_ra kInt_give_rb) from (.cons (oksub) rfl (.cons (okright) rfl (.cons (okadd) rfl (.consX rfl okInt_give_i (.consX rfl okInt_give_ra (.consX rfl okInt_give_rb GamOk.nil))))))) namesA
noncomputable def kInt_Rsh_p : Mo := mInt_Rsh_p ksub kright kadd kInt_give_i kInt_give_ra kInt_give_rb NN
theorem okInt_Rsh_p : XOk Pr 92 (smX RInt_Rsh_p XInt_Rsh_p kInt_Rsh_p) XInt_Rsh_p := gInt_Rsh_p_sm ksub kright kadd kInt_give_i kInt_give_ra kInt_give_rb NN (show GamOk Pr (GInt_Rsh_p ksub kright kadd kInt_give_i kInt_give_ra kInt_give_rb) from (.cons (oksub) rfl (.cons (okright) rfl (.cons (okadd) rfl (.consX rfl okInt_give_i (.consX rfl okInt_give_ra (.consX rfl okInt_give_rb GamOk.nil))))))) namesA
noncomputable def kexact_Limbs_a : Mo := mexact_Limbs_a kInt_Abs_ir kInt_Abs_ii kInt_Uint64_i kInt_Rsh_ii kInt_Rsh_p NN
theorem okexact_Limbs_a : XOk Pr 63 (smX Rexact_Limbs_a Xexact_Limbs_a kexact_Limbs_a) Xexact_Limbs_a := gexact_Limbs_a_sm kInt_Abs_ir kInt_Abs_ii kInt_Uint64_i kInt_Rsh_ii kInt_Rsh_p NN (show GamOk Pr (Gexact_Limbs_a kInt_Abs_ir kInt_Abs_ii kInt_Uint64_i kInt_Rsh_ii kInt_Rsh_p) from (.consX rfl okInt_Abs_ir (.consX rfl okInt_Abs_ii (.consX rfl okInt_Uint64_i (.consX rfl okInt_Rsh_ii (.consX rfl okInt_Rsh_p GamOk.nil)))))) namesA
noncomputable def kexact_Limbs_r : Mo := mexact_Limbs_r kInt_Abs_ir kInt_Abs_ii kInt_Uint64_i kInt_Rsh_ii kInt_Rsh_p NN
theorem okexact_Limbs_r : XOk Pr 63 (smX Rexact_Limbs_r Xexact_Limbs_r kexact_Limbs_r) Xexact_Limbs_r := gexact_Limbs_r_sm kInt_Abs_ir kInt_Abs_ii kInt_Uint64_i kInt_Rsh_ii kInt_Rsh_p NN (show GamOk Pr (Gexact_Limbs_r kInt_Abs_ir kInt_Abs_ii kInt_Uint64_i kInt_Rsh_ii kInt_Rsh_p) from (.consX rfl okInt_Abs_ir (.consX rfl okInt_Abs_ii (.consX rfl okInt_Uint64_i (.consX rfl okInt_Rsh_ii (.consX rfl okInt_Rsh_p GamOk.nil)))))) namesA
noncomputable def kRat_Denom_r : Mo := mRat_Denom_r kRat_den_b kInt_Set_ii kInt_Set_ir NN
theorem okRat_Denom_r : XOk Pr 65 (smX RRat_Denom_r XRat_Denom_r kRat_Denom_r) XRat_Denom_r := gRat_Denom_r_sm kRat_den_b kInt_Set_ii kInt_Set_ir NN (show GamOk Pr (GRat_Denom_r kRat_den_b kInt_Set_ii kInt_Set_ir) from (.consX rfl okRat_den_b (.consX rfl okInt_Set_ii (.consX rfl okInt_Set_ir GamOk.nil)))) namesA
noncomputable def kexact_Ratio_a : Mo := mexact_Ratio_a kRat_Sign_r kexact_Limbs_a kexact_Limbs_r kRat_Denom_r NN
theorem okexact_Ratio_a : XOk Pr 29 (smX Rexact_Ratio_a Xexact_Ratio_a kexact_Ratio_a) Xexact_Ratio_a := gexact_Ratio_a_sm kRat_Sign_r kexact_Limbs_a kexact_Limbs_r kRat_Denom_r NN (show GamOk Pr (Gexact_Ratio_a kRat_Sign_r kexact_Limbs_a kexact_Limbs_r kRat_Denom_r) from (.consX rfl okRat_Sign_r (.consX rfl okexact_Limbs_a (.consX rfl okexact_Limbs_r (.consX rfl okRat_Denom_r GamOk.nil))))) namesA
noncomputable def kInt_SetUint64_i : Mo := mInt_SetUint64_i kwords kInt_give_i kInt_give_ra kInt_give_rb NN
theorem okInt_SetUint64_i : XOk Pr 123 (smX RInt_SetUint64_i XInt_SetUint64_i kInt_SetUint64_i) XInt_SetUint64_i := gInt_SetUint64_i_sm kwords kInt_give_i kInt_give_ra kInt_give_rb NN (show GamOk Pr (GInt_SetUint64_i kwords kInt_give_i kInt_give_ra kInt_give_rb) from (.cons (okwords) rfl (.consX rfl okInt_give_i (.consX rfl okInt_give_ra (.consX rfl okInt_give_rb GamOk.nil))))) namesA
noncomputable def kInt_BitLen_i : Mo := mInt_BitLen_i klength NN
theorem okInt_BitLen_i : XOk Pr 124 (smX RInt_BitLen_i XInt_BitLen_i kInt_BitLen_i) XInt_BitLen_i := gInt_BitLen_i_sm klength NN (show GamOk Pr (GInt_BitLen_i klength) from (.cons (oklength) rfl GamOk.nil)) namesA
noncomputable def kInt_low_a : Mo := mInt_low_a  NN
theorem okInt_low_a : XOk Pr 143 (smX RInt_low_a XInt_low_a kInt_low_a) XInt_low_a := gInt_low_a_sm  NN (show GamOk Pr (GInt_low_a ) from GamOk.nil) namesA
noncomputable def kInt_of_a : Mo := mInt_of_a ktrim kInt_give_i kInt_give_ra kInt_give_rb NN
theorem okInt_of_a : XOk Pr 144 (smX RInt_of_a XInt_of_a kInt_of_a) XInt_of_a := gInt_of_a_sm ktrim kInt_give_i kInt_give_ra kInt_give_rb NN (show GamOk Pr (GInt_of_a ktrim kInt_give_i kInt_give_ra kInt_give_rb) from (.cons (oktrim) rfl (.consX rfl okInt_give_i (.consX rfl okInt_give_ra (.consX rfl okInt_give_rb GamOk.nil))))) namesA
noncomputable def kInt_And_a : Mo := mInt_And_a kInt_low_a kInt_of_a NN
theorem okInt_And_a : XOk Pr 125 (smX RInt_And_a XInt_And_a kInt_And_a) XInt_And_a := gInt_And_a_sm kInt_low_a kInt_of_a NN (show GamOk Pr (GInt_And_a kInt_low_a kInt_of_a) from (.consX rfl okInt_low_a (.consX rfl okInt_of_a GamOk.nil))) namesA
noncomputable def kInt_And_pp : Mo := mInt_And_pp kInt_low_a kInt_of_a NN
theorem okInt_And_pp : XOk Pr 125 (smX RInt_And_pp XInt_And_pp kInt_And_pp) XInt_And_pp := gInt_And_pp_sm kInt_low_a kInt_of_a NN (show GamOk Pr (GInt_And_pp kInt_low_a kInt_of_a) from (.consX rfl okInt_low_a (.consX rfl okInt_of_a GamOk.nil))) namesA
noncomputable def kratio_limbs_a : Mo := mratio_limbs_a kInt_SetUint64_i kInt_BitLen_i kInt_Rsh_ii kInt_Rsh_p kInt_And_a kInt_And_pp kInt_Uint64_i NN
theorem okratio_limbs_a : XOk Pr 90 (smX Rratio_limbs_a Xratio_limbs_a kratio_limbs_a) Xratio_limbs_a := gratio_limbs_a_sm kInt_SetUint64_i kInt_BitLen_i kInt_Rsh_ii kInt_Rsh_p kInt_And_a kInt_And_pp kInt_Uint64_i NN (show GamOk Pr (Gratio_limbs_a kInt_SetUint64_i kInt_BitLen_i kInt_Rsh_ii kInt_Rsh_p kInt_And_a kInt_And_pp kInt_Uint64_i) from (.consX rfl okInt_SetUint64_i (.consX rfl okInt_BitLen_i (.consX rfl okInt_Rsh_ii (.consX rfl okInt_Rsh_p (.consX rfl okInt_And_a (.consX rfl okInt_And_pp (.consX rfl okInt_Uint64_i GamOk.nil)))))))) namesA
noncomputable def kratio_told_a : Mo := mratio_told_a kRat_Sign_r kInt_Abs_ir kInt_Abs_ii kratio_limbs_a kRat_Denom_r NN
theorem okratio_told_a : XOk Pr 60 (smX Rratio_told_a Xratio_told_a kratio_told_a) Xratio_told_a := gratio_told_a_sm kRat_Sign_r kInt_Abs_ir kInt_Abs_ii kratio_limbs_a kRat_Denom_r NN (show GamOk Pr (Gratio_told_a kRat_Sign_r kInt_Abs_ir kInt_Abs_ii kratio_limbs_a kRat_Denom_r) from (.consX rfl okRat_Sign_r (.consX rfl okInt_Abs_ir (.consX rfl okInt_Abs_ii (.consX rfl okratio_limbs_a (.consX rfl okRat_Denom_r GamOk.nil)))))) namesA
noncomputable def kkit_SameLimbs : Mo := mkit_SameLimbs  NN
theorem okkit_SameLimbs : SmOk Pr 66 (smM Rkit_SameLimbs kkit_SameLimbs) := gkit_SameLimbs_sm  NN (show GamOk Pr (Gkit_SameLimbs ) from GamOk.nil) namesA
noncomputable def kkit_SameRatio : Mo := mkit_SameRatio kkit_SameLimbs NN
theorem okkit_SameRatio : SmOk Pr 30 (smM Rkit_SameRatio kkit_SameRatio) := gkit_SameRatio_sm kkit_SameLimbs NN (show GamOk Pr (Gkit_SameRatio kkit_SameLimbs) from (.cons (okkit_SameLimbs) rfl GamOk.nil)) namesA
noncomputable def kkit_SameRatios : Mo := mkit_SameRatios kkit_SameRatio NN
theorem okkit_SameRatios : SmOk Pr 13 (smM Rkit_SameRatios kkit_SameRatios) := gkit_SameRatios_sm kkit_SameRatio NN (show GamOk Pr (Gkit_SameRatios kkit_SameRatio) from (.cons (okkit_SameRatio) rfl GamOk.nil)) namesA
end Go.Proofs.Tryz
end
section
namespace Go.Proofs.Tryz
open Go Go.Am
set_option maxRecDepth 1000000
noncomputable def GZ0 : Gam := [(49, smX Rratio_whole_a Xratio_whole_a kratio_whole_a), (90, smX Rratio_limbs_a Xratio_limbs_a kratio_limbs_a), (60, smX Rratio_told_a Xratio_told_a kratio_told_a), (53, smX RNewInt_a XNewInt_a kNewInt_a), (75, smX RInt_Abs_ii XInt_Abs_ii kInt_Abs_ii), (55, smX RInt_Mul_iii XInt_Mul_iii kInt_Mul_iii), (55, smX RInt_Mul_ri XInt_Mul_ri kInt_Mul_ri), (55, smX RInt_Mul_ir XInt_Mul_ir kInt_Mul_ir), (54, smX RInt_Add_iii XInt_Add_iii kInt_Add_iii), (55, smX RInt_Mul_rr XInt_Mul_rr kInt_Mul_rr), (55, smX RInt_Mul_bb XInt_Mul_bb kInt_Mul_bb), (55, smX RInt_Mul_ab XInt_Mul_ab kInt_Mul_ab), (56, smX RRat_den_b XRat_den_b kRat_den_b), (78, smX RInt_Sub_iii XInt_Sub_iii kInt_Sub_iii), (77, smX RInt_QuoRem_i4 XInt_QuoRem_i4 kInt_QuoRem_i4), (50, smX RInt_IsUint64_i XInt_IsUint64_i kInt_IsUint64_i), (51, smX RInt_Uint64_i XInt_Uint64_i kInt_Uint64_i), (29, smX Rexact_Ratio_a Xexact_Ratio_a kexact_Ratio_a), (80, smX RInt_Set_ii XInt_Set_ii kInt_Set_ii), (26, smX RRat_Mul_a XRat_Mul_a kRat_Mul_a), (27, smX Rexact_Fraction_a Xexact_Fraction_a kexact_Fraction_a), (52, smX RRat_SetFrac_a XRat_SetFrac_a kRat_SetFrac_a), (76, smX RInt_SetInt64_i XInt_SetInt64_i kInt_SetInt64_i), (84, smX RInt_give_i XInt_give_i kInt_give_i), (58, smX RInt_Neg_ii XInt_Neg_ii kInt_Neg_ii), (114, smM Rwords kwords), (121, smM Rtrim ktrim), (87, smM Rtwin ktwin), (86, smM Rmul kmul), (119, smM Rcmp kcmp), (85, smM Rsum ksum), (115, smM Rdiv kdiv), (118, smM Rcommon kcommon), (82, smM Rlength klength), (141, smM Rplain kplain), (117, smM Rleft kleft), (126, smM Rright kright), (142, smM Rsmall ksmall), (116, smM Radd kadd), (120, smM Rsub ksub), (81, smX RInt_SetBytes_a XInt_SetBytes_a kInt_SetBytes_a), (57, smX Rexact_Whole_a Xexact_Whole_a kexact_Whole_a), (63, smX Rexact_Limbs_a Xexact_Limbs_a kexact_Limbs_a), (46, smM Rslices_Equal_uint64_uint64 kslices_Equal_uint64_uint64), (47, smM Rratio_top kratio_top), (6, smM Rbars_Check kbars_Check), (9, smX Rbars_Springs_a Xbars_Springs_a kbars_Springs_a), (10, smM Rlaw19_beam klaw19_beam), (5, smM Rmath_NaN kmath_NaN), (8, smM Rmath_Inf kmath_Inf), (4, smM Rmath_Copysign kmath_Copysign), (13, smM Rkit_SameRatios kkit_SameRatios), (74, smM Rref02_NatTrim kref02_NatTrim), (44, smM Rref02_NatOf kref02_NatOf), (45, smM Rref07_one kref07_one), (21, smM Rref07_Whole kref07_Whole), (109, smM Rref02_NatBits kref02_NatBits), (70, smM Rref07_Frac_Sign kref07_Frac_Sign), (139, smM Rref02_times kref02_times), (111, smM Rref02_short kref02_short), (110, smM Rref02_halves kref02_halves), (72, smM Rref02_NatCmp kref02_NatCmp), (155, smM Rref02_digit kref02_digit), (112, smM Rref02_limbs kref02_limbs), (138, smM Rref02_low kref02_low), (15, sFrom), (16, sBits), (99, sFma), (127, sSqrt)]
theorem GZ0ok : GamOk Pr GZ0 := (.consX rfl okratio_whole_a (.consX rfl okratio_limbs_a (.consX rfl okratio_told_a (.consX rfl okNewInt_a (.consX rfl okInt_Abs_ii (.consX rfl okInt_Mul_iii (.consX rfl okInt_Mul_ri (.consX rfl okInt_Mul_ir (.consX rfl okInt_Add_iii (.consX rfl okInt_Mul_rr (.consX rfl okInt_Mul_bb (.consX rfl okInt_Mul_ab (.consX rfl okRat_den_b (.consX rfl okInt_Sub_iii (.consX rfl okInt_QuoRem_i4 (.consX rfl okInt_IsUint64_i (.consX rfl okInt_Uint64_i (.consX rfl okexact_Ratio_a (.consX rfl okInt_Set_ii (.consX rfl okRat_Mul_a (.consX rfl okexact_Fraction_a (.consX rfl okRat_SetFrac_a (.consX rfl okInt_SetInt64_i (.consX rfl okInt_give_i (.consX rfl okInt_Neg_ii (.cons okwords rfl (.cons oktrim rfl (.cons oktwin rfl (.cons okmul rfl (.cons okcmp rfl (.cons oksum rfl (.cons okdiv rfl (.cons okcommon rfl (.cons oklength rfl (.cons okplain rfl (.cons okleft rfl (.cons okright rfl (.cons oksmall rfl (.cons okadd rfl (.cons oksub rfl (.consX rfl okInt_SetBytes_a (.consX rfl okexact_Whole_a (.consX rfl okexact_Limbs_a (.cons okslices_Equal_uint64_uint64 rfl (.cons okratio_top rfl (.cons okbars_Check rfl (.consX rfl okbars_Springs_a (.cons oklaw19_beam rfl (.cons okmath_NaN rfl (.cons okmath_Inf rfl (.cons okmath_Copysign rfl (.cons okkit_SameRatios rfl (.cons okref02_NatTrim rfl (.cons okref02_NatOf rfl (.cons okref07_one rfl (.cons okref07_Whole rfl (.cons okref02_NatBits rfl (.cons okref07_Frac_Sign rfl (.cons okref02_times rfl (.cons okref02_short rfl (.cons okref02_halves rfl (.cons okref02_NatCmp rfl (.cons okref02_digit rfl (.cons okref02_limbs rfl (.cons okref02_low rfl (.cons ext15 rfl (.cons ext16 rfl (.cons ext99 rfl (.cons ext127 rfl GamOk.nil)))))))))))))))))))))))))))))))))))))))))))))))))))))))))))))))))))))
noncomputable def GZ1 : Gam := (11, smM [RS.agg [LK.b, LK.l 1, LK.l 1]] (runZA Pr GZ0 3000 20 11)) :: (22, smM [RS.agg [LK.l 3, LK.i .i64]] (runZA Pr GZ0 3000 20 22)) :: (23, smM [RS.one LK.b] (runZA Pr GZ0 3000 20 23)) :: (28, smM [RS.agg [LK.b, LK.l 1, LK.l 1], RS.one (LK.i .i64)] (runZA Pr GZ0 3000 20 28)) :: GZ0
theorem GZ1ok : GamOk Pr GZ1 := .cons (smZA GZ0ok namesA 3000 20 11 _) rfl (.cons (smZA GZ0ok namesA 3000 20 22 _) rfl (.cons (smZA GZ0ok namesA 3000 20 23 _) rfl (.cons (smZA GZ0ok namesA 3000 20 28 _) rfl GZ0ok)))
end Go.Proofs.Tryz
end
section
namespace Go.Proofs.Tryz
open Go Go.Am
set_option maxRecDepth 1000000
def tR (neg : Bool) (n d : List Int) : List AV := [.bool neg, lit 1 (n.map fun x => [.int .u64 x]), lit 1 (d.map fun x => [.int .u64 x])]
def tJ : AV := lit 4 [[.str ⟨#[97]⟩, .int .i32 0, .int .i32 0, .int .u8 0], [.str ⟨#[98]⟩, .int .i32 3, .int .i32 4, .int .u8 0]]
def tBar : AV := .agg [tJ, lit 9 [[.str ⟨#[109]⟩, .int .u8 1, .int .i64 0, .int .i64 1, .bool false, .bool false, .flt .f64 (some 4611686018427387904), .flt .f64 (some 4617315517961601024), .flt .f64 (some 0)]]]
def tBeam : AV := .agg [tJ, lit 9 [[.str ⟨#[109]⟩, .int .u8 2, .int .i64 0, .int .i64 1, .bool false, .bool false, .flt .f64 (some 4611686018427387904), .flt .f64 (some 4617315517961601024), .flt .f64 (some 4619567317775286272)]]]
def tU : List AV := tR false [1] [1]
def tZ : List AV := tR false [] [1]
def tX : List AV := [tBar, lit 3 [tU, tZ, tZ, tZ]]
def tXr : AV := .tup [lit 3 [tR true [3] [1]], .int .i64 0]
def tY : List AV := [tBeam, lit 3 [tZ, tZ, tZ, tZ, tZ, tU]]
def tYr : AV := .tup [lit 3 [tZ, tR false [25] [1], tR true [1] [1]], .int .i64 0]
def tE : List AV := [tBar, lit 3 [tU, tZ, tZ, [.bool false, lit 1 [], lit 1 []]]]
def tW : List AV := [tBar, lit 3 [tU]]
def tNo : AV := .tup [lit 3 [], .int .i64 4]
end Go.Proofs.Tryz
end
