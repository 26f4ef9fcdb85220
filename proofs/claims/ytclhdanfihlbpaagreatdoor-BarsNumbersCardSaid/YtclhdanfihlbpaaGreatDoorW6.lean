/- Part 6 of the proof: models of the functions, and laws on them. -/
import Derived.Test.YtclhdanfihlbpaaGreatDoorW5
set_option linter.unusedVariables false
set_option linter.unusedSimpArgs false
set_option linter.unusedSectionVars false
section
namespace Go.Proofs.Tryz
open Go Go.Am
set_option linter.unusedVariables false
set_option maxRecDepth 1000000
noncomputable def LInt_QuoRem_i4 (vz qc : Mo) (qb qa : Mo) (fuel : Nat) : Lam AV := []
noncomputable def GInt_QuoRem_i4 (vz qc : Mo) (qb qa : Mo) : Gam := [(115,smM [RS.one (LK.l (nat_lit 1)),RS.one (LK.l (nat_lit 1))] vz),(84,smX RInt_give_i XInt_give_i qc),(84,smX RInt_give_ra XInt_give_ra qb),(84,smX RInt_give_rb XInt_give_rb qa)]
noncomputable def gInt_QuoRem_i4 (vz qc : Mo) (qb qa : Mo) (fuel : Nat) (q4 : Bool) (qm qu : Nat) (qq : Ge) (zy : Bool) (wz w5 : Nat) (w6 : Ge) (v4 : Bool) (z4 vd : Nat) (ve : Ge) (qta : Bool) (qp4 qpw : Nat) (qpn : Ge) : Option AV :=
  let r0 : Option AV := vz [AV.ro 1 wz w5 w6,AV.ro 1 z4 vd ve]; ck (okM [RS.one (LK.l 1),RS.one (LK.l 1)] r0) <| let r1 : Option AV := qc [AV.ptr (xidx 0 (xtoks [AV.ptr 0 0,AV.bool !zy == v4,AV.ro 1 (toN ((toT (getV r0)).headD .dead)) (toR ((toT (getV r0)).headD .dead)) (toG ((toT (getV r0)).headD .dead))] [])) 0,AV.bool !zy == v4,AV.ro 1 (toN ((toT (getV r0)).headD .dead)) (toR ((toT (getV r0)).headD .dead)) (toG ((toT (getV r0)).headD .dead)),AV.bool q4,AV.ro 1 qm qu qq]; ck (okX [RS.one LK.b,RS.one (LK.l 1)] r1) <| let r2 : Option AV := qc [AV.ptr (xidx 3 (xtoks [AV.ptr 3 0,AV.bool zy,AV.ro 1 (toN ((toT (getV r0)).tail.headD .dead)) (toR ((toT (getV r0)).tail.headD .dead)) (toG ((toT (getV r0)).tail.headD .dead))] [])) 0,AV.bool zy,AV.ro 1 (toN ((toT (getV r0)).tail.headD .dead)) (toR ((toT (getV r0)).tail.headD .dead)) (toG ((toT (getV r0)).tail.headD .dead)),AV.bool qta,AV.ro 1 qp4 qpw qpn]; ck (okX [RS.one LK.b,RS.one (LK.l 1)] r2) <| some (AV.tup [AV.bool (toB ((toT (getV r1)).headD .dead)),AV.ro 1 (toN ((toT (getV r1)).tail.headD .dead)) (toR ((toT (getV r1)).tail.headD .dead)) (toG ((toT (getV r1)).tail.headD .dead)),AV.bool zy,AV.ro 1 wz w5 w6,AV.bool v4,AV.ro 1 z4 vd ve,AV.bool (toB ((toT (getV r2)).headD .dead)),AV.ro 1 (toN ((toT (getV r2)).tail.headD .dead)) (toR ((toT (getV r2)).tail.headD .dead)) (toG ((toT (getV r2)).tail.headD .dead))])
theorem gInt_QuoRem_i4_run (vz qc : Mo) (qb qa : Mo) (fuel : Nat) (q4 : Bool) (qm qu : Nat) (qq : Ge) (zy : Bool) (wz w5 : Nat) (w6 : Ge) (v4 : Bool) (z4 vd : Nat) (ve : Ge) (qta : Bool) (qp4 qpw : Nat) (qpn : Ge) : runX Pr (GInt_QuoRem_i4 vz qc qb qa) [((6,77),LInt_QuoRem_i4 vz qc qb qa fuel)] fuel 7 77 XInt_QuoRem_i4 [AV.ptr 0 0,AV.ptr 1 0,AV.ptr 2 0,AV.ptr 3 0] [Blk.box [AV.bool q4,AV.ro 1 qm qu qq],Blk.box [AV.bool zy,AV.ro 1 wz w5 w6],Blk.box [AV.bool v4,AV.ro 1 z4 vd ve],Blk.box [AV.bool qta,AV.ro 1 qp4 qpw qpn]] = gInt_QuoRem_i4 vz qc qb qa fuel q4 qm qu qq zy wz w5 w6 v4 z4 vd ve qta qp4 qpw qpn := by kernel_rfl
noncomputable def mInt_QuoRem_i4 (vz qc : Mo) (qb qa : Mo) (fuel : Nat) (xs : List AV) : Option AV := match xs with
  | [AV.ptr 0 0,AV.ptr 1 0,AV.ptr 2 0,AV.ptr 3 0,AV.bool q4,AV.ro 1 qm qu qq,AV.bool zy,AV.ro 1 wz w5 w6,AV.bool v4,AV.ro 1 z4 vd ve,AV.bool qta,AV.ro 1 qp4 qpw qpn] => gInt_QuoRem_i4 vz qc qb qa fuel q4 qm qu qq zy wz w5 w6 v4 z4 vd ve qta qp4 qpw qpn
  | _ => none
theorem gInt_QuoRem_i4_sm (vz qc : Mo) (qb qa : Mo) (fuel : Nat) (hΓ : GamOk Pr (GInt_QuoRem_i4 vz qc qb qa)) (hP : NamesOk Pr) : XOk Pr 77 (smX RInt_QuoRem_i4 XInt_QuoRem_i4 (mInt_QuoRem_i4 vz qc qb qa fuel)) XInt_QuoRem_i4 := by
  refine smX_ok (fuel := fuel) hΓ hP (LamOk.of 6 77 (LInt_QuoRem_i4 vz qc qb qa fuel) 0 (by kernel_rfl) (fun i hi => ?_)) 7 77 RInt_QuoRem_i4 XInt_QuoRem_i4 _ (fun xs0 ys0 v ha hb h => ?_)
  · match i,hi with
    | i + 0,hi => exact absurd hi (by omega)
  · skip
    have ha0 : xs0.length = 4 := ha
    clear ha
    obtain ⟨a0,xs1,rfl,ha1⟩ := len_cons ha0
    clear ha0
    obtain ⟨a1,xs2,rfl,ha2⟩ := len_cons ha1
    clear ha1
    obtain ⟨a2,xs3,rfl,ha3⟩ := len_cons ha2
    clear ha2
    obtain ⟨a3,xs4,rfl,ha4⟩ := len_cons ha3
    clear ha3
    obtain rfl := List.eq_nil_of_length_eq_zero ha4
    have hy0 : ys0.map List.length = [2,2,2,2] := hb
    clear hb
    obtain ⟨q4,ys1,rfl,hb0_0,hy1⟩ := map_cons' hy0
    clear hy0
    obtain ⟨c0_0,b0_1,rfl,hb0_1⟩ := len_cons hb0_0
    clear hb0_0
    obtain ⟨c0_1,z0,rfl,hb0_2⟩ := len_cons hb0_1
    clear hb0_1
    obtain rfl := List.eq_nil_of_length_eq_zero hb0_2
    obtain ⟨zy,ys2,rfl,hb1_0,hy2⟩ := map_cons' hy1
    clear hy1
    obtain ⟨c1_0,b1_1,rfl,hb1_1⟩ := len_cons hb1_0
    clear hb1_0
    obtain ⟨c1_1,qac,rfl,hb1_2⟩ := len_cons hb1_1
    clear hb1_1
    obtain rfl := List.eq_nil_of_length_eq_zero hb1_2
    obtain ⟨v4,ys3,rfl,hb2_0,hy3⟩ := map_cons' hy2
    clear hy2
    obtain ⟨c2_0,b2_1,rfl,hb2_1⟩ := len_cons hb2_0
    clear hb2_0
    obtain ⟨c2_1,qdl,rfl,hb2_2⟩ := len_cons hb2_1
    clear hb2_1
    obtain rfl := List.eq_nil_of_length_eq_zero hb2_2
    obtain ⟨qta,ys4,rfl,hb3_0,hy4⟩ := map_cons' hy3
    clear hy3
    obtain ⟨c3_0,b3_1,rfl,hb3_1⟩ := len_cons hb3_0
    clear hb3_0
    obtain ⟨c3_1,b3_2,rfl,hb3_2⟩ := len_cons hb3_1
    clear hb3_1
    obtain rfl := List.eq_nil_of_length_eq_zero hb3_2
    obtain rfl := map_nil' hy4
    have h : mInt_QuoRem_i4 vz qc qb qa fuel [a0,a1,a2,a3,c0_0,c0_1,c1_0,c1_1,c2_0,c2_1,c3_0,c3_1] = some v := h
    generalize hx0 : [a0,a1,a2,a3,c0_0,c0_1,c1_0,c1_1,c2_0,c2_1,c3_0,c3_1] = zs at h
    unfold mInt_QuoRem_i4 at h
    split at h
    · skip
      obtain ⟨rfl,hx1⟩ := List.cons.inj hx0
      obtain ⟨rfl,hx2⟩ := List.cons.inj hx1
      obtain ⟨rfl,hx3⟩ := List.cons.inj hx2
      obtain ⟨rfl,hx4⟩ := List.cons.inj hx3
      obtain ⟨rfl,hx5⟩ := List.cons.inj hx4
      obtain ⟨rfl,hx6⟩ := List.cons.inj hx5
      obtain ⟨rfl,hx7⟩ := List.cons.inj hx6
      obtain ⟨rfl,hx8⟩ := List.cons.inj hx7
      obtain ⟨rfl,hx9⟩ := List.cons.inj hx8
      obtain ⟨rfl,hx10⟩ := List.cons.inj hx9
      obtain ⟨rfl,hx11⟩ := List.cons.inj hx10
      obtain ⟨rfl,hx12⟩ := List.cons.inj hx11
      simp only [List.map_cons,List.map_nil]
      exact (gInt_QuoRem_i4_run vz qc qb qa fuel _ _ _ _ _ _ _ _ _ _ _ _ _ _ _ _).trans h
    · cases h
noncomputable def Smul_0 (qdb qdo : Nat) (qcr : Ge) (qc5 qdp : Nat) (qcn : Ge) (qbu qc6 qdx : Nat) (qbr uc7 uj8 : Int) (p4 : List AV) (p3 : List (List AV)) : St := { env := [(0,AV.ro 1 qdb qdo qcr),(1,AV.ro 1 qc5 qdp qcn),(5,AV.own 0 qbu 1 qc6 qdx),(6,AV.int .i64 qbr),(7,AV.int .u64 uc7),(8,AV.int .i64 uj8)],h := [Blk.fx 1 p4 p3],kd := [] }
noncomputable def Xmul_0_0 (qcl qep : Nat) (qen : Ge) (qj6 qkf : Nat) (qkg : Ge) (qkb qkl qki : Nat) (qs8 qtg : Int) (qhd : List AV) (qg2 : List (List AV)) : St := { env := [(0,AV.ro 1 qcl qep qen),(1,AV.ro 1 qj6 qkf qkg),(5,AV.own 0 qkb 1 qkl qki),(6,AV.int .i64 qs8),(7,AV.int .u64 qtg)],h := [Blk.fx 1 qhd qg2],kd := [] }
noncomputable def gmul_l0_step (qf : Mo) (fuel : Nat) (kn : Int → Int → List (List AV) → Option AV) (kx0 : Nat → Nat → Ge → Nat → Nat → Ge → Nat → Nat → Nat → Int → Int → List AV → List (List AV) → Option AV) (qdb qdo : Nat) (qcr : Ge) (qc5 qdp : Nat) (qcn : Ge) (qbu qc6 qdx : Nat) (qbr : Int) (p4 : List AV) (uc7 uj8 : Int) (p3 : List (List AV)) : Option AV :=
  bif decide (uj8 < (↑qc5 : Int)) then ck (decide (0 ≤ qbr)) <| ck (decide (qbr < (↑qdb : Int))) <| ck (fitK (LK.i .u32) (qcr qbr.toNat 0)) <| ck (decide (0 ≤ uj8)) <| ck (decide (uj8 < (↑qc5 : Int))) <| ck (fitK (LK.i .u32) (qcn uj8.toNat 0)) <| ck (decide (0 ≤ IntKind.i64.wrap (qbr + uj8))) <| ck (decide (IntKind.i64.wrap (qbr + uj8) < (↑qc6 : Int))) <| ck (fitK (LK.i .u32) ((p3.getD (qbu + (IntKind.i64.wrap (qbr + uj8)).toNat) p4).getD 0 AV.dead)) <| ck (decide (0 ≤ IntKind.i64.wrap (qbr + uj8))) <| ck (decide (IntKind.i64.wrap (qbr + uj8) < (↑qc6 : Int))) <| kn ((IntKind.u64.wrap (uc7 + IntKind.u64.wrap (IntKind.u64.wrap (IntKind.u64.wrap (toI (qcr qbr.toNat 0)) * IntKind.u64.wrap (toI (qcn uj8.toNat 0))) + IntKind.u64.wrap (toI ((p3.getD (qbu + (IntKind.i64.wrap (qbr + uj8)).toNat) p4).getD 0 AV.dead))))).fdiv (2 ^ 32)) (IntKind.i64.wrap (uj8 + 1)) (p3.set (qbu + (IntKind.i64.wrap (qbr + uj8)).toNat) (AV.int .u32 (IntKind.u32.wrap (IntKind.u64.wrap (uc7 + IntKind.u64.wrap (IntKind.u64.wrap (IntKind.u64.wrap (toI (qcr qbr.toNat 0)) * IntKind.u64.wrap (toI (qcn uj8.toNat 0))) + IntKind.u64.wrap (toI ((p3.getD (qbu + (IntKind.i64.wrap (qbr + uj8)).toNat) p4).getD 0 AV.dead)))))) :: List.drop (0 + [AV.int .u32 (IntKind.u32.wrap (IntKind.u64.wrap (uc7 + IntKind.u64.wrap (IntKind.u64.wrap (IntKind.u64.wrap (toI (qcr qbr.toNat 0)) * IntKind.u64.wrap (toI (qcn uj8.toNat 0))) + IntKind.u64.wrap (toI ((p3.getD (qbu + (IntKind.i64.wrap (qbr + uj8)).toNat) p4).getD 0 AV.dead))))))].length) (p3.getD (qbu + (IntKind.i64.wrap (qbr + uj8)).toNat) p4)))
  else kx0 qdb qdo qcr qc5 qdp qcn qbu qc6 qdx qbr uc7 p4 p3
noncomputable def gmul_l0 (qf : Mo) (fuel : Nat) (kx0 : Nat → Nat → Ge → Nat → Nat → Ge → Nat → Nat → Nat → Int → Int → List AV → List (List AV) → Option AV) (qdb qdo : Nat) (qcr : Ge) (qc5 qdp : Nat) (qcn : Ge) (qbu qc6 qdx : Nat) (qbr : Int) (p4 : List AV) : Nat → Int → Int → List (List AV) → Option AV
  | 0,_,_,_ => none
  | n' + 1,uc7,uj8,p3 => gmul_l0_step qf fuel (gmul_l0 qf fuel kx0 qdb qdo qcr qc5 qdp qcn qbu qc6 qdx qbr p4 n') kx0 qdb qdo qcr qc5 qdp qcn qbu qc6 qdx qbr p4 uc7 uj8 p3
termination_by structural k => k
noncomputable def Tmul_0 : TS' := ⟨[(0,TA.ro 1),(1,TA.ro 1),(5,TA.own 0 1),(6,TA.i .i64),(7,TA.i .u64),(8,TA.i .i64)],[TB.fx 1],[]⟩
noncomputable def Fmul_0 (qf : Mo) (fuel : Nat) (ps : List Pay) (K : Ex → St → Option AV) : Option AV := match ps with
  | .n qdb :: .n qdo :: .g qcr :: .n qc5 :: .n qdp :: .g qcn :: .n qbu :: .n qc6 :: .n qdx :: .i qbr :: .i uc7 :: .i uj8 :: .z p4 :: .e p3 :: [] => gmul_l0 qf fuel (fun qcl qep qen qj6 qkf qkg qkb qkl qki qs8 qtg qhd qg2 => K (Ex.exit 2) (Xmul_0_0 qcl qep qen qj6 qkf qkg qkb qkl qki qs8 qtg qhd qg2)) qdb qdo qcr qc5 qdp qcn qbu qc6 qdx qbr p4 fuel uc7 uj8 p3
  | _ => none
noncomputable def Smul_1 (qn qv : Nat) (qk : Ge) (wj wl : Nat) (q9 : Ge) (yt yd pp : Nat) (ui6 : Int) (h0z : List AV) (h0e : List (List AV)) : St := { env := [(0,AV.ro 1 qn qv qk),(1,AV.ro 1 wj wl q9),(5,AV.own 0 yt 1 yd pp),(6,AV.int .i64 ui6)],h := [Blk.fx 1 h0z h0e],kd := [] }
noncomputable def Xmul_1_0 (qqw qqs qq8 : Nat) (qox : List AV) (qm8 : List (List AV)) : St := { env := [(5,AV.own 0 qqw 1 qqs qq8)],h := [Blk.fx 1 qox qm8],kd := [] }
noncomputable def gmul_l1_step (qf : Mo) (fuel : Nat) (kn : Nat → Nat → Ge → Nat → Nat → Ge → Nat → Nat → Nat → Int → List AV → List (List AV) → Option AV) (kx0 : Nat → Nat → Nat → List AV → List (List AV) → Option AV) (qn qv : Nat) (qk : Ge) (wj wl : Nat) (q9 : Ge) (yt yd pp : Nat) (ui6 : Int) (h0z : List AV) (h0e : List (List AV)) : Option AV :=
  bif decide (ui6 < (↑qn : Int)) then gmul_l0 qf fuel
      (fun (qas qa8 : Nat) (qbg : Ge) (qe5 qgu : Nat) (qgr : Ge) (qa1 qaf qbt : Nat) (qnb qrv : Int) (v0 : List AV) (vy : List (List AV)) => ck (decide (0 ≤ IntKind.i64.wrap (qnb + (↑qe5 : Int)))) <| ck (decide (IntKind.i64.wrap (qnb + (↑qe5 : Int)) < (↑qaf : Int))) <| kn qas qa8 qbg qe5 qgu qgr qa1 qaf qbt (IntKind.i64.wrap (qnb + 1)) v0 (vy.set (qa1 + (IntKind.i64.wrap (qnb + (↑qe5 : Int))).toNat) (AV.int .u32 (IntKind.u32.wrap qrv) :: List.drop (0 + [AV.int .u32 (IntKind.u32.wrap qrv)].length) (vy.getD (qa1 + (IntKind.i64.wrap (qnb + (↑qe5 : Int))).toNat) v0))))
      qn
      qv
      qk
      wj
      wl
      q9
      yt
      yd
      pp
      ui6
      h0z fuel (0) (0) h0e
  else kx0 yt yd pp h0z h0e
noncomputable def gmul_l1 (qf : Mo) (fuel : Nat) (kx0 : Nat → Nat → Nat → List AV → List (List AV) → Option AV) : Nat → Nat → Nat → Ge → Nat → Nat → Ge → Nat → Nat → Nat → Int → List AV → List (List AV) → Option AV
  | 0,_,_,_,_,_,_,_,_,_,_,_,_ => none
  | n' + 1,qn,qv,qk,wj,wl,q9,yt,yd,pp,ui6,h0z,h0e => gmul_l1_step qf fuel (gmul_l1 qf fuel kx0 n') kx0 qn qv qk wj wl q9 yt yd pp ui6 h0z h0e
noncomputable def Tmul_1 : TS' := ⟨[(0,TA.ro 1),(1,TA.ro 1),(5,TA.own 0 1),(6,TA.i .i64)],[TB.fx 1],[]⟩
noncomputable def Fmul_1 (qf : Mo) (fuel : Nat) (ps : List Pay) (K : Ex → St → Option AV) : Option AV := match ps with
  | .n qn :: .n qv :: .g qk :: .n wj :: .n wl :: .g q9 :: .n yt :: .n yd :: .n pp :: .i ui6 :: .z h0z :: .e h0e :: [] => gmul_l1 qf fuel (fun qqw qqs qq8 qox qm8 => K (Ex.exit 0) (Xmul_1_0 qqw qqs qq8 qox qm8)) fuel qn qv qk wj wl q9 yt yd pp ui6 h0z h0e
  | _ => none
noncomputable def Lmul (qf : Mo) (fuel : Nat) : Lam AV := [(36893488146882232704,lam Tmul_0 (Fmul_0 qf fuel)),(9444732965739282039232,lam Tmul_1 (Fmul_1 qf fuel))]
noncomputable def Gmul (qf : Mo) : Gam := [(121,smM [RS.one (LK.l (nat_lit 1))] qf)]
theorem gmul_l0_eq (qf : Mo) (fuel : Nat) (kn : St → Option AV) (K : Ex → St → Option AV) (qdb qdo : Nat) (qcr : Ge) (qc5 qdp : Nat) (qcn : Ge) (qbu qc6 qdx : Nat) (qbr : Int) (p4 : List AV) (qtt qtv : Int) (qmf : List (List AV)) (uc7 uj8 : Int) (p3 : List (List AV)) :
    bX Pr (Gmul qf) (Lmul qf fuel) 6 86 1 fuel (Smul_0 qdb qdo qcr qc5 qdp qcn qbu qc6 qdx qbr uc7 uj8 p4 p3) (fun e s => match e with | .normal => kn (hX Pr 86 1 (Smul_0 qdb qdo qcr qc5 qdp qcn qbu qc6 qdx qbr qtt qtv p4 qmf) s) | e => K e s) =
    gmul_l0_step qf fuel (fun uc7 uj8 p3 => kn (Smul_0 qdb qdo qcr qc5 qdp qcn qbu qc6 qdx qbr uc7 uj8 p4 p3)) (fun qas qa8 qbg qe5 qgu qgr qa1 qaf qbt qnb qrv v0 vy => K (Ex.exit 2) (Xmul_0_0 qas qa8 qbg qe5 qgu qgr qa1 qaf qbt qnb qrv v0 vy)) qdb qdo qcr qc5 qdp qcn qbu qc6 qdx qbr p4 uc7 uj8 p3 := by kernel_rfl
theorem gmul_l0_ok (qf : Mo) (fuel : Nat) (K : Ex → St → Option AV) (qdb qdo : Nat) (qcr : Ge) (qc5 qdp : Nat) (qcn : Ge) (qbu qc6 qdx : Nat) (qbr : Int) (p4 : List AV) (qtt qtv : Int) (qmf : List (List AV)) : ∀ (n' : Nat) (uc7 uj8 : Int) (p3 : List (List AV)),
    loopK (bX Pr (Gmul qf) (Lmul qf fuel) 6 86 1 fuel) (hX Pr 86 1 (Smul_0 qdb qdo qcr qc5 qdp qcn qbu qc6 qdx qbr qtt qtv p4 qmf)) n' (Smul_0 qdb qdo qcr qc5 qdp qcn qbu qc6 qdx qbr uc7 uj8 p4 p3) K = gmul_l0 qf fuel (fun qas qa8 qbg qe5 qgu qgr qa1 qaf qbt qnb qrv v0 vy => K (Ex.exit 2) (Xmul_0_0 qas qa8 qbg qe5 qgu qgr qa1 qaf qbt qnb qrv v0 vy)) qdb qdo qcr qc5 qdp qcn qbu qc6 qdx qbr p4 n' uc7 uj8 p3
  | 0,_,_,_ => rfl
  | n' + 1,uc7,uj8,p3 => (gmul_l0_eq qf fuel (fun s => loopK (bX Pr (Gmul qf) (Lmul qf fuel) 6 86 1 fuel) (hX Pr 86 1 (Smul_0 qdb qdo qcr qc5 qdp qcn qbu qc6 qdx qbr qtt qtv p4 qmf)) n' s K) K qdb qdo qcr qc5 qdp qcn qbu qc6 qdx qbr p4 qtt qtv qmf uc7 uj8 p3).trans
    (congrArg (fun kn => gmul_l0_step qf fuel kn _ qdb qdo qcr qc5 qdp qcn qbu qc6 qdx qbr p4 uc7 uj8 p3) (funext fun uc7 => funext fun uj8 => funext fun p3 => gmul_l0_ok qf fuel K qdb qdo qcr qc5 qdp qcn qbu qc6 qdx qbr p4 qtt qtv qmf n' uc7 uj8 p3))
theorem gmul_L0 (qf : Mo) (fuel : Nat) : LX Pr (Gmul qf) (Lmul qf fuel) 6 86 1 fuel := by
  refine .of Tmul_0 (Fmul_0 qf fuel) (fun L h => ?_) (fun ps st K r he hr => ?_)
  · have e : (Lmul qf fuel).get (writes (lp Pr 86 1).1) = some (lam Tmul_0 (Fmul_0 qf fuel)) := by kernel_rfl
    exact (Option.some.inj (e.symm.trans h)).symm
  · unfold Fmul_0 at hr
    split at hr
    · obtain rfl := (Option.some.inj he).symm
      exact (gmul_l0_ok qf fuel K _ _ _ _ _ _ _ _ _ _ _ _ _ _ fuel _ _ _).trans hr
    · cases hr
theorem gmul_l1_eq (qf : Mo) (fuel : Nat) (kn : St → Option AV) (K : Ex → St → Option AV) (qft qfs : Nat) (qfp : Ge) (qfo qfn : Nat) (qfq : Ge) (qpt qjo qpk : Nat) (qmx : Int) (ql1 : List AV) (pj : List (List AV)) (qn qv : Nat) (qk : Ge) (wj wl : Nat) (q9 : Ge) (yt yd pp : Nat) (ui6 : Int) (h0z : List AV) (h0e : List (List AV)) :
    bX Pr (Gmul qf) (Lmul qf fuel) 6 86 0 fuel (Smul_1 qn qv qk wj wl q9 yt yd pp ui6 h0z h0e) (fun e s => match e with | .normal => kn (hX Pr 86 0 (Smul_1 qft qfs qfp qfo qfn qfq qpt qjo qpk qmx ql1 pj) s) | e => K e s) =
    gmul_l1_step qf fuel (fun qn qv qk wj wl q9 yt yd pp ui6 h0z h0e => kn (Smul_1 qn qv qk wj wl q9 yt yd pp ui6 h0z h0e)) (fun qa1 qaf qbt v0 vy => K (Ex.exit 0) (Xmul_1_0 qa1 qaf qbt v0 vy)) qn qv qk wj wl q9 yt yd pp ui6 h0z h0e := by kernel_rfl
theorem gmul_l1_ok (qf : Mo) (fuel : Nat) (K : Ex → St → Option AV) (qft qfs : Nat) (qfp : Ge) (qfo qfn : Nat) (qfq : Ge) (qpt qjo qpk : Nat) (qmx : Int) (ql1 : List AV) (pj : List (List AV)) : ∀ (n' qn qv : Nat) (qk : Ge) (wj wl : Nat) (q9 : Ge) (yt yd pp : Nat) (ui6 : Int) (h0z : List AV) (h0e : List (List AV)),
    loopK (bX Pr (Gmul qf) (Lmul qf fuel) 6 86 0 fuel) (hX Pr 86 0 (Smul_1 qft qfs qfp qfo qfn qfq qpt qjo qpk qmx ql1 pj)) n' (Smul_1 qn qv qk wj wl q9 yt yd pp ui6 h0z h0e) K = gmul_l1 qf fuel (fun qa1 qaf qbt v0 vy => K (Ex.exit 0) (Xmul_1_0 qa1 qaf qbt v0 vy)) n' qn qv qk wj wl q9 yt yd pp ui6 h0z h0e
  | 0,_,_,_,_,_,_,_,_,_,_,_,_ => rfl
  | n' + 1,qn,qv,qk,wj,wl,q9,yt,yd,pp,ui6,h0z,h0e => (gmul_l1_eq qf fuel (fun s => loopK (bX Pr (Gmul qf) (Lmul qf fuel) 6 86 0 fuel) (hX Pr 86 0 (Smul_1 qft qfs qfp qfo qfn qfq qpt qjo qpk qmx ql1 pj)) n' s K) K qft qfs qfp qfo qfn qfq qpt qjo qpk qmx ql1 pj qn qv qk wj wl q9 yt yd pp ui6 h0z h0e).trans
    (congrArg (fun kn => gmul_l1_step qf fuel kn _ qn qv qk wj wl q9 yt yd pp ui6 h0z h0e) (funext fun qn => funext fun qv => funext fun qk => funext fun wj => funext fun wl => funext fun q9 => funext fun yt => funext fun yd => funext fun pp => funext fun ui6 => funext fun h0z => funext fun h0e => gmul_l1_ok qf fuel K qft qfs qfp qfo qfn qfq qpt qjo qpk qmx ql1 pj n' qn qv qk wj wl q9 yt yd pp ui6 h0z h0e))
termination_by structural k => k
theorem gmul_L1 (qf : Mo) (fuel : Nat) : LX Pr (Gmul qf) (Lmul qf fuel) 6 86 0 fuel := by
  refine .of Tmul_1 (Fmul_1 qf fuel) (fun L h => ?_) (fun ps st K r he hr => ?_)
  · have e : (Lmul qf fuel).get (writes (lp Pr 86 0).1) = some (lam Tmul_1 (Fmul_1 qf fuel)) := by kernel_rfl
    exact (Option.some.inj (e.symm.trans h)).symm
  · unfold Fmul_1 at hr
    split at hr
    · obtain rfl := (Option.some.inj he).symm
      exact (gmul_l1_ok qf fuel K _ _ _ _ _ _ _ _ _ _ _ _ fuel _ _ _ _ _ _ _ _ _ _ _ _).trans hr
    · cases hr
noncomputable def gmul (qf : Mo) (fuel zh v3 : Nat) (vs : Ge) (yl p1 : Nat) (pv : Ge) : Option AV :=
  bif bif (↑zh : Int) == 0 then true else (↑yl : Int) == 0 then some (AV.ro 1 0 0 fun (x j : Nat) => [AV.int .u32 0].getD j AV.dead)
  else ck (decide (0 ≤ IntKind.i64.wrap ((↑zh : Int) + (↑yl : Int)))) <| ck (decide (IntKind.i64.wrap ((↑zh : Int) + (↑yl : Int)) ≤ IntKind.i64.wrap ((↑zh : Int) + (↑yl : Int)))) <| ck ((4 * (IntKind.i64.wrap ((↑zh : Int) + (↑yl : Int))).toNat).ble 281474976710656) <| ck (((IntKind.i64.wrap ((↑zh : Int) + (↑yl : Int))).toNat + 1).ble 4611686018427387904) <| gmul_l1 qf fuel
    (fun (qfr qd4 qgs : Nat) (yk : List AV) (yj : List (List AV)) => let r0 : Option AV := qf [AV.ro 1 qd4 qgs fun (i j : Nat) => (yj.getD (qfr + i) yk).getD j AV.dead]; ck (okM [RS.one (LK.l 1)] r0) <| some (AV.ro 1 (toN (getV r0)) (toR (getV r0)) (toG (getV r0)))) fuel zh v3 vs yl p1 pv (0) ((IntKind.i64.wrap ((↑zh : Int) + (↑yl : Int))).toNat) ((IntKind.i64.wrap ((↑zh : Int) + (↑yl : Int))).toNat) (0) ([AV.int .u32 0]) (List.replicate (IntKind.i64.wrap ((↑zh : Int) + (↑yl : Int))).toNat [AV.int .u32 0])
noncomputable def mmul (qf : Mo) (fuel : Nat) (xs : List AV) : Option AV := match xs with
  | [AV.ro 1 zh v3 vs,AV.ro 1 yl p1 pv] => gmul qf fuel zh v3 vs yl p1 pv
  | _ => none
abbrev Rmul : List RS := [RS.one (LK.l (nat_lit 1))]
theorem gmul_sm (qf : Mo) (fuel : Nat) (hΓ : GamOk Pr (Gmul qf)) (hP : NamesOk Pr) : SmOk Pr 86 (smM Rmul (mmul qf fuel)) := smL (L := (Lmul qf fuel)) (n := 2) hΓ hP (by kernel_rfl) (fun i hi => match i,hi with
  | 1,_ => gmul_L0 qf fuel
  | 0,_ => gmul_L1 qf fuel
  | i + 2,hi => absurd hi (by omega)) fun xs v h => by
  unfold mmul at h
  split at h
  · exact Eq.trans (by kernel_rfl) h
  · cases h
noncomputable def LInt_Mul_rr (v6 qc : Mo) (qb qa : Mo) (fuel : Nat) : Lam AV := []
noncomputable def GInt_Mul_rr (v6 qc : Mo) (qb qa : Mo) : Gam := [(86,smM [RS.one (LK.l (nat_lit 1))] v6),(84,smX RInt_give_i XInt_give_i qc),(84,smX RInt_give_ra XInt_give_ra qb),(84,smX RInt_give_rb XInt_give_rb qa)]
noncomputable def gInt_Mul_rr (v6 qc : Mo) (qb qa : Mo) (fuel : Nat) (q4 : Bool) (qm qu : Nat) (qq : Ge) (zy : Bool) (wz w5 : Nat) (w6 : Ge) (qac : Bool) (p0 py : Nat) (pz : Ge) (v4 : Bool) (z4 vd : Nat) (ve : Ge) (qdl : Bool) (qc8 qc9 : Nat) (qda : Ge) : Option AV :=
  let r0 : Option AV := v6 [AV.ro 1 wz w5 w6,AV.ro 1 z4 vd ve]; ck (okM [RS.one (LK.l 1)] r0) <| let r1 : Option AV := qc [AV.ptr (xidx 0 (xtoks [AV.ptr 0 0,AV.bool !zy == v4,AV.ro 1 (toN (getV r0)) (toR (getV r0)) (toG (getV r0))] [])) 0,AV.bool !zy == v4,AV.ro 1 (toN (getV r0)) (toR (getV r0)) (toG (getV r0)),AV.bool q4,AV.ro 1 qm qu qq]; ck (okX [RS.one LK.b,RS.one (LK.l 1)] r1) <| some (AV.tup [AV.bool (toB ((toT (getV r1)).headD .dead)),AV.ro 1 (toN ((toT (getV r1)).tail.headD .dead)) (toR ((toT (getV r1)).tail.headD .dead)) (toG ((toT (getV r1)).tail.headD .dead)),AV.bool zy,AV.ro 1 wz w5 w6,AV.bool qac,AV.ro 1 p0 py pz,AV.bool v4,AV.ro 1 z4 vd ve,AV.bool qdl,AV.ro 1 qc8 qc9 qda])
theorem gInt_Mul_rr_run (v6 qc : Mo) (qb qa : Mo) (fuel : Nat) (q4 : Bool) (qm qu : Nat) (qq : Ge) (zy : Bool) (wz w5 : Nat) (w6 : Ge) (qac : Bool) (p0 py : Nat) (pz : Ge) (v4 : Bool) (z4 vd : Nat) (ve : Ge) (qdl : Bool) (qc8 qc9 : Nat) (qda : Ge) : runX Pr (GInt_Mul_rr v6 qc qb qa) [((6,55),LInt_Mul_rr v6 qc qb qa fuel)] fuel 7 55 XInt_Mul_rr [AV.ptr 0 0,AV.ptr 1 0,AV.ptr 2 0] [Blk.box [AV.bool q4,AV.ro 1 qm qu qq],Blk.box [AV.bool zy,AV.ro 1 wz w5 w6,AV.bool qac,AV.ro 1 p0 py pz],Blk.box [AV.bool v4,AV.ro 1 z4 vd ve,AV.bool qdl,AV.ro 1 qc8 qc9 qda]] = gInt_Mul_rr v6 qc qb qa fuel q4 qm qu qq zy wz w5 w6 qac p0 py pz v4 z4 vd ve qdl qc8 qc9 qda := by kernel_rfl
noncomputable def mInt_Mul_rr (v6 qc : Mo) (qb qa : Mo) (fuel : Nat) (xs : List AV) : Option AV := match xs with
  | [AV.ptr 0 0,AV.ptr 1 0,AV.ptr 2 0,AV.bool q4,AV.ro 1 qm qu qq,AV.bool zy,AV.ro 1 wz w5 w6,AV.bool qac,AV.ro 1 p0 py pz,AV.bool v4,AV.ro 1 z4 vd ve,AV.bool qdl,AV.ro 1 qc8 qc9 qda] => gInt_Mul_rr v6 qc qb qa fuel q4 qm qu qq zy wz w5 w6 qac p0 py pz v4 z4 vd ve qdl qc8 qc9 qda
  | _ => none
theorem gInt_Mul_rr_sm (v6 qc : Mo) (qb qa : Mo) (fuel : Nat) (hΓ : GamOk Pr (GInt_Mul_rr v6 qc qb qa)) (hP : NamesOk Pr) : XOk Pr 55 (smX RInt_Mul_rr XInt_Mul_rr (mInt_Mul_rr v6 qc qb qa fuel)) XInt_Mul_rr := by
  refine smX_ok (fuel := fuel) hΓ hP (LamOk.of 6 55 (LInt_Mul_rr v6 qc qb qa fuel) 0 (by kernel_rfl) (fun i hi => ?_)) 7 55 RInt_Mul_rr XInt_Mul_rr _ (fun xs0 ys0 v ha hb h => ?_)
  · match i,hi with
    | i + 0,hi => exact absurd hi (by omega)
  · skip
    have ha0 : xs0.length = 3 := ha
    clear ha
    obtain ⟨a0,xs1,rfl,ha1⟩ := len_cons ha0
    clear ha0
    obtain ⟨a1,xs2,rfl,ha2⟩ := len_cons ha1
    clear ha1
    obtain ⟨a2,xs3,rfl,ha3⟩ := len_cons ha2
    clear ha2
    obtain rfl := List.eq_nil_of_length_eq_zero ha3
    have hy0 : ys0.map List.length = [2,4,4] := hb
    clear hb
    obtain ⟨q4,ys1,rfl,hb0_0,hy1⟩ := map_cons' hy0
    clear hy0
    obtain ⟨c0_0,b0_1,rfl,hb0_1⟩ := len_cons hb0_0
    clear hb0_0
    obtain ⟨c0_1,z0,rfl,hb0_2⟩ := len_cons hb0_1
    clear hb0_1
    obtain rfl := List.eq_nil_of_length_eq_zero hb0_2
    obtain ⟨zy,ys2,rfl,hb1_0,hy2⟩ := map_cons' hy1
    clear hy1
    obtain ⟨c1_0,b1_1,rfl,hb1_1⟩ := len_cons hb1_0
    clear hb1_0
    obtain ⟨c1_1,qac,rfl,hb1_2⟩ := len_cons hb1_1
    clear hb1_1
    obtain ⟨c1_2,b1_3,rfl,hb1_3⟩ := len_cons hb1_2
    clear hb1_2
    obtain ⟨c1_3,b1_4,rfl,hb1_4⟩ := len_cons hb1_3
    clear hb1_3
    obtain rfl := List.eq_nil_of_length_eq_zero hb1_4
    obtain ⟨v4,ys3,rfl,hb2_0,hy3⟩ := map_cons' hy2
    clear hy2
    obtain ⟨c2_0,b2_1,rfl,hb2_1⟩ := len_cons hb2_0
    clear hb2_0
    obtain ⟨c2_1,qdl,rfl,hb2_2⟩ := len_cons hb2_1
    clear hb2_1
    obtain ⟨c2_2,b2_3,rfl,hb2_3⟩ := len_cons hb2_2
    clear hb2_2
    obtain ⟨c2_3,b2_4,rfl,hb2_4⟩ := len_cons hb2_3
    clear hb2_3
    obtain rfl := List.eq_nil_of_length_eq_zero hb2_4
    obtain rfl := map_nil' hy3
    have h : mInt_Mul_rr v6 qc qb qa fuel [a0,a1,a2,c0_0,c0_1,c1_0,c1_1,c1_2,c1_3,c2_0,c2_1,c2_2,c2_3] = some v := h
    generalize hx0 : [a0,a1,a2,c0_0,c0_1,c1_0,c1_1,c1_2,c1_3,c2_0,c2_1,c2_2,c2_3] = zs at h
    unfold mInt_Mul_rr at h
    split at h
    · skip
      obtain ⟨rfl,hx1⟩ := List.cons.inj hx0
      obtain ⟨rfl,hx2⟩ := List.cons.inj hx1
      obtain ⟨rfl,hx3⟩ := List.cons.inj hx2
      obtain ⟨rfl,hx4⟩ := List.cons.inj hx3
      obtain ⟨rfl,hx5⟩ := List.cons.inj hx4
      obtain ⟨rfl,hx6⟩ := List.cons.inj hx5
      obtain ⟨rfl,hx7⟩ := List.cons.inj hx6
      obtain ⟨rfl,hx8⟩ := List.cons.inj hx7
      obtain ⟨rfl,hx9⟩ := List.cons.inj hx8
      obtain ⟨rfl,hx10⟩ := List.cons.inj hx9
      obtain ⟨rfl,hx11⟩ := List.cons.inj hx10
      obtain ⟨rfl,hx12⟩ := List.cons.inj hx11
      obtain ⟨rfl,hx13⟩ := List.cons.inj hx12
      simp only [List.map_cons,List.map_nil]
      exact (gInt_Mul_rr_run v6 qc qb qa fuel _ _ _ _ _ _ _ _ _ _ _ _ _ _ _ _ _ _ _ _).trans h
    · cases h
noncomputable def LInt_Mul_bb (v6 qc : Mo) (qb qa : Mo) (fuel : Nat) : Lam AV := []
noncomputable def GInt_Mul_bb (v6 qc : Mo) (qb qa : Mo) : Gam := [(86,smM [RS.one (LK.l (nat_lit 1))] v6),(84,smX RInt_give_i XInt_give_i qc),(84,smX RInt_give_ra XInt_give_ra qb),(84,smX RInt_give_rb XInt_give_rb qa)]
noncomputable def gInt_Mul_bb (v6 qc : Mo) (qb qa : Mo) (fuel : Nat) (q4 : Bool) (qm qu : Nat) (qq : Ge) (zy : Bool) (wz w5 : Nat) (w6 : Ge) (qac : Bool) (p0 py : Nat) (pz : Ge) (v4 : Bool) (z4 vd : Nat) (ve : Ge) (qdl : Bool) (qc8 qc9 : Nat) (qda : Ge) : Option AV :=
  let r0 : Option AV := v6 [AV.ro 1 p0 py pz,AV.ro 1 qc8 qc9 qda]; ck (okM [RS.one (LK.l 1)] r0) <| let r1 : Option AV := qc [AV.ptr (xidx 0 (xtoks [AV.ptr 0 0,AV.bool !qac == qdl,AV.ro 1 (toN (getV r0)) (toR (getV r0)) (toG (getV r0))] [])) 0,AV.bool !qac == qdl,AV.ro 1 (toN (getV r0)) (toR (getV r0)) (toG (getV r0)),AV.bool q4,AV.ro 1 qm qu qq]; ck (okX [RS.one LK.b,RS.one (LK.l 1)] r1) <| some (AV.tup [AV.bool (toB ((toT (getV r1)).headD .dead)),AV.ro 1 (toN ((toT (getV r1)).tail.headD .dead)) (toR ((toT (getV r1)).tail.headD .dead)) (toG ((toT (getV r1)).tail.headD .dead)),AV.bool zy,AV.ro 1 wz w5 w6,AV.bool qac,AV.ro 1 p0 py pz,AV.bool v4,AV.ro 1 z4 vd ve,AV.bool qdl,AV.ro 1 qc8 qc9 qda])
theorem gInt_Mul_bb_run (v6 qc : Mo) (qb qa : Mo) (fuel : Nat) (q4 : Bool) (qm qu : Nat) (qq : Ge) (zy : Bool) (wz w5 : Nat) (w6 : Ge) (qac : Bool) (p0 py : Nat) (pz : Ge) (v4 : Bool) (z4 vd : Nat) (ve : Ge) (qdl : Bool) (qc8 qc9 : Nat) (qda : Ge) : runX Pr (GInt_Mul_bb v6 qc qb qa) [((6,55),LInt_Mul_bb v6 qc qb qa fuel)] fuel 7 55 XInt_Mul_bb [AV.ptr 0 0,AV.ptr 1 2,AV.ptr 2 2] [Blk.box [AV.bool q4,AV.ro 1 qm qu qq],Blk.box [AV.bool zy,AV.ro 1 wz w5 w6,AV.bool qac,AV.ro 1 p0 py pz],Blk.box [AV.bool v4,AV.ro 1 z4 vd ve,AV.bool qdl,AV.ro 1 qc8 qc9 qda]] = gInt_Mul_bb v6 qc qb qa fuel q4 qm qu qq zy wz w5 w6 qac p0 py pz v4 z4 vd ve qdl qc8 qc9 qda := by kernel_rfl
noncomputable def mInt_Mul_bb (v6 qc : Mo) (qb qa : Mo) (fuel : Nat) (xs : List AV) : Option AV := match xs with
  | [AV.ptr 0 0,AV.ptr 1 2,AV.ptr 2 2,AV.bool q4,AV.ro 1 qm qu qq,AV.bool zy,AV.ro 1 wz w5 w6,AV.bool qac,AV.ro 1 p0 py pz,AV.bool v4,AV.ro 1 z4 vd ve,AV.bool qdl,AV.ro 1 qc8 qc9 qda] => gInt_Mul_bb v6 qc qb qa fuel q4 qm qu qq zy wz w5 w6 qac p0 py pz v4 z4 vd ve qdl qc8 qc9 qda
  | _ => none
theorem gInt_Mul_bb_sm (v6 qc : Mo) (qb qa : Mo) (fuel : Nat) (hΓ : GamOk Pr (GInt_Mul_bb v6 qc qb qa)) (hP : NamesOk Pr) : XOk Pr 55 (smX RInt_Mul_bb XInt_Mul_bb (mInt_Mul_bb v6 qc qb qa fuel)) XInt_Mul_bb := by
  refine smX_ok (fuel := fuel) hΓ hP (LamOk.of 6 55 (LInt_Mul_bb v6 qc qb qa fuel) 0 (by kernel_rfl) (fun i hi => ?_)) 7 55 RInt_Mul_bb XInt_Mul_bb _ (fun xs0 ys0 v ha hb h => ?_)
  · match i,hi with
    | i + 0,hi => exact absurd hi (by omega)
  · skip
    have ha0 : xs0.length = 3 := ha
    clear ha
    obtain ⟨a0,xs1,rfl,ha1⟩ := len_cons ha0
    clear ha0
    obtain ⟨a1,xs2,rfl,ha2⟩ := len_cons ha1
    clear ha1
    obtain ⟨a2,xs3,rfl,ha3⟩ := len_cons ha2
    clear ha2
    obtain rfl := List.eq_nil_of_length_eq_zero ha3
    have hy0 : ys0.map List.length = [2,4,4] := hb
    clear hb
    obtain ⟨q4,ys1,rfl,hb0_0,hy1⟩ := map_cons' hy0
    clear hy0
    obtain ⟨c0_0,b0_1,rfl,hb0_1⟩ := len_cons hb0_0
    clear hb0_0
    obtain ⟨c0_1,z0,rfl,hb0_2⟩ := len_cons hb0_1
    clear hb0_1
    obtain rfl := List.eq_nil_of_length_eq_zero hb0_2
    obtain ⟨zy,ys2,rfl,hb1_0,hy2⟩ := map_cons' hy1
    clear hy1
    obtain ⟨c1_0,b1_1,rfl,hb1_1⟩ := len_cons hb1_0
    clear hb1_0
    obtain ⟨c1_1,qac,rfl,hb1_2⟩ := len_cons hb1_1
    clear hb1_1
    obtain ⟨c1_2,b1_3,rfl,hb1_3⟩ := len_cons hb1_2
    clear hb1_2
    obtain ⟨c1_3,b1_4,rfl,hb1_4⟩ := len_cons hb1_3
    clear hb1_3
    obtain rfl := List.eq_nil_of_length_eq_zero hb1_4
    obtain ⟨v4,ys3,rfl,hb2_0,hy3⟩ := map_cons' hy2
    clear hy2
    obtain ⟨c2_0,b2_1,rfl,hb2_1⟩ := len_cons hb2_0
    clear hb2_0
    obtain ⟨c2_1,qdl,rfl,hb2_2⟩ := len_cons hb2_1
    clear hb2_1
    obtain ⟨c2_2,b2_3,rfl,hb2_3⟩ := len_cons hb2_2
    clear hb2_2
    obtain ⟨c2_3,b2_4,rfl,hb2_4⟩ := len_cons hb2_3
    clear hb2_3
    obtain rfl := List.eq_nil_of_length_eq_zero hb2_4
    obtain rfl := map_nil' hy3
    have h : mInt_Mul_bb v6 qc qb qa fuel [a0,a1,a2,c0_0,c0_1,c1_0,c1_1,c1_2,c1_3,c2_0,c2_1,c2_2,c2_3] = some v := h
    generalize hx0 : [a0,a1,a2,c0_0,c0_1,c1_0,c1_1,c1_2,c1_3,c2_0,c2_1,c2_2,c2_3] = zs at h
    unfold mInt_Mul_bb at h
    split at h
    · skip
      obtain ⟨rfl,hx1⟩ := List.cons.inj hx0
      obtain ⟨rfl,hx2⟩ := List.cons.inj hx1
      obtain ⟨rfl,hx3⟩ := List.cons.inj hx2
      obtain ⟨rfl,hx4⟩ := List.cons.inj hx3
      obtain ⟨rfl,hx5⟩ := List.cons.inj hx4
      obtain ⟨rfl,hx6⟩ := List.cons.inj hx5
      obtain ⟨rfl,hx7⟩ := List.cons.inj hx6
      obtain ⟨rfl,hx8⟩ := List.cons.inj hx7
      obtain ⟨rfl,hx9⟩ := List.cons.inj hx8
      obtain ⟨rfl,hx10⟩ := List.cons.inj hx9
      obtain ⟨rfl,hx11⟩ := List.cons.inj hx10
      obtain ⟨rfl,hx12⟩ := List.cons.inj hx11
      obtain ⟨rfl,hx13⟩ := List.cons.inj hx12
      simp only [List.map_cons,List.map_nil]
      exact (gInt_Mul_bb_run v6 qc qb qa fuel _ _ _ _ _ _ _ _ _ _ _ _ _ _ _ _ _ _ _ _).trans h
    · cases h
noncomputable def LInt_Mul_ab (v6 qc : Mo) (qb qa : Mo) (fuel : Nat) : Lam AV := []
noncomputable def GInt_Mul_ab (v6 qc : Mo) (qb qa : Mo) : Gam := [(86,smM [RS.one (LK.l (nat_lit 1))] v6),(84,smX RInt_give_i XInt_give_i qc),(84,smX RInt_give_ra XInt_give_ra qb),(84,smX RInt_give_rb XInt_give_rb qa)]
noncomputable def gInt_Mul_ab (v6 qc : Mo) (qb qa : Mo) (fuel : Nat) (q4 : Bool) (qm qu : Nat) (qq : Ge) (zy : Bool) (wz w5 : Nat) (w6 : Ge) (qac : Bool) (p0 py : Nat) (pz : Ge) (v4 : Bool) (z4 vd : Nat) (ve : Ge) (qdl : Bool) (qc8 qc9 : Nat) (qda : Ge) : Option AV :=
  let r0 : Option AV := v6 [AV.ro 1 wz w5 w6,AV.ro 1 qc8 qc9 qda]; ck (okM [RS.one (LK.l 1)] r0) <| let r1 : Option AV := qc [AV.ptr (xidx 0 (xtoks [AV.ptr 0 0,AV.bool !zy == qdl,AV.ro 1 (toN (getV r0)) (toR (getV r0)) (toG (getV r0))] [])) 0,AV.bool !zy == qdl,AV.ro 1 (toN (getV r0)) (toR (getV r0)) (toG (getV r0)),AV.bool q4,AV.ro 1 qm qu qq]; ck (okX [RS.one LK.b,RS.one (LK.l 1)] r1) <| some (AV.tup [AV.bool (toB ((toT (getV r1)).headD .dead)),AV.ro 1 (toN ((toT (getV r1)).tail.headD .dead)) (toR ((toT (getV r1)).tail.headD .dead)) (toG ((toT (getV r1)).tail.headD .dead)),AV.bool zy,AV.ro 1 wz w5 w6,AV.bool qac,AV.ro 1 p0 py pz,AV.bool v4,AV.ro 1 z4 vd ve,AV.bool qdl,AV.ro 1 qc8 qc9 qda])
theorem gInt_Mul_ab_run (v6 qc : Mo) (qb qa : Mo) (fuel : Nat) (q4 : Bool) (qm qu : Nat) (qq : Ge) (zy : Bool) (wz w5 : Nat) (w6 : Ge) (qac : Bool) (p0 py : Nat) (pz : Ge) (v4 : Bool) (z4 vd : Nat) (ve : Ge) (qdl : Bool) (qc8 qc9 : Nat) (qda : Ge) : runX Pr (GInt_Mul_ab v6 qc qb qa) [((6,55),LInt_Mul_ab v6 qc qb qa fuel)] fuel 7 55 XInt_Mul_ab [AV.ptr 0 0,AV.ptr 1 0,AV.ptr 2 2] [Blk.box [AV.bool q4,AV.ro 1 qm qu qq],Blk.box [AV.bool zy,AV.ro 1 wz w5 w6,AV.bool qac,AV.ro 1 p0 py pz],Blk.box [AV.bool v4,AV.ro 1 z4 vd ve,AV.bool qdl,AV.ro 1 qc8 qc9 qda]] = gInt_Mul_ab v6 qc qb qa fuel q4 qm qu qq zy wz w5 w6 qac p0 py pz v4 z4 vd ve qdl qc8 qc9 qda := by kernel_rfl
noncomputable def mInt_Mul_ab (v6 qc : Mo) (qb qa : Mo) (fuel : Nat) (xs : List AV) : Option AV := match xs with
  | [AV.ptr 0 0,AV.ptr 1 0,AV.ptr 2 2,AV.bool q4,AV.ro 1 qm qu qq,AV.bool zy,AV.ro 1 wz w5 w6,AV.bool qac,AV.ro 1 p0 py pz,AV.bool v4,AV.ro 1 z4 vd ve,AV.bool qdl,AV.ro 1 qc8 qc9 qda] => gInt_Mul_ab v6 qc qb qa fuel q4 qm qu qq zy wz w5 w6 qac p0 py pz v4 z4 vd ve qdl qc8 qc9 qda
  | _ => none
theorem gInt_Mul_ab_sm (v6 qc : Mo) (qb qa : Mo) (fuel : Nat) (hΓ : GamOk Pr (GInt_Mul_ab v6 qc qb qa)) (hP : NamesOk Pr) : XOk Pr 55 (smX RInt_Mul_ab XInt_Mul_ab (mInt_Mul_ab v6 qc qb qa fuel)) XInt_Mul_ab := by
  refine smX_ok (fuel := fuel) hΓ hP (LamOk.of 6 55 (LInt_Mul_ab v6 qc qb qa fuel) 0 (by kernel_rfl) (fun i hi => ?_)) 7 55 RInt_Mul_ab XInt_Mul_ab _ (fun xs0 ys0 v ha hb h => ?_)
  · match i,hi with
    | i + 0,hi => exact absurd hi (by omega)
  · skip
    have ha0 : xs0.length = 3 := ha
    clear ha
    obtain ⟨a0,xs1,rfl,ha1⟩ := len_cons ha0
    clear ha0
    obtain ⟨a1,xs2,rfl,ha2⟩ := len_cons ha1
    clear ha1
    obtain ⟨a2,xs3,rfl,ha3⟩ := len_cons ha2
    clear ha2
    obtain rfl := List.eq_nil_of_length_eq_zero ha3
    have hy0 : ys0.map List.length = [2,4,4] := hb
    clear hb
    obtain ⟨q4,ys1,rfl,hb0_0,hy1⟩ := map_cons' hy0
    clear hy0
    obtain ⟨c0_0,b0_1,rfl,hb0_1⟩ := len_cons hb0_0
    clear hb0_0
    obtain ⟨c0_1,z0,rfl,hb0_2⟩ := len_cons hb0_1
    clear hb0_1
    obtain rfl := List.eq_nil_of_length_eq_zero hb0_2
    obtain ⟨zy,ys2,rfl,hb1_0,hy2⟩ := map_cons' hy1
    clear hy1
    obtain ⟨c1_0,b1_1,rfl,hb1_1⟩ := len_cons hb1_0
    clear hb1_0
    obtain ⟨c1_1,qac,rfl,hb1_2⟩ := len_cons hb1_1
    clear hb1_1
    obtain ⟨c1_2,b1_3,rfl,hb1_3⟩ := len_cons hb1_2
    clear hb1_2
    obtain ⟨c1_3,b1_4,rfl,hb1_4⟩ := len_cons hb1_3
    clear hb1_3
    obtain rfl := List.eq_nil_of_length_eq_zero hb1_4
    obtain ⟨v4,ys3,rfl,hb2_0,hy3⟩ := map_cons' hy2
    clear hy2
    obtain ⟨c2_0,b2_1,rfl,hb2_1⟩ := len_cons hb2_0
    clear hb2_0
    obtain ⟨c2_1,qdl,rfl,hb2_2⟩ := len_cons hb2_1
    clear hb2_1
    obtain ⟨c2_2,b2_3,rfl,hb2_3⟩ := len_cons hb2_2
    clear hb2_2
    obtain ⟨c2_3,b2_4,rfl,hb2_4⟩ := len_cons hb2_3
    clear hb2_3
    obtain rfl := List.eq_nil_of_length_eq_zero hb2_4
    obtain rfl := map_nil' hy3
    have h : mInt_Mul_ab v6 qc qb qa fuel [a0,a1,a2,c0_0,c0_1,c1_0,c1_1,c1_2,c1_3,c2_0,c2_1,c2_2,c2_3] = some v := h
    generalize hx0 : [a0,a1,a2,c0_0,c0_1,c1_0,c1_1,c1_2,c1_3,c2_0,c2_1,c2_2,c2_3] = zs at h
    unfold mInt_Mul_ab at h
    split at h
    · skip
      obtain ⟨rfl,hx1⟩ := List.cons.inj hx0
      obtain ⟨rfl,hx2⟩ := List.cons.inj hx1
      obtain ⟨rfl,hx3⟩ := List.cons.inj hx2
      obtain ⟨rfl,hx4⟩ := List.cons.inj hx3
      obtain ⟨rfl,hx5⟩ := List.cons.inj hx4
      obtain ⟨rfl,hx6⟩ := List.cons.inj hx5
      obtain ⟨rfl,hx7⟩ := List.cons.inj hx6
      obtain ⟨rfl,hx8⟩ := List.cons.inj hx7
      obtain ⟨rfl,hx9⟩ := List.cons.inj hx8
      obtain ⟨rfl,hx10⟩ := List.cons.inj hx9
      obtain ⟨rfl,hx11⟩ := List.cons.inj hx10
      obtain ⟨rfl,hx12⟩ := List.cons.inj hx11
      obtain ⟨rfl,hx13⟩ := List.cons.inj hx12
      simp only [List.map_cons,List.map_nil]
      exact (gInt_Mul_ab_run v6 qc qb qa fuel _ _ _ _ _ _ _ _ _ _ _ _ _ _ _ _ _ _ _ _).trans h
    · cases h
noncomputable def LInt_Mul_iii (v6 qc : Mo) (qb qa : Mo) (fuel : Nat) : Lam AV := []
noncomputable def GInt_Mul_iii (v6 qc : Mo) (qb qa : Mo) : Gam := [(86,smM [RS.one (LK.l (nat_lit 1))] v6),(84,smX RInt_give_i XInt_give_i qc),(84,smX RInt_give_ra XInt_give_ra qb),(84,smX RInt_give_rb XInt_give_rb qa)]
noncomputable def gInt_Mul_iii (v6 qc : Mo) (qb qa : Mo) (fuel : Nat) (q4 : Bool) (qm qu : Nat) (qq : Ge) (zy : Bool) (wz w5 : Nat) (w6 : Ge) (v4 : Bool) (z4 vd : Nat) (ve : Ge) : Option AV :=
  let r0 : Option AV := v6 [AV.ro 1 wz w5 w6,AV.ro 1 z4 vd ve]; ck (okM [RS.one (LK.l 1)] r0) <| let r1 : Option AV := qc [AV.ptr (xidx 0 (xtoks [AV.ptr 0 0,AV.bool !zy == v4,AV.ro 1 (toN (getV r0)) (toR (getV r0)) (toG (getV r0))] [])) 0,AV.bool !zy == v4,AV.ro 1 (toN (getV r0)) (toR (getV r0)) (toG (getV r0)),AV.bool q4,AV.ro 1 qm qu qq]; ck (okX [RS.one LK.b,RS.one (LK.l 1)] r1) <| some (AV.tup [AV.bool (toB ((toT (getV r1)).headD .dead)),AV.ro 1 (toN ((toT (getV r1)).tail.headD .dead)) (toR ((toT (getV r1)).tail.headD .dead)) (toG ((toT (getV r1)).tail.headD .dead)),AV.bool zy,AV.ro 1 wz w5 w6,AV.bool v4,AV.ro 1 z4 vd ve])
theorem gInt_Mul_iii_run (v6 qc : Mo) (qb qa : Mo) (fuel : Nat) (q4 : Bool) (qm qu : Nat) (qq : Ge) (zy : Bool) (wz w5 : Nat) (w6 : Ge) (v4 : Bool) (z4 vd : Nat) (ve : Ge) : runX Pr (GInt_Mul_iii v6 qc qb qa) [((6,55),LInt_Mul_iii v6 qc qb qa fuel)] fuel 7 55 XInt_Mul_iii [AV.ptr 0 0,AV.ptr 1 0,AV.ptr 2 0] [Blk.box [AV.bool q4,AV.ro 1 qm qu qq],Blk.box [AV.bool zy,AV.ro 1 wz w5 w6],Blk.box [AV.bool v4,AV.ro 1 z4 vd ve]] = gInt_Mul_iii v6 qc qb qa fuel q4 qm qu qq zy wz w5 w6 v4 z4 vd ve := by kernel_rfl
noncomputable def mInt_Mul_iii (v6 qc : Mo) (qb qa : Mo) (fuel : Nat) (xs : List AV) : Option AV := match xs with
  | [AV.ptr 0 0,AV.ptr 1 0,AV.ptr 2 0,AV.bool q4,AV.ro 1 qm qu qq,AV.bool zy,AV.ro 1 wz w5 w6,AV.bool v4,AV.ro 1 z4 vd ve] => gInt_Mul_iii v6 qc qb qa fuel q4 qm qu qq zy wz w5 w6 v4 z4 vd ve
  | _ => none
theorem gInt_Mul_iii_sm (v6 qc : Mo) (qb qa : Mo) (fuel : Nat) (hΓ : GamOk Pr (GInt_Mul_iii v6 qc qb qa)) (hP : NamesOk Pr) : XOk Pr 55 (smX RInt_Mul_iii XInt_Mul_iii (mInt_Mul_iii v6 qc qb qa fuel)) XInt_Mul_iii := by
  refine smX_ok (fuel := fuel) hΓ hP (LamOk.of 6 55 (LInt_Mul_iii v6 qc qb qa fuel) 0 (by kernel_rfl) (fun i hi => ?_)) 7 55 RInt_Mul_iii XInt_Mul_iii _ (fun xs0 ys0 v ha hb h => ?_)
  · match i,hi with
    | i + 0,hi => exact absurd hi (by omega)
  · skip
    have ha0 : xs0.length = 3 := ha
    clear ha
    obtain ⟨a0,xs1,rfl,ha1⟩ := len_cons ha0
    clear ha0
    obtain ⟨a1,xs2,rfl,ha2⟩ := len_cons ha1
    clear ha1
    obtain ⟨a2,xs3,rfl,ha3⟩ := len_cons ha2
    clear ha2
    obtain rfl := List.eq_nil_of_length_eq_zero ha3
    have hy0 : ys0.map List.length = [2,2,2] := hb
    clear hb
    obtain ⟨q4,ys1,rfl,hb0_0,hy1⟩ := map_cons' hy0
    clear hy0
    obtain ⟨c0_0,b0_1,rfl,hb0_1⟩ := len_cons hb0_0
    clear hb0_0
    obtain ⟨c0_1,z0,rfl,hb0_2⟩ := len_cons hb0_1
    clear hb0_1
    obtain rfl := List.eq_nil_of_length_eq_zero hb0_2
    obtain ⟨zy,ys2,rfl,hb1_0,hy2⟩ := map_cons' hy1
    clear hy1
    obtain ⟨c1_0,b1_1,rfl,hb1_1⟩ := len_cons hb1_0
    clear hb1_0
    obtain ⟨c1_1,qac,rfl,hb1_2⟩ := len_cons hb1_1
    clear hb1_1
    obtain rfl := List.eq_nil_of_length_eq_zero hb1_2
    obtain ⟨v4,ys3,rfl,hb2_0,hy3⟩ := map_cons' hy2
    clear hy2
    obtain ⟨c2_0,b2_1,rfl,hb2_1⟩ := len_cons hb2_0
    clear hb2_0
    obtain ⟨c2_1,qdl,rfl,hb2_2⟩ := len_cons hb2_1
    clear hb2_1
    obtain rfl := List.eq_nil_of_length_eq_zero hb2_2
    obtain rfl := map_nil' hy3
    have h : mInt_Mul_iii v6 qc qb qa fuel [a0,a1,a2,c0_0,c0_1,c1_0,c1_1,c2_0,c2_1] = some v := h
    generalize hx0 : [a0,a1,a2,c0_0,c0_1,c1_0,c1_1,c2_0,c2_1] = zs at h
    unfold mInt_Mul_iii at h
    split at h
    · skip
      obtain ⟨rfl,hx1⟩ := List.cons.inj hx0
      obtain ⟨rfl,hx2⟩ := List.cons.inj hx1
      obtain ⟨rfl,hx3⟩ := List.cons.inj hx2
      obtain ⟨rfl,hx4⟩ := List.cons.inj hx3
      obtain ⟨rfl,hx5⟩ := List.cons.inj hx4
      obtain ⟨rfl,hx6⟩ := List.cons.inj hx5
      obtain ⟨rfl,hx7⟩ := List.cons.inj hx6
      obtain ⟨rfl,hx8⟩ := List.cons.inj hx7
      obtain ⟨rfl,hx9⟩ := List.cons.inj hx8
      simp only [List.map_cons,List.map_nil]
      exact (gInt_Mul_iii_run v6 qc qb qa fuel _ _ _ _ _ _ _ _ _ _ _ _).trans h
    · cases h
noncomputable def LInt_Mul_ri (v6 qc : Mo) (qb qa : Mo) (fuel : Nat) : Lam AV := []
noncomputable def GInt_Mul_ri (v6 qc : Mo) (qb qa : Mo) : Gam := [(86,smM [RS.one (LK.l (nat_lit 1))] v6),(84,smX RInt_give_i XInt_give_i qc),(84,smX RInt_give_ra XInt_give_ra qb),(84,smX RInt_give_rb XInt_give_rb qa)]
noncomputable def gInt_Mul_ri (v6 qc : Mo) (qb qa : Mo) (fuel : Nat) (q4 : Bool) (qm qu : Nat) (qq : Ge) (zy : Bool) (wz w5 : Nat) (w6 : Ge) (qac : Bool) (p0 py : Nat) (pz : Ge) (v4 : Bool) (z4 vd : Nat) (ve : Ge) : Option AV :=
  let r0 : Option AV := v6 [AV.ro 1 wz w5 w6,AV.ro 1 z4 vd ve]; ck (okM [RS.one (LK.l 1)] r0) <| let r1 : Option AV := qc [AV.ptr (xidx 0 (xtoks [AV.ptr 0 0,AV.bool !zy == v4,AV.ro 1 (toN (getV r0)) (toR (getV r0)) (toG (getV r0))] [])) 0,AV.bool !zy == v4,AV.ro 1 (toN (getV r0)) (toR (getV r0)) (toG (getV r0)),AV.bool q4,AV.ro 1 qm qu qq]; ck (okX [RS.one LK.b,RS.one (LK.l 1)] r1) <| some (AV.tup [AV.bool (toB ((toT (getV r1)).headD .dead)),AV.ro 1 (toN ((toT (getV r1)).tail.headD .dead)) (toR ((toT (getV r1)).tail.headD .dead)) (toG ((toT (getV r1)).tail.headD .dead)),AV.bool zy,AV.ro 1 wz w5 w6,AV.bool qac,AV.ro 1 p0 py pz,AV.bool v4,AV.ro 1 z4 vd ve])
theorem gInt_Mul_ri_run (v6 qc : Mo) (qb qa : Mo) (fuel : Nat) (q4 : Bool) (qm qu : Nat) (qq : Ge) (zy : Bool) (wz w5 : Nat) (w6 : Ge) (qac : Bool) (p0 py : Nat) (pz : Ge) (v4 : Bool) (z4 vd : Nat) (ve : Ge) : runX Pr (GInt_Mul_ri v6 qc qb qa) [((6,55),LInt_Mul_ri v6 qc qb qa fuel)] fuel 7 55 XInt_Mul_ri [AV.ptr 0 0,AV.ptr 1 0,AV.ptr 2 0] [Blk.box [AV.bool q4,AV.ro 1 qm qu qq],Blk.box [AV.bool zy,AV.ro 1 wz w5 w6,AV.bool qac,AV.ro 1 p0 py pz],Blk.box [AV.bool v4,AV.ro 1 z4 vd ve]] = gInt_Mul_ri v6 qc qb qa fuel q4 qm qu qq zy wz w5 w6 qac p0 py pz v4 z4 vd ve := by kernel_rfl
noncomputable def mInt_Mul_ri (v6 qc : Mo) (qb qa : Mo) (fuel : Nat) (xs : List AV) : Option AV := match xs with
  | [AV.ptr 0 0,AV.ptr 1 0,AV.ptr 2 0,AV.bool q4,AV.ro 1 qm qu qq,AV.bool zy,AV.ro 1 wz w5 w6,AV.bool qac,AV.ro 1 p0 py pz,AV.bool v4,AV.ro 1 z4 vd ve] => gInt_Mul_ri v6 qc qb qa fuel q4 qm qu qq zy wz w5 w6 qac p0 py pz v4 z4 vd ve
  | _ => none
theorem gInt_Mul_ri_sm (v6 qc : Mo) (qb qa : Mo) (fuel : Nat) (hΓ : GamOk Pr (GInt_Mul_ri v6 qc qb qa)) (hP : NamesOk Pr) : XOk Pr 55 (smX RInt_Mul_ri XInt_Mul_ri (mInt_Mul_ri v6 qc qb qa fuel)) XInt_Mul_ri := by
  refine smX_ok (fuel := fuel) hΓ hP (LamOk.of 6 55 (LInt_Mul_ri v6 qc qb qa fuel) 0 (by kernel_rfl) (fun i hi => ?_)) 7 55 RInt_Mul_ri XInt_Mul_ri _ (fun xs0 ys0 v ha hb h => ?_)
  · match i,hi with
    | i + 0,hi => exact absurd hi (by omega)
  · skip
    have ha0 : xs0.length = 3 := ha
    clear ha
    obtain ⟨a0,xs1,rfl,ha1⟩ := len_cons ha0
    clear ha0
    obtain ⟨a1,xs2,rfl,ha2⟩ := len_cons ha1
    clear ha1
    obtain ⟨a2,xs3,rfl,ha3⟩ := len_cons ha2
    clear ha2
    obtain rfl := List.eq_nil_of_length_eq_zero ha3
    have hy0 : ys0.map List.length = [2,4,2] := hb
    clear hb
    obtain ⟨q4,ys1,rfl,hb0_0,hy1⟩ := map_cons' hy0
    clear hy0
    obtain ⟨c0_0,b0_1,rfl,hb0_1⟩ := len_cons hb0_0
    clear hb0_0
    obtain ⟨c0_1,z0,rfl,hb0_2⟩ := len_cons hb0_1
    clear hb0_1
    obtain rfl := List.eq_nil_of_length_eq_zero hb0_2
    obtain ⟨zy,ys2,rfl,hb1_0,hy2⟩ := map_cons' hy1
    clear hy1
    obtain ⟨c1_0,b1_1,rfl,hb1_1⟩ := len_cons hb1_0
    clear hb1_0
    obtain ⟨c1_1,qac,rfl,hb1_2⟩ := len_cons hb1_1
    clear hb1_1
    obtain ⟨c1_2,b1_3,rfl,hb1_3⟩ := len_cons hb1_2
    clear hb1_2
    obtain ⟨c1_3,b1_4,rfl,hb1_4⟩ := len_cons hb1_3
    clear hb1_3
    obtain rfl := List.eq_nil_of_length_eq_zero hb1_4
    obtain ⟨v4,ys3,rfl,hb2_0,hy3⟩ := map_cons' hy2
    clear hy2
    obtain ⟨c2_0,b2_1,rfl,hb2_1⟩ := len_cons hb2_0
    clear hb2_0
    obtain ⟨c2_1,qdl,rfl,hb2_2⟩ := len_cons hb2_1
    clear hb2_1
    obtain rfl := List.eq_nil_of_length_eq_zero hb2_2
    obtain rfl := map_nil' hy3
    have h : mInt_Mul_ri v6 qc qb qa fuel [a0,a1,a2,c0_0,c0_1,c1_0,c1_1,c1_2,c1_3,c2_0,c2_1] = some v := h
    generalize hx0 : [a0,a1,a2,c0_0,c0_1,c1_0,c1_1,c1_2,c1_3,c2_0,c2_1] = zs at h
    unfold mInt_Mul_ri at h
    split at h
    · skip
      obtain ⟨rfl,hx1⟩ := List.cons.inj hx0
      obtain ⟨rfl,hx2⟩ := List.cons.inj hx1
      obtain ⟨rfl,hx3⟩ := List.cons.inj hx2
      obtain ⟨rfl,hx4⟩ := List.cons.inj hx3
      obtain ⟨rfl,hx5⟩ := List.cons.inj hx4
      obtain ⟨rfl,hx6⟩ := List.cons.inj hx5
      obtain ⟨rfl,hx7⟩ := List.cons.inj hx6
      obtain ⟨rfl,hx8⟩ := List.cons.inj hx7
      obtain ⟨rfl,hx9⟩ := List.cons.inj hx8
      obtain ⟨rfl,hx10⟩ := List.cons.inj hx9
      obtain ⟨rfl,hx11⟩ := List.cons.inj hx10
      simp only [List.map_cons,List.map_nil]
      exact (gInt_Mul_ri_run v6 qc qb qa fuel _ _ _ _ _ _ _ _ _ _ _ _ _ _ _ _).trans h
    · cases h
noncomputable def LInt_Mul_ir (v6 qc : Mo) (qb qa : Mo) (fuel : Nat) : Lam AV := []
noncomputable def GInt_Mul_ir (v6 qc : Mo) (qb qa : Mo) : Gam := [(86,smM [RS.one (LK.l (nat_lit 1))] v6),(84,smX RInt_give_i XInt_give_i qc),(84,smX RInt_give_ra XInt_give_ra qb),(84,smX RInt_give_rb XInt_give_rb qa)]
noncomputable def gInt_Mul_ir (v6 qc : Mo) (qb qa : Mo) (fuel : Nat) (q4 : Bool) (qm qu : Nat) (qq : Ge) (zy : Bool) (wz w5 : Nat) (w6 : Ge) (v4 : Bool) (z4 vd : Nat) (ve : Ge) (qdl : Bool) (qc8 qc9 : Nat) (qda : Ge) : Option AV :=
  let r0 : Option AV := v6 [AV.ro 1 wz w5 w6,AV.ro 1 qc8 qc9 qda]; ck (okM [RS.one (LK.l 1)] r0) <| let r1 : Option AV := qc [AV.ptr (xidx 0 (xtoks [AV.ptr 0 0,AV.bool !zy == qdl,AV.ro 1 (toN (getV r0)) (toR (getV r0)) (toG (getV r0))] [])) 0,AV.bool !zy == qdl,AV.ro 1 (toN (getV r0)) (toR (getV r0)) (toG (getV r0)),AV.bool q4,AV.ro 1 qm qu qq]; ck (okX [RS.one LK.b,RS.one (LK.l 1)] r1) <| some (AV.tup [AV.bool (toB ((toT (getV r1)).headD .dead)),AV.ro 1 (toN ((toT (getV r1)).tail.headD .dead)) (toR ((toT (getV r1)).tail.headD .dead)) (toG ((toT (getV r1)).tail.headD .dead)),AV.bool zy,AV.ro 1 wz w5 w6,AV.bool v4,AV.ro 1 z4 vd ve,AV.bool qdl,AV.ro 1 qc8 qc9 qda])
theorem gInt_Mul_ir_run (v6 qc : Mo) (qb qa : Mo) (fuel : Nat) (q4 : Bool) (qm qu : Nat) (qq : Ge) (zy : Bool) (wz w5 : Nat) (w6 : Ge) (v4 : Bool) (z4 vd : Nat) (ve : Ge) (qdl : Bool) (qc8 qc9 : Nat) (qda : Ge) : runX Pr (GInt_Mul_ir v6 qc qb qa) [((6,55),LInt_Mul_ir v6 qc qb qa fuel)] fuel 7 55 XInt_Mul_ir [AV.ptr 0 0,AV.ptr 1 0,AV.ptr 2 2] [Blk.box [AV.bool q4,AV.ro 1 qm qu qq],Blk.box [AV.bool zy,AV.ro 1 wz w5 w6],Blk.box [AV.bool v4,AV.ro 1 z4 vd ve,AV.bool qdl,AV.ro 1 qc8 qc9 qda]] = gInt_Mul_ir v6 qc qb qa fuel q4 qm qu qq zy wz w5 w6 v4 z4 vd ve qdl qc8 qc9 qda := by kernel_rfl
noncomputable def mInt_Mul_ir (v6 qc : Mo) (qb qa : Mo) (fuel : Nat) (xs : List AV) : Option AV := match xs with
  | [AV.ptr 0 0,AV.ptr 1 0,AV.ptr 2 2,AV.bool q4,AV.ro 1 qm qu qq,AV.bool zy,AV.ro 1 wz w5 w6,AV.bool v4,AV.ro 1 z4 vd ve,AV.bool qdl,AV.ro 1 qc8 qc9 qda] => gInt_Mul_ir v6 qc qb qa fuel q4 qm qu qq zy wz w5 w6 v4 z4 vd ve qdl qc8 qc9 qda
  | _ => none
theorem gInt_Mul_ir_sm (v6 qc : Mo) (qb qa : Mo) (fuel : Nat) (hΓ : GamOk Pr (GInt_Mul_ir v6 qc qb qa)) (hP : NamesOk Pr) : XOk Pr 55 (smX RInt_Mul_ir XInt_Mul_ir (mInt_Mul_ir v6 qc qb qa fuel)) XInt_Mul_ir := by
  refine smX_ok (fuel := fuel) hΓ hP (LamOk.of 6 55 (LInt_Mul_ir v6 qc qb qa fuel) 0 (by kernel_rfl) (fun i hi => ?_)) 7 55 RInt_Mul_ir XInt_Mul_ir _ (fun xs0 ys0 v ha hb h => ?_)
  · match i,hi with
    | i + 0,hi => exact absurd hi (by omega)
  · skip
    have ha0 : xs0.length = 3 := ha
    clear ha
    obtain ⟨a0,xs1,rfl,ha1⟩ := len_cons ha0
    clear ha0
    obtain ⟨a1,xs2,rfl,ha2⟩ := len_cons ha1
    clear ha1
    obtain ⟨a2,xs3,rfl,ha3⟩ := len_cons ha2
    clear ha2
    obtain rfl := List.eq_nil_of_length_eq_zero ha3
    have hy0 : ys0.map List.length = [2,2,4] := hb
    clear hb
    obtain ⟨q4,ys1,rfl,hb0_0,hy1⟩ := map_cons' hy0
    clear hy0
    obtain ⟨c0_0,b0_1,rfl,hb0_1⟩ := len_cons hb0_0
    clear hb0_0
    obtain ⟨c0_1,z0,rfl,hb0_2⟩ := len_cons hb0_1
    clear hb0_1
    obtain rfl := List.eq_nil_of_length_eq_zero hb0_2
    obtain ⟨zy,ys2,rfl,hb1_0,hy2⟩ := map_cons' hy1
    clear hy1
    obtain ⟨c1_0,b1_1,rfl,hb1_1⟩ := len_cons hb1_0
    clear hb1_0
    obtain ⟨c1_1,qac,rfl,hb1_2⟩ := len_cons hb1_1
    clear hb1_1
    obtain rfl := List.eq_nil_of_length_eq_zero hb1_2
    obtain ⟨v4,ys3,rfl,hb2_0,hy3⟩ := map_cons' hy2
    clear hy2
    obtain ⟨c2_0,b2_1,rfl,hb2_1⟩ := len_cons hb2_0
    clear hb2_0
    obtain ⟨c2_1,qdl,rfl,hb2_2⟩ := len_cons hb2_1
    clear hb2_1
    obtain ⟨c2_2,b2_3,rfl,hb2_3⟩ := len_cons hb2_2
    clear hb2_2
    obtain ⟨c2_3,b2_4,rfl,hb2_4⟩ := len_cons hb2_3
    clear hb2_3
    obtain rfl := List.eq_nil_of_length_eq_zero hb2_4
    obtain rfl := map_nil' hy3
    have h : mInt_Mul_ir v6 qc qb qa fuel [a0,a1,a2,c0_0,c0_1,c1_0,c1_1,c2_0,c2_1,c2_2,c2_3] = some v := h
    generalize hx0 : [a0,a1,a2,c0_0,c0_1,c1_0,c1_1,c2_0,c2_1,c2_2,c2_3] = zs at h
    unfold mInt_Mul_ir at h
    split at h
    · skip
      obtain ⟨rfl,hx1⟩ := List.cons.inj hx0
      obtain ⟨rfl,hx2⟩ := List.cons.inj hx1
      obtain ⟨rfl,hx3⟩ := List.cons.inj hx2
      obtain ⟨rfl,hx4⟩ := List.cons.inj hx3
      obtain ⟨rfl,hx5⟩ := List.cons.inj hx4
      obtain ⟨rfl,hx6⟩ := List.cons.inj hx5
      obtain ⟨rfl,hx7⟩ := List.cons.inj hx6
      obtain ⟨rfl,hx8⟩ := List.cons.inj hx7
      obtain ⟨rfl,hx9⟩ := List.cons.inj hx8
      obtain ⟨rfl,hx10⟩ := List.cons.inj hx9
      obtain ⟨rfl,hx11⟩ := List.cons.inj hx10
      simp only [List.map_cons,List.map_nil]
      exact (gInt_Mul_ir_run v6 qc qb qa fuel _ _ _ _ _ _ _ _ _ _ _ _ _ _ _ _).trans h
    · cases h
noncomputable def Ssub_0 (qn qv : Nat) (qk : Ge) (wj wl : Nat) (q9 : Ge) (yt yd pp : Nat) (uc6 ui7 : Int) (h0z : List AV) (h0e : List (List AV)) : St := { env := [(0,AV.ro 1 qn qv qk),(1,AV.ro 1 wj wl q9),(5,AV.own 0 yt 1 yd pp),(6,AV.int .u64 uc6),(7,AV.int .i64 ui7)],h := [Blk.fx 1 h0z h0e],kd := [] }
noncomputable def Xsub_0_0 (qfr qd4 qgs : Nat) (yk : List AV) (yj : List (List AV)) : St := { env := [(5,AV.own 0 qfr 1 qd4 qgs)],h := [Blk.fx 1 yk yj],kd := [] }
noncomputable def gsub_l0_step (qf : Mo) (fuel : Nat) (kn : Int → Int → List (List AV) → Option AV) (kx0 : Nat → Nat → Nat → List AV → List (List AV) → Option AV) (qn qv : Nat) (qk : Ge) (wj wl : Nat) (q9 : Ge) (yt yd pp : Nat) (h0z : List AV) (uc6 ui7 : Int) (h0e : List (List AV)) : Option AV :=
  bif decide (ui7 < (↑qn : Int)) then ck (decide (0 ≤ ui7)) <| ck (decide (ui7 < (↑qn : Int))) <| ck (fitK (LK.i .u32) (qk ui7.toNat 0)) <| bif decide (ui7 < (↑wj : Int)) then ck (decide (0 ≤ ui7)) <| ck (decide (ui7 < (↑wj : Int))) <| ck (fitK (LK.i .u32) (q9 ui7.toNat 0)) <| ck (decide (0 ≤ ui7)) <| ck (decide (ui7 < (↑yd : Int))) <| kn ((IntKind.u64.wrap (IntKind.u64.wrap (IntKind.u64.wrap (toI (qk ui7.toNat 0)) - uc6) - IntKind.u64.wrap (toI (q9 ui7.toNat 0)))).fdiv (2 ^ 63)) (IntKind.i64.wrap (ui7 + 1)) (h0e.set (yt + ui7.toNat) (AV.int .u32 (IntKind.u32.wrap (IntKind.u64.wrap (IntKind.u64.wrap (IntKind.u64.wrap (toI (qk ui7.toNat 0)) - uc6) - IntKind.u64.wrap (toI (q9 ui7.toNat 0))))) :: List.drop (0 + [AV.int .u32 (IntKind.u32.wrap (IntKind.u64.wrap (IntKind.u64.wrap (IntKind.u64.wrap (toI (qk ui7.toNat 0)) - uc6) - IntKind.u64.wrap (toI (q9 ui7.toNat 0)))))].length) (h0e.getD (yt + ui7.toNat) h0z)))
    else ck (decide (0 ≤ ui7)) <| ck (decide (ui7 < (↑yd : Int))) <| kn ((IntKind.u64.wrap (IntKind.u64.wrap (toI (qk ui7.toNat 0)) - uc6)).fdiv (2 ^ 63)) (IntKind.i64.wrap (ui7 + 1)) (h0e.set (yt + ui7.toNat) (AV.int .u32 (IntKind.u32.wrap (IntKind.u64.wrap (IntKind.u64.wrap (toI (qk ui7.toNat 0)) - uc6))) :: List.drop (0 + [AV.int .u32 (IntKind.u32.wrap (IntKind.u64.wrap (IntKind.u64.wrap (toI (qk ui7.toNat 0)) - uc6)))].length) (h0e.getD (yt + ui7.toNat) h0z)))
  else kx0 yt yd pp h0z h0e
noncomputable def gsub_l0 (qf : Mo) (fuel : Nat) (kx0 : Nat → Nat → Nat → List AV → List (List AV) → Option AV) (qn qv : Nat) (qk : Ge) (wj wl : Nat) (q9 : Ge) (yt yd pp : Nat) (h0z : List AV) : Nat → Int → Int → List (List AV) → Option AV
  | 0,_,_,_ => none
  | n' + 1,uc6,ui7,h0e => gsub_l0_step qf fuel (gsub_l0 qf fuel kx0 qn qv qk wj wl q9 yt yd pp h0z n') kx0 qn qv qk wj wl q9 yt yd pp h0z uc6 ui7 h0e
termination_by structural k => k
noncomputable def Tsub_0 : TS' := ⟨[(0,TA.ro 1),(1,TA.ro 1),(5,TA.own 0 1),(6,TA.i .u64),(7,TA.i .i64)],[TB.fx 1],[]⟩
noncomputable def Fsub_0 (qf : Mo) (fuel : Nat) (ps : List Pay) (K : Ex → St → Option AV) : Option AV := match ps with
  | .n qn :: .n qv :: .g qk :: .n wj :: .n wl :: .g q9 :: .n yt :: .n yd :: .n pp :: .i uc6 :: .i ui7 :: .z h0z :: .e h0e :: [] => gsub_l0 qf fuel (fun qfr qd4 qgs yk yj => K (Ex.exit 0) (Xsub_0_0 qfr qd4 qgs yk yj)) qn qv qk wj wl q9 yt yd pp h0z fuel uc6 ui7 h0e
  | _ => none
noncomputable def Lsub (qf : Mo) (fuel : Nat) : Lam AV := [(8796093018560,lam Tsub_0 (Fsub_0 qf fuel))]
noncomputable def Gsub (qf : Mo) : Gam := [(121,smM [RS.one (LK.l (nat_lit 1))] qf)]
theorem gsub_l0_eq (qf : Mo) (fuel : Nat) (kn : St → Option AV) (K : Ex → St → Option AV) (qn qv : Nat) (qk : Ge) (wj wl : Nat) (q9 : Ge) (yt yd pp : Nat) (h0z : List AV) (qjp qhe : Int) (pj : List (List AV)) (uc6 ui7 : Int) (h0e : List (List AV)) :
    bX Pr (Gsub qf) (Lsub qf fuel) 6 120 0 fuel (Ssub_0 qn qv qk wj wl q9 yt yd pp uc6 ui7 h0z h0e) (fun e s => match e with | .normal => kn (hX Pr 120 0 (Ssub_0 qn qv qk wj wl q9 yt yd pp qjp qhe h0z pj) s) | e => K e s) =
    gsub_l0_step qf fuel (fun uc6 ui7 h0e => kn (Ssub_0 qn qv qk wj wl q9 yt yd pp uc6 ui7 h0z h0e)) (fun qa1 qaf qbt v0 vy => K (Ex.exit 0) (Xsub_0_0 qa1 qaf qbt v0 vy)) qn qv qk wj wl q9 yt yd pp h0z uc6 ui7 h0e := by kernel_rfl
theorem gsub_l0_ok (qf : Mo) (fuel : Nat) (K : Ex → St → Option AV) (qn qv : Nat) (qk : Ge) (wj wl : Nat) (q9 : Ge) (yt yd pp : Nat) (h0z : List AV) (qjp qhe : Int) (pj : List (List AV)) : ∀ (n' : Nat) (uc6 ui7 : Int) (h0e : List (List AV)),
    loopK (bX Pr (Gsub qf) (Lsub qf fuel) 6 120 0 fuel) (hX Pr 120 0 (Ssub_0 qn qv qk wj wl q9 yt yd pp qjp qhe h0z pj)) n' (Ssub_0 qn qv qk wj wl q9 yt yd pp uc6 ui7 h0z h0e) K = gsub_l0 qf fuel (fun qa1 qaf qbt v0 vy => K (Ex.exit 0) (Xsub_0_0 qa1 qaf qbt v0 vy)) qn qv qk wj wl q9 yt yd pp h0z n' uc6 ui7 h0e
  | 0,_,_,_ => rfl
  | n' + 1,uc6,ui7,h0e => (gsub_l0_eq qf fuel (fun s => loopK (bX Pr (Gsub qf) (Lsub qf fuel) 6 120 0 fuel) (hX Pr 120 0 (Ssub_0 qn qv qk wj wl q9 yt yd pp qjp qhe h0z pj)) n' s K) K qn qv qk wj wl q9 yt yd pp h0z qjp qhe pj uc6 ui7 h0e).trans
    (congrArg (fun kn => gsub_l0_step qf fuel kn _ qn qv qk wj wl q9 yt yd pp h0z uc6 ui7 h0e) (funext fun uc6 => funext fun ui7 => funext fun h0e => gsub_l0_ok qf fuel K qn qv qk wj wl q9 yt yd pp h0z qjp qhe pj n' uc6 ui7 h0e))
theorem gsub_L0 (qf : Mo) (fuel : Nat) : LX Pr (Gsub qf) (Lsub qf fuel) 6 120 0 fuel := by
  refine .of Tsub_0 (Fsub_0 qf fuel) (fun L h => ?_) (fun ps st K r he hr => ?_)
  · have e : (Lsub qf fuel).get (writes (lp Pr 120 0).1) = some (lam Tsub_0 (Fsub_0 qf fuel)) := by kernel_rfl
    exact (Option.some.inj (e.symm.trans h)).symm
  · unfold Fsub_0 at hr
    split at hr
    · obtain rfl := (Option.some.inj he).symm
      exact (gsub_l0_ok qf fuel K _ _ _ _ _ _ _ _ _ _ _ _ _ fuel _ _ _).trans hr
    · cases hr
noncomputable def gsub (qf : Mo) (fuel zh v3 : Nat) (vs : Ge) (yl p1 : Nat) (pv : Ge) : Option AV :=
  ck (decide (0 ≤ (↑zh : Int))) <| ck (decide ((↑zh : Int) ≤ (↑zh : Int))) <| ck ((4 * (↑zh : Int).toNat).ble 281474976710656) <| ck (((↑zh : Int).toNat + 1).ble 4611686018427387904) <| gsub_l0 qf fuel
    (fun (qa1 qaf qbt : Nat) (v0 : List AV) (vy : List (List AV)) => let r0 : Option AV := qf [AV.ro 1 qaf qbt fun (i j : Nat) => (vy.getD (qa1 + i) v0).getD j AV.dead]; ck (okM [RS.one (LK.l 1)] r0) <| some (AV.ro 1 (toN (getV r0)) (toR (getV r0)) (toG (getV r0))))
    zh
    v3
    vs
    yl
    p1
    pv
    (0)
    ((↑zh : Int).toNat)
    ((↑zh : Int).toNat)
    ([AV.int .u32 0]) fuel (0) (0) (List.replicate (↑zh : Int).toNat [AV.int .u32 0])
noncomputable def msub (qf : Mo) (fuel : Nat) (xs : List AV) : Option AV := match xs with
  | [AV.ro 1 zh v3 vs,AV.ro 1 yl p1 pv] => gsub qf fuel zh v3 vs yl p1 pv
  | _ => none
abbrev Rsub : List RS := [RS.one (LK.l (nat_lit 1))]
theorem gsub_sm (qf : Mo) (fuel : Nat) (hΓ : GamOk Pr (Gsub qf)) (hP : NamesOk Pr) : SmOk Pr 120 (smM Rsub (msub qf fuel)) := smL (L := (Lsub qf fuel)) (n := 1) hΓ hP (by kernel_rfl) (fun i hi => match i,hi with
  | 0,_ => gsub_L0 qf fuel
  | i + 1,hi => absurd hi (by omega)) fun xs v h => by
  unfold msub at h
  split at h
  · exact Eq.trans (by kernel_rfl) h
  · cases h
noncomputable def Gsum (ye vc qa0 : Mo) : Gam := [(116,smM [RS.one (LK.l (nat_lit 1))] ye),(119,smM [RS.one (LK.i .i64)] vc),(120,smM [RS.one (LK.l (nat_lit 1))] qa0)]
noncomputable def gsum (ye vc qa0 : Mo) (fuel : Nat) (xn0 : Bool) (qpc qo7 : Nat) (qpb : Ge) (yn2 : Bool) (qo9 qo8 : Nat) (qpa : Ge) : Option AV :=
  bif xn0 == yn2 then let r0 : Option AV := ye [AV.ro 1 qpc qo7 qpb,AV.ro 1 qo9 qo8 qpa]; ck (okM [RS.one (LK.l 1)] r0) <| some (AV.tup [AV.bool xn0,AV.ro 1 (toN (getV r0)) (toR (getV r0)) (toG (getV r0))])
  else ck (okM [RS.one (LK.i .i64)] (vc [AV.ro 1 qpc qo7 qpb,AV.ro 1 qo9 qo8 qpa])) <| bif decide (toI (getV (vc [AV.ro 1 qpc qo7 qpb,AV.ro 1 qo9 qo8 qpa])) ≥ 0) then let r1 : Option AV := qa0 [AV.ro 1 qpc qo7 qpb,AV.ro 1 qo9 qo8 qpa]; ck (okM [RS.one (LK.l 1)] r1) <| some (AV.tup [AV.bool xn0,AV.ro 1 (toN (getV r1)) (toR (getV r1)) (toG (getV r1))])
  else let r2 : Option AV := qa0 [AV.ro 1 qo9 qo8 qpa,AV.ro 1 qpc qo7 qpb]; ck (okM [RS.one (LK.l 1)] r2) <| some (AV.tup [AV.bool yn2,AV.ro 1 (toN (getV r2)) (toR (getV r2)) (toG (getV r2))])
noncomputable def msum (ye vc qa0 : Mo) (fuel : Nat) (xs : List AV) : Option AV := match xs with
  | [AV.bool xn0,AV.ro 1 qpc qo7 qpb,AV.bool yn2,AV.ro 1 qo9 qo8 qpa] => gsum ye vc qa0 fuel xn0 qpc qo7 qpb yn2 qo9 qo8 qpa
  | _ => none
abbrev Rsum : List RS := [RS.one LK.b,RS.one (LK.l (nat_lit 1))]
theorem gsum_sm (ye vc qa0 : Mo) (fuel : Nat) (hΓ : GamOk Pr (Gsum ye vc qa0)) (hP : NamesOk Pr) : SmOk Pr 85 (smM Rsum (msum ye vc qa0 fuel)) := sm0 (fuel := fuel) (d := 7) hΓ hP fun xs v h => by
  unfold msum at h
  split at h
  · exact Eq.trans (by kernel_rfl) h
  · cases h
noncomputable def LInt_Sub_iii (qed qc : Mo) (qb qa : Mo) (fuel : Nat) : Lam AV := []
noncomputable def GInt_Sub_iii (qed qc : Mo) (qb qa : Mo) : Gam := [(85,smM [RS.one LK.b,RS.one (LK.l (nat_lit 1))] qed),(84,smX RInt_give_i XInt_give_i qc),(84,smX RInt_give_ra XInt_give_ra qb),(84,smX RInt_give_rb XInt_give_rb qa)]
noncomputable def gInt_Sub_iii (qed qc : Mo) (qb qa : Mo) (fuel : Nat) (q4 : Bool) (qm qu : Nat) (qq : Ge) (zy : Bool) (wz w5 : Nat) (w6 : Ge) (v4 : Bool) (z4 vd : Nat) (ve : Ge) : Option AV :=
  let r0 : Option AV := qed [AV.bool zy,AV.ro 1 wz w5 w6,AV.bool !v4,AV.ro 1 z4 vd ve]; ck (okM [RS.one LK.b,RS.one (LK.l 1)] r0) <| let r1 : Option AV := qc [AV.ptr (xidx 0 (xtoks [AV.ptr 0 0,AV.bool (toB ((toT (getV r0)).headD .dead)),AV.ro 1 (toN ((toT (getV r0)).tail.headD .dead)) (toR ((toT (getV r0)).tail.headD .dead)) (toG ((toT (getV r0)).tail.headD .dead))] [])) 0,AV.bool (toB ((toT (getV r0)).headD .dead)),AV.ro 1 (toN ((toT (getV r0)).tail.headD .dead)) (toR ((toT (getV r0)).tail.headD .dead)) (toG ((toT (getV r0)).tail.headD .dead)),AV.bool q4,AV.ro 1 qm qu qq]; ck (okX [RS.one LK.b,RS.one (LK.l 1)] r1) <| some (AV.tup [AV.bool (toB ((toT (getV r1)).headD .dead)),AV.ro 1 (toN ((toT (getV r1)).tail.headD .dead)) (toR ((toT (getV r1)).tail.headD .dead)) (toG ((toT (getV r1)).tail.headD .dead)),AV.bool zy,AV.ro 1 wz w5 w6,AV.bool v4,AV.ro 1 z4 vd ve])
theorem gInt_Sub_iii_run (qed qc : Mo) (qb qa : Mo) (fuel : Nat) (q4 : Bool) (qm qu : Nat) (qq : Ge) (zy : Bool) (wz w5 : Nat) (w6 : Ge) (v4 : Bool) (z4 vd : Nat) (ve : Ge) : runX Pr (GInt_Sub_iii qed qc qb qa) [((6,78),LInt_Sub_iii qed qc qb qa fuel)] fuel 7 78 XInt_Sub_iii [AV.ptr 0 0,AV.ptr 1 0,AV.ptr 2 0] [Blk.box [AV.bool q4,AV.ro 1 qm qu qq],Blk.box [AV.bool zy,AV.ro 1 wz w5 w6],Blk.box [AV.bool v4,AV.ro 1 z4 vd ve]] = gInt_Sub_iii qed qc qb qa fuel q4 qm qu qq zy wz w5 w6 v4 z4 vd ve := by kernel_rfl
noncomputable def mInt_Sub_iii (qed qc : Mo) (qb qa : Mo) (fuel : Nat) (xs : List AV) : Option AV := match xs with
  | [AV.ptr 0 0,AV.ptr 1 0,AV.ptr 2 0,AV.bool q4,AV.ro 1 qm qu qq,AV.bool zy,AV.ro 1 wz w5 w6,AV.bool v4,AV.ro 1 z4 vd ve] => gInt_Sub_iii qed qc qb qa fuel q4 qm qu qq zy wz w5 w6 v4 z4 vd ve
  | _ => none
theorem gInt_Sub_iii_sm (qed qc : Mo) (qb qa : Mo) (fuel : Nat) (hΓ : GamOk Pr (GInt_Sub_iii qed qc qb qa)) (hP : NamesOk Pr) : XOk Pr 78 (smX RInt_Sub_iii XInt_Sub_iii (mInt_Sub_iii qed qc qb qa fuel)) XInt_Sub_iii := by
  refine smX_ok (fuel := fuel) hΓ hP (LamOk.of 6 78 (LInt_Sub_iii qed qc qb qa fuel) 0 (by kernel_rfl) (fun i hi => ?_)) 7 78 RInt_Sub_iii XInt_Sub_iii _ (fun xs0 ys0 v ha hb h => ?_)
  · match i,hi with
    | i + 0,hi => exact absurd hi (by omega)
  · skip
    have ha0 : xs0.length = 3 := ha
    clear ha
    obtain ⟨a0,xs1,rfl,ha1⟩ := len_cons ha0
    clear ha0
    obtain ⟨a1,xs2,rfl,ha2⟩ := len_cons ha1
    clear ha1
    obtain ⟨a2,xs3,rfl,ha3⟩ := len_cons ha2
    clear ha2
    obtain rfl := List.eq_nil_of_length_eq_zero ha3
    have hy0 : ys0.map List.length = [2,2,2] := hb
    clear hb
    obtain ⟨q4,ys1,rfl,hb0_0,hy1⟩ := map_cons' hy0
    clear hy0
    obtain ⟨c0_0,b0_1,rfl,hb0_1⟩ := len_cons hb0_0
    clear hb0_0
    obtain ⟨c0_1,z0,rfl,hb0_2⟩ := len_cons hb0_1
    clear hb0_1
    obtain rfl := List.eq_nil_of_length_eq_zero hb0_2
    obtain ⟨zy,ys2,rfl,hb1_0,hy2⟩ := map_cons' hy1
    clear hy1
    obtain ⟨c1_0,b1_1,rfl,hb1_1⟩ := len_cons hb1_0
    clear hb1_0
    obtain ⟨c1_1,qac,rfl,hb1_2⟩ := len_cons hb1_1
    clear hb1_1
    obtain rfl := List.eq_nil_of_length_eq_zero hb1_2
    obtain ⟨v4,ys3,rfl,hb2_0,hy3⟩ := map_cons' hy2
    clear hy2
    obtain ⟨c2_0,b2_1,rfl,hb2_1⟩ := len_cons hb2_0
    clear hb2_0
    obtain ⟨c2_1,qdl,rfl,hb2_2⟩ := len_cons hb2_1
    clear hb2_1
    obtain rfl := List.eq_nil_of_length_eq_zero hb2_2
    obtain rfl := map_nil' hy3
    have h : mInt_Sub_iii qed qc qb qa fuel [a0,a1,a2,c0_0,c0_1,c1_0,c1_1,c2_0,c2_1] = some v := h
    generalize hx0 : [a0,a1,a2,c0_0,c0_1,c1_0,c1_1,c2_0,c2_1] = zs at h
    unfold mInt_Sub_iii at h
    split at h
    · skip
      obtain ⟨rfl,hx1⟩ := List.cons.inj hx0
      obtain ⟨rfl,hx2⟩ := List.cons.inj hx1
      obtain ⟨rfl,hx3⟩ := List.cons.inj hx2
      obtain ⟨rfl,hx4⟩ := List.cons.inj hx3
      obtain ⟨rfl,hx5⟩ := List.cons.inj hx4
      obtain ⟨rfl,hx6⟩ := List.cons.inj hx5
      obtain ⟨rfl,hx7⟩ := List.cons.inj hx6
      obtain ⟨rfl,hx8⟩ := List.cons.inj hx7
      obtain ⟨rfl,hx9⟩ := List.cons.inj hx8
      simp only [List.map_cons,List.map_nil]
      exact (gInt_Sub_iii_run qed qc qb qa fuel _ _ _ _ _ _ _ _ _ _ _ _).trans h
    · cases h
noncomputable def LInt_Neg_ra (qz qc : Mo) (qb qa : Mo) (fuel : Nat) : Lam AV := []
noncomputable def GInt_Neg_ra (qz qc : Mo) (qb qa : Mo) : Gam := [(87,smM [RS.one (LK.l (nat_lit 1))] qz),(84,smX RInt_give_i XInt_give_i qc),(84,smX RInt_give_ra XInt_give_ra qb),(84,smX RInt_give_rb XInt_give_rb qa)]
noncomputable def gInt_Neg_ra (qz qc : Mo) (qb qa : Mo) (fuel : Nat) (q4 : Bool) (qm qu : Nat) (qq : Ge) (z0 : Bool) (zd zl : Nat) (zj : Ge) : Option AV :=
  let r0 : Option AV := qz [AV.ro 1 qm qu qq]; ck (okM [RS.one (LK.l 1)] r0) <| let r1 : Option AV := qb [AV.ptr (xidx 0 (xtoks [AV.ptr 0 0,AV.bool !q4,AV.ro 1 (toN (getV r0)) (toR (getV r0)) (toG (getV r0))] [])) 0,AV.bool !q4,AV.ro 1 (toN (getV r0)) (toR (getV r0)) (toG (getV r0)),AV.bool q4,AV.ro 1 qm qu qq,AV.bool z0,AV.ro 1 zd zl zj]; ck (okX [RS.one LK.b,RS.one (LK.l 1),RS.one LK.b,RS.one (LK.l 1)] r1) <| some (AV.tup [AV.bool (toB ((toT (getV r1)).headD .dead)),AV.ro 1 (toN ((toT (getV r1)).tail.headD .dead)) (toR ((toT (getV r1)).tail.headD .dead)) (toG ((toT (getV r1)).tail.headD .dead)),AV.bool (toB ((toT (getV r1)).tail.tail.headD .dead)),AV.ro 1 (toN ((toT (getV r1)).tail.tail.tail.headD .dead)) (toR ((toT (getV r1)).tail.tail.tail.headD .dead)) (toG ((toT (getV r1)).tail.tail.tail.headD .dead))])
theorem gInt_Neg_ra_run (qz qc : Mo) (qb qa : Mo) (fuel : Nat) (q4 : Bool) (qm qu : Nat) (qq : Ge) (z0 : Bool) (zd zl : Nat) (zj : Ge) : runX Pr (GInt_Neg_ra qz qc qb qa) [((6,58),LInt_Neg_ra qz qc qb qa fuel)] fuel 7 58 XInt_Neg_ra [AV.ptr 0 0,AV.ptr 0 0] [Blk.box [AV.bool q4,AV.ro 1 qm qu qq,AV.bool z0,AV.ro 1 zd zl zj]] = gInt_Neg_ra qz qc qb qa fuel q4 qm qu qq z0 zd zl zj := by kernel_rfl
noncomputable def mInt_Neg_ra (qz qc : Mo) (qb qa : Mo) (fuel : Nat) (xs : List AV) : Option AV := match xs with
  | [AV.ptr 0 0,AV.ptr 0 0,AV.bool q4,AV.ro 1 qm qu qq,AV.bool z0,AV.ro 1 zd zl zj] => gInt_Neg_ra qz qc qb qa fuel q4 qm qu qq z0 zd zl zj
  | _ => none
theorem gInt_Neg_ra_sm (qz qc : Mo) (qb qa : Mo) (fuel : Nat) (hΓ : GamOk Pr (GInt_Neg_ra qz qc qb qa)) (hP : NamesOk Pr) : XOk Pr 58 (smX RInt_Neg_ra XInt_Neg_ra (mInt_Neg_ra qz qc qb qa fuel)) XInt_Neg_ra := by
  refine smX_ok (fuel := fuel) hΓ hP (LamOk.of 6 58 (LInt_Neg_ra qz qc qb qa fuel) 0 (by kernel_rfl) (fun i hi => ?_)) 7 58 RInt_Neg_ra XInt_Neg_ra _ (fun xs0 ys0 v ha hb h => ?_)
  · match i,hi with
    | i + 0,hi => exact absurd hi (by omega)
  · skip
    have ha0 : xs0.length = 2 := ha
    clear ha
    obtain ⟨a0,xs1,rfl,ha1⟩ := len_cons ha0
    clear ha0
    obtain ⟨a1,xs2,rfl,ha2⟩ := len_cons ha1
    clear ha1
    obtain rfl := List.eq_nil_of_length_eq_zero ha2
    have hy0 : ys0.map List.length = [4] := hb
    clear hb
    obtain ⟨q4,ys1,rfl,hb0_0,hy1⟩ := map_cons' hy0
    clear hy0
    obtain ⟨c0_0,b0_1,rfl,hb0_1⟩ := len_cons hb0_0
    clear hb0_0
    obtain ⟨c0_1,z0,rfl,hb0_2⟩ := len_cons hb0_1
    clear hb0_1
    obtain ⟨c0_2,b0_3,rfl,hb0_3⟩ := len_cons hb0_2
    clear hb0_2
    obtain ⟨c0_3,b0_4,rfl,hb0_4⟩ := len_cons hb0_3
    clear hb0_3
    obtain rfl := List.eq_nil_of_length_eq_zero hb0_4
    obtain rfl := map_nil' hy1
    have h : mInt_Neg_ra qz qc qb qa fuel [a0,a1,c0_0,c0_1,c0_2,c0_3] = some v := h
    generalize hx0 : [a0,a1,c0_0,c0_1,c0_2,c0_3] = zs at h
    unfold mInt_Neg_ra at h
    split at h
    · skip
      obtain ⟨rfl,hx1⟩ := List.cons.inj hx0
      obtain ⟨rfl,hx2⟩ := List.cons.inj hx1
      obtain ⟨rfl,hx3⟩ := List.cons.inj hx2
      obtain ⟨rfl,hx4⟩ := List.cons.inj hx3
      obtain ⟨rfl,hx5⟩ := List.cons.inj hx4
      obtain ⟨rfl,hx6⟩ := List.cons.inj hx5
      simp only [List.map_cons,List.map_nil]
      exact (gInt_Neg_ra_run qz qc qb qa fuel _ _ _ _ _ _ _ _).trans h
    · cases h
noncomputable def LInt_Neg_rb (qz qc : Mo) (qb qa : Mo) (fuel : Nat) : Lam AV := []
noncomputable def GInt_Neg_rb (qz qc : Mo) (qb qa : Mo) : Gam := [(87,smM [RS.one (LK.l (nat_lit 1))] qz),(84,smX RInt_give_i XInt_give_i qc),(84,smX RInt_give_ra XInt_give_ra qb),(84,smX RInt_give_rb XInt_give_rb qa)]
noncomputable def gInt_Neg_rb (qz qc : Mo) (qb qa : Mo) (fuel : Nat) (q4 : Bool) (qm qu : Nat) (qq : Ge) (z0 : Bool) (zd zl : Nat) (zj : Ge) : Option AV :=
  let r0 : Option AV := qz [AV.ro 1 zd zl zj]; ck (okM [RS.one (LK.l 1)] r0) <| let r1 : Option AV := qa [AV.ptr (xidx 0 (xtoks [AV.ptr 0 2,AV.bool !z0,AV.ro 1 (toN (getV r0)) (toR (getV r0)) (toG (getV r0))] [])) 2,AV.bool !z0,AV.ro 1 (toN (getV r0)) (toR (getV r0)) (toG (getV r0)),AV.bool q4,AV.ro 1 qm qu qq,AV.bool z0,AV.ro 1 zd zl zj]; ck (okX [RS.one LK.b,RS.one (LK.l 1),RS.one LK.b,RS.one (LK.l 1)] r1) <| some (AV.tup [AV.bool (toB ((toT (getV r1)).headD .dead)),AV.ro 1 (toN ((toT (getV r1)).tail.headD .dead)) (toR ((toT (getV r1)).tail.headD .dead)) (toG ((toT (getV r1)).tail.headD .dead)),AV.bool (toB ((toT (getV r1)).tail.tail.headD .dead)),AV.ro 1 (toN ((toT (getV r1)).tail.tail.tail.headD .dead)) (toR ((toT (getV r1)).tail.tail.tail.headD .dead)) (toG ((toT (getV r1)).tail.tail.tail.headD .dead))])
theorem gInt_Neg_rb_run (qz qc : Mo) (qb qa : Mo) (fuel : Nat) (q4 : Bool) (qm qu : Nat) (qq : Ge) (z0 : Bool) (zd zl : Nat) (zj : Ge) : runX Pr (GInt_Neg_rb qz qc qb qa) [((6,58),LInt_Neg_rb qz qc qb qa fuel)] fuel 7 58 XInt_Neg_rb [AV.ptr 0 2,AV.ptr 0 2] [Blk.box [AV.bool q4,AV.ro 1 qm qu qq,AV.bool z0,AV.ro 1 zd zl zj]] = gInt_Neg_rb qz qc qb qa fuel q4 qm qu qq z0 zd zl zj := by kernel_rfl
noncomputable def mInt_Neg_rb (qz qc : Mo) (qb qa : Mo) (fuel : Nat) (xs : List AV) : Option AV := match xs with
  | [AV.ptr 0 2,AV.ptr 0 2,AV.bool q4,AV.ro 1 qm qu qq,AV.bool z0,AV.ro 1 zd zl zj] => gInt_Neg_rb qz qc qb qa fuel q4 qm qu qq z0 zd zl zj
  | _ => none
theorem gInt_Neg_rb_sm (qz qc : Mo) (qb qa : Mo) (fuel : Nat) (hΓ : GamOk Pr (GInt_Neg_rb qz qc qb qa)) (hP : NamesOk Pr) : XOk Pr 58 (smX RInt_Neg_rb XInt_Neg_rb (mInt_Neg_rb qz qc qb qa fuel)) XInt_Neg_rb := by
  refine smX_ok (fuel := fuel) hΓ hP (LamOk.of 6 58 (LInt_Neg_rb qz qc qb qa fuel) 0 (by kernel_rfl) (fun i hi => ?_)) 7 58 RInt_Neg_rb XInt_Neg_rb _ (fun xs0 ys0 v ha hb h => ?_)
  · match i,hi with
    | i + 0,hi => exact absurd hi (by omega)
  · skip
    have ha0 : xs0.length = 2 := ha
    clear ha
    obtain ⟨a0,xs1,rfl,ha1⟩ := len_cons ha0
    clear ha0
    obtain ⟨a1,xs2,rfl,ha2⟩ := len_cons ha1
    clear ha1
    obtain rfl := List.eq_nil_of_length_eq_zero ha2
    have hy0 : ys0.map List.length = [4] := hb
    clear hb
    obtain ⟨q4,ys1,rfl,hb0_0,hy1⟩ := map_cons' hy0
    clear hy0
    obtain ⟨c0_0,b0_1,rfl,hb0_1⟩ := len_cons hb0_0
    clear hb0_0
    obtain ⟨c0_1,z0,rfl,hb0_2⟩ := len_cons hb0_1
    clear hb0_1
    obtain ⟨c0_2,b0_3,rfl,hb0_3⟩ := len_cons hb0_2
    clear hb0_2
    obtain ⟨c0_3,b0_4,rfl,hb0_4⟩ := len_cons hb0_3
    clear hb0_3
    obtain rfl := List.eq_nil_of_length_eq_zero hb0_4
    obtain rfl := map_nil' hy1
    have h : mInt_Neg_rb qz qc qb qa fuel [a0,a1,c0_0,c0_1,c0_2,c0_3] = some v := h
    generalize hx0 : [a0,a1,c0_0,c0_1,c0_2,c0_3] = zs at h
    unfold mInt_Neg_rb at h
    split at h
    · skip
      obtain ⟨rfl,hx1⟩ := List.cons.inj hx0
      obtain ⟨rfl,hx2⟩ := List.cons.inj hx1
      obtain ⟨rfl,hx3⟩ := List.cons.inj hx2
      obtain ⟨rfl,hx4⟩ := List.cons.inj hx3
      obtain ⟨rfl,hx5⟩ := List.cons.inj hx4
      obtain ⟨rfl,hx6⟩ := List.cons.inj hx5
      simp only [List.map_cons,List.map_nil]
      exact (gInt_Neg_rb_run qz qc qb qa fuel _ _ _ _ _ _ _ _).trans h
    · cases h
noncomputable def LInt_Neg_ii (qz qc : Mo) (qb qa : Mo) (fuel : Nat) : Lam AV := []
noncomputable def GInt_Neg_ii (qz qc : Mo) (qb qa : Mo) : Gam := [(87,smM [RS.one (LK.l (nat_lit 1))] qz),(84,smX RInt_give_i XInt_give_i qc),(84,smX RInt_give_ra XInt_give_ra qb),(84,smX RInt_give_rb XInt_give_rb qa)]
noncomputable def gInt_Neg_ii (qz qc : Mo) (qb qa : Mo) (fuel : Nat) (q4 : Bool) (qm qu : Nat) (qq : Ge) : Option AV :=
  let r0 : Option AV := qz [AV.ro 1 qm qu qq]; ck (okM [RS.one (LK.l 1)] r0) <| let r1 : Option AV := qc [AV.ptr (xidx 0 (xtoks [AV.ptr 0 0,AV.bool !q4,AV.ro 1 (toN (getV r0)) (toR (getV r0)) (toG (getV r0))] [])) 0,AV.bool !q4,AV.ro 1 (toN (getV r0)) (toR (getV r0)) (toG (getV r0)),AV.bool q4,AV.ro 1 qm qu qq]; ck (okX [RS.one LK.b,RS.one (LK.l 1)] r1) <| some (AV.tup [AV.bool (toB ((toT (getV r1)).headD .dead)),AV.ro 1 (toN ((toT (getV r1)).tail.headD .dead)) (toR ((toT (getV r1)).tail.headD .dead)) (toG ((toT (getV r1)).tail.headD .dead))])
theorem gInt_Neg_ii_run (qz qc : Mo) (qb qa : Mo) (fuel : Nat) (q4 : Bool) (qm qu : Nat) (qq : Ge) : runX Pr (GInt_Neg_ii qz qc qb qa) [((6,58),LInt_Neg_ii qz qc qb qa fuel)] fuel 7 58 XInt_Neg_ii [AV.ptr 0 0,AV.ptr 0 0] [Blk.box [AV.bool q4,AV.ro 1 qm qu qq]] = gInt_Neg_ii qz qc qb qa fuel q4 qm qu qq := by kernel_rfl
noncomputable def mInt_Neg_ii (qz qc : Mo) (qb qa : Mo) (fuel : Nat) (xs : List AV) : Option AV := match xs with
  | [AV.ptr 0 0,AV.ptr 0 0,AV.bool q4,AV.ro 1 qm qu qq] => gInt_Neg_ii qz qc qb qa fuel q4 qm qu qq
  | _ => none
theorem gInt_Neg_ii_sm (qz qc : Mo) (qb qa : Mo) (fuel : Nat) (hΓ : GamOk Pr (GInt_Neg_ii qz qc qb qa)) (hP : NamesOk Pr) : XOk Pr 58 (smX RInt_Neg_ii XInt_Neg_ii (mInt_Neg_ii qz qc qb qa fuel)) XInt_Neg_ii := by
  refine smX_ok (fuel := fuel) hΓ hP (LamOk.of 6 58 (LInt_Neg_ii qz qc qb qa fuel) 0 (by kernel_rfl) (fun i hi => ?_)) 7 58 RInt_Neg_ii XInt_Neg_ii _ (fun xs0 ys0 v ha hb h => ?_)
  · match i,hi with
    | i + 0,hi => exact absurd hi (by omega)
  · skip
    have ha0 : xs0.length = 2 := ha
    clear ha
    obtain ⟨a0,xs1,rfl,ha1⟩ := len_cons ha0
    clear ha0
    obtain ⟨a1,xs2,rfl,ha2⟩ := len_cons ha1
    clear ha1
    obtain rfl := List.eq_nil_of_length_eq_zero ha2
    have hy0 : ys0.map List.length = [2] := hb
    clear hb
    obtain ⟨q4,ys1,rfl,hb0_0,hy1⟩ := map_cons' hy0
    clear hy0
    obtain ⟨c0_0,b0_1,rfl,hb0_1⟩ := len_cons hb0_0
    clear hb0_0
    obtain ⟨c0_1,z0,rfl,hb0_2⟩ := len_cons hb0_1
    clear hb0_1
    obtain rfl := List.eq_nil_of_length_eq_zero hb0_2
    obtain rfl := map_nil' hy1
    have h : mInt_Neg_ii qz qc qb qa fuel [a0,a1,c0_0,c0_1] = some v := h
    generalize hx0 : [a0,a1,c0_0,c0_1] = zs at h
    unfold mInt_Neg_ii at h
    split at h
    · skip
      obtain ⟨rfl,hx1⟩ := List.cons.inj hx0
      obtain ⟨rfl,hx2⟩ := List.cons.inj hx1
      obtain ⟨rfl,hx3⟩ := List.cons.inj hx2
      obtain ⟨rfl,hx4⟩ := List.cons.inj hx3
      simp only [List.map_cons,List.map_nil]
      exact (gInt_Neg_ii_run qz qc qb qa fuel _ _ _ _).trans h
    · cases h
noncomputable def LInt_Set_ii (qz qc : Mo) (qb qa : Mo) (fuel : Nat) : Lam AV := []
noncomputable def GInt_Set_ii (qz qc : Mo) (qb qa : Mo) : Gam := [(87,smM [RS.one (LK.l (nat_lit 1))] qz),(84,smX RInt_give_i XInt_give_i qc),(84,smX RInt_give_ra XInt_give_ra qb),(84,smX RInt_give_rb XInt_give_rb qa)]
noncomputable def gInt_Set_ii (qz qc : Mo) (qb qa : Mo) (fuel : Nat) (q4 : Bool) (qm qu : Nat) (qq : Ge) (zy : Bool) (wz w5 : Nat) (w6 : Ge) : Option AV :=
  let r0 : Option AV := qz [AV.ro 1 wz w5 w6]; ck (okM [RS.one (LK.l 1)] r0) <| let r1 : Option AV := qc [AV.ptr (xidx 0 (xtoks [AV.ptr 0 0,AV.bool zy,AV.ro 1 (toN (getV r0)) (toR (getV r0)) (toG (getV r0))] [])) 0,AV.bool zy,AV.ro 1 (toN (getV r0)) (toR (getV r0)) (toG (getV r0)),AV.bool q4,AV.ro 1 qm qu qq]; ck (okX [RS.one LK.b,RS.one (LK.l 1)] r1) <| some (AV.tup [AV.bool (toB ((toT (getV r1)).headD .dead)),AV.ro 1 (toN ((toT (getV r1)).tail.headD .dead)) (toR ((toT (getV r1)).tail.headD .dead)) (toG ((toT (getV r1)).tail.headD .dead)),AV.bool zy,AV.ro 1 wz w5 w6])
theorem gInt_Set_ii_run (qz qc : Mo) (qb qa : Mo) (fuel : Nat) (q4 : Bool) (qm qu : Nat) (qq : Ge) (zy : Bool) (wz w5 : Nat) (w6 : Ge) : runX Pr (GInt_Set_ii qz qc qb qa) [((6,80),LInt_Set_ii qz qc qb qa fuel)] fuel 7 80 XInt_Set_ii [AV.ptr 0 0,AV.ptr 1 0] [Blk.box [AV.bool q4,AV.ro 1 qm qu qq],Blk.box [AV.bool zy,AV.ro 1 wz w5 w6]] = gInt_Set_ii qz qc qb qa fuel q4 qm qu qq zy wz w5 w6 := by kernel_rfl
noncomputable def mInt_Set_ii (qz qc : Mo) (qb qa : Mo) (fuel : Nat) (xs : List AV) : Option AV := match xs with
  | [AV.ptr 0 0,AV.ptr 1 0,AV.bool q4,AV.ro 1 qm qu qq,AV.bool zy,AV.ro 1 wz w5 w6] => gInt_Set_ii qz qc qb qa fuel q4 qm qu qq zy wz w5 w6
  | _ => none
theorem gInt_Set_ii_sm (qz qc : Mo) (qb qa : Mo) (fuel : Nat) (hΓ : GamOk Pr (GInt_Set_ii qz qc qb qa)) (hP : NamesOk Pr) : XOk Pr 80 (smX RInt_Set_ii XInt_Set_ii (mInt_Set_ii qz qc qb qa fuel)) XInt_Set_ii := by
  refine smX_ok (fuel := fuel) hΓ hP (LamOk.of 6 80 (LInt_Set_ii qz qc qb qa fuel) 0 (by kernel_rfl) (fun i hi => ?_)) 7 80 RInt_Set_ii XInt_Set_ii _ (fun xs0 ys0 v ha hb h => ?_)
  · match i,hi with
    | i + 0,hi => exact absurd hi (by omega)
  · skip
    have ha0 : xs0.length = 2 := ha
    clear ha
    obtain ⟨a0,xs1,rfl,ha1⟩ := len_cons ha0
    clear ha0
    obtain ⟨a1,xs2,rfl,ha2⟩ := len_cons ha1
    clear ha1
    obtain rfl := List.eq_nil_of_length_eq_zero ha2
    have hy0 : ys0.map List.length = [2,2] := hb
    clear hb
    obtain ⟨q4,ys1,rfl,hb0_0,hy1⟩ := map_cons' hy0
    clear hy0
    obtain ⟨c0_0,b0_1,rfl,hb0_1⟩ := len_cons hb0_0
    clear hb0_0
    obtain ⟨c0_1,z0,rfl,hb0_2⟩ := len_cons hb0_1
    clear hb0_1
    obtain rfl := List.eq_nil_of_length_eq_zero hb0_2
    obtain ⟨zy,ys2,rfl,hb1_0,hy2⟩ := map_cons' hy1
    clear hy1
    obtain ⟨c1_0,b1_1,rfl,hb1_1⟩ := len_cons hb1_0
    clear hb1_0
    obtain ⟨c1_1,qac,rfl,hb1_2⟩ := len_cons hb1_1
    clear hb1_1
    obtain rfl := List.eq_nil_of_length_eq_zero hb1_2
    obtain rfl := map_nil' hy2
    have h : mInt_Set_ii qz qc qb qa fuel [a0,a1,c0_0,c0_1,c1_0,c1_1] = some v := h
    generalize hx0 : [a0,a1,c0_0,c0_1,c1_0,c1_1] = zs at h
    unfold mInt_Set_ii at h
    split at h
    · skip
      obtain ⟨rfl,hx1⟩ := List.cons.inj hx0
      obtain ⟨rfl,hx2⟩ := List.cons.inj hx1
      obtain ⟨rfl,hx3⟩ := List.cons.inj hx2
      obtain ⟨rfl,hx4⟩ := List.cons.inj hx3
      obtain ⟨rfl,hx5⟩ := List.cons.inj hx4
      obtain ⟨rfl,hx6⟩ := List.cons.inj hx5
      simp only [List.map_cons,List.map_nil]
      exact (gInt_Set_ii_run qz qc qb qa fuel _ _ _ _ _ _ _ _).trans h
    · cases h
noncomputable def LInt_Set_ir (qz qc : Mo) (qb qa : Mo) (fuel : Nat) : Lam AV := []
noncomputable def GInt_Set_ir (qz qc : Mo) (qb qa : Mo) : Gam := [(87,smM [RS.one (LK.l (nat_lit 1))] qz),(84,smX RInt_give_i XInt_give_i qc),(84,smX RInt_give_ra XInt_give_ra qb),(84,smX RInt_give_rb XInt_give_rb qa)]
noncomputable def gInt_Set_ir (qz qc : Mo) (qb qa : Mo) (fuel : Nat) (q4 : Bool) (qm qu : Nat) (qq : Ge) (zy : Bool) (wz w5 : Nat) (w6 : Ge) (qac : Bool) (p0 py : Nat) (pz : Ge) : Option AV :=
  let r0 : Option AV := qz [AV.ro 1 p0 py pz]; ck (okM [RS.one (LK.l 1)] r0) <| let r1 : Option AV := qc [AV.ptr (xidx 0 (xtoks [AV.ptr 0 0,AV.bool qac,AV.ro 1 (toN (getV r0)) (toR (getV r0)) (toG (getV r0))] [])) 0,AV.bool qac,AV.ro 1 (toN (getV r0)) (toR (getV r0)) (toG (getV r0)),AV.bool q4,AV.ro 1 qm qu qq]; ck (okX [RS.one LK.b,RS.one (LK.l 1)] r1) <| some (AV.tup [AV.bool (toB ((toT (getV r1)).headD .dead)),AV.ro 1 (toN ((toT (getV r1)).tail.headD .dead)) (toR ((toT (getV r1)).tail.headD .dead)) (toG ((toT (getV r1)).tail.headD .dead)),AV.bool zy,AV.ro 1 wz w5 w6,AV.bool qac,AV.ro 1 p0 py pz])
theorem gInt_Set_ir_run (qz qc : Mo) (qb qa : Mo) (fuel : Nat) (q4 : Bool) (qm qu : Nat) (qq : Ge) (zy : Bool) (wz w5 : Nat) (w6 : Ge) (qac : Bool) (p0 py : Nat) (pz : Ge) : runX Pr (GInt_Set_ir qz qc qb qa) [((6,80),LInt_Set_ir qz qc qb qa fuel)] fuel 7 80 XInt_Set_ir [AV.ptr 0 0,AV.ptr 1 2] [Blk.box [AV.bool q4,AV.ro 1 qm qu qq],Blk.box [AV.bool zy,AV.ro 1 wz w5 w6,AV.bool qac,AV.ro 1 p0 py pz]] = gInt_Set_ir qz qc qb qa fuel q4 qm qu qq zy wz w5 w6 qac p0 py pz := by kernel_rfl
noncomputable def mInt_Set_ir (qz qc : Mo) (qb qa : Mo) (fuel : Nat) (xs : List AV) : Option AV := match xs with
  | [AV.ptr 0 0,AV.ptr 1 2,AV.bool q4,AV.ro 1 qm qu qq,AV.bool zy,AV.ro 1 wz w5 w6,AV.bool qac,AV.ro 1 p0 py pz] => gInt_Set_ir qz qc qb qa fuel q4 qm qu qq zy wz w5 w6 qac p0 py pz
  | _ => none
theorem gInt_Set_ir_sm (qz qc : Mo) (qb qa : Mo) (fuel : Nat) (hΓ : GamOk Pr (GInt_Set_ir qz qc qb qa)) (hP : NamesOk Pr) : XOk Pr 80 (smX RInt_Set_ir XInt_Set_ir (mInt_Set_ir qz qc qb qa fuel)) XInt_Set_ir := by
  refine smX_ok (fuel := fuel) hΓ hP (LamOk.of 6 80 (LInt_Set_ir qz qc qb qa fuel) 0 (by kernel_rfl) (fun i hi => ?_)) 7 80 RInt_Set_ir XInt_Set_ir _ (fun xs0 ys0 v ha hb h => ?_)
  · match i,hi with
    | i + 0,hi => exact absurd hi (by omega)
  · skip
    have ha0 : xs0.length = 2 := ha
    clear ha
    obtain ⟨a0,xs1,rfl,ha1⟩ := len_cons ha0
    clear ha0
    obtain ⟨a1,xs2,rfl,ha2⟩ := len_cons ha1
    clear ha1
    obtain rfl := List.eq_nil_of_length_eq_zero ha2
    have hy0 : ys0.map List.length = [2,4] := hb
    clear hb
    obtain ⟨q4,ys1,rfl,hb0_0,hy1⟩ := map_cons' hy0
    clear hy0
    obtain ⟨c0_0,b0_1,rfl,hb0_1⟩ := len_cons hb0_0
    clear hb0_0
    obtain ⟨c0_1,z0,rfl,hb0_2⟩ := len_cons hb0_1
    clear hb0_1
    obtain rfl := List.eq_nil_of_length_eq_zero hb0_2
    obtain ⟨zy,ys2,rfl,hb1_0,hy2⟩ := map_cons' hy1
    clear hy1
    obtain ⟨c1_0,b1_1,rfl,hb1_1⟩ := len_cons hb1_0
    clear hb1_0
    obtain ⟨c1_1,qac,rfl,hb1_2⟩ := len_cons hb1_1
    clear hb1_1
    obtain ⟨c1_2,b1_3,rfl,hb1_3⟩ := len_cons hb1_2
    clear hb1_2
    obtain ⟨c1_3,b1_4,rfl,hb1_4⟩ := len_cons hb1_3
    clear hb1_3
    obtain rfl := List.eq_nil_of_length_eq_zero hb1_4
    obtain rfl := map_nil' hy2
    have h : mInt_Set_ir qz qc qb qa fuel [a0,a1,c0_0,c0_1,c1_0,c1_1,c1_2,c1_3] = some v := h
    generalize hx0 : [a0,a1,c0_0,c0_1,c1_0,c1_1,c1_2,c1_3] = zs at h
    unfold mInt_Set_ir at h
    split at h
    · skip
      obtain ⟨rfl,hx1⟩ := List.cons.inj hx0
      obtain ⟨rfl,hx2⟩ := List.cons.inj hx1
      obtain ⟨rfl,hx3⟩ := List.cons.inj hx2
      obtain ⟨rfl,hx4⟩ := List.cons.inj hx3
      obtain ⟨rfl,hx5⟩ := List.cons.inj hx4
      obtain ⟨rfl,hx6⟩ := List.cons.inj hx5
      obtain ⟨rfl,hx7⟩ := List.cons.inj hx6
      obtain ⟨rfl,hx8⟩ := List.cons.inj hx7
      simp only [List.map_cons,List.map_nil]
      exact (gInt_Set_ir_run qz qc qb qa fuel _ _ _ _ _ _ _ _ _ _ _ _).trans h
    · cases h
noncomputable def LInt_IsUint64_i (qy : Mo) (fuel : Nat) : Lam AV := []
noncomputable def GInt_IsUint64_i (qy : Mo) : Gam := [(82,smM [RS.one (LK.i .i64)] qy)]
noncomputable def gInt_IsUint64_i (qy : Mo) (fuel : Nat) (q4 : Bool) (qm qu : Nat) (qq : Ge) : Option AV :=
  ck (bif !q4 then true else true) <| ck (bif !q4 then okM [RS.one (LK.i .i64)] (qy [AV.ro 1 qm qu qq]) else true) <| some (AV.tup [AV.bool q4,AV.ro 1 qm qu qq,AV.bool (bif !q4 then decide (toI (getV (qy [AV.ro 1 qm qu qq])) ≤ 64) else false)])
theorem gInt_IsUint64_i_run (qy : Mo) (fuel : Nat) (q4 : Bool) (qm qu : Nat) (qq : Ge) : runX Pr (GInt_IsUint64_i qy) [((6,50),LInt_IsUint64_i qy fuel)] fuel 7 50 XInt_IsUint64_i [AV.ptr 0 0] [Blk.box [AV.bool q4,AV.ro 1 qm qu qq]] = gInt_IsUint64_i qy fuel q4 qm qu qq := by kernel_rfl
noncomputable def mInt_IsUint64_i (qy : Mo) (fuel : Nat) (xs : List AV) : Option AV := match xs with
  | [AV.ptr 0 0,AV.bool q4,AV.ro 1 qm qu qq] => gInt_IsUint64_i qy fuel q4 qm qu qq
  | _ => none
theorem gInt_IsUint64_i_sm (qy : Mo) (fuel : Nat) (hΓ : GamOk Pr (GInt_IsUint64_i qy)) (hP : NamesOk Pr) : XOk Pr 50 (smX RInt_IsUint64_i XInt_IsUint64_i (mInt_IsUint64_i qy fuel)) XInt_IsUint64_i := by
  refine smX_ok (fuel := fuel) hΓ hP (LamOk.of 6 50 (LInt_IsUint64_i qy fuel) 0 (by kernel_rfl) (fun i hi => ?_)) 7 50 RInt_IsUint64_i XInt_IsUint64_i _ (fun xs0 ys0 v ha hb h => ?_)
  · match i,hi with
    | i + 0,hi => exact absurd hi (by omega)
  · skip
    have ha0 : xs0.length = 1 := ha
    clear ha
    obtain ⟨a0,xs1,rfl,ha1⟩ := len_cons ha0
    clear ha0
    obtain rfl := List.eq_nil_of_length_eq_zero ha1
    have hy0 : ys0.map List.length = [2] := hb
    clear hb
    obtain ⟨q4,ys1,rfl,hb0_0,hy1⟩ := map_cons' hy0
    clear hy0
    obtain ⟨c0_0,b0_1,rfl,hb0_1⟩ := len_cons hb0_0
    clear hb0_0
    obtain ⟨c0_1,z0,rfl,hb0_2⟩ := len_cons hb0_1
    clear hb0_1
    obtain rfl := List.eq_nil_of_length_eq_zero hb0_2
    obtain rfl := map_nil' hy1
    have h : mInt_IsUint64_i qy fuel [a0,c0_0,c0_1] = some v := h
    generalize hx0 : [a0,c0_0,c0_1] = zs at h
    unfold mInt_IsUint64_i at h
    split at h
    · skip
      obtain ⟨rfl,hx1⟩ := List.cons.inj hx0
      obtain ⟨rfl,hx2⟩ := List.cons.inj hx1
      obtain ⟨rfl,hx3⟩ := List.cons.inj hx2
      simp only [List.map_cons,List.map_nil]
      exact (gInt_IsUint64_i_run qy fuel _ _ _ _).trans h
    · cases h
noncomputable def LInt_Uint64_i (fuel : Nat) : Lam AV := []
noncomputable def GInt_Uint64_i : Gam := []
noncomputable def gInt_Uint64_i (fuel : Nat) (q4 : Bool) (qm qu : Nat) (qq : Ge) : Option AV :=
  bif decide ((↑qm : Int) > 0) then ck (decide (0 < (↑qm : Int))) <| ck (fitK (LK.i .u32) (qq 0 0)) <| bif decide ((↑qm : Int) > 1) then ck (decide (1 < (↑qm : Int))) <| ck (fitK (LK.i .u32) (qq 1 0)) <| some (AV.tup [AV.bool q4,AV.ro 1 qm qu qq,AV.int .u64 (IntKind.u64.wrap (↑(BitVec.ofInt 64 (IntKind.u64.wrap (toI (qq 0 0))) ||| BitVec.ofInt 64 (IntKind.u64.wrap (IntKind.u64.wrap (toI (qq 1 0)) * 2 ^ 32))).toNat : Int))])
    else some (AV.tup [AV.bool q4,AV.ro 1 qm qu qq,AV.int .u64 (IntKind.u64.wrap (toI (qq 0 0)))])
  else bif decide ((↑qm : Int) > 1) then ck (decide (1 < (↑qm : Int))) <| ck (fitK (LK.i .u32) (qq 1 0)) <| some (AV.tup [AV.bool q4,AV.ro 1 qm qu qq,AV.int .u64 (IntKind.u64.wrap (↑(BitVec.ofInt 64 0 ||| BitVec.ofInt 64 (IntKind.u64.wrap (IntKind.u64.wrap (toI (qq 1 0)) * 2 ^ 32))).toNat : Int))])
  else some (AV.tup [AV.bool q4,AV.ro 1 qm qu qq,AV.int .u64 0])
theorem gInt_Uint64_i_run (fuel : Nat) (q4 : Bool) (qm qu : Nat) (qq : Ge) : runX Pr GInt_Uint64_i [((6,51),LInt_Uint64_i fuel)] fuel 7 51 XInt_Uint64_i [AV.ptr 0 0] [Blk.box [AV.bool q4,AV.ro 1 qm qu qq]] = gInt_Uint64_i fuel q4 qm qu qq := by kernel_rfl
noncomputable def mInt_Uint64_i (fuel : Nat) (xs : List AV) : Option AV := match xs with
  | [AV.ptr 0 0,AV.bool q4,AV.ro 1 qm qu qq] => gInt_Uint64_i fuel q4 qm qu qq
  | _ => none
theorem gInt_Uint64_i_sm (fuel : Nat) (hΓ : GamOk Pr GInt_Uint64_i) (hP : NamesOk Pr) : XOk Pr 51 (smX RInt_Uint64_i XInt_Uint64_i (mInt_Uint64_i fuel)) XInt_Uint64_i := by
  refine smX_ok (fuel := fuel) hΓ hP (LamOk.of 6 51 (LInt_Uint64_i fuel) 0 (by kernel_rfl) (fun i hi => ?_)) 7 51 RInt_Uint64_i XInt_Uint64_i _ (fun xs0 ys0 v ha hb h => ?_)
  · match i,hi with
    | i + 0,hi => exact absurd hi (by omega)
  · skip
    have ha0 : xs0.length = 1 := ha
    clear ha
    obtain ⟨a0,xs1,rfl,ha1⟩ := len_cons ha0
    clear ha0
    obtain rfl := List.eq_nil_of_length_eq_zero ha1
    have hy0 : ys0.map List.length = [2] := hb
    clear hb
    obtain ⟨q4,ys1,rfl,hb0_0,hy1⟩ := map_cons' hy0
    clear hy0
    obtain ⟨c0_0,b0_1,rfl,hb0_1⟩ := len_cons hb0_0
    clear hb0_0
    obtain ⟨c0_1,z0,rfl,hb0_2⟩ := len_cons hb0_1
    clear hb0_1
    obtain rfl := List.eq_nil_of_length_eq_zero hb0_2
    obtain rfl := map_nil' hy1
    have h : mInt_Uint64_i fuel [a0,c0_0,c0_1] = some v := h
    generalize hx0 : [a0,c0_0,c0_1] = zs at h
    unfold mInt_Uint64_i at h
    split at h
    · skip
      obtain ⟨rfl,hx1⟩ := List.cons.inj hx0
      obtain ⟨rfl,hx2⟩ := List.cons.inj hx1
      obtain ⟨rfl,hx3⟩ := List.cons.inj hx2
      simp only [List.map_cons,List.map_nil]
      exact (gInt_Uint64_i_run fuel _ _ _ _).trans h
    · cases h
noncomputable def Scommon_0 (qn qv : Nat) (qk : Ge) (wj wl : Nat) (q9 : Ge) : St := { env := [(0,AV.ro 1 qn qv qk),(1,AV.ro 1 wj wl q9)],h := [],kd := [] }
noncomputable def Xcommon_0_0 (qcl qep : Nat) (qen : Ge) (qj6 qkf : Nat) (qkg : Ge) : St := { env := [(0,AV.ro 1 qcl qep qen),(1,AV.ro 1 qj6 qkf qkg)],h := [],kd := [] }
noncomputable def gcommon_l0_step (vz qx qh : Mo) (fuel : Nat) (kn : Nat → Nat → Ge → Nat → Nat → Ge → Option AV) (kx0 : Nat → Nat → Ge → Nat → Nat → Ge → Option AV) (qn qv : Nat) (qk : Ge) (wj wl : Nat) (q9 : Ge) : Option AV :=
  bif decide ((↑wj : Int) > 2) then let r0 : Option AV := vz [AV.ro 1 qn qv qk,AV.ro 1 wj wl q9]; ck (okM [RS.one (LK.l 1),RS.one (LK.l 1)] r0) <| kn wj wl q9 (toN ((toT (getV r0)).tail.headD .dead)) (toR ((toT (getV r0)).tail.headD .dead)) (toG ((toT (getV r0)).tail.headD .dead))
  else kx0 qn qv qk wj wl q9
noncomputable def gcommon_l0 (vz qx qh : Mo) (fuel : Nat) (kx0 : Nat → Nat → Ge → Nat → Nat → Ge → Option AV) : Nat → Nat → Nat → Ge → Nat → Nat → Ge → Option AV
  | 0,_,_,_,_,_,_ => none
  | n' + 1,qn,qv,qk,wj,wl,q9 => gcommon_l0_step vz qx qh fuel (gcommon_l0 vz qx qh fuel kx0 n') kx0 qn qv qk wj wl q9
noncomputable def Tcommon_0 : TS' := ⟨[(0,TA.ro 1),(1,TA.ro 1)],[],[]⟩
noncomputable def Fcommon_0 (vz qx qh : Mo) (fuel : Nat) (ps : List Pay) (K : Ex → St → Option AV) : Option AV := match ps with
  | .n qn :: .n qv :: .g qk :: .n wj :: .n wl :: .g q9 :: [] => gcommon_l0 vz qx qh fuel (fun qcl qep qen qj6 qkf qkg => K (Ex.exit 0) (Xcommon_0_0 qcl qep qen qj6 qkf qkg)) fuel qn qv qk wj wl q9
  | _ => none
noncomputable def Scommon_1 (ux9 qh4 : Int) : St := { env := [(9,AV.int .u64 ux9),(10,AV.int .u64 qh4)],h := [],kd := [] }
noncomputable def Xcommon_1_0 (qth : Int) : St := { env := [(9,AV.int .u64 qth)],h := [],kd := [] }
noncomputable def gcommon_l1_step (vz qx qh : Mo) (fuel : Nat) (kn : Int → Int → Option AV) (kx0 : Int → Option AV) (ux9 qh4 : Int) : Option AV :=
  bif decide (qh4 > 0) then ck (!decide (qh4 = 0)) <| kn qh4 (ux9.tmod qh4)
  else kx0 ux9
noncomputable def gcommon_l1 (vz qx qh : Mo) (fuel : Nat) (kx0 : Int → Option AV) : Nat → Int → Int → Option AV
  | 0,_,_ => none
  | n' + 1,ux9,qh4 => gcommon_l1_step vz qx qh fuel (gcommon_l1 vz qx qh fuel kx0 n') kx0 ux9 qh4
noncomputable def Tcommon_1 : TS' := ⟨[(9,TA.i .u64),(10,TA.i .u64)],[],[]⟩
noncomputable def Fcommon_1 (vz qx qh : Mo) (fuel : Nat) (ps : List Pay) (K : Ex → St → Option AV) : Option AV := match ps with
  | .i ux9 :: .i qh4 :: [] => gcommon_l1 vz qx qh fuel (fun qth => K (Ex.exit 2) (Xcommon_1_0 qth)) fuel ux9 qh4
  | _ => none
noncomputable def Lcommon (vz qx qh : Mo) (fuel : Nat) : Lam AV := [(4192355,lam Tcommon_0 (Fcommon_0 vz qx qh fuel)),(138538465101312,lam Tcommon_1 (Fcommon_1 vz qx qh fuel))]
noncomputable def Gcommon (vz qx qh : Mo) : Gam := [(115,smM [RS.one (LK.l (nat_lit 1)),RS.one (LK.l (nat_lit 1))] vz),(141,smM [RS.one (LK.i .u64)] qx),(114,smM [RS.one (LK.l (nat_lit 1))] qh)]
theorem gcommon_l0_eq (vz qx qh : Mo) (fuel : Nat) (kn : St → Option AV) (K : Ex → St → Option AV) (qft qfs : Nat) (qfp : Ge) (qfo qfn : Nat) (qfq : Ge) (qn qv : Nat) (qk : Ge) (wj wl : Nat) (q9 : Ge) :
    bX Pr (Gcommon vz qx qh) (Lcommon vz qx qh fuel) 6 118 0 fuel (Scommon_0 qn qv qk wj wl q9) (fun e s => match e with | .normal => kn (hX Pr 118 0 (Scommon_0 qft qfs qfp qfo qfn qfq) s) | e => K e s) =
    gcommon_l0_step vz qx qh fuel (fun qn qv qk wj wl q9 => kn (Scommon_0 qn qv qk wj wl q9)) (fun qas qa8 qbg qe5 qgu qgr => K (Ex.exit 0) (Xcommon_0_0 qas qa8 qbg qe5 qgu qgr)) qn qv qk wj wl q9 := by kernel_rfl
theorem gcommon_l0_ok (vz qx qh : Mo) (fuel : Nat) (K : Ex → St → Option AV) (qft qfs : Nat) (qfp : Ge) (qfo qfn : Nat) (qfq : Ge) : ∀ (n' qn qv : Nat) (qk : Ge) (wj wl : Nat) (q9 : Ge),
    loopK (bX Pr (Gcommon vz qx qh) (Lcommon vz qx qh fuel) 6 118 0 fuel) (hX Pr 118 0 (Scommon_0 qft qfs qfp qfo qfn qfq)) n' (Scommon_0 qn qv qk wj wl q9) K = gcommon_l0 vz qx qh fuel (fun qas qa8 qbg qe5 qgu qgr => K (Ex.exit 0) (Xcommon_0_0 qas qa8 qbg qe5 qgu qgr)) n' qn qv qk wj wl q9
  | 0,_,_,_,_,_,_ => rfl
  | n' + 1,qn,qv,qk,wj,wl,q9 => (gcommon_l0_eq vz qx qh fuel (fun s => loopK (bX Pr (Gcommon vz qx qh) (Lcommon vz qx qh fuel) 6 118 0 fuel) (hX Pr 118 0 (Scommon_0 qft qfs qfp qfo qfn qfq)) n' s K) K qft qfs qfp qfo qfn qfq qn qv qk wj wl q9).trans
    (congrArg (fun kn => gcommon_l0_step vz qx qh fuel kn _ qn qv qk wj wl q9) (funext fun qn => funext fun qv => funext fun qk => funext fun wj => funext fun wl => funext fun q9 => gcommon_l0_ok vz qx qh fuel K qft qfs qfp qfo qfn qfq n' qn qv qk wj wl q9))
theorem gcommon_L0 (vz qx qh : Mo) (fuel : Nat) : LX Pr (Gcommon vz qx qh) (Lcommon vz qx qh fuel) 6 118 0 fuel := by
  refine .of Tcommon_0 (Fcommon_0 vz qx qh fuel) (fun L h => ?_) (fun ps st K r he hr => ?_)
  · have e : (Lcommon vz qx qh fuel).get (writes (lp Pr 118 0).1) = some (lam Tcommon_0 (Fcommon_0 vz qx qh fuel)) := by kernel_rfl
    exact (Option.some.inj (e.symm.trans h)).symm
  · unfold Fcommon_0 at hr
    split at hr
    · obtain rfl := (Option.some.inj he).symm
      exact (gcommon_l0_ok vz qx qh fuel K _ _ _ _ _ _ fuel _ _ _ _ _ _).trans hr
    · cases hr
theorem gcommon_l1_eq (vz qx qh : Mo) (fuel : Nat) (kn : St → Option AV) (K : Ex → St → Option AV) (qt5 qpz : Int) (ux9 qh4 : Int) :
    bX Pr (Gcommon vz qx qh) (Lcommon vz qx qh fuel) 6 118 1 fuel (Scommon_1 ux9 qh4) (fun e s => match e with | .normal => kn (hX Pr 118 1 (Scommon_1 qt5 qpz) s) | e => K e s) =
    gcommon_l1_step vz qx qh fuel (fun ux9 qh4 => kn (Scommon_1 ux9 qh4)) (fun qsu => K (Ex.exit 2) (Xcommon_1_0 qsu)) ux9 qh4 := by kernel_rfl
theorem gcommon_l1_ok (vz qx qh : Mo) (fuel : Nat) (K : Ex → St → Option AV) (qt5 qpz : Int) : ∀ (n' : Nat) (ux9 qh4 : Int),
    loopK (bX Pr (Gcommon vz qx qh) (Lcommon vz qx qh fuel) 6 118 1 fuel) (hX Pr 118 1 (Scommon_1 qt5 qpz)) n' (Scommon_1 ux9 qh4) K = gcommon_l1 vz qx qh fuel (fun qsu => K (Ex.exit 2) (Xcommon_1_0 qsu)) n' ux9 qh4
  | 0,_,_ => rfl
  | n' + 1,ux9,qh4 => (gcommon_l1_eq vz qx qh fuel (fun s => loopK (bX Pr (Gcommon vz qx qh) (Lcommon vz qx qh fuel) 6 118 1 fuel) (hX Pr 118 1 (Scommon_1 qt5 qpz)) n' s K) K qt5 qpz ux9 qh4).trans
    (congrArg (fun kn => gcommon_l1_step vz qx qh fuel kn _ ux9 qh4) (funext fun ux9 => funext fun qh4 => gcommon_l1_ok vz qx qh fuel K qt5 qpz n' ux9 qh4))
theorem gcommon_L1 (vz qx qh : Mo) (fuel : Nat) : LX Pr (Gcommon vz qx qh) (Lcommon vz qx qh fuel) 6 118 1 fuel := by
  refine .of Tcommon_1 (Fcommon_1 vz qx qh fuel) (fun L h => ?_) (fun ps st K r he hr => ?_)
  · have e : (Lcommon vz qx qh fuel).get (writes (lp Pr 118 1).1) = some (lam Tcommon_1 (Fcommon_1 vz qx qh fuel)) := by kernel_rfl
    exact (Option.some.inj (e.symm.trans h)).symm
  · unfold Fcommon_1 at hr
    split at hr
    · obtain rfl := (Option.some.inj he).symm
      exact (gcommon_l1_ok vz qx qh fuel K _ _ fuel _ _).trans hr
    · cases hr
noncomputable def gcommon (vz qx qh : Mo) (fuel zh v3 : Nat) (vs : Ge) (yl p1 : Nat) (pv : Ge) : Option AV :=
  gcommon_l0 vz qx qh fuel
    (fun (qas qa8 : Nat) (qbg : Ge) (qe5 qgu : Nat) (qgr : Ge) => bif (↑qe5 : Int) == 0 then some (AV.ro 1 qas qa8 qbg)
      else bif decide ((↑qas : Int) > 2) then let r1 : Option AV := vz [AV.ro 1 qas qa8 qbg,AV.ro 1 qe5 qgu qgr]; ck (okM [RS.one (LK.l 1),RS.one (LK.l 1)] r1) <| ck (okM [RS.one (LK.i .u64)] (qx [AV.ro 1 qe5 qgu qgr])) <| ck (okM [RS.one (LK.i .u64)] (qx [AV.ro 1 (toN ((toT (getV r1)).tail.headD .dead)) (toR ((toT (getV r1)).tail.headD .dead)) (toG ((toT (getV r1)).tail.headD .dead))])) <| gcommon_l1 vz qx qh fuel
          (fun (qsu : Int) => let r2 : Option AV := qh [AV.int .u64 qsu]; ck (okM [RS.one (LK.l 1)] r2) <| some (AV.ro 1 (toN (getV r2)) (toR (getV r2)) (toG (getV r2)))) fuel (toI (getV (qx [AV.ro 1 qe5 qgu qgr]))) (toI (getV (qx [AV.ro 1 (toN ((toT (getV r1)).tail.headD .dead)) (toR ((toT (getV r1)).tail.headD .dead)) (toG ((toT (getV r1)).tail.headD .dead))])))
      else ck (okM [RS.one (LK.i .u64)] (qx [AV.ro 1 qas qa8 qbg])) <| ck (okM [RS.one (LK.i .u64)] (qx [AV.ro 1 qe5 qgu qgr])) <| gcommon_l1 vz qx qh fuel
        (fun (qul : Int) => let r3 : Option AV := qh [AV.int .u64 qul]; ck (okM [RS.one (LK.l 1)] r3) <| some (AV.ro 1 (toN (getV r3)) (toR (getV r3)) (toG (getV r3)))) fuel (toI (getV (qx [AV.ro 1 qas qa8 qbg]))) (toI (getV (qx [AV.ro 1 qe5 qgu qgr])))) fuel zh v3 vs yl p1 pv
noncomputable def mcommon (vz qx qh : Mo) (fuel : Nat) (xs : List AV) : Option AV := match xs with
  | [AV.ro 1 zh v3 vs,AV.ro 1 yl p1 pv] => gcommon vz qx qh fuel zh v3 vs yl p1 pv
  | _ => none
abbrev Rcommon : List RS := [RS.one (LK.l (nat_lit 1))]
theorem gcommon_sm (vz qx qh : Mo) (fuel : Nat) (hΓ : GamOk Pr (Gcommon vz qx qh)) (hP : NamesOk Pr) : SmOk Pr 118 (smM Rcommon (mcommon vz qx qh fuel)) := smL (L := (Lcommon vz qx qh fuel)) (n := 2) hΓ hP (by kernel_rfl) (fun i hi => match i,hi with
  | 0,_ => gcommon_L0 vz qx qh fuel
  | 1,_ => gcommon_L1 vz qx qh fuel
  | i + 2,hi => absurd hi (by omega)) fun xs v h => by
  unfold mcommon at h
  split at h
  · exact Eq.trans (by kernel_rfl) h
  · cases h
end Go.Proofs.Tryz
end
section
namespace Go.Proofs.Tryz
open Go Go.Am
set_option linter.unusedVariables false
set_option maxRecDepth 1000000
noncomputable def LRat_norm_a (qbe vz : Mo) (wq w3 : Mo) (z7 z1 z9 : Mo) (fuel : Nat) : Lam AV := []
noncomputable def GRat_norm_a (qbe vz : Mo) (wq w3 : Mo) (z7 z1 z9 : Mo) : Gam := [(118,smM [RS.one (LK.l (nat_lit 1))] qbe),(115,smM [RS.one (LK.l (nat_lit 1)),RS.one (LK.l (nat_lit 1))] vz),(76,smX RInt_SetInt64_rb XInt_SetInt64_rb wq),(76,smX RInt_SetInt64_i XInt_SetInt64_i w3),(58,smX RInt_Neg_ra XInt_Neg_ra z7),(58,smX RInt_Neg_rb XInt_Neg_rb z1),(58,smX RInt_Neg_ii XInt_Neg_ii z9)]
noncomputable def gRat_norm_a (qbe vz : Mo) (wq w3 : Mo) (z7 z1 z9 : Mo) (fuel : Nat) (q4 : Bool) (qm qu : Nat) (qq : Ge) (z0 : Bool) (zd zl : Nat) (zj : Ge) : Option AV :=
  bif (↑zd : Int) == 0 then let r0 : Option AV := wq [AV.ptr (xidx 0 (xtoks [AV.ptr 0 2,AV.int .i64 1] [])) 2,AV.int .i64 1,AV.bool q4,AV.ro 1 qm qu qq,AV.bool z0,AV.ro 1 zd zl zj]; ck (okX [RS.one LK.b,RS.one (LK.l 1),RS.one LK.b,RS.one (LK.l 1)] r0) <| bif toB ((toT (getV r0)).tail.tail.headD .dead) then let r1 : Option AV := z7 [AV.ptr (xidx 0 (xtoks [AV.ptr 0 0,AV.ptr 0 0] [])) 0,AV.ptr (xidx 0 (xtoks [AV.ptr 0 0,AV.ptr 0 0] [])) 0,AV.bool (toB ((toT (getV r0)).headD .dead)),AV.ro 1 (toN ((toT (getV r0)).tail.headD .dead)) (toR ((toT (getV r0)).tail.headD .dead)) (toG ((toT (getV r0)).tail.headD .dead)),AV.bool (toB ((toT (getV r0)).tail.tail.headD .dead)),AV.ro 1 (toN ((toT (getV r0)).tail.tail.tail.headD .dead)) (toR ((toT (getV r0)).tail.tail.tail.headD .dead)) (toG ((toT (getV r0)).tail.tail.tail.headD .dead))]; ck (okX [RS.one LK.b,RS.one (LK.l 1),RS.one LK.b,RS.one (LK.l 1)] r1) <| let r2 : Option AV := z1 [AV.ptr (xidx 0 (xtoks [AV.ptr 0 2,AV.ptr 0 2] [])) 2,AV.ptr (xidx 0 (xtoks [AV.ptr 0 2,AV.ptr 0 2] [])) 2,AV.bool (toB ((toT (getV r1)).headD .dead)),AV.ro 1 (toN ((toT (getV r1)).tail.headD .dead)) (toR ((toT (getV r1)).tail.headD .dead)) (toG ((toT (getV r1)).tail.headD .dead)),AV.bool (toB ((toT (getV r1)).tail.tail.headD .dead)),AV.ro 1 (toN ((toT (getV r1)).tail.tail.tail.headD .dead)) (toR ((toT (getV r1)).tail.tail.tail.headD .dead)) (toG ((toT (getV r1)).tail.tail.tail.headD .dead))]; ck (okX [RS.one LK.b,RS.one (LK.l 1),RS.one LK.b,RS.one (LK.l 1)] r2) <| bif (↑(toN ((toT (getV r2)).tail.headD .dead)) : Int) == 0 then let r3 : Option AV := wq [AV.ptr (xidx 0 (xtoks [AV.ptr 0 2,AV.int .i64 1] [])) 2,AV.int .i64 1,AV.bool (toB ((toT (getV r2)).headD .dead)),AV.ro 1 (toN ((toT (getV r2)).tail.headD .dead)) (toR ((toT (getV r2)).tail.headD .dead)) (toG ((toT (getV r2)).tail.headD .dead)),AV.bool (toB ((toT (getV r2)).tail.tail.headD .dead)),AV.ro 1 (toN ((toT (getV r2)).tail.tail.tail.headD .dead)) (toR ((toT (getV r2)).tail.tail.tail.headD .dead)) (toG ((toT (getV r2)).tail.tail.tail.headD .dead))]; ck (okX [RS.one LK.b,RS.one (LK.l 1),RS.one LK.b,RS.one (LK.l 1)] r3) <| some (AV.tup [AV.bool (toB ((toT (getV r3)).headD .dead)),AV.ro 1 (toN ((toT (getV r3)).tail.headD .dead)) (toR ((toT (getV r3)).tail.headD .dead)) (toG ((toT (getV r3)).tail.headD .dead)),AV.bool (toB ((toT (getV r3)).tail.tail.headD .dead)),AV.ro 1 (toN ((toT (getV r3)).tail.tail.tail.headD .dead)) (toR ((toT (getV r3)).tail.tail.tail.headD .dead)) (toG ((toT (getV r3)).tail.tail.tail.headD .dead))])
      else ck (bif (↑(toN ((toT (getV r2)).tail.tail.tail.headD .dead)) : Int) == 1 then true else true) <| ck (bif (↑(toN ((toT (getV r2)).tail.tail.tail.headD .dead)) : Int) == 1 then true else true) <| ck (bif (↑(toN ((toT (getV r2)).tail.tail.tail.headD .dead)) : Int) == 1 then decide (0 < (↑(toN ((toT (getV r2)).tail.tail.tail.headD .dead)) : Int)) else true) <| ck (bif (↑(toN ((toT (getV r2)).tail.tail.tail.headD .dead)) : Int) == 1 then true else true) <| ck (bif (↑(toN ((toT (getV r2)).tail.tail.tail.headD .dead)) : Int) == 1 then fitK (LK.i .u32) (toG ((toT (getV r2)).tail.tail.tail.headD .dead) 0 0) else true) <| bif bif (↑(toN ((toT (getV r2)).tail.tail.tail.headD .dead)) : Int) == 1 then toI (toG ((toT (getV r2)).tail.tail.tail.headD .dead) 0 0) == 1 else false then some (AV.tup [AV.bool (toB ((toT (getV r2)).headD .dead)),AV.ro 1 (toN ((toT (getV r2)).tail.headD .dead)) (toR ((toT (getV r2)).tail.headD .dead)) (toG ((toT (getV r2)).tail.headD .dead)),AV.bool (toB ((toT (getV r2)).tail.tail.headD .dead)),AV.ro 1 (toN ((toT (getV r2)).tail.tail.tail.headD .dead)) (toR ((toT (getV r2)).tail.tail.tail.headD .dead)) (toG ((toT (getV r2)).tail.tail.tail.headD .dead))])
      else let r4 : Option AV := qbe [AV.ro 1 (toN ((toT (getV r2)).tail.headD .dead)) (toR ((toT (getV r2)).tail.headD .dead)) (toG ((toT (getV r2)).tail.headD .dead)),AV.ro 1 (toN ((toT (getV r2)).tail.tail.tail.headD .dead)) (toR ((toT (getV r2)).tail.tail.tail.headD .dead)) (toG ((toT (getV r2)).tail.tail.tail.headD .dead))]; ck (okM [RS.one (LK.l 1)] r4) <| ck (bif (↑(toN (getV r4)) : Int) == 1 then true else true) <| ck (bif (↑(toN (getV r4)) : Int) == 1 then decide (0 < (↑(toN (getV r4)) : Int)) else true) <| ck (bif (↑(toN (getV r4)) : Int) == 1 then true else true) <| ck (bif (↑(toN (getV r4)) : Int) == 1 then fitK (LK.i .u32) (toG (getV r4) 0 0) else true) <| bif bif (↑(toN (getV r4)) : Int) == 1 then toI (toG (getV r4) 0 0) == 1 else false then some (AV.tup [AV.bool (toB ((toT (getV r2)).headD .dead)),AV.ro 1 (toN ((toT (getV r2)).tail.headD .dead)) (toR ((toT (getV r2)).tail.headD .dead)) (toG ((toT (getV r2)).tail.headD .dead)),AV.bool (toB ((toT (getV r2)).tail.tail.headD .dead)),AV.ro 1 (toN ((toT (getV r2)).tail.tail.tail.headD .dead)) (toR ((toT (getV r2)).tail.tail.tail.headD .dead)) (toG ((toT (getV r2)).tail.tail.tail.headD .dead))])
      else let r5 : Option AV := vz [AV.ro 1 (toN ((toT (getV r2)).tail.headD .dead)) (toR ((toT (getV r2)).tail.headD .dead)) (toG ((toT (getV r2)).tail.headD .dead)),AV.ro 1 (toN (getV r4)) (toR (getV r4)) (toG (getV r4))]; ck (okM [RS.one (LK.l 1),RS.one (LK.l 1)] r5) <| let r6 : Option AV := vz [AV.ro 1 (toN ((toT (getV r2)).tail.tail.tail.headD .dead)) (toR ((toT (getV r2)).tail.tail.tail.headD .dead)) (toG ((toT (getV r2)).tail.tail.tail.headD .dead)),AV.ro 1 (toN (getV r4)) (toR (getV r4)) (toG (getV r4))]; ck (okM [RS.one (LK.l 1),RS.one (LK.l 1)] r6) <| some (AV.tup [AV.bool (toB ((toT (getV r2)).headD .dead)),AV.ro 1 (toN ((toT (getV r5)).headD .dead)) (toR ((toT (getV r5)).headD .dead)) (toG ((toT (getV r5)).headD .dead)),AV.bool (toB ((toT (getV r2)).tail.tail.headD .dead)),AV.ro 1 (toN ((toT (getV r6)).headD .dead)) (toR ((toT (getV r6)).headD .dead)) (toG ((toT (getV r6)).headD .dead))])
    else bif (↑(toN ((toT (getV r0)).tail.headD .dead)) : Int) == 0 then let r7 : Option AV := wq [AV.ptr (xidx 0 (xtoks [AV.ptr 0 2,AV.int .i64 1] [])) 2,AV.int .i64 1,AV.bool (toB ((toT (getV r0)).headD .dead)),AV.ro 1 (toN ((toT (getV r0)).tail.headD .dead)) (toR ((toT (getV r0)).tail.headD .dead)) (toG ((toT (getV r0)).tail.headD .dead)),AV.bool (toB ((toT (getV r0)).tail.tail.headD .dead)),AV.ro 1 (toN ((toT (getV r0)).tail.tail.tail.headD .dead)) (toR ((toT (getV r0)).tail.tail.tail.headD .dead)) (toG ((toT (getV r0)).tail.tail.tail.headD .dead))]; ck (okX [RS.one LK.b,RS.one (LK.l 1),RS.one LK.b,RS.one (LK.l 1)] r7) <| some (AV.tup [AV.bool (toB ((toT (getV r7)).headD .dead)),AV.ro 1 (toN ((toT (getV r7)).tail.headD .dead)) (toR ((toT (getV r7)).tail.headD .dead)) (toG ((toT (getV r7)).tail.headD .dead)),AV.bool (toB ((toT (getV r7)).tail.tail.headD .dead)),AV.ro 1 (toN ((toT (getV r7)).tail.tail.tail.headD .dead)) (toR ((toT (getV r7)).tail.tail.tail.headD .dead)) (toG ((toT (getV r7)).tail.tail.tail.headD .dead))])
    else ck (bif (↑(toN ((toT (getV r0)).tail.tail.tail.headD .dead)) : Int) == 1 then true else true) <| ck (bif (↑(toN ((toT (getV r0)).tail.tail.tail.headD .dead)) : Int) == 1 then true else true) <| ck (bif (↑(toN ((toT (getV r0)).tail.tail.tail.headD .dead)) : Int) == 1 then decide (0 < (↑(toN ((toT (getV r0)).tail.tail.tail.headD .dead)) : Int)) else true) <| ck (bif (↑(toN ((toT (getV r0)).tail.tail.tail.headD .dead)) : Int) == 1 then true else true) <| ck (bif (↑(toN ((toT (getV r0)).tail.tail.tail.headD .dead)) : Int) == 1 then fitK (LK.i .u32) (toG ((toT (getV r0)).tail.tail.tail.headD .dead) 0 0) else true) <| bif bif (↑(toN ((toT (getV r0)).tail.tail.tail.headD .dead)) : Int) == 1 then toI (toG ((toT (getV r0)).tail.tail.tail.headD .dead) 0 0) == 1 else false then some (AV.tup [AV.bool (toB ((toT (getV r0)).headD .dead)),AV.ro 1 (toN ((toT (getV r0)).tail.headD .dead)) (toR ((toT (getV r0)).tail.headD .dead)) (toG ((toT (getV r0)).tail.headD .dead)),AV.bool (toB ((toT (getV r0)).tail.tail.headD .dead)),AV.ro 1 (toN ((toT (getV r0)).tail.tail.tail.headD .dead)) (toR ((toT (getV r0)).tail.tail.tail.headD .dead)) (toG ((toT (getV r0)).tail.tail.tail.headD .dead))])
    else let r8 : Option AV := qbe [AV.ro 1 (toN ((toT (getV r0)).tail.headD .dead)) (toR ((toT (getV r0)).tail.headD .dead)) (toG ((toT (getV r0)).tail.headD .dead)),AV.ro 1 (toN ((toT (getV r0)).tail.tail.tail.headD .dead)) (toR ((toT (getV r0)).tail.tail.tail.headD .dead)) (toG ((toT (getV r0)).tail.tail.tail.headD .dead))]; ck (okM [RS.one (LK.l 1)] r8) <| ck (bif (↑(toN (getV r8)) : Int) == 1 then true else true) <| ck (bif (↑(toN (getV r8)) : Int) == 1 then decide (0 < (↑(toN (getV r8)) : Int)) else true) <| ck (bif (↑(toN (getV r8)) : Int) == 1 then true else true) <| ck (bif (↑(toN (getV r8)) : Int) == 1 then fitK (LK.i .u32) (toG (getV r8) 0 0) else true) <| bif bif (↑(toN (getV r8)) : Int) == 1 then toI (toG (getV r8) 0 0) == 1 else false then some (AV.tup [AV.bool (toB ((toT (getV r0)).headD .dead)),AV.ro 1 (toN ((toT (getV r0)).tail.headD .dead)) (toR ((toT (getV r0)).tail.headD .dead)) (toG ((toT (getV r0)).tail.headD .dead)),AV.bool (toB ((toT (getV r0)).tail.tail.headD .dead)),AV.ro 1 (toN ((toT (getV r0)).tail.tail.tail.headD .dead)) (toR ((toT (getV r0)).tail.tail.tail.headD .dead)) (toG ((toT (getV r0)).tail.tail.tail.headD .dead))])
    else let r9 : Option AV := vz [AV.ro 1 (toN ((toT (getV r0)).tail.headD .dead)) (toR ((toT (getV r0)).tail.headD .dead)) (toG ((toT (getV r0)).tail.headD .dead)),AV.ro 1 (toN (getV r8)) (toR (getV r8)) (toG (getV r8))]; ck (okM [RS.one (LK.l 1),RS.one (LK.l 1)] r9) <| let r10 : Option AV := vz [AV.ro 1 (toN ((toT (getV r0)).tail.tail.tail.headD .dead)) (toR ((toT (getV r0)).tail.tail.tail.headD .dead)) (toG ((toT (getV r0)).tail.tail.tail.headD .dead)),AV.ro 1 (toN (getV r8)) (toR (getV r8)) (toG (getV r8))]; ck (okM [RS.one (LK.l 1),RS.one (LK.l 1)] r10) <| some (AV.tup [AV.bool (toB ((toT (getV r0)).headD .dead)),AV.ro 1 (toN ((toT (getV r9)).headD .dead)) (toR ((toT (getV r9)).headD .dead)) (toG ((toT (getV r9)).headD .dead)),AV.bool (toB ((toT (getV r0)).tail.tail.headD .dead)),AV.ro 1 (toN ((toT (getV r10)).headD .dead)) (toR ((toT (getV r10)).headD .dead)) (toG ((toT (getV r10)).headD .dead))])
  else bif z0 then let r11 : Option AV := z7 [AV.ptr (xidx 0 (xtoks [AV.ptr 0 0,AV.ptr 0 0] [])) 0,AV.ptr (xidx 0 (xtoks [AV.ptr 0 0,AV.ptr 0 0] [])) 0,AV.bool q4,AV.ro 1 qm qu qq,AV.bool z0,AV.ro 1 zd zl zj]; ck (okX [RS.one LK.b,RS.one (LK.l 1),RS.one LK.b,RS.one (LK.l 1)] r11) <| let r12 : Option AV := z1 [AV.ptr (xidx 0 (xtoks [AV.ptr 0 2,AV.ptr 0 2] [])) 2,AV.ptr (xidx 0 (xtoks [AV.ptr 0 2,AV.ptr 0 2] [])) 2,AV.bool (toB ((toT (getV r11)).headD .dead)),AV.ro 1 (toN ((toT (getV r11)).tail.headD .dead)) (toR ((toT (getV r11)).tail.headD .dead)) (toG ((toT (getV r11)).tail.headD .dead)),AV.bool (toB ((toT (getV r11)).tail.tail.headD .dead)),AV.ro 1 (toN ((toT (getV r11)).tail.tail.tail.headD .dead)) (toR ((toT (getV r11)).tail.tail.tail.headD .dead)) (toG ((toT (getV r11)).tail.tail.tail.headD .dead))]; ck (okX [RS.one LK.b,RS.one (LK.l 1),RS.one LK.b,RS.one (LK.l 1)] r12) <| bif (↑(toN ((toT (getV r12)).tail.headD .dead)) : Int) == 0 then let r13 : Option AV := wq [AV.ptr (xidx 0 (xtoks [AV.ptr 0 2,AV.int .i64 1] [])) 2,AV.int .i64 1,AV.bool (toB ((toT (getV r12)).headD .dead)),AV.ro 1 (toN ((toT (getV r12)).tail.headD .dead)) (toR ((toT (getV r12)).tail.headD .dead)) (toG ((toT (getV r12)).tail.headD .dead)),AV.bool (toB ((toT (getV r12)).tail.tail.headD .dead)),AV.ro 1 (toN ((toT (getV r12)).tail.tail.tail.headD .dead)) (toR ((toT (getV r12)).tail.tail.tail.headD .dead)) (toG ((toT (getV r12)).tail.tail.tail.headD .dead))]; ck (okX [RS.one LK.b,RS.one (LK.l 1),RS.one LK.b,RS.one (LK.l 1)] r13) <| some (AV.tup [AV.bool (toB ((toT (getV r13)).headD .dead)),AV.ro 1 (toN ((toT (getV r13)).tail.headD .dead)) (toR ((toT (getV r13)).tail.headD .dead)) (toG ((toT (getV r13)).tail.headD .dead)),AV.bool (toB ((toT (getV r13)).tail.tail.headD .dead)),AV.ro 1 (toN ((toT (getV r13)).tail.tail.tail.headD .dead)) (toR ((toT (getV r13)).tail.tail.tail.headD .dead)) (toG ((toT (getV r13)).tail.tail.tail.headD .dead))])
    else ck (bif (↑(toN ((toT (getV r12)).tail.tail.tail.headD .dead)) : Int) == 1 then true else true) <| ck (bif (↑(toN ((toT (getV r12)).tail.tail.tail.headD .dead)) : Int) == 1 then true else true) <| ck (bif (↑(toN ((toT (getV r12)).tail.tail.tail.headD .dead)) : Int) == 1 then decide (0 < (↑(toN ((toT (getV r12)).tail.tail.tail.headD .dead)) : Int)) else true) <| ck (bif (↑(toN ((toT (getV r12)).tail.tail.tail.headD .dead)) : Int) == 1 then true else true) <| ck (bif (↑(toN ((toT (getV r12)).tail.tail.tail.headD .dead)) : Int) == 1 then fitK (LK.i .u32) (toG ((toT (getV r12)).tail.tail.tail.headD .dead) 0 0) else true) <| bif bif (↑(toN ((toT (getV r12)).tail.tail.tail.headD .dead)) : Int) == 1 then toI (toG ((toT (getV r12)).tail.tail.tail.headD .dead) 0 0) == 1 else false then some (AV.tup [AV.bool (toB ((toT (getV r12)).headD .dead)),AV.ro 1 (toN ((toT (getV r12)).tail.headD .dead)) (toR ((toT (getV r12)).tail.headD .dead)) (toG ((toT (getV r12)).tail.headD .dead)),AV.bool (toB ((toT (getV r12)).tail.tail.headD .dead)),AV.ro 1 (toN ((toT (getV r12)).tail.tail.tail.headD .dead)) (toR ((toT (getV r12)).tail.tail.tail.headD .dead)) (toG ((toT (getV r12)).tail.tail.tail.headD .dead))])
    else let r14 : Option AV := qbe [AV.ro 1 (toN ((toT (getV r12)).tail.headD .dead)) (toR ((toT (getV r12)).tail.headD .dead)) (toG ((toT (getV r12)).tail.headD .dead)),AV.ro 1 (toN ((toT (getV r12)).tail.tail.tail.headD .dead)) (toR ((toT (getV r12)).tail.tail.tail.headD .dead)) (toG ((toT (getV r12)).tail.tail.tail.headD .dead))]; ck (okM [RS.one (LK.l 1)] r14) <| ck (bif (↑(toN (getV r14)) : Int) == 1 then true else true) <| ck (bif (↑(toN (getV r14)) : Int) == 1 then decide (0 < (↑(toN (getV r14)) : Int)) else true) <| ck (bif (↑(toN (getV r14)) : Int) == 1 then true else true) <| ck (bif (↑(toN (getV r14)) : Int) == 1 then fitK (LK.i .u32) (toG (getV r14) 0 0) else true) <| bif bif (↑(toN (getV r14)) : Int) == 1 then toI (toG (getV r14) 0 0) == 1 else false then some (AV.tup [AV.bool (toB ((toT (getV r12)).headD .dead)),AV.ro 1 (toN ((toT (getV r12)).tail.headD .dead)) (toR ((toT (getV r12)).tail.headD .dead)) (toG ((toT (getV r12)).tail.headD .dead)),AV.bool (toB ((toT (getV r12)).tail.tail.headD .dead)),AV.ro 1 (toN ((toT (getV r12)).tail.tail.tail.headD .dead)) (toR ((toT (getV r12)).tail.tail.tail.headD .dead)) (toG ((toT (getV r12)).tail.tail.tail.headD .dead))])
    else let r15 : Option AV := vz [AV.ro 1 (toN ((toT (getV r12)).tail.headD .dead)) (toR ((toT (getV r12)).tail.headD .dead)) (toG ((toT (getV r12)).tail.headD .dead)),AV.ro 1 (toN (getV r14)) (toR (getV r14)) (toG (getV r14))]; ck (okM [RS.one (LK.l 1),RS.one (LK.l 1)] r15) <| let r16 : Option AV := vz [AV.ro 1 (toN ((toT (getV r12)).tail.tail.tail.headD .dead)) (toR ((toT (getV r12)).tail.tail.tail.headD .dead)) (toG ((toT (getV r12)).tail.tail.tail.headD .dead)),AV.ro 1 (toN (getV r14)) (toR (getV r14)) (toG (getV r14))]; ck (okM [RS.one (LK.l 1),RS.one (LK.l 1)] r16) <| some (AV.tup [AV.bool (toB ((toT (getV r12)).headD .dead)),AV.ro 1 (toN ((toT (getV r15)).headD .dead)) (toR ((toT (getV r15)).headD .dead)) (toG ((toT (getV r15)).headD .dead)),AV.bool (toB ((toT (getV r12)).tail.tail.headD .dead)),AV.ro 1 (toN ((toT (getV r16)).headD .dead)) (toR ((toT (getV r16)).headD .dead)) (toG ((toT (getV r16)).headD .dead))])
  else bif (↑qm : Int) == 0 then let r17 : Option AV := wq [AV.ptr (xidx 0 (xtoks [AV.ptr 0 2,AV.int .i64 1] [])) 2,AV.int .i64 1,AV.bool q4,AV.ro 1 qm qu qq,AV.bool z0,AV.ro 1 zd zl zj]; ck (okX [RS.one LK.b,RS.one (LK.l 1),RS.one LK.b,RS.one (LK.l 1)] r17) <| some (AV.tup [AV.bool (toB ((toT (getV r17)).headD .dead)),AV.ro 1 (toN ((toT (getV r17)).tail.headD .dead)) (toR ((toT (getV r17)).tail.headD .dead)) (toG ((toT (getV r17)).tail.headD .dead)),AV.bool (toB ((toT (getV r17)).tail.tail.headD .dead)),AV.ro 1 (toN ((toT (getV r17)).tail.tail.tail.headD .dead)) (toR ((toT (getV r17)).tail.tail.tail.headD .dead)) (toG ((toT (getV r17)).tail.tail.tail.headD .dead))])
  else ck (bif (↑zd : Int) == 1 then true else true) <| ck (bif (↑zd : Int) == 1 then true else true) <| ck (bif (↑zd : Int) == 1 then decide (0 < (↑zd : Int)) else true) <| ck (bif (↑zd : Int) == 1 then true else true) <| ck (bif (↑zd : Int) == 1 then fitK (LK.i .u32) (zj 0 0) else true) <| bif bif (↑zd : Int) == 1 then toI (zj 0 0) == 1 else false then some (AV.tup [AV.bool q4,AV.ro 1 qm qu qq,AV.bool z0,AV.ro 1 zd zl zj])
  else let r18 : Option AV := qbe [AV.ro 1 qm qu qq,AV.ro 1 zd zl zj]; ck (okM [RS.one (LK.l 1)] r18) <| ck (bif (↑(toN (getV r18)) : Int) == 1 then true else true) <| ck (bif (↑(toN (getV r18)) : Int) == 1 then decide (0 < (↑(toN (getV r18)) : Int)) else true) <| ck (bif (↑(toN (getV r18)) : Int) == 1 then true else true) <| ck (bif (↑(toN (getV r18)) : Int) == 1 then fitK (LK.i .u32) (toG (getV r18) 0 0) else true) <| bif bif (↑(toN (getV r18)) : Int) == 1 then toI (toG (getV r18) 0 0) == 1 else false then some (AV.tup [AV.bool q4,AV.ro 1 qm qu qq,AV.bool z0,AV.ro 1 zd zl zj])
  else let r19 : Option AV := vz [AV.ro 1 qm qu qq,AV.ro 1 (toN (getV r18)) (toR (getV r18)) (toG (getV r18))]; ck (okM [RS.one (LK.l 1),RS.one (LK.l 1)] r19) <| let r20 : Option AV := vz [AV.ro 1 zd zl zj,AV.ro 1 (toN (getV r18)) (toR (getV r18)) (toG (getV r18))]; ck (okM [RS.one (LK.l 1),RS.one (LK.l 1)] r20) <| some (AV.tup [AV.bool q4,AV.ro 1 (toN ((toT (getV r19)).headD .dead)) (toR ((toT (getV r19)).headD .dead)) (toG ((toT (getV r19)).headD .dead)),AV.bool z0,AV.ro 1 (toN ((toT (getV r20)).headD .dead)) (toR ((toT (getV r20)).headD .dead)) (toG ((toT (getV r20)).headD .dead))])
theorem gRat_norm_a_run (qbe vz : Mo) (wq w3 : Mo) (z7 z1 z9 : Mo) (fuel : Nat) (q4 : Bool) (qm qu : Nat) (qq : Ge) (z0 : Bool) (zd zl : Nat) (zj : Ge) : runX Pr (GRat_norm_a qbe vz wq w3 z7 z1 z9) [((6,83),LRat_norm_a qbe vz wq w3 z7 z1 z9 fuel)] fuel 7 83 XRat_norm_a [AV.ptr 0 0] [Blk.box [AV.bool q4,AV.ro 1 qm qu qq,AV.bool z0,AV.ro 1 zd zl zj]] = gRat_norm_a qbe vz wq w3 z7 z1 z9 fuel q4 qm qu qq z0 zd zl zj := by kernel_rfl
noncomputable def mRat_norm_a (qbe vz : Mo) (wq w3 : Mo) (z7 z1 z9 : Mo) (fuel : Nat) (xs : List AV) : Option AV := match xs with
  | [AV.ptr 0 0,AV.bool q4,AV.ro 1 qm qu qq,AV.bool z0,AV.ro 1 zd zl zj] => gRat_norm_a qbe vz wq w3 z7 z1 z9 fuel q4 qm qu qq z0 zd zl zj
  | _ => none
theorem gRat_norm_a_sm (qbe vz : Mo) (wq w3 : Mo) (z7 z1 z9 : Mo) (fuel : Nat) (hΓ : GamOk Pr (GRat_norm_a qbe vz wq w3 z7 z1 z9)) (hP : NamesOk Pr) : XOk Pr 83 (smX RRat_norm_a XRat_norm_a (mRat_norm_a qbe vz wq w3 z7 z1 z9 fuel)) XRat_norm_a := by
  refine smX_ok (fuel := fuel) hΓ hP (LamOk.of 6 83 (LRat_norm_a qbe vz wq w3 z7 z1 z9 fuel) 0 (by kernel_rfl) (fun i hi => ?_)) 7 83 RRat_norm_a XRat_norm_a _ (fun xs0 ys0 v ha hb h => ?_)
  · match i,hi with
    | i + 0,hi => exact absurd hi (by omega)
  · skip
    have ha0 : xs0.length = 1 := ha
    clear ha
    obtain ⟨a0,xs1,rfl,ha1⟩ := len_cons ha0
    clear ha0
    obtain rfl := List.eq_nil_of_length_eq_zero ha1
    have hy0 : ys0.map List.length = [4] := hb
    clear hb
    obtain ⟨q4,ys1,rfl,hb0_0,hy1⟩ := map_cons' hy0
    clear hy0
    obtain ⟨c0_0,b0_1,rfl,hb0_1⟩ := len_cons hb0_0
    clear hb0_0
    obtain ⟨c0_1,z0,rfl,hb0_2⟩ := len_cons hb0_1
    clear hb0_1
    obtain ⟨c0_2,b0_3,rfl,hb0_3⟩ := len_cons hb0_2
    clear hb0_2
    obtain ⟨c0_3,b0_4,rfl,hb0_4⟩ := len_cons hb0_3
    clear hb0_3
    obtain rfl := List.eq_nil_of_length_eq_zero hb0_4
    obtain rfl := map_nil' hy1
    have h : mRat_norm_a qbe vz wq w3 z7 z1 z9 fuel [a0,c0_0,c0_1,c0_2,c0_3] = some v := h
    generalize hx0 : [a0,c0_0,c0_1,c0_2,c0_3] = zs at h
    unfold mRat_norm_a at h
    split at h
    · skip
      obtain ⟨rfl,hx1⟩ := List.cons.inj hx0
      obtain ⟨rfl,hx2⟩ := List.cons.inj hx1
      obtain ⟨rfl,hx3⟩ := List.cons.inj hx2
      obtain ⟨rfl,hx4⟩ := List.cons.inj hx3
      obtain ⟨rfl,hx5⟩ := List.cons.inj hx4
      simp only [List.map_cons,List.map_nil]
      exact (gRat_norm_a_run qbe vz wq w3 z7 z1 z9 fuel _ _ _ _ _ _ _ _).trans h
    · cases h
noncomputable def LRat_SetFrac_a (vn zu : Mo) (va ys : Mo) (fuel : Nat) : Lam AV := []
noncomputable def GRat_SetFrac_a (vn zu : Mo) (va ys : Mo) : Gam := [(53,smX RNewInt_a XNewInt_a vn),(80,smX RInt_Set_ii XInt_Set_ii zu),(80,smX RInt_Set_ir XInt_Set_ir va),(83,smX RRat_norm_a XRat_norm_a ys)]
noncomputable def gRat_SetFrac_a (vn zu : Mo) (va ys : Mo) (fuel : Nat) (q4 : Bool) (qm qu : Nat) (qq : Ge) (z0 : Bool) (zd zl : Nat) (zj : Ge) (zy : Bool) (wz w5 : Nat) (w6 : Ge) (v4 : Bool) (z4 vd : Nat) (ve : Ge) : Option AV :=
  bif (↑z4 : Int) == 0 then let r0 : Option AV := vn [AV.int .i64 1]; ck (okX [RS.one LK.b,RS.one (LK.l 1)] r0) <| bif (↑(toN ((toT (getV r0)).tail.headD .dead)) : Int) == 0 then let r1 : Option AV := vn [AV.int .i64 1]; ck (okX [RS.one LK.b,RS.one (LK.l 1)] r1) <| bif (↑(toN ((toT (getV r1)).tail.headD .dead)) : Int) == 0 then ck (okX [RS.one LK.b,RS.one (LK.l 1)] r1) <| none
      else let r2 : Option AV := zu [AV.ptr (xidx [Blk.box [AV.bool q4,AV.ro 1 qm qu qq,AV.bool z0,AV.ro 1 zd zl zj],Blk.box [AV.bool zy,AV.ro 1 wz w5 w6],Blk.box [AV.bool v4,AV.ro 1 z4 vd ve],Blk.box [AV.bool false,AV.nils 1 [AV.int .u32 0]],Blk.box [AV.bool (toB ((toT (getV r0)).headD .dead)),AV.ro 1 (toN ((toT (getV r0)).tail.headD .dead)) (toR ((toT (getV r0)).tail.headD .dead)) (toG ((toT (getV r0)).tail.headD .dead))],Blk.box [AV.bool false,AV.nils 1 [AV.int .u32 0]],Blk.box [AV.bool (toB ((toT (getV r1)).headD .dead)),AV.ro 1 (toN ((toT (getV r1)).tail.headD .dead)) (toR ((toT (getV r1)).tail.headD .dead)) (toG ((toT (getV r1)).tail.headD .dead))]].length (xtoks [AV.ptr [Blk.box [AV.bool q4,AV.ro 1 qm qu qq,AV.bool z0,AV.ro 1 zd zl zj],Blk.box [AV.bool zy,AV.ro 1 wz w5 w6],Blk.box [AV.bool v4,AV.ro 1 z4 vd ve],Blk.box [AV.bool false,AV.nils 1 [AV.int .u32 0]],Blk.box [AV.bool (toB ((toT (getV r0)).headD .dead)),AV.ro 1 (toN ((toT (getV r0)).tail.headD .dead)) (toR ((toT (getV r0)).tail.headD .dead)) (toG ((toT (getV r0)).tail.headD .dead))],Blk.box [AV.bool false,AV.nils 1 [AV.int .u32 0]],Blk.box [AV.bool (toB ((toT (getV r1)).headD .dead)),AV.ro 1 (toN ((toT (getV r1)).tail.headD .dead)) (toR ((toT (getV r1)).tail.headD .dead)) (toG ((toT (getV r1)).tail.headD .dead))]].length 0,AV.ptr [Blk.box [AV.bool q4,AV.ro 1 qm qu qq,AV.bool z0,AV.ro 1 zd zl zj],Blk.box [AV.bool zy,AV.ro 1 wz w5 w6],Blk.box [AV.bool v4,AV.ro 1 z4 vd ve],Blk.box [AV.bool false,AV.nils 1 [AV.int .u32 0]],Blk.box [AV.bool (toB ((toT (getV r0)).headD .dead)),AV.ro 1 (toN ((toT (getV r0)).tail.headD .dead)) (toR ((toT (getV r0)).tail.headD .dead)) (toG ((toT (getV r0)).tail.headD .dead))]].length 0] [])) 0,AV.ptr (xidx [Blk.box [AV.bool q4,AV.ro 1 qm qu qq,AV.bool z0,AV.ro 1 zd zl zj],Blk.box [AV.bool zy,AV.ro 1 wz w5 w6],Blk.box [AV.bool v4,AV.ro 1 z4 vd ve],Blk.box [AV.bool false,AV.nils 1 [AV.int .u32 0]],Blk.box [AV.bool (toB ((toT (getV r0)).headD .dead)),AV.ro 1 (toN ((toT (getV r0)).tail.headD .dead)) (toR ((toT (getV r0)).tail.headD .dead)) (toG ((toT (getV r0)).tail.headD .dead))]].length (xtoks [AV.ptr [Blk.box [AV.bool q4,AV.ro 1 qm qu qq,AV.bool z0,AV.ro 1 zd zl zj],Blk.box [AV.bool zy,AV.ro 1 wz w5 w6],Blk.box [AV.bool v4,AV.ro 1 z4 vd ve],Blk.box [AV.bool false,AV.nils 1 [AV.int .u32 0]],Blk.box [AV.bool (toB ((toT (getV r0)).headD .dead)),AV.ro 1 (toN ((toT (getV r0)).tail.headD .dead)) (toR ((toT (getV r0)).tail.headD .dead)) (toG ((toT (getV r0)).tail.headD .dead))],Blk.box [AV.bool false,AV.nils 1 [AV.int .u32 0]],Blk.box [AV.bool (toB ((toT (getV r1)).headD .dead)),AV.ro 1 (toN ((toT (getV r1)).tail.headD .dead)) (toR ((toT (getV r1)).tail.headD .dead)) (toG ((toT (getV r1)).tail.headD .dead))]].length 0,AV.ptr [Blk.box [AV.bool q4,AV.ro 1 qm qu qq,AV.bool z0,AV.ro 1 zd zl zj],Blk.box [AV.bool zy,AV.ro 1 wz w5 w6],Blk.box [AV.bool v4,AV.ro 1 z4 vd ve],Blk.box [AV.bool false,AV.nils 1 [AV.int .u32 0]],Blk.box [AV.bool (toB ((toT (getV r0)).headD .dead)),AV.ro 1 (toN ((toT (getV r0)).tail.headD .dead)) (toR ((toT (getV r0)).tail.headD .dead)) (toG ((toT (getV r0)).tail.headD .dead))]].length 0] [])) 0,AV.bool false,AV.ro 1 0 0 fun (x j : Nat) => [AV.int .u32 0].getD j AV.dead,AV.bool false,AV.ro 1 0 0 fun (x j : Nat) => [AV.int .u32 0].getD j AV.dead]; ck (okX [RS.one LK.b,RS.one (LK.l 1),RS.one LK.b,RS.one (LK.l 1)] r2) <| let r3 : Option AV := zu [AV.ptr (xidx [Blk.box [AV.bool q4,AV.ro 1 qm qu qq,AV.bool z0,AV.ro 1 zd zl zj],Blk.box [AV.bool zy,AV.ro 1 wz w5 w6],Blk.box [AV.bool v4,AV.ro 1 z4 vd ve],Blk.box [AV.bool false,AV.nils 1 [AV.int .u32 0]],Blk.box [AV.bool (toB ((toT (getV r0)).headD .dead)),AV.ro 1 (toN ((toT (getV r0)).tail.headD .dead)) (toR ((toT (getV r0)).tail.headD .dead)) (toG ((toT (getV r0)).tail.headD .dead))],Blk.box [AV.bool (toB ((toT (getV r2)).tail.tail.headD .dead)),AV.ro 1 (toN ((toT (getV r2)).tail.tail.tail.headD .dead)) (toR ((toT (getV r2)).tail.tail.tail.headD .dead)) (toG ((toT (getV r2)).tail.tail.tail.headD .dead))],Blk.box [AV.bool (toB ((toT (getV r1)).headD .dead)),AV.ro 1 (toN ((toT (getV r1)).tail.headD .dead)) (toR ((toT (getV r1)).tail.headD .dead)) (toG ((toT (getV r1)).tail.headD .dead))],Blk.box [AV.bool (toB ((toT (getV r2)).headD .dead)),AV.ro 1 (toN ((toT (getV r2)).tail.headD .dead)) (toR ((toT (getV r2)).tail.headD .dead)) (toG ((toT (getV r2)).tail.headD .dead))]].length (xtoks [AV.ptr [Blk.box [AV.bool q4,AV.ro 1 qm qu qq,AV.bool z0,AV.ro 1 zd zl zj],Blk.box [AV.bool zy,AV.ro 1 wz w5 w6],Blk.box [AV.bool v4,AV.ro 1 z4 vd ve],Blk.box [AV.bool false,AV.nils 1 [AV.int .u32 0]],Blk.box [AV.bool (toB ((toT (getV r0)).headD .dead)),AV.ro 1 (toN ((toT (getV r0)).tail.headD .dead)) (toR ((toT (getV r0)).tail.headD .dead)) (toG ((toT (getV r0)).tail.headD .dead))],Blk.box [AV.bool (toB ((toT (getV r2)).tail.tail.headD .dead)),AV.ro 1 (toN ((toT (getV r2)).tail.tail.tail.headD .dead)) (toR ((toT (getV r2)).tail.tail.tail.headD .dead)) (toG ((toT (getV r2)).tail.tail.tail.headD .dead))],Blk.box [AV.bool (toB ((toT (getV r1)).headD .dead)),AV.ro 1 (toN ((toT (getV r1)).tail.headD .dead)) (toR ((toT (getV r1)).tail.headD .dead)) (toG ((toT (getV r1)).tail.headD .dead))],Blk.box [AV.bool (toB ((toT (getV r2)).headD .dead)),AV.ro 1 (toN ((toT (getV r2)).tail.headD .dead)) (toR ((toT (getV r2)).tail.headD .dead)) (toG ((toT (getV r2)).tail.headD .dead))]].length 0,AV.ptr (xren (xtoks [AV.int .i64 1] []) [Blk.box [AV.bool q4,AV.ro 1 qm qu qq,AV.bool z0,AV.ro 1 zd zl zj],Blk.box [AV.bool zy,AV.ro 1 wz w5 w6],Blk.box [AV.bool v4,AV.ro 1 z4 vd ve],Blk.box [AV.bool false,AV.nils 1 [AV.int .u32 0]],Blk.box [AV.bool (toB ((toT (getV r0)).headD .dead)),AV.ro 1 (toN ((toT (getV r0)).tail.headD .dead)) (toR ((toT (getV r0)).tail.headD .dead)) (toG ((toT (getV r0)).tail.headD .dead))],Blk.box [AV.bool false,AV.nils 1 [AV.int .u32 0]]].length 0) 0] [])) 0,AV.ptr (xidx (xren (xtoks [AV.int .i64 1] []) [Blk.box [AV.bool q4,AV.ro 1 qm qu qq,AV.bool z0,AV.ro 1 zd zl zj],Blk.box [AV.bool zy,AV.ro 1 wz w5 w6],Blk.box [AV.bool v4,AV.ro 1 z4 vd ve],Blk.box [AV.bool false,AV.nils 1 [AV.int .u32 0]],Blk.box [AV.bool (toB ((toT (getV r0)).headD .dead)),AV.ro 1 (toN ((toT (getV r0)).tail.headD .dead)) (toR ((toT (getV r0)).tail.headD .dead)) (toG ((toT (getV r0)).tail.headD .dead))],Blk.box [AV.bool false,AV.nils 1 [AV.int .u32 0]]].length 0) (xtoks [AV.ptr [Blk.box [AV.bool q4,AV.ro 1 qm qu qq,AV.bool z0,AV.ro 1 zd zl zj],Blk.box [AV.bool zy,AV.ro 1 wz w5 w6],Blk.box [AV.bool v4,AV.ro 1 z4 vd ve],Blk.box [AV.bool false,AV.nils 1 [AV.int .u32 0]],Blk.box [AV.bool (toB ((toT (getV r0)).headD .dead)),AV.ro 1 (toN ((toT (getV r0)).tail.headD .dead)) (toR ((toT (getV r0)).tail.headD .dead)) (toG ((toT (getV r0)).tail.headD .dead))],Blk.box [AV.bool (toB ((toT (getV r2)).tail.tail.headD .dead)),AV.ro 1 (toN ((toT (getV r2)).tail.tail.tail.headD .dead)) (toR ((toT (getV r2)).tail.tail.tail.headD .dead)) (toG ((toT (getV r2)).tail.tail.tail.headD .dead))],Blk.box [AV.bool (toB ((toT (getV r1)).headD .dead)),AV.ro 1 (toN ((toT (getV r1)).tail.headD .dead)) (toR ((toT (getV r1)).tail.headD .dead)) (toG ((toT (getV r1)).tail.headD .dead))],Blk.box [AV.bool (toB ((toT (getV r2)).headD .dead)),AV.ro 1 (toN ((toT (getV r2)).tail.headD .dead)) (toR ((toT (getV r2)).tail.headD .dead)) (toG ((toT (getV r2)).tail.headD .dead))]].length 0,AV.ptr (xren (xtoks [AV.int .i64 1] []) [Blk.box [AV.bool q4,AV.ro 1 qm qu qq,AV.bool z0,AV.ro 1 zd zl zj],Blk.box [AV.bool zy,AV.ro 1 wz w5 w6],Blk.box [AV.bool v4,AV.ro 1 z4 vd ve],Blk.box [AV.bool false,AV.nils 1 [AV.int .u32 0]],Blk.box [AV.bool (toB ((toT (getV r0)).headD .dead)),AV.ro 1 (toN ((toT (getV r0)).tail.headD .dead)) (toR ((toT (getV r0)).tail.headD .dead)) (toG ((toT (getV r0)).tail.headD .dead))],Blk.box [AV.bool false,AV.nils 1 [AV.int .u32 0]]].length 0) 0] [])) 0,AV.bool false,AV.ro 1 0 0 fun (x j : Nat) => [AV.int .u32 0].getD j AV.dead,AV.bool (toB ((toT (getV r1)).headD .dead)),AV.ro 1 (toN ((toT (getV r1)).tail.headD .dead)) (toR ((toT (getV r1)).tail.headD .dead)) (toG ((toT (getV r1)).tail.headD .dead))]; ck (okX [RS.one LK.b,RS.one (LK.l 1),RS.one LK.b,RS.one (LK.l 1)] r3) <| let r4 : Option AV := ys [AV.ptr (xidx 0 (xtoks [AV.ptr 0 0] [])) 0,AV.bool (toB ((toT (getV r2)).headD .dead)),AV.ro 1 (toN ((toT (getV r2)).tail.headD .dead)) (toR ((toT (getV r2)).tail.headD .dead)) (toG ((toT (getV r2)).tail.headD .dead)),AV.bool (toB ((toT (getV r3)).headD .dead)),AV.ro 1 (toN ((toT (getV r3)).tail.headD .dead)) (toR ((toT (getV r3)).tail.headD .dead)) (toG ((toT (getV r3)).tail.headD .dead))]; ck (okX [RS.one LK.b,RS.one (LK.l 1),RS.one LK.b,RS.one (LK.l 1)] r4) <| some (AV.tup [AV.bool (toB ((toT (getV r4)).headD .dead)),AV.ro 1 (toN ((toT (getV r4)).tail.headD .dead)) (toR ((toT (getV r4)).tail.headD .dead)) (toG ((toT (getV r4)).tail.headD .dead)),AV.bool (toB ((toT (getV r4)).tail.tail.headD .dead)),AV.ro 1 (toN ((toT (getV r4)).tail.tail.tail.headD .dead)) (toR ((toT (getV r4)).tail.tail.tail.headD .dead)) (toG ((toT (getV r4)).tail.tail.tail.headD .dead)),AV.bool zy,AV.ro 1 wz w5 w6,AV.bool v4,AV.ro 1 z4 vd ve])
    else let r5 : Option AV := zu [AV.ptr (xidx [Blk.box [AV.bool q4,AV.ro 1 qm qu qq,AV.bool z0,AV.ro 1 zd zl zj],Blk.box [AV.bool zy,AV.ro 1 wz w5 w6],Blk.box [AV.bool v4,AV.ro 1 z4 vd ve],Blk.box [AV.bool false,AV.nils 1 [AV.int .u32 0]],Blk.box [AV.bool (toB ((toT (getV r0)).headD .dead)),AV.ro 1 (toN ((toT (getV r0)).tail.headD .dead)) (toR ((toT (getV r0)).tail.headD .dead)) (toG ((toT (getV r0)).tail.headD .dead))]].length (xtoks [AV.ptr [Blk.box [AV.bool q4,AV.ro 1 qm qu qq,AV.bool z0,AV.ro 1 zd zl zj],Blk.box [AV.bool zy,AV.ro 1 wz w5 w6],Blk.box [AV.bool v4,AV.ro 1 z4 vd ve],Blk.box [AV.bool false,AV.nils 1 [AV.int .u32 0]],Blk.box [AV.bool (toB ((toT (getV r0)).headD .dead)),AV.ro 1 (toN ((toT (getV r0)).tail.headD .dead)) (toR ((toT (getV r0)).tail.headD .dead)) (toG ((toT (getV r0)).tail.headD .dead))]].length 0,AV.ptr [Blk.box [AV.bool q4,AV.ro 1 qm qu qq,AV.bool z0,AV.ro 1 zd zl zj],Blk.box [AV.bool zy,AV.ro 1 wz w5 w6],Blk.box [AV.bool v4,AV.ro 1 z4 vd ve]].length 0] [])) 0,AV.ptr (xidx [Blk.box [AV.bool q4,AV.ro 1 qm qu qq,AV.bool z0,AV.ro 1 zd zl zj],Blk.box [AV.bool zy,AV.ro 1 wz w5 w6],Blk.box [AV.bool v4,AV.ro 1 z4 vd ve]].length (xtoks [AV.ptr [Blk.box [AV.bool q4,AV.ro 1 qm qu qq,AV.bool z0,AV.ro 1 zd zl zj],Blk.box [AV.bool zy,AV.ro 1 wz w5 w6],Blk.box [AV.bool v4,AV.ro 1 z4 vd ve],Blk.box [AV.bool false,AV.nils 1 [AV.int .u32 0]],Blk.box [AV.bool (toB ((toT (getV r0)).headD .dead)),AV.ro 1 (toN ((toT (getV r0)).tail.headD .dead)) (toR ((toT (getV r0)).tail.headD .dead)) (toG ((toT (getV r0)).tail.headD .dead))]].length 0,AV.ptr [Blk.box [AV.bool q4,AV.ro 1 qm qu qq,AV.bool z0,AV.ro 1 zd zl zj],Blk.box [AV.bool zy,AV.ro 1 wz w5 w6],Blk.box [AV.bool v4,AV.ro 1 z4 vd ve]].length 0] [])) 0,AV.bool false,AV.ro 1 0 0 fun (x j : Nat) => [AV.int .u32 0].getD j AV.dead,AV.bool false,AV.ro 1 0 0 fun (x j : Nat) => [AV.int .u32 0].getD j AV.dead]; ck (okX [RS.one LK.b,RS.one (LK.l 1),RS.one LK.b,RS.one (LK.l 1)] r5) <| let r6 : Option AV := zu [AV.ptr (xidx [Blk.box [AV.bool q4,AV.ro 1 qm qu qq,AV.bool z0,AV.ro 1 zd zl zj],Blk.box [AV.bool zy,AV.ro 1 wz w5 w6],Blk.box [AV.bool v4,AV.ro 1 z4 vd ve],Blk.box [AV.bool (toB ((toT (getV r5)).tail.tail.headD .dead)),AV.ro 1 (toN ((toT (getV r5)).tail.tail.tail.headD .dead)) (toR ((toT (getV r5)).tail.tail.tail.headD .dead)) (toG ((toT (getV r5)).tail.tail.tail.headD .dead))],Blk.box [AV.bool (toB ((toT (getV r0)).headD .dead)),AV.ro 1 (toN ((toT (getV r0)).tail.headD .dead)) (toR ((toT (getV r0)).tail.headD .dead)) (toG ((toT (getV r0)).tail.headD .dead))],Blk.box [AV.bool (toB ((toT (getV r5)).headD .dead)),AV.ro 1 (toN ((toT (getV r5)).tail.headD .dead)) (toR ((toT (getV r5)).tail.headD .dead)) (toG ((toT (getV r5)).tail.headD .dead))]].length (xtoks [AV.ptr [Blk.box [AV.bool q4,AV.ro 1 qm qu qq,AV.bool z0,AV.ro 1 zd zl zj],Blk.box [AV.bool zy,AV.ro 1 wz w5 w6],Blk.box [AV.bool v4,AV.ro 1 z4 vd ve],Blk.box [AV.bool (toB ((toT (getV r5)).tail.tail.headD .dead)),AV.ro 1 (toN ((toT (getV r5)).tail.tail.tail.headD .dead)) (toR ((toT (getV r5)).tail.tail.tail.headD .dead)) (toG ((toT (getV r5)).tail.tail.tail.headD .dead))],Blk.box [AV.bool (toB ((toT (getV r0)).headD .dead)),AV.ro 1 (toN ((toT (getV r0)).tail.headD .dead)) (toR ((toT (getV r0)).tail.headD .dead)) (toG ((toT (getV r0)).tail.headD .dead))],Blk.box [AV.bool (toB ((toT (getV r5)).headD .dead)),AV.ro 1 (toN ((toT (getV r5)).tail.headD .dead)) (toR ((toT (getV r5)).tail.headD .dead)) (toG ((toT (getV r5)).tail.headD .dead))]].length 0,AV.ptr (xren (xtoks [AV.int .i64 1] []) [Blk.box [AV.bool q4,AV.ro 1 qm qu qq,AV.bool z0,AV.ro 1 zd zl zj],Blk.box [AV.bool zy,AV.ro 1 wz w5 w6],Blk.box [AV.bool v4,AV.ro 1 z4 vd ve],Blk.box [AV.bool false,AV.nils 1 [AV.int .u32 0]]].length 0) 0] [])) 0,AV.ptr (xidx (xren (xtoks [AV.int .i64 1] []) [Blk.box [AV.bool q4,AV.ro 1 qm qu qq,AV.bool z0,AV.ro 1 zd zl zj],Blk.box [AV.bool zy,AV.ro 1 wz w5 w6],Blk.box [AV.bool v4,AV.ro 1 z4 vd ve],Blk.box [AV.bool false,AV.nils 1 [AV.int .u32 0]]].length 0) (xtoks [AV.ptr [Blk.box [AV.bool q4,AV.ro 1 qm qu qq,AV.bool z0,AV.ro 1 zd zl zj],Blk.box [AV.bool zy,AV.ro 1 wz w5 w6],Blk.box [AV.bool v4,AV.ro 1 z4 vd ve],Blk.box [AV.bool (toB ((toT (getV r5)).tail.tail.headD .dead)),AV.ro 1 (toN ((toT (getV r5)).tail.tail.tail.headD .dead)) (toR ((toT (getV r5)).tail.tail.tail.headD .dead)) (toG ((toT (getV r5)).tail.tail.tail.headD .dead))],Blk.box [AV.bool (toB ((toT (getV r0)).headD .dead)),AV.ro 1 (toN ((toT (getV r0)).tail.headD .dead)) (toR ((toT (getV r0)).tail.headD .dead)) (toG ((toT (getV r0)).tail.headD .dead))],Blk.box [AV.bool (toB ((toT (getV r5)).headD .dead)),AV.ro 1 (toN ((toT (getV r5)).tail.headD .dead)) (toR ((toT (getV r5)).tail.headD .dead)) (toG ((toT (getV r5)).tail.headD .dead))]].length 0,AV.ptr (xren (xtoks [AV.int .i64 1] []) [Blk.box [AV.bool q4,AV.ro 1 qm qu qq,AV.bool z0,AV.ro 1 zd zl zj],Blk.box [AV.bool zy,AV.ro 1 wz w5 w6],Blk.box [AV.bool v4,AV.ro 1 z4 vd ve],Blk.box [AV.bool false,AV.nils 1 [AV.int .u32 0]]].length 0) 0] [])) 0,AV.bool false,AV.ro 1 0 0 fun (x j : Nat) => [AV.int .u32 0].getD j AV.dead,AV.bool (toB ((toT (getV r0)).headD .dead)),AV.ro 1 (toN ((toT (getV r0)).tail.headD .dead)) (toR ((toT (getV r0)).tail.headD .dead)) (toG ((toT (getV r0)).tail.headD .dead))]; ck (okX [RS.one LK.b,RS.one (LK.l 1),RS.one LK.b,RS.one (LK.l 1)] r6) <| let r7 : Option AV := ys [AV.ptr (xidx 0 (xtoks [AV.ptr 0 0] [])) 0,AV.bool (toB ((toT (getV r5)).headD .dead)),AV.ro 1 (toN ((toT (getV r5)).tail.headD .dead)) (toR ((toT (getV r5)).tail.headD .dead)) (toG ((toT (getV r5)).tail.headD .dead)),AV.bool (toB ((toT (getV r6)).headD .dead)),AV.ro 1 (toN ((toT (getV r6)).tail.headD .dead)) (toR ((toT (getV r6)).tail.headD .dead)) (toG ((toT (getV r6)).tail.headD .dead))]; ck (okX [RS.one LK.b,RS.one (LK.l 1),RS.one LK.b,RS.one (LK.l 1)] r7) <| some (AV.tup [AV.bool (toB ((toT (getV r7)).headD .dead)),AV.ro 1 (toN ((toT (getV r7)).tail.headD .dead)) (toR ((toT (getV r7)).tail.headD .dead)) (toG ((toT (getV r7)).tail.headD .dead)),AV.bool (toB ((toT (getV r7)).tail.tail.headD .dead)),AV.ro 1 (toN ((toT (getV r7)).tail.tail.tail.headD .dead)) (toR ((toT (getV r7)).tail.tail.tail.headD .dead)) (toG ((toT (getV r7)).tail.tail.tail.headD .dead)),AV.bool zy,AV.ro 1 wz w5 w6,AV.bool v4,AV.ro 1 z4 vd ve])
  else let r8 : Option AV := zu [AV.ptr (xidx [Blk.box [AV.bool q4,AV.ro 1 qm qu qq,AV.bool z0,AV.ro 1 zd zl zj],Blk.box [AV.bool zy,AV.ro 1 wz w5 w6],Blk.box [AV.bool v4,AV.ro 1 z4 vd ve]].length (xtoks [AV.ptr [Blk.box [AV.bool q4,AV.ro 1 qm qu qq,AV.bool z0,AV.ro 1 zd zl zj],Blk.box [AV.bool zy,AV.ro 1 wz w5 w6],Blk.box [AV.bool v4,AV.ro 1 z4 vd ve]].length 0,AV.ptr 1 0] [])) 0,AV.ptr (xidx 1 (xtoks [AV.ptr [Blk.box [AV.bool q4,AV.ro 1 qm qu qq,AV.bool z0,AV.ro 1 zd zl zj],Blk.box [AV.bool zy,AV.ro 1 wz w5 w6],Blk.box [AV.bool v4,AV.ro 1 z4 vd ve]].length 0,AV.ptr 1 0] [])) 0,AV.bool false,AV.ro 1 0 0 fun (x j : Nat) => [AV.int .u32 0].getD j AV.dead,AV.bool zy,AV.ro 1 wz w5 w6]; ck (okX [RS.one LK.b,RS.one (LK.l 1),RS.one LK.b,RS.one (LK.l 1)] r8) <| let r9 : Option AV := zu [AV.ptr (xidx [Blk.box [AV.bool q4,AV.ro 1 qm qu qq,AV.bool z0,AV.ro 1 zd zl zj],Blk.box [AV.bool (toB ((toT (getV r8)).tail.tail.headD .dead)),AV.ro 1 (toN ((toT (getV r8)).tail.tail.tail.headD .dead)) (toR ((toT (getV r8)).tail.tail.tail.headD .dead)) (toG ((toT (getV r8)).tail.tail.tail.headD .dead))],Blk.box [AV.bool v4,AV.ro 1 z4 vd ve],Blk.box [AV.bool (toB ((toT (getV r8)).headD .dead)),AV.ro 1 (toN ((toT (getV r8)).tail.headD .dead)) (toR ((toT (getV r8)).tail.headD .dead)) (toG ((toT (getV r8)).tail.headD .dead))]].length (xtoks [AV.ptr [Blk.box [AV.bool q4,AV.ro 1 qm qu qq,AV.bool z0,AV.ro 1 zd zl zj],Blk.box [AV.bool (toB ((toT (getV r8)).tail.tail.headD .dead)),AV.ro 1 (toN ((toT (getV r8)).tail.tail.tail.headD .dead)) (toR ((toT (getV r8)).tail.tail.tail.headD .dead)) (toG ((toT (getV r8)).tail.tail.tail.headD .dead))],Blk.box [AV.bool v4,AV.ro 1 z4 vd ve],Blk.box [AV.bool (toB ((toT (getV r8)).headD .dead)),AV.ro 1 (toN ((toT (getV r8)).tail.headD .dead)) (toR ((toT (getV r8)).tail.headD .dead)) (toG ((toT (getV r8)).tail.headD .dead))]].length 0,AV.ptr 2 0] [])) 0,AV.ptr (xidx 2 (xtoks [AV.ptr [Blk.box [AV.bool q4,AV.ro 1 qm qu qq,AV.bool z0,AV.ro 1 zd zl zj],Blk.box [AV.bool (toB ((toT (getV r8)).tail.tail.headD .dead)),AV.ro 1 (toN ((toT (getV r8)).tail.tail.tail.headD .dead)) (toR ((toT (getV r8)).tail.tail.tail.headD .dead)) (toG ((toT (getV r8)).tail.tail.tail.headD .dead))],Blk.box [AV.bool v4,AV.ro 1 z4 vd ve],Blk.box [AV.bool (toB ((toT (getV r8)).headD .dead)),AV.ro 1 (toN ((toT (getV r8)).tail.headD .dead)) (toR ((toT (getV r8)).tail.headD .dead)) (toG ((toT (getV r8)).tail.headD .dead))]].length 0,AV.ptr 2 0] [])) 0,AV.bool false,AV.ro 1 0 0 fun (x j : Nat) => [AV.int .u32 0].getD j AV.dead,AV.bool v4,AV.ro 1 z4 vd ve]; ck (okX [RS.one LK.b,RS.one (LK.l 1),RS.one LK.b,RS.one (LK.l 1)] r9) <| let r10 : Option AV := ys [AV.ptr (xidx 0 (xtoks [AV.ptr 0 0] [])) 0,AV.bool (toB ((toT (getV r8)).headD .dead)),AV.ro 1 (toN ((toT (getV r8)).tail.headD .dead)) (toR ((toT (getV r8)).tail.headD .dead)) (toG ((toT (getV r8)).tail.headD .dead)),AV.bool (toB ((toT (getV r9)).headD .dead)),AV.ro 1 (toN ((toT (getV r9)).tail.headD .dead)) (toR ((toT (getV r9)).tail.headD .dead)) (toG ((toT (getV r9)).tail.headD .dead))]; ck (okX [RS.one LK.b,RS.one (LK.l 1),RS.one LK.b,RS.one (LK.l 1)] r10) <| some (AV.tup [AV.bool (toB ((toT (getV r10)).headD .dead)),AV.ro 1 (toN ((toT (getV r10)).tail.headD .dead)) (toR ((toT (getV r10)).tail.headD .dead)) (toG ((toT (getV r10)).tail.headD .dead)),AV.bool (toB ((toT (getV r10)).tail.tail.headD .dead)),AV.ro 1 (toN ((toT (getV r10)).tail.tail.tail.headD .dead)) (toR ((toT (getV r10)).tail.tail.tail.headD .dead)) (toG ((toT (getV r10)).tail.tail.tail.headD .dead)),AV.bool (toB ((toT (getV r8)).tail.tail.headD .dead)),AV.ro 1 (toN ((toT (getV r8)).tail.tail.tail.headD .dead)) (toR ((toT (getV r8)).tail.tail.tail.headD .dead)) (toG ((toT (getV r8)).tail.tail.tail.headD .dead)),AV.bool (toB ((toT (getV r9)).tail.tail.headD .dead)),AV.ro 1 (toN ((toT (getV r9)).tail.tail.tail.headD .dead)) (toR ((toT (getV r9)).tail.tail.tail.headD .dead)) (toG ((toT (getV r9)).tail.tail.tail.headD .dead))])
theorem gRat_SetFrac_a_run (vn zu : Mo) (va ys : Mo) (fuel : Nat) (q4 : Bool) (qm qu : Nat) (qq : Ge) (z0 : Bool) (zd zl : Nat) (zj : Ge) (zy : Bool) (wz w5 : Nat) (w6 : Ge) (v4 : Bool) (z4 vd : Nat) (ve : Ge) : runX Pr (GRat_SetFrac_a vn zu va ys) [((2,52),LRat_SetFrac_a vn zu va ys fuel)] fuel 3 52 XRat_SetFrac_a [AV.ptr 0 0,AV.ptr 1 0,AV.ptr 2 0] [Blk.box [AV.bool q4,AV.ro 1 qm qu qq,AV.bool z0,AV.ro 1 zd zl zj],Blk.box [AV.bool zy,AV.ro 1 wz w5 w6],Blk.box [AV.bool v4,AV.ro 1 z4 vd ve]] = gRat_SetFrac_a vn zu va ys fuel q4 qm qu qq z0 zd zl zj zy wz w5 w6 v4 z4 vd ve := by kernel_rfl
noncomputable def mRat_SetFrac_a (vn zu : Mo) (va ys : Mo) (fuel : Nat) (xs : List AV) : Option AV := match xs with
  | [AV.ptr 0 0,AV.ptr 1 0,AV.ptr 2 0,AV.bool q4,AV.ro 1 qm qu qq,AV.bool z0,AV.ro 1 zd zl zj,AV.bool zy,AV.ro 1 wz w5 w6,AV.bool v4,AV.ro 1 z4 vd ve] => gRat_SetFrac_a vn zu va ys fuel q4 qm qu qq z0 zd zl zj zy wz w5 w6 v4 z4 vd ve
  | _ => none
theorem gRat_SetFrac_a_sm (vn zu : Mo) (va ys : Mo) (fuel : Nat) (hΓ : GamOk Pr (GRat_SetFrac_a vn zu va ys)) (hP : NamesOk Pr) : XOk Pr 52 (smX RRat_SetFrac_a XRat_SetFrac_a (mRat_SetFrac_a vn zu va ys fuel)) XRat_SetFrac_a := by
  refine smX_ok (fuel := fuel) hΓ hP (LamOk.of 2 52 (LRat_SetFrac_a vn zu va ys fuel) 0 (by kernel_rfl) (fun i hi => ?_)) 3 52 RRat_SetFrac_a XRat_SetFrac_a _ (fun xs0 ys0 v ha hb h => ?_)
  · match i,hi with
    | i + 0,hi => exact absurd hi (by omega)
  · skip
    have ha0 : xs0.length = 3 := ha
    clear ha
    obtain ⟨a0,xs1,rfl,ha1⟩ := len_cons ha0
    clear ha0
    obtain ⟨a1,xs2,rfl,ha2⟩ := len_cons ha1
    clear ha1
    obtain ⟨a2,xs3,rfl,ha3⟩ := len_cons ha2
    clear ha2
    obtain rfl := List.eq_nil_of_length_eq_zero ha3
    have hy0 : ys0.map List.length = [4,2,2] := hb
    clear hb
    obtain ⟨q4,ys1,rfl,hb0_0,hy1⟩ := map_cons' hy0
    clear hy0
    obtain ⟨c0_0,b0_1,rfl,hb0_1⟩ := len_cons hb0_0
    clear hb0_0
    obtain ⟨c0_1,z0,rfl,hb0_2⟩ := len_cons hb0_1
    clear hb0_1
    obtain ⟨c0_2,b0_3,rfl,hb0_3⟩ := len_cons hb0_2
    clear hb0_2
    obtain ⟨c0_3,b0_4,rfl,hb0_4⟩ := len_cons hb0_3
    clear hb0_3
    obtain rfl := List.eq_nil_of_length_eq_zero hb0_4
    obtain ⟨zy,ys2,rfl,hb1_0,hy2⟩ := map_cons' hy1
    clear hy1
    obtain ⟨c1_0,b1_1,rfl,hb1_1⟩ := len_cons hb1_0
    clear hb1_0
    obtain ⟨c1_1,qac,rfl,hb1_2⟩ := len_cons hb1_1
    clear hb1_1
    obtain rfl := List.eq_nil_of_length_eq_zero hb1_2
    obtain ⟨v4,ys3,rfl,hb2_0,hy3⟩ := map_cons' hy2
    clear hy2
    obtain ⟨c2_0,b2_1,rfl,hb2_1⟩ := len_cons hb2_0
    clear hb2_0
    obtain ⟨c2_1,qdl,rfl,hb2_2⟩ := len_cons hb2_1
    clear hb2_1
    obtain rfl := List.eq_nil_of_length_eq_zero hb2_2
    obtain rfl := map_nil' hy3
    have h : mRat_SetFrac_a vn zu va ys fuel [a0,a1,a2,c0_0,c0_1,c0_2,c0_3,c1_0,c1_1,c2_0,c2_1] = some v := h
    generalize hx0 : [a0,a1,a2,c0_0,c0_1,c0_2,c0_3,c1_0,c1_1,c2_0,c2_1] = zs at h
    unfold mRat_SetFrac_a at h
    split at h
    · skip
      obtain ⟨rfl,hx1⟩ := List.cons.inj hx0
      obtain ⟨rfl,hx2⟩ := List.cons.inj hx1
      obtain ⟨rfl,hx3⟩ := List.cons.inj hx2
      obtain ⟨rfl,hx4⟩ := List.cons.inj hx3
      obtain ⟨rfl,hx5⟩ := List.cons.inj hx4
      obtain ⟨rfl,hx6⟩ := List.cons.inj hx5
      obtain ⟨rfl,hx7⟩ := List.cons.inj hx6
      obtain ⟨rfl,hx8⟩ := List.cons.inj hx7
      obtain ⟨rfl,hx9⟩ := List.cons.inj hx8
      obtain ⟨rfl,hx10⟩ := List.cons.inj hx9
      obtain ⟨rfl,hx11⟩ := List.cons.inj hx10
      simp only [List.map_cons,List.map_nil]
      exact (gRat_SetFrac_a_run vn zu va ys fuel _ _ _ _ _ _ _ _ _ _ _ _ _ _ _ _).trans h
    · cases h
noncomputable def Sexact_Whole_a_0 (pk pr : Nat) (y5 : Ge) (qc1 qa7 qdq : Nat) (u11 u12 : Int) (h0z : List AV) (h0e : List (List AV)) : St := { env := [(0,AV.ro 1 pk pr y5),(3,AV.own 0 qc1 1 qa7 qdq),(11,AV.int .i64 u11),(12,AV.int .i64 u12)],h := [Blk.fx 1 h0z h0e],kd := [] }
noncomputable def Xexact_Whole_a_0_0 (qkj qka qkd : Nat) (yk : List AV) (yj : List (List AV)) : St := { env := [(3,AV.own 0 qkj 1 qka qkd)],h := [Blk.fx 1 yk yj],kd := [] }
noncomputable def gexact_Whole_a_l0_step (qi : Mo) (fuel : Nat) (kn : Int → List (List AV) → Option AV) (kx0 : Nat → Nat → Nat → List AV → List (List AV) → Option AV) (pk pr : Nat) (y5 : Ge) (qc1 qa7 qdq : Nat) (u11 : Int) (h0z : List AV) (u12 : Int) (h0e : List (List AV)) : Option AV :=
  bif decide (u12 < u11) then ck (decide (0 ≤ IntKind.i64.wrap ((IntKind.i64.wrap (IntKind.i64.wrap ((↑qa7 : Int) - 1) - u12)).tdiv 8))) <| ck (decide (IntKind.i64.wrap ((IntKind.i64.wrap (IntKind.i64.wrap ((↑qa7 : Int) - 1) - u12)).tdiv 8) < (↑pk : Int))) <| ck (fitK (LK.i .u64) (y5 (IntKind.i64.wrap ((IntKind.i64.wrap (IntKind.i64.wrap ((↑qa7 : Int) - 1) - u12)).tdiv 8)).toNat 0)) <| ck (decide (0 ≤ IntKind.i64.wrap (8 * (IntKind.i64.wrap (IntKind.i64.wrap ((↑qa7 : Int) - 1) - u12)).tmod 8))) <| ck (decide (0 ≤ u12)) <| ck (decide (u12 < (↑qa7 : Int))) <| kn (IntKind.i64.wrap (u12 + 1)) (h0e.set (qc1 + u12.toNat) (AV.int .u8 (IntKind.u8.wrap ((toI (y5 (IntKind.i64.wrap ((IntKind.i64.wrap (IntKind.i64.wrap ((↑qa7 : Int) - 1) - u12)).tdiv 8)).toNat 0)).fdiv (2 ^ min (IntKind.i64.wrap (8 * (IntKind.i64.wrap (IntKind.i64.wrap ((↑qa7 : Int) - 1) - u12)).tmod 8)).toNat 64))) :: List.drop (0 + [AV.int .u8 (IntKind.u8.wrap ((toI (y5 (IntKind.i64.wrap ((IntKind.i64.wrap (IntKind.i64.wrap ((↑qa7 : Int) - 1) - u12)).tdiv 8)).toNat 0)).fdiv (2 ^ min (IntKind.i64.wrap (8 * (IntKind.i64.wrap (IntKind.i64.wrap ((↑qa7 : Int) - 1) - u12)).tmod 8)).toNat 64)))].length) (h0e.getD (qc1 + u12.toNat) h0z)))
  else kx0 qc1 qa7 qdq h0z h0e
noncomputable def gexact_Whole_a_l0 (qi : Mo) (fuel : Nat) (kx0 : Nat → Nat → Nat → List AV → List (List AV) → Option AV) (pk pr : Nat) (y5 : Ge) (qc1 qa7 qdq : Nat) (u11 : Int) (h0z : List AV) : Nat → Int → List (List AV) → Option AV
  | 0,_,_ => none
  | n' + 1,u12,h0e => gexact_Whole_a_l0_step qi fuel (gexact_Whole_a_l0 qi fuel kx0 pk pr y5 qc1 qa7 qdq u11 h0z n') kx0 pk pr y5 qc1 qa7 qdq u11 h0z u12 h0e
noncomputable def Texact_Whole_a_0 : TS' := ⟨[(0,TA.ro 1),(3,TA.own 0 1),(11,TA.i .i64),(12,TA.i .i64)],[TB.fx 1],[]⟩
noncomputable def Fexact_Whole_a_0 (qi : Mo) (fuel : Nat) (ps : List Pay) (K : Ex → St → Option AV) : Option AV := match ps with
  | .n pk :: .n pr :: .g y5 :: .n qc1 :: .n qa7 :: .n qdq :: .i u11 :: .i u12 :: .z h0z :: .e h0e :: [] => gexact_Whole_a_l0 qi fuel (fun qkj qka qkd yk yj => K (Ex.exit 0) (Xexact_Whole_a_0_0 qkj qka qkd yk yj)) pk pr y5 qc1 qa7 qdq u11 h0z fuel u12 h0e
  | _ => none
noncomputable def Lexact_Whole_a (qi : Mo) (fuel : Nat) : Lam AV := [(17179865136,lam Texact_Whole_a_0 (Fexact_Whole_a_0 qi fuel))]
noncomputable def Gexact_Whole_a (qi : Mo) : Gam := [(81,smX RInt_SetBytes_a XInt_SetBytes_a qi)]
theorem gexact_Whole_a_l0_eq (qi : Mo) (fuel : Nat) (kn : St → Option AV) (K : Ex → St → Option AV) (pk pr : Nat) (y5 : Ge) (qc1 qa7 qdq : Nat) (u11 : Int) (h0z : List AV) (qju : Int) (pj : List (List AV)) (u12 : Int) (h0e : List (List AV)) :
    bX Pr (Gexact_Whole_a qi) (Lexact_Whole_a qi fuel) 6 57 0 fuel (Sexact_Whole_a_0 pk pr y5 qc1 qa7 qdq u11 u12 h0z h0e) (fun e s => match e with | .normal => kn (hX Pr 57 0 (Sexact_Whole_a_0 pk pr y5 qc1 qa7 qdq u11 qju h0z pj) s) | e => K e s) =
    gexact_Whole_a_l0_step qi fuel (fun u12 h0e => kn (Sexact_Whole_a_0 pk pr y5 qc1 qa7 qdq u11 u12 h0z h0e)) (fun qhi qhl qhn v0 vy => K (Ex.exit 0) (Xexact_Whole_a_0_0 qhi qhl qhn v0 vy)) pk pr y5 qc1 qa7 qdq u11 h0z u12 h0e := by kernel_rfl
theorem gexact_Whole_a_l0_ok (qi : Mo) (fuel : Nat) (K : Ex → St → Option AV) (pk pr : Nat) (y5 : Ge) (qc1 qa7 qdq : Nat) (u11 : Int) (h0z : List AV) (qju : Int) (pj : List (List AV)) : ∀ (n' : Nat) (u12 : Int) (h0e : List (List AV)),
    loopK (bX Pr (Gexact_Whole_a qi) (Lexact_Whole_a qi fuel) 6 57 0 fuel) (hX Pr 57 0 (Sexact_Whole_a_0 pk pr y5 qc1 qa7 qdq u11 qju h0z pj)) n' (Sexact_Whole_a_0 pk pr y5 qc1 qa7 qdq u11 u12 h0z h0e) K = gexact_Whole_a_l0 qi fuel (fun qhi qhl qhn v0 vy => K (Ex.exit 0) (Xexact_Whole_a_0_0 qhi qhl qhn v0 vy)) pk pr y5 qc1 qa7 qdq u11 h0z n' u12 h0e
  | 0,_,_ => rfl
  | n' + 1,u12,h0e => (gexact_Whole_a_l0_eq qi fuel (fun s => loopK (bX Pr (Gexact_Whole_a qi) (Lexact_Whole_a qi fuel) 6 57 0 fuel) (hX Pr 57 0 (Sexact_Whole_a_0 pk pr y5 qc1 qa7 qdq u11 qju h0z pj)) n' s K) K pk pr y5 qc1 qa7 qdq u11 h0z qju pj u12 h0e).trans
    (congrArg (fun kn => gexact_Whole_a_l0_step qi fuel kn _ pk pr y5 qc1 qa7 qdq u11 h0z u12 h0e) (funext fun u12 => funext fun h0e => gexact_Whole_a_l0_ok qi fuel K pk pr y5 qc1 qa7 qdq u11 h0z qju pj n' u12 h0e))
theorem gexact_Whole_a_L0 (qi : Mo) (fuel : Nat) : LX Pr (Gexact_Whole_a qi) (Lexact_Whole_a qi fuel) 6 57 0 fuel := by
  refine .of Texact_Whole_a_0 (Fexact_Whole_a_0 qi fuel) (fun L h => ?_) (fun ps st K r he hr => ?_)
  · have e : (Lexact_Whole_a qi fuel).get (writes (lp Pr 57 0).1) = some (lam Texact_Whole_a_0 (Fexact_Whole_a_0 qi fuel)) := by kernel_rfl
    exact (Option.some.inj (e.symm.trans h)).symm
  · unfold Fexact_Whole_a_0 at hr
    split at hr
    · obtain rfl := (Option.some.inj he).symm
      exact (gexact_Whole_a_l0_ok qi fuel K _ _ _ _ _ _ _ _ _ _ fuel _ _).trans hr
    · cases hr
noncomputable def gexact_Whole_a (qi : Mo) (fuel y7 qa6 : Nat) (qan : Ge) : Option AV :=
  ck (decide (0 ≤ IntKind.i64.wrap (8 * (↑y7 : Int)))) <| ck (decide (IntKind.i64.wrap (8 * (↑y7 : Int)) ≤ IntKind.i64.wrap (8 * (↑y7 : Int)))) <| ck ((1 * (IntKind.i64.wrap (8 * (↑y7 : Int))).toNat).ble 281474976710656) <| ck (((IntKind.i64.wrap (8 * (↑y7 : Int))).toNat + 1).ble 4611686018427387904) <| gexact_Whole_a_l0 qi fuel
    (fun (qhi qhl qhn : Nat) (v0 : List AV) (vy : List (List AV)) => let r0 : Option AV := qi [AV.ptr (xidx [Blk.fx 1 v0 vy].length (xtoks [AV.ptr [Blk.fx 1 v0 vy].length 0,AV.own 0 qhi 1 qhl qhn] [])) 0,AV.ro 1 qhl qhn fun (i j : Nat) => (vy.getD (qhi + i) v0).getD j AV.dead,AV.bool false,AV.ro 1 0 0 fun (x j : Nat) => [AV.int .u32 0].getD j AV.dead]; ck (okX [RS.one LK.b,RS.one (LK.l 1)] r0) <| some (AV.tup [AV.bool (toB ((toT (getV r0)).headD .dead)),AV.ro 1 (toN ((toT (getV r0)).tail.headD .dead)) (toR ((toT (getV r0)).tail.headD .dead)) (toG ((toT (getV r0)).tail.headD .dead))]))
    y7
    qa6
    qan
    (0)
    ((IntKind.i64.wrap (8 * (↑y7 : Int))).toNat)
    ((IntKind.i64.wrap (8 * (↑y7 : Int))).toNat)
    ((↑(IntKind.i64.wrap (8 * (↑y7 : Int))).toNat : Int))
    ([AV.int .u8 0]) fuel (0) (List.replicate (IntKind.i64.wrap (8 * (↑y7 : Int))).toNat [AV.int .u8 0])
theorem gexact_Whole_a_run (qi : Mo) (fuel y7 qa6 : Nat) (qan : Ge) : runX Pr (Gexact_Whole_a qi) [((6,57),Lexact_Whole_a qi fuel)] fuel 7 57 Xexact_Whole_a [AV.ro 1 y7 qa6 qan] [] = gexact_Whole_a qi fuel y7 qa6 qan := by kernel_rfl
noncomputable def mexact_Whole_a (qi : Mo) (fuel : Nat) (xs : List AV) : Option AV := match xs with
  | [AV.ro 1 y7 qa6 qan] => gexact_Whole_a qi fuel y7 qa6 qan
  | _ => none
theorem gexact_Whole_a_sm (qi : Mo) (fuel : Nat) (hΓ : GamOk Pr (Gexact_Whole_a qi)) (hP : NamesOk Pr) : XOk Pr 57 (smX Rexact_Whole_a Xexact_Whole_a (mexact_Whole_a qi fuel)) Xexact_Whole_a := by
  refine smX_ok (fuel := fuel) hΓ hP (LamOk.of 6 57 (Lexact_Whole_a qi fuel) 1 (by kernel_rfl) (fun i hi => ?_)) 7 57 Rexact_Whole_a Xexact_Whole_a _ (fun xs0 ys0 v ha hb h => ?_)
  · match i,hi with
    | 0,_ => exact gexact_Whole_a_L0 qi fuel
    | i + 1,hi => exact absurd hi (by omega)
  · skip
    have ha0 : xs0.length = 1 := ha
    clear ha
    obtain ⟨a0,xs1,rfl,ha1⟩ := len_cons ha0
    clear ha0
    obtain rfl := List.eq_nil_of_length_eq_zero ha1
    have hy0 : ys0.map List.length = [] := hb
    clear hb
    obtain rfl := map_nil' hy0
    have h : mexact_Whole_a qi fuel [a0] = some v := h
    generalize hx0 : [a0] = zs at h
    unfold mexact_Whole_a at h
    split at h
    · skip
      obtain ⟨rfl,hx1⟩ := List.cons.inj hx0
      simp only [List.map_cons,List.map_nil]
      exact (gexact_Whole_a_run qi fuel _ _ _).trans h
    · cases h
noncomputable def Lexact_Fraction_a (vx z7 : Mo) (z1 z9 w7 : Mo) (fuel : Nat) : Lam AV := []
noncomputable def Gexact_Fraction_a (vx z7 : Mo) (z1 z9 w7 : Mo) : Gam := [(57,smX Rexact_Whole_a Xexact_Whole_a vx),(58,smX RInt_Neg_ra XInt_Neg_ra z7),(58,smX RInt_Neg_rb XInt_Neg_rb z1),(58,smX RInt_Neg_ii XInt_Neg_ii z9),(52,smX RRat_SetFrac_a XRat_SetFrac_a w7)]
noncomputable def gexact_Fraction_a (vx z7 : Mo) (z1 z9 w7 : Mo) (fuel : Nat) (qbv : Bool) (yv yw : Nat) (yu : Ge) (pe ph : Nat) (pi : Ge) : Option AV :=
  let r0 : Option AV := vx [AV.ro 1 yv yw yu]; ck (okX [RS.one LK.b,RS.one (LK.l 1)] r0) <| bif qbv then let r1 : Option AV := z9 [AV.ptr (xidx (xren (xtoks [AV.ro 1 yv yw yu] []) [Blk.box [AV.bool qbv,AV.ro 1 yv yw yu,AV.ro 1 pe ph pi]].length 0) (xtoks [AV.ptr (xren (xtoks [AV.ro 1 yv yw yu] []) [Blk.box [AV.bool qbv,AV.ro 1 yv yw yu,AV.ro 1 pe ph pi]].length 0) 0,AV.ptr (xren (xtoks [AV.ro 1 yv yw yu] []) [Blk.box [AV.bool qbv,AV.ro 1 yv yw yu,AV.ro 1 pe ph pi]].length 0) 0] [])) 0,AV.ptr (xidx (xren (xtoks [AV.ro 1 yv yw yu] []) [Blk.box [AV.bool qbv,AV.ro 1 yv yw yu,AV.ro 1 pe ph pi]].length 0) (xtoks [AV.ptr (xren (xtoks [AV.ro 1 yv yw yu] []) [Blk.box [AV.bool qbv,AV.ro 1 yv yw yu,AV.ro 1 pe ph pi]].length 0) 0,AV.ptr (xren (xtoks [AV.ro 1 yv yw yu] []) [Blk.box [AV.bool qbv,AV.ro 1 yv yw yu,AV.ro 1 pe ph pi]].length 0) 0] [])) 0,AV.bool (toB ((toT (getV r0)).headD .dead)),AV.ro 1 (toN ((toT (getV r0)).tail.headD .dead)) (toR ((toT (getV r0)).tail.headD .dead)) (toG ((toT (getV r0)).tail.headD .dead))]; ck (okX [RS.one LK.b,RS.one (LK.l 1)] r1) <| let r2 : Option AV := vx [AV.ro 1 pe ph pi]; ck (okX [RS.one LK.b,RS.one (LK.l 1)] r2) <| let r3 : Option AV := w7 [AV.ptr (xidx [Blk.box [AV.bool qbv,AV.ro 1 yv yw yu,AV.ro 1 pe ph pi],Blk.box [AV.bool (toB ((toT (getV r1)).headD .dead)),AV.ro 1 (toN ((toT (getV r1)).tail.headD .dead)) (toR ((toT (getV r1)).tail.headD .dead)) (toG ((toT (getV r1)).tail.headD .dead))]].length (xtoks [AV.ptr [Blk.box [AV.bool qbv,AV.ro 1 yv yw yu,AV.ro 1 pe ph pi],Blk.box [AV.bool (toB ((toT (getV r1)).headD .dead)),AV.ro 1 (toN ((toT (getV r1)).tail.headD .dead)) (toR ((toT (getV r1)).tail.headD .dead)) (toG ((toT (getV r1)).tail.headD .dead))]].length 0,AV.ptr (xren (xtoks [AV.ro 1 yv yw yu] []) [Blk.box [AV.bool qbv,AV.ro 1 yv yw yu,AV.ro 1 pe ph pi]].length 0) 0,AV.ptr (xren (xtoks [AV.ro 1 pe ph pi] []) [Blk.box [AV.bool qbv,AV.ro 1 yv yw yu,AV.ro 1 pe ph pi],Blk.box [AV.bool (toB ((toT (getV r1)).headD .dead)),AV.ro 1 (toN ((toT (getV r1)).tail.headD .dead)) (toR ((toT (getV r1)).tail.headD .dead)) (toG ((toT (getV r1)).tail.headD .dead))],Blk.box [AV.bool false,AV.nils 1 [AV.int .u32 0],AV.bool false,AV.nils 1 [AV.int .u32 0]]].length 0) 0] [])) 0,AV.ptr (xidx (xren (xtoks [AV.ro 1 yv yw yu] []) [Blk.box [AV.bool qbv,AV.ro 1 yv yw yu,AV.ro 1 pe ph pi]].length 0) (xtoks [AV.ptr [Blk.box [AV.bool qbv,AV.ro 1 yv yw yu,AV.ro 1 pe ph pi],Blk.box [AV.bool (toB ((toT (getV r1)).headD .dead)),AV.ro 1 (toN ((toT (getV r1)).tail.headD .dead)) (toR ((toT (getV r1)).tail.headD .dead)) (toG ((toT (getV r1)).tail.headD .dead))]].length 0,AV.ptr (xren (xtoks [AV.ro 1 yv yw yu] []) [Blk.box [AV.bool qbv,AV.ro 1 yv yw yu,AV.ro 1 pe ph pi]].length 0) 0,AV.ptr (xren (xtoks [AV.ro 1 pe ph pi] []) [Blk.box [AV.bool qbv,AV.ro 1 yv yw yu,AV.ro 1 pe ph pi],Blk.box [AV.bool (toB ((toT (getV r1)).headD .dead)),AV.ro 1 (toN ((toT (getV r1)).tail.headD .dead)) (toR ((toT (getV r1)).tail.headD .dead)) (toG ((toT (getV r1)).tail.headD .dead))],Blk.box [AV.bool false,AV.nils 1 [AV.int .u32 0],AV.bool false,AV.nils 1 [AV.int .u32 0]]].length 0) 0] [])) 0,AV.ptr (xidx (xren (xtoks [AV.ro 1 pe ph pi] []) [Blk.box [AV.bool qbv,AV.ro 1 yv yw yu,AV.ro 1 pe ph pi],Blk.box [AV.bool (toB ((toT (getV r1)).headD .dead)),AV.ro 1 (toN ((toT (getV r1)).tail.headD .dead)) (toR ((toT (getV r1)).tail.headD .dead)) (toG ((toT (getV r1)).tail.headD .dead))],Blk.box [AV.bool false,AV.nils 1 [AV.int .u32 0],AV.bool false,AV.nils 1 [AV.int .u32 0]]].length 0) (xtoks [AV.ptr [Blk.box [AV.bool qbv,AV.ro 1 yv yw yu,AV.ro 1 pe ph pi],Blk.box [AV.bool (toB ((toT (getV r1)).headD .dead)),AV.ro 1 (toN ((toT (getV r1)).tail.headD .dead)) (toR ((toT (getV r1)).tail.headD .dead)) (toG ((toT (getV r1)).tail.headD .dead))]].length 0,AV.ptr (xren (xtoks [AV.ro 1 yv yw yu] []) [Blk.box [AV.bool qbv,AV.ro 1 yv yw yu,AV.ro 1 pe ph pi]].length 0) 0,AV.ptr (xren (xtoks [AV.ro 1 pe ph pi] []) [Blk.box [AV.bool qbv,AV.ro 1 yv yw yu,AV.ro 1 pe ph pi],Blk.box [AV.bool (toB ((toT (getV r1)).headD .dead)),AV.ro 1 (toN ((toT (getV r1)).tail.headD .dead)) (toR ((toT (getV r1)).tail.headD .dead)) (toG ((toT (getV r1)).tail.headD .dead))],Blk.box [AV.bool false,AV.nils 1 [AV.int .u32 0],AV.bool false,AV.nils 1 [AV.int .u32 0]]].length 0) 0] [])) 0,AV.bool false,AV.ro 1 0 0 fun (x j : Nat) => [AV.int .u32 0].getD j AV.dead,AV.bool false,AV.ro 1 0 0 fun (x j : Nat) => [AV.int .u32 0].getD j AV.dead,AV.bool (toB ((toT (getV r1)).headD .dead)),AV.ro 1 (toN ((toT (getV r1)).tail.headD .dead)) (toR ((toT (getV r1)).tail.headD .dead)) (toG ((toT (getV r1)).tail.headD .dead)),AV.bool (toB ((toT (getV r2)).headD .dead)),AV.ro 1 (toN ((toT (getV r2)).tail.headD .dead)) (toR ((toT (getV r2)).tail.headD .dead)) (toG ((toT (getV r2)).tail.headD .dead))]; ck (okX [RS.one LK.b,RS.one (LK.l 1),RS.one LK.b,RS.one (LK.l 1),RS.one LK.b,RS.one (LK.l 1),RS.one LK.b,RS.one (LK.l 1)] r3) <| some (AV.tup [AV.bool (toB ((toT (getV r3)).headD .dead)),AV.ro 1 (toN ((toT (getV r3)).tail.headD .dead)) (toR ((toT (getV r3)).tail.headD .dead)) (toG ((toT (getV r3)).tail.headD .dead)),AV.bool (toB ((toT (getV r3)).tail.tail.headD .dead)),AV.ro 1 (toN ((toT (getV r3)).tail.tail.tail.headD .dead)) (toR ((toT (getV r3)).tail.tail.tail.headD .dead)) (toG ((toT (getV r3)).tail.tail.tail.headD .dead))])
  else let r4 : Option AV := vx [AV.ro 1 pe ph pi]; ck (okX [RS.one LK.b,RS.one (LK.l 1)] r4) <| let r5 : Option AV := w7 [AV.ptr (xidx [Blk.box [AV.bool qbv,AV.ro 1 yv yw yu,AV.ro 1 pe ph pi],Blk.box [AV.bool (toB ((toT (getV r0)).headD .dead)),AV.ro 1 (toN ((toT (getV r0)).tail.headD .dead)) (toR ((toT (getV r0)).tail.headD .dead)) (toG ((toT (getV r0)).tail.headD .dead))]].length (xtoks [AV.ptr [Blk.box [AV.bool qbv,AV.ro 1 yv yw yu,AV.ro 1 pe ph pi],Blk.box [AV.bool (toB ((toT (getV r0)).headD .dead)),AV.ro 1 (toN ((toT (getV r0)).tail.headD .dead)) (toR ((toT (getV r0)).tail.headD .dead)) (toG ((toT (getV r0)).tail.headD .dead))]].length 0,AV.ptr (xren (xtoks [AV.ro 1 yv yw yu] []) [Blk.box [AV.bool qbv,AV.ro 1 yv yw yu,AV.ro 1 pe ph pi]].length 0) 0,AV.ptr (xren (xtoks [AV.ro 1 pe ph pi] []) [Blk.box [AV.bool qbv,AV.ro 1 yv yw yu,AV.ro 1 pe ph pi],Blk.box [AV.bool (toB ((toT (getV r0)).headD .dead)),AV.ro 1 (toN ((toT (getV r0)).tail.headD .dead)) (toR ((toT (getV r0)).tail.headD .dead)) (toG ((toT (getV r0)).tail.headD .dead))],Blk.box [AV.bool false,AV.nils 1 [AV.int .u32 0],AV.bool false,AV.nils 1 [AV.int .u32 0]]].length 0) 0] [])) 0,AV.ptr (xidx (xren (xtoks [AV.ro 1 yv yw yu] []) [Blk.box [AV.bool qbv,AV.ro 1 yv yw yu,AV.ro 1 pe ph pi]].length 0) (xtoks [AV.ptr [Blk.box [AV.bool qbv,AV.ro 1 yv yw yu,AV.ro 1 pe ph pi],Blk.box [AV.bool (toB ((toT (getV r0)).headD .dead)),AV.ro 1 (toN ((toT (getV r0)).tail.headD .dead)) (toR ((toT (getV r0)).tail.headD .dead)) (toG ((toT (getV r0)).tail.headD .dead))]].length 0,AV.ptr (xren (xtoks [AV.ro 1 yv yw yu] []) [Blk.box [AV.bool qbv,AV.ro 1 yv yw yu,AV.ro 1 pe ph pi]].length 0) 0,AV.ptr (xren (xtoks [AV.ro 1 pe ph pi] []) [Blk.box [AV.bool qbv,AV.ro 1 yv yw yu,AV.ro 1 pe ph pi],Blk.box [AV.bool (toB ((toT (getV r0)).headD .dead)),AV.ro 1 (toN ((toT (getV r0)).tail.headD .dead)) (toR ((toT (getV r0)).tail.headD .dead)) (toG ((toT (getV r0)).tail.headD .dead))],Blk.box [AV.bool false,AV.nils 1 [AV.int .u32 0],AV.bool false,AV.nils 1 [AV.int .u32 0]]].length 0) 0] [])) 0,AV.ptr (xidx (xren (xtoks [AV.ro 1 pe ph pi] []) [Blk.box [AV.bool qbv,AV.ro 1 yv yw yu,AV.ro 1 pe ph pi],Blk.box [AV.bool (toB ((toT (getV r0)).headD .dead)),AV.ro 1 (toN ((toT (getV r0)).tail.headD .dead)) (toR ((toT (getV r0)).tail.headD .dead)) (toG ((toT (getV r0)).tail.headD .dead))],Blk.box [AV.bool false,AV.nils 1 [AV.int .u32 0],AV.bool false,AV.nils 1 [AV.int .u32 0]]].length 0) (xtoks [AV.ptr [Blk.box [AV.bool qbv,AV.ro 1 yv yw yu,AV.ro 1 pe ph pi],Blk.box [AV.bool (toB ((toT (getV r0)).headD .dead)),AV.ro 1 (toN ((toT (getV r0)).tail.headD .dead)) (toR ((toT (getV r0)).tail.headD .dead)) (toG ((toT (getV r0)).tail.headD .dead))]].length 0,AV.ptr (xren (xtoks [AV.ro 1 yv yw yu] []) [Blk.box [AV.bool qbv,AV.ro 1 yv yw yu,AV.ro 1 pe ph pi]].length 0) 0,AV.ptr (xren (xtoks [AV.ro 1 pe ph pi] []) [Blk.box [AV.bool qbv,AV.ro 1 yv yw yu,AV.ro 1 pe ph pi],Blk.box [AV.bool (toB ((toT (getV r0)).headD .dead)),AV.ro 1 (toN ((toT (getV r0)).tail.headD .dead)) (toR ((toT (getV r0)).tail.headD .dead)) (toG ((toT (getV r0)).tail.headD .dead))],Blk.box [AV.bool false,AV.nils 1 [AV.int .u32 0],AV.bool false,AV.nils 1 [AV.int .u32 0]]].length 0) 0] [])) 0,AV.bool false,AV.ro 1 0 0 fun (x j : Nat) => [AV.int .u32 0].getD j AV.dead,AV.bool false,AV.ro 1 0 0 fun (x j : Nat) => [AV.int .u32 0].getD j AV.dead,AV.bool (toB ((toT (getV r0)).headD .dead)),AV.ro 1 (toN ((toT (getV r0)).tail.headD .dead)) (toR ((toT (getV r0)).tail.headD .dead)) (toG ((toT (getV r0)).tail.headD .dead)),AV.bool (toB ((toT (getV r4)).headD .dead)),AV.ro 1 (toN ((toT (getV r4)).tail.headD .dead)) (toR ((toT (getV r4)).tail.headD .dead)) (toG ((toT (getV r4)).tail.headD .dead))]; ck (okX [RS.one LK.b,RS.one (LK.l 1),RS.one LK.b,RS.one (LK.l 1),RS.one LK.b,RS.one (LK.l 1),RS.one LK.b,RS.one (LK.l 1)] r5) <| some (AV.tup [AV.bool (toB ((toT (getV r5)).headD .dead)),AV.ro 1 (toN ((toT (getV r5)).tail.headD .dead)) (toR ((toT (getV r5)).tail.headD .dead)) (toG ((toT (getV r5)).tail.headD .dead)),AV.bool (toB ((toT (getV r5)).tail.tail.headD .dead)),AV.ro 1 (toN ((toT (getV r5)).tail.tail.tail.headD .dead)) (toR ((toT (getV r5)).tail.tail.tail.headD .dead)) (toG ((toT (getV r5)).tail.tail.tail.headD .dead))])
theorem gexact_Fraction_a_run (vx z7 : Mo) (z1 z9 w7 : Mo) (fuel : Nat) (qbv : Bool) (yv yw : Nat) (yu : Ge) (pe ph : Nat) (pi : Ge) : runX Pr (Gexact_Fraction_a vx z7 z1 z9 w7) [((6,27),Lexact_Fraction_a vx z7 z1 z9 w7 fuel)] fuel 7 27 Xexact_Fraction_a [AV.agg [AV.bool qbv,AV.ro 1 yv yw yu,AV.ro 1 pe ph pi]] [] = gexact_Fraction_a vx z7 z1 z9 w7 fuel qbv yv yw yu pe ph pi := by kernel_rfl
noncomputable def mexact_Fraction_a (vx z7 : Mo) (z1 z9 w7 : Mo) (fuel : Nat) (xs : List AV) : Option AV := match xs with
  | [AV.agg [AV.bool qbv,AV.ro 1 yv yw yu,AV.ro 1 pe ph pi]] => gexact_Fraction_a vx z7 z1 z9 w7 fuel qbv yv yw yu pe ph pi
  | _ => none
theorem gexact_Fraction_a_sm (vx z7 : Mo) (z1 z9 w7 : Mo) (fuel : Nat) (hΓ : GamOk Pr (Gexact_Fraction_a vx z7 z1 z9 w7)) (hP : NamesOk Pr) : XOk Pr 27 (smX Rexact_Fraction_a Xexact_Fraction_a (mexact_Fraction_a vx z7 z1 z9 w7 fuel)) Xexact_Fraction_a := by
  refine smX_ok (fuel := fuel) hΓ hP (LamOk.of 6 27 (Lexact_Fraction_a vx z7 z1 z9 w7 fuel) 0 (by kernel_rfl) (fun i hi => ?_)) 7 27 Rexact_Fraction_a Xexact_Fraction_a _ (fun xs0 ys0 v ha hb h => ?_)
  · match i,hi with
    | i + 0,hi => exact absurd hi (by omega)
  · skip
    have ha0 : xs0.length = 1 := ha
    clear ha
    obtain ⟨a0,xs1,rfl,ha1⟩ := len_cons ha0
    clear ha0
    obtain rfl := List.eq_nil_of_length_eq_zero ha1
    have hy0 : ys0.map List.length = [] := hb
    clear hb
    obtain rfl := map_nil' hy0
    have h : mexact_Fraction_a vx z7 z1 z9 w7 fuel [a0] = some v := h
    generalize hx0 : [a0] = zs at h
    unfold mexact_Fraction_a at h
    split at h
    · skip
      obtain ⟨rfl,hx1⟩ := List.cons.inj hx0
      simp only [List.map_cons,List.map_nil]
      exact (gexact_Fraction_a_run vx z7 z1 z9 w7 fuel _ _ _ _ _ _ _).trans h
    · cases h
noncomputable def LRat_den_b (vn : Mo) (fuel : Nat) : Lam AV := []
noncomputable def GRat_den_b (vn : Mo) : Gam := [(53,smX RNewInt_a XNewInt_a vn)]
noncomputable def gRat_den_b (vn : Mo) (fuel : Nat) (q4 : Bool) (qm qu : Nat) (qq : Ge) (z0 : Bool) (zd zl : Nat) (zj : Ge) : Option AV :=
  bif (↑zd : Int) == 0 then let r0 : Option AV := vn [AV.int .i64 1]; ck (okX [RS.one LK.b,RS.one (LK.l 1)] r0) <| none
  else some (AV.tup [AV.bool q4,AV.ro 1 qm qu qq,AV.bool z0,AV.ro 1 zd zl zj])
theorem gRat_den_b_run (vn : Mo) (fuel : Nat) (q4 : Bool) (qm qu : Nat) (qq : Ge) (z0 : Bool) (zd zl : Nat) (zj : Ge) : runX Pr (GRat_den_b vn) [((6,56),LRat_den_b vn fuel)] fuel 7 56 XRat_den_b [AV.ptr 0 0] [Blk.box [AV.bool q4,AV.ro 1 qm qu qq,AV.bool z0,AV.ro 1 zd zl zj]] = gRat_den_b vn fuel q4 qm qu qq z0 zd zl zj := by kernel_rfl
noncomputable def mRat_den_b (vn : Mo) (fuel : Nat) (xs : List AV) : Option AV := match xs with
  | [AV.ptr 0 0,AV.bool q4,AV.ro 1 qm qu qq,AV.bool z0,AV.ro 1 zd zl zj] => gRat_den_b vn fuel q4 qm qu qq z0 zd zl zj
  | _ => none
theorem gRat_den_b_sm (vn : Mo) (fuel : Nat) (hΓ : GamOk Pr (GRat_den_b vn)) (hP : NamesOk Pr) : XOk Pr 56 (smX RRat_den_b XRat_den_b (mRat_den_b vn fuel)) XRat_den_b := by
  refine smX_ok (fuel := fuel) hΓ hP (LamOk.of 6 56 (LRat_den_b vn fuel) 0 (by kernel_rfl) (fun i hi => ?_)) 7 56 RRat_den_b XRat_den_b _ (fun xs0 ys0 v ha hb h => ?_)
  · match i,hi with
    | i + 0,hi => exact absurd hi (by omega)
  · skip
    have ha0 : xs0.length = 1 := ha
    clear ha
    obtain ⟨a0,xs1,rfl,ha1⟩ := len_cons ha0
    clear ha0
    obtain rfl := List.eq_nil_of_length_eq_zero ha1
    have hy0 : ys0.map List.length = [4] := hb
    clear hb
    obtain ⟨q4,ys1,rfl,hb0_0,hy1⟩ := map_cons' hy0
    clear hy0
    obtain ⟨c0_0,b0_1,rfl,hb0_1⟩ := len_cons hb0_0
    clear hb0_0
    obtain ⟨c0_1,z0,rfl,hb0_2⟩ := len_cons hb0_1
    clear hb0_1
    obtain ⟨c0_2,b0_3,rfl,hb0_3⟩ := len_cons hb0_2
    clear hb0_2
    obtain ⟨c0_3,b0_4,rfl,hb0_4⟩ := len_cons hb0_3
    clear hb0_3
    obtain rfl := List.eq_nil_of_length_eq_zero hb0_4
    obtain rfl := map_nil' hy1
    have h : mRat_den_b vn fuel [a0,c0_0,c0_1,c0_2,c0_3] = some v := h
    generalize hx0 : [a0,c0_0,c0_1,c0_2,c0_3] = zs at h
    unfold mRat_den_b at h
    split at h
    · skip
      obtain ⟨rfl,hx1⟩ := List.cons.inj hx0
      obtain ⟨rfl,hx2⟩ := List.cons.inj hx1
      obtain ⟨rfl,hx3⟩ := List.cons.inj hx2
      obtain ⟨rfl,hx4⟩ := List.cons.inj hx3
      obtain ⟨rfl,hx5⟩ := List.cons.inj hx4
      simp only [List.map_cons,List.map_nil]
      exact (gRat_den_b_run vn fuel _ _ _ _ _ _ _ _).trans h
    · cases h
noncomputable def LRat_Mul_a (y9 y8 : Mo) (pn yx : Mo) (vf w7 : Mo) (fuel : Nat) : Lam AV := []
noncomputable def GRat_Mul_a (y9 y8 : Mo) (pn yx : Mo) (vf w7 : Mo) : Gam := [(55,smX RInt_Mul_rr XInt_Mul_rr y9),(55,smX RInt_Mul_bb XInt_Mul_bb y8),(55,smX RInt_Mul_ab XInt_Mul_ab pn),(55,smX RInt_Mul_iii XInt_Mul_iii yx),(56,smX RRat_den_b XRat_den_b vf),(52,smX RRat_SetFrac_a XRat_SetFrac_a w7)]
noncomputable def gRat_Mul_a (y9 y8 : Mo) (pn yx : Mo) (vf w7 : Mo) (fuel : Nat) (q4 : Bool) (qm qu : Nat) (qq : Ge) (z0 : Bool) (zd zl : Nat) (zj : Ge) (zy : Bool) (wz w5 : Nat) (w6 : Ge) (qac : Bool) (p0 py : Nat) (pz : Ge) : Option AV :=
  let r0 : Option AV := y9 [AV.ptr 0 0,AV.ptr 1 0,AV.ptr 2 0,AV.bool false,AV.ro 1 0 0 fun (x j : Nat) => [AV.int .u32 0].getD j AV.dead,AV.bool q4,AV.ro 1 qm qu qq,AV.bool z0,AV.ro 1 zd zl zj,AV.bool zy,AV.ro 1 wz w5 w6,AV.bool qac,AV.ro 1 p0 py pz]; ck (okX [RS.one LK.b,RS.one (LK.l 1),RS.one LK.b,RS.one (LK.l 1),RS.one LK.b,RS.one (LK.l 1),RS.one LK.b,RS.one (LK.l 1),RS.one LK.b,RS.one (LK.l 1)] r0) <| let r1 : Option AV := vf [AV.ptr (xidx 0 (xtoks [AV.ptr 0 0] [])) 0,AV.bool (toB ((toT (getV r0)).tail.tail.headD .dead)),AV.ro 1 (toN ((toT (getV r0)).tail.tail.tail.headD .dead)) (toR ((toT (getV r0)).tail.tail.tail.headD .dead)) (toG ((toT (getV r0)).tail.tail.tail.headD .dead)),AV.bool (toB ((toT (getV r0)).tail.tail.tail.tail.headD .dead)),AV.ro 1 (toN ((toT (getV r0)).tail.tail.tail.tail.tail.headD .dead)) (toR ((toT (getV r0)).tail.tail.tail.tail.tail.headD .dead)) (toG ((toT (getV r0)).tail.tail.tail.tail.tail.headD .dead))]; ck (okX [RS.one LK.b,RS.one (LK.l 1),RS.one LK.b,RS.one (LK.l 1)] r1) <| let r2 : Option AV := vf [AV.ptr (xidx 1 (xtoks [AV.ptr 1 0] [])) 0,AV.bool (toB ((toT (getV r0)).tail.tail.tail.tail.tail.tail.headD .dead)),AV.ro 1 (toN ((toT (getV r0)).tail.tail.tail.tail.tail.tail.tail.headD .dead)) (toR ((toT (getV r0)).tail.tail.tail.tail.tail.tail.tail.headD .dead)) (toG ((toT (getV r0)).tail.tail.tail.tail.tail.tail.tail.headD .dead)),AV.bool (toB ((toT (getV r0)).tail.tail.tail.tail.tail.tail.tail.tail.headD .dead)),AV.ro 1 (toN ((toT (getV r0)).tail.tail.tail.tail.tail.tail.tail.tail.tail.headD .dead)) (toR ((toT (getV r0)).tail.tail.tail.tail.tail.tail.tail.tail.tail.headD .dead)) (toG ((toT (getV r0)).tail.tail.tail.tail.tail.tail.tail.tail.tail.headD .dead))]; ck (okX [RS.one LK.b,RS.one (LK.l 1),RS.one LK.b,RS.one (LK.l 1)] r2) <| let r3 : Option AV := y8 [AV.ptr (xidx 3 (xtoks [AV.ptr 3 0,AV.ptr (xren (xtoks [AV.ptr 0 0] []) [Blk.box [AV.bool (toB ((toT (getV r0)).tail.tail.headD .dead)),AV.ro 1 (toN ((toT (getV r0)).tail.tail.tail.headD .dead)) (toR ((toT (getV r0)).tail.tail.tail.headD .dead)) (toG ((toT (getV r0)).tail.tail.tail.headD .dead)),AV.bool (toB ((toT (getV r0)).tail.tail.tail.tail.headD .dead)),AV.ro 1 (toN ((toT (getV r0)).tail.tail.tail.tail.tail.headD .dead)) (toR ((toT (getV r0)).tail.tail.tail.tail.tail.headD .dead)) (toG ((toT (getV r0)).tail.tail.tail.tail.tail.headD .dead))],Blk.gone,Blk.gone,Blk.gone].length 0) 2,AV.ptr (xren (xtoks [AV.ptr 1 0] []) [Blk.gone,Blk.box [AV.bool (toB ((toT (getV r0)).tail.tail.tail.tail.tail.tail.headD .dead)),AV.ro 1 (toN ((toT (getV r0)).tail.tail.tail.tail.tail.tail.tail.headD .dead)) (toR ((toT (getV r0)).tail.tail.tail.tail.tail.tail.tail.headD .dead)) (toG ((toT (getV r0)).tail.tail.tail.tail.tail.tail.tail.headD .dead)),AV.bool (toB ((toT (getV r0)).tail.tail.tail.tail.tail.tail.tail.tail.headD .dead)),AV.ro 1 (toN ((toT (getV r0)).tail.tail.tail.tail.tail.tail.tail.tail.tail.headD .dead)) (toR ((toT (getV r0)).tail.tail.tail.tail.tail.tail.tail.tail.tail.headD .dead)) (toG ((toT (getV r0)).tail.tail.tail.tail.tail.tail.tail.tail.tail.headD .dead))],Blk.gone,Blk.gone].length 0) 2] [])) 0,AV.ptr (xidx (xren (xtoks [AV.ptr 0 0] []) [Blk.box [AV.bool (toB ((toT (getV r0)).tail.tail.headD .dead)),AV.ro 1 (toN ((toT (getV r0)).tail.tail.tail.headD .dead)) (toR ((toT (getV r0)).tail.tail.tail.headD .dead)) (toG ((toT (getV r0)).tail.tail.tail.headD .dead)),AV.bool (toB ((toT (getV r0)).tail.tail.tail.tail.headD .dead)),AV.ro 1 (toN ((toT (getV r0)).tail.tail.tail.tail.tail.headD .dead)) (toR ((toT (getV r0)).tail.tail.tail.tail.tail.headD .dead)) (toG ((toT (getV r0)).tail.tail.tail.tail.tail.headD .dead))],Blk.gone,Blk.gone,Blk.gone].length 0) (xtoks [AV.ptr 3 0,AV.ptr (xren (xtoks [AV.ptr 0 0] []) [Blk.box [AV.bool (toB ((toT (getV r0)).tail.tail.headD .dead)),AV.ro 1 (toN ((toT (getV r0)).tail.tail.tail.headD .dead)) (toR ((toT (getV r0)).tail.tail.tail.headD .dead)) (toG ((toT (getV r0)).tail.tail.tail.headD .dead)),AV.bool (toB ((toT (getV r0)).tail.tail.tail.tail.headD .dead)),AV.ro 1 (toN ((toT (getV r0)).tail.tail.tail.tail.tail.headD .dead)) (toR ((toT (getV r0)).tail.tail.tail.tail.tail.headD .dead)) (toG ((toT (getV r0)).tail.tail.tail.tail.tail.headD .dead))],Blk.gone,Blk.gone,Blk.gone].length 0) 2,AV.ptr (xren (xtoks [AV.ptr 1 0] []) [Blk.gone,Blk.box [AV.bool (toB ((toT (getV r0)).tail.tail.tail.tail.tail.tail.headD .dead)),AV.ro 1 (toN ((toT (getV r0)).tail.tail.tail.tail.tail.tail.tail.headD .dead)) (toR ((toT (getV r0)).tail.tail.tail.tail.tail.tail.tail.headD .dead)) (toG ((toT (getV r0)).tail.tail.tail.tail.tail.tail.tail.headD .dead)),AV.bool (toB ((toT (getV r0)).tail.tail.tail.tail.tail.tail.tail.tail.headD .dead)),AV.ro 1 (toN ((toT (getV r0)).tail.tail.tail.tail.tail.tail.tail.tail.tail.headD .dead)) (toR ((toT (getV r0)).tail.tail.tail.tail.tail.tail.tail.tail.tail.headD .dead)) (toG ((toT (getV r0)).tail.tail.tail.tail.tail.tail.tail.tail.tail.headD .dead))],Blk.gone,Blk.gone].length 0) 2] [])) 2,AV.ptr (xidx (xren (xtoks [AV.ptr 1 0] []) [Blk.gone,Blk.box [AV.bool (toB ((toT (getV r0)).tail.tail.tail.tail.tail.tail.headD .dead)),AV.ro 1 (toN ((toT (getV r0)).tail.tail.tail.tail.tail.tail.tail.headD .dead)) (toR ((toT (getV r0)).tail.tail.tail.tail.tail.tail.tail.headD .dead)) (toG ((toT (getV r0)).tail.tail.tail.tail.tail.tail.tail.headD .dead)),AV.bool (toB ((toT (getV r0)).tail.tail.tail.tail.tail.tail.tail.tail.headD .dead)),AV.ro 1 (toN ((toT (getV r0)).tail.tail.tail.tail.tail.tail.tail.tail.tail.headD .dead)) (toR ((toT (getV r0)).tail.tail.tail.tail.tail.tail.tail.tail.tail.headD .dead)) (toG ((toT (getV r0)).tail.tail.tail.tail.tail.tail.tail.tail.tail.headD .dead))],Blk.gone,Blk.gone].length 0) (xtoks [AV.ptr 3 0,AV.ptr (xren (xtoks [AV.ptr 0 0] []) [Blk.box [AV.bool (toB ((toT (getV r0)).tail.tail.headD .dead)),AV.ro 1 (toN ((toT (getV r0)).tail.tail.tail.headD .dead)) (toR ((toT (getV r0)).tail.tail.tail.headD .dead)) (toG ((toT (getV r0)).tail.tail.tail.headD .dead)),AV.bool (toB ((toT (getV r0)).tail.tail.tail.tail.headD .dead)),AV.ro 1 (toN ((toT (getV r0)).tail.tail.tail.tail.tail.headD .dead)) (toR ((toT (getV r0)).tail.tail.tail.tail.tail.headD .dead)) (toG ((toT (getV r0)).tail.tail.tail.tail.tail.headD .dead))],Blk.gone,Blk.gone,Blk.gone].length 0) 2,AV.ptr (xren (xtoks [AV.ptr 1 0] []) [Blk.gone,Blk.box [AV.bool (toB ((toT (getV r0)).tail.tail.tail.tail.tail.tail.headD .dead)),AV.ro 1 (toN ((toT (getV r0)).tail.tail.tail.tail.tail.tail.tail.headD .dead)) (toR ((toT (getV r0)).tail.tail.tail.tail.tail.tail.tail.headD .dead)) (toG ((toT (getV r0)).tail.tail.tail.tail.tail.tail.tail.headD .dead)),AV.bool (toB ((toT (getV r0)).tail.tail.tail.tail.tail.tail.tail.tail.headD .dead)),AV.ro 1 (toN ((toT (getV r0)).tail.tail.tail.tail.tail.tail.tail.tail.tail.headD .dead)) (toR ((toT (getV r0)).tail.tail.tail.tail.tail.tail.tail.tail.tail.headD .dead)) (toG ((toT (getV r0)).tail.tail.tail.tail.tail.tail.tail.tail.tail.headD .dead))],Blk.gone,Blk.gone].length 0) 2] [])) 2,AV.bool false,AV.ro 1 0 0 fun (x j : Nat) => [AV.int .u32 0].getD j AV.dead,AV.bool (toB ((toT (getV r1)).headD .dead)),AV.ro 1 (toN ((toT (getV r1)).tail.headD .dead)) (toR ((toT (getV r1)).tail.headD .dead)) (toG ((toT (getV r1)).tail.headD .dead)),AV.bool (toB ((toT (getV r1)).tail.tail.headD .dead)),AV.ro 1 (toN ((toT (getV r1)).tail.tail.tail.headD .dead)) (toR ((toT (getV r1)).tail.tail.tail.headD .dead)) (toG ((toT (getV r1)).tail.tail.tail.headD .dead)),AV.bool (toB ((toT (getV r2)).headD .dead)),AV.ro 1 (toN ((toT (getV r2)).tail.headD .dead)) (toR ((toT (getV r2)).tail.headD .dead)) (toG ((toT (getV r2)).tail.headD .dead)),AV.bool (toB ((toT (getV r2)).tail.tail.headD .dead)),AV.ro 1 (toN ((toT (getV r2)).tail.tail.tail.headD .dead)) (toR ((toT (getV r2)).tail.tail.tail.headD .dead)) (toG ((toT (getV r2)).tail.tail.tail.headD .dead))]; ck (okX [RS.one LK.b,RS.one (LK.l 1),RS.one LK.b,RS.one (LK.l 1),RS.one LK.b,RS.one (LK.l 1),RS.one LK.b,RS.one (LK.l 1),RS.one LK.b,RS.one (LK.l 1)] r3) <| let r4 : Option AV := w7 [AV.ptr (xidx 0 (xtoks [AV.ptr 0 0,AV.ptr (xren (xtoks [AV.ptr 2 0,AV.ptr 0 0,AV.ptr 1 0] []) [Blk.box [AV.bool q4,AV.ro 1 qm qu qq,AV.bool z0,AV.ro 1 zd zl zj],Blk.box [AV.bool zy,AV.ro 1 wz w5 w6,AV.bool qac,AV.ro 1 p0 py pz],Blk.box [AV.bool false,AV.nils 1 [AV.int .u32 0]]].length 0) 0,AV.ptr (xren (xtoks [AV.ptr 3 0,AV.ptr (xren (xtoks [AV.ptr 0 0] []) [Blk.box [AV.bool (toB ((toT (getV r0)).tail.tail.headD .dead)),AV.ro 1 (toN ((toT (getV r0)).tail.tail.tail.headD .dead)) (toR ((toT (getV r0)).tail.tail.tail.headD .dead)) (toG ((toT (getV r0)).tail.tail.tail.headD .dead)),AV.bool (toB ((toT (getV r0)).tail.tail.tail.tail.headD .dead)),AV.ro 1 (toN ((toT (getV r0)).tail.tail.tail.tail.tail.headD .dead)) (toR ((toT (getV r0)).tail.tail.tail.tail.tail.headD .dead)) (toG ((toT (getV r0)).tail.tail.tail.tail.tail.headD .dead))],Blk.gone,Blk.gone,Blk.gone].length 0) 2,AV.ptr (xren (xtoks [AV.ptr 1 0] []) [Blk.gone,Blk.box [AV.bool (toB ((toT (getV r0)).tail.tail.tail.tail.tail.tail.headD .dead)),AV.ro 1 (toN ((toT (getV r0)).tail.tail.tail.tail.tail.tail.tail.headD .dead)) (toR ((toT (getV r0)).tail.tail.tail.tail.tail.tail.tail.headD .dead)) (toG ((toT (getV r0)).tail.tail.tail.tail.tail.tail.tail.headD .dead)),AV.bool (toB ((toT (getV r0)).tail.tail.tail.tail.tail.tail.tail.tail.headD .dead)),AV.ro 1 (toN ((toT (getV r0)).tail.tail.tail.tail.tail.tail.tail.tail.tail.headD .dead)) (toR ((toT (getV r0)).tail.tail.tail.tail.tail.tail.tail.tail.tail.headD .dead)) (toG ((toT (getV r0)).tail.tail.tail.tail.tail.tail.tail.tail.tail.headD .dead))],Blk.gone,Blk.gone].length 0) 2] []) [Blk.box [AV.bool (toB ((toT (getV r1)).headD .dead)),AV.ro 1 (toN ((toT (getV r1)).tail.headD .dead)) (toR ((toT (getV r1)).tail.headD .dead)) (toG ((toT (getV r1)).tail.headD .dead)),AV.bool (toB ((toT (getV r1)).tail.tail.headD .dead)),AV.ro 1 (toN ((toT (getV r1)).tail.tail.tail.headD .dead)) (toR ((toT (getV r1)).tail.tail.tail.headD .dead)) (toG ((toT (getV r1)).tail.tail.tail.headD .dead))],Blk.box [AV.bool (toB ((toT (getV r2)).headD .dead)),AV.ro 1 (toN ((toT (getV r2)).tail.headD .dead)) (toR ((toT (getV r2)).tail.headD .dead)) (toG ((toT (getV r2)).tail.headD .dead)),AV.bool (toB ((toT (getV r2)).tail.tail.headD .dead)),AV.ro 1 (toN ((toT (getV r2)).tail.tail.tail.headD .dead)) (toR ((toT (getV r2)).tail.tail.tail.headD .dead)) (toG ((toT (getV r2)).tail.tail.tail.headD .dead))],Blk.gone,Blk.box [AV.bool false,AV.nils 1 [AV.int .u32 0]]].length 0) 0] [])) 0,AV.ptr (xidx (xren (xtoks [AV.ptr 2 0,AV.ptr 0 0,AV.ptr 1 0] []) [Blk.box [AV.bool q4,AV.ro 1 qm qu qq,AV.bool z0,AV.ro 1 zd zl zj],Blk.box [AV.bool zy,AV.ro 1 wz w5 w6,AV.bool qac,AV.ro 1 p0 py pz],Blk.box [AV.bool false,AV.nils 1 [AV.int .u32 0]]].length 0) (xtoks [AV.ptr 0 0,AV.ptr (xren (xtoks [AV.ptr 2 0,AV.ptr 0 0,AV.ptr 1 0] []) [Blk.box [AV.bool q4,AV.ro 1 qm qu qq,AV.bool z0,AV.ro 1 zd zl zj],Blk.box [AV.bool zy,AV.ro 1 wz w5 w6,AV.bool qac,AV.ro 1 p0 py pz],Blk.box [AV.bool false,AV.nils 1 [AV.int .u32 0]]].length 0) 0,AV.ptr (xren (xtoks [AV.ptr 3 0,AV.ptr (xren (xtoks [AV.ptr 0 0] []) [Blk.box [AV.bool (toB ((toT (getV r0)).tail.tail.headD .dead)),AV.ro 1 (toN ((toT (getV r0)).tail.tail.tail.headD .dead)) (toR ((toT (getV r0)).tail.tail.tail.headD .dead)) (toG ((toT (getV r0)).tail.tail.tail.headD .dead)),AV.bool (toB ((toT (getV r0)).tail.tail.tail.tail.headD .dead)),AV.ro 1 (toN ((toT (getV r0)).tail.tail.tail.tail.tail.headD .dead)) (toR ((toT (getV r0)).tail.tail.tail.tail.tail.headD .dead)) (toG ((toT (getV r0)).tail.tail.tail.tail.tail.headD .dead))],Blk.gone,Blk.gone,Blk.gone].length 0) 2,AV.ptr (xren (xtoks [AV.ptr 1 0] []) [Blk.gone,Blk.box [AV.bool (toB ((toT (getV r0)).tail.tail.tail.tail.tail.tail.headD .dead)),AV.ro 1 (toN ((toT (getV r0)).tail.tail.tail.tail.tail.tail.tail.headD .dead)) (toR ((toT (getV r0)).tail.tail.tail.tail.tail.tail.tail.headD .dead)) (toG ((toT (getV r0)).tail.tail.tail.tail.tail.tail.tail.headD .dead)),AV.bool (toB ((toT (getV r0)).tail.tail.tail.tail.tail.tail.tail.tail.headD .dead)),AV.ro 1 (toN ((toT (getV r0)).tail.tail.tail.tail.tail.tail.tail.tail.tail.headD .dead)) (toR ((toT (getV r0)).tail.tail.tail.tail.tail.tail.tail.tail.tail.headD .dead)) (toG ((toT (getV r0)).tail.tail.tail.tail.tail.tail.tail.tail.tail.headD .dead))],Blk.gone,Blk.gone].length 0) 2] []) [Blk.box [AV.bool (toB ((toT (getV r1)).headD .dead)),AV.ro 1 (toN ((toT (getV r1)).tail.headD .dead)) (toR ((toT (getV r1)).tail.headD .dead)) (toG ((toT (getV r1)).tail.headD .dead)),AV.bool (toB ((toT (getV r1)).tail.tail.headD .dead)),AV.ro 1 (toN ((toT (getV r1)).tail.tail.tail.headD .dead)) (toR ((toT (getV r1)).tail.tail.tail.headD .dead)) (toG ((toT (getV r1)).tail.tail.tail.headD .dead))],Blk.box [AV.bool (toB ((toT (getV r2)).headD .dead)),AV.ro 1 (toN ((toT (getV r2)).tail.headD .dead)) (toR ((toT (getV r2)).tail.headD .dead)) (toG ((toT (getV r2)).tail.headD .dead)),AV.bool (toB ((toT (getV r2)).tail.tail.headD .dead)),AV.ro 1 (toN ((toT (getV r2)).tail.tail.tail.headD .dead)) (toR ((toT (getV r2)).tail.tail.tail.headD .dead)) (toG ((toT (getV r2)).tail.tail.tail.headD .dead))],Blk.gone,Blk.box [AV.bool false,AV.nils 1 [AV.int .u32 0]]].length 0) 0] [])) 0,AV.ptr (xidx (xren (xtoks [AV.ptr 3 0,AV.ptr (xren (xtoks [AV.ptr 0 0] []) [Blk.box [AV.bool (toB ((toT (getV r0)).tail.tail.headD .dead)),AV.ro 1 (toN ((toT (getV r0)).tail.tail.tail.headD .dead)) (toR ((toT (getV r0)).tail.tail.tail.headD .dead)) (toG ((toT (getV r0)).tail.tail.tail.headD .dead)),AV.bool (toB ((toT (getV r0)).tail.tail.tail.tail.headD .dead)),AV.ro 1 (toN ((toT (getV r0)).tail.tail.tail.tail.tail.headD .dead)) (toR ((toT (getV r0)).tail.tail.tail.tail.tail.headD .dead)) (toG ((toT (getV r0)).tail.tail.tail.tail.tail.headD .dead))],Blk.gone,Blk.gone,Blk.gone].length 0) 2,AV.ptr (xren (xtoks [AV.ptr 1 0] []) [Blk.gone,Blk.box [AV.bool (toB ((toT (getV r0)).tail.tail.tail.tail.tail.tail.headD .dead)),AV.ro 1 (toN ((toT (getV r0)).tail.tail.tail.tail.tail.tail.tail.headD .dead)) (toR ((toT (getV r0)).tail.tail.tail.tail.tail.tail.tail.headD .dead)) (toG ((toT (getV r0)).tail.tail.tail.tail.tail.tail.tail.headD .dead)),AV.bool (toB ((toT (getV r0)).tail.tail.tail.tail.tail.tail.tail.tail.headD .dead)),AV.ro 1 (toN ((toT (getV r0)).tail.tail.tail.tail.tail.tail.tail.tail.tail.headD .dead)) (toR ((toT (getV r0)).tail.tail.tail.tail.tail.tail.tail.tail.tail.headD .dead)) (toG ((toT (getV r0)).tail.tail.tail.tail.tail.tail.tail.tail.tail.headD .dead))],Blk.gone,Blk.gone].length 0) 2] []) [Blk.box [AV.bool (toB ((toT (getV r1)).headD .dead)),AV.ro 1 (toN ((toT (getV r1)).tail.headD .dead)) (toR ((toT (getV r1)).tail.headD .dead)) (toG ((toT (getV r1)).tail.headD .dead)),AV.bool (toB ((toT (getV r1)).tail.tail.headD .dead)),AV.ro 1 (toN ((toT (getV r1)).tail.tail.tail.headD .dead)) (toR ((toT (getV r1)).tail.tail.tail.headD .dead)) (toG ((toT (getV r1)).tail.tail.tail.headD .dead))],Blk.box [AV.bool (toB ((toT (getV r2)).headD .dead)),AV.ro 1 (toN ((toT (getV r2)).tail.headD .dead)) (toR ((toT (getV r2)).tail.headD .dead)) (toG ((toT (getV r2)).tail.headD .dead)),AV.bool (toB ((toT (getV r2)).tail.tail.headD .dead)),AV.ro 1 (toN ((toT (getV r2)).tail.tail.tail.headD .dead)) (toR ((toT (getV r2)).tail.tail.tail.headD .dead)) (toG ((toT (getV r2)).tail.tail.tail.headD .dead))],Blk.gone,Blk.box [AV.bool false,AV.nils 1 [AV.int .u32 0]]].length 0) (xtoks [AV.ptr 0 0,AV.ptr (xren (xtoks [AV.ptr 2 0,AV.ptr 0 0,AV.ptr 1 0] []) [Blk.box [AV.bool q4,AV.ro 1 qm qu qq,AV.bool z0,AV.ro 1 zd zl zj],Blk.box [AV.bool zy,AV.ro 1 wz w5 w6,AV.bool qac,AV.ro 1 p0 py pz],Blk.box [AV.bool false,AV.nils 1 [AV.int .u32 0]]].length 0) 0,AV.ptr (xren (xtoks [AV.ptr 3 0,AV.ptr (xren (xtoks [AV.ptr 0 0] []) [Blk.box [AV.bool (toB ((toT (getV r0)).tail.tail.headD .dead)),AV.ro 1 (toN ((toT (getV r0)).tail.tail.tail.headD .dead)) (toR ((toT (getV r0)).tail.tail.tail.headD .dead)) (toG ((toT (getV r0)).tail.tail.tail.headD .dead)),AV.bool (toB ((toT (getV r0)).tail.tail.tail.tail.headD .dead)),AV.ro 1 (toN ((toT (getV r0)).tail.tail.tail.tail.tail.headD .dead)) (toR ((toT (getV r0)).tail.tail.tail.tail.tail.headD .dead)) (toG ((toT (getV r0)).tail.tail.tail.tail.tail.headD .dead))],Blk.gone,Blk.gone,Blk.gone].length 0) 2,AV.ptr (xren (xtoks [AV.ptr 1 0] []) [Blk.gone,Blk.box [AV.bool (toB ((toT (getV r0)).tail.tail.tail.tail.tail.tail.headD .dead)),AV.ro 1 (toN ((toT (getV r0)).tail.tail.tail.tail.tail.tail.tail.headD .dead)) (toR ((toT (getV r0)).tail.tail.tail.tail.tail.tail.tail.headD .dead)) (toG ((toT (getV r0)).tail.tail.tail.tail.tail.tail.tail.headD .dead)),AV.bool (toB ((toT (getV r0)).tail.tail.tail.tail.tail.tail.tail.tail.headD .dead)),AV.ro 1 (toN ((toT (getV r0)).tail.tail.tail.tail.tail.tail.tail.tail.tail.headD .dead)) (toR ((toT (getV r0)).tail.tail.tail.tail.tail.tail.tail.tail.tail.headD .dead)) (toG ((toT (getV r0)).tail.tail.tail.tail.tail.tail.tail.tail.tail.headD .dead))],Blk.gone,Blk.gone].length 0) 2] []) [Blk.box [AV.bool (toB ((toT (getV r1)).headD .dead)),AV.ro 1 (toN ((toT (getV r1)).tail.headD .dead)) (toR ((toT (getV r1)).tail.headD .dead)) (toG ((toT (getV r1)).tail.headD .dead)),AV.bool (toB ((toT (getV r1)).tail.tail.headD .dead)),AV.ro 1 (toN ((toT (getV r1)).tail.tail.tail.headD .dead)) (toR ((toT (getV r1)).tail.tail.tail.headD .dead)) (toG ((toT (getV r1)).tail.tail.tail.headD .dead))],Blk.box [AV.bool (toB ((toT (getV r2)).headD .dead)),AV.ro 1 (toN ((toT (getV r2)).tail.headD .dead)) (toR ((toT (getV r2)).tail.headD .dead)) (toG ((toT (getV r2)).tail.headD .dead)),AV.bool (toB ((toT (getV r2)).tail.tail.headD .dead)),AV.ro 1 (toN ((toT (getV r2)).tail.tail.tail.headD .dead)) (toR ((toT (getV r2)).tail.tail.tail.headD .dead)) (toG ((toT (getV r2)).tail.tail.tail.headD .dead))],Blk.gone,Blk.box [AV.bool false,AV.nils 1 [AV.int .u32 0]]].length 0) 0] [])) 0,AV.bool (toB ((toT (getV r3)).tail.tail.headD .dead)),AV.ro 1 (toN ((toT (getV r3)).tail.tail.tail.headD .dead)) (toR ((toT (getV r3)).tail.tail.tail.headD .dead)) (toG ((toT (getV r3)).tail.tail.tail.headD .dead)),AV.bool (toB ((toT (getV r3)).tail.tail.tail.tail.headD .dead)),AV.ro 1 (toN ((toT (getV r3)).tail.tail.tail.tail.tail.headD .dead)) (toR ((toT (getV r3)).tail.tail.tail.tail.tail.headD .dead)) (toG ((toT (getV r3)).tail.tail.tail.tail.tail.headD .dead)),AV.bool (toB ((toT (getV r0)).headD .dead)),AV.ro 1 (toN ((toT (getV r0)).tail.headD .dead)) (toR ((toT (getV r0)).tail.headD .dead)) (toG ((toT (getV r0)).tail.headD .dead)),AV.bool (toB ((toT (getV r3)).headD .dead)),AV.ro 1 (toN ((toT (getV r3)).tail.headD .dead)) (toR ((toT (getV r3)).tail.headD .dead)) (toG ((toT (getV r3)).tail.headD .dead))]; ck (okX [RS.one LK.b,RS.one (LK.l 1),RS.one LK.b,RS.one (LK.l 1),RS.one LK.b,RS.one (LK.l 1),RS.one LK.b,RS.one (LK.l 1)] r4) <| some (AV.tup [AV.bool (toB ((toT (getV r4)).headD .dead)),AV.ro 1 (toN ((toT (getV r4)).tail.headD .dead)) (toR ((toT (getV r4)).tail.headD .dead)) (toG ((toT (getV r4)).tail.headD .dead)),AV.bool (toB ((toT (getV r4)).tail.tail.headD .dead)),AV.ro 1 (toN ((toT (getV r4)).tail.tail.tail.headD .dead)) (toR ((toT (getV r4)).tail.tail.tail.headD .dead)) (toG ((toT (getV r4)).tail.tail.tail.headD .dead)),AV.bool (toB ((toT (getV r3)).tail.tail.tail.tail.tail.tail.headD .dead)),AV.ro 1 (toN ((toT (getV r3)).tail.tail.tail.tail.tail.tail.tail.headD .dead)) (toR ((toT (getV r3)).tail.tail.tail.tail.tail.tail.tail.headD .dead)) (toG ((toT (getV r3)).tail.tail.tail.tail.tail.tail.tail.headD .dead)),AV.bool (toB ((toT (getV r3)).tail.tail.tail.tail.tail.tail.tail.tail.headD .dead)),AV.ro 1 (toN ((toT (getV r3)).tail.tail.tail.tail.tail.tail.tail.tail.tail.headD .dead)) (toR ((toT (getV r3)).tail.tail.tail.tail.tail.tail.tail.tail.tail.headD .dead)) (toG ((toT (getV r3)).tail.tail.tail.tail.tail.tail.tail.tail.tail.headD .dead))])
theorem gRat_Mul_a_run (y9 y8 : Mo) (pn yx : Mo) (vf w7 : Mo) (fuel : Nat) (q4 : Bool) (qm qu : Nat) (qq : Ge) (z0 : Bool) (zd zl : Nat) (zj : Ge) (zy : Bool) (wz w5 : Nat) (w6 : Ge) (qac : Bool) (p0 py : Nat) (pz : Ge) : runX Pr (GRat_Mul_a y9 y8 pn yx vf w7) [((6,26),LRat_Mul_a y9 y8 pn yx vf w7 fuel)] fuel 7 26 XRat_Mul_a [AV.ptr 0 0,AV.ptr 0 0,AV.ptr 1 0] [Blk.box [AV.bool q4,AV.ro 1 qm qu qq,AV.bool z0,AV.ro 1 zd zl zj],Blk.box [AV.bool zy,AV.ro 1 wz w5 w6,AV.bool qac,AV.ro 1 p0 py pz]] = gRat_Mul_a y9 y8 pn yx vf w7 fuel q4 qm qu qq z0 zd zl zj zy wz w5 w6 qac p0 py pz := by kernel_rfl
noncomputable def mRat_Mul_a (y9 y8 : Mo) (pn yx : Mo) (vf w7 : Mo) (fuel : Nat) (xs : List AV) : Option AV := match xs with
  | [AV.ptr 0 0,AV.ptr 0 0,AV.ptr 1 0,AV.bool q4,AV.ro 1 qm qu qq,AV.bool z0,AV.ro 1 zd zl zj,AV.bool zy,AV.ro 1 wz w5 w6,AV.bool qac,AV.ro 1 p0 py pz] => gRat_Mul_a y9 y8 pn yx vf w7 fuel q4 qm qu qq z0 zd zl zj zy wz w5 w6 qac p0 py pz
  | _ => none
theorem gRat_Mul_a_sm (y9 y8 : Mo) (pn yx : Mo) (vf w7 : Mo) (fuel : Nat) (hΓ : GamOk Pr (GRat_Mul_a y9 y8 pn yx vf w7)) (hP : NamesOk Pr) : XOk Pr 26 (smX RRat_Mul_a XRat_Mul_a (mRat_Mul_a y9 y8 pn yx vf w7 fuel)) XRat_Mul_a := by
  refine smX_ok (fuel := fuel) hΓ hP (LamOk.of 6 26 (LRat_Mul_a y9 y8 pn yx vf w7 fuel) 0 (by kernel_rfl) (fun i hi => ?_)) 7 26 RRat_Mul_a XRat_Mul_a _ (fun xs0 ys0 v ha hb h => ?_)
  · match i,hi with
    | i + 0,hi => exact absurd hi (by omega)
  · skip
    have ha0 : xs0.length = 3 := ha
    clear ha
    obtain ⟨a0,xs1,rfl,ha1⟩ := len_cons ha0
    clear ha0
    obtain ⟨a1,xs2,rfl,ha2⟩ := len_cons ha1
    clear ha1
    obtain ⟨a2,xs3,rfl,ha3⟩ := len_cons ha2
    clear ha2
    obtain rfl := List.eq_nil_of_length_eq_zero ha3
    have hy0 : ys0.map List.length = [4,4] := hb
    clear hb
    obtain ⟨q4,ys1,rfl,hb0_0,hy1⟩ := map_cons' hy0
    clear hy0
    obtain ⟨c0_0,b0_1,rfl,hb0_1⟩ := len_cons hb0_0
    clear hb0_0
    obtain ⟨c0_1,z0,rfl,hb0_2⟩ := len_cons hb0_1
    clear hb0_1
    obtain ⟨c0_2,b0_3,rfl,hb0_3⟩ := len_cons hb0_2
    clear hb0_2
    obtain ⟨c0_3,b0_4,rfl,hb0_4⟩ := len_cons hb0_3
    clear hb0_3
    obtain rfl := List.eq_nil_of_length_eq_zero hb0_4
    obtain ⟨zy,ys2,rfl,hb1_0,hy2⟩ := map_cons' hy1
    clear hy1
    obtain ⟨c1_0,b1_1,rfl,hb1_1⟩ := len_cons hb1_0
    clear hb1_0
    obtain ⟨c1_1,qac,rfl,hb1_2⟩ := len_cons hb1_1
    clear hb1_1
    obtain ⟨c1_2,b1_3,rfl,hb1_3⟩ := len_cons hb1_2
    clear hb1_2
    obtain ⟨c1_3,b1_4,rfl,hb1_4⟩ := len_cons hb1_3
    clear hb1_3
    obtain rfl := List.eq_nil_of_length_eq_zero hb1_4
    obtain rfl := map_nil' hy2
    have h : mRat_Mul_a y9 y8 pn yx vf w7 fuel [a0,a1,a2,c0_0,c0_1,c0_2,c0_3,c1_0,c1_1,c1_2,c1_3] = some v := h
    generalize hx0 : [a0,a1,a2,c0_0,c0_1,c0_2,c0_3,c1_0,c1_1,c1_2,c1_3] = zs at h
    unfold mRat_Mul_a at h
    split at h
    · skip
      obtain ⟨rfl,hx1⟩ := List.cons.inj hx0
      obtain ⟨rfl,hx2⟩ := List.cons.inj hx1
      obtain ⟨rfl,hx3⟩ := List.cons.inj hx2
      obtain ⟨rfl,hx4⟩ := List.cons.inj hx3
      obtain ⟨rfl,hx5⟩ := List.cons.inj hx4
      obtain ⟨rfl,hx6⟩ := List.cons.inj hx5
      obtain ⟨rfl,hx7⟩ := List.cons.inj hx6
      obtain ⟨rfl,hx8⟩ := List.cons.inj hx7
      obtain ⟨rfl,hx9⟩ := List.cons.inj hx8
      obtain ⟨rfl,hx10⟩ := List.cons.inj hx9
      obtain ⟨rfl,hx11⟩ := List.cons.inj hx10
      simp only [List.map_cons,List.map_nil]
      exact (gRat_Mul_a_run y9 y8 pn yx vf w7 fuel _ _ _ _ _ _ _ _ _ _ _ _ _ _ _ _).trans h
    · cases h
noncomputable def LInt_Add_iii (qed qc : Mo) (qb qa : Mo) (fuel : Nat) : Lam AV := []
noncomputable def GInt_Add_iii (qed qc : Mo) (qb qa : Mo) : Gam := [(85,smM [RS.one LK.b,RS.one (LK.l (nat_lit 1))] qed),(84,smX RInt_give_i XInt_give_i qc),(84,smX RInt_give_ra XInt_give_ra qb),(84,smX RInt_give_rb XInt_give_rb qa)]
noncomputable def gInt_Add_iii (qed qc : Mo) (qb qa : Mo) (fuel : Nat) (q4 : Bool) (qm qu : Nat) (qq : Ge) (zy : Bool) (wz w5 : Nat) (w6 : Ge) (v4 : Bool) (z4 vd : Nat) (ve : Ge) : Option AV :=
  let r0 : Option AV := qed [AV.bool zy,AV.ro 1 wz w5 w6,AV.bool v4,AV.ro 1 z4 vd ve]; ck (okM [RS.one LK.b,RS.one (LK.l 1)] r0) <| let r1 : Option AV := qc [AV.ptr (xidx 0 (xtoks [AV.ptr 0 0,AV.bool (toB ((toT (getV r0)).headD .dead)),AV.ro 1 (toN ((toT (getV r0)).tail.headD .dead)) (toR ((toT (getV r0)).tail.headD .dead)) (toG ((toT (getV r0)).tail.headD .dead))] [])) 0,AV.bool (toB ((toT (getV r0)).headD .dead)),AV.ro 1 (toN ((toT (getV r0)).tail.headD .dead)) (toR ((toT (getV r0)).tail.headD .dead)) (toG ((toT (getV r0)).tail.headD .dead)),AV.bool q4,AV.ro 1 qm qu qq]; ck (okX [RS.one LK.b,RS.one (LK.l 1)] r1) <| some (AV.tup [AV.bool (toB ((toT (getV r1)).headD .dead)),AV.ro 1 (toN ((toT (getV r1)).tail.headD .dead)) (toR ((toT (getV r1)).tail.headD .dead)) (toG ((toT (getV r1)).tail.headD .dead)),AV.bool zy,AV.ro 1 wz w5 w6,AV.bool v4,AV.ro 1 z4 vd ve])
theorem gInt_Add_iii_run (qed qc : Mo) (qb qa : Mo) (fuel : Nat) (q4 : Bool) (qm qu : Nat) (qq : Ge) (zy : Bool) (wz w5 : Nat) (w6 : Ge) (v4 : Bool) (z4 vd : Nat) (ve : Ge) : runX Pr (GInt_Add_iii qed qc qb qa) [((6,54),LInt_Add_iii qed qc qb qa fuel)] fuel 7 54 XInt_Add_iii [AV.ptr 0 0,AV.ptr 1 0,AV.ptr 2 0] [Blk.box [AV.bool q4,AV.ro 1 qm qu qq],Blk.box [AV.bool zy,AV.ro 1 wz w5 w6],Blk.box [AV.bool v4,AV.ro 1 z4 vd ve]] = gInt_Add_iii qed qc qb qa fuel q4 qm qu qq zy wz w5 w6 v4 z4 vd ve := by kernel_rfl
noncomputable def mInt_Add_iii (qed qc : Mo) (qb qa : Mo) (fuel : Nat) (xs : List AV) : Option AV := match xs with
  | [AV.ptr 0 0,AV.ptr 1 0,AV.ptr 2 0,AV.bool q4,AV.ro 1 qm qu qq,AV.bool zy,AV.ro 1 wz w5 w6,AV.bool v4,AV.ro 1 z4 vd ve] => gInt_Add_iii qed qc qb qa fuel q4 qm qu qq zy wz w5 w6 v4 z4 vd ve
  | _ => none
theorem gInt_Add_iii_sm (qed qc : Mo) (qb qa : Mo) (fuel : Nat) (hΓ : GamOk Pr (GInt_Add_iii qed qc qb qa)) (hP : NamesOk Pr) : XOk Pr 54 (smX RInt_Add_iii XInt_Add_iii (mInt_Add_iii qed qc qb qa fuel)) XInt_Add_iii := by
  refine smX_ok (fuel := fuel) hΓ hP (LamOk.of 6 54 (LInt_Add_iii qed qc qb qa fuel) 0 (by kernel_rfl) (fun i hi => ?_)) 7 54 RInt_Add_iii XInt_Add_iii _ (fun xs0 ys0 v ha hb h => ?_)
  · match i,hi with
    | i + 0,hi => exact absurd hi (by omega)
  · skip
    have ha0 : xs0.length = 3 := ha
    clear ha
    obtain ⟨a0,xs1,rfl,ha1⟩ := len_cons ha0
    clear ha0
    obtain ⟨a1,xs2,rfl,ha2⟩ := len_cons ha1
    clear ha1
    obtain ⟨a2,xs3,rfl,ha3⟩ := len_cons ha2
    clear ha2
    obtain rfl := List.eq_nil_of_length_eq_zero ha3
    have hy0 : ys0.map List.length = [2,2,2] := hb
    clear hb
    obtain ⟨q4,ys1,rfl,hb0_0,hy1⟩ := map_cons' hy0
    clear hy0
    obtain ⟨c0_0,b0_1,rfl,hb0_1⟩ := len_cons hb0_0
    clear hb0_0
    obtain ⟨c0_1,z0,rfl,hb0_2⟩ := len_cons hb0_1
    clear hb0_1
    obtain rfl := List.eq_nil_of_length_eq_zero hb0_2
    obtain ⟨zy,ys2,rfl,hb1_0,hy2⟩ := map_cons' hy1
    clear hy1
    obtain ⟨c1_0,b1_1,rfl,hb1_1⟩ := len_cons hb1_0
    clear hb1_0
    obtain ⟨c1_1,qac,rfl,hb1_2⟩ := len_cons hb1_1
    clear hb1_1
    obtain rfl := List.eq_nil_of_length_eq_zero hb1_2
    obtain ⟨v4,ys3,rfl,hb2_0,hy3⟩ := map_cons' hy2
    clear hy2
    obtain ⟨c2_0,b2_1,rfl,hb2_1⟩ := len_cons hb2_0
    clear hb2_0
    obtain ⟨c2_1,qdl,rfl,hb2_2⟩ := len_cons hb2_1
    clear hb2_1
    obtain rfl := List.eq_nil_of_length_eq_zero hb2_2
    obtain rfl := map_nil' hy3
    have h : mInt_Add_iii qed qc qb qa fuel [a0,a1,a2,c0_0,c0_1,c1_0,c1_1,c2_0,c2_1] = some v := h
    generalize hx0 : [a0,a1,a2,c0_0,c0_1,c1_0,c1_1,c2_0,c2_1] = zs at h
    unfold mInt_Add_iii at h
    split at h
    · skip
      obtain ⟨rfl,hx1⟩ := List.cons.inj hx0
      obtain ⟨rfl,hx2⟩ := List.cons.inj hx1
      obtain ⟨rfl,hx3⟩ := List.cons.inj hx2
      obtain ⟨rfl,hx4⟩ := List.cons.inj hx3
      obtain ⟨rfl,hx5⟩ := List.cons.inj hx4
      obtain ⟨rfl,hx6⟩ := List.cons.inj hx5
      obtain ⟨rfl,hx7⟩ := List.cons.inj hx6
      obtain ⟨rfl,hx8⟩ := List.cons.inj hx7
      obtain ⟨rfl,hx9⟩ := List.cons.inj hx8
      simp only [List.map_cons,List.map_nil]
      exact (gInt_Add_iii_run qed qc qb qa fuel _ _ _ _ _ _ _ _ _ _ _ _).trans h
    · cases h
noncomputable def LRat_Sign_r (fuel : Nat) : Lam AV := []
noncomputable def GRat_Sign_r : Gam := []
noncomputable def gRat_Sign_r (fuel : Nat) (q4 : Bool) (qm qu : Nat) (qq : Ge) (z0 : Bool) (zd zl : Nat) (zj : Ge) : Option AV :=
  bif (↑qm : Int) == 0 then some (AV.tup [AV.bool q4,AV.ro 1 qm qu qq,AV.bool z0,AV.ro 1 zd zl zj,AV.int .i64 0])
  else bif q4 then some (AV.tup [AV.bool q4,AV.ro 1 qm qu qq,AV.bool z0,AV.ro 1 zd zl zj,AV.int .i64 (-1)])
  else some (AV.tup [AV.bool q4,AV.ro 1 qm qu qq,AV.bool z0,AV.ro 1 zd zl zj,AV.int .i64 1])
theorem gRat_Sign_r_run (fuel : Nat) (q4 : Bool) (qm qu : Nat) (qq : Ge) (z0 : Bool) (zd zl : Nat) (zj : Ge) : runX Pr GRat_Sign_r [((6,62),LRat_Sign_r fuel)] fuel 7 62 XRat_Sign_r [AV.ptr 0 0] [Blk.box [AV.bool q4,AV.ro 1 qm qu qq,AV.bool z0,AV.ro 1 zd zl zj]] = gRat_Sign_r fuel q4 qm qu qq z0 zd zl zj := by kernel_rfl
noncomputable def mRat_Sign_r (fuel : Nat) (xs : List AV) : Option AV := match xs with
  | [AV.ptr 0 0,AV.bool q4,AV.ro 1 qm qu qq,AV.bool z0,AV.ro 1 zd zl zj] => gRat_Sign_r fuel q4 qm qu qq z0 zd zl zj
  | _ => none
theorem gRat_Sign_r_sm (fuel : Nat) (hΓ : GamOk Pr GRat_Sign_r) (hP : NamesOk Pr) : XOk Pr 62 (smX RRat_Sign_r XRat_Sign_r (mRat_Sign_r fuel)) XRat_Sign_r := by
  refine smX_ok (fuel := fuel) hΓ hP (LamOk.of 6 62 (LRat_Sign_r fuel) 0 (by kernel_rfl) (fun i hi => ?_)) 7 62 RRat_Sign_r XRat_Sign_r _ (fun xs0 ys0 v ha hb h => ?_)
  · match i,hi with
    | i + 0,hi => exact absurd hi (by omega)
  · skip
    have ha0 : xs0.length = 1 := ha
    clear ha
    obtain ⟨a0,xs1,rfl,ha1⟩ := len_cons ha0
    clear ha0
    obtain rfl := List.eq_nil_of_length_eq_zero ha1
    have hy0 : ys0.map List.length = [4] := hb
    clear hb
    obtain ⟨q4,ys1,rfl,hb0_0,hy1⟩ := map_cons' hy0
    clear hy0
    obtain ⟨c0_0,b0_1,rfl,hb0_1⟩ := len_cons hb0_0
    clear hb0_0
    obtain ⟨c0_1,z0,rfl,hb0_2⟩ := len_cons hb0_1
    clear hb0_1
    obtain ⟨c0_2,b0_3,rfl,hb0_3⟩ := len_cons hb0_2
    clear hb0_2
    obtain ⟨c0_3,b0_4,rfl,hb0_4⟩ := len_cons hb0_3
    clear hb0_3
    obtain rfl := List.eq_nil_of_length_eq_zero hb0_4
    obtain rfl := map_nil' hy1
    have h : mRat_Sign_r fuel [a0,c0_0,c0_1,c0_2,c0_3] = some v := h
    generalize hx0 : [a0,c0_0,c0_1,c0_2,c0_3] = zs at h
    unfold mRat_Sign_r at h
    split at h
    · skip
      obtain ⟨rfl,hx1⟩ := List.cons.inj hx0
      obtain ⟨rfl,hx2⟩ := List.cons.inj hx1
      obtain ⟨rfl,hx3⟩ := List.cons.inj hx2
      obtain ⟨rfl,hx4⟩ := List.cons.inj hx3
      obtain ⟨rfl,hx5⟩ := List.cons.inj hx4
      simp only [List.map_cons,List.map_nil]
      exact (gRat_Sign_r_run fuel _ _ _ _ _ _ _ _).trans h
    · cases h
noncomputable def LInt_Rsh_ii (qa0 wb : Mo) (ye qc : Mo) (qb qa : Mo) (fuel : Nat) : Lam AV := []
noncomputable def GInt_Rsh_ii (qa0 wb : Mo) (ye qc : Mo) (qb qa : Mo) : Gam := [(120,smM [RS.one (LK.l (nat_lit 1))] qa0),(126,smM [RS.one (LK.l (nat_lit 1))] wb),(116,smM [RS.one (LK.l (nat_lit 1))] ye),(84,smX RInt_give_i XInt_give_i qc),(84,smX RInt_give_ra XInt_give_ra qb),(84,smX RInt_give_rb XInt_give_rb qa)]
noncomputable def gInt_Rsh_ii (qa0 wb : Mo) (ye qc : Mo) (qb qa : Mo) (fuel : Nat) (un2 : Int) (q4 : Bool) (qm qu : Nat) (qq : Ge) (zy : Bool) (wz w5 : Nat) (w6 : Ge) : Option AV :=
  bif zy then let r0 : Option AV := qa0 [AV.ro 1 wz w5 w6,AV.ro 1 1 1 fun (i j : Nat) => ([[AV.int .u32 1]].getD i []).getD j AV.dead]; ck (okM [RS.one (LK.l 1)] r0) <| let r1 : Option AV := wb [AV.ro 1 (toN (getV r0)) (toR (getV r0)) (toG (getV r0)),AV.int .u64 un2]; ck (okM [RS.one (LK.l 1)] r1) <| let r2 : Option AV := ye [AV.ro 1 (toN (getV r1)) (toR (getV r1)) (toG (getV r1)),AV.ro 1 1 1 fun (i j : Nat) => ([[AV.int .u32 1]].getD i []).getD j AV.dead]; ck (okM [RS.one (LK.l 1)] r2) <| let r3 : Option AV := qc [AV.ptr (xidx 0 (xtoks [AV.ptr 0 0,AV.bool true,AV.ro 1 (toN (getV r2)) (toR (getV r2)) (toG (getV r2))] [])) 0,AV.bool true,AV.ro 1 (toN (getV r2)) (toR (getV r2)) (toG (getV r2)),AV.bool q4,AV.ro 1 qm qu qq]; ck (okX [RS.one LK.b,RS.one (LK.l 1)] r3) <| some (AV.tup [AV.bool (toB ((toT (getV r3)).headD .dead)),AV.ro 1 (toN ((toT (getV r3)).tail.headD .dead)) (toR ((toT (getV r3)).tail.headD .dead)) (toG ((toT (getV r3)).tail.headD .dead)),AV.bool zy,AV.ro 1 wz w5 w6])
  else let r4 : Option AV := wb [AV.ro 1 wz w5 w6,AV.int .u64 un2]; ck (okM [RS.one (LK.l 1)] r4) <| let r5 : Option AV := qc [AV.ptr (xidx 0 (xtoks [AV.ptr 0 0,AV.bool false,AV.ro 1 (toN (getV r4)) (toR (getV r4)) (toG (getV r4))] [])) 0,AV.bool false,AV.ro 1 (toN (getV r4)) (toR (getV r4)) (toG (getV r4)),AV.bool q4,AV.ro 1 qm qu qq]; ck (okX [RS.one LK.b,RS.one (LK.l 1)] r5) <| some (AV.tup [AV.bool (toB ((toT (getV r5)).headD .dead)),AV.ro 1 (toN ((toT (getV r5)).tail.headD .dead)) (toR ((toT (getV r5)).tail.headD .dead)) (toG ((toT (getV r5)).tail.headD .dead)),AV.bool zy,AV.ro 1 wz w5 w6])
theorem gInt_Rsh_ii_run (qa0 wb : Mo) (ye qc : Mo) (qb qa : Mo) (fuel : Nat) (un2 : Int) (q4 : Bool) (qm qu : Nat) (qq : Ge) (zy : Bool) (wz w5 : Nat) (w6 : Ge) : runX Pr (GInt_Rsh_ii qa0 wb ye qc qb qa) [((6,92),LInt_Rsh_ii qa0 wb ye qc qb qa fuel)] fuel 7 92 XInt_Rsh_ii [AV.ptr 0 0,AV.ptr 1 0,AV.int .u64 un2] [Blk.box [AV.bool q4,AV.ro 1 qm qu qq],Blk.box [AV.bool zy,AV.ro 1 wz w5 w6]] = gInt_Rsh_ii qa0 wb ye qc qb qa fuel un2 q4 qm qu qq zy wz w5 w6 := by kernel_rfl
noncomputable def mInt_Rsh_ii (qa0 wb : Mo) (ye qc : Mo) (qb qa : Mo) (fuel : Nat) (xs : List AV) : Option AV := match xs with
  | [AV.ptr 0 0,AV.ptr 1 0,AV.int .u64 un2,AV.bool q4,AV.ro 1 qm qu qq,AV.bool zy,AV.ro 1 wz w5 w6] => gInt_Rsh_ii qa0 wb ye qc qb qa fuel un2 q4 qm qu qq zy wz w5 w6
  | _ => none
theorem gInt_Rsh_ii_sm (qa0 wb : Mo) (ye qc : Mo) (qb qa : Mo) (fuel : Nat) (hΓ : GamOk Pr (GInt_Rsh_ii qa0 wb ye qc qb qa)) (hP : NamesOk Pr) : XOk Pr 92 (smX RInt_Rsh_ii XInt_Rsh_ii (mInt_Rsh_ii qa0 wb ye qc qb qa fuel)) XInt_Rsh_ii := by
  refine smX_ok (fuel := fuel) hΓ hP (LamOk.of 6 92 (LInt_Rsh_ii qa0 wb ye qc qb qa fuel) 0 (by kernel_rfl) (fun i hi => ?_)) 7 92 RInt_Rsh_ii XInt_Rsh_ii _ (fun xs0 ys0 v ha hb h => ?_)
  · match i,hi with
    | i + 0,hi => exact absurd hi (by omega)
  · skip
    have ha0 : xs0.length = 3 := ha
    clear ha
    obtain ⟨a0,xs1,rfl,ha1⟩ := len_cons ha0
    clear ha0
    obtain ⟨a1,xs2,rfl,ha2⟩ := len_cons ha1
    clear ha1
    obtain ⟨a2,xs3,rfl,ha3⟩ := len_cons ha2
    clear ha2
    obtain rfl := List.eq_nil_of_length_eq_zero ha3
    have hy0 : ys0.map List.length = [2,2] := hb
    clear hb
    obtain ⟨q4,ys1,rfl,hb0_0,hy1⟩ := map_cons' hy0
    clear hy0
    obtain ⟨c0_0,b0_1,rfl,hb0_1⟩ := len_cons hb0_0
    clear hb0_0
    obtain ⟨c0_1,z0,rfl,hb0_2⟩ := len_cons hb0_1
    clear hb0_1
    obtain rfl := List.eq_nil_of_length_eq_zero hb0_2
    obtain ⟨zy,ys2,rfl,hb1_0,hy2⟩ := map_cons' hy1
    clear hy1
    obtain ⟨c1_0,b1_1,rfl,hb1_1⟩ := len_cons hb1_0
    clear hb1_0
    obtain ⟨c1_1,qac,rfl,hb1_2⟩ := len_cons hb1_1
    clear hb1_1
    obtain rfl := List.eq_nil_of_length_eq_zero hb1_2
    obtain rfl := map_nil' hy2
    have h : mInt_Rsh_ii qa0 wb ye qc qb qa fuel [a0,a1,a2,c0_0,c0_1,c1_0,c1_1] = some v := h
    generalize hx0 : [a0,a1,a2,c0_0,c0_1,c1_0,c1_1] = zs at h
    unfold mInt_Rsh_ii at h
    split at h
    · skip
      obtain ⟨rfl,hx1⟩ := List.cons.inj hx0
      obtain ⟨rfl,hx2⟩ := List.cons.inj hx1
      obtain ⟨rfl,hx3⟩ := List.cons.inj hx2
      obtain ⟨rfl,hx4⟩ := List.cons.inj hx3
      obtain ⟨rfl,hx5⟩ := List.cons.inj hx4
      obtain ⟨rfl,hx6⟩ := List.cons.inj hx5
      obtain ⟨rfl,hx7⟩ := List.cons.inj hx6
      simp only [List.map_cons,List.map_nil]
      exact (gInt_Rsh_ii_run qa0 wb ye qc qb qa fuel _ _ _ _ _ _ _ _ _).trans h
    · cases h
noncomputable def LInt_Rsh_p (qa0 wb : Mo) (ye qc : Mo) (qb qa : Mo) (fuel : Nat) : Lam AV := []
noncomputable def GInt_Rsh_p (qa0 wb : Mo) (ye qc : Mo) (qb qa : Mo) : Gam := [(120,smM [RS.one (LK.l (nat_lit 1))] qa0),(126,smM [RS.one (LK.l (nat_lit 1))] wb),(116,smM [RS.one (LK.l (nat_lit 1))] ye),(84,smX RInt_give_i XInt_give_i qc),(84,smX RInt_give_ra XInt_give_ra qb),(84,smX RInt_give_rb XInt_give_rb qa)]
noncomputable def gInt_Rsh_p (qa0 wb : Mo) (ye qc : Mo) (qb qa : Mo) (fuel : Nat) (un2 : Int) (q4 : Bool) (qm qu : Nat) (qq : Ge) : Option AV :=
  bif q4 then let r0 : Option AV := qa0 [AV.ro 1 qm qu qq,AV.ro 1 1 1 fun (i j : Nat) => ([[AV.int .u32 1]].getD i []).getD j AV.dead]; ck (okM [RS.one (LK.l 1)] r0) <| let r1 : Option AV := wb [AV.ro 1 (toN (getV r0)) (toR (getV r0)) (toG (getV r0)),AV.int .u64 un2]; ck (okM [RS.one (LK.l 1)] r1) <| let r2 : Option AV := ye [AV.ro 1 (toN (getV r1)) (toR (getV r1)) (toG (getV r1)),AV.ro 1 1 1 fun (i j : Nat) => ([[AV.int .u32 1]].getD i []).getD j AV.dead]; ck (okM [RS.one (LK.l 1)] r2) <| let r3 : Option AV := qc [AV.ptr (xidx 0 (xtoks [AV.ptr 0 0,AV.bool true,AV.ro 1 (toN (getV r2)) (toR (getV r2)) (toG (getV r2))] [])) 0,AV.bool true,AV.ro 1 (toN (getV r2)) (toR (getV r2)) (toG (getV r2)),AV.bool q4,AV.ro 1 qm qu qq]; ck (okX [RS.one LK.b,RS.one (LK.l 1)] r3) <| some (AV.tup [AV.bool (toB ((toT (getV r3)).headD .dead)),AV.ro 1 (toN ((toT (getV r3)).tail.headD .dead)) (toR ((toT (getV r3)).tail.headD .dead)) (toG ((toT (getV r3)).tail.headD .dead))])
  else let r4 : Option AV := wb [AV.ro 1 qm qu qq,AV.int .u64 un2]; ck (okM [RS.one (LK.l 1)] r4) <| let r5 : Option AV := qc [AV.ptr (xidx 0 (xtoks [AV.ptr 0 0,AV.bool false,AV.ro 1 (toN (getV r4)) (toR (getV r4)) (toG (getV r4))] [])) 0,AV.bool false,AV.ro 1 (toN (getV r4)) (toR (getV r4)) (toG (getV r4)),AV.bool q4,AV.ro 1 qm qu qq]; ck (okX [RS.one LK.b,RS.one (LK.l 1)] r5) <| some (AV.tup [AV.bool (toB ((toT (getV r5)).headD .dead)),AV.ro 1 (toN ((toT (getV r5)).tail.headD .dead)) (toR ((toT (getV r5)).tail.headD .dead)) (toG ((toT (getV r5)).tail.headD .dead))])
theorem gInt_Rsh_p_run (qa0 wb : Mo) (ye qc : Mo) (qb qa : Mo) (fuel : Nat) (un2 : Int) (q4 : Bool) (qm qu : Nat) (qq : Ge) : runX Pr (GInt_Rsh_p qa0 wb ye qc qb qa) [((6,92),LInt_Rsh_p qa0 wb ye qc qb qa fuel)] fuel 7 92 XInt_Rsh_p [AV.ptr 0 0,AV.ptr 0 0,AV.int .u64 un2] [Blk.box [AV.bool q4,AV.ro 1 qm qu qq]] = gInt_Rsh_p qa0 wb ye qc qb qa fuel un2 q4 qm qu qq := by kernel_rfl
noncomputable def mInt_Rsh_p (qa0 wb : Mo) (ye qc : Mo) (qb qa : Mo) (fuel : Nat) (xs : List AV) : Option AV := match xs with
  | [AV.ptr 0 0,AV.ptr 0 0,AV.int .u64 un2,AV.bool q4,AV.ro 1 qm qu qq] => gInt_Rsh_p qa0 wb ye qc qb qa fuel un2 q4 qm qu qq
  | _ => none
theorem gInt_Rsh_p_sm (qa0 wb : Mo) (ye qc : Mo) (qb qa : Mo) (fuel : Nat) (hΓ : GamOk Pr (GInt_Rsh_p qa0 wb ye qc qb qa)) (hP : NamesOk Pr) : XOk Pr 92 (smX RInt_Rsh_p XInt_Rsh_p (mInt_Rsh_p qa0 wb ye qc qb qa fuel)) XInt_Rsh_p := by
  refine smX_ok (fuel := fuel) hΓ hP (LamOk.of 6 92 (LInt_Rsh_p qa0 wb ye qc qb qa fuel) 0 (by kernel_rfl) (fun i hi => ?_)) 7 92 RInt_Rsh_p XInt_Rsh_p _ (fun xs0 ys0 v ha hb h => ?_)
  · match i,hi with
    | i + 0,hi => exact absurd hi (by omega)
  · skip
    have ha0 : xs0.length = 3 := ha
    clear ha
    obtain ⟨a0,xs1,rfl,ha1⟩ := len_cons ha0
    clear ha0
    obtain ⟨a1,xs2,rfl,ha2⟩ := len_cons ha1
    clear ha1
    obtain ⟨a2,xs3,rfl,ha3⟩ := len_cons ha2
    clear ha2
    obtain rfl := List.eq_nil_of_length_eq_zero ha3
    have hy0 : ys0.map List.length = [2] := hb
    clear hb
    obtain ⟨q4,ys1,rfl,hb0_0,hy1⟩ := map_cons' hy0
    clear hy0
    obtain ⟨c0_0,b0_1,rfl,hb0_1⟩ := len_cons hb0_0
    clear hb0_0
    obtain ⟨c0_1,z0,rfl,hb0_2⟩ := len_cons hb0_1
    clear hb0_1
    obtain rfl := List.eq_nil_of_length_eq_zero hb0_2
    obtain rfl := map_nil' hy1
    have h : mInt_Rsh_p qa0 wb ye qc qb qa fuel [a0,a1,a2,c0_0,c0_1] = some v := h
    generalize hx0 : [a0,a1,a2,c0_0,c0_1] = zs at h
    unfold mInt_Rsh_p at h
    split at h
    · skip
      obtain ⟨rfl,hx1⟩ := List.cons.inj hx0
      obtain ⟨rfl,hx2⟩ := List.cons.inj hx1
      obtain ⟨rfl,hx3⟩ := List.cons.inj hx2
      obtain ⟨rfl,hx4⟩ := List.cons.inj hx3
      obtain ⟨rfl,hx5⟩ := List.cons.inj hx4
      simp only [List.map_cons,List.map_nil]
      exact (gInt_Rsh_p_run qa0 wb ye qc qb qa fuel _ _ _ _ _).trans h
    · cases h
end Go.Proofs.Tryz
end
