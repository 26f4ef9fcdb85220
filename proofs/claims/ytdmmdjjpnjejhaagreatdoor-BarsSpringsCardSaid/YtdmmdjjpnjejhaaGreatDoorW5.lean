/- Part 5 of the proof: models of the functions, and laws on them. -/
import Derived.Test.YtdmmdjjpnjejhaaGreatDoorW4
section
namespace Go.Proofs.Tryz
open Go Go.Am
set_option linter.unusedVariables false
set_option maxRecDepth 1000000
noncomputable def Sbars_Springs_0 (ui7 : Int) (qbe qbd : Nat) (qbf : Ge) (qct qci : Int) (u31 u32 : Int) (z8 z5 : Nat) (z6 : Ge) (z4 z7 : Nat) (z9 : Ge) (p3 : List AV) (p1 : List (List AV)) (qba : ByteArray) (qa1 qa8 qa6 : Int) (qas qa9 : Bool) (qa4 qa7 qa2 : Option Nat) (h3z : List AV) (h3e : List (List AV)) : St := { env := [(1, AV.ptr 0 0), (6, AV.lst 1 11), (7, AV.int .i64 ui7), (9, AV.lst 3 11), (20, AV.ro 9 qbe qbd qbf), (21, AV.int .i64 qct), (22, AV.int .i64 qci), (31, AV.int .i64 u31), (32, AV.int .i64 u32)], h := [Blk.box [AV.ro 4 z8 z5 z6, AV.ro 9 z4 z7 z9], Blk.fl 11 p3 p1, Blk.box [AV.str qba, AV.int .u8 qa1, AV.int .i64 qa8, AV.int .i64 qa6, AV.bool qas, AV.bool qa9, AV.flt .f64 qa4, AV.flt .f64 qa7, AV.flt .f64 qa2], Blk.fl 11 h3z h3e], kd := [3, 1] }
noncomputable def Xbars_Springs_0_0 (qji qjm : Nat) (qi9 : Ge) (qkr qjs : Int) (pl pp : Nat) (pm : Ge) (pi po : Nat) (pj : Ge) (qg1 : List AV) (qgu : List (List AV)) (qb2 : ByteArray) (qbz qb0 qby : Int) (qde qdd : Bool) (qc4 qc5 qc8 : Option Nat) (qid : List AV) (qh3 : List (List AV)) : St := { env := [(1, AV.ptr 0 0), (6, AV.lst 1 11), (9, AV.lst 3 11), (20, AV.ro 9 qji qjm qi9), (21, AV.int .i64 qkr), (22, AV.int .i64 qjs)], h := [Blk.box [AV.ro 4 pl pp pm, AV.ro 9 pi po pj], Blk.fl 11 qg1 qgu, Blk.box [AV.str qb2, AV.int .u8 qbz, AV.int .i64 qb0, AV.int .i64 qby, AV.bool qde, AV.bool qdd, AV.flt .f64 qc4, AV.flt .f64 qc5, AV.flt .f64 qc8], Blk.fl 11 qid qh3], kd := [3, 1] }
noncomputable def gbars_Springs_l0_step (qi qf : Mo) (fuel : Nat) (kn : Int → List (List AV) → Option AV) (kx0 : Nat → Nat → (Ge) → Int → Int → Nat → Nat → (Ge) → Nat → Nat → (Ge) → List AV → List (List AV) → ByteArray → Int → Int → Int → Bool → Bool → Option Nat → Option Nat → Option Nat → List AV → List (List AV) → Option AV) (ui7 : Int) (qbe qbd : Nat) (qbf : Ge) (qct qci u31 : Int) (z8 z5 : Nat) (z6 : Ge) (z4 z7 : Nat) (z9 : Ge) (p3 : List AV) (p1 : List (List AV)) (qba : ByteArray) (qa1 qa8 qa6 : Int) (qas qa9 : Bool) (qa4 qa7 qa2 : Option Nat) (h3z : List AV) (u32 : Int) (h3e : List (List AV)) : Option AV :=
  bif decide (u32 < u31) then ck (decide (0 ≤ u32)) <| ck (decide (u32 < (↑h3e.length : Int))) <| kn (IntKind.i64.wrap (u32 + 1)) (h3e.set u32.toNat (AV.int .i64 ui7 :: List.drop (0 + [AV.int .i64 ui7].length) (h3e.getD u32.toNat h3z)))
  else kx0 (qbe) (qbd) (qbf) (qct) (qci) (z8) (z5) (z6) (z4) (z7) (z9) (p3) (p1) (qba) (qa1) (qa8) (qa6) (qas) (qa9) (qa4) (qa7) (qa2) (h3z) (h3e)
noncomputable def gbars_Springs_l0 (qi qf : Mo) (fuel : Nat) (kx0 : Nat → Nat → (Ge) → Int → Int → Nat → Nat → (Ge) → Nat → Nat → (Ge) → List AV → List (List AV) → ByteArray → Int → Int → Int → Bool → Bool → Option Nat → Option Nat → Option Nat → List AV → List (List AV) → Option AV) (ui7 : Int) (qbe qbd : Nat) (qbf : Ge) (qct qci u31 : Int) (z8 z5 : Nat) (z6 : Ge) (z4 z7 : Nat) (z9 : Ge) (p3 : List AV) (p1 : List (List AV)) (qba : ByteArray) (qa1 qa8 qa6 : Int) (qas qa9 : Bool) (qa4 qa7 qa2 : Option Nat) (h3z : List AV) : Nat → Int → List (List AV) → Option AV
  | 0, _, _ => none
  | n' + 1, u32, h3e => gbars_Springs_l0_step qi qf fuel (gbars_Springs_l0 qi qf fuel kx0 ui7 qbe qbd qbf qct qci u31 z8 z5 z6 z4 z7 z9 p3 p1 qba qa1 qa8 qa6 qas qa9 qa4 qa7 qa2 h3z n') kx0 ui7 qbe qbd qbf qct qci u31 z8 z5 z6 z4 z7 z9 p3 p1 qba qa1 qa8 qa6 qas qa9 qa4 qa7 qa2 h3z u32 h3e
noncomputable def Tbars_Springs_0 : TS' := ⟨[(1, TA.ptr 0 0), (6, TA.lst 1 11), (7, TA.i .i64), (9, TA.lst 3 11), (20, TA.ro 9), (21, TA.i .i64), (22, TA.i .i64), (31, TA.i .i64), (32, TA.i .i64)], [TB.box [TA.ro 4, TA.ro 9], TB.fl 11, TB.box [TA.s, TA.i .u8, TA.i .i64, TA.i .i64, TA.b, TA.b, TA.f .f64, TA.f .f64, TA.f .f64], TB.fl 11], [3, 1]⟩
noncomputable def Fbars_Springs_0 (qi qf : Mo) (fuel : Nat) (ps : List Pay) (K : Ex → St → Option AV) : Option AV := match ps with
  | .i ui7 :: .n qbe :: .n qbd :: .g qbf :: .i qct :: .i qci :: .i u31 :: .i u32 :: .n z8 :: .n z5 :: .g z6 :: .n z4 :: .n z7 :: .g z9 :: .z p3 :: .e p1 :: .s qba :: .i qa1 :: .i qa8 :: .i qa6 :: .b qas :: .b qa9 :: .o qa4 :: .o qa7 :: .o qa2 :: .z h3z :: .e h3e :: [] => gbars_Springs_l0 qi qf fuel (fun qji qjm qi9 qkr qjs pl pp pm pi po pj qg1 qgu qb2 qbz qb0 qby qde qdd qc4 qc5 qc8 qid qh3 => K (Ex.exit 2) (Xbars_Springs_0_0 qji qjm qi9 qkr qjs pl pp pm pi po pj qg1 qgu qb2 qbz qb0 qby qde qdd qc4 qc5 qc8 qid qh3)) ui7 qbe qbd qbf qct qci u31 z8 z5 z6 z4 z7 z9 p3 p1 qba qa1 qa8 qa6 qas qa9 qa4 qa7 qa2 h3z fuel u32 h3e
  | _ => none
noncomputable def Sbars_Springs_1 (qf7 qgf : Nat) (qa0 : Ge) (u21 u22 : Int) (w2 w3 : Nat) (w5 : Ge) (wz w4 : Nat) (wf : Ge) (h1z : List AV) (h1e : List (List AV)) : St := { env := [(1, AV.ptr 0 0), (6, AV.lst 1 11), (20, AV.ro 9 qf7 qgf qa0), (21, AV.int .i64 u21), (22, AV.int .i64 u22)], h := [Blk.box [AV.ro 4 w2 w3 w5, AV.ro 9 wz w4 wf], Blk.fl 11 h1z h1e], kd := [1] }
noncomputable def Xbars_Springs_1_0 (y2 yy : Nat) (yx : Ge) (y3 yw : Nat) (yu : Ge) (qg8 : List AV) (qhg : List (List AV)) : St := { env := [(6, AV.lst 1 11)], h := [Blk.box [AV.ro 4 y2 yy yx, AV.ro 9 y3 yw yu], Blk.fl 11 qg8 qhg], kd := [1] }
noncomputable def gbars_Springs_l1_step (qi qf : Mo) (fuel : Nat) (kn : Nat → Nat → (Ge) → Int → Int → Nat → Nat → (Ge) → Nat → Nat → (Ge) → List AV → List (List AV) → Option AV) (kx0 : Nat → Nat → (Ge) → Nat → Nat → (Ge) → List AV → List (List AV) → Option AV) (qf7 qgf : Nat) (qa0 : Ge) (u21 u22 : Int) (w2 w3 : Nat) (w5 : Ge) (wz w4 : Nat) (wf : Ge) (h1z : List AV) (h1e : List (List AV)) : Option AV :=
  bif decide (u22 < u21) then ck (decide (0 ≤ u22)) <| ck (decide (u22 < (↑qf7 : Int))) <| ck (fitKs [LK.s, LK.i .u8, LK.i .i64, LK.i .i64, LK.b, LK.b, LK.f .f64, LK.f .f64, LK.f .f64] [qa0 u22.toNat 0, qa0 u22.toNat 1, qa0 u22.toNat 2, qa0 u22.toNat 3, qa0 u22.toNat 4, qa0 u22.toNat 5, qa0 u22.toNat 6, qa0 u22.toNat 7, qa0 u22.toNat 8]) <| let r1 : Option AV := qf [AV.agg [AV.ro 4 w2 w3 w5, AV.ro 9 wz w4 wf], AV.agg [AV.str (toS (qa0 u22.toNat 0)), AV.int .u8 (toI (qa0 u22.toNat 1)), AV.int .i64 (toI (qa0 u22.toNat 2)), AV.int .i64 (toI (qa0 u22.toNat 3)), AV.bool (toB (qa0 u22.toNat 4)), AV.bool (toB (qa0 u22.toNat 5)), AV.flt .f64 (toF (qa0 u22.toNat 6)), AV.flt .f64 (toF (qa0 u22.toNat 7)), AV.flt .f64 (toF (qa0 u22.toNat 8))]]; ck (okX [RS.one (LK.l 11)] r1) <| gbars_Springs_l0 qi qf fuel
      (fun (qh4 qh5 : Nat) (qik : Ge) (qj8 qkn : Int) (zk zl : Nat) (zm : Ge) (zo zn : Nat) (zp : Ge) (qdr : List AV) (qc9 : List (List AV)) (_ : ByteArray) (_ _ _ : Int) (_ _ : Bool) (_ _ _ : Option Nat) (qd6 : List AV) (qc3 : List (List AV)) => ck (decide ((qc9.length + qc3.length) * 88 < 70368744177664)) <| ck (decide (qc9.length + qc3.length < 4611686018427387904)) <| kn (qh4) (qh5) (qik) (qj8) (IntKind.i64.wrap (qkn + 1)) (zk) (zl) (zm) (zo) (zn) (zp) (qdr) (qc9 ++ rows 11 qc3.length fun (i j : Nat) => (qc3.getD i qd6).getD j AV.dead))
      (u22)
      (qf7)
      (qgf)
      (qa0)
      (u21)
      (u22)
      ((↑(rows 11 (match (toT (getV r1)).headD AV.dead with | AV.ro sz n rd get => n | x => 0) (toG (AV.ro 11 (toN ((toT (getV r1)).headD AV.dead)) (toR ((toT (getV r1)).headD AV.dead)) (toG ((toT (getV r1)).headD AV.dead))))).length : Int))
      (w2)
      (w3)
      (w5)
      (wz)
      (w4)
      (wf)
      (h1z)
      (h1e)
      (toS (qa0 u22.toNat 0))
      (toI (qa0 u22.toNat 1))
      (toI (qa0 u22.toNat 2))
      (toI (qa0 u22.toNat 3))
      (toB (qa0 u22.toNat 4))
      (toB (qa0 u22.toNat 5))
      (toF (qa0 u22.toNat 6))
      (toF (qa0 u22.toNat 7))
      (toF (qa0 u22.toNat 8))
      ([AV.int .i64 0, AV.int .u8 0, AV.int .i64 0, AV.int .i64 0, AV.int .i64 0, AV.int .i64 0, AV.int .i64 0, AV.int .i64 0, AV.flt .f64 (some 0), AV.flt .f64 (some 0), AV.flt .f64 (some 0)]) fuel (0) (rows 11 (match (toT (getV r1)).headD AV.dead with | AV.ro sz n rd get => n | x => 0) (toG (AV.ro 11 (toN ((toT (getV r1)).headD AV.dead)) (toR ((toT (getV r1)).headD AV.dead)) (toG ((toT (getV r1)).headD AV.dead)))))
  else kx0 (w2) (w3) (w5) (wz) (w4) (wf) (h1z) (h1e)
noncomputable def gbars_Springs_l1 (qi qf : Mo) (fuel : Nat) (kx0 : Nat → Nat → (Ge) → Nat → Nat → (Ge) → List AV → List (List AV) → Option AV) : Nat → Nat → Nat → (Ge) → Int → Int → Nat → Nat → (Ge) → Nat → Nat → (Ge) → List AV → List (List AV) → Option AV
  | 0, _, _, _, _, _, _, _, _, _, _, _, _, _ => none
  | n' + 1, qf7, qgf, qa0, u21, u22, w2, w3, w5, wz, w4, wf, h1z, h1e => gbars_Springs_l1_step qi qf fuel (gbars_Springs_l1 qi qf fuel kx0 n') kx0 qf7 qgf qa0 u21 u22 w2 w3 w5 wz w4 wf h1z h1e
noncomputable def Tbars_Springs_1 : TS' := ⟨[(1, TA.ptr 0 0), (6, TA.lst 1 11), (20, TA.ro 9), (21, TA.i .i64), (22, TA.i .i64)], [TB.box [TA.ro 4, TA.ro 9], TB.fl 11], [1]⟩
noncomputable def Fbars_Springs_1 (qi qf : Mo) (fuel : Nat) (ps : List Pay) (K : Ex → St → Option AV) : Option AV := match ps with
  | .n qf7 :: .n qgf :: .g qa0 :: .i u21 :: .i u22 :: .n w2 :: .n w3 :: .g w5 :: .n wz :: .n w4 :: .g wf :: .z h1z :: .e h1e :: [] => gbars_Springs_l1 qi qf fuel (fun y2 yy yx y3 yw yu qg8 qhg => K (Ex.exit 0) (Xbars_Springs_1_0 y2 yy yx y3 yw yu qg8 qhg)) fuel qf7 qgf qa0 u21 u22 w2 w3 w5 wz w4 wf h1z h1e
  | _ => none
noncomputable def Lbars_Springs (qi qf : Mo) (fuel : Nat) : Lam AV := [(2194728289280, lam Tbars_Springs_0 (Fbars_Springs_0 qi qf fuel)), (35184367896512, lam Tbars_Springs_1 (Fbars_Springs_1 qi qf fuel))]
noncomputable def Gbars_Springs (qi qf : Mo) : Gam := [(12, smM [RS.one (LK.i .i64), RS.one (LK.i .i64)] qi), (13, smX Rbars_springs_a Xbars_springs_a qf)]
noncomputable def Cbars_Springs (qi qf : Mo) (fuel : Nat) : CallI AV := callX (Gbars_Springs qi qf) (execFn Pr (Gbars_Springs qi qf) [((6, 5), Lbars_Springs qi qf fuel)] fuel 6)
theorem gbars_Springs_l0_eq (qi qf : Mo) (fuel : Nat) (kn : St → Option AV) (K : Ex → St → Option AV) (ui7 : Int) (qbe qbd : Nat) (qbf : Ge) (qct qci u31 : Int) (z8 z5 : Nat) (z6 : Ge) (z4 z7 : Nat) (z9 : Ge) (p3 : List AV) (p1 : List (List AV)) (qba : ByteArray) (qa1 qa8 qa6 : Int) (qas qa9 : Bool) (qa4 qa7 qa2 : Option Nat) (h3z : List AV) (qkz : Int) (qk6 : List (List AV)) (u32 : Int) (h3e : List (List AV)) :
    exec Pr (Gbars_Springs qi qf) (Lbars_Springs qi qf fuel) (fnNt Pr 5) fuel (Cbars_Springs qi qf fuel) (lp Pr 5 1).1 (lp Pr 5 1).2 (live (lp Pr 5 1).1 (lp Pr 5 1).2 0) (Sbars_Springs_0 ui7 qbe qbd qbf qct qci u31 u32 z8 z5 z6 z4 z7 z9 p3 p1 qba qa1 qa8 qa6 qas qa9 qa4 qa7 qa2 h3z h3e) (fun e s => match e with | .normal => kn (headN (live (lp Pr 5 1).1 (lp Pr 5 1).2 0) (writes (lp Pr 5 1).1) (Sbars_Springs_0 ui7 qbe qbd qbf qct qci u31 qkz z8 z5 z6 z4 z7 z9 p3 p1 qba qa1 qa8 qa6 qas qa9 qa4 qa7 qa2 h3z qk6) s) | e => K e s) =
    gbars_Springs_l0_step qi qf fuel (fun u32 h3e => kn (Sbars_Springs_0 ui7 qbe qbd qbf qct qci u31 u32 z8 z5 z6 z4 z7 z9 p3 p1 qba qa1 qa8 qa6 qas qa9 qa4 qa7 qa2 h3z h3e)) (fun qh4 qh5 qik qj8 qkn zk zl zm zo zn zp qdr qc9 xh2_0 xh2_1 xh2_2 xh2_3 xh2_4 xh2_5 xh2_6 xh2_7 xh2_8 qd6 qc3 => K (Ex.exit 2) (Xbars_Springs_0_0 qh4 qh5 qik qj8 qkn zk zl zm zo zn zp qdr qc9 xh2_0 xh2_1 xh2_2 xh2_3 xh2_4 xh2_5 xh2_6 xh2_7 xh2_8 qd6 qc3)) ui7 qbe qbd qbf qct qci u31 z8 z5 z6 z4 z7 z9 p3 p1 qba qa1 qa8 qa6 qas qa9 qa4 qa7 qa2 h3z u32 h3e := by kernel_rfl
theorem gbars_Springs_l0_ok (qi qf : Mo) (fuel : Nat) (K : Ex → St → Option AV) (ui7 : Int) (qbe qbd : Nat) (qbf : Ge) (qct qci u31 : Int) (z8 z5 : Nat) (z6 : Ge) (z4 z7 : Nat) (z9 : Ge) (p3 : List AV) (p1 : List (List AV)) (qba : ByteArray) (qa1 qa8 qa6 : Int) (qas qa9 : Bool) (qa4 qa7 qa2 : Option Nat) (h3z : List AV) (qkz : Int) (qk6 : List (List AV)) : ∀ (n' : Nat) (u32 : Int) (h3e : List (List AV)),
    loopK (exec Pr (Gbars_Springs qi qf) (Lbars_Springs qi qf fuel) (fnNt Pr 5) fuel (Cbars_Springs qi qf fuel) (lp Pr 5 1).1 (lp Pr 5 1).2 (live (lp Pr 5 1).1 (lp Pr 5 1).2 0)) (headN (live (lp Pr 5 1).1 (lp Pr 5 1).2 0) (writes (lp Pr 5 1).1) (Sbars_Springs_0 ui7 qbe qbd qbf qct qci u31 qkz z8 z5 z6 z4 z7 z9 p3 p1 qba qa1 qa8 qa6 qas qa9 qa4 qa7 qa2 h3z qk6)) n' (Sbars_Springs_0 ui7 qbe qbd qbf qct qci u31 u32 z8 z5 z6 z4 z7 z9 p3 p1 qba qa1 qa8 qa6 qas qa9 qa4 qa7 qa2 h3z h3e) K = gbars_Springs_l0 qi qf fuel (fun qh4 qh5 qik qj8 qkn zk zl zm zo zn zp qdr qc9 xh2_0 xh2_1 xh2_2 xh2_3 xh2_4 xh2_5 xh2_6 xh2_7 xh2_8 qd6 qc3 => K (Ex.exit 2) (Xbars_Springs_0_0 qh4 qh5 qik qj8 qkn zk zl zm zo zn zp qdr qc9 xh2_0 xh2_1 xh2_2 xh2_3 xh2_4 xh2_5 xh2_6 xh2_7 xh2_8 qd6 qc3)) ui7 qbe qbd qbf qct qci u31 z8 z5 z6 z4 z7 z9 p3 p1 qba qa1 qa8 qa6 qas qa9 qa4 qa7 qa2 h3z n' u32 h3e
  | 0, _, _ => rfl
  | n' + 1, u32, h3e => (gbars_Springs_l0_eq qi qf fuel (fun s => loopK (exec Pr (Gbars_Springs qi qf) (Lbars_Springs qi qf fuel) (fnNt Pr 5) fuel (Cbars_Springs qi qf fuel) (lp Pr 5 1).1 (lp Pr 5 1).2 (live (lp Pr 5 1).1 (lp Pr 5 1).2 0)) (headN (live (lp Pr 5 1).1 (lp Pr 5 1).2 0) (writes (lp Pr 5 1).1) (Sbars_Springs_0 ui7 qbe qbd qbf qct qci u31 qkz z8 z5 z6 z4 z7 z9 p3 p1 qba qa1 qa8 qa6 qas qa9 qa4 qa7 qa2 h3z qk6)) n' s K) K ui7 qbe qbd qbf qct qci u31 z8 z5 z6 z4 z7 z9 p3 p1 qba qa1 qa8 qa6 qas qa9 qa4 qa7 qa2 h3z qkz qk6 u32 h3e).trans
    (congrArg (fun kn => gbars_Springs_l0_step qi qf fuel kn (fun qh4 qh5 qik qj8 qkn zk zl zm zo zn zp qdr qc9 xh2_0 xh2_1 xh2_2 xh2_3 xh2_4 xh2_5 xh2_6 xh2_7 xh2_8 qd6 qc3 => K (Ex.exit 2) (Xbars_Springs_0_0 qh4 qh5 qik qj8 qkn zk zl zm zo zn zp qdr qc9 xh2_0 xh2_1 xh2_2 xh2_3 xh2_4 xh2_5 xh2_6 xh2_7 xh2_8 qd6 qc3)) ui7 qbe qbd qbf qct qci u31 z8 z5 z6 z4 z7 z9 p3 p1 qba qa1 qa8 qa6 qas qa9 qa4 qa7 qa2 h3z u32 h3e) (funext fun _ => funext fun _ => gbars_Springs_l0_ok qi qf fuel K ui7 qbe qbd qbf qct qci u31 z8 z5 z6 z4 z7 z9 p3 p1 qba qa1 qa8 qa6 qas qa9 qa4 qa7 qa2 h3z qkz qk6 n' _ _))
theorem gbars_Springs_L0 (qi qf : Mo) (fuel : Nat) : LOk Pr (Gbars_Springs qi qf) (Lbars_Springs qi qf fuel) (fnNt Pr 5) fuel (Cbars_Springs qi qf fuel) (lp Pr 5 1) := by
  refine .of Tbars_Springs_0 (Fbars_Springs_0 qi qf fuel) (fun L h => ?_) (fun ps st K r he hr => ?_)
  · have e : (Lbars_Springs qi qf fuel).get (writes (lp Pr 5 1).1) = some (lam Tbars_Springs_0 (Fbars_Springs_0 qi qf fuel)) := by kernel_rfl
    exact (Option.some.inj (e.symm.trans h)).symm
  · unfold Fbars_Springs_0 at hr
    split at hr
    · obtain rfl := (Option.some.inj he).symm
      exact (gbars_Springs_l0_ok qi qf fuel K _ _ _ _ _ _ _ _ _ _ _ _ _ _ _ _ _ _ _ _ _ _ _ _ _ _ _ fuel _ _).trans hr
    · cases hr
theorem gbars_Springs_l1_eq (qi qf : Mo) (fuel : Nat) (kn : St → Option AV) (K : Ex → St → Option AV) (qi1 qi4 : Nat) (qit : Ge) (qhu qkx : Int) (qd2 qdv : Nat) (qd0 : Ge) (qd3 qdy : Nat) (qdt : Ge) (qhr : List AV) (qhn : List (List AV)) (qf7 qgf : Nat) (qa0 : Ge) (u21 u22 : Int) (w2 w3 : Nat) (w5 : Ge) (wz w4 : Nat) (wf : Ge) (h1z : List AV) (h1e : List (List AV)) :
    exec Pr (Gbars_Springs qi qf) (Lbars_Springs qi qf fuel) (fnNt Pr 5) fuel (Cbars_Springs qi qf fuel) (lp Pr 5 0).1 (lp Pr 5 0).2 (live (lp Pr 5 0).1 (lp Pr 5 0).2 0) (Sbars_Springs_1 qf7 qgf qa0 u21 u22 w2 w3 w5 wz w4 wf h1z h1e) (fun e s => match e with | .normal => kn (headN (live (lp Pr 5 0).1 (lp Pr 5 0).2 0) (writes (lp Pr 5 0).1) (Sbars_Springs_1 qi1 qi4 qit qhu qkx qd2 qdv qd0 qd3 qdy qdt qhr qhn) s) | e => K e s) =
    gbars_Springs_l1_step qi qf fuel (fun qf7 qgf qa0 u21 u22 w2 w3 w5 wz w4 wf h1z h1e => kn (Sbars_Springs_1 qf7 qgf qa0 u21 u22 w2 w3 w5 wz w4 wf h1z h1e)) (fun zk zl zm zo zn zp qdr qc9 => K (Ex.exit 0) (Xbars_Springs_1_0 zk zl zm zo zn zp qdr qc9)) qf7 qgf qa0 u21 u22 w2 w3 w5 wz w4 wf h1z h1e := by kernel_rfl
theorem gbars_Springs_l1_ok (qi qf : Mo) (fuel : Nat) (K : Ex → St → Option AV) (qi1 qi4 : Nat) (qit : Ge) (qhu qkx : Int) (qd2 qdv : Nat) (qd0 : Ge) (qd3 qdy : Nat) (qdt : Ge) (qhr : List AV) (qhn : List (List AV)) : ∀ (n' qf7 qgf : Nat) (qa0 : Ge) (u21 u22 : Int) (w2 w3 : Nat) (w5 : Ge) (wz w4 : Nat) (wf : Ge) (h1z : List AV) (h1e : List (List AV)),
    loopK (exec Pr (Gbars_Springs qi qf) (Lbars_Springs qi qf fuel) (fnNt Pr 5) fuel (Cbars_Springs qi qf fuel) (lp Pr 5 0).1 (lp Pr 5 0).2 (live (lp Pr 5 0).1 (lp Pr 5 0).2 0)) (headN (live (lp Pr 5 0).1 (lp Pr 5 0).2 0) (writes (lp Pr 5 0).1) (Sbars_Springs_1 qi1 qi4 qit qhu qkx qd2 qdv qd0 qd3 qdy qdt qhr qhn)) n' (Sbars_Springs_1 qf7 qgf qa0 u21 u22 w2 w3 w5 wz w4 wf h1z h1e) K = gbars_Springs_l1 qi qf fuel (fun zk zl zm zo zn zp qdr qc9 => K (Ex.exit 0) (Xbars_Springs_1_0 zk zl zm zo zn zp qdr qc9)) n' qf7 qgf qa0 u21 u22 w2 w3 w5 wz w4 wf h1z h1e
  | 0, _, _, _, _, _, _, _, _, _, _, _, _, _ => rfl
  | n' + 1, qf7, qgf, qa0, u21, u22, w2, w3, w5, wz, w4, wf, h1z, h1e => (gbars_Springs_l1_eq qi qf fuel (fun s => loopK (exec Pr (Gbars_Springs qi qf) (Lbars_Springs qi qf fuel) (fnNt Pr 5) fuel (Cbars_Springs qi qf fuel) (lp Pr 5 0).1 (lp Pr 5 0).2 (live (lp Pr 5 0).1 (lp Pr 5 0).2 0)) (headN (live (lp Pr 5 0).1 (lp Pr 5 0).2 0) (writes (lp Pr 5 0).1) (Sbars_Springs_1 qi1 qi4 qit qhu qkx qd2 qdv qd0 qd3 qdy qdt qhr qhn)) n' s K) K qi1 qi4 qit qhu qkx qd2 qdv qd0 qd3 qdy qdt qhr qhn qf7 qgf qa0 u21 u22 w2 w3 w5 wz w4 wf h1z h1e).trans
    (congrArg (fun kn => gbars_Springs_l1_step qi qf fuel kn (fun zk zl zm zo zn zp qdr qc9 => K (Ex.exit 0) (Xbars_Springs_1_0 zk zl zm zo zn zp qdr qc9)) qf7 qgf qa0 u21 u22 w2 w3 w5 wz w4 wf h1z h1e) (funext fun _ => funext fun _ => funext fun _ => funext fun _ => funext fun _ => funext fun _ => funext fun _ => funext fun _ => funext fun _ => funext fun _ => funext fun _ => funext fun _ => funext fun _ => gbars_Springs_l1_ok qi qf fuel K qi1 qi4 qit qhu qkx qd2 qdv qd0 qd3 qdy qdt qhr qhn n' _ _ _ _ _ _ _ _ _ _ _ _ _))
theorem gbars_Springs_L1 (qi qf : Mo) (fuel : Nat) : LOk Pr (Gbars_Springs qi qf) (Lbars_Springs qi qf fuel) (fnNt Pr 5) fuel (Cbars_Springs qi qf fuel) (lp Pr 5 0) := by
  refine .of Tbars_Springs_1 (Fbars_Springs_1 qi qf fuel) (fun L h => ?_) (fun ps st K r he hr => ?_)
  · have e : (Lbars_Springs qi qf fuel).get (writes (lp Pr 5 0).1) = some (lam Tbars_Springs_1 (Fbars_Springs_1 qi qf fuel)) := by kernel_rfl
    exact (Option.some.inj (e.symm.trans h)).symm
  · unfold Fbars_Springs_1 at hr
    split at hr
    · obtain rfl := (Option.some.inj he).symm
      exact (gbars_Springs_l1_ok qi qf fuel K _ _ _ _ _ _ _ _ _ _ _ _ _ fuel _ _ _ _ _ _ _ _ _ _ _ _ _).trans hr
    · cases hr
noncomputable def gbars_Springs (qi qf : Mo) (fuel zi z1 : Nat) (wq : Ge) (zv zy : Nat) (w1 : Ge) : Option AV :=
  let r0 : Option AV := qi [AV.agg [AV.ro 4 zi z1 wq, AV.ro 9 zv zy w1]]; ck (okM [RS.one (LK.i .i64), RS.one (LK.i .i64)] r0) <| bif toI ((toT (getV r0)).headD AV.dead) != 0 then some (AV.tup [AV.ro 11 0 0 fun (x j : Nat) => [AV.int .i64 0, AV.int .u8 0, AV.int .i64 0, AV.int .i64 0, AV.int .i64 0, AV.int .i64 0, AV.int .i64 0, AV.int .i64 0, AV.flt .f64 (some 0), AV.flt .f64 (some 0), AV.flt .f64 (some 0)].getD j AV.dead, AV.int .i64 (toI ((toT (getV r0)).headD AV.dead))])
  else gbars_Springs_l1 qi qf fuel
    (fun (_ _ : Nat) (_ : Ge) (_ _ : Nat) (_ : Ge) (qko : List AV) (qgw : List (List AV)) => some (AV.tup [AV.ro 11 qgw.length qgw.length fun (i j : Nat) => (qgw.getD i qko).getD j AV.dead, AV.int .i64 0])) fuel (zv) (zy) (w1) ((↑zv : Int)) (0) (zi) (z1) (wq) (zv) (zy) (w1) ([AV.int .i64 0, AV.int .u8 0, AV.int .i64 0, AV.int .i64 0, AV.int .i64 0, AV.int .i64 0, AV.int .i64 0, AV.int .i64 0, AV.flt .f64 (some 0), AV.flt .f64 (some 0), AV.flt .f64 (some 0)]) ([])
theorem gbars_Springs_run (qi qf : Mo) (fuel zi z1 : Nat) (wq : Ge) (zv zy : Nat) (w1 : Ge) : run Pr (Gbars_Springs qi qf) [((6, 5), Lbars_Springs qi qf fuel)] fuel 7 5 [AV.agg [AV.ro 4 zi z1 wq, AV.ro 9 zv zy w1]] = gbars_Springs qi qf fuel zi z1 wq zv zy w1 := by kernel_rfl
noncomputable def mbars_Springs (qi qf : Mo) (fuel : Nat) (xs : List AV) : Option AV := match xs with
  | [AV.agg [AV.ro 4 zi z1 wq, AV.ro 9 zv zy w1]] => gbars_Springs qi qf fuel zi z1 wq zv zy w1
  | _ => none
abbrev Rbars_Springs : List RS := [RS.one (LK.l (nat_lit 11)), RS.one (LK.i .i64)]
theorem gbars_Springs_sm (qi qf : Mo) (fuel : Nat) (hΓ : GamOk Pr (Gbars_Springs qi qf)) (hP : NamesOk Pr) : SmOk Pr 5 (smM Rbars_Springs (mbars_Springs qi qf fuel)) := by
  refine smM_ok (fuel := fuel) hΓ hP (LamOk.of 6 5 (Lbars_Springs qi qf fuel) 2 (by kernel_rfl) (fun i hi => ?_)) 7 5 Rbars_Springs _ (fun xs v h => ?_)
  · match i, hi with
    | 1, _ => exact gbars_Springs_L0 qi qf fuel
    | 0, _ => exact gbars_Springs_L1 qi qf fuel
    | i + 2, hi => exact absurd hi (by omega)
  · unfold mbars_Springs at h
    split at h
    · exact (gbars_Springs_run qi qf fuel _ _ _ _ _ _).trans h
    · cases h
noncomputable def Sref18_Name_0 (zg : ByteArray) (ui3 : Int) : St := { env := [(0, AV.str zg), (3, AV.int .i64 ui3)], h := [], kd := [] }
noncomputable def Xref18_Name_0_0 (pf : Bool) : St := { env := [(2, AV.bool pf)], h := [], kd := [] }
noncomputable def Xref18_Name_0_1 : St := { env := [], h := [], kd := [] }
noncomputable def gref18_Name_l0_step (fuel : Nat) (kn : Int → Option AV) (kx0 : Bool → Option AV) (kx1 : Option AV) (zg : ByteArray) (ui3 : Int) : Option AV :=
  bif decide (ui3 < (↑zg.size : Int)) then ck (decide (0 ≤ ui3)) <| ck (decide (ui3 < (↑zg.size : Int))) <| ck (bif decide (sbyte zg ui3.toNat ≥ 97) then decide (0 ≤ ui3) else true) <| ck (bif decide (sbyte zg ui3.toNat ≥ 97) then decide (ui3 < (↑zg.size : Int)) else true) <| ck (decide (0 ≤ ui3)) <| ck (decide (ui3 < (↑zg.size : Int))) <| ck (bif decide (sbyte zg ui3.toNat ≥ 48) then decide (0 ≤ ui3) else true) <| ck (bif decide (sbyte zg ui3.toNat ≥ 48) then decide (ui3 < (↑zg.size : Int)) else true) <| bif bif !bif decide (sbyte zg ui3.toNat ≥ 97) then decide (sbyte zg ui3.toNat ≤ 122) else false then bif !bif decide (sbyte zg ui3.toNat ≥ 48) then decide (sbyte zg ui3.toNat ≤ 57) else false then true else ui3 == 0 else false then kx0 (false)
    else kn (IntKind.i64.wrap (ui3 + 1))
  else kx1
noncomputable def gref18_Name_l0 (fuel : Nat) (kx0 : Bool → Option AV) (kx1 : Option AV) (zg : ByteArray) : Nat → Int → Option AV
  | 0, _ => none
  | n' + 1, ui3 => gref18_Name_l0_step fuel (gref18_Name_l0 fuel kx0 kx1 zg n') kx0 kx1 zg ui3
noncomputable def Tref18_Name_0 : TS' := ⟨[(0, TA.s), (3, TA.i .i64)], [], []⟩
noncomputable def Fref18_Name_0 (fuel : Nat) (ps : List Pay) (K : Ex → St → Option AV) : Option AV := match ps with
  | .s zg :: .i ui3 :: [] => gref18_Name_l0 fuel (fun pf => K (Ex.ret) (Xref18_Name_0_0 pf)) (K (Ex.exit 0) Xref18_Name_0_1) zg fuel ui3
  | _ => none
noncomputable def Lref18_Name (fuel : Nat) : Lam AV := [(1125899906826300, lam Tref18_Name_0 (Fref18_Name_0 fuel))]
noncomputable def Gref18_Name : Gam := []
noncomputable def Cref18_Name (fuel : Nat) : CallI AV := callX (Gref18_Name) (execFn Pr (Gref18_Name) [((6, 81), Lref18_Name fuel)] fuel 6)
theorem gref18_Name_l0_eq (fuel : Nat) (kn : St → Option AV) (K : Ex → St → Option AV) (zg : ByteArray) (qhm ui3 : Int) :
    exec Pr (Gref18_Name) (Lref18_Name fuel) (fnNt Pr 81) fuel (Cref18_Name fuel) (lp Pr 81 0).1 (lp Pr 81 0).2 (live (lp Pr 81 0).1 (lp Pr 81 0).2 0) (Sref18_Name_0 zg ui3) (fun e s => match e with | .normal => kn (headN (live (lp Pr 81 0).1 (lp Pr 81 0).2 0) (writes (lp Pr 81 0).1) (Sref18_Name_0 zg qhm) s) | e => K e s) =
    gref18_Name_l0_step fuel (fun ui3 => kn (Sref18_Name_0 zg ui3)) (fun xu2 => K (Ex.ret) (Xref18_Name_0_0 xu2)) (K (Ex.exit 0) Xref18_Name_0_1) zg ui3 := by kernel_rfl
theorem gref18_Name_l0_ok (fuel : Nat) (K : Ex → St → Option AV) (zg : ByteArray) (qhm : Int) : ∀ (n' : Nat) (ui3 : Int),
    loopK (exec Pr (Gref18_Name) (Lref18_Name fuel) (fnNt Pr 81) fuel (Cref18_Name fuel) (lp Pr 81 0).1 (lp Pr 81 0).2 (live (lp Pr 81 0).1 (lp Pr 81 0).2 0)) (headN (live (lp Pr 81 0).1 (lp Pr 81 0).2 0) (writes (lp Pr 81 0).1) (Sref18_Name_0 zg qhm)) n' (Sref18_Name_0 zg ui3) K = gref18_Name_l0 fuel (fun xu2 => K (Ex.ret) (Xref18_Name_0_0 xu2)) (K (Ex.exit 0) Xref18_Name_0_1) zg n' ui3
  | 0, _ => rfl
  | n' + 1, ui3 => (gref18_Name_l0_eq fuel (fun s => loopK (exec Pr (Gref18_Name) (Lref18_Name fuel) (fnNt Pr 81) fuel (Cref18_Name fuel) (lp Pr 81 0).1 (lp Pr 81 0).2 (live (lp Pr 81 0).1 (lp Pr 81 0).2 0)) (headN (live (lp Pr 81 0).1 (lp Pr 81 0).2 0) (writes (lp Pr 81 0).1) (Sref18_Name_0 zg qhm)) n' s K) K zg qhm ui3).trans
    (congrArg (fun kn => gref18_Name_l0_step fuel kn (fun xu2 => K (Ex.ret) (Xref18_Name_0_0 xu2)) (K (Ex.exit 0) Xref18_Name_0_1) zg ui3) (funext fun _ => gref18_Name_l0_ok fuel K zg qhm n' _))
theorem gref18_Name_L0 (fuel : Nat) : LOk Pr (Gref18_Name) (Lref18_Name fuel) (fnNt Pr 81) fuel (Cref18_Name fuel) (lp Pr 81 0) := by
  refine .of Tref18_Name_0 (Fref18_Name_0 fuel) (fun L h => ?_) (fun ps st K r he hr => ?_)
  · have e : (Lref18_Name fuel).get (writes (lp Pr 81 0).1) = some (lam Tref18_Name_0 (Fref18_Name_0 fuel)) := by kernel_rfl
    exact (Option.some.inj (e.symm.trans h)).symm
  · unfold Fref18_Name_0 at hr
    split at hr
    · obtain rfl := (Option.some.inj he).symm
      exact (gref18_Name_l0_ok fuel K _ _ fuel _).trans hr
    · cases hr
noncomputable def gref18_Name (fuel : Nat) (us0 : ByteArray) : Option AV :=
  bif bif decide ((↑us0.size : Int) < 1) then true else decide ((↑us0.size : Int) > 8) then some (AV.bool false)
  else gref18_Name_l0 fuel
    (fun (xu2 : Bool) => some (AV.bool xu2))
    (some (AV.bool true))
    (us0) fuel (0)
theorem gref18_Name_run (fuel : Nat) (us0 : ByteArray) : run Pr (Gref18_Name) [((6, 81), Lref18_Name fuel)] fuel 7 81 [AV.str us0] = gref18_Name fuel us0 := by kernel_rfl
noncomputable def mref18_Name (fuel : Nat) (xs : List AV) : Option AV := match xs with
  | [AV.str us0] => gref18_Name fuel us0
  | _ => none
abbrev Rref18_Name : List RS := [RS.one LK.b]
theorem gref18_Name_sm (fuel : Nat) (hΓ : GamOk Pr (Gref18_Name)) (hP : NamesOk Pr) : SmOk Pr 81 (smM Rref18_Name (mref18_Name fuel)) := by
  refine smM_ok (fuel := fuel) hΓ hP (LamOk.of 6 81 (Lref18_Name fuel) 1 (by kernel_rfl) (fun i hi => ?_)) 7 81 Rref18_Name _ (fun xs v h => ?_)
  · match i, hi with
    | 0, _ => exact gref18_Name_L0 fuel
    | i + 1, hi => exact absurd hi (by omega)
  · unfold mref18_Name at h
    split at h
    · exact (gref18_Name_run fuel _).trans h
    · cases h
noncomputable def Lref18_near (fuel : Nat) : Lam AV := []
noncomputable def Gref18_near : Gam := []
noncomputable def Cref18_near (fuel : Nat) : CallI AV := callX (Gref18_near) (execFn Pr (Gref18_near) [((6, 82), Lref18_near fuel)] fuel 6)
noncomputable def gref18_near (fuel : Nat) (un0 : Int) : Option AV :=
  some (AV.bool (bif decide (un0 ≥ (-1048576)) then decide (un0 ≤ 1048576) else false))
theorem gref18_near_run (fuel : Nat) (un0 : Int) : run Pr (Gref18_near) [((6, 82), Lref18_near fuel)] fuel 7 82 [AV.int .i32 un0] = gref18_near fuel un0 := by kernel_rfl
noncomputable def mref18_near (fuel : Nat) (xs : List AV) : Option AV := match xs with
  | [AV.int .i32 un0] => gref18_near fuel un0
  | _ => none
abbrev Rref18_near : List RS := [RS.one LK.b]
theorem gref18_near_sm (fuel : Nat) (hΓ : GamOk Pr (Gref18_near)) (hP : NamesOk Pr) : SmOk Pr 82 (smM Rref18_near (mref18_near fuel)) := by
  refine smM_ok (fuel := fuel) hΓ hP (LamOk.of 6 82 (Lref18_near fuel) 0 (by kernel_rfl) (fun i hi => ?_)) 7 82 Rref18_near _ (fun xs v h => ?_)
  · match i, hi with
    | i + 0, hi => exact absurd hi (by omega)
  · unfold mref18_near at h
    split at h
    · exact (gref18_near_run fuel _).trans h
    · cases h
noncomputable def Lref18_May (v4 vz : Mo) (fuel : Nat) : Lam AV := []
noncomputable def Gref18_May (v4 vz : Mo) : Gam := [(81, smM [RS.one LK.b] v4), (82, smM [RS.one LK.b] vz)]
noncomputable def Cref18_May (v4 vz : Mo) (fuel : Nat) : CallI AV := callX (Gref18_May v4 vz) (execFn Pr (Gref18_May v4 vz) [((6, 58), Lref18_May v4 vz fuel)] fuel 6)
noncomputable def gref18_May (v4 vz : Mo) (fuel : Nat) (qgd : ByteArray) (qgp qh1 qiz : Int) : Option AV :=
  ck (okM [RS.one LK.b] (v4 [AV.str qgd])) <| ck (bif toB (getV (v4 [AV.str qgd])) then true else true) <| ck (bif toB (getV (v4 [AV.str qgd])) then okM [RS.one LK.b] (vz [AV.int .i32 qgp]) else true) <| ck (bif bif toB (getV (v4 [AV.str qgd])) then toB (getV (vz [AV.int .i32 qgp])) else false then true else true) <| ck (bif bif toB (getV (v4 [AV.str qgd])) then toB (getV (vz [AV.int .i32 qgp])) else false then okM [RS.one LK.b] (vz [AV.int .i32 qh1]) else true) <| ck (bif bif bif toB (getV (v4 [AV.str qgd])) then toB (getV (vz [AV.int .i32 qgp])) else false then toB (getV (vz [AV.int .i32 qh1])) else false then true else true) <| some (AV.bool (bif bif bif toB (getV (v4 [AV.str qgd])) then toB (getV (vz [AV.int .i32 qgp])) else false then toB (getV (vz [AV.int .i32 qh1])) else false then decide (qiz ≤ 7) else false))
theorem gref18_May_run (v4 vz : Mo) (fuel : Nat) (qgd : ByteArray) (qgp qh1 qiz : Int) : run Pr (Gref18_May v4 vz) [((6, 58), Lref18_May v4 vz fuel)] fuel 7 58 [AV.agg [AV.str qgd, AV.int .i32 qgp, AV.int .i32 qh1, AV.int .u8 qiz]] = gref18_May v4 vz fuel qgd qgp qh1 qiz := by kernel_rfl
noncomputable def mref18_May (v4 vz : Mo) (fuel : Nat) (xs : List AV) : Option AV := match xs with
  | [AV.agg [AV.str qgd, AV.int .i32 qgp, AV.int .i32 qh1, AV.int .u8 qiz]] => gref18_May v4 vz fuel qgd qgp qh1 qiz
  | _ => none
abbrev Rref18_May : List RS := [RS.one LK.b]
theorem gref18_May_sm (v4 vz : Mo) (fuel : Nat) (hΓ : GamOk Pr (Gref18_May v4 vz)) (hP : NamesOk Pr) : SmOk Pr 58 (smM Rref18_May (mref18_May v4 vz fuel)) := by
  refine smM_ok (fuel := fuel) hΓ hP (LamOk.of 6 58 (Lref18_May v4 vz fuel) 0 (by kernel_rfl) (fun i hi => ?_)) 7 58 Rref18_May _ (fun xs v h => ?_)
  · match i, hi with
    | i + 0, hi => exact absurd hi (by omega)
  · unfold mref18_May at h
    split at h
    · exact (gref18_May_run v4 vz fuel _ _ _ _).trans h
    · cases h
noncomputable def Sref18_Check_0 (p8 qbh : Nat) (vp : Ge) (pb uk5 : Int) : St := { env := [(0, AV.ro 4 p8 qbh vp), (4, AV.int .i64 pb), (5, AV.int .i64 uk5)], h := [], kd := [] }
noncomputable def Xref18_Check_0_0 (qlf qlh : Int) : St := { env := [(2, AV.int .i64 qlf), (3, AV.int .i64 qlh)], h := [], kd := [] }
noncomputable def Xref18_Check_0_1 (qdh qdi : Nat) (qda : Ge) (qkk : Int) : St := { env := [(0, AV.ro 4 qdh qdi qda), (4, AV.int .i64 qkk)], h := [], kd := [] }
noncomputable def gref18_Check_l0_step (qw : Mo) (fuel : Nat) (kn : Int → Option AV) (kx0 : Int → Int → Option AV) (kx1 : Nat → Nat → (Ge) → Int → Option AV) (p8 qbh : Nat) (vp : Ge) (pb uk5 : Int) : Option AV :=
  bif decide (uk5 < pb) then ck (decide (0 ≤ uk5)) <| ck (decide (uk5 < (↑p8 : Int))) <| ck (fitK LK.s (vp uk5.toNat 0)) <| ck (decide (0 ≤ pb)) <| ck (decide (pb < (↑p8 : Int))) <| ck (fitK LK.s (vp pb.toNat 0)) <| ck (bif !strEq (toS (vp uk5.toNat 0)) (toS (vp pb.toNat 0)) then decide (0 ≤ uk5) else true) <| ck (bif !strEq (toS (vp uk5.toNat 0)) (toS (vp pb.toNat 0)) then decide (uk5 < (↑p8 : Int)) else true) <| ck (bif !strEq (toS (vp uk5.toNat 0)) (toS (vp pb.toNat 0)) then true else true) <| ck (bif !strEq (toS (vp uk5.toNat 0)) (toS (vp pb.toNat 0)) then fitK (LK.i .i32) (vp uk5.toNat 1) else true) <| ck (bif !strEq (toS (vp uk5.toNat 0)) (toS (vp pb.toNat 0)) then decide (0 ≤ pb) else true) <| ck (bif !strEq (toS (vp uk5.toNat 0)) (toS (vp pb.toNat 0)) then decide (pb < (↑p8 : Int)) else true) <| ck (bif !strEq (toS (vp uk5.toNat 0)) (toS (vp pb.toNat 0)) then true else true) <| ck (bif !strEq (toS (vp uk5.toNat 0)) (toS (vp pb.toNat 0)) then fitK (LK.i .i32) (vp pb.toNat 1) else true) <| ck (bif toI (vp uk5.toNat 1) == toI (vp pb.toNat 1) then decide (0 ≤ uk5) else true) <| ck (bif toI (vp uk5.toNat 1) == toI (vp pb.toNat 1) then decide (uk5 < (↑p8 : Int)) else true) <| ck (bif toI (vp uk5.toNat 1) == toI (vp pb.toNat 1) then true else true) <| ck (bif toI (vp uk5.toNat 1) == toI (vp pb.toNat 1) then fitK (LK.i .i32) (vp uk5.toNat 2) else true) <| ck (bif toI (vp uk5.toNat 1) == toI (vp pb.toNat 1) then decide (0 ≤ pb) else true) <| ck (bif toI (vp uk5.toNat 1) == toI (vp pb.toNat 1) then decide (pb < (↑p8 : Int)) else true) <| ck (bif toI (vp uk5.toNat 1) == toI (vp pb.toNat 1) then true else true) <| ck (bif toI (vp uk5.toNat 1) == toI (vp pb.toNat 1) then fitK (LK.i .i32) (vp pb.toNat 2) else true) <| bif bif strEq (toS (vp uk5.toNat 0)) (toS (vp pb.toNat 0)) then true else bif toI (vp uk5.toNat 1) == toI (vp pb.toNat 1) then toI (vp uk5.toNat 2) == toI (vp pb.toNat 2) else false then kx0 (280) (pb)
    else kn (IntKind.i64.wrap (uk5 + 1))
  else kx1 (p8) (qbh) (vp) (pb)
noncomputable def gref18_Check_l0 (qw : Mo) (fuel : Nat) (kx0 : Int → Int → Option AV) (kx1 : Nat → Nat → (Ge) → Int → Option AV) (p8 qbh : Nat) (vp : Ge) (pb : Int) : Nat → Int → Option AV
  | 0, _ => none
  | n' + 1, uk5 => gref18_Check_l0_step qw fuel (gref18_Check_l0 qw fuel kx0 kx1 p8 qbh vp pb n') kx0 kx1 p8 qbh vp pb uk5
noncomputable def Tref18_Check_0 : TS' := ⟨[(0, TA.ro 4), (4, TA.i .i64), (5, TA.i .i64)], [], []⟩
noncomputable def Fref18_Check_0 (qw : Mo) (fuel : Nat) (ps : List Pay) (K : Ex → St → Option AV) : Option AV := match ps with
  | .n p8 :: .n qbh :: .g vp :: .i pb :: .i uk5 :: [] => gref18_Check_l0 qw fuel (fun qlf qlh => K (Ex.ret) (Xref18_Check_0_0 qlf qlh)) (fun qdh qdi qda qkk => K (Ex.exit 2) (Xref18_Check_0_1 qdh qdi qda qkk)) p8 qbh vp pb fuel uk5
  | _ => none
noncomputable def Sref18_Check_1 (vr vv : Nat) (vf : Ge) (ui4 : Int) : St := { env := [(0, AV.ro 4 vr vv vf), (4, AV.int .i64 ui4)], h := [], kd := [] }
noncomputable def Xref18_Check_1_0 (qlk qli : Int) : St := { env := [(2, AV.int .i64 qlk), (3, AV.int .i64 qli)], h := [], kd := [] }
noncomputable def Xref18_Check_1_1 : St := { env := [], h := [], kd := [] }
noncomputable def gref18_Check_l1_step (qw : Mo) (fuel : Nat) (kn : Nat → Nat → (Ge) → Int → Option AV) (kx0 : Int → Int → Option AV) (kx1 : Option AV) (vr vv : Nat) (vf : Ge) (ui4 : Int) : Option AV :=
  bif decide (ui4 < (↑vr : Int)) then ck (decide (0 ≤ ui4)) <| ck (decide (ui4 < (↑vr : Int))) <| ck (fitKs [LK.s, LK.i .i32, LK.i .i32, LK.i .u8] [vf ui4.toNat 0, vf ui4.toNat 1, vf ui4.toNat 2, vf ui4.toNat 3]) <| ck (okM [RS.one LK.b] (qw [AV.agg [AV.str (toS (vf ui4.toNat 0)), AV.int .i32 (toI (vf ui4.toNat 1)), AV.int .i32 (toI (vf ui4.toNat 2)), AV.int .u8 (toI (vf ui4.toNat 3))]])) <| bif !toB (getV (qw [AV.agg [AV.str (toS (vf ui4.toNat 0)), AV.int .i32 (toI (vf ui4.toNat 1)), AV.int .i32 (toI (vf ui4.toNat 2)), AV.int .u8 (toI (vf ui4.toNat 3))]])) then kx0 (280) (ui4)
    else gref18_Check_l0 qw fuel
      (fun (xu2 xu3 : Int) => kx0 (xu2) (xu3))
      (fun (qbq qdg : Nat) (qc7 : Ge) (qkf : Int) => kn (qbq) (qdg) (qc7) (IntKind.i64.wrap (qkf + 1)))
      (vr)
      (vv)
      (vf)
      (ui4) fuel (0)
  else kx1
noncomputable def gref18_Check_l1 (qw : Mo) (fuel : Nat) (kx0 : Int → Int → Option AV) (kx1 : Option AV) : Nat → Nat → Nat → (Ge) → Int → Option AV
  | 0, _, _, _, _ => none
  | n' + 1, vr, vv, vf, ui4 => gref18_Check_l1_step qw fuel (gref18_Check_l1 qw fuel kx0 kx1 n') kx0 kx1 vr vv vf ui4
noncomputable def Tref18_Check_1 : TS' := ⟨[(0, TA.ro 4), (4, TA.i .i64)], [], []⟩
noncomputable def Fref18_Check_1 (qw : Mo) (fuel : Nat) (ps : List Pay) (K : Ex → St → Option AV) : Option AV := match ps with
  | .n vr :: .n vv :: .g vf :: .i ui4 :: [] => gref18_Check_l1 qw fuel (fun qlk qli => K (Ex.ret) (Xref18_Check_1_0 qlk qli)) (K (Ex.exit 0) Xref18_Check_1_1) fuel vr vv vf ui4
  | _ => none
noncomputable def Lref18_Check (qw : Mo) (fuel : Nat) : Lam AV := [(36893488147414908972, lam Tref18_Check_0 (Fref18_Check_0 qw fuel)), (36893488147419102780, lam Tref18_Check_1 (Fref18_Check_1 qw fuel))]
noncomputable def Gref18_Check (qw : Mo) : Gam := [(58, smM [RS.one LK.b] qw)]
noncomputable def Cref18_Check (qw : Mo) (fuel : Nat) : CallI AV := callX (Gref18_Check qw) (execFn Pr (Gref18_Check qw) [((6, 37), Lref18_Check qw fuel)] fuel 6)
theorem gref18_Check_l0_eq (qw : Mo) (fuel : Nat) (kn : St → Option AV) (K : Ex → St → Option AV) (p8 qbh : Nat) (vp : Ge) (pb qk7 uk5 : Int) :
    exec Pr (Gref18_Check qw) (Lref18_Check qw fuel) (fnNt Pr 37) fuel (Cref18_Check qw fuel) (lp Pr 37 1).1 (lp Pr 37 1).2 (live (lp Pr 37 1).1 (lp Pr 37 1).2 0) (Sref18_Check_0 p8 qbh vp pb uk5) (fun e s => match e with | .normal => kn (headN (live (lp Pr 37 1).1 (lp Pr 37 1).2 0) (writes (lp Pr 37 1).1) (Sref18_Check_0 p8 qbh vp pb qk7) s) | e => K e s) =
    gref18_Check_l0_step qw fuel (fun uk5 => kn (Sref18_Check_0 p8 qbh vp pb uk5)) (fun xu2 xu3 => K (Ex.ret) (Xref18_Check_0_0 xu2 xu3)) (fun qbq qdg qc7 qkf => K (Ex.exit 2) (Xref18_Check_0_1 qbq qdg qc7 qkf)) p8 qbh vp pb uk5 := by kernel_rfl
theorem gref18_Check_l0_ok (qw : Mo) (fuel : Nat) (K : Ex → St → Option AV) (p8 qbh : Nat) (vp : Ge) (pb qk7 : Int) : ∀ (n' : Nat) (uk5 : Int),
    loopK (exec Pr (Gref18_Check qw) (Lref18_Check qw fuel) (fnNt Pr 37) fuel (Cref18_Check qw fuel) (lp Pr 37 1).1 (lp Pr 37 1).2 (live (lp Pr 37 1).1 (lp Pr 37 1).2 0)) (headN (live (lp Pr 37 1).1 (lp Pr 37 1).2 0) (writes (lp Pr 37 1).1) (Sref18_Check_0 p8 qbh vp pb qk7)) n' (Sref18_Check_0 p8 qbh vp pb uk5) K = gref18_Check_l0 qw fuel (fun xu2 xu3 => K (Ex.ret) (Xref18_Check_0_0 xu2 xu3)) (fun qbq qdg qc7 qkf => K (Ex.exit 2) (Xref18_Check_0_1 qbq qdg qc7 qkf)) p8 qbh vp pb n' uk5
  | 0, _ => rfl
  | n' + 1, uk5 => (gref18_Check_l0_eq qw fuel (fun s => loopK (exec Pr (Gref18_Check qw) (Lref18_Check qw fuel) (fnNt Pr 37) fuel (Cref18_Check qw fuel) (lp Pr 37 1).1 (lp Pr 37 1).2 (live (lp Pr 37 1).1 (lp Pr 37 1).2 0)) (headN (live (lp Pr 37 1).1 (lp Pr 37 1).2 0) (writes (lp Pr 37 1).1) (Sref18_Check_0 p8 qbh vp pb qk7)) n' s K) K p8 qbh vp pb qk7 uk5).trans
    (congrArg (fun kn => gref18_Check_l0_step qw fuel kn (fun xu2 xu3 => K (Ex.ret) (Xref18_Check_0_0 xu2 xu3)) (fun qbq qdg qc7 qkf => K (Ex.exit 2) (Xref18_Check_0_1 qbq qdg qc7 qkf)) p8 qbh vp pb uk5) (funext fun _ => gref18_Check_l0_ok qw fuel K p8 qbh vp pb qk7 n' _))
theorem gref18_Check_L0 (qw : Mo) (fuel : Nat) : LOk Pr (Gref18_Check qw) (Lref18_Check qw fuel) (fnNt Pr 37) fuel (Cref18_Check qw fuel) (lp Pr 37 1) := by
  refine .of Tref18_Check_0 (Fref18_Check_0 qw fuel) (fun L h => ?_) (fun ps st K r he hr => ?_)
  · have e : (Lref18_Check qw fuel).get (writes (lp Pr 37 1).1) = some (lam Tref18_Check_0 (Fref18_Check_0 qw fuel)) := by kernel_rfl
    exact (Option.some.inj (e.symm.trans h)).symm
  · unfold Fref18_Check_0 at hr
    split at hr
    · obtain rfl := (Option.some.inj he).symm
      exact (gref18_Check_l0_ok qw fuel K _ _ _ _ _ fuel _).trans hr
    · cases hr
theorem gref18_Check_l1_eq (qw : Mo) (fuel : Nat) (kn : St → Option AV) (K : Ex → St → Option AV) (qgk qgn : Nat) (qgm : Ge) (qe8 : Int) (vr vv : Nat) (vf : Ge) (ui4 : Int) :
    exec Pr (Gref18_Check qw) (Lref18_Check qw fuel) (fnNt Pr 37) fuel (Cref18_Check qw fuel) (lp Pr 37 0).1 (lp Pr 37 0).2 (live (lp Pr 37 0).1 (lp Pr 37 0).2 0) (Sref18_Check_1 vr vv vf ui4) (fun e s => match e with | .normal => kn (headN (live (lp Pr 37 0).1 (lp Pr 37 0).2 0) (writes (lp Pr 37 0).1) (Sref18_Check_1 qgk qgn qgm qe8) s) | e => K e s) =
    gref18_Check_l1_step qw fuel (fun vr vv vf ui4 => kn (Sref18_Check_1 vr vv vf ui4)) (fun xu2 xu3 => K (Ex.ret) (Xref18_Check_1_0 xu2 xu3)) (K (Ex.exit 0) Xref18_Check_1_1) vr vv vf ui4 := by kernel_rfl
theorem gref18_Check_l1_ok (qw : Mo) (fuel : Nat) (K : Ex → St → Option AV) (qgk qgn : Nat) (qgm : Ge) (qe8 : Int) : ∀ (n' vr vv : Nat) (vf : Ge) (ui4 : Int),
    loopK (exec Pr (Gref18_Check qw) (Lref18_Check qw fuel) (fnNt Pr 37) fuel (Cref18_Check qw fuel) (lp Pr 37 0).1 (lp Pr 37 0).2 (live (lp Pr 37 0).1 (lp Pr 37 0).2 0)) (headN (live (lp Pr 37 0).1 (lp Pr 37 0).2 0) (writes (lp Pr 37 0).1) (Sref18_Check_1 qgk qgn qgm qe8)) n' (Sref18_Check_1 vr vv vf ui4) K = gref18_Check_l1 qw fuel (fun xu2 xu3 => K (Ex.ret) (Xref18_Check_1_0 xu2 xu3)) (K (Ex.exit 0) Xref18_Check_1_1) n' vr vv vf ui4
  | 0, _, _, _, _ => rfl
  | n' + 1, vr, vv, vf, ui4 => (gref18_Check_l1_eq qw fuel (fun s => loopK (exec Pr (Gref18_Check qw) (Lref18_Check qw fuel) (fnNt Pr 37) fuel (Cref18_Check qw fuel) (lp Pr 37 0).1 (lp Pr 37 0).2 (live (lp Pr 37 0).1 (lp Pr 37 0).2 0)) (headN (live (lp Pr 37 0).1 (lp Pr 37 0).2 0) (writes (lp Pr 37 0).1) (Sref18_Check_1 qgk qgn qgm qe8)) n' s K) K qgk qgn qgm qe8 vr vv vf ui4).trans
    (congrArg (fun kn => gref18_Check_l1_step qw fuel kn (fun xu2 xu3 => K (Ex.ret) (Xref18_Check_1_0 xu2 xu3)) (K (Ex.exit 0) Xref18_Check_1_1) vr vv vf ui4) (funext fun _ => funext fun _ => funext fun _ => funext fun _ => gref18_Check_l1_ok qw fuel K qgk qgn qgm qe8 n' _ _ _ _))
theorem gref18_Check_L1 (qw : Mo) (fuel : Nat) : LOk Pr (Gref18_Check qw) (Lref18_Check qw fuel) (fnNt Pr 37) fuel (Cref18_Check qw fuel) (lp Pr 37 0) := by
  refine .of Tref18_Check_1 (Fref18_Check_1 qw fuel) (fun L h => ?_) (fun ps st K r he hr => ?_)
  · have e : (Lref18_Check qw fuel).get (writes (lp Pr 37 0).1) = some (lam Tref18_Check_1 (Fref18_Check_1 qw fuel)) := by kernel_rfl
    exact (Option.some.inj (e.symm.trans h)).symm
  · unfold Fref18_Check_1 at hr
    split at hr
    · obtain rfl := (Option.some.inj he).symm
      exact (gref18_Check_l1_ok qw fuel K _ _ _ _ fuel _ _ _ _).trans hr
    · cases hr
noncomputable def gref18_Check (qw : Mo) (fuel yn p6 : Nat) (pu : Ge) : Option AV :=
  bif decide ((↑yn : Int) > 16) then some (AV.tup [AV.int .i64 3, AV.int .i64 0])
  else gref18_Check_l1 qw fuel
    (fun (pf qfi : Int) => some (AV.tup [AV.int .i64 pf, AV.int .i64 qfi]))
    (some (AV.tup [AV.int .i64 0, AV.int .i64 0])) fuel (yn) (p6) (pu) (0)
theorem gref18_Check_run (qw : Mo) (fuel yn p6 : Nat) (pu : Ge) : run Pr (Gref18_Check qw) [((6, 37), Lref18_Check qw fuel)] fuel 7 37 [AV.ro 4 yn p6 pu] = gref18_Check qw fuel yn p6 pu := by kernel_rfl
noncomputable def mref18_Check (qw : Mo) (fuel : Nat) (xs : List AV) : Option AV := match xs with
  | [AV.ro 4 yn p6 pu] => gref18_Check qw fuel yn p6 pu
  | _ => none
abbrev Rref18_Check : List RS := [RS.one (LK.i .i64), RS.one (LK.i .i64)]
theorem gref18_Check_sm (qw : Mo) (fuel : Nat) (hΓ : GamOk Pr (Gref18_Check qw)) (hP : NamesOk Pr) : SmOk Pr 37 (smM Rref18_Check (mref18_Check qw fuel)) := by
  refine smM_ok (fuel := fuel) hΓ hP (LamOk.of 6 37 (Lref18_Check qw fuel) 2 (by kernel_rfl) (fun i hi => ?_)) 7 37 Rref18_Check _ (fun xs v h => ?_)
  · match i, hi with
    | 1, _ => exact gref18_Check_L0 qw fuel
    | 0, _ => exact gref18_Check_L1 qw fuel
    | i + 2, hi => exact absurd hi (by omega)
  · unfold mref18_Check at h
    split at h
    · exact (gref18_Check_run qw fuel _ _ _).trans h
    · cases h
noncomputable def Sref19_Named_0 (zg : ByteArray) (ui3 : Int) : St := { env := [(0, AV.str zg), (3, AV.int .i64 ui3)], h := [], kd := [] }
noncomputable def Xref19_Named_0_0 (pf : Bool) : St := { env := [(2, AV.bool pf)], h := [], kd := [] }
noncomputable def Xref19_Named_0_1 : St := { env := [], h := [], kd := [] }
noncomputable def gref19_Named_l0_step (fuel : Nat) (kn : Int → Option AV) (kx0 : Bool → Option AV) (kx1 : Option AV) (zg : ByteArray) (ui3 : Int) : Option AV :=
  bif decide (ui3 < (↑zg.size : Int)) then ck (decide (0 ≤ ui3)) <| ck (decide (ui3 < (↑zg.size : Int))) <| ck (bif !decide (sbyte zg ui3.toNat < 97) then decide (0 ≤ ui3) else true) <| ck (bif !decide (sbyte zg ui3.toNat < 97) then decide (ui3 < (↑zg.size : Int)) else true) <| ck (bif bif decide (sbyte zg ui3.toNat < 97) then true else decide (sbyte zg ui3.toNat > 122) then decide (0 ≤ ui3) else true) <| ck (bif bif decide (sbyte zg ui3.toNat < 97) then true else decide (sbyte zg ui3.toNat > 122) then decide (ui3 < (↑zg.size : Int)) else true) <| ck (bif !decide (sbyte zg ui3.toNat < 48) then decide (0 ≤ ui3) else true) <| ck (bif !decide (sbyte zg ui3.toNat < 48) then decide (ui3 < (↑zg.size : Int)) else true) <| bif bif bif decide (sbyte zg ui3.toNat < 97) then true else decide (sbyte zg ui3.toNat > 122) then bif decide (sbyte zg ui3.toNat < 48) then true else decide (sbyte zg ui3.toNat > 57) else false then kx0 (false)
    else kn (IntKind.i64.wrap (ui3 + 1))
  else kx1
noncomputable def gref19_Named_l0 (fuel : Nat) (kx0 : Bool → Option AV) (kx1 : Option AV) (zg : ByteArray) : Nat → Int → Option AV
  | 0, _ => none
  | n' + 1, ui3 => gref19_Named_l0_step fuel (gref19_Named_l0 fuel kx0 kx1 zg n') kx0 kx1 zg ui3
noncomputable def Tref19_Named_0 : TS' := ⟨[(0, TA.s), (3, TA.i .i64)], [], []⟩
noncomputable def Fref19_Named_0 (fuel : Nat) (ps : List Pay) (K : Ex → St → Option AV) : Option AV := match ps with
  | .s zg :: .i ui3 :: [] => gref19_Named_l0 fuel (fun pf => K (Ex.ret) (Xref19_Named_0_0 pf)) (K (Ex.exit 0) Xref19_Named_0_1) zg fuel ui3
  | _ => none
noncomputable def Lref19_Named (fuel : Nat) : Lam AV := [(562949951324172, lam Tref19_Named_0 (Fref19_Named_0 fuel))]
noncomputable def Gref19_Named : Gam := []
noncomputable def Cref19_Named (fuel : Nat) : CallI AV := callX (Gref19_Named) (execFn Pr (Gref19_Named) [((6, 59), Lref19_Named fuel)] fuel 6)
theorem gref19_Named_l0_eq (fuel : Nat) (kn : St → Option AV) (K : Ex → St → Option AV) (zg : ByteArray) (qhm ui3 : Int) :
    exec Pr (Gref19_Named) (Lref19_Named fuel) (fnNt Pr 59) fuel (Cref19_Named fuel) (lp Pr 59 0).1 (lp Pr 59 0).2 (live (lp Pr 59 0).1 (lp Pr 59 0).2 0) (Sref19_Named_0 zg ui3) (fun e s => match e with | .normal => kn (headN (live (lp Pr 59 0).1 (lp Pr 59 0).2 0) (writes (lp Pr 59 0).1) (Sref19_Named_0 zg qhm) s) | e => K e s) =
    gref19_Named_l0_step fuel (fun ui3 => kn (Sref19_Named_0 zg ui3)) (fun xu2 => K (Ex.ret) (Xref19_Named_0_0 xu2)) (K (Ex.exit 0) Xref19_Named_0_1) zg ui3 := by kernel_rfl
theorem gref19_Named_l0_ok (fuel : Nat) (K : Ex → St → Option AV) (zg : ByteArray) (qhm : Int) : ∀ (n' : Nat) (ui3 : Int),
    loopK (exec Pr (Gref19_Named) (Lref19_Named fuel) (fnNt Pr 59) fuel (Cref19_Named fuel) (lp Pr 59 0).1 (lp Pr 59 0).2 (live (lp Pr 59 0).1 (lp Pr 59 0).2 0)) (headN (live (lp Pr 59 0).1 (lp Pr 59 0).2 0) (writes (lp Pr 59 0).1) (Sref19_Named_0 zg qhm)) n' (Sref19_Named_0 zg ui3) K = gref19_Named_l0 fuel (fun xu2 => K (Ex.ret) (Xref19_Named_0_0 xu2)) (K (Ex.exit 0) Xref19_Named_0_1) zg n' ui3
  | 0, _ => rfl
  | n' + 1, ui3 => (gref19_Named_l0_eq fuel (fun s => loopK (exec Pr (Gref19_Named) (Lref19_Named fuel) (fnNt Pr 59) fuel (Cref19_Named fuel) (lp Pr 59 0).1 (lp Pr 59 0).2 (live (lp Pr 59 0).1 (lp Pr 59 0).2 0)) (headN (live (lp Pr 59 0).1 (lp Pr 59 0).2 0) (writes (lp Pr 59 0).1) (Sref19_Named_0 zg qhm)) n' s K) K zg qhm ui3).trans
    (congrArg (fun kn => gref19_Named_l0_step fuel kn (fun xu2 => K (Ex.ret) (Xref19_Named_0_0 xu2)) (K (Ex.exit 0) Xref19_Named_0_1) zg ui3) (funext fun _ => gref19_Named_l0_ok fuel K zg qhm n' _))
theorem gref19_Named_L0 (fuel : Nat) : LOk Pr (Gref19_Named) (Lref19_Named fuel) (fnNt Pr 59) fuel (Cref19_Named fuel) (lp Pr 59 0) := by
  refine .of Tref19_Named_0 (Fref19_Named_0 fuel) (fun L h => ?_) (fun ps st K r he hr => ?_)
  · have e : (Lref19_Named fuel).get (writes (lp Pr 59 0).1) = some (lam Tref19_Named_0 (Fref19_Named_0 fuel)) := by kernel_rfl
    exact (Option.some.inj (e.symm.trans h)).symm
  · unfold Fref19_Named_0 at hr
    split at hr
    · obtain rfl := (Option.some.inj he).symm
      exact (gref19_Named_l0_ok fuel K _ _ fuel _).trans hr
    · cases hr
noncomputable def gref19_Named (fuel : Nat) (us0 : ByteArray) : Option AV :=
  ck (bif !bif strEq us0 { data := #[] } then true else decide ((↑us0.size : Int) > 8) then true else true) <| ck (bif !bif strEq us0 { data := #[] } then true else decide ((↑us0.size : Int) > 8) then decide (0 < (↑us0.size : Int)) else true) <| ck (bif !bif bif strEq us0 { data := #[] } then true else decide ((↑us0.size : Int) > 8) then true else decide (sbyte us0 0 < 97) then true else true) <| ck (bif !bif bif strEq us0 { data := #[] } then true else decide ((↑us0.size : Int) > 8) then true else decide (sbyte us0 0 < 97) then decide (0 < (↑us0.size : Int)) else true) <| bif bif bif bif strEq us0 { data := #[] } then true else decide ((↑us0.size : Int) > 8) then true else decide (sbyte us0 0 < 97) then true else decide (sbyte us0 0 > 122) then some (AV.bool false)
  else gref19_Named_l0 fuel
    (fun (xu2 : Bool) => some (AV.bool xu2))
    (some (AV.bool true))
    (us0) fuel (0)
theorem gref19_Named_run (fuel : Nat) (us0 : ByteArray) : run Pr (Gref19_Named) [((6, 59), Lref19_Named fuel)] fuel 7 59 [AV.str us0] = gref19_Named fuel us0 := by kernel_rfl
noncomputable def mref19_Named (fuel : Nat) (xs : List AV) : Option AV := match xs with
  | [AV.str us0] => gref19_Named fuel us0
  | _ => none
abbrev Rref19_Named : List RS := [RS.one LK.b]
theorem gref19_Named_sm (fuel : Nat) (hΓ : GamOk Pr (Gref19_Named)) (hP : NamesOk Pr) : SmOk Pr 59 (smM Rref19_Named (mref19_Named fuel)) := by
  refine smM_ok (fuel := fuel) hΓ hP (LamOk.of 6 59 (Lref19_Named fuel) 1 (by kernel_rfl) (fun i hi => ?_)) 7 59 Rref19_Named _ (fun xs v h => ?_)
  · match i, hi with
    | 0, _ => exact gref19_Named_L0 fuel
    | i + 1, hi => exact absurd hi (by omega)
  · unfold mref19_Named at h
    split at h
    · exact (gref19_Named_run fuel _).trans h
    · cases h
noncomputable def Lref19_Number (fuel : Nat) : Lam AV := []
noncomputable def Gref19_Number : Gam := []
noncomputable def Cref19_Number (fuel : Nat) : CallI AV := callX (Gref19_Number) (execFn Pr (Gref19_Number) [((6, 60), Lref19_Number fuel)] fuel 6)
noncomputable def gref19_Number (fuel : Nat) (ux0 : Option Nat) : Option AV :=
  some (AV.bool (bif ford .f64 ux0 (some 4336966441157787648) == some Ordering.gt || ford .f64 ux0 (some 4336966441157787648) == some Ordering.eq then ford .f64 ux0 (some 4877398396442247168) == some Ordering.lt || ford .f64 ux0 (some 4877398396442247168) == some Ordering.eq else false))
theorem gref19_Number_run (fuel : Nat) (ux0 : Option Nat) : run Pr (Gref19_Number) [((6, 60), Lref19_Number fuel)] fuel 7 60 [AV.flt .f64 ux0] = gref19_Number fuel ux0 := by kernel_rfl
noncomputable def mref19_Number (fuel : Nat) (xs : List AV) : Option AV := match xs with
  | [AV.flt .f64 ux0] => gref19_Number fuel ux0
  | _ => none
abbrev Rref19_Number : List RS := [RS.one LK.b]
theorem gref19_Number_sm (fuel : Nat) (hΓ : GamOk Pr (Gref19_Number)) (hP : NamesOk Pr) : SmOk Pr 60 (smM Rref19_Number (mref19_Number fuel)) := by
  refine smM_ok (fuel := fuel) hΓ hP (LamOk.of 6 60 (Lref19_Number fuel) 0 (by kernel_rfl) (fun i hi => ?_)) 7 60 Rref19_Number _ (fun xs v h => ?_)
  · match i, hi with
    | i + 0, hi => exact absurd hi (by omega)
  · unfold mref19_Number at h
    split at h
    · exact (gref19_Number_run fuel _).trans h
    · cases h
noncomputable def Sref19_may_0 (qcr uk6 : Int) (w2 w3 : Nat) (w5 : Ge) (wz w4 : Nat) (wf : Ge) (px : ByteArray) (ys qay qaz : Int) (qau qaq : Bool) (qat qar qax : Option Nat) : St := { env := [(1, AV.int .i64 qcr), (2, AV.ptr 0 0), (5, AV.ptr 1 0), (6, AV.int .i64 uk6)], h := [Blk.box [AV.ro 4 w2 w3 w5, AV.ro 9 wz w4 wf], Blk.box [AV.str px, AV.int .u8 ys, AV.int .i64 qay, AV.int .i64 qaz, AV.bool qau, AV.bool qaq, AV.flt .f64 qat, AV.flt .f64 qar, AV.flt .f64 qax]], kd := [] }
noncomputable def Xref19_may_0_0 (qbs : Bool) (pl pp : Nat) (pm : Ge) (pi po : Nat) (pj : Ge) (qfx : ByteArray) (qf1 qgb qfq : Int) (qf4 qfv : Bool) (qfu qf0 qf9 : Option Nat) : St := { env := [(4, AV.bool qbs)], h := [Blk.box [AV.ro 4 pl pp pm, AV.ro 9 pi po pj], Blk.box [AV.str qfx, AV.int .u8 qf1, AV.int .i64 qgb, AV.int .i64 qfq, AV.bool qf4, AV.bool qfv, AV.flt .f64 qfu, AV.flt .f64 qf0, AV.flt .f64 qf9]], kd := [] }
noncomputable def Xref19_may_0_1 (y2 yy : Nat) (yx : Ge) (y3 yw : Nat) (yu : Ge) (qf5 : ByteArray) (qc6 qgc qfr : Int) (qf2 qfp : Bool) (qfs qfz qfy : Option Nat) : St := { env := [(2, AV.ptr 0 0), (5, AV.ptr 1 0)], h := [Blk.box [AV.ro 4 y2 yy yx, AV.ro 9 y3 yw yu], Blk.box [AV.str qf5, AV.int .u8 qc6, AV.int .i64 qgc, AV.int .i64 qfr, AV.bool qf2, AV.bool qfp, AV.flt .f64 qfs, AV.flt .f64 qfz, AV.flt .f64 qfy]], kd := [] }
noncomputable def gref19_may_l0_step (q5 q1 qd : Mo) (fuel : Nat) (kn : Int → Option AV) (kx0 : Bool → Nat → Nat → (Ge) → Nat → Nat → (Ge) → ByteArray → Int → Int → Int → Bool → Bool → Option Nat → Option Nat → Option Nat → Option AV) (kx1 : Nat → Nat → (Ge) → Nat → Nat → (Ge) → ByteArray → Int → Int → Int → Bool → Bool → Option Nat → Option Nat → Option Nat → Option AV) (qcr : Int) (w2 w3 : Nat) (w5 : Ge) (wz w4 : Nat) (wf : Ge) (px : ByteArray) (ys qay qaz : Int) (qau qaq : Bool) (qat qar qax : Option Nat) (uk6 : Int) : Option AV :=
  bif decide (uk6 < qcr) then ck (decide (0 ≤ uk6)) <| ck (decide (uk6 < (↑wz : Int))) <| ck (fitK LK.s (wf uk6.toNat 0)) <| bif strEq (toS (wf uk6.toNat 0)) px then kx0 (false) (w2) (w3) (w5) (wz) (w4) (wf) (px) (ys) (qay) (qaz) (qau) (qaq) (qat) (qar) (qax)
    else kn (IntKind.i64.wrap (uk6 + 1))
  else kx1 (w2) (w3) (w5) (wz) (w4) (wf) (px) (ys) (qay) (qaz) (qau) (qaq) (qat) (qar) (qax)
noncomputable def gref19_may_l0 (q5 q1 qd : Mo) (fuel : Nat) (kx0 : Bool → Nat → Nat → (Ge) → Nat → Nat → (Ge) → ByteArray → Int → Int → Int → Bool → Bool → Option Nat → Option Nat → Option Nat → Option AV) (kx1 : Nat → Nat → (Ge) → Nat → Nat → (Ge) → ByteArray → Int → Int → Int → Bool → Bool → Option Nat → Option Nat → Option Nat → Option AV) (qcr : Int) (w2 w3 : Nat) (w5 : Ge) (wz w4 : Nat) (wf : Ge) (px : ByteArray) (ys qay qaz : Int) (qau qaq : Bool) (qat qar qax : Option Nat) : Nat → Int → Option AV
  | 0, _ => none
  | n' + 1, uk6 => gref19_may_l0_step q5 q1 qd fuel (gref19_may_l0 q5 q1 qd fuel kx0 kx1 qcr w2 w3 w5 wz w4 wf px ys qay qaz qau qaq qat qar qax n') kx0 kx1 qcr w2 w3 w5 wz w4 wf px ys qay qaz qau qaq qat qar qax uk6
noncomputable def Tref19_may_0 : TS' := ⟨[(1, TA.i .i64), (2, TA.ptr 0 0), (5, TA.ptr 1 0), (6, TA.i .i64)], [TB.box [TA.ro 4, TA.ro 9], TB.box [TA.s, TA.i .u8, TA.i .i64, TA.i .i64, TA.b, TA.b, TA.f .f64, TA.f .f64, TA.f .f64]], []⟩
noncomputable def Fref19_may_0 (q5 q1 qd : Mo) (fuel : Nat) (ps : List Pay) (K : Ex → St → Option AV) : Option AV := match ps with
  | .i qcr :: .i uk6 :: .n w2 :: .n w3 :: .g w5 :: .n wz :: .n w4 :: .g wf :: .s px :: .i ys :: .i qay :: .i qaz :: .b qau :: .b qaq :: .o qat :: .o qar :: .o qax :: [] => gref19_may_l0 q5 q1 qd fuel (fun qbs pl pp pm pi po pj qfx qf1 qgb qfq qf4 qfv qfu qf0 qf9 => K (Ex.ret) (Xref19_may_0_0 qbs pl pp pm pi po pj qfx qf1 qgb qfq qf4 qfv qfu qf0 qf9)) (fun y2 yy yx y3 yw yu qf5 qc6 qgc qfr qf2 qfp qfs qfz qfy => K (Ex.exit 0) (Xref19_may_0_1 y2 yy yx y3 yw yu qf5 qc6 qgc qfr qf2 qfp qfs qfz qfy)) qcr w2 w3 w5 wz w4 wf px ys qay qaz qau qaq qat qar qax fuel uk6
  | _ => none
noncomputable def Lref19_may (q5 q1 qd : Mo) (fuel : Nat) : Lam AV := [(134209616, lam Tref19_may_0 (Fref19_may_0 q5 q1 qd fuel))]
noncomputable def Gref19_may (q5 q1 qd : Mo) : Gam := [(59, smM [RS.one LK.b] q5), (60, smM [RS.one LK.b] q1), (61, smM [RS.one LK.b] qd)]
noncomputable def Cref19_may (q5 q1 qd : Mo) (fuel : Nat) : CallI AV := callX (Gref19_may q5 q1 qd) (execFn Pr (Gref19_may q5 q1 qd) [((6, 38), Lref19_may q5 q1 qd fuel)] fuel 6)
theorem gref19_may_l0_eq (q5 q1 qd : Mo) (fuel : Nat) (kn : St → Option AV) (K : Ex → St → Option AV) (qcr : Int) (w2 w3 : Nat) (w5 : Ge) (wz w4 : Nat) (wf : Ge) (px : ByteArray) (ys qay qaz : Int) (qau qaq : Bool) (qat qar qax : Option Nat) (qho uk6 : Int) :
    exec Pr (Gref19_may q5 q1 qd) (Lref19_may q5 q1 qd fuel) (fnNt Pr 38) fuel (Cref19_may q5 q1 qd fuel) (lp Pr 38 0).1 (lp Pr 38 0).2 (live (lp Pr 38 0).1 (lp Pr 38 0).2 0) (Sref19_may_0 qcr uk6 w2 w3 w5 wz w4 wf px ys qay qaz qau qaq qat qar qax) (fun e s => match e with | .normal => kn (headN (live (lp Pr 38 0).1 (lp Pr 38 0).2 0) (writes (lp Pr 38 0).1) (Sref19_may_0 qcr qho w2 w3 w5 wz w4 wf px ys qay qaz qau qaq qat qar qax) s) | e => K e s) =
    gref19_may_l0_step q5 q1 qd fuel (fun uk6 => kn (Sref19_may_0 qcr uk6 w2 w3 w5 wz w4 wf px ys qay qaz qau qaq qat qar qax)) (fun xu4 zk zl zm zo zn zp qal pa xh1_2 xh1_3 xh1_4 xh1_5 xh1_6 xh1_7 xh1_8 => K (Ex.ret) (Xref19_may_0_0 xu4 zk zl zm zo zn zp qal pa xh1_2 xh1_3 xh1_4 xh1_5 xh1_6 xh1_7 xh1_8)) (fun zk zl zm zo zn zp qal pa xh1_2 xh1_3 xh1_4 xh1_5 xh1_6 xh1_7 xh1_8 => K (Ex.exit 0) (Xref19_may_0_1 zk zl zm zo zn zp qal pa xh1_2 xh1_3 xh1_4 xh1_5 xh1_6 xh1_7 xh1_8)) qcr w2 w3 w5 wz w4 wf px ys qay qaz qau qaq qat qar qax uk6 := by kernel_rfl
theorem gref19_may_l0_ok (q5 q1 qd : Mo) (fuel : Nat) (K : Ex → St → Option AV) (qcr : Int) (w2 w3 : Nat) (w5 : Ge) (wz w4 : Nat) (wf : Ge) (px : ByteArray) (ys qay qaz : Int) (qau qaq : Bool) (qat qar qax : Option Nat) (qho : Int) : ∀ (n' : Nat) (uk6 : Int),
    loopK (exec Pr (Gref19_may q5 q1 qd) (Lref19_may q5 q1 qd fuel) (fnNt Pr 38) fuel (Cref19_may q5 q1 qd fuel) (lp Pr 38 0).1 (lp Pr 38 0).2 (live (lp Pr 38 0).1 (lp Pr 38 0).2 0)) (headN (live (lp Pr 38 0).1 (lp Pr 38 0).2 0) (writes (lp Pr 38 0).1) (Sref19_may_0 qcr qho w2 w3 w5 wz w4 wf px ys qay qaz qau qaq qat qar qax)) n' (Sref19_may_0 qcr uk6 w2 w3 w5 wz w4 wf px ys qay qaz qau qaq qat qar qax) K = gref19_may_l0 q5 q1 qd fuel (fun xu4 zk zl zm zo zn zp qal pa xh1_2 xh1_3 xh1_4 xh1_5 xh1_6 xh1_7 xh1_8 => K (Ex.ret) (Xref19_may_0_0 xu4 zk zl zm zo zn zp qal pa xh1_2 xh1_3 xh1_4 xh1_5 xh1_6 xh1_7 xh1_8)) (fun zk zl zm zo zn zp qal pa xh1_2 xh1_3 xh1_4 xh1_5 xh1_6 xh1_7 xh1_8 => K (Ex.exit 0) (Xref19_may_0_1 zk zl zm zo zn zp qal pa xh1_2 xh1_3 xh1_4 xh1_5 xh1_6 xh1_7 xh1_8)) qcr w2 w3 w5 wz w4 wf px ys qay qaz qau qaq qat qar qax n' uk6
  | 0, _ => rfl
  | n' + 1, uk6 => (gref19_may_l0_eq q5 q1 qd fuel (fun s => loopK (exec Pr (Gref19_may q5 q1 qd) (Lref19_may q5 q1 qd fuel) (fnNt Pr 38) fuel (Cref19_may q5 q1 qd fuel) (lp Pr 38 0).1 (lp Pr 38 0).2 (live (lp Pr 38 0).1 (lp Pr 38 0).2 0)) (headN (live (lp Pr 38 0).1 (lp Pr 38 0).2 0) (writes (lp Pr 38 0).1) (Sref19_may_0 qcr qho w2 w3 w5 wz w4 wf px ys qay qaz qau qaq qat qar qax)) n' s K) K qcr w2 w3 w5 wz w4 wf px ys qay qaz qau qaq qat qar qax qho uk6).trans
    (congrArg (fun kn => gref19_may_l0_step q5 q1 qd fuel kn (fun xu4 zk zl zm zo zn zp qal pa xh1_2 xh1_3 xh1_4 xh1_5 xh1_6 xh1_7 xh1_8 => K (Ex.ret) (Xref19_may_0_0 xu4 zk zl zm zo zn zp qal pa xh1_2 xh1_3 xh1_4 xh1_5 xh1_6 xh1_7 xh1_8)) (fun zk zl zm zo zn zp qal pa xh1_2 xh1_3 xh1_4 xh1_5 xh1_6 xh1_7 xh1_8 => K (Ex.exit 0) (Xref19_may_0_1 zk zl zm zo zn zp qal pa xh1_2 xh1_3 xh1_4 xh1_5 xh1_6 xh1_7 xh1_8)) qcr w2 w3 w5 wz w4 wf px ys qay qaz qau qaq qat qar qax uk6) (funext fun _ => gref19_may_l0_ok q5 q1 qd fuel K qcr w2 w3 w5 wz w4 wf px ys qay qaz qau qaq qat qar qax qho n' _))
theorem gref19_may_L0 (q5 q1 qd : Mo) (fuel : Nat) : LOk Pr (Gref19_may q5 q1 qd) (Lref19_may q5 q1 qd fuel) (fnNt Pr 38) fuel (Cref19_may q5 q1 qd fuel) (lp Pr 38 0) := by
  refine .of Tref19_may_0 (Fref19_may_0 q5 q1 qd fuel) (fun L h => ?_) (fun ps st K r he hr => ?_)
  · have e : (Lref19_may q5 q1 qd fuel).get (writes (lp Pr 38 0).1) = some (lam Tref19_may_0 (Fref19_may_0 q5 q1 qd fuel)) := by kernel_rfl
    exact (Option.some.inj (e.symm.trans h)).symm
  · unfold Fref19_may_0 at hr
    split at hr
    · obtain rfl := (Option.some.inj he).symm
      exact (gref19_may_l0_ok q5 q1 qd fuel K _ _ _ _ _ _ _ _ _ _ _ _ _ _ _ _ _ fuel _).trans hr
    · cases hr
noncomputable def gref19_may (q5 q1 qd : Mo) (fuel zi z1 : Nat) (wq : Ge) (zv zy : Nat) (w1 : Ge) (at1 : Int) : Option AV :=
  ck (decide (0 ≤ at1)) <| ck (decide (at1 < (↑zv : Int))) <| ck (fitKs [LK.s, LK.i .u8, LK.i .i64, LK.i .i64, LK.b, LK.b, LK.f .f64, LK.f .f64, LK.f .f64] [w1 at1.toNat 0, w1 at1.toNat 1, w1 at1.toNat 2, w1 at1.toNat 3, w1 at1.toNat 4, w1 at1.toNat 5, w1 at1.toNat 6, w1 at1.toNat 7, w1 at1.toNat 8]) <| gref19_may_l0 q5 q1 qd fuel
    (fun (xu4 : Bool) (_ _ : Nat) (_ : Ge) (_ _ : Nat) (_ : Ge) (_ : ByteArray) (_ _ _ : Int) (_ _ : Bool) (_ _ _ : Option Nat) => some (AV.bool xu4))
    (fun (yb _ : Nat) (_ : Ge) (_ _ : Nat) (_ : Ge) (pg : ByteArray) (qce vx yc : Int) (qd8 qel : Bool) (qec qhh qcu : Option Nat) => ck (okM [RS.one LK.b] (q5 [AV.str pg])) <| ck (bif !!toB (getV (q5 [AV.str pg])) then true else true) <| ck (bif !bif !toB (getV (q5 [AV.str pg])) then true else decide (vx < 0) then true else true) <| ck (bif !bif bif !toB (getV (q5 [AV.str pg])) then true else decide (vx < 0) then true else decide (vx ≥ (↑yb : Int)) then true else true) <| ck (bif !bif bif bif !toB (getV (q5 [AV.str pg])) then true else decide (vx < 0) then true else decide (vx ≥ (↑yb : Int)) then true else decide (yc < 0) then true else true) <| ck (bif !bif bif bif bif !toB (getV (q5 [AV.str pg])) then true else decide (vx < 0) then true else decide (vx ≥ (↑yb : Int)) then true else decide (yc < 0) then true else decide (yc ≥ (↑yb : Int)) then true else true) <| ck (bif !bif bif bif bif !toB (getV (q5 [AV.str pg])) then true else decide (vx < 0) then true else decide (vx ≥ (↑yb : Int)) then true else decide (yc < 0) then true else decide (yc ≥ (↑yb : Int)) then true else true) <| ck (bif !bif bif bif bif bif !toB (getV (q5 [AV.str pg])) then true else decide (vx < 0) then true else decide (vx ≥ (↑yb : Int)) then true else decide (yc < 0) then true else decide (yc ≥ (↑yb : Int)) then true else vx == yc then true else true) <| ck (bif !bif bif bif bif bif !toB (getV (q5 [AV.str pg])) then true else decide (vx < 0) then true else decide (vx ≥ (↑yb : Int)) then true else decide (yc < 0) then true else decide (yc ≥ (↑yb : Int)) then true else vx == yc then okM [RS.one LK.b] (q1 [AV.flt .f64 qec]) else true) <| ck (bif !bif bif bif bif bif bif !toB (getV (q5 [AV.str pg])) then true else decide (vx < 0) then true else decide (vx ≥ (↑yb : Int)) then true else decide (yc < 0) then true else decide (yc ≥ (↑yb : Int)) then true else vx == yc then true else !toB (getV (q1 [AV.flt .f64 qec])) then true else true) <| ck (bif !bif bif bif bif bif bif !toB (getV (q5 [AV.str pg])) then true else decide (vx < 0) then true else decide (vx ≥ (↑yb : Int)) then true else decide (yc < 0) then true else decide (yc ≥ (↑yb : Int)) then true else vx == yc then true else !toB (getV (q1 [AV.flt .f64 qec])) then okM [RS.one LK.b] (q1 [AV.flt .f64 qhh]) else true) <| bif bif bif bif bif bif bif bif !toB (getV (q5 [AV.str pg])) then true else decide (vx < 0) then true else decide (vx ≥ (↑yb : Int)) then true else decide (yc < 0) then true else decide (yc ≥ (↑yb : Int)) then true else vx == yc then true else !toB (getV (q1 [AV.flt .f64 qec])) then true else !toB (getV (q1 [AV.flt .f64 qhh])) then some (AV.bool false)
      else bif qce == 1 then ck (bif !qd8 then true else true) <| ck (bif bif !qd8 then !qel else false then true else true) <| ck (bif bif bif !qd8 then !qel else false then ford .f64 qcu (some 0) == some Ordering.eq else false then true else true) <| ck (bif bif bif !qd8 then !qel else false then ford .f64 qcu (some 0) == some Ordering.eq else false then okM [RS.one LK.b] (qd [AV.flt .f64 qcu]) else true) <| some (AV.bool (bif bif bif !qd8 then !qel else false then ford .f64 qcu (some 0) == some Ordering.eq else false then !toB (getV (qd [AV.flt .f64 qcu])) else false))
      else ck (bif qce == 2 then true else true) <| ck (bif qce == 2 then okM [RS.one LK.b] (q1 [AV.flt .f64 qcu]) else true) <| some (AV.bool (bif qce == 2 then toB (getV (q1 [AV.flt .f64 qcu])) else false)))
    (at1)
    (zi)
    (z1)
    (wq)
    (zv)
    (zy)
    (w1)
    (toS (w1 at1.toNat 0))
    (toI (w1 at1.toNat 1))
    (toI (w1 at1.toNat 2))
    (toI (w1 at1.toNat 3))
    (toB (w1 at1.toNat 4))
    (toB (w1 at1.toNat 5))
    (toF (w1 at1.toNat 6))
    (toF (w1 at1.toNat 7))
    (toF (w1 at1.toNat 8)) fuel (0)
theorem gref19_may_run (q5 q1 qd : Mo) (fuel zi z1 : Nat) (wq : Ge) (zv zy : Nat) (w1 : Ge) (at1 : Int) : run Pr (Gref19_may q5 q1 qd) [((6, 38), Lref19_may q5 q1 qd fuel)] fuel 7 38 [AV.agg [AV.ro 4 zi z1 wq, AV.ro 9 zv zy w1], AV.int .i64 at1] = gref19_may q5 q1 qd fuel zi z1 wq zv zy w1 at1 := by kernel_rfl
noncomputable def mref19_may (q5 q1 qd : Mo) (fuel : Nat) (xs : List AV) : Option AV := match xs with
  | [AV.agg [AV.ro 4 zi z1 wq, AV.ro 9 zv zy w1], AV.int .i64 at1] => gref19_may q5 q1 qd fuel zi z1 wq zv zy w1 at1
  | _ => none
abbrev Rref19_may : List RS := [RS.one LK.b]
theorem gref19_may_sm (q5 q1 qd : Mo) (fuel : Nat) (hΓ : GamOk Pr (Gref19_may q5 q1 qd)) (hP : NamesOk Pr) : SmOk Pr 38 (smM Rref19_may (mref19_may q5 q1 qd fuel)) := by
  refine smM_ok (fuel := fuel) hΓ hP (LamOk.of 6 38 (Lref19_may q5 q1 qd fuel) 1 (by kernel_rfl) (fun i hi => ?_)) 7 38 Rref19_may _ (fun xs v h => ?_)
  · match i, hi with
    | 0, _ => exact gref19_may_L0 q5 q1 qd fuel
    | i + 1, hi => exact absurd hi (by omega)
  · unfold mref19_may at h
    split at h
    · exact (gref19_may_run q5 q1 qd fuel _ _ _ _ _ _ _).trans h
    · cases h
noncomputable def Sref19_Check_0 (uk6 : Int) (w2 w3 : Nat) (w5 : Ge) (wz w4 : Nat) (wf : Ge) : St := { env := [(1, AV.ptr 0 0), (6, AV.int .i64 uk6)], h := [Blk.box [AV.ro 4 w2 w3 w5, AV.ro 9 wz w4 wf]], kd := [] }
noncomputable def Xref19_Check_0_0 (pf qfi : Int) (pl pp : Nat) (pm : Ge) (pi po : Nat) (pj : Ge) : St := { env := [(2, AV.int .i64 pf), (3, AV.int .i64 qfi)], h := [Blk.box [AV.ro 4 pl pp pm, AV.ro 9 pi po pj]], kd := [] }
noncomputable def Xref19_Check_0_1 (y2 yy : Nat) (yx : Ge) (y3 yw : Nat) (yu : Ge) : St := { env := [], h := [Blk.box [AV.ro 4 y2 yy yx, AV.ro 9 y3 yw yu]], kd := [] }
noncomputable def gref19_Check_l0_step (wp zc : Mo) (fuel : Nat) (kn : Int → Option AV) (kx0 : Int → Int → Nat → Nat → (Ge) → Nat → Nat → (Ge) → Option AV) (kx1 : Nat → Nat → (Ge) → Nat → Nat → (Ge) → Option AV) (w2 w3 : Nat) (w5 : Ge) (wz w4 : Nat) (wf : Ge) (uk6 : Int) : Option AV :=
  bif decide (uk6 < (↑wz : Int)) then ck (okM [RS.one LK.b] (zc [AV.agg [AV.ro 4 w2 w3 w5, AV.ro 9 wz w4 wf], AV.int .i64 uk6])) <| bif !toB (getV (zc [AV.agg [AV.ro 4 w2 w3 w5, AV.ro 9 wz w4 wf], AV.int .i64 uk6])) then kx0 (290) (uk6) (w2) (w3) (w5) (wz) (w4) (wf)
    else kn (IntKind.i64.wrap (uk6 + 1))
  else kx1 (w2) (w3) (w5) (wz) (w4) (wf)
noncomputable def gref19_Check_l0 (wp zc : Mo) (fuel : Nat) (kx0 : Int → Int → Nat → Nat → (Ge) → Nat → Nat → (Ge) → Option AV) (kx1 : Nat → Nat → (Ge) → Nat → Nat → (Ge) → Option AV) (w2 w3 : Nat) (w5 : Ge) (wz w4 : Nat) (wf : Ge) : Nat → Int → Option AV
  | 0, _ => none
  | n' + 1, uk6 => gref19_Check_l0_step wp zc fuel (gref19_Check_l0 wp zc fuel kx0 kx1 w2 w3 w5 wz w4 wf n') kx0 kx1 w2 w3 w5 wz w4 wf uk6
noncomputable def Tref19_Check_0 : TS' := ⟨[(1, TA.ptr 0 0), (6, TA.i .i64)], [TB.box [TA.ro 4, TA.ro 9]], []⟩
noncomputable def Fref19_Check_0 (wp zc : Mo) (fuel : Nat) (ps : List Pay) (K : Ex → St → Option AV) : Option AV := match ps with
  | .i uk6 :: .n w2 :: .n w3 :: .g w5 :: .n wz :: .n w4 :: .g wf :: [] => gref19_Check_l0 wp zc fuel (fun pf qfi pl pp pm pi po pj => K (Ex.ret) (Xref19_Check_0_0 pf qfi pl pp pm pi po pj)) (fun y2 yy yx y3 yw yu => K (Ex.exit 0) (Xref19_Check_0_1 y2 yy yx y3 yw yu)) w2 w3 w5 wz w4 wf fuel uk6
  | _ => none
noncomputable def Lref19_Check (wp zc : Mo) (fuel : Nat) : Lam AV := [(8587837516, lam Tref19_Check_0 (Fref19_Check_0 wp zc fuel))]
noncomputable def Gref19_Check (wp zc : Mo) : Gam := [(37, smM [RS.one (LK.i .i64), RS.one (LK.i .i64)] wp), (38, smM [RS.one LK.b] zc)]
noncomputable def Cref19_Check (wp zc : Mo) (fuel : Nat) : CallI AV := callX (Gref19_Check wp zc) (execFn Pr (Gref19_Check wp zc) [((6, 14), Lref19_Check wp zc fuel)] fuel 6)
theorem gref19_Check_l0_eq (wp zc : Mo) (fuel : Nat) (kn : St → Option AV) (K : Ex → St → Option AV) (w2 w3 : Nat) (w5 : Ge) (wz w4 : Nat) (wf : Ge) (qho uk6 : Int) :
    exec Pr (Gref19_Check wp zc) (Lref19_Check wp zc fuel) (fnNt Pr 14) fuel (Cref19_Check wp zc fuel) (lp Pr 14 0).1 (lp Pr 14 0).2 (live (lp Pr 14 0).1 (lp Pr 14 0).2 0) (Sref19_Check_0 uk6 w2 w3 w5 wz w4 wf) (fun e s => match e with | .normal => kn (headN (live (lp Pr 14 0).1 (lp Pr 14 0).2 0) (writes (lp Pr 14 0).1) (Sref19_Check_0 qho w2 w3 w5 wz w4 wf) s) | e => K e s) =
    gref19_Check_l0_step wp zc fuel (fun uk6 => kn (Sref19_Check_0 uk6 w2 w3 w5 wz w4 wf)) (fun xu2 xu3 zk zl zm zo zn zp => K (Ex.ret) (Xref19_Check_0_0 xu2 xu3 zk zl zm zo zn zp)) (fun zk zl zm zo zn zp => K (Ex.exit 0) (Xref19_Check_0_1 zk zl zm zo zn zp)) w2 w3 w5 wz w4 wf uk6 := by kernel_rfl
theorem gref19_Check_l0_ok (wp zc : Mo) (fuel : Nat) (K : Ex → St → Option AV) (w2 w3 : Nat) (w5 : Ge) (wz w4 : Nat) (wf : Ge) (qho : Int) : ∀ (n' : Nat) (uk6 : Int),
    loopK (exec Pr (Gref19_Check wp zc) (Lref19_Check wp zc fuel) (fnNt Pr 14) fuel (Cref19_Check wp zc fuel) (lp Pr 14 0).1 (lp Pr 14 0).2 (live (lp Pr 14 0).1 (lp Pr 14 0).2 0)) (headN (live (lp Pr 14 0).1 (lp Pr 14 0).2 0) (writes (lp Pr 14 0).1) (Sref19_Check_0 qho w2 w3 w5 wz w4 wf)) n' (Sref19_Check_0 uk6 w2 w3 w5 wz w4 wf) K = gref19_Check_l0 wp zc fuel (fun xu2 xu3 zk zl zm zo zn zp => K (Ex.ret) (Xref19_Check_0_0 xu2 xu3 zk zl zm zo zn zp)) (fun zk zl zm zo zn zp => K (Ex.exit 0) (Xref19_Check_0_1 zk zl zm zo zn zp)) w2 w3 w5 wz w4 wf n' uk6
  | 0, _ => rfl
  | n' + 1, uk6 => (gref19_Check_l0_eq wp zc fuel (fun s => loopK (exec Pr (Gref19_Check wp zc) (Lref19_Check wp zc fuel) (fnNt Pr 14) fuel (Cref19_Check wp zc fuel) (lp Pr 14 0).1 (lp Pr 14 0).2 (live (lp Pr 14 0).1 (lp Pr 14 0).2 0)) (headN (live (lp Pr 14 0).1 (lp Pr 14 0).2 0) (writes (lp Pr 14 0).1) (Sref19_Check_0 qho w2 w3 w5 wz w4 wf)) n' s K) K w2 w3 w5 wz w4 wf qho uk6).trans
    (congrArg (fun kn => gref19_Check_l0_step wp zc fuel kn (fun xu2 xu3 zk zl zm zo zn zp => K (Ex.ret) (Xref19_Check_0_0 xu2 xu3 zk zl zm zo zn zp)) (fun zk zl zm zo zn zp => K (Ex.exit 0) (Xref19_Check_0_1 zk zl zm zo zn zp)) w2 w3 w5 wz w4 wf uk6) (funext fun _ => gref19_Check_l0_ok wp zc fuel K w2 w3 w5 wz w4 wf qho n' _))
theorem gref19_Check_L0 (wp zc : Mo) (fuel : Nat) : LOk Pr (Gref19_Check wp zc) (Lref19_Check wp zc fuel) (fnNt Pr 14) fuel (Cref19_Check wp zc fuel) (lp Pr 14 0) := by
  refine .of Tref19_Check_0 (Fref19_Check_0 wp zc fuel) (fun L h => ?_) (fun ps st K r he hr => ?_)
  · have e : (Lref19_Check wp zc fuel).get (writes (lp Pr 14 0).1) = some (lam Tref19_Check_0 (Fref19_Check_0 wp zc fuel)) := by kernel_rfl
    exact (Option.some.inj (e.symm.trans h)).symm
  · unfold Fref19_Check_0 at hr
    split at hr
    · obtain rfl := (Option.some.inj he).symm
      exact (gref19_Check_l0_ok wp zc fuel K _ _ _ _ _ _ _ fuel _).trans hr
    · cases hr
noncomputable def gref19_Check (wp zc : Mo) (fuel zi z1 : Nat) (wq : Ge) (zv zy : Nat) (w1 : Ge) : Option AV :=
  let r0 : Option AV := wp [AV.ro 4 zi z1 wq]; ck (okM [RS.one (LK.i .i64), RS.one (LK.i .i64)] r0) <| bif toI ((toT (getV r0)).headD AV.dead) != 0 then some (AV.tup [AV.int .i64 (toI ((toT (getV r0)).headD AV.dead)), AV.int .i64 (toI ((toT (getV r0)).tail.headD AV.dead))])
  else bif decide ((↑zv : Int) > 48) then some (AV.tup [AV.int .i64 3, AV.int .i64 0])
  else gref19_Check_l0 wp zc fuel
    (fun (xu2 xu3 : Int) (_ _ : Nat) (_ : Ge) (_ _ : Nat) (_ : Ge) => some (AV.tup [AV.int .i64 xu2, AV.int .i64 xu3]))
    (fun (_ _ : Nat) (_ : Ge) (_ _ : Nat) (_ : Ge) => some (AV.tup [AV.int .i64 0, AV.int .i64 0]))
    (zi)
    (z1)
    (wq)
    (zv)
    (zy)
    (w1) fuel (0)
theorem gref19_Check_run (wp zc : Mo) (fuel zi z1 : Nat) (wq : Ge) (zv zy : Nat) (w1 : Ge) : run Pr (Gref19_Check wp zc) [((6, 14), Lref19_Check wp zc fuel)] fuel 7 14 [AV.agg [AV.ro 4 zi z1 wq, AV.ro 9 zv zy w1]] = gref19_Check wp zc fuel zi z1 wq zv zy w1 := by kernel_rfl
noncomputable def mref19_Check (wp zc : Mo) (fuel : Nat) (xs : List AV) : Option AV := match xs with
  | [AV.agg [AV.ro 4 zi z1 wq, AV.ro 9 zv zy w1]] => gref19_Check wp zc fuel zi z1 wq zv zy w1
  | _ => none
abbrev Rref19_Check : List RS := [RS.one (LK.i .i64), RS.one (LK.i .i64)]
theorem gref19_Check_sm (wp zc : Mo) (fuel : Nat) (hΓ : GamOk Pr (Gref19_Check wp zc)) (hP : NamesOk Pr) : SmOk Pr 14 (smM Rref19_Check (mref19_Check wp zc fuel)) := by
  refine smM_ok (fuel := fuel) hΓ hP (LamOk.of 6 14 (Lref19_Check wp zc fuel) 1 (by kernel_rfl) (fun i hi => ?_)) 7 14 Rref19_Check _ (fun xs v h => ?_)
  · match i, hi with
    | 0, _ => exact gref19_Check_L0 wp zc fuel
    | i + 1, hi => exact absurd hi (by omega)
  · unfold mref19_Check at h
    split at h
    · exact (gref19_Check_run wp zc fuel _ _ _ _ _ _).trans h
    · cases h
noncomputable def Lref19_Apart (fuel : Nat) : Lam AV := []
noncomputable def Gref19_Apart : Gam := []
noncomputable def Cref19_Apart (fuel : Nat) : CallI AV := callX (Gref19_Apart) (execFn Pr (Gref19_Apart) [((6, 15), Lref19_Apart fuel)] fuel 6)
noncomputable def gref19_Apart (fuel zi z1 : Nat) (wq : Ge) (zv zy : Nat) (w1 : Ge) (qdm : ByteArray) (qdp pd pe : Int) (qdl qdn : Bool) (qcf qc0 qc1 : Option Nat) : Option AV :=
  ck (decide (0 ≤ pe)) <| ck (decide (pe < (↑zi : Int))) <| ck (fitK (LK.i .i32) (wq pe.toNat 1)) <| ck (decide (0 ≤ pd)) <| ck (decide (pd < (↑zi : Int))) <| ck (fitK (LK.i .i32) (wq pd.toNat 1)) <| ck (decide (0 ≤ pe)) <| ck (decide (pe < (↑zi : Int))) <| ck (fitK (LK.i .i32) (wq pe.toNat 2)) <| ck (decide (0 ≤ pd)) <| ck (decide (pd < (↑zi : Int))) <| ck (fitK (LK.i .i32) (wq pd.toNat 2)) <| some (AV.tup [AV.int .i64 (IntKind.i64.wrap (IntKind.i64.wrap (toI (wq pe.toNat 1)) - IntKind.i64.wrap (toI (wq pd.toNat 1)))), AV.int .i64 (IntKind.i64.wrap (IntKind.i64.wrap (toI (wq pe.toNat 2)) - IntKind.i64.wrap (toI (wq pd.toNat 2)))), AV.int .i64 (IntKind.i64.wrap (IntKind.i64.wrap (IntKind.i64.wrap (IntKind.i64.wrap (toI (wq pe.toNat 1)) - IntKind.i64.wrap (toI (wq pd.toNat 1))) * IntKind.i64.wrap (IntKind.i64.wrap (toI (wq pe.toNat 1)) - IntKind.i64.wrap (toI (wq pd.toNat 1)))) + IntKind.i64.wrap (IntKind.i64.wrap (IntKind.i64.wrap (toI (wq pe.toNat 2)) - IntKind.i64.wrap (toI (wq pd.toNat 2))) * IntKind.i64.wrap (IntKind.i64.wrap (toI (wq pe.toNat 2)) - IntKind.i64.wrap (toI (wq pd.toNat 2))))))])
theorem gref19_Apart_run (fuel zi z1 : Nat) (wq : Ge) (zv zy : Nat) (w1 : Ge) (qdm : ByteArray) (qdp pd pe : Int) (qdl qdn : Bool) (qcf qc0 qc1 : Option Nat) : run Pr (Gref19_Apart) [((6, 15), Lref19_Apart fuel)] fuel 7 15 [AV.agg [AV.ro 4 zi z1 wq, AV.ro 9 zv zy w1], AV.agg [AV.str qdm, AV.int .u8 qdp, AV.int .i64 pd, AV.int .i64 pe, AV.bool qdl, AV.bool qdn, AV.flt .f64 qcf, AV.flt .f64 qc0, AV.flt .f64 qc1]] = gref19_Apart fuel zi z1 wq zv zy w1 qdm qdp pd pe qdl qdn qcf qc0 qc1 := by kernel_rfl
noncomputable def mref19_Apart (fuel : Nat) (xs : List AV) : Option AV := match xs with
  | [AV.agg [AV.ro 4 zi z1 wq, AV.ro 9 zv zy w1], AV.agg [AV.str qdm, AV.int .u8 qdp, AV.int .i64 pd, AV.int .i64 pe, AV.bool qdl, AV.bool qdn, AV.flt .f64 qcf, AV.flt .f64 qc0, AV.flt .f64 qc1]] => gref19_Apart fuel zi z1 wq zv zy w1 qdm qdp pd pe qdl qdn qcf qc0 qc1
  | _ => none
abbrev Rref19_Apart : List RS := [RS.one (LK.i .i64), RS.one (LK.i .i64), RS.one (LK.i .i64)]
theorem gref19_Apart_sm (fuel : Nat) (hΓ : GamOk Pr (Gref19_Apart)) (hP : NamesOk Pr) : SmOk Pr 15 (smM Rref19_Apart (mref19_Apart fuel)) := by
  refine smM_ok (fuel := fuel) hΓ hP (LamOk.of 6 15 (Lref19_Apart fuel) 0 (by kernel_rfl) (fun i hi => ?_)) 7 15 Rref19_Apart _ (fun xs v h => ?_)
  · match i, hi with
    | i + 0, hi => exact absurd hi (by omega)
  · unfold mref19_Apart at h
    split at h
    · exact (gref19_Apart_run fuel _ _ _ _ _ _ _ _ _ _ _ _ _ _ _).trans h
    · cases h
noncomputable def Lref19_kinds (fuel : Nat) : Lam AV := []
noncomputable def Gref19_kinds : Gam := []
noncomputable def Cref19_kinds (fuel : Nat) : CallI AV := callX (Gref19_kinds) (execFn Pr (Gref19_kinds) [((6, 16), Lref19_kinds fuel)] fuel 6)
noncomputable def gref19_kinds (fuel : Nat) (qb8 : ByteArray) (qak qbv qcc : Int) (qam qa5 : Bool) (qbm qb3 qa3 : Option Nat) : Option AV :=
  ck (bif !qak == 1 then true else true) <| ck (bif qam then true else true) <| bif bif qak == 1 then true else bif qam then qa5 else false then some (AV.ro 1 1 1 fun (i j : Nat) => ([[AV.int .u8 1]].getD i [AV.int .u8 0]).getD j AV.dead)
  else ck (bif !qam then true else true) <| bif bif qam then true else qa5 then some (AV.ro 1 2 2 fun (i j : Nat) => ([[AV.int .u8 1], [AV.int .u8 4]].getD i [AV.int .u8 0]).getD j AV.dead)
  else some (AV.ro 1 3 3 fun (i j : Nat) => ([[AV.int .u8 1], [AV.int .u8 2], [AV.int .u8 3]].getD i [AV.int .u8 0]).getD j AV.dead)
theorem gref19_kinds_run (fuel : Nat) (qb8 : ByteArray) (qak qbv qcc : Int) (qam qa5 : Bool) (qbm qb3 qa3 : Option Nat) : run Pr (Gref19_kinds) [((6, 16), Lref19_kinds fuel)] fuel 7 16 [AV.agg [AV.str qb8, AV.int .u8 qak, AV.int .i64 qbv, AV.int .i64 qcc, AV.bool qam, AV.bool qa5, AV.flt .f64 qbm, AV.flt .f64 qb3, AV.flt .f64 qa3]] = gref19_kinds fuel qb8 qak qbv qcc qam qa5 qbm qb3 qa3 := by kernel_rfl
noncomputable def mref19_kinds (fuel : Nat) (xs : List AV) : Option AV := match xs with
  | [AV.agg [AV.str qb8, AV.int .u8 qak, AV.int .i64 qbv, AV.int .i64 qcc, AV.bool qam, AV.bool qa5, AV.flt .f64 qbm, AV.flt .f64 qb3, AV.flt .f64 qa3]] => gref19_kinds fuel qb8 qak qbv qcc qam qa5 qbm qb3 qa3
  | _ => none
abbrev Rref19_kinds : List RS := [RS.one (LK.l (nat_lit 1))]
theorem gref19_kinds_sm (fuel : Nat) (hΓ : GamOk Pr (Gref19_kinds)) (hP : NamesOk Pr) : SmOk Pr 16 (smM Rref19_kinds (mref19_kinds fuel)) := by
  refine smM_ok (fuel := fuel) hΓ hP (LamOk.of 6 16 (Lref19_kinds fuel) 0 (by kernel_rfl) (fun i hi => ?_)) 7 16 Rref19_kinds _ (fun xs v h => ?_)
  · match i, hi with
    | i + 0, hi => exact absurd hi (by omega)
  · unfold mref19_kinds at h
    split at h
    · exact (gref19_kinds_run fuel _ _ _ _ _ _ _ _ _).trans h
    · cases h
noncomputable def Lref03_Finite (fuel : Nat) : Lam AV := []
noncomputable def Gref03_Finite : Gam := []
noncomputable def Cref03_Finite (fuel : Nat) : CallI AV := callX (Gref03_Finite) (execFn Pr (Gref03_Finite) [((6, 83), Lref03_Finite fuel)] fuel 6)
noncomputable def gref03_Finite (fuel : Nat) (ux0 : Option Nat) : Option AV :=
  some (AV.bool (ford .f64 (farith BinOp.sub .f64 ux0 ux0) (some 0) == some Ordering.eq))
theorem gref03_Finite_run (fuel : Nat) (ux0 : Option Nat) : run Pr (Gref03_Finite) [((6, 83), Lref03_Finite fuel)] fuel 7 83 [AV.flt .f64 ux0] = gref03_Finite fuel ux0 := by kernel_rfl
noncomputable def mref03_Finite (fuel : Nat) (xs : List AV) : Option AV := match xs with
  | [AV.flt .f64 ux0] => gref03_Finite fuel ux0
  | _ => none
abbrev Rref03_Finite : List RS := [RS.one LK.b]
theorem gref03_Finite_sm (fuel : Nat) (hΓ : GamOk Pr (Gref03_Finite)) (hP : NamesOk Pr) : SmOk Pr 83 (smM Rref03_Finite (mref03_Finite fuel)) := by
  refine smM_ok (fuel := fuel) hΓ hP (LamOk.of 6 83 (Lref03_Finite fuel) 0 (by kernel_rfl) (fun i hi => ?_)) 7 83 Rref03_Finite _ (fun xs v h => ?_)
  · match i, hi with
    | i + 0, hi => exact absurd hi (by omega)
  · unfold mref03_Finite at h
    split at h
    · exact (gref03_Finite_run fuel _).trans h
    · cases h
noncomputable def Lref03_middle (w6 : Mo) (fuel : Nat) : Lam AV := []
noncomputable def Gref03_middle (w6 : Mo) : Gam := [(106, smM [RS.one (LK.f .f64)] w6)]
noncomputable def Cref03_middle (w6 : Mo) (fuel : Nat) : CallI AV := callX (Gref03_middle w6) (execFn Pr (Gref03_middle w6) [((6, 84), Lref03_middle w6 fuel)] fuel 6)
noncomputable def gref03_middle (w6 : Mo) (fuel : Nat) (ux0 : Option Nat) : Option AV :=
  ck (okM [RS.one (LK.f .f64)] (w6 [AV.flt .f64 ux0])) <| some (AV.bool (bif ford .f64 (toF (getV (w6 [AV.flt .f64 ux0]))) (some 553942754166571008) == some Ordering.gt || ford .f64 (toF (getV (w6 [AV.flt .f64 ux0]))) (some 553942754166571008) == some Ordering.eq then ford .f64 (toF (getV (w6 [AV.flt .f64 ux0]))) (some 8660422083433463808) == some Ordering.lt || ford .f64 (toF (getV (w6 [AV.flt .f64 ux0]))) (some 8660422083433463808) == some Ordering.eq else false))
theorem gref03_middle_run (w6 : Mo) (fuel : Nat) (ux0 : Option Nat) : run Pr (Gref03_middle w6) [((6, 84), Lref03_middle w6 fuel)] fuel 7 84 [AV.flt .f64 ux0] = gref03_middle w6 fuel ux0 := by kernel_rfl
noncomputable def mref03_middle (w6 : Mo) (fuel : Nat) (xs : List AV) : Option AV := match xs with
  | [AV.flt .f64 ux0] => gref03_middle w6 fuel ux0
  | _ => none
abbrev Rref03_middle : List RS := [RS.one LK.b]
theorem gref03_middle_sm (w6 : Mo) (fuel : Nat) (hΓ : GamOk Pr (Gref03_middle w6)) (hP : NamesOk Pr) : SmOk Pr 84 (smM Rref03_middle (mref03_middle w6 fuel)) := by
  refine smM_ok (fuel := fuel) hΓ hP (LamOk.of 6 84 (Lref03_middle w6 fuel) 0 (by kernel_rfl) (fun i hi => ?_)) 7 84 Rref03_middle _ (fun xs v h => ?_)
  · match i, hi with
    | i + 0, hi => exact absurd hi (by omega)
  · unfold mref03_middle at h
    split at h
    · exact (gref03_middle_run w6 fuel _).trans h
    · cases h
noncomputable def Lref03_sign (fuel : Nat) : Lam AV := []
noncomputable def Gref03_sign : Gam := []
noncomputable def Cref03_sign (fuel : Nat) : CallI AV := callX (Gref03_sign) (execFn Pr (Gref03_sign) [((6, 86), Lref03_sign fuel)] fuel 6)
noncomputable def gref03_sign (fuel : Nat) (ux0 : Option Nat) : Option AV :=
  bif ford .f64 ux0 (some 0) == some Ordering.lt then some (AV.int .i64 (-1))
  else bif ford .f64 ux0 (some 0) == some Ordering.gt then some (AV.int .i64 1)
  else some (AV.int .i64 0)
theorem gref03_sign_run (fuel : Nat) (ux0 : Option Nat) : run Pr (Gref03_sign) [((6, 86), Lref03_sign fuel)] fuel 7 86 [AV.flt .f64 ux0] = gref03_sign fuel ux0 := by kernel_rfl
noncomputable def mref03_sign (fuel : Nat) (xs : List AV) : Option AV := match xs with
  | [AV.flt .f64 ux0] => gref03_sign fuel ux0
  | _ => none
abbrev Rref03_sign : List RS := [RS.one (LK.i .i64)]
theorem gref03_sign_sm (fuel : Nat) (hΓ : GamOk Pr (Gref03_sign)) (hP : NamesOk Pr) : SmOk Pr 86 (smM Rref03_sign (mref03_sign fuel)) := by
  refine smM_ok (fuel := fuel) hΓ hP (LamOk.of 6 86 (Lref03_sign fuel) 0 (by kernel_rfl) (fun i hi => ?_)) 7 86 Rref03_sign _ (fun xs v h => ?_)
  · match i, hi with
    | i + 0, hi => exact absurd hi (by omega)
  · unfold mref03_sign at h
    split at h
    · exact (gref03_sign_run fuel _).trans h
    · cases h
noncomputable def Lref03_further (fuel : Nat) : Lam AV := []
noncomputable def Gref03_further : Gam := [(54, Go.Am.sBits), (118, Go.Am.sFrom)]
noncomputable def Cref03_further (fuel : Nat) : CallI AV := callX (Gref03_further) (execFn Pr (Gref03_further) [((6, 130), Lref03_further fuel)] fuel 6)
noncomputable def gref03_further (fuel : Nat) (ux0 : Option Nat) : Option AV :=
  ck (sBits.ok [AV.flt .f64 ux0]) <| ck (sFrom.ok [AV.int .u64 (IntKind.u64.wrap ((↑(ux0.getD 0) : Int) + 1))]) <| some (AV.flt .f64 (some (IntKind.u64.wrap ((↑(ux0.getD 0) : Int) + 1)).toNat))
theorem gref03_further_run (fuel : Nat) (ux0 : Option Nat) : run Pr (Gref03_further) [((6, 130), Lref03_further fuel)] fuel 7 130 [AV.flt .f64 ux0] = gref03_further fuel ux0 := by kernel_rfl
noncomputable def mref03_further (fuel : Nat) (xs : List AV) : Option AV := match xs with
  | [AV.flt .f64 ux0] => gref03_further fuel ux0
  | _ => none
abbrev Rref03_further : List RS := [RS.one (LK.f .f64)]
theorem gref03_further_sm (fuel : Nat) (hΓ : GamOk Pr (Gref03_further)) (hP : NamesOk Pr) : SmOk Pr 130 (smM Rref03_further (mref03_further fuel)) := by
  refine smM_ok (fuel := fuel) hΓ hP (LamOk.of 6 130 (Lref03_further fuel) 0 (by kernel_rfl) (fun i hi => ?_)) 7 130 Rref03_further _ (fun xs v h => ?_)
  · match i, hi with
    | i + 0, hi => exact absurd hi (by omega)
  · unfold mref03_further at h
    split at h
    · exact (gref03_further_run fuel _).trans h
    · cases h
noncomputable def Lref03_nearer (fuel : Nat) : Lam AV := []
noncomputable def Gref03_nearer : Gam := [(54, Go.Am.sBits), (118, Go.Am.sFrom)]
noncomputable def Cref03_nearer (fuel : Nat) : CallI AV := callX (Gref03_nearer) (execFn Pr (Gref03_nearer) [((6, 131), Lref03_nearer fuel)] fuel 6)
noncomputable def gref03_nearer (fuel : Nat) (ux0 : Option Nat) : Option AV :=
  ck (sBits.ok [AV.flt .f64 ux0]) <| ck (sFrom.ok [AV.int .u64 (IntKind.u64.wrap ((↑(ux0.getD 0) : Int) - 1))]) <| some (AV.flt .f64 (some (IntKind.u64.wrap ((↑(ux0.getD 0) : Int) - 1)).toNat))
theorem gref03_nearer_run (fuel : Nat) (ux0 : Option Nat) : run Pr (Gref03_nearer) [((6, 131), Lref03_nearer fuel)] fuel 7 131 [AV.flt .f64 ux0] = gref03_nearer fuel ux0 := by kernel_rfl
noncomputable def mref03_nearer (fuel : Nat) (xs : List AV) : Option AV := match xs with
  | [AV.flt .f64 ux0] => gref03_nearer fuel ux0
  | _ => none
abbrev Rref03_nearer : List RS := [RS.one (LK.f .f64)]
theorem gref03_nearer_sm (fuel : Nat) (hΓ : GamOk Pr (Gref03_nearer)) (hP : NamesOk Pr) : SmOk Pr 131 (smM Rref03_nearer (mref03_nearer fuel)) := by
  refine smM_ok (fuel := fuel) hΓ hP (LamOk.of 6 131 (Lref03_nearer fuel) 0 (by kernel_rfl) (fun i hi => ?_)) 7 131 Rref03_nearer _ (fun xs v h => ?_)
  · match i, hi with
    | i + 0, hi => exact absurd hi (by omega)
  · unfold mref03_nearer at h
    split at h
    · exact (gref03_nearer_run fuel _).trans h
    · cases h
noncomputable def Lref03_up (vt v5 : Mo) (fuel : Nat) : Lam AV := []
noncomputable def Gref03_up (vt v5 : Mo) : Gam := [(130, smM [RS.one (LK.f .f64)] vt), (131, smM [RS.one (LK.f .f64)] v5), (118, Go.Am.sFrom)]
noncomputable def Cref03_up (vt v5 : Mo) (fuel : Nat) : CallI AV := callX (Gref03_up vt v5) (execFn Pr (Gref03_up vt v5) [((6, 108), Lref03_up vt v5 fuel)] fuel 6)
noncomputable def gref03_up (vt v5 : Mo) (fuel : Nat) (ux0 : Option Nat) : Option AV :=
  bif ford .f64 ux0 (some 0) == some Ordering.eq then ck (sFrom.ok [AV.int .u64 1]) <| some (AV.flt .f64 (some 1))
  else bif ford .f64 ux0 (some 0) == some Ordering.gt then ck (okM [RS.one (LK.f .f64)] (vt [AV.flt .f64 ux0])) <| some (AV.flt .f64 (toF (getV (vt [AV.flt .f64 ux0]))))
  else ck (okM [RS.one (LK.f .f64)] (v5 [AV.flt .f64 ux0])) <| some (AV.flt .f64 (toF (getV (v5 [AV.flt .f64 ux0]))))
theorem gref03_up_run (vt v5 : Mo) (fuel : Nat) (ux0 : Option Nat) : run Pr (Gref03_up vt v5) [((6, 108), Lref03_up vt v5 fuel)] fuel 7 108 [AV.flt .f64 ux0] = gref03_up vt v5 fuel ux0 := by kernel_rfl
noncomputable def mref03_up (vt v5 : Mo) (fuel : Nat) (xs : List AV) : Option AV := match xs with
  | [AV.flt .f64 ux0] => gref03_up vt v5 fuel ux0
  | _ => none
abbrev Rref03_up : List RS := [RS.one (LK.f .f64)]
theorem gref03_up_sm (vt v5 : Mo) (fuel : Nat) (hΓ : GamOk Pr (Gref03_up vt v5)) (hP : NamesOk Pr) : SmOk Pr 108 (smM Rref03_up (mref03_up vt v5 fuel)) := by
  refine smM_ok (fuel := fuel) hΓ hP (LamOk.of 6 108 (Lref03_up vt v5 fuel) 0 (by kernel_rfl) (fun i hi => ?_)) 7 108 Rref03_up _ (fun xs v h => ?_)
  · match i, hi with
    | i + 0, hi => exact absurd hi (by omega)
  · unfold mref03_up at h
    split at h
    · exact (gref03_up_run vt v5 fuel _).trans h
    · cases h
noncomputable def Lref03_down (vh : Mo) (fuel : Nat) : Lam AV := []
noncomputable def Gref03_down (vh : Mo) : Gam := [(108, smM [RS.one (LK.f .f64)] vh)]
noncomputable def Cref03_down (vh : Mo) (fuel : Nat) : CallI AV := callX (Gref03_down vh) (execFn Pr (Gref03_down vh) [((6, 107), Lref03_down vh fuel)] fuel 6)
noncomputable def gref03_down (vh : Mo) (fuel : Nat) (ux0 : Option Nat) : Option AV :=
  ck (okM [RS.one (LK.f .f64)] (vh [AV.flt .f64 (Option.map (Op.negFloat .f64) ux0)])) <| some (AV.flt .f64 (Option.map (Op.negFloat .f64) (toF (getV (vh [AV.flt .f64 (Option.map (Op.negFloat .f64) ux0)])))))
theorem gref03_down_run (vh : Mo) (fuel : Nat) (ux0 : Option Nat) : run Pr (Gref03_down vh) [((6, 107), Lref03_down vh fuel)] fuel 7 107 [AV.flt .f64 ux0] = gref03_down vh fuel ux0 := by kernel_rfl
noncomputable def mref03_down (vh : Mo) (fuel : Nat) (xs : List AV) : Option AV := match xs with
  | [AV.flt .f64 ux0] => gref03_down vh fuel ux0
  | _ => none
abbrev Rref03_down : List RS := [RS.one (LK.f .f64)]
theorem gref03_down_sm (vh : Mo) (fuel : Nat) (hΓ : GamOk Pr (Gref03_down vh)) (hP : NamesOk Pr) : SmOk Pr 107 (smM Rref03_down (mref03_down vh fuel)) := by
  refine smM_ok (fuel := fuel) hΓ hP (LamOk.of 6 107 (Lref03_down vh fuel) 0 (by kernel_rfl) (fun i hi => ?_)) 7 107 Rref03_down _ (fun xs v h => ?_)
  · match i, hi with
    | i + 0, hi => exact absurd hi (by omega)
  · unfold mref03_down at h
    split at h
    · exact (gref03_down_run vh fuel _).trans h
    · cases h
noncomputable def Lref03_side (qd yj vh : Mo) (fuel : Nat) : Lam AV := []
noncomputable def Gref03_side (qd yj vh : Mo) : Gam := [(61, smM [RS.one LK.b] qd), (107, smM [RS.one (LK.f .f64)] yj), (108, smM [RS.one (LK.f .f64)] vh)]
noncomputable def Cref03_side (qd yj vh : Mo) (fuel : Nat) : CallI AV := callX (Gref03_side qd yj vh) (execFn Pr (Gref03_side qd yj vh) [((6, 85), Lref03_side qd yj vh fuel)] fuel 6)
noncomputable def gref03_side (qd yj vh : Mo) (fuel : Nat) (us0 : Option Nat) (ue1 um2 : Int) : Option AV :=
  ck (okM [RS.one LK.b] (qd [AV.flt .f64 us0])) <| bif bif decide (ue1 < 0) then bif um2 == 1 then true else bif bif um2 == 3 then !toB (getV (qd [AV.flt .f64 us0])) else false then ford .f64 us0 (some 0) != some Ordering.eq else false else false then ck (okM [RS.one (LK.f .f64)] (yj [AV.flt .f64 us0])) <| some (AV.flt .f64 (toF (getV (yj [AV.flt .f64 us0]))))
  else bif bif decide (ue1 > 0) then bif um2 == 2 then true else bif bif um2 == 3 then toB (getV (qd [AV.flt .f64 us0])) else false then ford .f64 us0 (some 0) != some Ordering.eq else false else false then ck (okM [RS.one (LK.f .f64)] (vh [AV.flt .f64 us0])) <| some (AV.flt .f64 (toF (getV (vh [AV.flt .f64 us0]))))
  else some (AV.flt .f64 us0)
theorem gref03_side_run (qd yj vh : Mo) (fuel : Nat) (us0 : Option Nat) (ue1 um2 : Int) : run Pr (Gref03_side qd yj vh) [((6, 85), Lref03_side qd yj vh fuel)] fuel 7 85 [AV.flt .f64 us0, AV.int .i64 ue1, AV.int .i8 um2] = gref03_side qd yj vh fuel us0 ue1 um2 := by kernel_rfl
noncomputable def mref03_side (qd yj vh : Mo) (fuel : Nat) (xs : List AV) : Option AV := match xs with
  | [AV.flt .f64 us0, AV.int .i64 ue1, AV.int .i8 um2] => gref03_side qd yj vh fuel us0 ue1 um2
  | _ => none
abbrev Rref03_side : List RS := [RS.one (LK.f .f64)]
theorem gref03_side_sm (qd yj vh : Mo) (fuel : Nat) (hΓ : GamOk Pr (Gref03_side qd yj vh)) (hP : NamesOk Pr) : SmOk Pr 85 (smM Rref03_side (mref03_side qd yj vh fuel)) := by
  refine smM_ok (fuel := fuel) hΓ hP (LamOk.of 6 85 (Lref03_side qd yj vh fuel) 0 (by kernel_rfl) (fun i hi => ?_)) 7 85 Rref03_side _ (fun xs v h => ?_)
  · match i, hi with
    | i + 0, hi => exact absurd hi (by omega)
  · unfold mref03_side at h
    split at h
    · exact (gref03_side_run qd yj vh fuel _ _ _).trans h
    · cases h
noncomputable def Lref03_Sqrt (wm qr : Mo) (qt q3 : Mo) (q8 q0 : Mo) (we qs : Mo) (fuel : Nat) : Lam AV := []
noncomputable def Gref03_Sqrt (wm qr : Mo) (qt q3 : Mo) (q8 q0 : Mo) (we qs : Mo) : Gam := [(66, smM [RS.one (LK.f .f64)] wm), (83, smM [RS.one LK.b] qr), (84, smM [RS.one LK.b] qt), (86, smM [RS.one (LK.i .i64)] q3), (85, smM [RS.one (LK.f .f64)] q8), (88, smM [RS.agg [LK.b, LK.l (nat_lit 1), LK.i .i64]] q0), (89, smM [RS.agg [LK.b, LK.l (nat_lit 1), LK.i .i64]] we), (87, smM [RS.one (LK.i .i64)] qs), (71, Go.Am.sFma)]
noncomputable def Cref03_Sqrt (wm qr : Mo) (qt q3 : Mo) (q8 q0 : Mo) (we qs : Mo) (fuel : Nat) : CallI AV := callX (Gref03_Sqrt wm qr qt q3 q8 q0 we qs) (execFn Pr (Gref03_Sqrt wm qr qt q3 q8 q0 we qs) [((6, 62), Lref03_Sqrt wm qr qt q3 q8 q0 we qs fuel)] fuel 6)
noncomputable def gref03_Sqrt (wm qr : Mo) (qt q3 : Mo) (q8 q0 : Mo) (we qs : Mo) (fuel : Nat) (ua0 : Option Nat) (um1 : Int) : Option AV :=
  ck (okM [RS.one (LK.f .f64)] (wm [AV.flt .f64 ua0])) <| ck (okM [RS.one LK.b] (qr [AV.flt .f64 ua0])) <| bif bif !toB (getV (qr [AV.flt .f64 ua0])) then true else ford .f64 ua0 (some 0) == some Ordering.lt || ford .f64 ua0 (some 0) == some Ordering.eq then some (AV.flt .f64 (toF (getV (wm [AV.flt .f64 ua0]))))
  else ck (okM [RS.one LK.b] (qt [AV.flt .f64 ua0])) <| bif toB (getV (qt [AV.flt .f64 ua0])) then ck (sFma.ok [AV.flt .f64 (Option.map (Op.negFloat .f64) (toF (getV (wm [AV.flt .f64 ua0])))), AV.flt .f64 (toF (getV (wm [AV.flt .f64 ua0]))), AV.flt .f64 ua0]) <| ck (okM [RS.one (LK.i .i64)] (q3 [AV.flt .f64 ((Option.map (Op.negFloat .f64) (toF (getV (wm [AV.flt .f64 ua0])))).bind fun (x : Nat) => (toF (getV (wm [AV.flt .f64 ua0]))).bind fun (y : Nat) => ua0.bind fun (z : Nat) => FloatKind.f64.format.fma x y z)])) <| ck (okM [RS.one (LK.f .f64)] (q8 [AV.flt .f64 (toF (getV (wm [AV.flt .f64 ua0]))), AV.int .i64 (toI (getV (q3 [AV.flt .f64 ((Option.map (Op.negFloat .f64) (toF (getV (wm [AV.flt .f64 ua0])))).bind fun (x : Nat) => (toF (getV (wm [AV.flt .f64 ua0]))).bind fun (y : Nat) => ua0.bind fun (z : Nat) => FloatKind.f64.format.fma x y z)]))), AV.int .i8 um1])) <| some (AV.flt .f64 (toF (getV (q8 [AV.flt .f64 (toF (getV (wm [AV.flt .f64 ua0]))), AV.int .i64 (toI (getV (q3 [AV.flt .f64 ((Option.map (Op.negFloat .f64) (toF (getV (wm [AV.flt .f64 ua0])))).bind fun (x : Nat) => (toF (getV (wm [AV.flt .f64 ua0]))).bind fun (y : Nat) => ua0.bind fun (z : Nat) => FloatKind.f64.format.fma x y z)]))), AV.int .i8 um1]))))
  else let r0 : Option AV := q0 [AV.flt .f64 ua0]; ck (okM [RS.agg [LK.b, LK.l 1, LK.i .i64]] r0) <| let r1 : Option AV := q0 [AV.flt .f64 (toF (getV (wm [AV.flt .f64 ua0])))]; ck (okM [RS.agg [LK.b, LK.l 1, LK.i .i64]] r1) <| let r2 : Option AV := q0 [AV.flt .f64 (toF (getV (wm [AV.flt .f64 ua0])))]; ck (okM [RS.agg [LK.b, LK.l 1, LK.i .i64]] r2) <| let r3 : Option AV := we [AV.agg [AV.bool (toB ((toC (getV r1)).headD AV.dead)), AV.ro 1 (toN ((toC (getV r1)).tail.headD AV.dead)) (toR ((toC (getV r1)).tail.headD AV.dead)) (toG ((toC (getV r1)).tail.headD AV.dead)), AV.int .i64 (toI ((toC (getV r1)).tail.tail.headD AV.dead))], AV.agg [AV.bool (toB ((toC (getV r2)).headD AV.dead)), AV.ro 1 (toN ((toC (getV r2)).tail.headD AV.dead)) (toR ((toC (getV r2)).tail.headD AV.dead)) (toG ((toC (getV r2)).tail.headD AV.dead)), AV.int .i64 (toI ((toC (getV r2)).tail.tail.headD AV.dead))]]; ck (okM [RS.agg [LK.b, LK.l 1, LK.i .i64]] r3) <| ck (okM [RS.one (LK.i .i64)] (qs [AV.agg [AV.bool (toB ((toC (getV r0)).headD AV.dead)), AV.ro 1 (toN ((toC (getV r0)).tail.headD AV.dead)) (toR ((toC (getV r0)).tail.headD AV.dead)) (toG ((toC (getV r0)).tail.headD AV.dead)), AV.int .i64 (toI ((toC (getV r0)).tail.tail.headD AV.dead))], AV.agg [AV.bool (toB ((toC (getV r3)).headD AV.dead)), AV.ro 1 (toN ((toC (getV r3)).tail.headD AV.dead)) (toR ((toC (getV r3)).tail.headD AV.dead)) (toG ((toC (getV r3)).tail.headD AV.dead)), AV.int .i64 (toI ((toC (getV r3)).tail.tail.headD AV.dead))]])) <| ck (okM [RS.one (LK.f .f64)] (q8 [AV.flt .f64 (toF (getV (wm [AV.flt .f64 ua0]))), AV.int .i64 (toI (getV (qs [AV.agg [AV.bool (toB ((toC (getV r0)).headD AV.dead)), AV.ro 1 (toN ((toC (getV r0)).tail.headD AV.dead)) (toR ((toC (getV r0)).tail.headD AV.dead)) (toG ((toC (getV r0)).tail.headD AV.dead)), AV.int .i64 (toI ((toC (getV r0)).tail.tail.headD AV.dead))], AV.agg [AV.bool (toB ((toC (getV r3)).headD AV.dead)), AV.ro 1 (toN ((toC (getV r3)).tail.headD AV.dead)) (toR ((toC (getV r3)).tail.headD AV.dead)) (toG ((toC (getV r3)).tail.headD AV.dead)), AV.int .i64 (toI ((toC (getV r3)).tail.tail.headD AV.dead))]]))), AV.int .i8 um1])) <| some (AV.flt .f64 (toF (getV (q8 [AV.flt .f64 (toF (getV (wm [AV.flt .f64 ua0]))), AV.int .i64 (toI (getV (qs [AV.agg [AV.bool (toB ((toC (getV r0)).headD AV.dead)), AV.ro 1 (toN ((toC (getV r0)).tail.headD AV.dead)) (toR ((toC (getV r0)).tail.headD AV.dead)) (toG ((toC (getV r0)).tail.headD AV.dead)), AV.int .i64 (toI ((toC (getV r0)).tail.tail.headD AV.dead))], AV.agg [AV.bool (toB ((toC (getV r3)).headD AV.dead)), AV.ro 1 (toN ((toC (getV r3)).tail.headD AV.dead)) (toR ((toC (getV r3)).tail.headD AV.dead)) (toG ((toC (getV r3)).tail.headD AV.dead)), AV.int .i64 (toI ((toC (getV r3)).tail.tail.headD AV.dead))]]))), AV.int .i8 um1]))))
theorem gref03_Sqrt_run (wm qr : Mo) (qt q3 : Mo) (q8 q0 : Mo) (we qs : Mo) (fuel : Nat) (ua0 : Option Nat) (um1 : Int) : run Pr (Gref03_Sqrt wm qr qt q3 q8 q0 we qs) [((6, 62), Lref03_Sqrt wm qr qt q3 q8 q0 we qs fuel)] fuel 7 62 [AV.flt .f64 ua0, AV.int .i8 um1] = gref03_Sqrt wm qr qt q3 q8 q0 we qs fuel ua0 um1 := by kernel_rfl
noncomputable def mref03_Sqrt (wm qr : Mo) (qt q3 : Mo) (q8 q0 : Mo) (we qs : Mo) (fuel : Nat) (xs : List AV) : Option AV := match xs with
  | [AV.flt .f64 ua0, AV.int .i8 um1] => gref03_Sqrt wm qr qt q3 q8 q0 we qs fuel ua0 um1
  | _ => none
abbrev Rref03_Sqrt : List RS := [RS.one (LK.f .f64)]
theorem gref03_Sqrt_sm (wm qr : Mo) (qt q3 : Mo) (q8 q0 : Mo) (we qs : Mo) (fuel : Nat) (hΓ : GamOk Pr (Gref03_Sqrt wm qr qt q3 q8 q0 we qs)) (hP : NamesOk Pr) : SmOk Pr 62 (smM Rref03_Sqrt (mref03_Sqrt wm qr qt q3 q8 q0 we qs fuel)) := by
  refine smM_ok (fuel := fuel) hΓ hP (LamOk.of 6 62 (Lref03_Sqrt wm qr qt q3 q8 q0 we qs fuel) 0 (by kernel_rfl) (fun i hi => ?_)) 7 62 Rref03_Sqrt _ (fun xs v h => ?_)
  · match i, hi with
    | i + 0, hi => exact absurd hi (by omega)
  · unfold mref03_Sqrt at h
    split at h
    · exact (gref03_Sqrt_run wm qr qt q3 q8 q0 we qs fuel _ _).trans h
    · cases h
noncomputable def Lref19_Length (v8 : Mo) (fuel : Nat) : Lam AV := []
noncomputable def Gref19_Length (v8 : Mo) : Gam := [(62, smM [RS.one (LK.f .f64)] v8)]
noncomputable def Cref19_Length (v8 : Mo) (fuel : Nat) : CallI AV := callX (Gref19_Length v8) (execFn Pr (Gref19_Length v8) [((6, 39), Lref19_Length v8 fuel)] fuel 6)
noncomputable def gref19_Length (v8 : Mo) (fuel : Nat) (l20 : Int) : Option AV :=
  ck (okM [RS.one (LK.f .f64)] (v8 [AV.flt .f64 (some (FloatKind.f64.nearest l20)), AV.int .i8 1])) <| ck (okM [RS.one (LK.f .f64)] (v8 [AV.flt .f64 (some (FloatKind.f64.nearest l20)), AV.int .i8 2])) <| ck (okM [RS.one (LK.f .f64)] (v8 [AV.flt .f64 (some (FloatKind.f64.nearest l20)), AV.int .i8 0])) <| some (AV.tup [AV.agg [AV.flt .f64 (toF (getV (v8 [AV.flt .f64 (some (FloatKind.f64.nearest l20)), AV.int .i8 1]))), AV.flt .f64 (toF (getV (v8 [AV.flt .f64 (some (FloatKind.f64.nearest l20)), AV.int .i8 2])))], AV.flt .f64 (toF (getV (v8 [AV.flt .f64 (some (FloatKind.f64.nearest l20)), AV.int .i8 0])))])
theorem gref19_Length_run (v8 : Mo) (fuel : Nat) (l20 : Int) : run Pr (Gref19_Length v8) [((6, 39), Lref19_Length v8 fuel)] fuel 7 39 [AV.int .i64 l20] = gref19_Length v8 fuel l20 := by kernel_rfl
noncomputable def mref19_Length (v8 : Mo) (fuel : Nat) (xs : List AV) : Option AV := match xs with
  | [AV.int .i64 l20] => gref19_Length v8 fuel l20
  | _ => none
abbrev Rref19_Length : List RS := [RS.agg [LK.f .f64, LK.f .f64], RS.one (LK.f .f64)]
theorem gref19_Length_sm (v8 : Mo) (fuel : Nat) (hΓ : GamOk Pr (Gref19_Length v8)) (hP : NamesOk Pr) : SmOk Pr 39 (smM Rref19_Length (mref19_Length v8 fuel)) := by
  refine smM_ok (fuel := fuel) hΓ hP (LamOk.of 6 39 (Lref19_Length v8 fuel) 0 (by kernel_rfl) (fun i hi => ?_)) 7 39 Rref19_Length _ (fun xs v h => ?_)
  · match i, hi with
    | i + 0, hi => exact absurd hi (by omega)
  · unfold mref19_Length at h
    split at h
    · exact (gref19_Length_run v8 fuel _).trans h
    · cases h
noncomputable def Lref19_one (fuel : Nat) : Lam AV := []
noncomputable def Gref19_one : Gam := []
noncomputable def Cref19_one (fuel : Nat) : CallI AV := callX (Gref19_one) (execFn Pr (Gref19_one) [((6, 40), Lref19_one fuel)] fuel 6)
noncomputable def gref19_one (fuel : Nat) (ux0 : Option Nat) : Option AV :=
  some (AV.agg [AV.flt .f64 ux0, AV.flt .f64 ux0])
theorem gref19_one_run (fuel : Nat) (ux0 : Option Nat) : run Pr (Gref19_one) [((6, 40), Lref19_one fuel)] fuel 7 40 [AV.flt .f64 ux0] = gref19_one fuel ux0 := by kernel_rfl
noncomputable def mref19_one (fuel : Nat) (xs : List AV) : Option AV := match xs with
  | [AV.flt .f64 ux0] => gref19_one fuel ux0
  | _ => none
abbrev Rref19_one : List RS := [RS.agg [LK.f .f64, LK.f .f64]]
theorem gref19_one_sm (fuel : Nat) (hΓ : GamOk Pr (Gref19_one)) (hP : NamesOk Pr) : SmOk Pr 40 (smM Rref19_one (mref19_one fuel)) := by
  refine smM_ok (fuel := fuel) hΓ hP (LamOk.of 6 40 (Lref19_one fuel) 0 (by kernel_rfl) (fun i hi => ?_)) 7 40 Rref19_one _ (fun xs v h => ?_)
  · match i, hi with
    | i + 0, hi => exact absurd hi (by omega)
  · unfold mref19_one at h
    split at h
    · exact (gref19_one_run fuel _).trans h
    · cases h
noncomputable def Lref05_finite (fuel : Nat) : Lam AV := []
noncomputable def Gref05_finite : Gam := []
noncomputable def Cref05_finite (fuel : Nat) : CallI AV := callX (Gref05_finite) (execFn Pr (Gref05_finite) [((6, 114), Lref05_finite fuel)] fuel 6)
noncomputable def gref05_finite (fuel : Nat) (ux0 : Option Nat) : Option AV :=
  some (AV.bool (ford .f64 (farith BinOp.sub .f64 ux0 ux0) (some 0) == some Ordering.eq))
theorem gref05_finite_run (fuel : Nat) (ux0 : Option Nat) : run Pr (Gref05_finite) [((6, 114), Lref05_finite fuel)] fuel 7 114 [AV.flt .f64 ux0] = gref05_finite fuel ux0 := by kernel_rfl
noncomputable def mref05_finite (fuel : Nat) (xs : List AV) : Option AV := match xs with
  | [AV.flt .f64 ux0] => gref05_finite fuel ux0
  | _ => none
abbrev Rref05_finite : List RS := [RS.one LK.b]
theorem gref05_finite_sm (fuel : Nat) (hΓ : GamOk Pr (Gref05_finite)) (hP : NamesOk Pr) : SmOk Pr 114 (smM Rref05_finite (mref05_finite fuel)) := by
  refine smM_ok (fuel := fuel) hΓ hP (LamOk.of 6 114 (Lref05_finite fuel) 0 (by kernel_rfl) (fun i hi => ?_)) 7 114 Rref05_finite _ (fun xs v h => ?_)
  · match i, hi with
    | i + 0, hi => exact absurd hi (by omega)
  · unfold mref05_finite at h
    split at h
    · exact (gref05_finite_run fuel _).trans h
    · cases h
noncomputable def Lref05_Right (qp : Mo) (fuel : Nat) : Lam AV := []
noncomputable def Gref05_Right (qp : Mo) : Gam := [(114, smM [RS.one LK.b] qp)]
noncomputable def Cref05_Right (qp : Mo) (fuel : Nat) : CallI AV := callX (Gref05_Right qp) (execFn Pr (Gref05_Right qp) [((6, 90), Lref05_Right qp fuel)] fuel 6)
noncomputable def gref05_Right (qp : Mo) (fuel : Nat) (p2 zg : Option Nat) : Option AV :=
  ck (bif !ford .f64 p2 p2 != some Ordering.eq then true else true) <| ck (bif !ford .f64 p2 p2 != some Ordering.eq then true else true) <| ck (bif !bif ford .f64 p2 p2 != some Ordering.eq then true else ford .f64 zg zg != some Ordering.eq then true else true) <| ck (bif !bif ford .f64 p2 p2 != some Ordering.eq then true else ford .f64 zg zg != some Ordering.eq then true else true) <| bif bif bif ford .f64 p2 p2 != some Ordering.eq then true else ford .f64 zg zg != some Ordering.eq then true else ford .f64 p2 zg == some Ordering.gt then some (AV.bool false)
  else ck (okM [RS.one LK.b] (qp [AV.flt .f64 p2])) <| ck (bif !toB (getV (qp [AV.flt .f64 p2])) then true else true) <| ck (bif bif toB (getV (qp [AV.flt .f64 p2])) then true else ford .f64 p2 (some 0) == some Ordering.lt then true else true) <| ck (bif bif toB (getV (qp [AV.flt .f64 p2])) then true else ford .f64 p2 (some 0) == some Ordering.lt then okM [RS.one LK.b] (qp [AV.flt .f64 zg]) else true) <| ck (bif !toB (getV (qp [AV.flt .f64 zg])) then true else true) <| some (AV.bool (bif bif toB (getV (qp [AV.flt .f64 p2])) then true else ford .f64 p2 (some 0) == some Ordering.lt then bif toB (getV (qp [AV.flt .f64 zg])) then true else ford .f64 zg (some 0) == some Ordering.gt else false))
theorem gref05_Right_run (qp : Mo) (fuel : Nat) (p2 zg : Option Nat) : run Pr (Gref05_Right qp) [((6, 90), Lref05_Right qp fuel)] fuel 7 90 [AV.agg [AV.flt .f64 p2, AV.flt .f64 zg]] = gref05_Right qp fuel p2 zg := by kernel_rfl
noncomputable def mref05_Right (qp : Mo) (fuel : Nat) (xs : List AV) : Option AV := match xs with
  | [AV.agg [AV.flt .f64 p2, AV.flt .f64 zg]] => gref05_Right qp fuel p2 zg
  | _ => none
abbrev Rref05_Right : List RS := [RS.one LK.b]
theorem gref05_Right_sm (qp : Mo) (fuel : Nat) (hΓ : GamOk Pr (Gref05_Right qp)) (hP : NamesOk Pr) : SmOk Pr 90 (smM Rref05_Right (mref05_Right qp fuel)) := by
  refine smM_ok (fuel := fuel) hΓ hP (LamOk.of 6 90 (Lref05_Right qp fuel) 0 (by kernel_rfl) (fun i hi => ?_)) 7 90 Rref05_Right _ (fun xs v h => ?_)
  · match i, hi with
    | i + 0, hi => exact absurd hi (by omega)
  · unfold mref05_Right at h
    split at h
    · exact (gref05_Right_run qp fuel _ _).trans h
    · cases h
noncomputable def Lref03_great (wn : Mo) (fuel : Nat) : Lam AV := []
noncomputable def Gref03_great (wn : Mo) : Gam := [(98, smM [RS.one (LK.f .f64)] wn)]
noncomputable def Cref03_great (wn : Mo) (fuel : Nat) : CallI AV := callX (Gref03_great wn) (execFn Pr (Gref03_great wn) [((6, 143), Lref03_great wn fuel)] fuel 6)
noncomputable def gref03_great (wn : Mo) (fuel : Nat) (us0 : Option Nat) (um1 : Int) : Option AV :=
  bif bif bif um1 == 3 then true else bif ford .f64 us0 (some 0) == some Ordering.gt then um1 == 1 else false then true else bif ford .f64 us0 (some 0) == some Ordering.lt then um1 == 2 else false then ck (okM [RS.one (LK.f .f64)] (wn [AV.flt .f64 (some 9218868437227405311), AV.flt .f64 us0])) <| some (AV.flt .f64 (toF (getV (wn [AV.flt .f64 (some 9218868437227405311), AV.flt .f64 us0]))))
  else some (AV.flt .f64 us0)
theorem gref03_great_run (wn : Mo) (fuel : Nat) (us0 : Option Nat) (um1 : Int) : run Pr (Gref03_great wn) [((6, 143), Lref03_great wn fuel)] fuel 7 143 [AV.flt .f64 us0, AV.int .i8 um1] = gref03_great wn fuel us0 um1 := by kernel_rfl
noncomputable def mref03_great (wn : Mo) (fuel : Nat) (xs : List AV) : Option AV := match xs with
  | [AV.flt .f64 us0, AV.int .i8 um1] => gref03_great wn fuel us0 um1
  | _ => none
abbrev Rref03_great : List RS := [RS.one (LK.f .f64)]
theorem gref03_great_sm (wn : Mo) (fuel : Nat) (hΓ : GamOk Pr (Gref03_great wn)) (hP : NamesOk Pr) : SmOk Pr 143 (smM Rref03_great (mref03_great wn fuel)) := by
  refine smM_ok (fuel := fuel) hΓ hP (LamOk.of 6 143 (Lref03_great wn fuel) 0 (by kernel_rfl) (fun i hi => ?_)) 7 143 Rref03_great _ (fun xs v h => ?_)
  · match i, hi with
    | i + 0, hi => exact absurd hi (by omega)
  · unfold mref03_great at h
    split at h
    · exact (gref03_great_run wn fuel _ _).trans h
    · cases h
noncomputable def Lref03_Mul (qr zf : Mo) (qt q3 : Mo) (q8 q0 : Mo) (we qs : Mo) (fuel : Nat) : Lam AV := []
noncomputable def Gref03_Mul (qr zf : Mo) (qt q3 : Mo) (q8 q0 : Mo) (we qs : Mo) : Gam := [(83, smM [RS.one LK.b] qr), (143, smM [RS.one (LK.f .f64)] zf), (84, smM [RS.one LK.b] qt), (86, smM [RS.one (LK.i .i64)] q3), (85, smM [RS.one (LK.f .f64)] q8), (88, smM [RS.agg [LK.b, LK.l (nat_lit 1), LK.i .i64]] q0), (89, smM [RS.agg [LK.b, LK.l (nat_lit 1), LK.i .i64]] we), (87, smM [RS.one (LK.i .i64)] qs), (71, Go.Am.sFma)]
noncomputable def Cref03_Mul (qr zf : Mo) (qt q3 : Mo) (q8 q0 : Mo) (we qs : Mo) (fuel : Nat) : CallI AV := callX (Gref03_Mul qr zf qt q3 q8 q0 we qs) (execFn Pr (Gref03_Mul qr zf qt q3 q8 q0 we qs) [((6, 117), Lref03_Mul qr zf qt q3 q8 q0 we qs fuel)] fuel 6)
noncomputable def gref03_Mul (qr zf : Mo) (qt q3 : Mo) (q8 q0 : Mo) (we qs : Mo) (fuel : Nat) (ua0 ub1 : Option Nat) (um2 : Int) : Option AV :=
  ck (okM [RS.one LK.b] (qr [AV.flt .f64 ua0])) <| ck (bif !!toB (getV (qr [AV.flt .f64 ua0])) then okM [RS.one LK.b] (qr [AV.flt .f64 ub1]) else true) <| bif bif bif bif !toB (getV (qr [AV.flt .f64 ua0])) then true else !toB (getV (qr [AV.flt .f64 ub1])) then true else ford .f64 ua0 (some 0) == some Ordering.eq then true else ford .f64 ub1 (some 0) == some Ordering.eq then some (AV.flt .f64 (farith BinOp.mul .f64 ua0 ub1))
  else ck (okM [RS.one LK.b] (qr [AV.flt .f64 (farith BinOp.mul .f64 ua0 ub1)])) <| bif !toB (getV (qr [AV.flt .f64 (farith BinOp.mul .f64 ua0 ub1)])) then ck (okM [RS.one (LK.f .f64)] (zf [AV.flt .f64 (farith BinOp.mul .f64 ua0 ub1), AV.int .i8 um2])) <| some (AV.flt .f64 (toF (getV (zf [AV.flt .f64 (farith BinOp.mul .f64 ua0 ub1), AV.int .i8 um2]))))
  else ck (okM [RS.one LK.b] (qt [AV.flt .f64 (farith BinOp.mul .f64 ua0 ub1)])) <| bif toB (getV (qt [AV.flt .f64 (farith BinOp.mul .f64 ua0 ub1)])) then ck (sFma.ok [AV.flt .f64 ua0, AV.flt .f64 ub1, AV.flt .f64 (Option.map (Op.negFloat .f64) (farith BinOp.mul .f64 ua0 ub1))]) <| ck (okM [RS.one (LK.i .i64)] (q3 [AV.flt .f64 (ua0.bind fun (x : Nat) => ub1.bind fun (y : Nat) => (Option.map (Op.negFloat .f64) (farith BinOp.mul .f64 ua0 ub1)).bind fun (z : Nat) => FloatKind.f64.format.fma x y z)])) <| ck (okM [RS.one (LK.f .f64)] (q8 [AV.flt .f64 (farith BinOp.mul .f64 ua0 ub1), AV.int .i64 (toI (getV (q3 [AV.flt .f64 (ua0.bind fun (x : Nat) => ub1.bind fun (y : Nat) => (Option.map (Op.negFloat .f64) (farith BinOp.mul .f64 ua0 ub1)).bind fun (z : Nat) => FloatKind.f64.format.fma x y z)]))), AV.int .i8 um2])) <| some (AV.flt .f64 (toF (getV (q8 [AV.flt .f64 (farith BinOp.mul .f64 ua0 ub1), AV.int .i64 (toI (getV (q3 [AV.flt .f64 (ua0.bind fun (x : Nat) => ub1.bind fun (y : Nat) => (Option.map (Op.negFloat .f64) (farith BinOp.mul .f64 ua0 ub1)).bind fun (z : Nat) => FloatKind.f64.format.fma x y z)]))), AV.int .i8 um2]))))
  else let r0 : Option AV := q0 [AV.flt .f64 ua0]; ck (okM [RS.agg [LK.b, LK.l 1, LK.i .i64]] r0) <| let r1 : Option AV := q0 [AV.flt .f64 ub1]; ck (okM [RS.agg [LK.b, LK.l 1, LK.i .i64]] r1) <| let r2 : Option AV := we [AV.agg [AV.bool (toB ((toC (getV r0)).headD AV.dead)), AV.ro 1 (toN ((toC (getV r0)).tail.headD AV.dead)) (toR ((toC (getV r0)).tail.headD AV.dead)) (toG ((toC (getV r0)).tail.headD AV.dead)), AV.int .i64 (toI ((toC (getV r0)).tail.tail.headD AV.dead))], AV.agg [AV.bool (toB ((toC (getV r1)).headD AV.dead)), AV.ro 1 (toN ((toC (getV r1)).tail.headD AV.dead)) (toR ((toC (getV r1)).tail.headD AV.dead)) (toG ((toC (getV r1)).tail.headD AV.dead)), AV.int .i64 (toI ((toC (getV r1)).tail.tail.headD AV.dead))]]; ck (okM [RS.agg [LK.b, LK.l 1, LK.i .i64]] r2) <| let r3 : Option AV := q0 [AV.flt .f64 (farith BinOp.mul .f64 ua0 ub1)]; ck (okM [RS.agg [LK.b, LK.l 1, LK.i .i64]] r3) <| ck (okM [RS.one (LK.i .i64)] (qs [AV.agg [AV.bool (toB ((toC (getV r2)).headD AV.dead)), AV.ro 1 (toN ((toC (getV r2)).tail.headD AV.dead)) (toR ((toC (getV r2)).tail.headD AV.dead)) (toG ((toC (getV r2)).tail.headD AV.dead)), AV.int .i64 (toI ((toC (getV r2)).tail.tail.headD AV.dead))], AV.agg [AV.bool (toB ((toC (getV r3)).headD AV.dead)), AV.ro 1 (toN ((toC (getV r3)).tail.headD AV.dead)) (toR ((toC (getV r3)).tail.headD AV.dead)) (toG ((toC (getV r3)).tail.headD AV.dead)), AV.int .i64 (toI ((toC (getV r3)).tail.tail.headD AV.dead))]])) <| ck (okM [RS.one (LK.f .f64)] (q8 [AV.flt .f64 (farith BinOp.mul .f64 ua0 ub1), AV.int .i64 (toI (getV (qs [AV.agg [AV.bool (toB ((toC (getV r2)).headD AV.dead)), AV.ro 1 (toN ((toC (getV r2)).tail.headD AV.dead)) (toR ((toC (getV r2)).tail.headD AV.dead)) (toG ((toC (getV r2)).tail.headD AV.dead)), AV.int .i64 (toI ((toC (getV r2)).tail.tail.headD AV.dead))], AV.agg [AV.bool (toB ((toC (getV r3)).headD AV.dead)), AV.ro 1 (toN ((toC (getV r3)).tail.headD AV.dead)) (toR ((toC (getV r3)).tail.headD AV.dead)) (toG ((toC (getV r3)).tail.headD AV.dead)), AV.int .i64 (toI ((toC (getV r3)).tail.tail.headD AV.dead))]]))), AV.int .i8 um2])) <| some (AV.flt .f64 (toF (getV (q8 [AV.flt .f64 (farith BinOp.mul .f64 ua0 ub1), AV.int .i64 (toI (getV (qs [AV.agg [AV.bool (toB ((toC (getV r2)).headD AV.dead)), AV.ro 1 (toN ((toC (getV r2)).tail.headD AV.dead)) (toR ((toC (getV r2)).tail.headD AV.dead)) (toG ((toC (getV r2)).tail.headD AV.dead)), AV.int .i64 (toI ((toC (getV r2)).tail.tail.headD AV.dead))], AV.agg [AV.bool (toB ((toC (getV r3)).headD AV.dead)), AV.ro 1 (toN ((toC (getV r3)).tail.headD AV.dead)) (toR ((toC (getV r3)).tail.headD AV.dead)) (toG ((toC (getV r3)).tail.headD AV.dead)), AV.int .i64 (toI ((toC (getV r3)).tail.tail.headD AV.dead))]]))), AV.int .i8 um2]))))
theorem gref03_Mul_run (qr zf : Mo) (qt q3 : Mo) (q8 q0 : Mo) (we qs : Mo) (fuel : Nat) (ua0 ub1 : Option Nat) (um2 : Int) : run Pr (Gref03_Mul qr zf qt q3 q8 q0 we qs) [((6, 117), Lref03_Mul qr zf qt q3 q8 q0 we qs fuel)] fuel 7 117 [AV.flt .f64 ua0, AV.flt .f64 ub1, AV.int .i8 um2] = gref03_Mul qr zf qt q3 q8 q0 we qs fuel ua0 ub1 um2 := by kernel_rfl
noncomputable def mref03_Mul (qr zf : Mo) (qt q3 : Mo) (q8 q0 : Mo) (we qs : Mo) (fuel : Nat) (xs : List AV) : Option AV := match xs with
  | [AV.flt .f64 ua0, AV.flt .f64 ub1, AV.int .i8 um2] => gref03_Mul qr zf qt q3 q8 q0 we qs fuel ua0 ub1 um2
  | _ => none
abbrev Rref03_Mul : List RS := [RS.one (LK.f .f64)]
theorem gref03_Mul_sm (qr zf : Mo) (qt q3 : Mo) (q8 q0 : Mo) (we qs : Mo) (fuel : Nat) (hΓ : GamOk Pr (Gref03_Mul qr zf qt q3 q8 q0 we qs)) (hP : NamesOk Pr) : SmOk Pr 117 (smM Rref03_Mul (mref03_Mul qr zf qt q3 q8 q0 we qs fuel)) := by
  refine smM_ok (fuel := fuel) hΓ hP (LamOk.of 6 117 (Lref03_Mul qr zf qt q3 q8 q0 we qs fuel) 0 (by kernel_rfl) (fun i hi => ?_)) 7 117 Rref03_Mul _ (fun xs v h => ?_)
  · match i, hi with
    | i + 0, hi => exact absurd hi (by omega)
  · unfold mref03_Mul at h
    split at h
    · exact (gref03_Mul_run qr zf qt q3 q8 q0 we qs fuel _ _ _).trans h
    · cases h
noncomputable def Lref05_times (qp y0 : Mo) (fuel : Nat) : Lam AV := []
noncomputable def Gref05_times (qp y0 : Mo) : Gam := [(114, smM [RS.one LK.b] qp), (117, smM [RS.one (LK.f .f64)] y0)]
noncomputable def Cref05_times (qp y0 : Mo) (fuel : Nat) : CallI AV := callX (Gref05_times qp y0) (execFn Pr (Gref05_times qp y0) [((6, 94), Lref05_times qp y0 fuel)] fuel 6)
noncomputable def gref05_times (qp y0 : Mo) (fuel : Nat) (ux0 uy1 : Option Nat) (um2 : Int) : Option AV :=
  ck (bif ford .f64 ux0 (some 0) == some Ordering.eq then okM [RS.one LK.b] (qp [AV.flt .f64 uy1]) else true) <| ck (bif ford .f64 uy1 (some 0) == some Ordering.eq then okM [RS.one LK.b] (qp [AV.flt .f64 ux0]) else true) <| bif bif bif ford .f64 ux0 (some 0) == some Ordering.eq then !toB (getV (qp [AV.flt .f64 uy1])) else false then true else bif ford .f64 uy1 (some 0) == some Ordering.eq then !toB (getV (qp [AV.flt .f64 ux0])) else false then some (AV.flt .f64 (some 0))
  else ck (okM [RS.one (LK.f .f64)] (y0 [AV.flt .f64 ux0, AV.flt .f64 uy1, AV.int .i8 um2])) <| some (AV.flt .f64 (toF (getV (y0 [AV.flt .f64 ux0, AV.flt .f64 uy1, AV.int .i8 um2]))))
theorem gref05_times_run (qp y0 : Mo) (fuel : Nat) (ux0 uy1 : Option Nat) (um2 : Int) : run Pr (Gref05_times qp y0) [((6, 94), Lref05_times qp y0 fuel)] fuel 7 94 [AV.flt .f64 ux0, AV.flt .f64 uy1, AV.int .i8 um2] = gref05_times qp y0 fuel ux0 uy1 um2 := by kernel_rfl
noncomputable def mref05_times (qp y0 : Mo) (fuel : Nat) (xs : List AV) : Option AV := match xs with
  | [AV.flt .f64 ux0, AV.flt .f64 uy1, AV.int .i8 um2] => gref05_times qp y0 fuel ux0 uy1 um2
  | _ => none
abbrev Rref05_times : List RS := [RS.one (LK.f .f64)]
theorem gref05_times_sm (qp y0 : Mo) (fuel : Nat) (hΓ : GamOk Pr (Gref05_times qp y0)) (hP : NamesOk Pr) : SmOk Pr 94 (smM Rref05_times (mref05_times qp y0 fuel)) := by
  refine smM_ok (fuel := fuel) hΓ hP (LamOk.of 6 94 (Lref05_times qp y0 fuel) 0 (by kernel_rfl) (fun i hi => ?_)) 7 94 Rref05_times _ (fun xs v h => ?_)
  · match i, hi with
    | i + 0, hi => exact absurd hi (by omega)
  · unfold mref05_times at h
    split at h
    · exact (gref05_times_run qp y0 fuel _ _ _).trans h
    · cases h
noncomputable def Lref01_fields (fuel : Nat) : Lam AV := []
noncomputable def Gref01_fields : Gam := [(54, Go.Am.sBits)]
noncomputable def Cref01_fields (fuel : Nat) : CallI AV := callX (Gref01_fields) (execFn Pr (Gref01_fields) [((6, 142), Lref01_fields fuel)] fuel 6)
noncomputable def gref01_fields (fuel : Nat) (ux0 : Option Nat) : Option AV :=
  ck (sBits.ok [AV.flt .f64 ux0]) <| some (AV.tup [AV.bool ((↑(ux0.getD 0) : Int).fdiv (2 ^ 63) == 1), AV.int .i64 (IntKind.i64.wrap ((IntKind.u64.wrap ((↑(ux0.getD 0) : Int).tdiv 4503599627370496)).tmod 2048)), AV.int .u64 ((↑(ux0.getD 0) : Int).tmod 4503599627370496)])
theorem gref01_fields_run (fuel : Nat) (ux0 : Option Nat) : run Pr (Gref01_fields) [((6, 142), Lref01_fields fuel)] fuel 7 142 [AV.flt .f64 ux0] = gref01_fields fuel ux0 := by kernel_rfl
noncomputable def mref01_fields (fuel : Nat) (xs : List AV) : Option AV := match xs with
  | [AV.flt .f64 ux0] => gref01_fields fuel ux0
  | _ => none
abbrev Rref01_fields : List RS := [RS.one LK.b, RS.one (LK.i .i64), RS.one (LK.i .u64)]
theorem gref01_fields_sm (fuel : Nat) (hΓ : GamOk Pr (Gref01_fields)) (hP : NamesOk Pr) : SmOk Pr 142 (smM Rref01_fields (mref01_fields fuel)) := by
  refine smM_ok (fuel := fuel) hΓ hP (LamOk.of 6 142 (Lref01_fields fuel) 0 (by kernel_rfl) (fun i hi => ?_)) 7 142 Rref01_fields _ (fun xs v h => ?_)
  · match i, hi with
    | i + 0, hi => exact absurd hi (by omega)
  · unfold mref01_fields at h
    split at h
    · exact (gref01_fields_run fuel _).trans h
    · cases h
noncomputable def Lref01_Kind (qz : Mo) (fuel : Nat) : Lam AV := []
noncomputable def Gref01_Kind (qz : Mo) : Gam := [(142, smM [RS.one LK.b, RS.one (LK.i .i64), RS.one (LK.i .u64)] qz)]
noncomputable def Cref01_Kind (qz : Mo) (fuel : Nat) : CallI AV := callX (Gref01_Kind qz) (execFn Pr (Gref01_Kind qz) [((6, 173), Lref01_Kind qz fuel)] fuel 6)
noncomputable def gref01_Kind (qz : Mo) (fuel : Nat) (ux0 : Option Nat) : Option AV :=
  let r0 : Option AV := qz [AV.flt .f64 ux0]; ck (okM [RS.one LK.b, RS.one (LK.i .i64), RS.one (LK.i .u64)] r0) <| bif bif toI ((toT (getV r0)).tail.headD AV.dead) == 2047 then toI ((toT (getV r0)).tail.tail.headD AV.dead) != 0 else false then some (AV.int .i64 4)
  else bif toI ((toT (getV r0)).tail.headD AV.dead) == 2047 then some (AV.int .i64 3)
  else bif decide (toI ((toT (getV r0)).tail.headD AV.dead) > 0) then some (AV.int .i64 2)
  else bif toI ((toT (getV r0)).tail.tail.headD AV.dead) != 0 then some (AV.int .i64 1)
  else some (AV.int .i64 0)
theorem gref01_Kind_run (qz : Mo) (fuel : Nat) (ux0 : Option Nat) : run Pr (Gref01_Kind qz) [((6, 173), Lref01_Kind qz fuel)] fuel 7 173 [AV.flt .f64 ux0] = gref01_Kind qz fuel ux0 := by kernel_rfl
noncomputable def mref01_Kind (qz : Mo) (fuel : Nat) (xs : List AV) : Option AV := match xs with
  | [AV.flt .f64 ux0] => gref01_Kind qz fuel ux0
  | _ => none
abbrev Rref01_Kind : List RS := [RS.one (LK.i .i64)]
theorem gref01_Kind_sm (qz : Mo) (fuel : Nat) (hΓ : GamOk Pr (Gref01_Kind qz)) (hP : NamesOk Pr) : SmOk Pr 173 (smM Rref01_Kind (mref01_Kind qz fuel)) := by
  refine smM_ok (fuel := fuel) hΓ hP (LamOk.of 6 173 (Lref01_Kind qz fuel) 0 (by kernel_rfl) (fun i hi => ?_)) 7 173 Rref01_Kind _ (fun xs v h => ?_)
  · match i, hi with
    | i + 0, hi => exact absurd hi (by omega)
  · unfold mref01_Kind at h
    split at h
    · exact (gref01_Kind_run qz fuel _).trans h
    · cases h
end Go.Proofs.Tryz
end
section
namespace Go.Proofs.Tryz
open Go Go.Am
set_option linter.unusedVariables false
set_option maxRecDepth 1000000
noncomputable def Lref01_Nan (ym : Mo) (fuel : Nat) : Lam AV := []
noncomputable def Gref01_Nan (ym : Mo) : Gam := [(173, smM [RS.one (LK.i .i64)] ym)]
noncomputable def Cref01_Nan (ym : Mo) (fuel : Nat) : CallI AV := callX (Gref01_Nan ym) (execFn Pr (Gref01_Nan ym) [((6, 140), Lref01_Nan ym fuel)] fuel 6)
noncomputable def gref01_Nan (ym : Mo) (fuel : Nat) (ux0 : Option Nat) : Option AV :=
  ck (okM [RS.one (LK.i .i64)] (ym [AV.flt .f64 ux0])) <| some (AV.bool (toI (getV (ym [AV.flt .f64 ux0])) == 4))
theorem gref01_Nan_run (ym : Mo) (fuel : Nat) (ux0 : Option Nat) : run Pr (Gref01_Nan ym) [((6, 140), Lref01_Nan ym fuel)] fuel 7 140 [AV.flt .f64 ux0] = gref01_Nan ym fuel ux0 := by kernel_rfl
noncomputable def mref01_Nan (ym : Mo) (fuel : Nat) (xs : List AV) : Option AV := match xs with
  | [AV.flt .f64 ux0] => gref01_Nan ym fuel ux0
  | _ => none
abbrev Rref01_Nan : List RS := [RS.one LK.b]
theorem gref01_Nan_sm (ym : Mo) (fuel : Nat) (hΓ : GamOk Pr (Gref01_Nan ym)) (hP : NamesOk Pr) : SmOk Pr 140 (smM Rref01_Nan (mref01_Nan ym fuel)) := by
  refine smM_ok (fuel := fuel) hΓ hP (LamOk.of 6 140 (Lref01_Nan ym fuel) 0 (by kernel_rfl) (fun i hi => ?_)) 7 140 Rref01_Nan _ (fun xs v h => ?_)
  · match i, hi with
    | i + 0, hi => exact absurd hi (by omega)
  · unfold mref01_Nan at h
    split at h
    · exact (gref01_Nan_run ym fuel _).trans h
    · cases h
noncomputable def Lref01_Place (zj qz : Mo) (fuel : Nat) : Lam AV := []
noncomputable def Gref01_Place (zj qz : Mo) : Gam := [(140, smM [RS.one LK.b] zj), (142, smM [RS.one LK.b, RS.one (LK.i .i64), RS.one (LK.i .u64)] qz)]
noncomputable def Cref01_Place (zj qz : Mo) (fuel : Nat) : CallI AV := callX (Gref01_Place zj qz) (execFn Pr (Gref01_Place zj qz) [((6, 141), Lref01_Place zj qz fuel)] fuel 6)
noncomputable def gref01_Place (zj qz : Mo) (fuel : Nat) (ux0 : Option Nat) : Option AV :=
  ck (okM [RS.one LK.b] (zj [AV.flt .f64 ux0])) <| bif toB (getV (zj [AV.flt .f64 ux0])) then some (AV.tup [AV.int .i64 0, AV.bool false])
  else let r0 : Option AV := qz [AV.flt .f64 ux0]; ck (okM [RS.one LK.b, RS.one (LK.i .i64), RS.one (LK.i .u64)] r0) <| bif toB ((toT (getV r0)).headD AV.dead) then some (AV.tup [AV.int .i64 (IntKind.i64.wrap (0 - IntKind.i64.wrap (IntKind.i64.wrap (toI ((toT (getV r0)).tail.headD AV.dead) * 2 ^ 52) + IntKind.i64.wrap (toI ((toT (getV r0)).tail.tail.headD AV.dead))))), AV.bool true])
  else some (AV.tup [AV.int .i64 (IntKind.i64.wrap (IntKind.i64.wrap (toI ((toT (getV r0)).tail.headD AV.dead) * 2 ^ 52) + IntKind.i64.wrap (toI ((toT (getV r0)).tail.tail.headD AV.dead)))), AV.bool true])
theorem gref01_Place_run (zj qz : Mo) (fuel : Nat) (ux0 : Option Nat) : run Pr (Gref01_Place zj qz) [((6, 141), Lref01_Place zj qz fuel)] fuel 7 141 [AV.flt .f64 ux0] = gref01_Place zj qz fuel ux0 := by kernel_rfl
noncomputable def mref01_Place (zj qz : Mo) (fuel : Nat) (xs : List AV) : Option AV := match xs with
  | [AV.flt .f64 ux0] => gref01_Place zj qz fuel ux0
  | _ => none
abbrev Rref01_Place : List RS := [RS.one (LK.i .i64), RS.one LK.b]
theorem gref01_Place_sm (zj qz : Mo) (fuel : Nat) (hΓ : GamOk Pr (Gref01_Place zj qz)) (hP : NamesOk Pr) : SmOk Pr 141 (smM Rref01_Place (mref01_Place zj qz fuel)) := by
  refine smM_ok (fuel := fuel) hΓ hP (LamOk.of 6 141 (Lref01_Place zj qz fuel) 0 (by kernel_rfl) (fun i hi => ?_)) 7 141 Rref01_Place _ (fun xs v h => ?_)
  · match i, hi with
    | i + 0, hi => exact absurd hi (by omega)
  · unfold mref01_Place at h
    split at h
    · exact (gref01_Place_run zj qz fuel _).trans h
    · cases h
noncomputable def Lref01_Order (zj yd qz : Mo) (fuel : Nat) : Lam AV := []
noncomputable def Gref01_Order (zj yd qz : Mo) : Gam := [(140, smM [RS.one LK.b] zj), (141, smM [RS.one (LK.i .i64), RS.one LK.b] yd), (142, smM [RS.one LK.b, RS.one (LK.i .i64), RS.one (LK.i .u64)] qz)]
noncomputable def Cref01_Order (zj yd qz : Mo) (fuel : Nat) : CallI AV := callX (Gref01_Order zj yd qz) (execFn Pr (Gref01_Order zj yd qz) [((6, 115), Lref01_Order zj yd qz fuel)] fuel 6)
noncomputable def gref01_Order (zj yd qz : Mo) (fuel : Nat) (ua0 ub1 : Option Nat) : Option AV :=
  ck (okM [RS.one LK.b] (zj [AV.flt .f64 ua0])) <| ck (bif !toB (getV (zj [AV.flt .f64 ua0])) then okM [RS.one LK.b] (zj [AV.flt .f64 ub1]) else true) <| bif bif toB (getV (zj [AV.flt .f64 ua0])) then true else toB (getV (zj [AV.flt .f64 ub1])) then ck (okM [RS.one LK.b] (zj [AV.flt .f64 ua0])) <| bif !toB (getV (zj [AV.flt .f64 ua0])) then some (AV.int .i64 (-1))
    else ck (okM [RS.one LK.b] (zj [AV.flt .f64 ub1])) <| bif !toB (getV (zj [AV.flt .f64 ub1])) then some (AV.int .i64 1)
    else some (AV.int .i64 0)
  else let r0 : Option AV := yd [AV.flt .f64 ua0]; ck (okM [RS.one (LK.i .i64), RS.one LK.b] r0) <| let r1 : Option AV := yd [AV.flt .f64 ub1]; ck (okM [RS.one (LK.i .i64), RS.one LK.b] r1) <| bif toI ((toT (getV r0)).headD AV.dead) != toI ((toT (getV r1)).headD AV.dead) then bif decide (toI ((toT (getV r0)).headD AV.dead) < toI ((toT (getV r1)).headD AV.dead)) then some (AV.int .i64 (-1))
    else some (AV.int .i64 1)
  else let r2 : Option AV := qz [AV.flt .f64 ua0]; ck (okM [RS.one LK.b, RS.one (LK.i .i64), RS.one (LK.i .u64)] r2) <| let r3 : Option AV := qz [AV.flt .f64 ub1]; ck (okM [RS.one LK.b, RS.one (LK.i .i64), RS.one (LK.i .u64)] r3) <| bif bif toB ((toT (getV r2)).headD AV.dead) then !toB ((toT (getV r3)).headD AV.dead) else false then some (AV.int .i64 (-1))
  else bif bif toB ((toT (getV r3)).headD AV.dead) then !toB ((toT (getV r2)).headD AV.dead) else false then some (AV.int .i64 1)
  else some (AV.int .i64 0)
theorem gref01_Order_run (zj yd qz : Mo) (fuel : Nat) (ua0 ub1 : Option Nat) : run Pr (Gref01_Order zj yd qz) [((6, 115), Lref01_Order zj yd qz fuel)] fuel 7 115 [AV.flt .f64 ua0, AV.flt .f64 ub1] = gref01_Order zj yd qz fuel ua0 ub1 := by kernel_rfl
noncomputable def mref01_Order (zj yd qz : Mo) (fuel : Nat) (xs : List AV) : Option AV := match xs with
  | [AV.flt .f64 ua0, AV.flt .f64 ub1] => gref01_Order zj yd qz fuel ua0 ub1
  | _ => none
abbrev Rref01_Order : List RS := [RS.one (LK.i .i64)]
theorem gref01_Order_sm (zj yd qz : Mo) (fuel : Nat) (hΓ : GamOk Pr (Gref01_Order zj yd qz)) (hP : NamesOk Pr) : SmOk Pr 115 (smM Rref01_Order (mref01_Order zj yd qz fuel)) := by
  refine smM_ok (fuel := fuel) hΓ hP (LamOk.of 6 115 (Lref01_Order zj yd qz fuel) 0 (by kernel_rfl) (fun i hi => ?_)) 7 115 Rref01_Order _ (fun xs v h => ?_)
  · match i, hi with
    | i + 0, hi => exact absurd hi (by omega)
  · unfold mref01_Order at h
    split at h
    · exact (gref01_Order_run zj yd qz fuel _ _).trans h
    · cases h
noncomputable def Lref05_lesser (ze : Mo) (fuel : Nat) : Lam AV := []
noncomputable def Gref05_lesser (ze : Mo) : Gam := [(115, smM [RS.one (LK.i .i64)] ze)]
noncomputable def Cref05_lesser (ze : Mo) (fuel : Nat) : CallI AV := callX (Gref05_lesser ze) (execFn Pr (Gref05_lesser ze) [((6, 91), Lref05_lesser ze fuel)] fuel 6)
noncomputable def gref05_lesser (ze : Mo) (fuel : Nat) (ua0 ub1 : Option Nat) : Option AV :=
  ck (okM [RS.one (LK.i .i64)] (ze [AV.flt .f64 ub1, AV.flt .f64 ua0])) <| bif decide (toI (getV (ze [AV.flt .f64 ub1, AV.flt .f64 ua0])) < 0) then some (AV.flt .f64 ub1)
  else some (AV.flt .f64 ua0)
theorem gref05_lesser_run (ze : Mo) (fuel : Nat) (ua0 ub1 : Option Nat) : run Pr (Gref05_lesser ze) [((6, 91), Lref05_lesser ze fuel)] fuel 7 91 [AV.flt .f64 ua0, AV.flt .f64 ub1] = gref05_lesser ze fuel ua0 ub1 := by kernel_rfl
noncomputable def mref05_lesser (ze : Mo) (fuel : Nat) (xs : List AV) : Option AV := match xs with
  | [AV.flt .f64 ua0, AV.flt .f64 ub1] => gref05_lesser ze fuel ua0 ub1
  | _ => none
abbrev Rref05_lesser : List RS := [RS.one (LK.f .f64)]
theorem gref05_lesser_sm (ze : Mo) (fuel : Nat) (hΓ : GamOk Pr (Gref05_lesser ze)) (hP : NamesOk Pr) : SmOk Pr 91 (smM Rref05_lesser (mref05_lesser ze fuel)) := by
  refine smM_ok (fuel := fuel) hΓ hP (LamOk.of 6 91 (Lref05_lesser ze fuel) 0 (by kernel_rfl) (fun i hi => ?_)) 7 91 Rref05_lesser _ (fun xs v h => ?_)
  · match i, hi with
    | i + 0, hi => exact absurd hi (by omega)
  · unfold mref05_lesser at h
    split at h
    · exact (gref05_lesser_run ze fuel _ _).trans h
    · cases h
noncomputable def Lref05_greater (ze : Mo) (fuel : Nat) : Lam AV := []
noncomputable def Gref05_greater (ze : Mo) : Gam := [(115, smM [RS.one (LK.i .i64)] ze)]
noncomputable def Cref05_greater (ze : Mo) (fuel : Nat) : CallI AV := callX (Gref05_greater ze) (execFn Pr (Gref05_greater ze) [((6, 93), Lref05_greater ze fuel)] fuel 6)
noncomputable def gref05_greater (ze : Mo) (fuel : Nat) (ua0 ub1 : Option Nat) : Option AV :=
  ck (okM [RS.one (LK.i .i64)] (ze [AV.flt .f64 ub1, AV.flt .f64 ua0])) <| bif decide (toI (getV (ze [AV.flt .f64 ub1, AV.flt .f64 ua0])) > 0) then some (AV.flt .f64 ub1)
  else some (AV.flt .f64 ua0)
theorem gref05_greater_run (ze : Mo) (fuel : Nat) (ua0 ub1 : Option Nat) : run Pr (Gref05_greater ze) [((6, 93), Lref05_greater ze fuel)] fuel 7 93 [AV.flt .f64 ua0, AV.flt .f64 ub1] = gref05_greater ze fuel ua0 ub1 := by kernel_rfl
noncomputable def mref05_greater (ze : Mo) (fuel : Nat) (xs : List AV) : Option AV := match xs with
  | [AV.flt .f64 ua0, AV.flt .f64 ub1] => gref05_greater ze fuel ua0 ub1
  | _ => none
abbrev Rref05_greater : List RS := [RS.one (LK.f .f64)]
theorem gref05_greater_sm (ze : Mo) (fuel : Nat) (hΓ : GamOk Pr (Gref05_greater ze)) (hP : NamesOk Pr) : SmOk Pr 93 (smM Rref05_greater (mref05_greater ze fuel)) := by
  refine smM_ok (fuel := fuel) hΓ hP (LamOk.of 6 93 (Lref05_greater ze fuel) 0 (by kernel_rfl) (fun i hi => ?_)) 7 93 Rref05_greater _ (fun xs v h => ?_)
  · match i, hi with
    | i + 0, hi => exact absurd hi (by omega)
  · unfold mref05_greater at h
    split at h
    · exact (gref05_greater_run ze fuel _ _).trans h
    · cases h
noncomputable def Lref05_Mul (wx wu : Mo) (wg q2 : Mo) (fuel : Nat) : Lam AV := []
noncomputable def Gref05_Mul (wx wu : Mo) (wg q2 : Mo) : Gam := [(90, smM [RS.one LK.b] wx), (94, smM [RS.one (LK.f .f64)] wu), (91, smM [RS.one (LK.f .f64)] wg), (93, smM [RS.one (LK.f .f64)] q2)]
noncomputable def Cref05_Mul (wx wu : Mo) (wg q2 : Mo) (fuel : Nat) : CallI AV := callX (Gref05_Mul wx wu wg q2) (execFn Pr (Gref05_Mul wx wu wg q2) [((6, 64), Lref05_Mul wx wu wg q2 fuel)] fuel 6)
noncomputable def gref05_Mul (wx wu : Mo) (wg q2 : Mo) (fuel : Nat) (q9 wl : Option Nat) (wa wj : Option Nat) : Option AV :=
  ck (okM [RS.one LK.b] (wx [AV.agg [AV.flt .f64 q9, AV.flt .f64 wl]])) <| ck (bif !!toB (getV (wx [AV.agg [AV.flt .f64 q9, AV.flt .f64 wl]])) then true else true) <| ck (bif !!toB (getV (wx [AV.agg [AV.flt .f64 q9, AV.flt .f64 wl]])) then okM [RS.one LK.b] (wx [AV.agg [AV.flt .f64 wa, AV.flt .f64 wj]]) else true) <| bif bif !toB (getV (wx [AV.agg [AV.flt .f64 q9, AV.flt .f64 wl]])) then true else !toB (getV (wx [AV.agg [AV.flt .f64 wa, AV.flt .f64 wj]])) then some (AV.tup [AV.agg [AV.flt .f64 (some 0), AV.flt .f64 (some 0)], AV.int .i64 2])
  else ck (okM [RS.one (LK.f .f64)] (wu [AV.flt .f64 q9, AV.flt .f64 wa, AV.int .i8 1])) <| ck (okM [RS.one (LK.f .f64)] (wu [AV.flt .f64 q9, AV.flt .f64 wj, AV.int .i8 1])) <| ck (okM [RS.one (LK.f .f64)] (wg [AV.flt .f64 (toF (getV (wu [AV.flt .f64 q9, AV.flt .f64 wa, AV.int .i8 1]))), AV.flt .f64 (toF (getV (wu [AV.flt .f64 q9, AV.flt .f64 wj, AV.int .i8 1])))])) <| ck (okM [RS.one (LK.f .f64)] (wu [AV.flt .f64 wl, AV.flt .f64 wa, AV.int .i8 1])) <| ck (okM [RS.one (LK.f .f64)] (wu [AV.flt .f64 wl, AV.flt .f64 wj, AV.int .i8 1])) <| ck (okM [RS.one (LK.f .f64)] (wg [AV.flt .f64 (toF (getV (wu [AV.flt .f64 wl, AV.flt .f64 wa, AV.int .i8 1]))), AV.flt .f64 (toF (getV (wu [AV.flt .f64 wl, AV.flt .f64 wj, AV.int .i8 1])))])) <| ck (okM [RS.one (LK.f .f64)] (wg [AV.flt .f64 (toF (getV (wg [AV.flt .f64 (toF (getV (wu [AV.flt .f64 q9, AV.flt .f64 wa, AV.int .i8 1]))), AV.flt .f64 (toF (getV (wu [AV.flt .f64 q9, AV.flt .f64 wj, AV.int .i8 1])))]))), AV.flt .f64 (toF (getV (wg [AV.flt .f64 (toF (getV (wu [AV.flt .f64 wl, AV.flt .f64 wa, AV.int .i8 1]))), AV.flt .f64 (toF (getV (wu [AV.flt .f64 wl, AV.flt .f64 wj, AV.int .i8 1])))])))])) <| ck (okM [RS.one (LK.f .f64)] (wu [AV.flt .f64 q9, AV.flt .f64 wa, AV.int .i8 2])) <| ck (okM [RS.one (LK.f .f64)] (wu [AV.flt .f64 q9, AV.flt .f64 wj, AV.int .i8 2])) <| ck (okM [RS.one (LK.f .f64)] (q2 [AV.flt .f64 (toF (getV (wu [AV.flt .f64 q9, AV.flt .f64 wa, AV.int .i8 2]))), AV.flt .f64 (toF (getV (wu [AV.flt .f64 q9, AV.flt .f64 wj, AV.int .i8 2])))])) <| ck (okM [RS.one (LK.f .f64)] (wu [AV.flt .f64 wl, AV.flt .f64 wa, AV.int .i8 2])) <| ck (okM [RS.one (LK.f .f64)] (wu [AV.flt .f64 wl, AV.flt .f64 wj, AV.int .i8 2])) <| ck (okM [RS.one (LK.f .f64)] (q2 [AV.flt .f64 (toF (getV (wu [AV.flt .f64 wl, AV.flt .f64 wa, AV.int .i8 2]))), AV.flt .f64 (toF (getV (wu [AV.flt .f64 wl, AV.flt .f64 wj, AV.int .i8 2])))])) <| ck (okM [RS.one (LK.f .f64)] (q2 [AV.flt .f64 (toF (getV (q2 [AV.flt .f64 (toF (getV (wu [AV.flt .f64 q9, AV.flt .f64 wa, AV.int .i8 2]))), AV.flt .f64 (toF (getV (wu [AV.flt .f64 q9, AV.flt .f64 wj, AV.int .i8 2])))]))), AV.flt .f64 (toF (getV (q2 [AV.flt .f64 (toF (getV (wu [AV.flt .f64 wl, AV.flt .f64 wa, AV.int .i8 2]))), AV.flt .f64 (toF (getV (wu [AV.flt .f64 wl, AV.flt .f64 wj, AV.int .i8 2])))])))])) <| some (AV.tup [AV.agg [AV.flt .f64 (toF (getV (wg [AV.flt .f64 (toF (getV (wg [AV.flt .f64 (toF (getV (wu [AV.flt .f64 q9, AV.flt .f64 wa, AV.int .i8 1]))), AV.flt .f64 (toF (getV (wu [AV.flt .f64 q9, AV.flt .f64 wj, AV.int .i8 1])))]))), AV.flt .f64 (toF (getV (wg [AV.flt .f64 (toF (getV (wu [AV.flt .f64 wl, AV.flt .f64 wa, AV.int .i8 1]))), AV.flt .f64 (toF (getV (wu [AV.flt .f64 wl, AV.flt .f64 wj, AV.int .i8 1])))])))]))), AV.flt .f64 (toF (getV (q2 [AV.flt .f64 (toF (getV (q2 [AV.flt .f64 (toF (getV (wu [AV.flt .f64 q9, AV.flt .f64 wa, AV.int .i8 2]))), AV.flt .f64 (toF (getV (wu [AV.flt .f64 q9, AV.flt .f64 wj, AV.int .i8 2])))]))), AV.flt .f64 (toF (getV (q2 [AV.flt .f64 (toF (getV (wu [AV.flt .f64 wl, AV.flt .f64 wa, AV.int .i8 2]))), AV.flt .f64 (toF (getV (wu [AV.flt .f64 wl, AV.flt .f64 wj, AV.int .i8 2])))])))])))], AV.int .i64 0])
theorem gref05_Mul_run (wx wu : Mo) (wg q2 : Mo) (fuel : Nat) (q9 wl : Option Nat) (wa wj : Option Nat) : run Pr (Gref05_Mul wx wu wg q2) [((6, 64), Lref05_Mul wx wu wg q2 fuel)] fuel 7 64 [AV.agg [AV.flt .f64 q9, AV.flt .f64 wl], AV.agg [AV.flt .f64 wa, AV.flt .f64 wj]] = gref05_Mul wx wu wg q2 fuel q9 wl wa wj := by kernel_rfl
noncomputable def mref05_Mul (wx wu : Mo) (wg q2 : Mo) (fuel : Nat) (xs : List AV) : Option AV := match xs with
  | [AV.agg [AV.flt .f64 q9, AV.flt .f64 wl], AV.agg [AV.flt .f64 wa, AV.flt .f64 wj]] => gref05_Mul wx wu wg q2 fuel q9 wl wa wj
  | _ => none
abbrev Rref05_Mul : List RS := [RS.agg [LK.f .f64, LK.f .f64], RS.one (LK.i .i64)]
theorem gref05_Mul_sm (wx wu : Mo) (wg q2 : Mo) (fuel : Nat) (hΓ : GamOk Pr (Gref05_Mul wx wu wg q2)) (hP : NamesOk Pr) : SmOk Pr 64 (smM Rref05_Mul (mref05_Mul wx wu wg q2 fuel)) := by
  refine smM_ok (fuel := fuel) hΓ hP (LamOk.of 6 64 (Lref05_Mul wx wu wg q2 fuel) 0 (by kernel_rfl) (fun i hi => ?_)) 7 64 Rref05_Mul _ (fun xs v h => ?_)
  · match i, hi with
    | i + 0, hi => exact absurd hi (by omega)
  · unfold mref05_Mul at h
    split at h
    · exact (gref05_Mul_run wx wu wg q2 fuel _ _ _ _).trans h
    · cases h
noncomputable def Lref19_mul (y7 : Mo) (fuel : Nat) : Lam AV := []
noncomputable def Gref19_mul (y7 : Mo) : Gam := [(64, smM [RS.agg [LK.f .f64, LK.f .f64], RS.one (LK.i .i64)] y7)]
noncomputable def Cref19_mul (y7 : Mo) (fuel : Nat) : CallI AV := callX (Gref19_mul y7) (execFn Pr (Gref19_mul y7) [((6, 42), Lref19_mul y7 fuel)] fuel 6)
noncomputable def gref19_mul (y7 : Mo) (fuel : Nat) (q9 wl : Option Nat) (wa wj : Option Nat) : Option AV :=
  let r0 : Option AV := y7 [AV.agg [AV.flt .f64 q9, AV.flt .f64 wl], AV.agg [AV.flt .f64 wa, AV.flt .f64 wj]]; ck (okM [RS.agg [LK.f .f64, LK.f .f64], RS.one (LK.i .i64)] r0) <| some (AV.agg [AV.flt .f64 (toF ((toC ((toT (getV r0)).headD AV.dead)).headD AV.dead)), AV.flt .f64 (toF ((toC ((toT (getV r0)).headD AV.dead)).tail.headD AV.dead))])
theorem gref19_mul_run (y7 : Mo) (fuel : Nat) (q9 wl : Option Nat) (wa wj : Option Nat) : run Pr (Gref19_mul y7) [((6, 42), Lref19_mul y7 fuel)] fuel 7 42 [AV.agg [AV.flt .f64 q9, AV.flt .f64 wl], AV.agg [AV.flt .f64 wa, AV.flt .f64 wj]] = gref19_mul y7 fuel q9 wl wa wj := by kernel_rfl
noncomputable def mref19_mul (y7 : Mo) (fuel : Nat) (xs : List AV) : Option AV := match xs with
  | [AV.agg [AV.flt .f64 q9, AV.flt .f64 wl], AV.agg [AV.flt .f64 wa, AV.flt .f64 wj]] => gref19_mul y7 fuel q9 wl wa wj
  | _ => none
abbrev Rref19_mul : List RS := [RS.agg [LK.f .f64, LK.f .f64]]
theorem gref19_mul_sm (y7 : Mo) (fuel : Nat) (hΓ : GamOk Pr (Gref19_mul y7)) (hP : NamesOk Pr) : SmOk Pr 42 (smM Rref19_mul (mref19_mul y7 fuel)) := by
  refine smM_ok (fuel := fuel) hΓ hP (LamOk.of 6 42 (Lref19_mul y7 fuel) 0 (by kernel_rfl) (fun i hi => ?_)) 7 42 Rref19_mul _ (fun xs v h => ?_)
  · match i, hi with
    | i + 0, hi => exact absurd hi (by omega)
  · unfold mref19_mul at h
    split at h
    · exact (gref19_mul_run y7 fuel _ _ _ _).trans h
    · cases h
noncomputable def Lref03_Div (qr zf : Mo) (qt q3 : Mo) (q8 q0 : Mo) (we qs : Mo) (fuel : Nat) : Lam AV := []
noncomputable def Gref03_Div (qr zf : Mo) (qt q3 : Mo) (q8 q0 : Mo) (we qs : Mo) : Gam := [(83, smM [RS.one LK.b] qr), (143, smM [RS.one (LK.f .f64)] zf), (84, smM [RS.one LK.b] qt), (86, smM [RS.one (LK.i .i64)] q3), (85, smM [RS.one (LK.f .f64)] q8), (88, smM [RS.agg [LK.b, LK.l (nat_lit 1), LK.i .i64]] q0), (89, smM [RS.agg [LK.b, LK.l (nat_lit 1), LK.i .i64]] we), (87, smM [RS.one (LK.i .i64)] qs), (71, Go.Am.sFma)]
noncomputable def Cref03_Div (qr zf : Mo) (qt q3 : Mo) (q8 q0 : Mo) (we qs : Mo) (fuel : Nat) : CallI AV := callX (Gref03_Div qr zf qt q3 q8 q0 we qs) (execFn Pr (Gref03_Div qr zf qt q3 q8 q0 we qs) [((6, 116), Lref03_Div qr zf qt q3 q8 q0 we qs fuel)] fuel 6)
noncomputable def gref03_Div (qr zf : Mo) (qt q3 : Mo) (q8 q0 : Mo) (we qs : Mo) (fuel : Nat) (ua0 ub1 : Option Nat) (um2 : Int) : Option AV :=
  ck (okM [RS.one LK.b] (qr [AV.flt .f64 ua0])) <| ck (bif !!toB (getV (qr [AV.flt .f64 ua0])) then okM [RS.one LK.b] (qr [AV.flt .f64 ub1]) else true) <| bif bif bif bif !toB (getV (qr [AV.flt .f64 ua0])) then true else !toB (getV (qr [AV.flt .f64 ub1])) then true else ford .f64 ua0 (some 0) == some Ordering.eq then true else ford .f64 ub1 (some 0) == some Ordering.eq then some (AV.flt .f64 (farith BinOp.quo .f64 ua0 ub1))
  else ck (okM [RS.one LK.b] (qr [AV.flt .f64 (farith BinOp.quo .f64 ua0 ub1)])) <| bif !toB (getV (qr [AV.flt .f64 (farith BinOp.quo .f64 ua0 ub1)])) then ck (okM [RS.one (LK.f .f64)] (zf [AV.flt .f64 (farith BinOp.quo .f64 ua0 ub1), AV.int .i8 um2])) <| some (AV.flt .f64 (toF (getV (zf [AV.flt .f64 (farith BinOp.quo .f64 ua0 ub1), AV.int .i8 um2]))))
  else ck (okM [RS.one LK.b] (qt [AV.flt .f64 ua0])) <| ck (bif toB (getV (qt [AV.flt .f64 ua0])) then okM [RS.one LK.b] (qt [AV.flt .f64 ub1]) else true) <| ck (bif bif toB (getV (qt [AV.flt .f64 ua0])) then toB (getV (qt [AV.flt .f64 ub1])) else false then okM [RS.one LK.b] (qt [AV.flt .f64 (farith BinOp.quo .f64 ua0 ub1)]) else true) <| bif bif bif toB (getV (qt [AV.flt .f64 ua0])) then toB (getV (qt [AV.flt .f64 ub1])) else false then toB (getV (qt [AV.flt .f64 (farith BinOp.quo .f64 ua0 ub1)])) else false then ck (sFma.ok [AV.flt .f64 (Option.map (Op.negFloat .f64) (farith BinOp.quo .f64 ua0 ub1)), AV.flt .f64 ub1, AV.flt .f64 ua0]) <| ck (okM [RS.one (LK.i .i64)] (q3 [AV.flt .f64 ((Option.map (Op.negFloat .f64) (farith BinOp.quo .f64 ua0 ub1)).bind fun (x : Nat) => ub1.bind fun (y : Nat) => ua0.bind fun (z : Nat) => FloatKind.f64.format.fma x y z)])) <| ck (okM [RS.one (LK.i .i64)] (q3 [AV.flt .f64 ub1])) <| ck (okM [RS.one (LK.f .f64)] (q8 [AV.flt .f64 (farith BinOp.quo .f64 ua0 ub1), AV.int .i64 (IntKind.i64.wrap (toI (getV (q3 [AV.flt .f64 ((Option.map (Op.negFloat .f64) (farith BinOp.quo .f64 ua0 ub1)).bind fun (x : Nat) => ub1.bind fun (y : Nat) => ua0.bind fun (z : Nat) => FloatKind.f64.format.fma x y z)])) * toI (getV (q3 [AV.flt .f64 ub1])))), AV.int .i8 um2])) <| some (AV.flt .f64 (toF (getV (q8 [AV.flt .f64 (farith BinOp.quo .f64 ua0 ub1), AV.int .i64 (IntKind.i64.wrap (toI (getV (q3 [AV.flt .f64 ((Option.map (Op.negFloat .f64) (farith BinOp.quo .f64 ua0 ub1)).bind fun (x : Nat) => ub1.bind fun (y : Nat) => ua0.bind fun (z : Nat) => FloatKind.f64.format.fma x y z)])) * toI (getV (q3 [AV.flt .f64 ub1])))), AV.int .i8 um2]))))
  else let r0 : Option AV := q0 [AV.flt .f64 ua0]; ck (okM [RS.agg [LK.b, LK.l 1, LK.i .i64]] r0) <| let r1 : Option AV := q0 [AV.flt .f64 (farith BinOp.quo .f64 ua0 ub1)]; ck (okM [RS.agg [LK.b, LK.l 1, LK.i .i64]] r1) <| let r2 : Option AV := q0 [AV.flt .f64 ub1]; ck (okM [RS.agg [LK.b, LK.l 1, LK.i .i64]] r2) <| let r3 : Option AV := we [AV.agg [AV.bool (toB ((toC (getV r1)).headD AV.dead)), AV.ro 1 (toN ((toC (getV r1)).tail.headD AV.dead)) (toR ((toC (getV r1)).tail.headD AV.dead)) (toG ((toC (getV r1)).tail.headD AV.dead)), AV.int .i64 (toI ((toC (getV r1)).tail.tail.headD AV.dead))], AV.agg [AV.bool (toB ((toC (getV r2)).headD AV.dead)), AV.ro 1 (toN ((toC (getV r2)).tail.headD AV.dead)) (toR ((toC (getV r2)).tail.headD AV.dead)) (toG ((toC (getV r2)).tail.headD AV.dead)), AV.int .i64 (toI ((toC (getV r2)).tail.tail.headD AV.dead))]]; ck (okM [RS.agg [LK.b, LK.l 1, LK.i .i64]] r3) <| ck (okM [RS.one (LK.i .i64)] (qs [AV.agg [AV.bool (toB ((toC (getV r0)).headD AV.dead)), AV.ro 1 (toN ((toC (getV r0)).tail.headD AV.dead)) (toR ((toC (getV r0)).tail.headD AV.dead)) (toG ((toC (getV r0)).tail.headD AV.dead)), AV.int .i64 (toI ((toC (getV r0)).tail.tail.headD AV.dead))], AV.agg [AV.bool (toB ((toC (getV r3)).headD AV.dead)), AV.ro 1 (toN ((toC (getV r3)).tail.headD AV.dead)) (toR ((toC (getV r3)).tail.headD AV.dead)) (toG ((toC (getV r3)).tail.headD AV.dead)), AV.int .i64 (toI ((toC (getV r3)).tail.tail.headD AV.dead))]])) <| ck (okM [RS.one (LK.i .i64)] (q3 [AV.flt .f64 ub1])) <| ck (okM [RS.one (LK.f .f64)] (q8 [AV.flt .f64 (farith BinOp.quo .f64 ua0 ub1), AV.int .i64 (IntKind.i64.wrap (toI (getV (qs [AV.agg [AV.bool (toB ((toC (getV r0)).headD AV.dead)), AV.ro 1 (toN ((toC (getV r0)).tail.headD AV.dead)) (toR ((toC (getV r0)).tail.headD AV.dead)) (toG ((toC (getV r0)).tail.headD AV.dead)), AV.int .i64 (toI ((toC (getV r0)).tail.tail.headD AV.dead))], AV.agg [AV.bool (toB ((toC (getV r3)).headD AV.dead)), AV.ro 1 (toN ((toC (getV r3)).tail.headD AV.dead)) (toR ((toC (getV r3)).tail.headD AV.dead)) (toG ((toC (getV r3)).tail.headD AV.dead)), AV.int .i64 (toI ((toC (getV r3)).tail.tail.headD AV.dead))]])) * toI (getV (q3 [AV.flt .f64 ub1])))), AV.int .i8 um2])) <| some (AV.flt .f64 (toF (getV (q8 [AV.flt .f64 (farith BinOp.quo .f64 ua0 ub1), AV.int .i64 (IntKind.i64.wrap (toI (getV (qs [AV.agg [AV.bool (toB ((toC (getV r0)).headD AV.dead)), AV.ro 1 (toN ((toC (getV r0)).tail.headD AV.dead)) (toR ((toC (getV r0)).tail.headD AV.dead)) (toG ((toC (getV r0)).tail.headD AV.dead)), AV.int .i64 (toI ((toC (getV r0)).tail.tail.headD AV.dead))], AV.agg [AV.bool (toB ((toC (getV r3)).headD AV.dead)), AV.ro 1 (toN ((toC (getV r3)).tail.headD AV.dead)) (toR ((toC (getV r3)).tail.headD AV.dead)) (toG ((toC (getV r3)).tail.headD AV.dead)), AV.int .i64 (toI ((toC (getV r3)).tail.tail.headD AV.dead))]])) * toI (getV (q3 [AV.flt .f64 ub1])))), AV.int .i8 um2]))))
theorem gref03_Div_run (qr zf : Mo) (qt q3 : Mo) (q8 q0 : Mo) (we qs : Mo) (fuel : Nat) (ua0 ub1 : Option Nat) (um2 : Int) : run Pr (Gref03_Div qr zf qt q3 q8 q0 we qs) [((6, 116), Lref03_Div qr zf qt q3 q8 q0 we qs fuel)] fuel 7 116 [AV.flt .f64 ua0, AV.flt .f64 ub1, AV.int .i8 um2] = gref03_Div qr zf qt q3 q8 q0 we qs fuel ua0 ub1 um2 := by kernel_rfl
noncomputable def mref03_Div (qr zf : Mo) (qt q3 : Mo) (q8 q0 : Mo) (we qs : Mo) (fuel : Nat) (xs : List AV) : Option AV := match xs with
  | [AV.flt .f64 ua0, AV.flt .f64 ub1, AV.int .i8 um2] => gref03_Div qr zf qt q3 q8 q0 we qs fuel ua0 ub1 um2
  | _ => none
abbrev Rref03_Div : List RS := [RS.one (LK.f .f64)]
theorem gref03_Div_sm (qr zf : Mo) (qt q3 : Mo) (q8 q0 : Mo) (we qs : Mo) (fuel : Nat) (hΓ : GamOk Pr (Gref03_Div qr zf qt q3 q8 q0 we qs)) (hP : NamesOk Pr) : SmOk Pr 116 (smM Rref03_Div (mref03_Div qr zf qt q3 q8 q0 we qs fuel)) := by
  refine smM_ok (fuel := fuel) hΓ hP (LamOk.of 6 116 (Lref03_Div qr zf qt q3 q8 q0 we qs fuel) 0 (by kernel_rfl) (fun i hi => ?_)) 7 116 Rref03_Div _ (fun xs v h => ?_)
  · match i, hi with
    | i + 0, hi => exact absurd hi (by omega)
  · unfold mref03_Div at h
    split at h
    · exact (gref03_Div_run qr zf qt q3 q8 q0 we qs fuel _ _ _).trans h
    · cases h
noncomputable def Lref05_over (qp yv : Mo) (fuel : Nat) : Lam AV := []
noncomputable def Gref05_over (qp yv : Mo) : Gam := [(114, smM [RS.one LK.b] qp), (116, smM [RS.one (LK.f .f64)] yv)]
noncomputable def Cref05_over (qp yv : Mo) (fuel : Nat) : CallI AV := callX (Gref05_over qp yv) (execFn Pr (Gref05_over qp yv) [((6, 92), Lref05_over qp yv fuel)] fuel 6)
noncomputable def gref05_over (qp yv : Mo) (fuel : Nat) (ux0 uy1 : Option Nat) (um2 : Int) : Option AV :=
  ck (okM [RS.one LK.b] (qp [AV.flt .f64 ux0])) <| ck (bif !toB (getV (qp [AV.flt .f64 ux0])) then okM [RS.one LK.b] (qp [AV.flt .f64 uy1]) else true) <| bif bif !toB (getV (qp [AV.flt .f64 ux0])) then !toB (getV (qp [AV.flt .f64 uy1])) else false then some (AV.flt .f64 (some 0))
  else ck (okM [RS.one (LK.f .f64)] (yv [AV.flt .f64 ux0, AV.flt .f64 uy1, AV.int .i8 um2])) <| some (AV.flt .f64 (toF (getV (yv [AV.flt .f64 ux0, AV.flt .f64 uy1, AV.int .i8 um2]))))
theorem gref05_over_run (qp yv : Mo) (fuel : Nat) (ux0 uy1 : Option Nat) (um2 : Int) : run Pr (Gref05_over qp yv) [((6, 92), Lref05_over qp yv fuel)] fuel 7 92 [AV.flt .f64 ux0, AV.flt .f64 uy1, AV.int .i8 um2] = gref05_over qp yv fuel ux0 uy1 um2 := by kernel_rfl
noncomputable def mref05_over (qp yv : Mo) (fuel : Nat) (xs : List AV) : Option AV := match xs with
  | [AV.flt .f64 ux0, AV.flt .f64 uy1, AV.int .i8 um2] => gref05_over qp yv fuel ux0 uy1 um2
  | _ => none
abbrev Rref05_over : List RS := [RS.one (LK.f .f64)]
theorem gref05_over_sm (qp yv : Mo) (fuel : Nat) (hΓ : GamOk Pr (Gref05_over qp yv)) (hP : NamesOk Pr) : SmOk Pr 92 (smM Rref05_over (mref05_over qp yv fuel)) := by
  refine smM_ok (fuel := fuel) hΓ hP (LamOk.of 6 92 (Lref05_over qp yv fuel) 0 (by kernel_rfl) (fun i hi => ?_)) 7 92 Rref05_over _ (fun xs v h => ?_)
  · match i, hi with
    | i + 0, hi => exact absurd hi (by omega)
  · unfold mref05_over at h
    split at h
    · exact (gref05_over_run qp yv fuel _ _ _).trans h
    · cases h
noncomputable def Lref05_Div (wx w9 : Mo) (wg q2 : Mo) (fuel : Nat) : Lam AV := []
noncomputable def Gref05_Div (wx w9 : Mo) (wg q2 : Mo) : Gam := [(90, smM [RS.one LK.b] wx), (92, smM [RS.one (LK.f .f64)] w9), (91, smM [RS.one (LK.f .f64)] wg), (93, smM [RS.one (LK.f .f64)] q2)]
noncomputable def Cref05_Div (wx w9 : Mo) (wg q2 : Mo) (fuel : Nat) : CallI AV := callX (Gref05_Div wx w9 wg q2) (execFn Pr (Gref05_Div wx w9 wg q2) [((6, 63), Lref05_Div wx w9 wg q2 fuel)] fuel 6)
noncomputable def gref05_Div (wx w9 : Mo) (wg q2 : Mo) (fuel : Nat) (q9 wl : Option Nat) (wa wj : Option Nat) : Option AV :=
  ck (okM [RS.one LK.b] (wx [AV.agg [AV.flt .f64 q9, AV.flt .f64 wl]])) <| ck (bif !!toB (getV (wx [AV.agg [AV.flt .f64 q9, AV.flt .f64 wl]])) then true else true) <| ck (bif !!toB (getV (wx [AV.agg [AV.flt .f64 q9, AV.flt .f64 wl]])) then okM [RS.one LK.b] (wx [AV.agg [AV.flt .f64 wa, AV.flt .f64 wj]]) else true) <| bif bif !toB (getV (wx [AV.agg [AV.flt .f64 q9, AV.flt .f64 wl]])) then true else !toB (getV (wx [AV.agg [AV.flt .f64 wa, AV.flt .f64 wj]])) then some (AV.tup [AV.agg [AV.flt .f64 (some 0), AV.flt .f64 (some 0)], AV.int .i64 2])
  else ck (bif ford .f64 wa (some 0) == some Ordering.lt || ford .f64 wa (some 0) == some Ordering.eq then true else true) <| bif bif ford .f64 wa (some 0) == some Ordering.lt || ford .f64 wa (some 0) == some Ordering.eq then ford .f64 wj (some 0) == some Ordering.gt || ford .f64 wj (some 0) == some Ordering.eq else false then some (AV.tup [AV.agg [AV.flt .f64 (some 0), AV.flt .f64 (some 0)], AV.int .i64 7])
  else ck (okM [RS.one (LK.f .f64)] (w9 [AV.flt .f64 q9, AV.flt .f64 wa, AV.int .i8 1])) <| ck (okM [RS.one (LK.f .f64)] (w9 [AV.flt .f64 q9, AV.flt .f64 wj, AV.int .i8 1])) <| ck (okM [RS.one (LK.f .f64)] (wg [AV.flt .f64 (toF (getV (w9 [AV.flt .f64 q9, AV.flt .f64 wa, AV.int .i8 1]))), AV.flt .f64 (toF (getV (w9 [AV.flt .f64 q9, AV.flt .f64 wj, AV.int .i8 1])))])) <| ck (okM [RS.one (LK.f .f64)] (w9 [AV.flt .f64 wl, AV.flt .f64 wa, AV.int .i8 1])) <| ck (okM [RS.one (LK.f .f64)] (w9 [AV.flt .f64 wl, AV.flt .f64 wj, AV.int .i8 1])) <| ck (okM [RS.one (LK.f .f64)] (wg [AV.flt .f64 (toF (getV (w9 [AV.flt .f64 wl, AV.flt .f64 wa, AV.int .i8 1]))), AV.flt .f64 (toF (getV (w9 [AV.flt .f64 wl, AV.flt .f64 wj, AV.int .i8 1])))])) <| ck (okM [RS.one (LK.f .f64)] (wg [AV.flt .f64 (toF (getV (wg [AV.flt .f64 (toF (getV (w9 [AV.flt .f64 q9, AV.flt .f64 wa, AV.int .i8 1]))), AV.flt .f64 (toF (getV (w9 [AV.flt .f64 q9, AV.flt .f64 wj, AV.int .i8 1])))]))), AV.flt .f64 (toF (getV (wg [AV.flt .f64 (toF (getV (w9 [AV.flt .f64 wl, AV.flt .f64 wa, AV.int .i8 1]))), AV.flt .f64 (toF (getV (w9 [AV.flt .f64 wl, AV.flt .f64 wj, AV.int .i8 1])))])))])) <| ck (okM [RS.one (LK.f .f64)] (w9 [AV.flt .f64 q9, AV.flt .f64 wa, AV.int .i8 2])) <| ck (okM [RS.one (LK.f .f64)] (w9 [AV.flt .f64 q9, AV.flt .f64 wj, AV.int .i8 2])) <| ck (okM [RS.one (LK.f .f64)] (q2 [AV.flt .f64 (toF (getV (w9 [AV.flt .f64 q9, AV.flt .f64 wa, AV.int .i8 2]))), AV.flt .f64 (toF (getV (w9 [AV.flt .f64 q9, AV.flt .f64 wj, AV.int .i8 2])))])) <| ck (okM [RS.one (LK.f .f64)] (w9 [AV.flt .f64 wl, AV.flt .f64 wa, AV.int .i8 2])) <| ck (okM [RS.one (LK.f .f64)] (w9 [AV.flt .f64 wl, AV.flt .f64 wj, AV.int .i8 2])) <| ck (okM [RS.one (LK.f .f64)] (q2 [AV.flt .f64 (toF (getV (w9 [AV.flt .f64 wl, AV.flt .f64 wa, AV.int .i8 2]))), AV.flt .f64 (toF (getV (w9 [AV.flt .f64 wl, AV.flt .f64 wj, AV.int .i8 2])))])) <| ck (okM [RS.one (LK.f .f64)] (q2 [AV.flt .f64 (toF (getV (q2 [AV.flt .f64 (toF (getV (w9 [AV.flt .f64 q9, AV.flt .f64 wa, AV.int .i8 2]))), AV.flt .f64 (toF (getV (w9 [AV.flt .f64 q9, AV.flt .f64 wj, AV.int .i8 2])))]))), AV.flt .f64 (toF (getV (q2 [AV.flt .f64 (toF (getV (w9 [AV.flt .f64 wl, AV.flt .f64 wa, AV.int .i8 2]))), AV.flt .f64 (toF (getV (w9 [AV.flt .f64 wl, AV.flt .f64 wj, AV.int .i8 2])))])))])) <| some (AV.tup [AV.agg [AV.flt .f64 (toF (getV (wg [AV.flt .f64 (toF (getV (wg [AV.flt .f64 (toF (getV (w9 [AV.flt .f64 q9, AV.flt .f64 wa, AV.int .i8 1]))), AV.flt .f64 (toF (getV (w9 [AV.flt .f64 q9, AV.flt .f64 wj, AV.int .i8 1])))]))), AV.flt .f64 (toF (getV (wg [AV.flt .f64 (toF (getV (w9 [AV.flt .f64 wl, AV.flt .f64 wa, AV.int .i8 1]))), AV.flt .f64 (toF (getV (w9 [AV.flt .f64 wl, AV.flt .f64 wj, AV.int .i8 1])))])))]))), AV.flt .f64 (toF (getV (q2 [AV.flt .f64 (toF (getV (q2 [AV.flt .f64 (toF (getV (w9 [AV.flt .f64 q9, AV.flt .f64 wa, AV.int .i8 2]))), AV.flt .f64 (toF (getV (w9 [AV.flt .f64 q9, AV.flt .f64 wj, AV.int .i8 2])))]))), AV.flt .f64 (toF (getV (q2 [AV.flt .f64 (toF (getV (w9 [AV.flt .f64 wl, AV.flt .f64 wa, AV.int .i8 2]))), AV.flt .f64 (toF (getV (w9 [AV.flt .f64 wl, AV.flt .f64 wj, AV.int .i8 2])))])))])))], AV.int .i64 0])
theorem gref05_Div_run (wx w9 : Mo) (wg q2 : Mo) (fuel : Nat) (q9 wl : Option Nat) (wa wj : Option Nat) : run Pr (Gref05_Div wx w9 wg q2) [((6, 63), Lref05_Div wx w9 wg q2 fuel)] fuel 7 63 [AV.agg [AV.flt .f64 q9, AV.flt .f64 wl], AV.agg [AV.flt .f64 wa, AV.flt .f64 wj]] = gref05_Div wx w9 wg q2 fuel q9 wl wa wj := by kernel_rfl
noncomputable def mref05_Div (wx w9 : Mo) (wg q2 : Mo) (fuel : Nat) (xs : List AV) : Option AV := match xs with
  | [AV.agg [AV.flt .f64 q9, AV.flt .f64 wl], AV.agg [AV.flt .f64 wa, AV.flt .f64 wj]] => gref05_Div wx w9 wg q2 fuel q9 wl wa wj
  | _ => none
abbrev Rref05_Div : List RS := [RS.agg [LK.f .f64, LK.f .f64], RS.one (LK.i .i64)]
theorem gref05_Div_sm (wx w9 : Mo) (wg q2 : Mo) (fuel : Nat) (hΓ : GamOk Pr (Gref05_Div wx w9 wg q2)) (hP : NamesOk Pr) : SmOk Pr 63 (smM Rref05_Div (mref05_Div wx w9 wg q2 fuel)) := by
  refine smM_ok (fuel := fuel) hΓ hP (LamOk.of 6 63 (Lref05_Div wx w9 wg q2 fuel) 0 (by kernel_rfl) (fun i hi => ?_)) 7 63 Rref05_Div _ (fun xs v h => ?_)
  · match i, hi with
    | i + 0, hi => exact absurd hi (by omega)
  · unfold mref05_Div at h
    split at h
    · exact (gref05_Div_run wx w9 wg q2 fuel _ _ _ _).trans h
    · cases h
noncomputable def Lref19_div (y6 : Mo) (fuel : Nat) : Lam AV := []
noncomputable def Gref19_div (y6 : Mo) : Gam := [(63, smM [RS.agg [LK.f .f64, LK.f .f64], RS.one (LK.i .i64)] y6)]
noncomputable def Cref19_div (y6 : Mo) (fuel : Nat) : CallI AV := callX (Gref19_div y6) (execFn Pr (Gref19_div y6) [((6, 41), Lref19_div y6 fuel)] fuel 6)
noncomputable def gref19_div (y6 : Mo) (fuel : Nat) (q9 wl : Option Nat) (wa wj : Option Nat) : Option AV :=
  let r0 : Option AV := y6 [AV.agg [AV.flt .f64 q9, AV.flt .f64 wl], AV.agg [AV.flt .f64 wa, AV.flt .f64 wj]]; ck (okM [RS.agg [LK.f .f64, LK.f .f64], RS.one (LK.i .i64)] r0) <| some (AV.agg [AV.flt .f64 (toF ((toC ((toT (getV r0)).headD AV.dead)).headD AV.dead)), AV.flt .f64 (toF ((toC ((toT (getV r0)).headD AV.dead)).tail.headD AV.dead))])
theorem gref19_div_run (y6 : Mo) (fuel : Nat) (q9 wl : Option Nat) (wa wj : Option Nat) : run Pr (Gref19_div y6) [((6, 41), Lref19_div y6 fuel)] fuel 7 41 [AV.agg [AV.flt .f64 q9, AV.flt .f64 wl], AV.agg [AV.flt .f64 wa, AV.flt .f64 wj]] = gref19_div y6 fuel q9 wl wa wj := by kernel_rfl
noncomputable def mref19_div (y6 : Mo) (fuel : Nat) (xs : List AV) : Option AV := match xs with
  | [AV.agg [AV.flt .f64 q9, AV.flt .f64 wl], AV.agg [AV.flt .f64 wa, AV.flt .f64 wj]] => gref19_div y6 fuel q9 wl wa wj
  | _ => none
abbrev Rref19_div : List RS := [RS.agg [LK.f .f64, LK.f .f64]]
theorem gref19_div_sm (y6 : Mo) (fuel : Nat) (hΓ : GamOk Pr (Gref19_div y6)) (hP : NamesOk Pr) : SmOk Pr 41 (smM Rref19_div (mref19_div y6 fuel)) := by
  refine smM_ok (fuel := fuel) hΓ hP (LamOk.of 6 41 (Lref19_div y6 fuel) 0 (by kernel_rfl) (fun i hi => ?_)) 7 41 Rref19_div _ (fun xs v h => ?_)
  · match i, hi with
    | i + 0, hi => exact absurd hi (by omega)
  · unfold mref19_div at h
    split at h
    · exact (gref19_div_run y6 fuel _ _ _ _).trans h
    · cases h
noncomputable def Lref19_stiff (ya yh : Mo) (yg yr : Mo) (fuel : Nat) : Lam AV := []
noncomputable def Gref19_stiff (ya yh : Mo) (yg yr : Mo) : Gam := [(39, smM [RS.agg [LK.f .f64, LK.f .f64], RS.one (LK.f .f64)] ya), (40, smM [RS.agg [LK.f .f64, LK.f .f64]] yh), (42, smM [RS.agg [LK.f .f64, LK.f .f64]] yg), (41, smM [RS.agg [LK.f .f64, LK.f .f64]] yr)]
noncomputable def Cref19_stiff (ya yh : Mo) (yg yr : Mo) (fuel : Nat) : CallI AV := callX (Gref19_stiff ya yh yg yr) (execFn Pr (Gref19_stiff ya yh yg yr) [((6, 17), Lref19_stiff ya yh yg yr fuel)] fuel 6)
noncomputable def gref19_stiff (ya yh : Mo) (yg yr : Mo) (fuel : Nat) (qb8 : ByteArray) (qak qbv qcc : Int) (qam qa5 : Bool) (qbm qb3 qa3 : Option Nat) (l21 qh6 : Int) : Option AV :=
  let r0 : Option AV := ya [AV.int .i64 l21]; ck (okM [RS.agg [LK.f .f64, LK.f .f64], RS.one (LK.f .f64)] r0) <| let r1 : Option AV := yh [AV.flt .f64 qbm]; ck (okM [RS.agg [LK.f .f64, LK.f .f64]] r1) <| let r2 : Option AV := yh [AV.flt .f64 qb3]; ck (okM [RS.agg [LK.f .f64, LK.f .f64]] r2) <| let r3 : Option AV := yh [AV.flt .f64 qa3]; ck (okM [RS.agg [LK.f .f64, LK.f .f64]] r3) <| bif qh6 == 1 then let r4 : Option AV := yg [AV.agg [AV.flt .f64 (toF ((toC (getV r1)).headD AV.dead)), AV.flt .f64 (toF ((toC (getV r1)).tail.headD AV.dead))], AV.agg [AV.flt .f64 (toF ((toC (getV r2)).headD AV.dead)), AV.flt .f64 (toF ((toC (getV r2)).tail.headD AV.dead))]]; ck (okM [RS.agg [LK.f .f64, LK.f .f64]] r4) <| let r5 : Option AV := yh [AV.flt .f64 (some (FloatKind.f64.nearest l21))]; ck (okM [RS.agg [LK.f .f64, LK.f .f64]] r5) <| let r6 : Option AV := yg [AV.agg [AV.flt .f64 (toF ((toC (getV r5)).headD AV.dead)), AV.flt .f64 (toF ((toC (getV r5)).tail.headD AV.dead))], AV.agg [AV.flt .f64 (toF ((toC ((toT (getV r0)).headD AV.dead)).headD AV.dead)), AV.flt .f64 (toF ((toC ((toT (getV r0)).headD AV.dead)).tail.headD AV.dead))]]; ck (okM [RS.agg [LK.f .f64, LK.f .f64]] r6) <| let r7 : Option AV := yr [AV.agg [AV.flt .f64 (toF ((toC (getV r4)).headD AV.dead)), AV.flt .f64 (toF ((toC (getV r4)).tail.headD AV.dead))], AV.agg [AV.flt .f64 (toF ((toC (getV r6)).headD AV.dead)), AV.flt .f64 (toF ((toC (getV r6)).tail.headD AV.dead))]]; ck (okM [RS.agg [LK.f .f64, LK.f .f64]] r7) <| some (AV.tup [AV.agg [AV.flt .f64 (toF ((toC (getV r7)).headD AV.dead)), AV.flt .f64 (toF ((toC (getV r7)).tail.headD AV.dead))], AV.flt .f64 (farith BinOp.quo .f64 (farith BinOp.mul .f64 qbm qb3) (farith BinOp.mul .f64 (some (FloatKind.f64.nearest l21)) (toF ((toT (getV r0)).tail.headD AV.dead))))])
  else bif qh6 == 3 then let r8 : Option AV := yg [AV.agg [AV.flt .f64 (toF ((toC (getV r1)).headD AV.dead)), AV.flt .f64 (toF ((toC (getV r1)).tail.headD AV.dead))], AV.agg [AV.flt .f64 (toF ((toC (getV r3)).headD AV.dead)), AV.flt .f64 (toF ((toC (getV r3)).tail.headD AV.dead))]]; ck (okM [RS.agg [LK.f .f64, LK.f .f64]] r8) <| let r9 : Option AV := yr [AV.agg [AV.flt .f64 (toF ((toC (getV r8)).headD AV.dead)), AV.flt .f64 (toF ((toC (getV r8)).tail.headD AV.dead))], AV.agg [AV.flt .f64 (toF ((toC ((toT (getV r0)).headD AV.dead)).headD AV.dead)), AV.flt .f64 (toF ((toC ((toT (getV r0)).headD AV.dead)).tail.headD AV.dead))]]; ck (okM [RS.agg [LK.f .f64, LK.f .f64]] r9) <| some (AV.tup [AV.agg [AV.flt .f64 (toF ((toC (getV r9)).headD AV.dead)), AV.flt .f64 (toF ((toC (getV r9)).tail.headD AV.dead))], AV.flt .f64 (farith BinOp.quo .f64 (farith BinOp.mul .f64 qbm qa3) (toF ((toT (getV r0)).tail.headD AV.dead)))])
  else let r10 : Option AV := yh [AV.flt .f64 (some 4613937818241073152)]; ck (okM [RS.agg [LK.f .f64, LK.f .f64]] r10) <| let r11 : Option AV := yg [AV.agg [AV.flt .f64 (toF ((toC (getV r1)).headD AV.dead)), AV.flt .f64 (toF ((toC (getV r1)).tail.headD AV.dead))], AV.agg [AV.flt .f64 (toF ((toC (getV r3)).headD AV.dead)), AV.flt .f64 (toF ((toC (getV r3)).tail.headD AV.dead))]]; ck (okM [RS.agg [LK.f .f64, LK.f .f64]] r11) <| let r12 : Option AV := yg [AV.agg [AV.flt .f64 (toF ((toC (getV r10)).headD AV.dead)), AV.flt .f64 (toF ((toC (getV r10)).tail.headD AV.dead))], AV.agg [AV.flt .f64 (toF ((toC (getV r11)).headD AV.dead)), AV.flt .f64 (toF ((toC (getV r11)).tail.headD AV.dead))]]; ck (okM [RS.agg [LK.f .f64, LK.f .f64]] r12) <| let r13 : Option AV := yh [AV.flt .f64 (some (FloatKind.f64.nearest l21))]; ck (okM [RS.agg [LK.f .f64, LK.f .f64]] r13) <| let r14 : Option AV := yh [AV.flt .f64 (some (FloatKind.f64.nearest l21))]; ck (okM [RS.agg [LK.f .f64, LK.f .f64]] r14) <| let r15 : Option AV := yg [AV.agg [AV.flt .f64 (toF ((toC (getV r13)).headD AV.dead)), AV.flt .f64 (toF ((toC (getV r13)).tail.headD AV.dead))], AV.agg [AV.flt .f64 (toF ((toC (getV r14)).headD AV.dead)), AV.flt .f64 (toF ((toC (getV r14)).tail.headD AV.dead))]]; ck (okM [RS.agg [LK.f .f64, LK.f .f64]] r15) <| let r16 : Option AV := yg [AV.agg [AV.flt .f64 (toF ((toC (getV r15)).headD AV.dead)), AV.flt .f64 (toF ((toC (getV r15)).tail.headD AV.dead))], AV.agg [AV.flt .f64 (toF ((toC ((toT (getV r0)).headD AV.dead)).headD AV.dead)), AV.flt .f64 (toF ((toC ((toT (getV r0)).headD AV.dead)).tail.headD AV.dead))]]; ck (okM [RS.agg [LK.f .f64, LK.f .f64]] r16) <| let r17 : Option AV := yr [AV.agg [AV.flt .f64 (toF ((toC (getV r12)).headD AV.dead)), AV.flt .f64 (toF ((toC (getV r12)).tail.headD AV.dead))], AV.agg [AV.flt .f64 (toF ((toC (getV r16)).headD AV.dead)), AV.flt .f64 (toF ((toC (getV r16)).tail.headD AV.dead))]]; ck (okM [RS.agg [LK.f .f64, LK.f .f64]] r17) <| some (AV.tup [AV.agg [AV.flt .f64 (toF ((toC (getV r17)).headD AV.dead)), AV.flt .f64 (toF ((toC (getV r17)).tail.headD AV.dead))], AV.flt .f64 (farith BinOp.quo .f64 (farith BinOp.mul .f64 (some 4613937818241073152) (farith BinOp.mul .f64 qbm qa3)) (farith BinOp.mul .f64 (farith BinOp.mul .f64 (some (FloatKind.f64.nearest l21)) (some (FloatKind.f64.nearest l21))) (toF ((toT (getV r0)).tail.headD AV.dead))))])
theorem gref19_stiff_run (ya yh : Mo) (yg yr : Mo) (fuel : Nat) (qb8 : ByteArray) (qak qbv qcc : Int) (qam qa5 : Bool) (qbm qb3 qa3 : Option Nat) (l21 qh6 : Int) : run Pr (Gref19_stiff ya yh yg yr) [((6, 17), Lref19_stiff ya yh yg yr fuel)] fuel 7 17 [AV.agg [AV.str qb8, AV.int .u8 qak, AV.int .i64 qbv, AV.int .i64 qcc, AV.bool qam, AV.bool qa5, AV.flt .f64 qbm, AV.flt .f64 qb3, AV.flt .f64 qa3], AV.int .i64 l21, AV.int .u8 qh6] = gref19_stiff ya yh yg yr fuel qb8 qak qbv qcc qam qa5 qbm qb3 qa3 l21 qh6 := by kernel_rfl
noncomputable def mref19_stiff (ya yh : Mo) (yg yr : Mo) (fuel : Nat) (xs : List AV) : Option AV := match xs with
  | [AV.agg [AV.str qb8, AV.int .u8 qak, AV.int .i64 qbv, AV.int .i64 qcc, AV.bool qam, AV.bool qa5, AV.flt .f64 qbm, AV.flt .f64 qb3, AV.flt .f64 qa3], AV.int .i64 l21, AV.int .u8 qh6] => gref19_stiff ya yh yg yr fuel qb8 qak qbv qcc qam qa5 qbm qb3 qa3 l21 qh6
  | _ => none
abbrev Rref19_stiff : List RS := [RS.agg [LK.f .f64, LK.f .f64], RS.one (LK.f .f64)]
theorem gref19_stiff_sm (ya yh : Mo) (yg yr : Mo) (fuel : Nat) (hΓ : GamOk Pr (Gref19_stiff ya yh yg yr)) (hP : NamesOk Pr) : SmOk Pr 17 (smM Rref19_stiff (mref19_stiff ya yh yg yr fuel)) := by
  refine smM_ok (fuel := fuel) hΓ hP (LamOk.of 6 17 (Lref19_stiff ya yh yg yr fuel) 0 (by kernel_rfl) (fun i hi => ?_)) 7 17 Rref19_stiff _ (fun xs v h => ?_)
  · match i, hi with
    | i + 0, hi => exact absurd hi (by omega)
  · unfold mref19_stiff at h
    split at h
    · exact (gref19_stiff_run ya yh yg yr fuel _ _ _ _ _ _ _ _ _ _ _).trans h
    · cases h
noncomputable def Lref19_row (fuel : Nat) : Lam AV := []
noncomputable def Gref19_row : Gam := []
noncomputable def Cref19_row (fuel : Nat) : CallI AV := callX (Gref19_row) (execFn Pr (Gref19_row) [((6, 18), Lref19_row fuel)] fuel 6)
noncomputable def gref19_row (fuel : Nat) (dx0 dy1 : Int) (l22 qh2 : Int) (qiu : Bool) : Option AV :=
  bif qh2 == 1 then some (AV.agg [AV.int .i64 (IntKind.i64.wrap (0 - dx0)), AV.int .i64 (IntKind.i64.wrap (0 - dy1)), AV.int .i64 0, AV.int .i64 dx0, AV.int .i64 dy1, AV.int .i64 0])
  else bif qh2 == 2 then some (AV.agg [AV.int .i64 (IntKind.i64.wrap ((-2) * dy1)), AV.int .i64 (IntKind.i64.wrap (2 * dx0)), AV.int .i64 l22, AV.int .i64 (IntKind.i64.wrap (2 * dy1)), AV.int .i64 (IntKind.i64.wrap ((-2) * dx0)), AV.int .i64 l22])
  else bif qh2 == 3 then some (AV.agg [AV.int .i64 0, AV.int .i64 0, AV.int .i64 1, AV.int .i64 0, AV.int .i64 0, AV.int .i64 (-1)])
  else bif qiu then some (AV.agg [AV.int .i64 (IntKind.i64.wrap (0 - dy1)), AV.int .i64 dx0, AV.int .i64 0, AV.int .i64 dy1, AV.int .i64 (IntKind.i64.wrap (0 - dx0)), AV.int .i64 l22])
  else some (AV.agg [AV.int .i64 (IntKind.i64.wrap (0 - dy1)), AV.int .i64 dx0, AV.int .i64 l22, AV.int .i64 dy1, AV.int .i64 (IntKind.i64.wrap (0 - dx0)), AV.int .i64 0])
theorem gref19_row_run (fuel : Nat) (dx0 dy1 : Int) (l22 qh2 : Int) (qiu : Bool) : run Pr (Gref19_row) [((6, 18), Lref19_row fuel)] fuel 7 18 [AV.int .i64 dx0, AV.int .i64 dy1, AV.int .i64 l22, AV.int .u8 qh2, AV.bool qiu] = gref19_row fuel dx0 dy1 l22 qh2 qiu := by kernel_rfl
noncomputable def mref19_row (fuel : Nat) (xs : List AV) : Option AV := match xs with
  | [AV.int .i64 dx0, AV.int .i64 dy1, AV.int .i64 l22, AV.int .u8 qh2, AV.bool qiu] => gref19_row fuel dx0 dy1 l22 qh2 qiu
  | _ => none
abbrev Rref19_row : List RS := [RS.agg [LK.i .i64, LK.i .i64, LK.i .i64, LK.i .i64, LK.i .i64, LK.i .i64]]
theorem gref19_row_sm (fuel : Nat) (hΓ : GamOk Pr (Gref19_row)) (hP : NamesOk Pr) : SmOk Pr 18 (smM Rref19_row (mref19_row fuel)) := by
  refine smM_ok (fuel := fuel) hΓ hP (LamOk.of 6 18 (Lref19_row fuel) 0 (by kernel_rfl) (fun i hi => ?_)) 7 18 Rref19_row _ (fun xs v h => ?_)
  · match i, hi with
    | i + 0, hi => exact absurd hi (by omega)
  · unfold mref19_row at h
    split at h
    · exact (gref19_row_run fuel _ _ _ _ _).trans h
    · cases h
noncomputable def Sref19_Springs_0 (qch dx9 : Int) (qes qej : Int) (qb7 qc2 : Nat) (qbt : Ge) (qcv : Int) (z8 z5 : Nat) (z6 : Ge) (z4 z7 : Nat) (z9 : Ge) (p3 : List AV) (p1 : List (List AV)) (qba : ByteArray) (qa1 qa8 qa6 : Int) (qas qa9 : Bool) (qa4 qa7 qa2 : Option Nat) : St := { env := [(1, AV.ptr 0 0), (6, AV.lst 1 11), (7, AV.int .i64 qch), (8, AV.ptr 2 0), (9, AV.int .i64 dx9), (10, AV.int .i64 qes), (11, AV.int .i64 qej), (12, AV.ro 1 qb7 qc2 qbt), (13, AV.int .i64 qcv)], h := [Blk.box [AV.ro 4 z8 z5 z6, AV.ro 9 z4 z7 z9], Blk.fl 11 p3 p1, Blk.box [AV.str qba, AV.int .u8 qa1, AV.int .i64 qa8, AV.int .i64 qa6, AV.bool qas, AV.bool qa9, AV.flt .f64 qa4, AV.flt .f64 qa7, AV.flt .f64 qa2]], kd := [1] }
noncomputable def Xref19_Springs_0_0 (qj5 : Int) (pl pp : Nat) (pm : Ge) (pi po : Nat) (pj : Ge) (qg1 : List AV) (qgu : List (List AV)) (qb2 : ByteArray) (qbz qb0 qby : Int) (qde qdd : Bool) (qc4 qc5 qc8 : Option Nat) : St := { env := [(1, AV.ptr 0 0), (6, AV.lst 1 11), (7, AV.int .i64 qj5)], h := [Blk.box [AV.ro 4 pl pp pm, AV.ro 9 pi po pj], Blk.fl 11 qg1 qgu, Blk.box [AV.str qb2, AV.int .u8 qbz, AV.int .i64 qb0, AV.int .i64 qby, AV.bool qde, AV.bool qdd, AV.flt .f64 qc4, AV.flt .f64 qc5, AV.flt .f64 qc8]], kd := [1] }
noncomputable def gref19_Springs_l0_step (qo ql : Mo) (qn qm qy : Mo) (fuel : Nat) (kn : Int → List (List AV) → Option AV) (kx0 : Int → Nat → Nat → (Ge) → Nat → Nat → (Ge) → List AV → List (List AV) → ByteArray → Int → Int → Int → Bool → Bool → Option Nat → Option Nat → Option Nat → Option AV) (qch dx9 : Int) (qes qej : Int) (qb7 qc2 : Nat) (qbt : Ge) (z8 z5 : Nat) (z6 : Ge) (z4 z7 : Nat) (z9 : Ge) (p3 : List AV) (qba : ByteArray) (qa1 qa8 qa6 : Int) (qas qa9 : Bool) (qa4 qa7 qa2 : Option Nat) (qcv : Int) (p1 : List (List AV)) : Option AV :=
  bif decide (qcv < (↑qb7 : Int)) then ck (decide (0 ≤ qcv)) <| ck (decide (qcv < (↑qb7 : Int))) <| ck (fitK (LK.i .u8) (qbt qcv.toNat 0)) <| let r3 : Option AV := qm [AV.agg [AV.str qba, AV.int .u8 qa1, AV.int .i64 qa8, AV.int .i64 qa6, AV.bool qas, AV.bool qa9, AV.flt .f64 qa4, AV.flt .f64 qa7, AV.flt .f64 qa2], AV.int .i64 qej, AV.int .u8 (toI (qbt qcv.toNat 0))]; ck (okM [RS.agg [LK.f .f64, LK.f .f64], RS.one (LK.f .f64)] r3) <| ck (decide (0 ≤ qcv)) <| ck (decide (qcv < (↑qb7 : Int))) <| ck (fitK (LK.i .u8) (qbt qcv.toNat 0)) <| ck (decide (0 ≤ qcv)) <| ck (decide (qcv < (↑qb7 : Int))) <| ck (fitK (LK.i .u8) (qbt qcv.toNat 0)) <| let r4 : Option AV := qy [AV.int .i64 dx9, AV.int .i64 qes, AV.int .i64 qej, AV.int .u8 (toI (qbt qcv.toNat 0)), AV.bool qas]; ck (okM [RS.agg [LK.i .i64, LK.i .i64, LK.i .i64, LK.i .i64, LK.i .i64, LK.i .i64]] r4) <| ck (decide ((p1.length + 1) * 88 < 70368744177664)) <| ck (decide (p1.length + 1 < 4611686018427387904)) <| kn (IntKind.i64.wrap (qcv + 1)) (p1 ++ [[AV.int .i64 qch, AV.int .u8 (toI (qbt qcv.toNat 0)), AV.int .i64 (toI ((toC (getV r4)).headD AV.dead)), AV.int .i64 (toI ((toC (getV r4)).tail.headD AV.dead)), AV.int .i64 (toI ((toC (getV r4)).tail.tail.headD AV.dead)), AV.int .i64 (toI ((toC (getV r4)).tail.tail.tail.headD AV.dead)), AV.int .i64 (toI ((toC (getV r4)).tail.tail.tail.tail.headD AV.dead)), AV.int .i64 (toI ((toC (getV r4)).tail.tail.tail.tail.tail.headD AV.dead)), AV.flt .f64 (toF ((toC ((toT (getV r3)).headD AV.dead)).headD AV.dead)), AV.flt .f64 (toF ((toC ((toT (getV r3)).headD AV.dead)).tail.headD AV.dead)), AV.flt .f64 (toF ((toT (getV r3)).tail.headD AV.dead))]])
  else kx0 (qch) (z8) (z5) (z6) (z4) (z7) (z9) (p3) (p1) (qba) (qa1) (qa8) (qa6) (qas) (qa9) (qa4) (qa7) (qa2)
noncomputable def gref19_Springs_l0 (qo ql : Mo) (qn qm qy : Mo) (fuel : Nat) (kx0 : Int → Nat → Nat → (Ge) → Nat → Nat → (Ge) → List AV → List (List AV) → ByteArray → Int → Int → Int → Bool → Bool → Option Nat → Option Nat → Option Nat → Option AV) (qch dx9 : Int) (qes qej : Int) (qb7 qc2 : Nat) (qbt : Ge) (z8 z5 : Nat) (z6 : Ge) (z4 z7 : Nat) (z9 : Ge) (p3 : List AV) (qba : ByteArray) (qa1 qa8 qa6 : Int) (qas qa9 : Bool) (qa4 qa7 qa2 : Option Nat) : Nat → Int → List (List AV) → Option AV
  | 0, _, _ => none
  | n' + 1, qcv, p1 => gref19_Springs_l0_step qo ql qn qm qy fuel (gref19_Springs_l0 qo ql qn qm qy fuel kx0 qch dx9 qes qej qb7 qc2 qbt z8 z5 z6 z4 z7 z9 p3 qba qa1 qa8 qa6 qas qa9 qa4 qa7 qa2 n') kx0 qch dx9 qes qej qb7 qc2 qbt z8 z5 z6 z4 z7 z9 p3 qba qa1 qa8 qa6 qas qa9 qa4 qa7 qa2 qcv p1
noncomputable def Tref19_Springs_0 : TS' := ⟨[(1, TA.ptr 0 0), (6, TA.lst 1 11), (7, TA.i .i64), (8, TA.ptr 2 0), (9, TA.i .i64), (10, TA.i .i64), (11, TA.i .i64), (12, TA.ro 1), (13, TA.i .i64)], [TB.box [TA.ro 4, TA.ro 9], TB.fl 11, TB.box [TA.s, TA.i .u8, TA.i .i64, TA.i .i64, TA.b, TA.b, TA.f .f64, TA.f .f64, TA.f .f64]], [1]⟩
noncomputable def Fref19_Springs_0 (qo ql : Mo) (qn qm qy : Mo) (fuel : Nat) (ps : List Pay) (K : Ex → St → Option AV) : Option AV := match ps with
  | .i qch :: .i dx9 :: .i qes :: .i qej :: .n qb7 :: .n qc2 :: .g qbt :: .i qcv :: .n z8 :: .n z5 :: .g z6 :: .n z4 :: .n z7 :: .g z9 :: .z p3 :: .e p1 :: .s qba :: .i qa1 :: .i qa8 :: .i qa6 :: .b qas :: .b qa9 :: .o qa4 :: .o qa7 :: .o qa2 :: [] => gref19_Springs_l0 qo ql qn qm qy fuel (fun qj5 pl pp pm pi po pj qg1 qgu qb2 qbz qb0 qby qde qdd qc4 qc5 qc8 => K (Ex.exit 2) (Xref19_Springs_0_0 qj5 pl pp pm pi po pj qg1 qgu qb2 qbz qb0 qby qde qdd qc4 qc5 qc8)) qch dx9 qes qej qb7 qc2 qbt z8 z5 z6 z4 z7 z9 p3 qba qa1 qa8 qa6 qas qa9 qa4 qa7 qa2 fuel qcv p1
  | _ => none
noncomputable def Sref19_Springs_1 (ui7 : Int) (w2 w3 : Nat) (w5 : Ge) (wz w4 : Nat) (wf : Ge) (h1z : List AV) (h1e : List (List AV)) : St := { env := [(1, AV.ptr 0 0), (6, AV.lst 1 11), (7, AV.int .i64 ui7)], h := [Blk.box [AV.ro 4 w2 w3 w5, AV.ro 9 wz w4 wf], Blk.fl 11 h1z h1e], kd := [1] }
noncomputable def Xref19_Springs_1_0 (y2 yy : Nat) (yx : Ge) (y3 yw : Nat) (yu : Ge) (qg8 : List AV) (qhg : List (List AV)) : St := { env := [(6, AV.lst 1 11)], h := [Blk.box [AV.ro 4 y2 yy yx, AV.ro 9 y3 yw yu], Blk.fl 11 qg8 qhg], kd := [1] }
noncomputable def gref19_Springs_l1_step (qo ql : Mo) (qn qm qy : Mo) (fuel : Nat) (kn : Int → Nat → Nat → (Ge) → Nat → Nat → (Ge) → List AV → List (List AV) → Option AV) (kx0 : Nat → Nat → (Ge) → Nat → Nat → (Ge) → List AV → List (List AV) → Option AV) (ui7 : Int) (w2 w3 : Nat) (w5 : Ge) (wz w4 : Nat) (wf : Ge) (h1z : List AV) (h1e : List (List AV)) : Option AV :=
  bif decide (ui7 < (↑wz : Int)) then ck (decide (0 ≤ ui7)) <| ck (decide (ui7 < (↑wz : Int))) <| ck (fitKs [LK.s, LK.i .u8, LK.i .i64, LK.i .i64, LK.b, LK.b, LK.f .f64, LK.f .f64, LK.f .f64] [wf ui7.toNat 0, wf ui7.toNat 1, wf ui7.toNat 2, wf ui7.toNat 3, wf ui7.toNat 4, wf ui7.toNat 5, wf ui7.toNat 6, wf ui7.toNat 7, wf ui7.toNat 8]) <| let r1 : Option AV := ql [AV.agg [AV.ro 4 w2 w3 w5, AV.ro 9 wz w4 wf], AV.agg [AV.str (toS (wf ui7.toNat 0)), AV.int .u8 (toI (wf ui7.toNat 1)), AV.int .i64 (toI (wf ui7.toNat 2)), AV.int .i64 (toI (wf ui7.toNat 3)), AV.bool (toB (wf ui7.toNat 4)), AV.bool (toB (wf ui7.toNat 5)), AV.flt .f64 (toF (wf ui7.toNat 6)), AV.flt .f64 (toF (wf ui7.toNat 7)), AV.flt .f64 (toF (wf ui7.toNat 8))]]; ck (okM [RS.one (LK.i .i64), RS.one (LK.i .i64), RS.one (LK.i .i64)] r1) <| let r2 : Option AV := qn [AV.agg [AV.str (toS (wf ui7.toNat 0)), AV.int .u8 (toI (wf ui7.toNat 1)), AV.int .i64 (toI (wf ui7.toNat 2)), AV.int .i64 (toI (wf ui7.toNat 3)), AV.bool (toB (wf ui7.toNat 4)), AV.bool (toB (wf ui7.toNat 5)), AV.flt .f64 (toF (wf ui7.toNat 6)), AV.flt .f64 (toF (wf ui7.toNat 7)), AV.flt .f64 (toF (wf ui7.toNat 8))]]; ck (okM [RS.one (LK.l 1)] r2) <| gref19_Springs_l0 qo ql qn qm qy fuel
      (fun (qkm : Int) (zk zl : Nat) (zm : Ge) (zo zn : Nat) (zp : Ge) (qdr : List AV) (qc9 : List (List AV)) (_ : ByteArray) (_ _ _ : Int) (_ _ : Bool) (_ _ _ : Option Nat) => kn (IntKind.i64.wrap (qkm + 1)) (zk) (zl) (zm) (zo) (zn) (zp) (qdr) (qc9))
      (ui7)
      (toI ((toT (getV r1)).headD AV.dead))
      (toI ((toT (getV r1)).tail.headD AV.dead))
      (toI ((toT (getV r1)).tail.tail.headD AV.dead))
      (toN (getV r2))
      (toR (getV r2))
      (toG (getV r2))
      (w2)
      (w3)
      (w5)
      (wz)
      (w4)
      (wf)
      (h1z)
      (toS (wf ui7.toNat 0))
      (toI (wf ui7.toNat 1))
      (toI (wf ui7.toNat 2))
      (toI (wf ui7.toNat 3))
      (toB (wf ui7.toNat 4))
      (toB (wf ui7.toNat 5))
      (toF (wf ui7.toNat 6))
      (toF (wf ui7.toNat 7))
      (toF (wf ui7.toNat 8)) fuel (0) (h1e)
  else kx0 (w2) (w3) (w5) (wz) (w4) (wf) (h1z) (h1e)
noncomputable def gref19_Springs_l1 (qo ql : Mo) (qn qm qy : Mo) (fuel : Nat) (kx0 : Nat → Nat → (Ge) → Nat → Nat → (Ge) → List AV → List (List AV) → Option AV) : Nat → Int → Nat → Nat → (Ge) → Nat → Nat → (Ge) → List AV → List (List AV) → Option AV
  | 0, _, _, _, _, _, _, _, _, _ => none
  | n' + 1, ui7, w2, w3, w5, wz, w4, wf, h1z, h1e => gref19_Springs_l1_step qo ql qn qm qy fuel (gref19_Springs_l1 qo ql qn qm qy fuel kx0 n') kx0 ui7 w2 w3 w5 wz w4 wf h1z h1e
noncomputable def Tref19_Springs_1 : TS' := ⟨[(1, TA.ptr 0 0), (6, TA.lst 1 11), (7, TA.i .i64)], [TB.box [TA.ro 4, TA.ro 9], TB.fl 11], [1]⟩
noncomputable def Fref19_Springs_1 (qo ql : Mo) (qn qm qy : Mo) (fuel : Nat) (ps : List Pay) (K : Ex → St → Option AV) : Option AV := match ps with
  | .i ui7 :: .n w2 :: .n w3 :: .g w5 :: .n wz :: .n w4 :: .g wf :: .z h1z :: .e h1e :: [] => gref19_Springs_l1 qo ql qn qm qy fuel (fun y2 yy yx y3 yw yu qg8 qhg => K (Ex.exit 0) (Xref19_Springs_1_0 y2 yy yx y3 yw yu qg8 qhg)) fuel ui7 w2 w3 w5 wz w4 wf h1z h1e
  | _ => none
noncomputable def Lref19_Springs (qo ql : Mo) (qn qm qy : Mo) (fuel : Nat) : Lam AV := [(4835703278423332326793280, lam Tref19_Springs_0 (Fref19_Springs_0 qo ql qn qm qy fuel)), (4835703278458516682112960, lam Tref19_Springs_1 (Fref19_Springs_1 qo ql qn qm qy fuel))]
noncomputable def Gref19_Springs (qo ql : Mo) (qn qm qy : Mo) : Gam := [(14, smM [RS.one (LK.i .i64), RS.one (LK.i .i64)] qo), (15, smM [RS.one (LK.i .i64), RS.one (LK.i .i64), RS.one (LK.i .i64)] ql), (16, smM [RS.one (LK.l (nat_lit 1))] qn), (17, smM [RS.agg [LK.f .f64, LK.f .f64], RS.one (LK.f .f64)] qm), (18, smM [RS.agg [LK.i .i64, LK.i .i64, LK.i .i64, LK.i .i64, LK.i .i64, LK.i .i64]] qy)]
noncomputable def Cref19_Springs (qo ql : Mo) (qn qm qy : Mo) (fuel : Nat) : CallI AV := callX (Gref19_Springs qo ql qn qm qy) (execFn Pr (Gref19_Springs qo ql qn qm qy) [((6, 6), Lref19_Springs qo ql qn qm qy fuel)] fuel 6)
theorem gref19_Springs_l0_eq (qo ql : Mo) (qn qm qy : Mo) (fuel : Nat) (kn : St → Option AV) (K : Ex → St → Option AV) (qch dx9 : Int) (qes qej : Int) (qb7 qc2 : Nat) (qbt : Ge) (z8 z5 : Nat) (z6 : Ge) (z4 z7 : Nat) (z9 : Ge) (p3 : List AV) (qba : ByteArray) (qa1 qa8 qa6 : Int) (qas qa9 : Bool) (qa4 qa7 qa2 : Option Nat) (qiv : Int) (qhi : List (List AV)) (qcv : Int) (p1 : List (List AV)) :
    exec Pr (Gref19_Springs qo ql qn qm qy) (Lref19_Springs qo ql qn qm qy fuel) (fnNt Pr 6) fuel (Cref19_Springs qo ql qn qm qy fuel) (lp Pr 6 1).1 (lp Pr 6 1).2 (live (lp Pr 6 1).1 (lp Pr 6 1).2 0) (Sref19_Springs_0 qch dx9 qes qej qb7 qc2 qbt qcv z8 z5 z6 z4 z7 z9 p3 p1 qba qa1 qa8 qa6 qas qa9 qa4 qa7 qa2) (fun e s => match e with | .normal => kn (headN (live (lp Pr 6 1).1 (lp Pr 6 1).2 0) (writes (lp Pr 6 1).1) (Sref19_Springs_0 qch dx9 qes qej qb7 qc2 qbt qiv z8 z5 z6 z4 z7 z9 p3 qhi qba qa1 qa8 qa6 qas qa9 qa4 qa7 qa2) s) | e => K e s) =
    gref19_Springs_l0_step qo ql qn qm qy fuel (fun qcv p1 => kn (Sref19_Springs_0 qch dx9 qes qej qb7 qc2 qbt qcv z8 z5 z6 z4 z7 z9 p3 p1 qba qa1 qa8 qa6 qas qa9 qa4 qa7 qa2)) (fun qkm zk zl zm zo zn zp qdr qc9 xh2_0 xh2_1 xh2_2 xh2_3 xh2_4 xh2_5 xh2_6 xh2_7 xh2_8 => K (Ex.exit 2) (Xref19_Springs_0_0 qkm zk zl zm zo zn zp qdr qc9 xh2_0 xh2_1 xh2_2 xh2_3 xh2_4 xh2_5 xh2_6 xh2_7 xh2_8)) qch dx9 qes qej qb7 qc2 qbt z8 z5 z6 z4 z7 z9 p3 qba qa1 qa8 qa6 qas qa9 qa4 qa7 qa2 qcv p1 := by kernel_rfl
theorem gref19_Springs_l0_ok (qo ql : Mo) (qn qm qy : Mo) (fuel : Nat) (K : Ex → St → Option AV) (qch dx9 : Int) (qes qej : Int) (qb7 qc2 : Nat) (qbt : Ge) (z8 z5 : Nat) (z6 : Ge) (z4 z7 : Nat) (z9 : Ge) (p3 : List AV) (qba : ByteArray) (qa1 qa8 qa6 : Int) (qas qa9 : Bool) (qa4 qa7 qa2 : Option Nat) (qiv : Int) (qhi : List (List AV)) : ∀ (n' : Nat) (qcv : Int) (p1 : List (List AV)),
    loopK (exec Pr (Gref19_Springs qo ql qn qm qy) (Lref19_Springs qo ql qn qm qy fuel) (fnNt Pr 6) fuel (Cref19_Springs qo ql qn qm qy fuel) (lp Pr 6 1).1 (lp Pr 6 1).2 (live (lp Pr 6 1).1 (lp Pr 6 1).2 0)) (headN (live (lp Pr 6 1).1 (lp Pr 6 1).2 0) (writes (lp Pr 6 1).1) (Sref19_Springs_0 qch dx9 qes qej qb7 qc2 qbt qiv z8 z5 z6 z4 z7 z9 p3 qhi qba qa1 qa8 qa6 qas qa9 qa4 qa7 qa2)) n' (Sref19_Springs_0 qch dx9 qes qej qb7 qc2 qbt qcv z8 z5 z6 z4 z7 z9 p3 p1 qba qa1 qa8 qa6 qas qa9 qa4 qa7 qa2) K = gref19_Springs_l0 qo ql qn qm qy fuel (fun qkm zk zl zm zo zn zp qdr qc9 xh2_0 xh2_1 xh2_2 xh2_3 xh2_4 xh2_5 xh2_6 xh2_7 xh2_8 => K (Ex.exit 2) (Xref19_Springs_0_0 qkm zk zl zm zo zn zp qdr qc9 xh2_0 xh2_1 xh2_2 xh2_3 xh2_4 xh2_5 xh2_6 xh2_7 xh2_8)) qch dx9 qes qej qb7 qc2 qbt z8 z5 z6 z4 z7 z9 p3 qba qa1 qa8 qa6 qas qa9 qa4 qa7 qa2 n' qcv p1
  | 0, _, _ => rfl
  | n' + 1, qcv, p1 => (gref19_Springs_l0_eq qo ql qn qm qy fuel (fun s => loopK (exec Pr (Gref19_Springs qo ql qn qm qy) (Lref19_Springs qo ql qn qm qy fuel) (fnNt Pr 6) fuel (Cref19_Springs qo ql qn qm qy fuel) (lp Pr 6 1).1 (lp Pr 6 1).2 (live (lp Pr 6 1).1 (lp Pr 6 1).2 0)) (headN (live (lp Pr 6 1).1 (lp Pr 6 1).2 0) (writes (lp Pr 6 1).1) (Sref19_Springs_0 qch dx9 qes qej qb7 qc2 qbt qiv z8 z5 z6 z4 z7 z9 p3 qhi qba qa1 qa8 qa6 qas qa9 qa4 qa7 qa2)) n' s K) K qch dx9 qes qej qb7 qc2 qbt z8 z5 z6 z4 z7 z9 p3 qba qa1 qa8 qa6 qas qa9 qa4 qa7 qa2 qiv qhi qcv p1).trans
    (congrArg (fun kn => gref19_Springs_l0_step qo ql qn qm qy fuel kn (fun qkm zk zl zm zo zn zp qdr qc9 xh2_0 xh2_1 xh2_2 xh2_3 xh2_4 xh2_5 xh2_6 xh2_7 xh2_8 => K (Ex.exit 2) (Xref19_Springs_0_0 qkm zk zl zm zo zn zp qdr qc9 xh2_0 xh2_1 xh2_2 xh2_3 xh2_4 xh2_5 xh2_6 xh2_7 xh2_8)) qch dx9 qes qej qb7 qc2 qbt z8 z5 z6 z4 z7 z9 p3 qba qa1 qa8 qa6 qas qa9 qa4 qa7 qa2 qcv p1) (funext fun _ => funext fun _ => gref19_Springs_l0_ok qo ql qn qm qy fuel K qch dx9 qes qej qb7 qc2 qbt z8 z5 z6 z4 z7 z9 p3 qba qa1 qa8 qa6 qas qa9 qa4 qa7 qa2 qiv qhi n' _ _))
theorem gref19_Springs_L0 (qo ql : Mo) (qn qm qy : Mo) (fuel : Nat) : LOk Pr (Gref19_Springs qo ql qn qm qy) (Lref19_Springs qo ql qn qm qy fuel) (fnNt Pr 6) fuel (Cref19_Springs qo ql qn qm qy fuel) (lp Pr 6 1) := by
  refine .of Tref19_Springs_0 (Fref19_Springs_0 qo ql qn qm qy fuel) (fun L h => ?_) (fun ps st K r he hr => ?_)
  · have e : (Lref19_Springs qo ql qn qm qy fuel).get (writes (lp Pr 6 1).1) = some (lam Tref19_Springs_0 (Fref19_Springs_0 qo ql qn qm qy fuel)) := by kernel_rfl
    exact (Option.some.inj (e.symm.trans h)).symm
  · unfold Fref19_Springs_0 at hr
    split at hr
    · obtain rfl := (Option.some.inj he).symm
      exact (gref19_Springs_l0_ok qo ql qn qm qy fuel K _ _ _ _ _ _ _ _ _ _ _ _ _ _ _ _ _ _ _ _ _ _ _ _ _ fuel _ _).trans hr
    · cases hr
theorem gref19_Springs_l1_eq (qo ql : Mo) (qn qm qy : Mo) (fuel : Nat) (kn : St → Option AV) (K : Ex → St → Option AV) (qk2 : Int) (qd2 qdv : Nat) (qd0 : Ge) (qd3 qdy : Nat) (qdt : Ge) (qhr : List AV) (qhn : List (List AV)) (ui7 : Int) (w2 w3 : Nat) (w5 : Ge) (wz w4 : Nat) (wf : Ge) (h1z : List AV) (h1e : List (List AV)) :
    exec Pr (Gref19_Springs qo ql qn qm qy) (Lref19_Springs qo ql qn qm qy fuel) (fnNt Pr 6) fuel (Cref19_Springs qo ql qn qm qy fuel) (lp Pr 6 0).1 (lp Pr 6 0).2 (live (lp Pr 6 0).1 (lp Pr 6 0).2 0) (Sref19_Springs_1 ui7 w2 w3 w5 wz w4 wf h1z h1e) (fun e s => match e with | .normal => kn (headN (live (lp Pr 6 0).1 (lp Pr 6 0).2 0) (writes (lp Pr 6 0).1) (Sref19_Springs_1 qk2 qd2 qdv qd0 qd3 qdy qdt qhr qhn) s) | e => K e s) =
    gref19_Springs_l1_step qo ql qn qm qy fuel (fun ui7 w2 w3 w5 wz w4 wf h1z h1e => kn (Sref19_Springs_1 ui7 w2 w3 w5 wz w4 wf h1z h1e)) (fun zk zl zm zo zn zp qdr qc9 => K (Ex.exit 0) (Xref19_Springs_1_0 zk zl zm zo zn zp qdr qc9)) ui7 w2 w3 w5 wz w4 wf h1z h1e := by kernel_rfl
theorem gref19_Springs_l1_ok (qo ql : Mo) (qn qm qy : Mo) (fuel : Nat) (K : Ex → St → Option AV) (qk2 : Int) (qd2 qdv : Nat) (qd0 : Ge) (qd3 qdy : Nat) (qdt : Ge) (qhr : List AV) (qhn : List (List AV)) : ∀ (n' : Nat) (ui7 : Int) (w2 w3 : Nat) (w5 : Ge) (wz w4 : Nat) (wf : Ge) (h1z : List AV) (h1e : List (List AV)),
    loopK (exec Pr (Gref19_Springs qo ql qn qm qy) (Lref19_Springs qo ql qn qm qy fuel) (fnNt Pr 6) fuel (Cref19_Springs qo ql qn qm qy fuel) (lp Pr 6 0).1 (lp Pr 6 0).2 (live (lp Pr 6 0).1 (lp Pr 6 0).2 0)) (headN (live (lp Pr 6 0).1 (lp Pr 6 0).2 0) (writes (lp Pr 6 0).1) (Sref19_Springs_1 qk2 qd2 qdv qd0 qd3 qdy qdt qhr qhn)) n' (Sref19_Springs_1 ui7 w2 w3 w5 wz w4 wf h1z h1e) K = gref19_Springs_l1 qo ql qn qm qy fuel (fun zk zl zm zo zn zp qdr qc9 => K (Ex.exit 0) (Xref19_Springs_1_0 zk zl zm zo zn zp qdr qc9)) n' ui7 w2 w3 w5 wz w4 wf h1z h1e
  | 0, _, _, _, _, _, _, _, _, _ => rfl
  | n' + 1, ui7, w2, w3, w5, wz, w4, wf, h1z, h1e => (gref19_Springs_l1_eq qo ql qn qm qy fuel (fun s => loopK (exec Pr (Gref19_Springs qo ql qn qm qy) (Lref19_Springs qo ql qn qm qy fuel) (fnNt Pr 6) fuel (Cref19_Springs qo ql qn qm qy fuel) (lp Pr 6 0).1 (lp Pr 6 0).2 (live (lp Pr 6 0).1 (lp Pr 6 0).2 0)) (headN (live (lp Pr 6 0).1 (lp Pr 6 0).2 0) (writes (lp Pr 6 0).1) (Sref19_Springs_1 qk2 qd2 qdv qd0 qd3 qdy qdt qhr qhn)) n' s K) K qk2 qd2 qdv qd0 qd3 qdy qdt qhr qhn ui7 w2 w3 w5 wz w4 wf h1z h1e).trans
    (congrArg (fun kn => gref19_Springs_l1_step qo ql qn qm qy fuel kn (fun zk zl zm zo zn zp qdr qc9 => K (Ex.exit 0) (Xref19_Springs_1_0 zk zl zm zo zn zp qdr qc9)) ui7 w2 w3 w5 wz w4 wf h1z h1e) (funext fun _ => funext fun _ => funext fun _ => funext fun _ => funext fun _ => funext fun _ => funext fun _ => funext fun _ => funext fun _ => gref19_Springs_l1_ok qo ql qn qm qy fuel K qk2 qd2 qdv qd0 qd3 qdy qdt qhr qhn n' _ _ _ _ _ _ _ _ _))
theorem gref19_Springs_L1 (qo ql : Mo) (qn qm qy : Mo) (fuel : Nat) : LOk Pr (Gref19_Springs qo ql qn qm qy) (Lref19_Springs qo ql qn qm qy fuel) (fnNt Pr 6) fuel (Cref19_Springs qo ql qn qm qy fuel) (lp Pr 6 0) := by
  refine .of Tref19_Springs_1 (Fref19_Springs_1 qo ql qn qm qy fuel) (fun L h => ?_) (fun ps st K r he hr => ?_)
  · have e : (Lref19_Springs qo ql qn qm qy fuel).get (writes (lp Pr 6 0).1) = some (lam Tref19_Springs_1 (Fref19_Springs_1 qo ql qn qm qy fuel)) := by kernel_rfl
    exact (Option.some.inj (e.symm.trans h)).symm
  · unfold Fref19_Springs_1 at hr
    split at hr
    · obtain rfl := (Option.some.inj he).symm
      exact (gref19_Springs_l1_ok qo ql qn qm qy fuel K _ _ _ _ _ _ _ _ _ fuel _ _ _ _ _ _ _ _ _).trans hr
    · cases hr
noncomputable def gref19_Springs (qo ql : Mo) (qn qm qy : Mo) (fuel zi z1 : Nat) (wq : Ge) (zv zy : Nat) (w1 : Ge) : Option AV :=
  let r0 : Option AV := qo [AV.agg [AV.ro 4 zi z1 wq, AV.ro 9 zv zy w1]]; ck (okM [RS.one (LK.i .i64), RS.one (LK.i .i64)] r0) <| bif toI ((toT (getV r0)).headD AV.dead) != 0 then some (AV.tup [AV.ro 11 0 0 fun (x j : Nat) => [AV.int .i64 0, AV.int .u8 0, AV.int .i64 0, AV.int .i64 0, AV.int .i64 0, AV.int .i64 0, AV.int .i64 0, AV.int .i64 0, AV.flt .f64 (some 0), AV.flt .f64 (some 0), AV.flt .f64 (some 0)].getD j AV.dead, AV.int .i64 (toI ((toT (getV r0)).headD AV.dead))])
  else gref19_Springs_l1 qo ql qn qm qy fuel
    (fun (_ _ : Nat) (_ : Ge) (_ _ : Nat) (_ : Ge) (qko : List AV) (qgw : List (List AV)) => some (AV.tup [AV.ro 11 qgw.length qgw.length fun (i j : Nat) => (qgw.getD i qko).getD j AV.dead, AV.int .i64 0])) fuel (0) (zi) (z1) (wq) (zv) (zy) (w1) ([AV.int .i64 0, AV.int .u8 0, AV.int .i64 0, AV.int .i64 0, AV.int .i64 0, AV.int .i64 0, AV.int .i64 0, AV.int .i64 0, AV.flt .f64 (some 0), AV.flt .f64 (some 0), AV.flt .f64 (some 0)]) ([])
theorem gref19_Springs_run (qo ql : Mo) (qn qm qy : Mo) (fuel zi z1 : Nat) (wq : Ge) (zv zy : Nat) (w1 : Ge) : run Pr (Gref19_Springs qo ql qn qm qy) [((6, 6), Lref19_Springs qo ql qn qm qy fuel)] fuel 7 6 [AV.agg [AV.ro 4 zi z1 wq, AV.ro 9 zv zy w1]] = gref19_Springs qo ql qn qm qy fuel zi z1 wq zv zy w1 := by kernel_rfl
noncomputable def mref19_Springs (qo ql : Mo) (qn qm qy : Mo) (fuel : Nat) (xs : List AV) : Option AV := match xs with
  | [AV.agg [AV.ro 4 zi z1 wq, AV.ro 9 zv zy w1]] => gref19_Springs qo ql qn qm qy fuel zi z1 wq zv zy w1
  | _ => none
abbrev Rref19_Springs : List RS := [RS.one (LK.l (nat_lit 11)), RS.one (LK.i .i64)]
theorem gref19_Springs_sm (qo ql : Mo) (qn qm qy : Mo) (fuel : Nat) (hΓ : GamOk Pr (Gref19_Springs qo ql qn qm qy)) (hP : NamesOk Pr) : SmOk Pr 6 (smM Rref19_Springs (mref19_Springs qo ql qn qm qy fuel)) := by
  refine smM_ok (fuel := fuel) hΓ hP (LamOk.of 6 6 (Lref19_Springs qo ql qn qm qy fuel) 2 (by kernel_rfl) (fun i hi => ?_)) 7 6 Rref19_Springs _ (fun xs v h => ?_)
  · match i, hi with
    | 1, _ => exact gref19_Springs_L0 qo ql qn qm qy fuel
    | 0, _ => exact gref19_Springs_L1 qo ql qn qm qy fuel
    | i + 2, hi => exact absurd hi (by omega)
  · unfold mref19_Springs at h
    split at h
    · exact (gref19_Springs_run qo ql qn qm qy fuel _ _ _ _ _ _).trans h
    · cases h
noncomputable def Lkit_SameFloat (fuel : Nat) : Lam AV := []
noncomputable def Gkit_SameFloat : Gam := [(54, Go.Am.sBits)]
noncomputable def Ckit_SameFloat (fuel : Nat) : CallI AV := callX (Gkit_SameFloat) (execFn Pr (Gkit_SameFloat) [((6, 44), Lkit_SameFloat fuel)] fuel 6)
noncomputable def gkit_SameFloat (fuel : Nat) (ua0 ub1 : Option Nat) : Option AV :=
  ck (sBits.ok [AV.flt .f64 ua0]) <| ck (sBits.ok [AV.flt .f64 ub1]) <| some (AV.bool (bif (↑(ua0.getD 0) : Int) == (↑(ub1.getD 0) : Int) then true else bif ford .f64 ua0 ua0 != some Ordering.eq then ford .f64 ub1 ub1 != some Ordering.eq else false))
theorem gkit_SameFloat_run (fuel : Nat) (ua0 ub1 : Option Nat) : run Pr (Gkit_SameFloat) [((6, 44), Lkit_SameFloat fuel)] fuel 7 44 [AV.flt .f64 ua0, AV.flt .f64 ub1] = gkit_SameFloat fuel ua0 ub1 := by kernel_rfl
noncomputable def mkit_SameFloat (fuel : Nat) (xs : List AV) : Option AV := match xs with
  | [AV.flt .f64 ua0, AV.flt .f64 ub1] => gkit_SameFloat fuel ua0 ub1
  | _ => none
abbrev Rkit_SameFloat : List RS := [RS.one LK.b]
theorem gkit_SameFloat_sm (fuel : Nat) (hΓ : GamOk Pr (Gkit_SameFloat)) (hP : NamesOk Pr) : SmOk Pr 44 (smM Rkit_SameFloat (mkit_SameFloat fuel)) := by
  refine smM_ok (fuel := fuel) hΓ hP (LamOk.of 6 44 (Lkit_SameFloat fuel) 0 (by kernel_rfl) (fun i hi => ?_)) 7 44 Rkit_SameFloat _ (fun xs v h => ?_)
  · match i, hi with
    | i + 0, hi => exact absurd hi (by omega)
  · unfold mkit_SameFloat at h
    split at h
    · exact (gkit_SameFloat_run fuel _ _).trans h
    · cases h
noncomputable def Lkit_SameSpan (qh : Mo) (fuel : Nat) : Lam AV := []
noncomputable def Gkit_SameSpan (qh : Mo) : Gam := [(44, smM [RS.one LK.b] qh)]
noncomputable def Ckit_SameSpan (qh : Mo) (fuel : Nat) : CallI AV := callX (Gkit_SameSpan qh) (execFn Pr (Gkit_SameSpan qh) [((6, 43), Lkit_SameSpan qh fuel)] fuel 6)
noncomputable def gkit_SameSpan (qh : Mo) (fuel : Nat) (q9 wl : Option Nat) (wa wj : Option Nat) : Option AV :=
  ck (okM [RS.one LK.b] (qh [AV.flt .f64 q9, AV.flt .f64 wa])) <| ck (bif toB (getV (qh [AV.flt .f64 q9, AV.flt .f64 wa])) then true else true) <| ck (bif toB (getV (qh [AV.flt .f64 q9, AV.flt .f64 wa])) then true else true) <| ck (bif toB (getV (qh [AV.flt .f64 q9, AV.flt .f64 wa])) then okM [RS.one LK.b] (qh [AV.flt .f64 wl, AV.flt .f64 wj]) else true) <| some (AV.bool (bif toB (getV (qh [AV.flt .f64 q9, AV.flt .f64 wa])) then toB (getV (qh [AV.flt .f64 wl, AV.flt .f64 wj])) else false))
theorem gkit_SameSpan_run (qh : Mo) (fuel : Nat) (q9 wl : Option Nat) (wa wj : Option Nat) : run Pr (Gkit_SameSpan qh) [((6, 43), Lkit_SameSpan qh fuel)] fuel 7 43 [AV.agg [AV.flt .f64 q9, AV.flt .f64 wl], AV.agg [AV.flt .f64 wa, AV.flt .f64 wj]] = gkit_SameSpan qh fuel q9 wl wa wj := by kernel_rfl
noncomputable def mkit_SameSpan (qh : Mo) (fuel : Nat) (xs : List AV) : Option AV := match xs with
  | [AV.agg [AV.flt .f64 q9, AV.flt .f64 wl], AV.agg [AV.flt .f64 wa, AV.flt .f64 wj]] => gkit_SameSpan qh fuel q9 wl wa wj
  | _ => none
abbrev Rkit_SameSpan : List RS := [RS.one LK.b]
theorem gkit_SameSpan_sm (qh : Mo) (fuel : Nat) (hΓ : GamOk Pr (Gkit_SameSpan qh)) (hP : NamesOk Pr) : SmOk Pr 43 (smM Rkit_SameSpan (mkit_SameSpan qh fuel)) := by
  refine smM_ok (fuel := fuel) hΓ hP (LamOk.of 6 43 (Lkit_SameSpan qh fuel) 0 (by kernel_rfl) (fun i hi => ?_)) 7 43 Rkit_SameSpan _ (fun xs v h => ?_)
  · match i, hi with
    | i + 0, hi => exact absurd hi (by omega)
  · unfold mkit_SameSpan at h
    split at h
    · exact (gkit_SameSpan_run qh fuel _ _ _ _).trans h
    · cases h
noncomputable def Lkit_SameSpring (vo qh : Mo) (fuel : Nat) : Lam AV := []
noncomputable def Gkit_SameSpring (vo qh : Mo) : Gam := [(43, smM [RS.one LK.b] vo), (44, smM [RS.one LK.b] qh)]
noncomputable def Ckit_SameSpring (vo qh : Mo) (fuel : Nat) : CallI AV := callX (Gkit_SameSpring vo qh) (execFn Pr (Gkit_SameSpring vo qh) [((6, 19), Lkit_SameSpring vo qh fuel)] fuel 6)
noncomputable def gkit_SameSpring (vo qh : Mo) (fuel : Nat) (q9 wl : Int) (y9 pr : Int) (qao qbk : Int) (qbu qcd : Int) (qdk qgo qgr : Option Nat) (wa wj : Int) (y8 pv : Int) (qan qbl : Int) (qbw qcb : Int) (qdo qgq qhd : Option Nat) : Option AV :=
  ck (bif q9 == wa then true else true) <| ck (bif q9 == wa then true else true) <| ck (bif bif q9 == wa then wl == wj else false then true else true) <| ck (bif bif q9 == wa then wl == wj else false then true else true) <| ck (bif bif bif q9 == wa then wl == wj else false then bif y9 == y8 then bif pr == pv then bif qao == qan then bif qbk == qbl then bif qbu == qbw then bif qcd == qcb then true else false else false else false else false else false else false else false then true else true) <| ck (bif bif bif q9 == wa then wl == wj else false then bif y9 == y8 then bif pr == pv then bif qao == qan then bif qbk == qbl then bif qbu == qbw then bif qcd == qcb then true else false else false else false else false else false else false else false then true else true) <| ck (bif bif bif q9 == wa then wl == wj else false then bif y9 == y8 then bif pr == pv then bif qao == qan then bif qbk == qbl then bif qbu == qbw then bif qcd == qcb then true else false else false else false else false else false else false else false then okM [RS.one LK.b] (vo [AV.agg [AV.flt .f64 qdk, AV.flt .f64 qgo], AV.agg [AV.flt .f64 qdo, AV.flt .f64 qgq]]) else true) <| ck (bif bif bif bif q9 == wa then wl == wj else false then bif y9 == y8 then bif pr == pv then bif qao == qan then bif qbk == qbl then bif qbu == qbw then bif qcd == qcb then true else false else false else false else false else false else false else false then toB (getV (vo [AV.agg [AV.flt .f64 qdk, AV.flt .f64 qgo], AV.agg [AV.flt .f64 qdo, AV.flt .f64 qgq]])) else false then true else true) <| ck (bif bif bif bif q9 == wa then wl == wj else false then bif y9 == y8 then bif pr == pv then bif qao == qan then bif qbk == qbl then bif qbu == qbw then bif qcd == qcb then true else false else false else false else false else false else false else false then toB (getV (vo [AV.agg [AV.flt .f64 qdk, AV.flt .f64 qgo], AV.agg [AV.flt .f64 qdo, AV.flt .f64 qgq]])) else false then true else true) <| ck (bif bif bif bif q9 == wa then wl == wj else false then bif y9 == y8 then bif pr == pv then bif qao == qan then bif qbk == qbl then bif qbu == qbw then bif qcd == qcb then true else false else false else false else false else false else false else false then toB (getV (vo [AV.agg [AV.flt .f64 qdk, AV.flt .f64 qgo], AV.agg [AV.flt .f64 qdo, AV.flt .f64 qgq]])) else false then okM [RS.one LK.b] (qh [AV.flt .f64 qgr, AV.flt .f64 qhd]) else true) <| some (AV.bool (bif bif bif bif q9 == wa then wl == wj else false then bif y9 == y8 then bif pr == pv then bif qao == qan then bif qbk == qbl then bif qbu == qbw then bif qcd == qcb then true else false else false else false else false else false else false else false then toB (getV (vo [AV.agg [AV.flt .f64 qdk, AV.flt .f64 qgo], AV.agg [AV.flt .f64 qdo, AV.flt .f64 qgq]])) else false then toB (getV (qh [AV.flt .f64 qgr, AV.flt .f64 qhd])) else false))
theorem gkit_SameSpring_run (vo qh : Mo) (fuel : Nat) (q9 wl : Int) (y9 pr : Int) (qao qbk : Int) (qbu qcd : Int) (qdk qgo qgr : Option Nat) (wa wj : Int) (y8 pv : Int) (qan qbl : Int) (qbw qcb : Int) (qdo qgq qhd : Option Nat) : run Pr (Gkit_SameSpring vo qh) [((6, 19), Lkit_SameSpring vo qh fuel)] fuel 7 19 [AV.agg [AV.int .i64 q9, AV.int .u8 wl, AV.int .i64 y9, AV.int .i64 pr, AV.int .i64 qao, AV.int .i64 qbk, AV.int .i64 qbu, AV.int .i64 qcd, AV.flt .f64 qdk, AV.flt .f64 qgo, AV.flt .f64 qgr], AV.agg [AV.int .i64 wa, AV.int .u8 wj, AV.int .i64 y8, AV.int .i64 pv, AV.int .i64 qan, AV.int .i64 qbl, AV.int .i64 qbw, AV.int .i64 qcb, AV.flt .f64 qdo, AV.flt .f64 qgq, AV.flt .f64 qhd]] = gkit_SameSpring vo qh fuel q9 wl y9 pr qao qbk qbu qcd qdk qgo qgr wa wj y8 pv qan qbl qbw qcb qdo qgq qhd := by kernel_rfl
noncomputable def mkit_SameSpring (vo qh : Mo) (fuel : Nat) (xs : List AV) : Option AV := match xs with
  | [AV.agg [AV.int .i64 q9, AV.int .u8 wl, AV.int .i64 y9, AV.int .i64 pr, AV.int .i64 qao, AV.int .i64 qbk, AV.int .i64 qbu, AV.int .i64 qcd, AV.flt .f64 qdk, AV.flt .f64 qgo, AV.flt .f64 qgr], AV.agg [AV.int .i64 wa, AV.int .u8 wj, AV.int .i64 y8, AV.int .i64 pv, AV.int .i64 qan, AV.int .i64 qbl, AV.int .i64 qbw, AV.int .i64 qcb, AV.flt .f64 qdo, AV.flt .f64 qgq, AV.flt .f64 qhd]] => gkit_SameSpring vo qh fuel q9 wl y9 pr qao qbk qbu qcd qdk qgo qgr wa wj y8 pv qan qbl qbw qcb qdo qgq qhd
  | _ => none
abbrev Rkit_SameSpring : List RS := [RS.one LK.b]
theorem gkit_SameSpring_sm (vo qh : Mo) (fuel : Nat) (hΓ : GamOk Pr (Gkit_SameSpring vo qh)) (hP : NamesOk Pr) : SmOk Pr 19 (smM Rkit_SameSpring (mkit_SameSpring vo qh fuel)) := by
  refine smM_ok (fuel := fuel) hΓ hP (LamOk.of 6 19 (Lkit_SameSpring vo qh fuel) 0 (by kernel_rfl) (fun i hi => ?_)) 7 19 Rkit_SameSpring _ (fun xs v h => ?_)
  · match i, hi with
    | i + 0, hi => exact absurd hi (by omega)
  · unfold mkit_SameSpring at h
    split at h
    · exact (gkit_SameSpring_run vo qh fuel _ _ _ _ _ _ _ _ _ _ _ _ _ _ _ _ _ _ _ _ _ _).trans h
    · cases h
noncomputable def Skit_SameSprings_0 (vm vu : Nat) (wt : Ge) (vn vs : Nat) (ws : Ge) (ui5 : Int) : St := { env := [(0, AV.ro 11 vm vu wt), (1, AV.ro 11 vn vs ws), (5, AV.int .i64 ui5)], h := [], kd := [] }
noncomputable def Xkit_SameSprings_0_0 (qbs : Bool) : St := { env := [(4, AV.bool qbs)], h := [], kd := [] }
noncomputable def Xkit_SameSprings_0_1 : St := { env := [], h := [], kd := [] }
noncomputable def gkit_SameSprings_l0_step (qv : Mo) (fuel : Nat) (kn : Int → Option AV) (kx0 : Bool → Option AV) (kx1 : Option AV) (vm vu : Nat) (wt : Ge) (vn vs : Nat) (ws : Ge) (ui5 : Int) : Option AV :=
  bif decide (ui5 < (↑vm : Int)) then ck (decide (0 ≤ ui5)) <| ck (decide (ui5 < (↑vm : Int))) <| ck (fitKs [LK.i .i64, LK.i .u8, LK.i .i64, LK.i .i64, LK.i .i64, LK.i .i64, LK.i .i64, LK.i .i64, LK.f .f64, LK.f .f64, LK.f .f64] [wt ui5.toNat 0, wt ui5.toNat 1, wt ui5.toNat 2, wt ui5.toNat 3, wt ui5.toNat 4, wt ui5.toNat 5, wt ui5.toNat 6, wt ui5.toNat 7, wt ui5.toNat 8, wt ui5.toNat 9, wt ui5.toNat 10]) <| ck (decide (0 ≤ ui5)) <| ck (decide (ui5 < (↑vn : Int))) <| ck (fitKs [LK.i .i64, LK.i .u8, LK.i .i64, LK.i .i64, LK.i .i64, LK.i .i64, LK.i .i64, LK.i .i64, LK.f .f64, LK.f .f64, LK.f .f64] [ws ui5.toNat 0, ws ui5.toNat 1, ws ui5.toNat 2, ws ui5.toNat 3, ws ui5.toNat 4, ws ui5.toNat 5, ws ui5.toNat 6, ws ui5.toNat 7, ws ui5.toNat 8, ws ui5.toNat 9, ws ui5.toNat 10]) <| ck (okM [RS.one LK.b] (qv [AV.agg [AV.int .i64 (toI (wt ui5.toNat 0)), AV.int .u8 (toI (wt ui5.toNat 1)), AV.int .i64 (toI (wt ui5.toNat 2)), AV.int .i64 (toI (wt ui5.toNat 3)), AV.int .i64 (toI (wt ui5.toNat 4)), AV.int .i64 (toI (wt ui5.toNat 5)), AV.int .i64 (toI (wt ui5.toNat 6)), AV.int .i64 (toI (wt ui5.toNat 7)), AV.flt .f64 (toF (wt ui5.toNat 8)), AV.flt .f64 (toF (wt ui5.toNat 9)), AV.flt .f64 (toF (wt ui5.toNat 10))], AV.agg [AV.int .i64 (toI (ws ui5.toNat 0)), AV.int .u8 (toI (ws ui5.toNat 1)), AV.int .i64 (toI (ws ui5.toNat 2)), AV.int .i64 (toI (ws ui5.toNat 3)), AV.int .i64 (toI (ws ui5.toNat 4)), AV.int .i64 (toI (ws ui5.toNat 5)), AV.int .i64 (toI (ws ui5.toNat 6)), AV.int .i64 (toI (ws ui5.toNat 7)), AV.flt .f64 (toF (ws ui5.toNat 8)), AV.flt .f64 (toF (ws ui5.toNat 9)), AV.flt .f64 (toF (ws ui5.toNat 10))]])) <| bif !toB (getV (qv [AV.agg [AV.int .i64 (toI (wt ui5.toNat 0)), AV.int .u8 (toI (wt ui5.toNat 1)), AV.int .i64 (toI (wt ui5.toNat 2)), AV.int .i64 (toI (wt ui5.toNat 3)), AV.int .i64 (toI (wt ui5.toNat 4)), AV.int .i64 (toI (wt ui5.toNat 5)), AV.int .i64 (toI (wt ui5.toNat 6)), AV.int .i64 (toI (wt ui5.toNat 7)), AV.flt .f64 (toF (wt ui5.toNat 8)), AV.flt .f64 (toF (wt ui5.toNat 9)), AV.flt .f64 (toF (wt ui5.toNat 10))], AV.agg [AV.int .i64 (toI (ws ui5.toNat 0)), AV.int .u8 (toI (ws ui5.toNat 1)), AV.int .i64 (toI (ws ui5.toNat 2)), AV.int .i64 (toI (ws ui5.toNat 3)), AV.int .i64 (toI (ws ui5.toNat 4)), AV.int .i64 (toI (ws ui5.toNat 5)), AV.int .i64 (toI (ws ui5.toNat 6)), AV.int .i64 (toI (ws ui5.toNat 7)), AV.flt .f64 (toF (ws ui5.toNat 8)), AV.flt .f64 (toF (ws ui5.toNat 9)), AV.flt .f64 (toF (ws ui5.toNat 10))]])) then kx0 (false)
    else kn (IntKind.i64.wrap (ui5 + 1))
  else kx1
noncomputable def gkit_SameSprings_l0 (qv : Mo) (fuel : Nat) (kx0 : Bool → Option AV) (kx1 : Option AV) (vm vu : Nat) (wt : Ge) (vn vs : Nat) (ws : Ge) : Nat → Int → Option AV
  | 0, _ => none
  | n' + 1, ui5 => gkit_SameSprings_l0_step qv fuel (gkit_SameSprings_l0 qv fuel kx0 kx1 vm vu wt vn vs ws n') kx0 kx1 vm vu wt vn vs ws ui5
noncomputable def Tkit_SameSprings_0 : TS' := ⟨[(0, TA.ro 11), (1, TA.ro 11), (5, TA.i .i64)], [], []⟩
noncomputable def Fkit_SameSprings_0 (qv : Mo) (fuel : Nat) (ps : List Pay) (K : Ex → St → Option AV) : Option AV := match ps with
  | .n vm :: .n vu :: .g wt :: .n vn :: .n vs :: .g ws :: .i ui5 :: [] => gkit_SameSprings_l0 qv fuel (fun qbs => K (Ex.ret) (Xkit_SameSprings_0_0 qbs)) (K (Ex.exit 0) Xkit_SameSprings_0_1) vm vu wt vn vs ws fuel ui5
  | _ => none
noncomputable def Lkit_SameSprings (qv : Mo) (fuel : Nat) : Lam AV := [(134215728, lam Tkit_SameSprings_0 (Fkit_SameSprings_0 qv fuel))]
noncomputable def Gkit_SameSprings (qv : Mo) : Gam := [(19, smM [RS.one LK.b] qv)]
noncomputable def Ckit_SameSprings (qv : Mo) (fuel : Nat) : CallI AV := callX (Gkit_SameSprings qv) (execFn Pr (Gkit_SameSprings qv) [((6, 7), Lkit_SameSprings qv fuel)] fuel 6)
theorem gkit_SameSprings_l0_eq (qv : Mo) (fuel : Nat) (kn : St → Option AV) (K : Ex → St → Option AV) (vm vu : Nat) (wt : Ge) (vn vs : Nat) (ws : Ge) (qe7 ui5 : Int) :
    exec Pr (Gkit_SameSprings qv) (Lkit_SameSprings qv fuel) (fnNt Pr 7) fuel (Ckit_SameSprings qv fuel) (lp Pr 7 0).1 (lp Pr 7 0).2 (live (lp Pr 7 0).1 (lp Pr 7 0).2 0) (Skit_SameSprings_0 vm vu wt vn vs ws ui5) (fun e s => match e with | .normal => kn (headN (live (lp Pr 7 0).1 (lp Pr 7 0).2 0) (writes (lp Pr 7 0).1) (Skit_SameSprings_0 vm vu wt vn vs ws qe7) s) | e => K e s) =
    gkit_SameSprings_l0_step qv fuel (fun ui5 => kn (Skit_SameSprings_0 vm vu wt vn vs ws ui5)) (fun xu4 => K (Ex.ret) (Xkit_SameSprings_0_0 xu4)) (K (Ex.exit 0) Xkit_SameSprings_0_1) vm vu wt vn vs ws ui5 := by kernel_rfl
theorem gkit_SameSprings_l0_ok (qv : Mo) (fuel : Nat) (K : Ex → St → Option AV) (vm vu : Nat) (wt : Ge) (vn vs : Nat) (ws : Ge) (qe7 : Int) : ∀ (n' : Nat) (ui5 : Int),
    loopK (exec Pr (Gkit_SameSprings qv) (Lkit_SameSprings qv fuel) (fnNt Pr 7) fuel (Ckit_SameSprings qv fuel) (lp Pr 7 0).1 (lp Pr 7 0).2 (live (lp Pr 7 0).1 (lp Pr 7 0).2 0)) (headN (live (lp Pr 7 0).1 (lp Pr 7 0).2 0) (writes (lp Pr 7 0).1) (Skit_SameSprings_0 vm vu wt vn vs ws qe7)) n' (Skit_SameSprings_0 vm vu wt vn vs ws ui5) K = gkit_SameSprings_l0 qv fuel (fun xu4 => K (Ex.ret) (Xkit_SameSprings_0_0 xu4)) (K (Ex.exit 0) Xkit_SameSprings_0_1) vm vu wt vn vs ws n' ui5
  | 0, _ => rfl
  | n' + 1, ui5 => (gkit_SameSprings_l0_eq qv fuel (fun s => loopK (exec Pr (Gkit_SameSprings qv) (Lkit_SameSprings qv fuel) (fnNt Pr 7) fuel (Ckit_SameSprings qv fuel) (lp Pr 7 0).1 (lp Pr 7 0).2 (live (lp Pr 7 0).1 (lp Pr 7 0).2 0)) (headN (live (lp Pr 7 0).1 (lp Pr 7 0).2 0) (writes (lp Pr 7 0).1) (Skit_SameSprings_0 vm vu wt vn vs ws qe7)) n' s K) K vm vu wt vn vs ws qe7 ui5).trans
    (congrArg (fun kn => gkit_SameSprings_l0_step qv fuel kn (fun xu4 => K (Ex.ret) (Xkit_SameSprings_0_0 xu4)) (K (Ex.exit 0) Xkit_SameSprings_0_1) vm vu wt vn vs ws ui5) (funext fun _ => gkit_SameSprings_l0_ok qv fuel K vm vu wt vn vs ws qe7 n' _))
theorem gkit_SameSprings_L0 (qv : Mo) (fuel : Nat) : LOk Pr (Gkit_SameSprings qv) (Lkit_SameSprings qv fuel) (fnNt Pr 7) fuel (Ckit_SameSprings qv fuel) (lp Pr 7 0) := by
  refine .of Tkit_SameSprings_0 (Fkit_SameSprings_0 qv fuel) (fun L h => ?_) (fun ps st K r he hr => ?_)
  · have e : (Lkit_SameSprings qv fuel).get (writes (lp Pr 7 0).1) = some (lam Tkit_SameSprings_0 (Fkit_SameSprings_0 qv fuel)) := by kernel_rfl
    exact (Option.some.inj (e.symm.trans h)).symm
  · unfold Fkit_SameSprings_0 at hr
    split at hr
    · obtain rfl := (Option.some.inj he).symm
      exact (gkit_SameSprings_l0_ok qv fuel K _ _ _ _ _ _ _ fuel _).trans hr
    · cases hr
noncomputable def gkit_SameSprings (qv : Mo) (fuel qeg qe5 : Nat) (qfb : Ge) (qef qfg : Nat) (qfk : Ge) : Option AV :=
  bif (↑qeg : Int) != (↑qef : Int) then some (AV.bool false)
  else gkit_SameSprings_l0 qv fuel
    (fun (xu4 : Bool) => some (AV.bool xu4))
    (some (AV.bool true))
    (qeg)
    (qe5)
    (qfb)
    (qef)
    (qfg)
    (qfk) fuel (0)
theorem gkit_SameSprings_run (qv : Mo) (fuel qeg qe5 : Nat) (qfb : Ge) (qef qfg : Nat) (qfk : Ge) : run Pr (Gkit_SameSprings qv) [((6, 7), Lkit_SameSprings qv fuel)] fuel 7 7 [AV.ro 11 qeg qe5 qfb, AV.ro 11 qef qfg qfk] = gkit_SameSprings qv fuel qeg qe5 qfb qef qfg qfk := by kernel_rfl
noncomputable def mkit_SameSprings (qv : Mo) (fuel : Nat) (xs : List AV) : Option AV := match xs with
  | [AV.ro 11 qeg qe5 qfb, AV.ro 11 qef qfg qfk] => gkit_SameSprings qv fuel qeg qe5 qfb qef qfg qfk
  | _ => none
abbrev Rkit_SameSprings : List RS := [RS.one LK.b]
theorem gkit_SameSprings_sm (qv : Mo) (fuel : Nat) (hΓ : GamOk Pr (Gkit_SameSprings qv)) (hP : NamesOk Pr) : SmOk Pr 7 (smM Rkit_SameSprings (mkit_SameSprings qv fuel)) := by
  refine smM_ok (fuel := fuel) hΓ hP (LamOk.of 6 7 (Lkit_SameSprings qv fuel) 1 (by kernel_rfl) (fun i hi => ?_)) 7 7 Rkit_SameSprings _ (fun xs v h => ?_)
  · match i, hi with
    | 0, _ => exact gkit_SameSprings_L0 qv fuel
    | i + 1, hi => exact absurd hi (by omega)
  · unfold mkit_SameSprings at h
    split at h
    · exact (gkit_SameSprings_run qv fuel _ _ _ _ _ _).trans h
    · cases h
noncomputable def Skit_SameJoints_0 (vm vu : Nat) (wt : Ge) (vn vs : Nat) (ws : Ge) (ui5 : Int) : St := { env := [(0, AV.ro 4 vm vu wt), (1, AV.ro 4 vn vs ws), (5, AV.int .i64 ui5)], h := [], kd := [] }
noncomputable def Xkit_SameJoints_0_0 (qbs : Bool) : St := { env := [(4, AV.bool qbs)], h := [], kd := [] }
noncomputable def Xkit_SameJoints_0_1 : St := { env := [], h := [], kd := [] }
noncomputable def gkit_SameJoints_l0_step (fuel : Nat) (kn : Int → Option AV) (kx0 : Bool → Option AV) (kx1 : Option AV) (vm vu : Nat) (wt : Ge) (vn vs : Nat) (ws : Ge) (ui5 : Int) : Option AV :=
  bif decide (ui5 < (↑vm : Int)) then ck (decide (0 ≤ ui5)) <| ck (decide (ui5 < (↑vm : Int))) <| ck (fitKs [LK.s, LK.i .i32, LK.i .i32, LK.i .u8] [wt ui5.toNat 0, wt ui5.toNat 1, wt ui5.toNat 2, wt ui5.toNat 3]) <| ck (decide (0 ≤ ui5)) <| ck (decide (ui5 < (↑vn : Int))) <| ck (fitKs [LK.s, LK.i .i32, LK.i .i32, LK.i .u8] [ws ui5.toNat 0, ws ui5.toNat 1, ws ui5.toNat 2, ws ui5.toNat 3]) <| bif !bif strEq (toS (wt ui5.toNat 0)) (toS (ws ui5.toNat 0)) then bif toI (wt ui5.toNat 1) == toI (ws ui5.toNat 1) then bif toI (wt ui5.toNat 2) == toI (ws ui5.toNat 2) then bif toI (wt ui5.toNat 3) == toI (ws ui5.toNat 3) then true else false else false else false else false then kx0 (false)
    else kn (IntKind.i64.wrap (ui5 + 1))
  else kx1
noncomputable def gkit_SameJoints_l0 (fuel : Nat) (kx0 : Bool → Option AV) (kx1 : Option AV) (vm vu : Nat) (wt : Ge) (vn vs : Nat) (ws : Ge) : Nat → Int → Option AV
  | 0, _ => none
  | n' + 1, ui5 => gkit_SameJoints_l0_step fuel (gkit_SameJoints_l0 fuel kx0 kx1 vm vu wt vn vs ws n') kx0 kx1 vm vu wt vn vs ws ui5
noncomputable def Tkit_SameJoints_0 : TS' := ⟨[(0, TA.ro 4), (1, TA.ro 4), (5, TA.i .i64)], [], []⟩
noncomputable def Fkit_SameJoints_0 (fuel : Nat) (ps : List Pay) (K : Ex → St → Option AV) : Option AV := match ps with
  | .n vm :: .n vu :: .g wt :: .n vn :: .n vs :: .g ws :: .i ui5 :: [] => gkit_SameJoints_l0 fuel (fun qbs => K (Ex.ret) (Xkit_SameJoints_0_0 qbs)) (K (Ex.exit 0) Xkit_SameJoints_0_1) vm vu wt vn vs ws fuel ui5
  | _ => none
noncomputable def Lkit_SameJoints (fuel : Nat) : Lam AV := [(67106864, lam Tkit_SameJoints_0 (Fkit_SameJoints_0 fuel))]
noncomputable def Gkit_SameJoints : Gam := []
noncomputable def Ckit_SameJoints (fuel : Nat) : CallI AV := callX (Gkit_SameJoints) (execFn Pr (Gkit_SameJoints) [((6, 45), Lkit_SameJoints fuel)] fuel 6)
theorem gkit_SameJoints_l0_eq (fuel : Nat) (kn : St → Option AV) (K : Ex → St → Option AV) (vm vu : Nat) (wt : Ge) (vn vs : Nat) (ws : Ge) (qe7 ui5 : Int) :
    exec Pr (Gkit_SameJoints) (Lkit_SameJoints fuel) (fnNt Pr 45) fuel (Ckit_SameJoints fuel) (lp Pr 45 0).1 (lp Pr 45 0).2 (live (lp Pr 45 0).1 (lp Pr 45 0).2 0) (Skit_SameJoints_0 vm vu wt vn vs ws ui5) (fun e s => match e with | .normal => kn (headN (live (lp Pr 45 0).1 (lp Pr 45 0).2 0) (writes (lp Pr 45 0).1) (Skit_SameJoints_0 vm vu wt vn vs ws qe7) s) | e => K e s) =
    gkit_SameJoints_l0_step fuel (fun ui5 => kn (Skit_SameJoints_0 vm vu wt vn vs ws ui5)) (fun xu4 => K (Ex.ret) (Xkit_SameJoints_0_0 xu4)) (K (Ex.exit 0) Xkit_SameJoints_0_1) vm vu wt vn vs ws ui5 := by kernel_rfl
theorem gkit_SameJoints_l0_ok (fuel : Nat) (K : Ex → St → Option AV) (vm vu : Nat) (wt : Ge) (vn vs : Nat) (ws : Ge) (qe7 : Int) : ∀ (n' : Nat) (ui5 : Int),
    loopK (exec Pr (Gkit_SameJoints) (Lkit_SameJoints fuel) (fnNt Pr 45) fuel (Ckit_SameJoints fuel) (lp Pr 45 0).1 (lp Pr 45 0).2 (live (lp Pr 45 0).1 (lp Pr 45 0).2 0)) (headN (live (lp Pr 45 0).1 (lp Pr 45 0).2 0) (writes (lp Pr 45 0).1) (Skit_SameJoints_0 vm vu wt vn vs ws qe7)) n' (Skit_SameJoints_0 vm vu wt vn vs ws ui5) K = gkit_SameJoints_l0 fuel (fun xu4 => K (Ex.ret) (Xkit_SameJoints_0_0 xu4)) (K (Ex.exit 0) Xkit_SameJoints_0_1) vm vu wt vn vs ws n' ui5
  | 0, _ => rfl
  | n' + 1, ui5 => (gkit_SameJoints_l0_eq fuel (fun s => loopK (exec Pr (Gkit_SameJoints) (Lkit_SameJoints fuel) (fnNt Pr 45) fuel (Ckit_SameJoints fuel) (lp Pr 45 0).1 (lp Pr 45 0).2 (live (lp Pr 45 0).1 (lp Pr 45 0).2 0)) (headN (live (lp Pr 45 0).1 (lp Pr 45 0).2 0) (writes (lp Pr 45 0).1) (Skit_SameJoints_0 vm vu wt vn vs ws qe7)) n' s K) K vm vu wt vn vs ws qe7 ui5).trans
    (congrArg (fun kn => gkit_SameJoints_l0_step fuel kn (fun xu4 => K (Ex.ret) (Xkit_SameJoints_0_0 xu4)) (K (Ex.exit 0) Xkit_SameJoints_0_1) vm vu wt vn vs ws ui5) (funext fun _ => gkit_SameJoints_l0_ok fuel K vm vu wt vn vs ws qe7 n' _))
theorem gkit_SameJoints_L0 (fuel : Nat) : LOk Pr (Gkit_SameJoints) (Lkit_SameJoints fuel) (fnNt Pr 45) fuel (Ckit_SameJoints fuel) (lp Pr 45 0) := by
  refine .of Tkit_SameJoints_0 (Fkit_SameJoints_0 fuel) (fun L h => ?_) (fun ps st K r he hr => ?_)
  · have e : (Lkit_SameJoints fuel).get (writes (lp Pr 45 0).1) = some (lam Tkit_SameJoints_0 (Fkit_SameJoints_0 fuel)) := by kernel_rfl
    exact (Option.some.inj (e.symm.trans h)).symm
  · unfold Fkit_SameJoints_0 at hr
    split at hr
    · obtain rfl := (Option.some.inj he).symm
      exact (gkit_SameJoints_l0_ok fuel K _ _ _ _ _ _ _ fuel _).trans hr
    · cases hr
noncomputable def gkit_SameJoints (fuel qeg qe5 : Nat) (qfb : Ge) (qef qfg : Nat) (qfk : Ge) : Option AV :=
  bif (↑qeg : Int) != (↑qef : Int) then some (AV.bool false)
  else gkit_SameJoints_l0 fuel
    (fun (xu4 : Bool) => some (AV.bool xu4))
    (some (AV.bool true))
    (qeg)
    (qe5)
    (qfb)
    (qef)
    (qfg)
    (qfk) fuel (0)
theorem gkit_SameJoints_run (fuel qeg qe5 : Nat) (qfb : Ge) (qef qfg : Nat) (qfk : Ge) : run Pr (Gkit_SameJoints) [((6, 45), Lkit_SameJoints fuel)] fuel 7 45 [AV.ro 4 qeg qe5 qfb, AV.ro 4 qef qfg qfk] = gkit_SameJoints fuel qeg qe5 qfb qef qfg qfk := by kernel_rfl
noncomputable def mkit_SameJoints (fuel : Nat) (xs : List AV) : Option AV := match xs with
  | [AV.ro 4 qeg qe5 qfb, AV.ro 4 qef qfg qfk] => gkit_SameJoints fuel qeg qe5 qfb qef qfg qfk
  | _ => none
abbrev Rkit_SameJoints : List RS := [RS.one LK.b]
theorem gkit_SameJoints_sm (fuel : Nat) (hΓ : GamOk Pr (Gkit_SameJoints)) (hP : NamesOk Pr) : SmOk Pr 45 (smM Rkit_SameJoints (mkit_SameJoints fuel)) := by
  refine smM_ok (fuel := fuel) hΓ hP (LamOk.of 6 45 (Lkit_SameJoints fuel) 1 (by kernel_rfl) (fun i hi => ?_)) 7 45 Rkit_SameJoints _ (fun xs v h => ?_)
  · match i, hi with
    | 0, _ => exact gkit_SameJoints_L0 fuel
    | i + 1, hi => exact absurd hi (by omega)
  · unfold mkit_SameJoints at h
    split at h
    · exact (gkit_SameJoints_run fuel _ _ _ _ _ _).trans h
    · cases h
noncomputable def Lkit_SameMember (qh : Mo) (fuel : Nat) : Lam AV := []
noncomputable def Gkit_SameMember (qh : Mo) : Gam := [(44, smM [RS.one LK.b] qh)]
noncomputable def Ckit_SameMember (qh : Mo) (fuel : Nat) : CallI AV := callX (Gkit_SameMember qh) (execFn Pr (Gkit_SameMember qh) [((6, 47), Lkit_SameMember qh fuel)] fuel 6)
noncomputable def gkit_SameMember (qh : Mo) (fuel : Nat) (q9 : ByteArray) (wl y9 pr : Int) (qao qbk : Bool) (qbu qcd qdk : Option Nat) (wa : ByteArray) (wj y8 pv : Int) (qan qbl : Bool) (qbw qcb qdo : Option Nat) : Option AV :=
  ck (bif strEq q9 wa then true else true) <| ck (bif strEq q9 wa then true else true) <| ck (bif bif strEq q9 wa then wl == wj else false then true else true) <| ck (bif bif strEq q9 wa then wl == wj else false then true else true) <| ck (bif bif bif strEq q9 wa then wl == wj else false then y9 == y8 else false then true else true) <| ck (bif bif bif strEq q9 wa then wl == wj else false then y9 == y8 else false then true else true) <| ck (bif bif bif bif strEq q9 wa then wl == wj else false then y9 == y8 else false then pr == pv else false then true else true) <| ck (bif bif bif bif strEq q9 wa then wl == wj else false then y9 == y8 else false then pr == pv else false then true else true) <| ck (bif bif bif bif bif strEq q9 wa then wl == wj else false then y9 == y8 else false then pr == pv else false then qao == qan else false then true else true) <| ck (bif bif bif bif bif strEq q9 wa then wl == wj else false then y9 == y8 else false then pr == pv else false then qao == qan else false then true else true) <| ck (bif bif bif bif bif bif strEq q9 wa then wl == wj else false then y9 == y8 else false then pr == pv else false then qao == qan else false then qbk == qbl else false then true else true) <| ck (bif bif bif bif bif bif strEq q9 wa then wl == wj else false then y9 == y8 else false then pr == pv else false then qao == qan else false then qbk == qbl else false then true else true) <| ck (bif bif bif bif bif bif strEq q9 wa then wl == wj else false then y9 == y8 else false then pr == pv else false then qao == qan else false then qbk == qbl else false then okM [RS.one LK.b] (qh [AV.flt .f64 qbu, AV.flt .f64 qbw]) else true) <| ck (bif bif bif bif bif bif bif strEq q9 wa then wl == wj else false then y9 == y8 else false then pr == pv else false then qao == qan else false then qbk == qbl else false then toB (getV (qh [AV.flt .f64 qbu, AV.flt .f64 qbw])) else false then true else true) <| ck (bif bif bif bif bif bif bif strEq q9 wa then wl == wj else false then y9 == y8 else false then pr == pv else false then qao == qan else false then qbk == qbl else false then toB (getV (qh [AV.flt .f64 qbu, AV.flt .f64 qbw])) else false then true else true) <| ck (bif bif bif bif bif bif bif strEq q9 wa then wl == wj else false then y9 == y8 else false then pr == pv else false then qao == qan else false then qbk == qbl else false then toB (getV (qh [AV.flt .f64 qbu, AV.flt .f64 qbw])) else false then okM [RS.one LK.b] (qh [AV.flt .f64 qcd, AV.flt .f64 qcb]) else true) <| ck (bif bif bif bif bif bif bif bif strEq q9 wa then wl == wj else false then y9 == y8 else false then pr == pv else false then qao == qan else false then qbk == qbl else false then toB (getV (qh [AV.flt .f64 qbu, AV.flt .f64 qbw])) else false then toB (getV (qh [AV.flt .f64 qcd, AV.flt .f64 qcb])) else false then true else true) <| ck (bif bif bif bif bif bif bif bif strEq q9 wa then wl == wj else false then y9 == y8 else false then pr == pv else false then qao == qan else false then qbk == qbl else false then toB (getV (qh [AV.flt .f64 qbu, AV.flt .f64 qbw])) else false then toB (getV (qh [AV.flt .f64 qcd, AV.flt .f64 qcb])) else false then true else true) <| ck (bif bif bif bif bif bif bif bif strEq q9 wa then wl == wj else false then y9 == y8 else false then pr == pv else false then qao == qan else false then qbk == qbl else false then toB (getV (qh [AV.flt .f64 qbu, AV.flt .f64 qbw])) else false then toB (getV (qh [AV.flt .f64 qcd, AV.flt .f64 qcb])) else false then okM [RS.one LK.b] (qh [AV.flt .f64 qdk, AV.flt .f64 qdo]) else true) <| some (AV.bool (bif bif bif bif bif bif bif bif strEq q9 wa then wl == wj else false then y9 == y8 else false then pr == pv else false then qao == qan else false then qbk == qbl else false then toB (getV (qh [AV.flt .f64 qbu, AV.flt .f64 qbw])) else false then toB (getV (qh [AV.flt .f64 qcd, AV.flt .f64 qcb])) else false then toB (getV (qh [AV.flt .f64 qdk, AV.flt .f64 qdo])) else false))
theorem gkit_SameMember_run (qh : Mo) (fuel : Nat) (q9 : ByteArray) (wl y9 pr : Int) (qao qbk : Bool) (qbu qcd qdk : Option Nat) (wa : ByteArray) (wj y8 pv : Int) (qan qbl : Bool) (qbw qcb qdo : Option Nat) : run Pr (Gkit_SameMember qh) [((6, 47), Lkit_SameMember qh fuel)] fuel 7 47 [AV.agg [AV.str q9, AV.int .u8 wl, AV.int .i64 y9, AV.int .i64 pr, AV.bool qao, AV.bool qbk, AV.flt .f64 qbu, AV.flt .f64 qcd, AV.flt .f64 qdk], AV.agg [AV.str wa, AV.int .u8 wj, AV.int .i64 y8, AV.int .i64 pv, AV.bool qan, AV.bool qbl, AV.flt .f64 qbw, AV.flt .f64 qcb, AV.flt .f64 qdo]] = gkit_SameMember qh fuel q9 wl y9 pr qao qbk qbu qcd qdk wa wj y8 pv qan qbl qbw qcb qdo := by kernel_rfl
noncomputable def mkit_SameMember (qh : Mo) (fuel : Nat) (xs : List AV) : Option AV := match xs with
  | [AV.agg [AV.str q9, AV.int .u8 wl, AV.int .i64 y9, AV.int .i64 pr, AV.bool qao, AV.bool qbk, AV.flt .f64 qbu, AV.flt .f64 qcd, AV.flt .f64 qdk], AV.agg [AV.str wa, AV.int .u8 wj, AV.int .i64 y8, AV.int .i64 pv, AV.bool qan, AV.bool qbl, AV.flt .f64 qbw, AV.flt .f64 qcb, AV.flt .f64 qdo]] => gkit_SameMember qh fuel q9 wl y9 pr qao qbk qbu qcd qdk wa wj y8 pv qan qbl qbw qcb qdo
  | _ => none
abbrev Rkit_SameMember : List RS := [RS.one LK.b]
theorem gkit_SameMember_sm (qh : Mo) (fuel : Nat) (hΓ : GamOk Pr (Gkit_SameMember qh)) (hP : NamesOk Pr) : SmOk Pr 47 (smM Rkit_SameMember (mkit_SameMember qh fuel)) := by
  refine smM_ok (fuel := fuel) hΓ hP (LamOk.of 6 47 (Lkit_SameMember qh fuel) 0 (by kernel_rfl) (fun i hi => ?_)) 7 47 Rkit_SameMember _ (fun xs v h => ?_)
  · match i, hi with
    | i + 0, hi => exact absurd hi (by omega)
  · unfold mkit_SameMember at h
    split at h
    · exact (gkit_SameMember_run qh fuel _ _ _ _ _ _ _ _ _ _ _ _ _ _ _ _ _ _).trans h
    · cases h
noncomputable def Skit_SameMembers_0 (vm vu : Nat) (wt : Ge) (vn vs : Nat) (ws : Ge) (ui5 : Int) : St := { env := [(0, AV.ro 9 vm vu wt), (1, AV.ro 9 vn vs ws), (5, AV.int .i64 ui5)], h := [], kd := [] }
noncomputable def Xkit_SameMembers_0_0 (qbs : Bool) : St := { env := [(4, AV.bool qbs)], h := [], kd := [] }
noncomputable def Xkit_SameMembers_0_1 : St := { env := [], h := [], kd := [] }
noncomputable def gkit_SameMembers_l0_step (qa : Mo) (fuel : Nat) (kn : Int → Option AV) (kx0 : Bool → Option AV) (kx1 : Option AV) (vm vu : Nat) (wt : Ge) (vn vs : Nat) (ws : Ge) (ui5 : Int) : Option AV :=
  bif decide (ui5 < (↑vm : Int)) then ck (decide (0 ≤ ui5)) <| ck (decide (ui5 < (↑vm : Int))) <| ck (fitKs [LK.s, LK.i .u8, LK.i .i64, LK.i .i64, LK.b, LK.b, LK.f .f64, LK.f .f64, LK.f .f64] [wt ui5.toNat 0, wt ui5.toNat 1, wt ui5.toNat 2, wt ui5.toNat 3, wt ui5.toNat 4, wt ui5.toNat 5, wt ui5.toNat 6, wt ui5.toNat 7, wt ui5.toNat 8]) <| ck (decide (0 ≤ ui5)) <| ck (decide (ui5 < (↑vn : Int))) <| ck (fitKs [LK.s, LK.i .u8, LK.i .i64, LK.i .i64, LK.b, LK.b, LK.f .f64, LK.f .f64, LK.f .f64] [ws ui5.toNat 0, ws ui5.toNat 1, ws ui5.toNat 2, ws ui5.toNat 3, ws ui5.toNat 4, ws ui5.toNat 5, ws ui5.toNat 6, ws ui5.toNat 7, ws ui5.toNat 8]) <| ck (okM [RS.one LK.b] (qa [AV.agg [AV.str (toS (wt ui5.toNat 0)), AV.int .u8 (toI (wt ui5.toNat 1)), AV.int .i64 (toI (wt ui5.toNat 2)), AV.int .i64 (toI (wt ui5.toNat 3)), AV.bool (toB (wt ui5.toNat 4)), AV.bool (toB (wt ui5.toNat 5)), AV.flt .f64 (toF (wt ui5.toNat 6)), AV.flt .f64 (toF (wt ui5.toNat 7)), AV.flt .f64 (toF (wt ui5.toNat 8))], AV.agg [AV.str (toS (ws ui5.toNat 0)), AV.int .u8 (toI (ws ui5.toNat 1)), AV.int .i64 (toI (ws ui5.toNat 2)), AV.int .i64 (toI (ws ui5.toNat 3)), AV.bool (toB (ws ui5.toNat 4)), AV.bool (toB (ws ui5.toNat 5)), AV.flt .f64 (toF (ws ui5.toNat 6)), AV.flt .f64 (toF (ws ui5.toNat 7)), AV.flt .f64 (toF (ws ui5.toNat 8))]])) <| bif !toB (getV (qa [AV.agg [AV.str (toS (wt ui5.toNat 0)), AV.int .u8 (toI (wt ui5.toNat 1)), AV.int .i64 (toI (wt ui5.toNat 2)), AV.int .i64 (toI (wt ui5.toNat 3)), AV.bool (toB (wt ui5.toNat 4)), AV.bool (toB (wt ui5.toNat 5)), AV.flt .f64 (toF (wt ui5.toNat 6)), AV.flt .f64 (toF (wt ui5.toNat 7)), AV.flt .f64 (toF (wt ui5.toNat 8))], AV.agg [AV.str (toS (ws ui5.toNat 0)), AV.int .u8 (toI (ws ui5.toNat 1)), AV.int .i64 (toI (ws ui5.toNat 2)), AV.int .i64 (toI (ws ui5.toNat 3)), AV.bool (toB (ws ui5.toNat 4)), AV.bool (toB (ws ui5.toNat 5)), AV.flt .f64 (toF (ws ui5.toNat 6)), AV.flt .f64 (toF (ws ui5.toNat 7)), AV.flt .f64 (toF (ws ui5.toNat 8))]])) then kx0 (false)
    else kn (IntKind.i64.wrap (ui5 + 1))
  else kx1
noncomputable def gkit_SameMembers_l0 (qa : Mo) (fuel : Nat) (kx0 : Bool → Option AV) (kx1 : Option AV) (vm vu : Nat) (wt : Ge) (vn vs : Nat) (ws : Ge) : Nat → Int → Option AV
  | 0, _ => none
  | n' + 1, ui5 => gkit_SameMembers_l0_step qa fuel (gkit_SameMembers_l0 qa fuel kx0 kx1 vm vu wt vn vs ws n') kx0 kx1 vm vu wt vn vs ws ui5
noncomputable def Tkit_SameMembers_0 : TS' := ⟨[(0, TA.ro 9), (1, TA.ro 9), (5, TA.i .i64)], [], []⟩
noncomputable def Fkit_SameMembers_0 (qa : Mo) (fuel : Nat) (ps : List Pay) (K : Ex → St → Option AV) : Option AV := match ps with
  | .n vm :: .n vu :: .g wt :: .n vn :: .n vs :: .g ws :: .i ui5 :: [] => gkit_SameMembers_l0 qa fuel (fun qbs => K (Ex.ret) (Xkit_SameMembers_0_0 qbs)) (K (Ex.exit 0) Xkit_SameMembers_0_1) vm vu wt vn vs ws fuel ui5
  | _ => none
noncomputable def Lkit_SameMembers (qa : Mo) (fuel : Nat) : Lam AV := [(134215728, lam Tkit_SameMembers_0 (Fkit_SameMembers_0 qa fuel))]
noncomputable def Gkit_SameMembers (qa : Mo) : Gam := [(47, smM [RS.one LK.b] qa)]
noncomputable def Ckit_SameMembers (qa : Mo) (fuel : Nat) : CallI AV := callX (Gkit_SameMembers qa) (execFn Pr (Gkit_SameMembers qa) [((6, 46), Lkit_SameMembers qa fuel)] fuel 6)
theorem gkit_SameMembers_l0_eq (qa : Mo) (fuel : Nat) (kn : St → Option AV) (K : Ex → St → Option AV) (vm vu : Nat) (wt : Ge) (vn vs : Nat) (ws : Ge) (qe7 ui5 : Int) :
    exec Pr (Gkit_SameMembers qa) (Lkit_SameMembers qa fuel) (fnNt Pr 46) fuel (Ckit_SameMembers qa fuel) (lp Pr 46 0).1 (lp Pr 46 0).2 (live (lp Pr 46 0).1 (lp Pr 46 0).2 0) (Skit_SameMembers_0 vm vu wt vn vs ws ui5) (fun e s => match e with | .normal => kn (headN (live (lp Pr 46 0).1 (lp Pr 46 0).2 0) (writes (lp Pr 46 0).1) (Skit_SameMembers_0 vm vu wt vn vs ws qe7) s) | e => K e s) =
    gkit_SameMembers_l0_step qa fuel (fun ui5 => kn (Skit_SameMembers_0 vm vu wt vn vs ws ui5)) (fun xu4 => K (Ex.ret) (Xkit_SameMembers_0_0 xu4)) (K (Ex.exit 0) Xkit_SameMembers_0_1) vm vu wt vn vs ws ui5 := by kernel_rfl
theorem gkit_SameMembers_l0_ok (qa : Mo) (fuel : Nat) (K : Ex → St → Option AV) (vm vu : Nat) (wt : Ge) (vn vs : Nat) (ws : Ge) (qe7 : Int) : ∀ (n' : Nat) (ui5 : Int),
    loopK (exec Pr (Gkit_SameMembers qa) (Lkit_SameMembers qa fuel) (fnNt Pr 46) fuel (Ckit_SameMembers qa fuel) (lp Pr 46 0).1 (lp Pr 46 0).2 (live (lp Pr 46 0).1 (lp Pr 46 0).2 0)) (headN (live (lp Pr 46 0).1 (lp Pr 46 0).2 0) (writes (lp Pr 46 0).1) (Skit_SameMembers_0 vm vu wt vn vs ws qe7)) n' (Skit_SameMembers_0 vm vu wt vn vs ws ui5) K = gkit_SameMembers_l0 qa fuel (fun xu4 => K (Ex.ret) (Xkit_SameMembers_0_0 xu4)) (K (Ex.exit 0) Xkit_SameMembers_0_1) vm vu wt vn vs ws n' ui5
  | 0, _ => rfl
  | n' + 1, ui5 => (gkit_SameMembers_l0_eq qa fuel (fun s => loopK (exec Pr (Gkit_SameMembers qa) (Lkit_SameMembers qa fuel) (fnNt Pr 46) fuel (Ckit_SameMembers qa fuel) (lp Pr 46 0).1 (lp Pr 46 0).2 (live (lp Pr 46 0).1 (lp Pr 46 0).2 0)) (headN (live (lp Pr 46 0).1 (lp Pr 46 0).2 0) (writes (lp Pr 46 0).1) (Skit_SameMembers_0 vm vu wt vn vs ws qe7)) n' s K) K vm vu wt vn vs ws qe7 ui5).trans
    (congrArg (fun kn => gkit_SameMembers_l0_step qa fuel kn (fun xu4 => K (Ex.ret) (Xkit_SameMembers_0_0 xu4)) (K (Ex.exit 0) Xkit_SameMembers_0_1) vm vu wt vn vs ws ui5) (funext fun _ => gkit_SameMembers_l0_ok qa fuel K vm vu wt vn vs ws qe7 n' _))
theorem gkit_SameMembers_L0 (qa : Mo) (fuel : Nat) : LOk Pr (Gkit_SameMembers qa) (Lkit_SameMembers qa fuel) (fnNt Pr 46) fuel (Ckit_SameMembers qa fuel) (lp Pr 46 0) := by
  refine .of Tkit_SameMembers_0 (Fkit_SameMembers_0 qa fuel) (fun L h => ?_) (fun ps st K r he hr => ?_)
  · have e : (Lkit_SameMembers qa fuel).get (writes (lp Pr 46 0).1) = some (lam Tkit_SameMembers_0 (Fkit_SameMembers_0 qa fuel)) := by kernel_rfl
    exact (Option.some.inj (e.symm.trans h)).symm
  · unfold Fkit_SameMembers_0 at hr
    split at hr
    · obtain rfl := (Option.some.inj he).symm
      exact (gkit_SameMembers_l0_ok qa fuel K _ _ _ _ _ _ _ fuel _).trans hr
    · cases hr
noncomputable def gkit_SameMembers (qa : Mo) (fuel qeg qe5 : Nat) (qfb : Ge) (qef qfg : Nat) (qfk : Ge) : Option AV :=
  bif (↑qeg : Int) != (↑qef : Int) then some (AV.bool false)
  else gkit_SameMembers_l0 qa fuel
    (fun (xu4 : Bool) => some (AV.bool xu4))
    (some (AV.bool true))
    (qeg)
    (qe5)
    (qfb)
    (qef)
    (qfg)
    (qfk) fuel (0)
theorem gkit_SameMembers_run (qa : Mo) (fuel qeg qe5 : Nat) (qfb : Ge) (qef qfg : Nat) (qfk : Ge) : run Pr (Gkit_SameMembers qa) [((6, 46), Lkit_SameMembers qa fuel)] fuel 7 46 [AV.ro 9 qeg qe5 qfb, AV.ro 9 qef qfg qfk] = gkit_SameMembers qa fuel qeg qe5 qfb qef qfg qfk := by kernel_rfl
noncomputable def mkit_SameMembers (qa : Mo) (fuel : Nat) (xs : List AV) : Option AV := match xs with
  | [AV.ro 9 qeg qe5 qfb, AV.ro 9 qef qfg qfk] => gkit_SameMembers qa fuel qeg qe5 qfb qef qfg qfk
  | _ => none
abbrev Rkit_SameMembers : List RS := [RS.one LK.b]
theorem gkit_SameMembers_sm (qa : Mo) (fuel : Nat) (hΓ : GamOk Pr (Gkit_SameMembers qa)) (hP : NamesOk Pr) : SmOk Pr 46 (smM Rkit_SameMembers (mkit_SameMembers qa fuel)) := by
  refine smM_ok (fuel := fuel) hΓ hP (LamOk.of 6 46 (Lkit_SameMembers qa fuel) 1 (by kernel_rfl) (fun i hi => ?_)) 7 46 Rkit_SameMembers _ (fun xs v h => ?_)
  · match i, hi with
    | 0, _ => exact gkit_SameMembers_L0 qa fuel
    | i + 1, hi => exact absurd hi (by omega)
  · unfold mkit_SameMembers at h
    split at h
    · exact (gkit_SameMembers_run qa fuel _ _ _ _ _ _).trans h
    · cases h
noncomputable def Lkit_SamePlan (vc vi : Mo) (fuel : Nat) : Lam AV := []
noncomputable def Gkit_SamePlan (vc vi : Mo) : Gam := [(45, smM [RS.one LK.b] vc), (46, smM [RS.one LK.b] vi)]
noncomputable def Ckit_SamePlan (vc vi : Mo) (fuel : Nat) : CallI AV := callX (Gkit_SamePlan vc vi) (execFn Pr (Gkit_SamePlan vc vi) [((6, 20), Lkit_SamePlan vc vi fuel)] fuel 6)
noncomputable def gkit_SamePlan (vc vi : Mo) (fuel qep qe0 : Nat) (qer : Ge) (qg6 qg4 : Nat) (qg9 : Ge) (qeq qeo : Nat) (qe2 : Ge) (qg5 qgy : Nat) (qg7 : Ge) : Option AV :=
  ck (okM [RS.one LK.b] (vc [AV.ro 4 qep qe0 qer, AV.ro 4 qeq qeo qe2])) <| ck (bif toB (getV (vc [AV.ro 4 qep qe0 qer, AV.ro 4 qeq qeo qe2])) then true else true) <| ck (bif toB (getV (vc [AV.ro 4 qep qe0 qer, AV.ro 4 qeq qeo qe2])) then true else true) <| ck (bif toB (getV (vc [AV.ro 4 qep qe0 qer, AV.ro 4 qeq qeo qe2])) then okM [RS.one LK.b] (vi [AV.ro 9 qg6 qg4 qg9, AV.ro 9 qg5 qgy qg7]) else true) <| some (AV.bool (bif toB (getV (vc [AV.ro 4 qep qe0 qer, AV.ro 4 qeq qeo qe2])) then toB (getV (vi [AV.ro 9 qg6 qg4 qg9, AV.ro 9 qg5 qgy qg7])) else false))
theorem gkit_SamePlan_run (vc vi : Mo) (fuel qep qe0 : Nat) (qer : Ge) (qg6 qg4 : Nat) (qg9 : Ge) (qeq qeo : Nat) (qe2 : Ge) (qg5 qgy : Nat) (qg7 : Ge) : run Pr (Gkit_SamePlan vc vi) [((6, 20), Lkit_SamePlan vc vi fuel)] fuel 7 20 [AV.agg [AV.ro 4 qep qe0 qer, AV.ro 9 qg6 qg4 qg9], AV.agg [AV.ro 4 qeq qeo qe2, AV.ro 9 qg5 qgy qg7]] = gkit_SamePlan vc vi fuel qep qe0 qer qg6 qg4 qg9 qeq qeo qe2 qg5 qgy qg7 := by kernel_rfl
noncomputable def mkit_SamePlan (vc vi : Mo) (fuel : Nat) (xs : List AV) : Option AV := match xs with
  | [AV.agg [AV.ro 4 qep qe0 qer, AV.ro 9 qg6 qg4 qg9], AV.agg [AV.ro 4 qeq qeo qe2, AV.ro 9 qg5 qgy qg7]] => gkit_SamePlan vc vi fuel qep qe0 qer qg6 qg4 qg9 qeq qeo qe2 qg5 qgy qg7
  | _ => none
abbrev Rkit_SamePlan : List RS := [RS.one LK.b]
theorem gkit_SamePlan_sm (vc vi : Mo) (fuel : Nat) (hΓ : GamOk Pr (Gkit_SamePlan vc vi)) (hP : NamesOk Pr) : SmOk Pr 20 (smM Rkit_SamePlan (mkit_SamePlan vc vi fuel)) := by
  refine smM_ok (fuel := fuel) hΓ hP (LamOk.of 6 20 (Lkit_SamePlan vc vi fuel) 0 (by kernel_rfl) (fun i hi => ?_)) 7 20 Rkit_SamePlan _ (fun xs v h => ?_)
  · match i, hi with
    | i + 0, hi => exact absurd hi (by omega)
  · unfold mkit_SamePlan at h
    split at h
    · exact (gkit_SamePlan_run vc vi fuel _ _ _ _ _ _ _ _ _ _ _ _).trans h
    · cases h
noncomputable def Skit_KeptJoints_0 (va y1 : Nat) (ve : Ge) (pk p5 : Nat) (z2 : Ge) (ui6 : Int) : St := { env := [(1, AV.ro 4 va y1 ve), (5, AV.ro 4 pk p5 z2), (6, AV.int .i64 ui6)], h := [], kd := [] }
noncomputable def Xkit_KeptJoints_0_0 (qbs : Bool) : St := { env := [(4, AV.bool qbs)], h := [], kd := [] }
noncomputable def Xkit_KeptJoints_0_1 : St := { env := [], h := [], kd := [] }
noncomputable def gkit_KeptJoints_l0_step (qe : Mo) (fuel : Nat) (kn : Int → Option AV) (kx0 : Bool → Option AV) (kx1 : Option AV) (va y1 : Nat) (ve : Ge) (pk p5 : Nat) (z2 : Ge) (ui6 : Int) : Option AV :=
  bif decide (ui6 < (↑pk : Int)) then ck (bif decide (ui6 < (↑va : Int)) then decide (0 ≤ ui6) else true) <| ck (bif decide (ui6 < (↑va : Int)) then decide (ui6 < (↑pk : Int)) else true) <| ck (bif decide (ui6 < (↑va : Int)) then true else true) <| ck (bif decide (ui6 < (↑va : Int)) then fitKs [LK.s, LK.i .i32, LK.i .i32, LK.i .u8] [z2 ui6.toNat 0, z2 ui6.toNat 1, z2 ui6.toNat 2, z2 ui6.toNat 3] else true) <| ck (bif decide (ui6 < (↑va : Int)) then decide (0 ≤ ui6) else true) <| ck (bif decide (ui6 < (↑va : Int)) then decide (ui6 < (↑va : Int)) else true) <| ck (bif decide (ui6 < (↑va : Int)) then true else true) <| ck (bif decide (ui6 < (↑va : Int)) then fitKs [LK.s, LK.i .i32, LK.i .i32, LK.i .u8] [ve ui6.toNat 0, ve ui6.toNat 1, ve ui6.toNat 2, ve ui6.toNat 3] else true) <| ck (bif decide (ui6 ≥ (↑va : Int)) then decide (0 ≤ ui6) else true) <| ck (bif decide (ui6 ≥ (↑va : Int)) then decide (ui6 < (↑pk : Int)) else true) <| ck (bif decide (ui6 ≥ (↑va : Int)) then true else true) <| ck (bif decide (ui6 ≥ (↑va : Int)) then fitKs [LK.s, LK.i .i32, LK.i .i32, LK.i .u8] [z2 ui6.toNat 0, z2 ui6.toNat 1, z2 ui6.toNat 2, z2 ui6.toNat 3] else true) <| let r0 : Option AV := qe [AV.int .i64 1, AV.int .i64 (IntKind.i64.wrap (ui6 - (↑va : Int)))]; ck (bif decide (ui6 ≥ (↑va : Int)) then okM [RS.agg [LK.s, LK.i .i32, LK.i .i32, LK.i .u8]] r0 else true) <| bif bif bif decide (ui6 < (↑va : Int)) then !bif strEq (toS (z2 ui6.toNat 0)) (toS (ve ui6.toNat 0)) then bif toI (z2 ui6.toNat 1) == toI (ve ui6.toNat 1) then bif toI (z2 ui6.toNat 2) == toI (ve ui6.toNat 2) then bif toI (z2 ui6.toNat 3) == toI (ve ui6.toNat 3) then true else false else false else false else false else false then true else bif decide (ui6 ≥ (↑va : Int)) then !bif strEq (toS (z2 ui6.toNat 0)) (toS ((toC (getV r0)).headD AV.dead)) then bif toI (z2 ui6.toNat 1) == toI ((toC (getV r0)).tail.headD AV.dead) then bif toI (z2 ui6.toNat 2) == toI ((toC (getV r0)).tail.tail.headD AV.dead) then bif toI (z2 ui6.toNat 3) == toI ((toC (getV r0)).tail.tail.tail.headD AV.dead) then true else false else false else false else false else false then kx0 (false)
    else kn (IntKind.i64.wrap (ui6 + 1))
  else kx1
noncomputable def gkit_KeptJoints_l0 (qe : Mo) (fuel : Nat) (kx0 : Bool → Option AV) (kx1 : Option AV) (va y1 : Nat) (ve : Ge) (pk p5 : Nat) (z2 : Ge) : Nat → Int → Option AV
  | 0, _ => none
  | n' + 1, ui6 => gkit_KeptJoints_l0_step qe fuel (gkit_KeptJoints_l0 qe fuel kx0 kx1 va y1 ve pk p5 z2 n') kx0 kx1 va y1 ve pk p5 z2 ui6
noncomputable def Tkit_KeptJoints_0 : TS' := ⟨[(1, TA.ro 4), (5, TA.ro 4), (6, TA.i .i64)], [], []⟩
noncomputable def Fkit_KeptJoints_0 (qe : Mo) (fuel : Nat) (ps : List Pay) (K : Ex → St → Option AV) : Option AV := match ps with
  | .n va :: .n y1 :: .g ve :: .n pk :: .n p5 :: .g z2 :: .i ui6 :: [] => gkit_KeptJoints_l0 qe fuel (fun qbs => K (Ex.ret) (Xkit_KeptJoints_0_0 qbs)) (K (Ex.exit 0) Xkit_KeptJoints_0_1) va y1 ve pk p5 z2 fuel ui6
  | _ => none
noncomputable def Lkit_KeptJoints (qe : Mo) (fuel : Nat) : Lam AV := [(288230376151580752, lam Tkit_KeptJoints_0 (Fkit_KeptJoints_0 qe fuel))]
noncomputable def Gkit_KeptJoints (qe : Mo) : Gam := [(26, smM [RS.agg [LK.s, LK.i .i32, LK.i .i32, LK.i .u8]] qe)]
noncomputable def Ckit_KeptJoints (qe : Mo) (fuel : Nat) : CallI AV := callX (Gkit_KeptJoints qe) (execFn Pr (Gkit_KeptJoints qe) [((6, 21), Lkit_KeptJoints qe fuel)] fuel 6)
theorem gkit_KeptJoints_l0_eq (qe : Mo) (fuel : Nat) (kn : St → Option AV) (K : Ex → St → Option AV) (va y1 : Nat) (ve : Ge) (pk p5 : Nat) (z2 : Ge) (qhk ui6 : Int) :
    exec Pr (Gkit_KeptJoints qe) (Lkit_KeptJoints qe fuel) (fnNt Pr 21) fuel (Ckit_KeptJoints qe fuel) (lp Pr 21 0).1 (lp Pr 21 0).2 (live (lp Pr 21 0).1 (lp Pr 21 0).2 0) (Skit_KeptJoints_0 va y1 ve pk p5 z2 ui6) (fun e s => match e with | .normal => kn (headN (live (lp Pr 21 0).1 (lp Pr 21 0).2 0) (writes (lp Pr 21 0).1) (Skit_KeptJoints_0 va y1 ve pk p5 z2 qhk) s) | e => K e s) =
    gkit_KeptJoints_l0_step qe fuel (fun ui6 => kn (Skit_KeptJoints_0 va y1 ve pk p5 z2 ui6)) (fun xu4 => K (Ex.ret) (Xkit_KeptJoints_0_0 xu4)) (K (Ex.exit 0) Xkit_KeptJoints_0_1) va y1 ve pk p5 z2 ui6 := by kernel_rfl
theorem gkit_KeptJoints_l0_ok (qe : Mo) (fuel : Nat) (K : Ex → St → Option AV) (va y1 : Nat) (ve : Ge) (pk p5 : Nat) (z2 : Ge) (qhk : Int) : ∀ (n' : Nat) (ui6 : Int),
    loopK (exec Pr (Gkit_KeptJoints qe) (Lkit_KeptJoints qe fuel) (fnNt Pr 21) fuel (Ckit_KeptJoints qe fuel) (lp Pr 21 0).1 (lp Pr 21 0).2 (live (lp Pr 21 0).1 (lp Pr 21 0).2 0)) (headN (live (lp Pr 21 0).1 (lp Pr 21 0).2 0) (writes (lp Pr 21 0).1) (Skit_KeptJoints_0 va y1 ve pk p5 z2 qhk)) n' (Skit_KeptJoints_0 va y1 ve pk p5 z2 ui6) K = gkit_KeptJoints_l0 qe fuel (fun xu4 => K (Ex.ret) (Xkit_KeptJoints_0_0 xu4)) (K (Ex.exit 0) Xkit_KeptJoints_0_1) va y1 ve pk p5 z2 n' ui6
  | 0, _ => rfl
  | n' + 1, ui6 => (gkit_KeptJoints_l0_eq qe fuel (fun s => loopK (exec Pr (Gkit_KeptJoints qe) (Lkit_KeptJoints qe fuel) (fnNt Pr 21) fuel (Ckit_KeptJoints qe fuel) (lp Pr 21 0).1 (lp Pr 21 0).2 (live (lp Pr 21 0).1 (lp Pr 21 0).2 0)) (headN (live (lp Pr 21 0).1 (lp Pr 21 0).2 0) (writes (lp Pr 21 0).1) (Skit_KeptJoints_0 va y1 ve pk p5 z2 qhk)) n' s K) K va y1 ve pk p5 z2 qhk ui6).trans
    (congrArg (fun kn => gkit_KeptJoints_l0_step qe fuel kn (fun xu4 => K (Ex.ret) (Xkit_KeptJoints_0_0 xu4)) (K (Ex.exit 0) Xkit_KeptJoints_0_1) va y1 ve pk p5 z2 ui6) (funext fun _ => gkit_KeptJoints_l0_ok qe fuel K va y1 ve pk p5 z2 qhk n' _))
theorem gkit_KeptJoints_L0 (qe : Mo) (fuel : Nat) : LOk Pr (Gkit_KeptJoints qe) (Lkit_KeptJoints qe fuel) (fnNt Pr 21) fuel (Ckit_KeptJoints qe fuel) (lp Pr 21 0) := by
  refine .of Tkit_KeptJoints_0 (Fkit_KeptJoints_0 qe fuel) (fun L h => ?_) (fun ps st K r he hr => ?_)
  · have e : (Lkit_KeptJoints qe fuel).get (writes (lp Pr 21 0).1) = some (lam Tkit_KeptJoints_0 (Fkit_KeptJoints_0 qe fuel)) := by kernel_rfl
    exact (Option.some.inj (e.symm.trans h)).symm
  · unfold Fkit_KeptJoints_0 at hr
    split at hr
    · obtain rfl := (Option.some.inj he).symm
      exact (gkit_KeptJoints_l0_ok qe fuel K _ _ _ _ _ _ _ fuel _).trans hr
    · cases hr
noncomputable def gkit_KeptJoints (qe : Mo) (fuel qe4 qeh : Nat) (qfh : Ge) (qew qh0 : Nat) (qhz : Ge) : Option AV :=
  bif (↑qe4 : Int) != (↑qew : Int) then some (AV.bool false)
  else ck (decide (0 ≤ IntKind.i64.wrap ((↑qew : Int) + 12))) <| ck (decide (IntKind.i64.wrap ((↑qew : Int) + 12) ≤ (↑qeh : Int))) <| gkit_KeptJoints_l0 qe fuel
    (fun (xu4 : Bool) => some (AV.bool xu4))
    (some (AV.bool true))
    (qew)
    (qh0)
    (qhz)
    ((IntKind.i64.wrap ((↑qew : Int) + 12)).toNat - 0)
    (qeh - 0)
    (fun (i : Nat) => qfh (0 + i)) fuel (0)
theorem gkit_KeptJoints_run (qe : Mo) (fuel qe4 qeh : Nat) (qfh : Ge) (qew qh0 : Nat) (qhz : Ge) : run Pr (Gkit_KeptJoints qe) [((6, 21), Lkit_KeptJoints qe fuel)] fuel 7 21 [AV.ro 4 qe4 qeh qfh, AV.ro 4 qew qh0 qhz] = gkit_KeptJoints qe fuel qe4 qeh qfh qew qh0 qhz := by kernel_rfl
noncomputable def mkit_KeptJoints (qe : Mo) (fuel : Nat) (xs : List AV) : Option AV := match xs with
  | [AV.ro 4 qe4 qeh qfh, AV.ro 4 qew qh0 qhz] => gkit_KeptJoints qe fuel qe4 qeh qfh qew qh0 qhz
  | _ => none
abbrev Rkit_KeptJoints : List RS := [RS.one LK.b]
theorem gkit_KeptJoints_sm (qe : Mo) (fuel : Nat) (hΓ : GamOk Pr (Gkit_KeptJoints qe)) (hP : NamesOk Pr) : SmOk Pr 21 (smM Rkit_KeptJoints (mkit_KeptJoints qe fuel)) := by
  refine smM_ok (fuel := fuel) hΓ hP (LamOk.of 6 21 (Lkit_KeptJoints qe fuel) 1 (by kernel_rfl) (fun i hi => ?_)) 7 21 Rkit_KeptJoints _ (fun xs v h => ?_)
  · match i, hi with
    | 0, _ => exact gkit_KeptJoints_L0 qe fuel
    | i + 1, hi => exact absurd hi (by omega)
  · unfold mkit_KeptJoints at h
    split at h
    · exact (gkit_KeptJoints_run qe fuel _ _ _ _ _ _).trans h
    · cases h
end Go.Proofs.Tryz
end
