/- Part 5 of the proof: models of the functions, and laws on them. -/
import Derived.Test.YtclhdanfihlbpaaGreatDoorW4
set_option linter.unusedVariables false
set_option linter.unusedSimpArgs false
set_option linter.unusedSectionVars false
section
namespace Go.Proofs.Tryz
open Go Go.Am
set_option linter.unusedVariables false
set_option maxRecDepth 1000000
noncomputable def Sref02_NatTrim_0 (pk pr : Nat) (y5 : Ge) (un3 : Int) : St := { env := [(0,AV.ro 1 pk pr y5),(3,AV.int .i64 un3)],h := [],kd := [] }
noncomputable def Xref02_NatTrim_0_0 (qp9 qqu : Nat) (qqf : Ge) (qgj : Int) : St := { env := [(0,AV.ro 1 qp9 qqu qqf),(3,AV.int .i64 qgj)],h := [],kd := [] }
noncomputable def gref02_NatTrim_l0_step (fuel : Nat) (kn : Int → Option AV) (kx0 : Nat → Nat → Ge → Int → Option AV) (pk pr : Nat) (y5 : Ge) (un3 : Int) : Option AV :=
  ck (bif decide (un3 > 0) then decide (0 ≤ IntKind.i64.wrap (un3 - 1)) else true) <| ck (bif decide (un3 > 0) then decide (IntKind.i64.wrap (un3 - 1) < (↑pk : Int)) else true) <| ck (bif decide (un3 > 0) then true else true) <| ck (bif decide (un3 > 0) then fitK (LK.i .u64) (y5 (IntKind.i64.wrap (un3 - 1)).toNat 0) else true) <| bif bif decide (un3 > 0) then toI (y5 (IntKind.i64.wrap (un3 - 1)).toNat 0) == 0 else false then kn (IntKind.i64.wrap (un3 - 1))
  else kx0 pk pr y5 un3
noncomputable def gref02_NatTrim_l0 (fuel : Nat) (kx0 : Nat → Nat → Ge → Int → Option AV) (pk pr : Nat) (y5 : Ge) : Nat → Int → Option AV
  | 0,_ => none
  | n' + 1,un3 => gref02_NatTrim_l0_step fuel (gref02_NatTrim_l0 fuel kx0 pk pr y5 n') kx0 pk pr y5 un3
noncomputable def Tref02_NatTrim_0 : TS' := ⟨[(0,TA.ro 1),(3,TA.i .i64)],[],[]⟩
noncomputable def Fref02_NatTrim_0 (fuel : Nat) (ps : List Pay) (K : Ex → St → Option AV) : Option AV := match ps with
  | .n pk :: .n pr :: .g y5 :: .i un3 :: [] => gref02_NatTrim_l0 fuel (fun qp9 qqu qqf qgj => K (Ex.exit 0) (Xref02_NatTrim_0_0 qp9 qqu qqf qgj)) pk pr y5 fuel un3
  | _ => none
noncomputable def Lref02_NatTrim (fuel : Nat) : Lam AV := [(524168,lam Tref02_NatTrim_0 (Fref02_NatTrim_0 fuel))]
noncomputable def Gref02_NatTrim : Gam := []
theorem gref02_NatTrim_l0_eq (fuel : Nat) (kn : St → Option AV) (K : Ex → St → Option AV) (pk pr : Nat) (y5 : Ge) (qhb un3 : Int) :
    bX Pr Gref02_NatTrim (Lref02_NatTrim fuel) 6 74 0 fuel (Sref02_NatTrim_0 pk pr y5 un3) (fun e s => match e with | .normal => kn (hX Pr 74 0 (Sref02_NatTrim_0 pk pr y5 qhb) s) | e => K e s) =
    gref02_NatTrim_l0_step fuel (fun un3 => kn (Sref02_NatTrim_0 pk pr y5 un3)) (fun xul0n qnh qlx qeb => K (Ex.exit 0) (Xref02_NatTrim_0_0 xul0n qnh qlx qeb)) pk pr y5 un3 := by kernel_rfl
theorem gref02_NatTrim_l0_ok (fuel : Nat) (K : Ex → St → Option AV) (pk pr : Nat) (y5 : Ge) (qhb : Int) : ∀ (n' : Nat) (un3 : Int),
    loopK (bX Pr Gref02_NatTrim (Lref02_NatTrim fuel) 6 74 0 fuel) (hX Pr 74 0 (Sref02_NatTrim_0 pk pr y5 qhb)) n' (Sref02_NatTrim_0 pk pr y5 un3) K = gref02_NatTrim_l0 fuel (fun xul0n qnh qlx qeb => K (Ex.exit 0) (Xref02_NatTrim_0_0 xul0n qnh qlx qeb)) pk pr y5 n' un3
  | 0,_ => rfl
  | n' + 1,un3 => (gref02_NatTrim_l0_eq fuel (fun s => loopK (bX Pr Gref02_NatTrim (Lref02_NatTrim fuel) 6 74 0 fuel) (hX Pr 74 0 (Sref02_NatTrim_0 pk pr y5 qhb)) n' s K) K pk pr y5 qhb un3).trans
    (congrArg (fun kn => gref02_NatTrim_l0_step fuel kn _ pk pr y5 un3) (funext fun un3 => gref02_NatTrim_l0_ok fuel K pk pr y5 qhb n' un3))
theorem gref02_NatTrim_L0 (fuel : Nat) : LX Pr Gref02_NatTrim (Lref02_NatTrim fuel) 6 74 0 fuel := by
  refine .of Tref02_NatTrim_0 (Fref02_NatTrim_0 fuel) (fun L h => ?_) (fun ps st K r he hr => ?_)
  · have e : (Lref02_NatTrim fuel).get (writes (lp Pr 74 0).1) = some (lam Tref02_NatTrim_0 (Fref02_NatTrim_0 fuel)) := by kernel_rfl
    exact (Option.some.inj (e.symm.trans h)).symm
  · unfold Fref02_NatTrim_0 at hr
    split at hr
    · obtain rfl := (Option.some.inj he).symm
      exact (gref02_NatTrim_l0_ok fuel K _ _ _ _ fuel _).trans hr
    · cases hr
noncomputable def gref02_NatTrim (fuel y7 qa6 : Nat) (qan : Ge) : Option AV :=
  gref02_NatTrim_l0 fuel
    (fun (_ qnh : Nat) (qlx : Ge) (qeb : Int) => ck (decide (0 ≤ qeb)) <| ck (decide (qeb ≤ (↑qnh : Int))) <| ck (decide ((qeb.toNat - 0) * 8 < 70368744177664)) <| ck (decide (qeb.toNat - 0 < 4611686018427387904)) <| some (AV.ro 1 (rows 1 (qeb.toNat - 0) fun (i : Nat) => qlx (0 + i)).length (rows 1 (qeb.toNat - 0) fun (i : Nat) => qlx (0 + i)).length fun (i j : Nat) => ((rows 1 (qeb.toNat - 0) fun (i : Nat) => qlx (0 + i)).getD i [AV.int .u64 0]).getD j AV.dead))
    y7
    qa6
    qan fuel ((↑y7 : Int))
noncomputable def mref02_NatTrim (fuel : Nat) (xs : List AV) : Option AV := match xs with
  | [AV.ro 1 y7 qa6 qan] => gref02_NatTrim fuel y7 qa6 qan
  | _ => none
abbrev Rref02_NatTrim : List RS := [RS.one (LK.l (nat_lit 1))]
theorem gref02_NatTrim_sm (fuel : Nat) (hΓ : GamOk Pr Gref02_NatTrim) (hP : NamesOk Pr) : SmOk Pr 74 (smM Rref02_NatTrim (mref02_NatTrim fuel)) := smL (L := (Lref02_NatTrim fuel)) (n := 1) hΓ hP (by kernel_rfl) (fun i hi => match i,hi with
  | 0,_ => gref02_NatTrim_L0 fuel
  | i + 1,hi => absurd hi (by omega)) fun xs v h => by
  unfold mref02_NatTrim at h
  split at h
  · exact Eq.trans (by kernel_rfl) h
  · cases h
noncomputable def Gref02_NatOf (qd : Mo) : Gam := [(74,smM [RS.one (LK.l (nat_lit 1))] qd)]
noncomputable def gref02_NatOf (qd : Mo) (fuel : Nat) (ux0 : Int) : Option AV :=
  let r0 : Option AV := qd [AV.ro 1 1 1 fun (i j : Nat) => ([[AV.int .u64 ux0]].getD i []).getD j AV.dead]; ck (okM [RS.one (LK.l 1)] r0) <| some (AV.ro 1 (toN (getV r0)) (toR (getV r0)) (toG (getV r0)))
noncomputable def mref02_NatOf (qd : Mo) (fuel : Nat) (xs : List AV) : Option AV := match xs with
  | [AV.int .u64 ux0] => gref02_NatOf qd fuel ux0
  | _ => none
abbrev Rref02_NatOf : List RS := [RS.one (LK.l (nat_lit 1))]
theorem gref02_NatOf_sm (qd : Mo) (fuel : Nat) (hΓ : GamOk Pr (Gref02_NatOf qd)) (hP : NamesOk Pr) : SmOk Pr 44 (smM Rref02_NatOf (mref02_NatOf qd fuel)) := sm0 (fuel := fuel) (d := 7) hΓ hP fun xs v h => by
  unfold mref02_NatOf at h
  split at h
  · exact Eq.trans (by kernel_rfl) h
  · cases h
noncomputable def Gref07_one : Gam := []
noncomputable def gref07_one (fuel : Nat) : Option AV :=
  some (AV.ro 1 1 1 fun (i j : Nat) => ([[AV.int .u64 1]].getD i [AV.int .u64 0]).getD j AV.dead)
noncomputable def mref07_one (fuel : Nat) (xs : List AV) : Option AV := match xs with
  | [] => gref07_one fuel
  | _ => none
abbrev Rref07_one : List RS := [RS.one (LK.l (nat_lit 1))]
theorem gref07_one_sm (fuel : Nat) (hΓ : GamOk Pr Gref07_one) (hP : NamesOk Pr) : SmOk Pr 45 (smM Rref07_one (mref07_one fuel)) := sm0 (fuel := fuel) (d := 7) hΓ hP fun xs v h => by
  unfold mref07_one at h
  split at h
  · exact Eq.trans (by kernel_rfl) h
  · cases h
noncomputable def Gref07_Whole (yq px : Mo) : Gam := [(44,smM [RS.one (LK.l (nat_lit 1))] yq),(45,smM [RS.one (LK.l (nat_lit 1))] px)]
noncomputable def gref07_Whole (yq px : Mo) (fuel : Nat) (un0 : Int) : Option AV :=
  bif decide (un0 < 0) then let r0 : Option AV := yq [AV.int .u64 (IntKind.u64.wrap (0 - IntKind.u64.wrap un0))]; ck (okM [RS.one (LK.l 1)] r0) <| let r1 : Option AV := px []; ck (okM [RS.one (LK.l 1)] r1) <| some (AV.agg [AV.bool (decide (un0 < 0)),AV.ro 1 (toN (getV r0)) (toR (getV r0)) (toG (getV r0)),AV.ro 1 (toN (getV r1)) (toR (getV r1)) (toG (getV r1))])
  else let r2 : Option AV := yq [AV.int .u64 (IntKind.u64.wrap un0)]; ck (okM [RS.one (LK.l 1)] r2) <| let r3 : Option AV := px []; ck (okM [RS.one (LK.l 1)] r3) <| some (AV.agg [AV.bool (decide (un0 < 0)),AV.ro 1 (toN (getV r2)) (toR (getV r2)) (toG (getV r2)),AV.ro 1 (toN (getV r3)) (toR (getV r3)) (toG (getV r3))])
noncomputable def mref07_Whole (yq px : Mo) (fuel : Nat) (xs : List AV) : Option AV := match xs with
  | [AV.int .i64 un0] => gref07_Whole yq px fuel un0
  | _ => none
abbrev Rref07_Whole : List RS := [RS.agg [LK.b,LK.l (nat_lit 1),LK.l (nat_lit 1)]]
theorem gref07_Whole_sm (yq px : Mo) (fuel : Nat) (hΓ : GamOk Pr (Gref07_Whole yq px)) (hP : NamesOk Pr) : SmOk Pr 21 (smM Rref07_Whole (mref07_Whole yq px fuel)) := sm0 (fuel := fuel) (d := 7) hΓ hP fun xs v h => by
  unfold mref07_Whole at h
  split at h
  · exact Eq.trans (by kernel_rfl) h
  · cases h
noncomputable def Sref02_NatBits_0 (un4 qi6 : Int) : St := { env := [(4,AV.int .i64 un4),(5,AV.int .u64 qi6)],h := [],kd := [] }
noncomputable def Xref02_NatBits_0_0 (qsg : Int) : St := { env := [(4,AV.int .i64 qsg)],h := [],kd := [] }
noncomputable def gref02_NatBits_l0_step (qd : Mo) (fuel : Nat) (kn : Int → Int → Option AV) (kx0 : Int → Option AV) (un4 qi6 : Int) : Option AV :=
  bif decide (qi6 > 0) then kn (IntKind.i64.wrap (un4 + 1)) (IntKind.u64.wrap (qi6.tdiv 2))
  else kx0 un4
noncomputable def gref02_NatBits_l0 (qd : Mo) (fuel : Nat) (kx0 : Int → Option AV) : Nat → Int → Int → Option AV
  | 0,_,_ => none
  | n' + 1,un4,qi6 => gref02_NatBits_l0_step qd fuel (gref02_NatBits_l0 qd fuel kx0 n') kx0 un4 qi6
noncomputable def Tref02_NatBits_0 : TS' := ⟨[(4,TA.i .i64),(5,TA.i .u64)],[],[]⟩
noncomputable def Fref02_NatBits_0 (qd : Mo) (fuel : Nat) (ps : List Pay) (K : Ex → St → Option AV) : Option AV := match ps with
  | .i un4 :: .i qi6 :: [] => gref02_NatBits_l0 qd fuel (fun qsg => K (Ex.exit 0) (Xref02_NatBits_0_0 qsg)) fuel un4 qi6
  | _ => none
noncomputable def Lref02_NatBits (qd : Mo) (fuel : Nat) : Lam AV := [(132120624,lam Tref02_NatBits_0 (Fref02_NatBits_0 qd fuel))]
noncomputable def Gref02_NatBits (qd : Mo) : Gam := [(74,smM [RS.one (LK.l (nat_lit 1))] qd)]
theorem gref02_NatBits_l0_eq (qd : Mo) (fuel : Nat) (kn : St → Option AV) (K : Ex → St → Option AV) (qtu qp2 : Int) (un4 qi6 : Int) :
    bX Pr (Gref02_NatBits qd) (Lref02_NatBits qd fuel) 6 109 0 fuel (Sref02_NatBits_0 un4 qi6) (fun e s => match e with | .normal => kn (hX Pr 109 0 (Sref02_NatBits_0 qtu qp2) s) | e => K e s) =
    gref02_NatBits_l0_step qd fuel (fun un4 qi6 => kn (Sref02_NatBits_0 un4 qi6)) (fun qsq => K (Ex.exit 0) (Xref02_NatBits_0_0 qsq)) un4 qi6 := by kernel_rfl
theorem gref02_NatBits_l0_ok (qd : Mo) (fuel : Nat) (K : Ex → St → Option AV) (qtu qp2 : Int) : ∀ (n' : Nat) (un4 qi6 : Int),
    loopK (bX Pr (Gref02_NatBits qd) (Lref02_NatBits qd fuel) 6 109 0 fuel) (hX Pr 109 0 (Sref02_NatBits_0 qtu qp2)) n' (Sref02_NatBits_0 un4 qi6) K = gref02_NatBits_l0 qd fuel (fun qsq => K (Ex.exit 0) (Xref02_NatBits_0_0 qsq)) n' un4 qi6
  | 0,_,_ => rfl
  | n' + 1,un4,qi6 => (gref02_NatBits_l0_eq qd fuel (fun s => loopK (bX Pr (Gref02_NatBits qd) (Lref02_NatBits qd fuel) 6 109 0 fuel) (hX Pr 109 0 (Sref02_NatBits_0 qtu qp2)) n' s K) K qtu qp2 un4 qi6).trans
    (congrArg (fun kn => gref02_NatBits_l0_step qd fuel kn _ un4 qi6) (funext fun un4 => funext fun qi6 => gref02_NatBits_l0_ok qd fuel K qtu qp2 n' un4 qi6))
theorem gref02_NatBits_L0 (qd : Mo) (fuel : Nat) : LX Pr (Gref02_NatBits qd) (Lref02_NatBits qd fuel) 6 109 0 fuel := by
  refine .of Tref02_NatBits_0 (Fref02_NatBits_0 qd fuel) (fun L h => ?_) (fun ps st K r he hr => ?_)
  · have e : (Lref02_NatBits qd fuel).get (writes (lp Pr 109 0).1) = some (lam Tref02_NatBits_0 (Fref02_NatBits_0 qd fuel)) := by kernel_rfl
    exact (Option.some.inj (e.symm.trans h)).symm
  · unfold Fref02_NatBits_0 at hr
    split at hr
    · obtain rfl := (Option.some.inj he).symm
      exact (gref02_NatBits_l0_ok qd fuel K _ _ fuel _ _).trans hr
    · cases hr
noncomputable def gref02_NatBits (qd : Mo) (fuel zh v3 : Nat) (vs : Ge) : Option AV :=
  let r0 : Option AV := qd [AV.ro 1 zh v3 vs]; ck (okM [RS.one (LK.l 1)] r0) <| bif (↑(toN (getV r0)) : Int) == 0 then some (AV.int .i64 0)
  else ck (decide (0 ≤ IntKind.i64.wrap ((↑(toN (getV r0)) : Int) - 1))) <| ck (decide (IntKind.i64.wrap ((↑(toN (getV r0)) : Int) - 1) < (↑(toN (getV r0)) : Int))) <| ck (fitK (LK.i .u64) (toG (getV r0) (IntKind.i64.wrap ((↑(toN (getV r0)) : Int) - 1)).toNat 0)) <| gref02_NatBits_l0 qd fuel
    (fun (qsq : Int) => some (AV.int .i64 qsq)) fuel (IntKind.i64.wrap (64 * IntKind.i64.wrap ((↑(toN (getV r0)) : Int) - 1))) (toI (toG (getV r0) (IntKind.i64.wrap ((↑(toN (getV r0)) : Int) - 1)).toNat 0))
noncomputable def mref02_NatBits (qd : Mo) (fuel : Nat) (xs : List AV) : Option AV := match xs with
  | [AV.ro 1 zh v3 vs] => gref02_NatBits qd fuel zh v3 vs
  | _ => none
abbrev Rref02_NatBits : List RS := [RS.one (LK.i .i64)]
theorem gref02_NatBits_sm (qd : Mo) (fuel : Nat) (hΓ : GamOk Pr (Gref02_NatBits qd)) (hP : NamesOk Pr) : SmOk Pr 109 (smM Rref02_NatBits (mref02_NatBits qd fuel)) := smL (L := (Lref02_NatBits qd fuel)) (n := 1) hΓ hP (by kernel_rfl) (fun i hi => match i,hi with
  | 0,_ => gref02_NatBits_L0 qd fuel
  | i + 1,hi => absurd hi (by omega)) fun xs v h => by
  unfold mref02_NatBits at h
  split at h
  · exact Eq.trans (by kernel_rfl) h
  · cases h
noncomputable def Gref07_Frac_Sign (v9 : Mo) : Gam := [(109,smM [RS.one (LK.i .i64)] v9)]
noncomputable def gref07_Frac_Sign (v9 : Mo) (fuel : Nat) (qpl : Bool) (qln qlu : Nat) (qlg : Ge) (qoe qod : Nat) (qnu : Ge) : Option AV :=
  ck (okM [RS.one (LK.i .i64)] (v9 [AV.ro 1 qln qlu qlg])) <| bif toI (getV (v9 [AV.ro 1 qln qlu qlg])) == 0 then some (AV.int .i64 0)
  else bif qpl then some (AV.int .i64 (-1))
  else some (AV.int .i64 1)
noncomputable def mref07_Frac_Sign (v9 : Mo) (fuel : Nat) (xs : List AV) : Option AV := match xs with
  | [AV.agg [AV.bool qpl,AV.ro 1 qln qlu qlg,AV.ro 1 qoe qod qnu]] => gref07_Frac_Sign v9 fuel qpl qln qlu qlg qoe qod qnu
  | _ => none
abbrev Rref07_Frac_Sign : List RS := [RS.one (LK.i .i64)]
theorem gref07_Frac_Sign_sm (v9 : Mo) (fuel : Nat) (hΓ : GamOk Pr (Gref07_Frac_Sign v9)) (hP : NamesOk Pr) : SmOk Pr 70 (smM Rref07_Frac_Sign (mref07_Frac_Sign v9 fuel)) := sm0 (fuel := fuel) (d := 7) hΓ hP fun xs v h => by
  unfold mref07_Frac_Sign at h
  split at h
  · exact Eq.trans (by kernel_rfl) h
  · cases h
noncomputable def Sref02_low_0 (y6 pt : Nat) (yz : Ge) (un3 : Int) : St := { env := [(0,AV.ro 1 y6 pt yz),(3,AV.int .i64 un3)],h := [],kd := [] }
noncomputable def Xref02_low_0_0 (qp7 qq1 : Nat) (qrb : Ge) (qgj : Int) : St := { env := [(0,AV.ro 1 qp7 qq1 qrb),(3,AV.int .i64 qgj)],h := [],kd := [] }
noncomputable def gref02_low_l0_step (fuel : Nat) (kn : Int → Option AV) (kx0 : Nat → Nat → Ge → Int → Option AV) (y6 pt : Nat) (yz : Ge) (un3 : Int) : Option AV :=
  ck (bif decide (un3 > 0) then decide (0 ≤ IntKind.i64.wrap (un3 - 1)) else true) <| ck (bif decide (un3 > 0) then decide (IntKind.i64.wrap (un3 - 1) < (↑y6 : Int)) else true) <| ck (bif decide (un3 > 0) then true else true) <| ck (bif decide (un3 > 0) then fitK (LK.i .u64) (yz (IntKind.i64.wrap (un3 - 1)).toNat 0) else true) <| bif bif decide (un3 > 0) then toI (yz (IntKind.i64.wrap (un3 - 1)).toNat 0) == 0 else false then kn (IntKind.i64.wrap (un3 - 1))
  else kx0 y6 pt yz un3
noncomputable def gref02_low_l0 (fuel : Nat) (kx0 : Nat → Nat → Ge → Int → Option AV) (y6 pt : Nat) (yz : Ge) : Nat → Int → Option AV
  | 0,_ => none
  | n' + 1,un3 => gref02_low_l0_step fuel (gref02_low_l0 fuel kx0 y6 pt yz n') kx0 y6 pt yz un3
noncomputable def Tref02_low_0 : TS' := ⟨[(0,TA.ro 1),(3,TA.i .i64)],[],[]⟩
noncomputable def Fref02_low_0 (fuel : Nat) (ps : List Pay) (K : Ex → St → Option AV) : Option AV := match ps with
  | .n y6 :: .n pt :: .g yz :: .i un3 :: [] => gref02_low_l0 fuel (fun qp7 qq1 qrb qgj => K (Ex.exit 0) (Xref02_low_0_0 qp7 qq1 qrb qgj)) y6 pt yz fuel un3
  | _ => none
noncomputable def Lref02_low (fuel : Nat) : Lam AV := [(262088,lam Tref02_low_0 (Fref02_low_0 fuel))]
noncomputable def Gref02_low : Gam := []
theorem gref02_low_l0_eq (fuel : Nat) (kn : St → Option AV) (K : Ex → St → Option AV) (y6 pt : Nat) (yz : Ge) (qhb un3 : Int) :
    bX Pr Gref02_low (Lref02_low fuel) 6 138 0 fuel (Sref02_low_0 y6 pt yz un3) (fun e s => match e with | .normal => kn (hX Pr 138 0 (Sref02_low_0 y6 pt yz qhb) s) | e => K e s) =
    gref02_low_l0_step fuel (fun un3 => kn (Sref02_low_0 y6 pt yz un3)) (fun xud0n qm1 qoj qeb => K (Ex.exit 0) (Xref02_low_0_0 xud0n qm1 qoj qeb)) y6 pt yz un3 := by kernel_rfl
theorem gref02_low_l0_ok (fuel : Nat) (K : Ex → St → Option AV) (y6 pt : Nat) (yz : Ge) (qhb : Int) : ∀ (n' : Nat) (un3 : Int),
    loopK (bX Pr Gref02_low (Lref02_low fuel) 6 138 0 fuel) (hX Pr 138 0 (Sref02_low_0 y6 pt yz qhb)) n' (Sref02_low_0 y6 pt yz un3) K = gref02_low_l0 fuel (fun xud0n qm1 qoj qeb => K (Ex.exit 0) (Xref02_low_0_0 xud0n qm1 qoj qeb)) y6 pt yz n' un3
  | 0,_ => rfl
  | n' + 1,un3 => (gref02_low_l0_eq fuel (fun s => loopK (bX Pr Gref02_low (Lref02_low fuel) 6 138 0 fuel) (hX Pr 138 0 (Sref02_low_0 y6 pt yz qhb)) n' s K) K y6 pt yz qhb un3).trans
    (congrArg (fun kn => gref02_low_l0_step fuel kn _ y6 pt yz un3) (funext fun un3 => gref02_low_l0_ok fuel K y6 pt yz qhb n' un3))
theorem gref02_low_L0 (fuel : Nat) : LX Pr Gref02_low (Lref02_low fuel) 6 138 0 fuel := by
  refine .of Tref02_low_0 (Fref02_low_0 fuel) (fun L h => ?_) (fun ps st K r he hr => ?_)
  · have e : (Lref02_low fuel).get (writes (lp Pr 138 0).1) = some (lam Tref02_low_0 (Fref02_low_0 fuel)) := by kernel_rfl
    exact (Option.some.inj (e.symm.trans h)).symm
  · unfold Fref02_low_0 at hr
    split at hr
    · obtain rfl := (Option.some.inj he).symm
      exact (gref02_low_l0_ok fuel K _ _ _ _ fuel _).trans hr
    · cases hr
noncomputable def gref02_low (fuel qim qj5 : Nat) (qje : Ge) : Option AV :=
  gref02_low_l0 fuel
    (fun (_ qm1 : Nat) (qoj : Ge) (qeb : Int) => ck (decide (0 ≤ qeb)) <| ck (decide (qeb ≤ (↑qm1 : Int))) <| some (AV.ro 1 (qeb.toNat - 0) (qm1 - 0) fun (i : Nat) => qoj (0 + i)))
    qim
    qj5
    qje fuel ((↑qim : Int))
noncomputable def mref02_low (fuel : Nat) (xs : List AV) : Option AV := match xs with
  | [AV.ro 1 qim qj5 qje] => gref02_low fuel qim qj5 qje
  | _ => none
abbrev Rref02_low : List RS := [RS.one (LK.l (nat_lit 1))]
theorem gref02_low_sm (fuel : Nat) (hΓ : GamOk Pr Gref02_low) (hP : NamesOk Pr) : SmOk Pr 138 (smM Rref02_low (mref02_low fuel)) := smL (L := (Lref02_low fuel)) (n := 1) hΓ hP (by kernel_rfl) (fun i hi => match i,hi with
  | 0,_ => gref02_low_L0 fuel
  | i + 1,hi => absurd hi (by omega)) fun xs v h => by
  unfold mref02_low at h
  split at h
  · exact Eq.trans (by kernel_rfl) h
  · cases h
noncomputable def Sref02_halves_0 (qn qv : Nat) (qk : Ge) (ui4 : Int) (h0z : List AV) (h0e : List (List AV)) : St := { env := [(0,AV.ro 1 qn qv qk),(3,AV.lst 0 1),(4,AV.int .i64 ui4)],h := [Blk.fl 1 h0z h0e],kd := [0] }
noncomputable def Xref02_halves_0_0 (yk : List AV) (yj : List (List AV)) : St := { env := [(3,AV.lst 0 1)],h := [Blk.fl 1 yk yj],kd := [0] }
noncomputable def gref02_halves_l0_step (q3 : Mo) (fuel : Nat) (kn : Int → List (List AV) → Option AV) (kx0 : List AV → List (List AV) → Option AV) (qn qv : Nat) (qk : Ge) (h0z : List AV) (ui4 : Int) (h0e : List (List AV)) : Option AV :=
  bif decide (ui4 < (↑qn : Int)) then ck (decide (0 ≤ ui4)) <| ck (decide (ui4 < (↑qn : Int))) <| ck (fitK (LK.i .u64) (qk ui4.toNat 0)) <| ck (decide (0 ≤ ui4)) <| ck (decide (ui4 < (↑qn : Int))) <| ck (fitK (LK.i .u64) (qk ui4.toNat 0)) <| ck (decide ((h0e.length + 2) * 8 < 70368744177664)) <| ck (decide (h0e.length + 2 < 4611686018427387904)) <| kn (IntKind.i64.wrap (ui4 + 1)) (h0e ++ [[AV.int .u64 ((toI (qk ui4.toNat 0)).tmod 4294967296)],[AV.int .u64 (IntKind.u64.wrap ((toI (qk ui4.toNat 0)).tdiv 4294967296))]])
  else kx0 h0z h0e
noncomputable def gref02_halves_l0 (q3 : Mo) (fuel : Nat) (kx0 : List AV → List (List AV) → Option AV) (qn qv : Nat) (qk : Ge) (h0z : List AV) : Nat → Int → List (List AV) → Option AV
  | 0,_,_ => none
  | n' + 1,ui4,h0e => gref02_halves_l0_step q3 fuel (gref02_halves_l0 q3 fuel kx0 qn qv qk h0z n') kx0 qn qv qk h0z ui4 h0e
noncomputable def Tref02_halves_0 : TS' := ⟨[(0,TA.ro 1),(3,TA.lst 0 1),(4,TA.i .i64)],[TB.fl 1],[0]⟩
noncomputable def Fref02_halves_0 (q3 : Mo) (fuel : Nat) (ps : List Pay) (K : Ex → St → Option AV) : Option AV := match ps with
  | .n qn :: .n qv :: .g qk :: .i ui4 :: .z h0z :: .e h0e :: [] => gref02_halves_l0 q3 fuel (fun yk yj => K (Ex.exit 0) (Xref02_halves_0_0 yk yj)) qn qv qk h0z fuel ui4 h0e
  | _ => none
noncomputable def Lref02_halves (q3 : Mo) (fuel : Nat) : Lam AV := [(16777208,lam Tref02_halves_0 (Fref02_halves_0 q3 fuel))]
noncomputable def Gref02_halves (q3 : Mo) : Gam := [(138,smM [RS.one (LK.l (nat_lit 1))] q3)]
theorem gref02_halves_l0_eq (q3 : Mo) (fuel : Nat) (kn : St → Option AV) (K : Ex → St → Option AV) (qn qv : Nat) (qk : Ge) (h0z : List AV) (qmm : Int) (pj : List (List AV)) (ui4 : Int) (h0e : List (List AV)) :
    bX Pr (Gref02_halves q3) (Lref02_halves q3 fuel) 6 110 0 fuel (Sref02_halves_0 qn qv qk ui4 h0z h0e) (fun e s => match e with | .normal => kn (hX Pr 110 0 (Sref02_halves_0 qn qv qk qmm h0z pj) s) | e => K e s) =
    gref02_halves_l0_step q3 fuel (fun ui4 h0e => kn (Sref02_halves_0 qn qv qk ui4 h0z h0e)) (fun v0 vy => K (Ex.exit 0) (Xref02_halves_0_0 v0 vy)) qn qv qk h0z ui4 h0e := by kernel_rfl
theorem gref02_halves_l0_ok (q3 : Mo) (fuel : Nat) (K : Ex → St → Option AV) (qn qv : Nat) (qk : Ge) (h0z : List AV) (qmm : Int) (pj : List (List AV)) : ∀ (n' : Nat) (ui4 : Int) (h0e : List (List AV)),
    loopK (bX Pr (Gref02_halves q3) (Lref02_halves q3 fuel) 6 110 0 fuel) (hX Pr 110 0 (Sref02_halves_0 qn qv qk qmm h0z pj)) n' (Sref02_halves_0 qn qv qk ui4 h0z h0e) K = gref02_halves_l0 q3 fuel (fun v0 vy => K (Ex.exit 0) (Xref02_halves_0_0 v0 vy)) qn qv qk h0z n' ui4 h0e
  | 0,_,_ => rfl
  | n' + 1,ui4,h0e => (gref02_halves_l0_eq q3 fuel (fun s => loopK (bX Pr (Gref02_halves q3) (Lref02_halves q3 fuel) 6 110 0 fuel) (hX Pr 110 0 (Sref02_halves_0 qn qv qk qmm h0z pj)) n' s K) K qn qv qk h0z qmm pj ui4 h0e).trans
    (congrArg (fun kn => gref02_halves_l0_step q3 fuel kn _ qn qv qk h0z ui4 h0e) (funext fun ui4 => funext fun h0e => gref02_halves_l0_ok q3 fuel K qn qv qk h0z qmm pj n' ui4 h0e))
theorem gref02_halves_L0 (q3 : Mo) (fuel : Nat) : LX Pr (Gref02_halves q3) (Lref02_halves q3 fuel) 6 110 0 fuel := by
  refine .of Tref02_halves_0 (Fref02_halves_0 q3 fuel) (fun L h => ?_) (fun ps st K r he hr => ?_)
  · have e : (Lref02_halves q3 fuel).get (writes (lp Pr 110 0).1) = some (lam Tref02_halves_0 (Fref02_halves_0 q3 fuel)) := by kernel_rfl
    exact (Option.some.inj (e.symm.trans h)).symm
  · unfold Fref02_halves_0 at hr
    split at hr
    · obtain rfl := (Option.some.inj he).symm
      exact (gref02_halves_l0_ok q3 fuel K _ _ _ _ _ _ fuel _ _).trans hr
    · cases hr
noncomputable def gref02_halves (q3 : Mo) (fuel zh v3 : Nat) (vs : Ge) : Option AV :=
  gref02_halves_l0 q3 fuel
    (fun (v0 : List AV) (vy : List (List AV)) => let r0 : Option AV := q3 [AV.ro 1 vy.length vy.length fun (i j : Nat) => (vy.getD i v0).getD j AV.dead]; ck (okM [RS.one (LK.l 1)] r0) <| some (AV.ro 1 (toN (getV r0)) (toR (getV r0)) (toG (getV r0))))
    zh
    v3
    vs
    ([AV.int .u64 0]) fuel (0) ([])
noncomputable def mref02_halves (q3 : Mo) (fuel : Nat) (xs : List AV) : Option AV := match xs with
  | [AV.ro 1 zh v3 vs] => gref02_halves q3 fuel zh v3 vs
  | _ => none
abbrev Rref02_halves : List RS := [RS.one (LK.l (nat_lit 1))]
theorem gref02_halves_sm (q3 : Mo) (fuel : Nat) (hΓ : GamOk Pr (Gref02_halves q3)) (hP : NamesOk Pr) : SmOk Pr 110 (smM Rref02_halves (mref02_halves q3 fuel)) := smL (L := (Lref02_halves q3 fuel)) (n := 1) hΓ hP (by kernel_rfl) (fun i hi => match i,hi with
  | 0,_ => gref02_halves_L0 q3 fuel
  | i + 1,hi => absurd hi (by omega)) fun xs v h => by
  unfold mref02_halves at h
  split at h
  · exact Eq.trans (by kernel_rfl) h
  · cases h
noncomputable def Sref02_short_0 (pb pg : Nat) (y0 : Ge) (qab : Int) (qff qfw qgd : Nat) (qfm ui8 : Int) (h0z : List AV) (h0e : List (List AV)) : St := { env := [(0,AV.ro 1 pb pg y0),(1,AV.int .u64 qab),(6,AV.own 0 qff 1 qfw qgd),(7,AV.int .u64 qfm),(8,AV.int .i64 ui8)],h := [Blk.fx 1 h0z h0e],kd := [] }
noncomputable def Xref02_short_0_0 (qnf qo0 qn0 : Nat) (qnq : Int) (yk : List AV) (yj : List (List AV)) : St := { env := [(6,AV.own 0 qnf 1 qo0 qn0),(7,AV.int .u64 qnq)],h := [Blk.fx 1 yk yj],kd := [] }
noncomputable def gref02_short_l0_step (q3 : Mo) (fuel : Nat) (kn : Int → Int → List (List AV) → Option AV) (kx0 : Nat → Nat → Nat → Int → List AV → List (List AV) → Option AV) (pb pg : Nat) (y0 : Ge) (qab : Int) (qff qfw qgd : Nat) (h0z : List AV) (qfm ui8 : Int) (h0e : List (List AV)) : Option AV :=
  bif decide (ui8 ≥ 0) then ck (decide (0 ≤ ui8)) <| ck (decide (ui8 < (↑pb : Int))) <| ck (fitK (LK.i .u64) (y0 ui8.toNat 0)) <| ck (!decide (qab = 0)) <| ck (decide (0 ≤ ui8)) <| ck (decide (ui8 < (↑qfw : Int))) <| ck (!decide (qab = 0)) <| kn ((IntKind.u64.wrap (IntKind.u64.wrap (qfm * 4294967296) + toI (y0 ui8.toNat 0))).tmod qab) (IntKind.i64.wrap (ui8 - 1)) (h0e.set (qff + ui8.toNat) (AV.int .u64 (IntKind.u64.wrap ((IntKind.u64.wrap (IntKind.u64.wrap (qfm * 4294967296) + toI (y0 ui8.toNat 0))).tdiv qab)) :: List.drop (0 + [AV.int .u64 (IntKind.u64.wrap ((IntKind.u64.wrap (IntKind.u64.wrap (qfm * 4294967296) + toI (y0 ui8.toNat 0))).tdiv qab))].length) (h0e.getD (qff + ui8.toNat) h0z)))
  else kx0 qff qfw qgd qfm h0z h0e
noncomputable def gref02_short_l0 (q3 : Mo) (fuel : Nat) (kx0 : Nat → Nat → Nat → Int → List AV → List (List AV) → Option AV) (pb pg : Nat) (y0 : Ge) (qab : Int) (qff qfw qgd : Nat) (h0z : List AV) : Nat → Int → Int → List (List AV) → Option AV
  | 0,_,_,_ => none
  | n' + 1,qfm,ui8,h0e => gref02_short_l0_step q3 fuel (gref02_short_l0 q3 fuel kx0 pb pg y0 qab qff qfw qgd h0z n') kx0 pb pg y0 qab qff qfw qgd h0z qfm ui8 h0e
noncomputable def Tref02_short_0 : TS' := ⟨[(0,TA.ro 1),(1,TA.i .u64),(6,TA.own 0 1),(7,TA.i .u64),(8,TA.i .i64)],[TB.fx 1],[]⟩
noncomputable def Fref02_short_0 (q3 : Mo) (fuel : Nat) (ps : List Pay) (K : Ex → St → Option AV) : Option AV := match ps with
  | .n pb :: .n pg :: .g y0 :: .i qab :: .n qff :: .n qfw :: .n qgd :: .i qfm :: .i ui8 :: .z h0z :: .e h0e :: [] => gref02_short_l0 q3 fuel (fun qnf qo0 qn0 qnq yk yj => K (Ex.exit 0) (Xref02_short_0_0 qnf qo0 qn0 qnq yk yj)) pb pg y0 qab qff qfw qgd h0z fuel qfm ui8 h0e
  | _ => none
noncomputable def Lref02_short (q3 : Mo) (fuel : Nat) : Lam AV := [(68719412096,lam Tref02_short_0 (Fref02_short_0 q3 fuel))]
noncomputable def Gref02_short (q3 : Mo) : Gam := [(138,smM [RS.one (LK.l (nat_lit 1))] q3)]
theorem gref02_short_l0_eq (q3 : Mo) (fuel : Nat) (kn : St → Option AV) (K : Ex → St → Option AV) (pb pg : Nat) (y0 : Ge) (qab : Int) (qff qfw qgd : Nat) (h0z : List AV) (qmh qg7 : Int) (pj : List (List AV)) (qfm ui8 : Int) (h0e : List (List AV)) :
    bX Pr (Gref02_short q3) (Lref02_short q3 fuel) 6 111 0 fuel (Sref02_short_0 pb pg y0 qab qff qfw qgd qfm ui8 h0z h0e) (fun e s => match e with | .normal => kn (hX Pr 111 0 (Sref02_short_0 pb pg y0 qab qff qfw qgd qmh qg7 h0z pj) s) | e => K e s) =
    gref02_short_l0_step q3 fuel (fun qfm ui8 h0e => kn (Sref02_short_0 pb pg y0 qab qff qfw qgd qfm ui8 h0z h0e)) (fun qld qlo qlq qk8 v0 vy => K (Ex.exit 0) (Xref02_short_0_0 qld qlo qlq qk8 v0 vy)) pb pg y0 qab qff qfw qgd h0z qfm ui8 h0e := by kernel_rfl
theorem gref02_short_l0_ok (q3 : Mo) (fuel : Nat) (K : Ex → St → Option AV) (pb pg : Nat) (y0 : Ge) (qab : Int) (qff qfw qgd : Nat) (h0z : List AV) (qmh qg7 : Int) (pj : List (List AV)) : ∀ (n' : Nat) (qfm ui8 : Int) (h0e : List (List AV)),
    loopK (bX Pr (Gref02_short q3) (Lref02_short q3 fuel) 6 111 0 fuel) (hX Pr 111 0 (Sref02_short_0 pb pg y0 qab qff qfw qgd qmh qg7 h0z pj)) n' (Sref02_short_0 pb pg y0 qab qff qfw qgd qfm ui8 h0z h0e) K = gref02_short_l0 q3 fuel (fun qld qlo qlq qk8 v0 vy => K (Ex.exit 0) (Xref02_short_0_0 qld qlo qlq qk8 v0 vy)) pb pg y0 qab qff qfw qgd h0z n' qfm ui8 h0e
  | 0,_,_,_ => rfl
  | n' + 1,qfm,ui8,h0e => (gref02_short_l0_eq q3 fuel (fun s => loopK (bX Pr (Gref02_short q3) (Lref02_short q3 fuel) 6 111 0 fuel) (hX Pr 111 0 (Sref02_short_0 pb pg y0 qab qff qfw qgd qmh qg7 h0z pj)) n' s K) K pb pg y0 qab qff qfw qgd h0z qmh qg7 pj qfm ui8 h0e).trans
    (congrArg (fun kn => gref02_short_l0_step q3 fuel kn _ pb pg y0 qab qff qfw qgd h0z qfm ui8 h0e) (funext fun qfm => funext fun ui8 => funext fun h0e => gref02_short_l0_ok q3 fuel K pb pg y0 qab qff qfw qgd h0z qmh qg7 pj n' qfm ui8 h0e))
theorem gref02_short_L0 (q3 : Mo) (fuel : Nat) : LX Pr (Gref02_short q3) (Lref02_short q3 fuel) 6 111 0 fuel := by
  refine .of Tref02_short_0 (Fref02_short_0 q3 fuel) (fun L h => ?_) (fun ps st K r he hr => ?_)
  · have e : (Lref02_short q3 fuel).get (writes (lp Pr 111 0).1) = some (lam Tref02_short_0 (Fref02_short_0 q3 fuel)) := by kernel_rfl
    exact (Option.some.inj (e.symm.trans h)).symm
  · unfold Fref02_short_0 at hr
    split at hr
    · obtain rfl := (Option.some.inj he).symm
      exact (gref02_short_l0_ok q3 fuel K _ _ _ _ _ _ _ _ _ _ _ fuel _ _ _).trans hr
    · cases hr
noncomputable def gref02_short (q3 : Mo) (fuel qia qmw : Nat) (qmj : Ge) (by1 : Int) : Option AV :=
  ck (decide (0 ≤ (↑qia : Int))) <| ck (decide ((↑qia : Int) ≤ (↑qia : Int))) <| ck ((8 * (↑qia : Int).toNat).ble 281474976710656) <| ck (((↑qia : Int).toNat + 1).ble 4611686018427387904) <| gref02_short_l0 q3 fuel
    (fun (qld qlo qlq : Nat) (qk8 : Int) (v0 : List AV) (vy : List (List AV)) => let r0 : Option AV := q3 [AV.ro 1 qlo qlq fun (i j : Nat) => (vy.getD (qld + i) v0).getD j AV.dead]; ck (okM [RS.one (LK.l 1)] r0) <| some (AV.tup [AV.ro 1 (toN (getV r0)) (toR (getV r0)) (toG (getV r0)),AV.int .u64 qk8]))
    qia
    qmw
    qmj
    by1
    (0)
    ((↑qia : Int).toNat)
    ((↑qia : Int).toNat)
    ([AV.int .u64 0]) fuel (0) (IntKind.i64.wrap ((↑qia : Int) - 1)) (List.replicate (↑qia : Int).toNat [AV.int .u64 0])
noncomputable def mref02_short (q3 : Mo) (fuel : Nat) (xs : List AV) : Option AV := match xs with
  | [AV.ro 1 qia qmw qmj,AV.int .u64 by1] => gref02_short q3 fuel qia qmw qmj by1
  | _ => none
abbrev Rref02_short : List RS := [RS.one (LK.l (nat_lit 1)),RS.one (LK.i .u64)]
theorem gref02_short_sm (q3 : Mo) (fuel : Nat) (hΓ : GamOk Pr (Gref02_short q3)) (hP : NamesOk Pr) : SmOk Pr 111 (smM Rref02_short (mref02_short q3 fuel)) := smL (L := (Lref02_short q3 fuel)) (n := 1) hΓ hP (by kernel_rfl) (fun i hi => match i,hi with
  | 0,_ => gref02_short_L0 q3 fuel
  | i + 1,hi => absurd hi (by omega)) fun xs v h => by
  unfold mref02_short at h
  split at h
  · exact Eq.trans (by kernel_rfl) h
  · cases h
noncomputable def Sref02_limbs_0 (y6 pt : Nat) (yz : Ge) (ui4 : Int) (h0z : List AV) (h0e : List (List AV)) : St := { env := [(0,AV.ro 1 y6 pt yz),(3,AV.lst 0 1),(4,AV.int .i64 ui4)],h := [Blk.fl 1 h0z h0e],kd := [0] }
noncomputable def Xref02_limbs_0_0 (yk : List AV) (yj : List (List AV)) : St := { env := [(3,AV.lst 0 1)],h := [Blk.fl 1 yk yj],kd := [0] }
noncomputable def gref02_limbs_l0_step (qd : Mo) (fuel : Nat) (kn : Int → List (List AV) → Option AV) (kx0 : List AV → List (List AV) → Option AV) (y6 pt : Nat) (yz : Ge) (h0z : List AV) (ui4 : Int) (h0e : List (List AV)) : Option AV :=
  bif decide (ui4 < (↑y6 : Int)) then ck (decide (0 ≤ ui4)) <| ck (decide (ui4 < (↑y6 : Int))) <| ck (fitK (LK.i .u64) (yz ui4.toNat 0)) <| bif decide (IntKind.i64.wrap (ui4 + 1) < (↑y6 : Int)) then ck (decide (0 ≤ IntKind.i64.wrap (ui4 + 1))) <| ck (decide (IntKind.i64.wrap (ui4 + 1) < (↑y6 : Int))) <| ck (fitK (LK.i .u64) (yz (IntKind.i64.wrap (ui4 + 1)).toNat 0)) <| ck (decide ((h0e.length + 1) * 8 < 70368744177664)) <| ck (decide (h0e.length + 1 < 4611686018427387904)) <| kn (IntKind.i64.wrap (ui4 + 2)) (h0e ++ [[AV.int .u64 (IntKind.u64.wrap (toI (yz ui4.toNat 0) + IntKind.u64.wrap (4294967296 * toI (yz (IntKind.i64.wrap (ui4 + 1)).toNat 0))))]])
    else ck (decide ((h0e.length + 1) * 8 < 70368744177664)) <| ck (decide (h0e.length + 1 < 4611686018427387904)) <| kn (IntKind.i64.wrap (ui4 + 2)) (h0e ++ [[AV.int .u64 (toI (yz ui4.toNat 0))]])
  else kx0 h0z h0e
noncomputable def gref02_limbs_l0 (qd : Mo) (fuel : Nat) (kx0 : List AV → List (List AV) → Option AV) (y6 pt : Nat) (yz : Ge) (h0z : List AV) : Nat → Int → List (List AV) → Option AV
  | 0,_,_ => none
  | n' + 1,ui4,h0e => gref02_limbs_l0_step qd fuel (gref02_limbs_l0 qd fuel kx0 y6 pt yz h0z n') kx0 y6 pt yz h0z ui4 h0e
noncomputable def Tref02_limbs_0 : TS' := ⟨[(0,TA.ro 1),(3,TA.lst 0 1),(4,TA.i .i64)],[TB.fl 1],[0]⟩
noncomputable def Fref02_limbs_0 (qd : Mo) (fuel : Nat) (ps : List Pay) (K : Ex → St → Option AV) : Option AV := match ps with
  | .n y6 :: .n pt :: .g yz :: .i ui4 :: .z h0z :: .e h0e :: [] => gref02_limbs_l0 qd fuel (fun yk yj => K (Ex.exit 0) (Xref02_limbs_0_0 yk yj)) y6 pt yz h0z fuel ui4 h0e
  | _ => none
noncomputable def Lref02_limbs (qd : Mo) (fuel : Nat) : Lam AV := [(8589934584,lam Tref02_limbs_0 (Fref02_limbs_0 qd fuel))]
noncomputable def Gref02_limbs (qd : Mo) : Gam := [(74,smM [RS.one (LK.l (nat_lit 1))] qd)]
theorem gref02_limbs_l0_eq (qd : Mo) (fuel : Nat) (kn : St → Option AV) (K : Ex → St → Option AV) (y6 pt : Nat) (yz : Ge) (h0z : List AV) (qmm : Int) (pj : List (List AV)) (ui4 : Int) (h0e : List (List AV)) :
    bX Pr (Gref02_limbs qd) (Lref02_limbs qd fuel) 6 112 0 fuel (Sref02_limbs_0 y6 pt yz ui4 h0z h0e) (fun e s => match e with | .normal => kn (hX Pr 112 0 (Sref02_limbs_0 y6 pt yz qmm h0z pj) s) | e => K e s) =
    gref02_limbs_l0_step qd fuel (fun ui4 h0e => kn (Sref02_limbs_0 y6 pt yz ui4 h0z h0e)) (fun v0 vy => K (Ex.exit 0) (Xref02_limbs_0_0 v0 vy)) y6 pt yz h0z ui4 h0e := by kernel_rfl
theorem gref02_limbs_l0_ok (qd : Mo) (fuel : Nat) (K : Ex → St → Option AV) (y6 pt : Nat) (yz : Ge) (h0z : List AV) (qmm : Int) (pj : List (List AV)) : ∀ (n' : Nat) (ui4 : Int) (h0e : List (List AV)),
    loopK (bX Pr (Gref02_limbs qd) (Lref02_limbs qd fuel) 6 112 0 fuel) (hX Pr 112 0 (Sref02_limbs_0 y6 pt yz qmm h0z pj)) n' (Sref02_limbs_0 y6 pt yz ui4 h0z h0e) K = gref02_limbs_l0 qd fuel (fun v0 vy => K (Ex.exit 0) (Xref02_limbs_0_0 v0 vy)) y6 pt yz h0z n' ui4 h0e
  | 0,_,_ => rfl
  | n' + 1,ui4,h0e => (gref02_limbs_l0_eq qd fuel (fun s => loopK (bX Pr (Gref02_limbs qd) (Lref02_limbs qd fuel) 6 112 0 fuel) (hX Pr 112 0 (Sref02_limbs_0 y6 pt yz qmm h0z pj)) n' s K) K y6 pt yz h0z qmm pj ui4 h0e).trans
    (congrArg (fun kn => gref02_limbs_l0_step qd fuel kn _ y6 pt yz h0z ui4 h0e) (funext fun ui4 => funext fun h0e => gref02_limbs_l0_ok qd fuel K y6 pt yz h0z qmm pj n' ui4 h0e))
theorem gref02_limbs_L0 (qd : Mo) (fuel : Nat) : LX Pr (Gref02_limbs qd) (Lref02_limbs qd fuel) 6 112 0 fuel := by
  refine .of Tref02_limbs_0 (Fref02_limbs_0 qd fuel) (fun L h => ?_) (fun ps st K r he hr => ?_)
  · have e : (Lref02_limbs qd fuel).get (writes (lp Pr 112 0).1) = some (lam Tref02_limbs_0 (Fref02_limbs_0 qd fuel)) := by kernel_rfl
    exact (Option.some.inj (e.symm.trans h)).symm
  · unfold Fref02_limbs_0 at hr
    split at hr
    · obtain rfl := (Option.some.inj he).symm
      exact (gref02_limbs_l0_ok qd fuel K _ _ _ _ _ _ fuel _ _).trans hr
    · cases hr
noncomputable def gref02_limbs (qd : Mo) (fuel qim qj5 : Nat) (qje : Ge) : Option AV :=
  gref02_limbs_l0 qd fuel
    (fun (v0 : List AV) (vy : List (List AV)) => let r0 : Option AV := qd [AV.ro 1 vy.length vy.length fun (i j : Nat) => (vy.getD i v0).getD j AV.dead]; ck (okM [RS.one (LK.l 1)] r0) <| some (AV.ro 1 (toN (getV r0)) (toR (getV r0)) (toG (getV r0))))
    qim
    qj5
    qje
    ([AV.int .u64 0]) fuel (0) ([])
noncomputable def mref02_limbs (qd : Mo) (fuel : Nat) (xs : List AV) : Option AV := match xs with
  | [AV.ro 1 qim qj5 qje] => gref02_limbs qd fuel qim qj5 qje
  | _ => none
abbrev Rref02_limbs : List RS := [RS.one (LK.l (nat_lit 1))]
theorem gref02_limbs_sm (qd : Mo) (fuel : Nat) (hΓ : GamOk Pr (Gref02_limbs qd)) (hP : NamesOk Pr) : SmOk Pr 112 (smM Rref02_limbs (mref02_limbs qd fuel)) := smL (L := (Lref02_limbs qd fuel)) (n := 1) hΓ hP (by kernel_rfl) (fun i hi => match i,hi with
  | 0,_ => gref02_limbs_L0 qd fuel
  | i + 1,hi => absurd hi (by omega)) fun xs v h => by
  unfold mref02_limbs at h
  split at h
  · exact Eq.trans (by kernel_rfl) h
  · cases h
noncomputable def Gref02_digit : Gam := []
noncomputable def gref02_digit (fuel qim qj5 : Nat) (qje : Ge) (ui1 : Int) : Option AV :=
  bif decide (ui1 < (↑qim : Int)) then ck (decide (0 ≤ ui1)) <| ck (decide (ui1 < (↑qim : Int))) <| ck (fitK (LK.i .u64) (qje ui1.toNat 0)) <| some (AV.int .u64 (toI (qje ui1.toNat 0)))
  else some (AV.int .u64 0)
noncomputable def mref02_digit (fuel : Nat) (xs : List AV) : Option AV := match xs with
  | [AV.ro 1 qim qj5 qje,AV.int .i64 ui1] => gref02_digit fuel qim qj5 qje ui1
  | _ => none
abbrev Rref02_digit : List RS := [RS.one (LK.i .u64)]
theorem gref02_digit_sm (fuel : Nat) (hΓ : GamOk Pr Gref02_digit) (hP : NamesOk Pr) : SmOk Pr 155 (smM Rref02_digit (mref02_digit fuel)) := sm0 (fuel := fuel) (d := 7) hΓ hP fun xs v h => by
  unfold mref02_digit at h
  split at h
  · exact Eq.trans (by kernel_rfl) h
  · cases h
noncomputable def Sref02_times_0 (pb pg : Nat) (y0 : Ge) (qab p5 : Int) (qfb qfv qf1 : Nat) (qdj ui9 : Int) (h0z : List AV) (h0e : List (List AV)) : St := { env := [(0,AV.ro 1 pb pg y0),(1,AV.int .u64 qab),(2,AV.int .i64 p5),(7,AV.own 0 qfb 1 qfv qf1),(8,AV.int .u64 qdj),(9,AV.int .i64 ui9)],h := [Blk.fx 1 h0z h0e],kd := [] }
noncomputable def Xref02_times_0_0 (qon qo3 qn4 : Nat) (yk : List AV) (yj : List (List AV)) : St := { env := [(7,AV.own 0 qon 1 qo3 qn4)],h := [Blk.fx 1 yk yj],kd := [] }
noncomputable def gref02_times_l0_step (w1 : Mo) (fuel : Nat) (kn : Int → Int → List (List AV) → Option AV) (kx0 : Nat → Nat → Nat → List AV → List (List AV) → Option AV) (pb pg : Nat) (y0 : Ge) (qab p5 : Int) (qfb qfv qf1 : Nat) (h0z : List AV) (qdj ui9 : Int) (h0e : List (List AV)) : Option AV :=
  bif decide (ui9 < p5) then ck (okM [RS.one (LK.i .u64)] (w1 [AV.ro 1 pb pg y0,AV.int .i64 ui9])) <| ck (decide (0 ≤ ui9)) <| ck (decide (ui9 < (↑qfv : Int))) <| kn (IntKind.u64.wrap ((IntKind.u64.wrap (IntKind.u64.wrap (toI (getV (w1 [AV.ro 1 pb pg y0,AV.int .i64 ui9])) * qab) + qdj)).tdiv 4294967296)) (IntKind.i64.wrap (ui9 + 1)) (h0e.set (qfb + ui9.toNat) (AV.int .u64 ((IntKind.u64.wrap (IntKind.u64.wrap (toI (getV (w1 [AV.ro 1 pb pg y0,AV.int .i64 ui9])) * qab) + qdj)).tmod 4294967296) :: List.drop (0 + [AV.int .u64 ((IntKind.u64.wrap (IntKind.u64.wrap (toI (getV (w1 [AV.ro 1 pb pg y0,AV.int .i64 ui9])) * qab) + qdj)).tmod 4294967296)].length) (h0e.getD (qfb + ui9.toNat) h0z)))
  else kx0 qfb qfv qf1 h0z h0e
noncomputable def gref02_times_l0 (w1 : Mo) (fuel : Nat) (kx0 : Nat → Nat → Nat → List AV → List (List AV) → Option AV) (pb pg : Nat) (y0 : Ge) (qab p5 : Int) (qfb qfv qf1 : Nat) (h0z : List AV) : Nat → Int → Int → List (List AV) → Option AV
  | 0,_,_,_ => none
  | n' + 1,qdj,ui9,h0e => gref02_times_l0_step w1 fuel (gref02_times_l0 w1 fuel kx0 pb pg y0 qab p5 qfb qfv qf1 h0z n') kx0 pb pg y0 qab p5 qfb qfv qf1 h0z qdj ui9 h0e
noncomputable def Tref02_times_0 : TS' := ⟨[(0,TA.ro 1),(1,TA.i .u64),(2,TA.i .i64),(7,TA.own 0 1),(8,TA.i .u64),(9,TA.i .i64)],[TB.fx 1],[]⟩
noncomputable def Fref02_times_0 (w1 : Mo) (fuel : Nat) (ps : List Pay) (K : Ex → St → Option AV) : Option AV := match ps with
  | .n pb :: .n pg :: .g y0 :: .i qab :: .i p5 :: .n qfb :: .n qfv :: .n qf1 :: .i qdj :: .i ui9 :: .z h0z :: .e h0e :: [] => gref02_times_l0 w1 fuel (fun qon qo3 qn4 yk yj => K (Ex.exit 0) (Xref02_times_0_0 qon qo3 qn4 yk yj)) pb pg y0 qab p5 qfb qfv qf1 h0z fuel qdj ui9 h0e
  | _ => none
noncomputable def Lref02_times (w1 : Mo) (fuel : Nat) : Lam AV := [(4294960896,lam Tref02_times_0 (Fref02_times_0 w1 fuel))]
noncomputable def Gref02_times (w1 : Mo) : Gam := [(155,smM [RS.one (LK.i .u64)] w1)]
theorem gref02_times_l0_eq (w1 : Mo) (fuel : Nat) (kn : St → Option AV) (K : Ex → St → Option AV) (pb pg : Nat) (y0 : Ge) (qab p5 : Int) (qfb qfv qf1 : Nat) (h0z : List AV) (qk5 qtq : Int) (pj : List (List AV)) (qdj ui9 : Int) (h0e : List (List AV)) :
    bX Pr (Gref02_times w1) (Lref02_times w1 fuel) 6 139 0 fuel (Sref02_times_0 pb pg y0 qab p5 qfb qfv qf1 qdj ui9 h0z h0e) (fun e s => match e with | .normal => kn (hX Pr 139 0 (Sref02_times_0 pb pg y0 qab p5 qfb qfv qf1 qk5 qtq h0z pj) s) | e => K e s) =
    gref02_times_l0_step w1 fuel (fun qdj ui9 h0e => kn (Sref02_times_0 pb pg y0 qab p5 qfb qfv qf1 qdj ui9 h0z h0e)) (fun qlv qla qlt v0 vy => K (Ex.exit 0) (Xref02_times_0_0 qlv qla qlt v0 vy)) pb pg y0 qab p5 qfb qfv qf1 h0z qdj ui9 h0e := by kernel_rfl
theorem gref02_times_l0_ok (w1 : Mo) (fuel : Nat) (K : Ex → St → Option AV) (pb pg : Nat) (y0 : Ge) (qab p5 : Int) (qfb qfv qf1 : Nat) (h0z : List AV) (qk5 qtq : Int) (pj : List (List AV)) : ∀ (n' : Nat) (qdj ui9 : Int) (h0e : List (List AV)),
    loopK (bX Pr (Gref02_times w1) (Lref02_times w1 fuel) 6 139 0 fuel) (hX Pr 139 0 (Sref02_times_0 pb pg y0 qab p5 qfb qfv qf1 qk5 qtq h0z pj)) n' (Sref02_times_0 pb pg y0 qab p5 qfb qfv qf1 qdj ui9 h0z h0e) K = gref02_times_l0 w1 fuel (fun qlv qla qlt v0 vy => K (Ex.exit 0) (Xref02_times_0_0 qlv qla qlt v0 vy)) pb pg y0 qab p5 qfb qfv qf1 h0z n' qdj ui9 h0e
  | 0,_,_,_ => rfl
  | n' + 1,qdj,ui9,h0e => (gref02_times_l0_eq w1 fuel (fun s => loopK (bX Pr (Gref02_times w1) (Lref02_times w1 fuel) 6 139 0 fuel) (hX Pr 139 0 (Sref02_times_0 pb pg y0 qab p5 qfb qfv qf1 qk5 qtq h0z pj)) n' s K) K pb pg y0 qab p5 qfb qfv qf1 h0z qk5 qtq pj qdj ui9 h0e).trans
    (congrArg (fun kn => gref02_times_l0_step w1 fuel kn _ pb pg y0 qab p5 qfb qfv qf1 h0z qdj ui9 h0e) (funext fun qdj => funext fun ui9 => funext fun h0e => gref02_times_l0_ok w1 fuel K pb pg y0 qab p5 qfb qfv qf1 h0z qk5 qtq pj n' qdj ui9 h0e))
theorem gref02_times_L0 (w1 : Mo) (fuel : Nat) : LX Pr (Gref02_times w1) (Lref02_times w1 fuel) 6 139 0 fuel := by
  refine .of Tref02_times_0 (Fref02_times_0 w1 fuel) (fun L h => ?_) (fun ps st K r he hr => ?_)
  · have e : (Lref02_times w1 fuel).get (writes (lp Pr 139 0).1) = some (lam Tref02_times_0 (Fref02_times_0 w1 fuel)) := by kernel_rfl
    exact (Option.some.inj (e.symm.trans h)).symm
  · unfold Fref02_times_0 at hr
    split at hr
    · obtain rfl := (Option.some.inj he).symm
      exact (gref02_times_l0_ok w1 fuel K _ _ _ _ _ _ _ _ _ _ _ _ fuel _ _ _).trans hr
    · cases hr
noncomputable def gref02_times (w1 : Mo) (fuel qia qmw : Nat) (qmj : Ge) (by1 qe2 : Int) : Option AV :=
  ck (decide (0 ≤ qe2)) <| ck (decide (qe2 ≤ qe2)) <| ck ((8 * qe2.toNat).ble 281474976710656) <| ck ((qe2.toNat + 1).ble 4611686018427387904) <| gref02_times_l0 w1 fuel
    (fun (qlv qla qlt : Nat) (v0 : List AV) (vy : List (List AV)) => some (AV.ro 1 qla qlt fun (i j : Nat) => (vy.getD (qlv + i) v0).getD j AV.dead))
    qia
    qmw
    qmj
    by1
    qe2
    (0)
    (qe2.toNat)
    (qe2.toNat)
    ([AV.int .u64 0]) fuel (0) (0) (List.replicate qe2.toNat [AV.int .u64 0])
noncomputable def mref02_times (w1 : Mo) (fuel : Nat) (xs : List AV) : Option AV := match xs with
  | [AV.ro 1 qia qmw qmj,AV.int .u64 by1,AV.int .i64 qe2] => gref02_times w1 fuel qia qmw qmj by1 qe2
  | _ => none
abbrev Rref02_times : List RS := [RS.one (LK.l (nat_lit 1))]
theorem gref02_times_sm (w1 : Mo) (fuel : Nat) (hΓ : GamOk Pr (Gref02_times w1)) (hP : NamesOk Pr) : SmOk Pr 139 (smM Rref02_times (mref02_times w1 fuel)) := smL (L := (Lref02_times w1 fuel)) (n := 1) hΓ hP (by kernel_rfl) (fun i hi => match i,hi with
  | 0,_ => gref02_times_L0 w1 fuel
  | i + 1,hi => absurd hi (by omega)) fun xs v h => by
  unfold mref02_times at h
  split at h
  · exact Eq.trans (by kernel_rfl) h
  · cases h
noncomputable def Sref02_NatCmp_0 (qii qjx : Nat) (qhv : Ge) (qid qjy : Nat) (qhw : Ge) (ui7 : Int) : St := { env := [(5,AV.ro 1 qii qjx qhv),(6,AV.ro 1 qid qjy qhw),(7,AV.int .i64 ui7)],h := [],kd := [] }
noncomputable def Xref02_NatCmp_0_0 (qfg : Int) : St := { env := [(4,AV.int .i64 qfg)],h := [],kd := [] }
noncomputable def Xref02_NatCmp_0_1 : St := { env := [],h := [],kd := [] }
noncomputable def gref02_NatCmp_l0_step (qd : Mo) (fuel : Nat) (kn kx0 : Int → Option AV) (kx1 : Option AV) (qii qjx : Nat) (qhv : Ge) (qid qjy : Nat) (qhw : Ge) (ui7 : Int) : Option AV :=
  bif decide (ui7 ≥ 0) then ck (decide (0 ≤ ui7)) <| ck (decide (ui7 < (↑qii : Int))) <| ck (fitK (LK.i .u64) (qhv ui7.toNat 0)) <| ck (decide (0 ≤ ui7)) <| ck (decide (ui7 < (↑qid : Int))) <| ck (fitK (LK.i .u64) (qhw ui7.toNat 0)) <| bif decide (toI (qhv ui7.toNat 0) < toI (qhw ui7.toNat 0)) then kx0 ((-1))
    else ck (decide (0 ≤ ui7)) <| ck (decide (ui7 < (↑qii : Int))) <| ck (fitK (LK.i .u64) (qhv ui7.toNat 0)) <| ck (decide (0 ≤ ui7)) <| ck (decide (ui7 < (↑qid : Int))) <| ck (fitK (LK.i .u64) (qhw ui7.toNat 0)) <| bif decide (toI (qhv ui7.toNat 0) > toI (qhw ui7.toNat 0)) then kx0 (1)
    else kn (IntKind.i64.wrap (ui7 - 1))
  else kx1
noncomputable def gref02_NatCmp_l0 (qd : Mo) (fuel : Nat) (kx0 : Int → Option AV) (kx1 : Option AV) (qii qjx : Nat) (qhv : Ge) (qid qjy : Nat) (qhw : Ge) : Nat → Int → Option AV
  | 0,_ => none
  | n' + 1,ui7 => gref02_NatCmp_l0_step qd fuel (gref02_NatCmp_l0 qd fuel kx0 kx1 qii qjx qhv qid qjy qhw n') kx0 kx1 qii qjx qhv qid qjy qhw ui7
noncomputable def Tref02_NatCmp_0 : TS' := ⟨[(5,TA.ro 1),(6,TA.ro 1),(7,TA.i .i64)],[],[]⟩
noncomputable def Fref02_NatCmp_0 (qd : Mo) (fuel : Nat) (ps : List Pay) (K : Ex → St → Option AV) : Option AV := match ps with
  | .n qii :: .n qjx :: .g qhv :: .n qid :: .n qjy :: .g qhw :: .i ui7 :: [] => gref02_NatCmp_l0 qd fuel (fun qfg => K (Ex.ret) (Xref02_NatCmp_0_0 qfg)) (K (Ex.exit 0) Xref02_NatCmp_0_1) qii qjx qhv qid qjy qhw fuel ui7
  | _ => none
noncomputable def Lref02_NatCmp (qd : Mo) (fuel : Nat) : Lam AV := [(140737454801040,lam Tref02_NatCmp_0 (Fref02_NatCmp_0 qd fuel))]
noncomputable def Gref02_NatCmp (qd : Mo) : Gam := [(74,smM [RS.one (LK.l (nat_lit 1))] qd)]
theorem gref02_NatCmp_l0_eq (qd : Mo) (fuel : Nat) (kn : St → Option AV) (K : Ex → St → Option AV) (qii qjx : Nat) (qhv : Ge) (qid qjy : Nat) (qhw : Ge) (qhe ui7 : Int) :
    bX Pr (Gref02_NatCmp qd) (Lref02_NatCmp qd fuel) 6 72 0 fuel (Sref02_NatCmp_0 qii qjx qhv qid qjy qhw ui7) (fun e s => match e with | .normal => kn (hX Pr 72 0 (Sref02_NatCmp_0 qii qjx qhv qid qjy qhw qhe) s) | e => K e s) =
    gref02_NatCmp_l0_step qd fuel (fun ui7 => kn (Sref02_NatCmp_0 qii qjx qhv qid qjy qhw ui7)) (fun xu4 => K (Ex.ret) (Xref02_NatCmp_0_0 xu4)) (K (Ex.exit 0) Xref02_NatCmp_0_1) qii qjx qhv qid qjy qhw ui7 := by kernel_rfl
theorem gref02_NatCmp_l0_ok (qd : Mo) (fuel : Nat) (K : Ex → St → Option AV) (qii qjx : Nat) (qhv : Ge) (qid qjy : Nat) (qhw : Ge) (qhe : Int) : ∀ (n' : Nat) (ui7 : Int),
    loopK (bX Pr (Gref02_NatCmp qd) (Lref02_NatCmp qd fuel) 6 72 0 fuel) (hX Pr 72 0 (Sref02_NatCmp_0 qii qjx qhv qid qjy qhw qhe)) n' (Sref02_NatCmp_0 qii qjx qhv qid qjy qhw ui7) K = gref02_NatCmp_l0 qd fuel (fun xu4 => K (Ex.ret) (Xref02_NatCmp_0_0 xu4)) (K (Ex.exit 0) Xref02_NatCmp_0_1) qii qjx qhv qid qjy qhw n' ui7
  | 0,_ => rfl
  | n' + 1,ui7 => (gref02_NatCmp_l0_eq qd fuel (fun s => loopK (bX Pr (Gref02_NatCmp qd) (Lref02_NatCmp qd fuel) 6 72 0 fuel) (hX Pr 72 0 (Sref02_NatCmp_0 qii qjx qhv qid qjy qhw qhe)) n' s K) K qii qjx qhv qid qjy qhw qhe ui7).trans
    (congrArg (fun kn => gref02_NatCmp_l0_step qd fuel kn _ _ qii qjx qhv qid qjy qhw ui7) (funext fun ui7 => gref02_NatCmp_l0_ok qd fuel K qii qjx qhv qid qjy qhw qhe n' ui7))
theorem gref02_NatCmp_L0 (qd : Mo) (fuel : Nat) : LX Pr (Gref02_NatCmp qd) (Lref02_NatCmp qd fuel) 6 72 0 fuel := by
  refine .of Tref02_NatCmp_0 (Fref02_NatCmp_0 qd fuel) (fun L h => ?_) (fun ps st K r he hr => ?_)
  · have e : (Lref02_NatCmp qd fuel).get (writes (lp Pr 72 0).1) = some (lam Tref02_NatCmp_0 (Fref02_NatCmp_0 qd fuel)) := by kernel_rfl
    exact (Option.some.inj (e.symm.trans h)).symm
  · unfold Fref02_NatCmp_0 at hr
    split at hr
    · obtain rfl := (Option.some.inj he).symm
      exact (gref02_NatCmp_l0_ok qd fuel K _ _ _ _ _ _ _ fuel _).trans hr
    · cases hr
noncomputable def gref02_NatCmp (qd : Mo) (fuel zh v3 : Nat) (vs : Ge) (yl p1 : Nat) (pv : Ge) : Option AV :=
  let r0 : Option AV := qd [AV.ro 1 zh v3 vs]; ck (okM [RS.one (LK.l 1)] r0) <| let r1 : Option AV := qd [AV.ro 1 yl p1 pv]; ck (okM [RS.one (LK.l 1)] r1) <| bif (↑(toN (getV r0)) : Int) != (↑(toN (getV r1)) : Int) then bif decide ((↑(toN (getV r0)) : Int) < (↑(toN (getV r1)) : Int)) then some (AV.int .i64 (-1))
    else some (AV.int .i64 1)
  else gref02_NatCmp_l0 qd fuel
    (fun (xu4 : Int) => some (AV.int .i64 xu4))
    (some (AV.int .i64 0))
    (toN (getV r0))
    (toR (getV r0))
    (toG (getV r0))
    (toN (getV r1))
    (toR (getV r1))
    (toG (getV r1)) fuel (IntKind.i64.wrap ((↑(toN (getV r0)) : Int) - 1))
noncomputable def mref02_NatCmp (qd : Mo) (fuel : Nat) (xs : List AV) : Option AV := match xs with
  | [AV.ro 1 zh v3 vs,AV.ro 1 yl p1 pv] => gref02_NatCmp qd fuel zh v3 vs yl p1 pv
  | _ => none
abbrev Rref02_NatCmp : List RS := [RS.one (LK.i .i64)]
theorem gref02_NatCmp_sm (qd : Mo) (fuel : Nat) (hΓ : GamOk Pr (Gref02_NatCmp qd)) (hP : NamesOk Pr) : SmOk Pr 72 (smM Rref02_NatCmp (mref02_NatCmp qd fuel)) := smL (L := (Lref02_NatCmp qd fuel)) (n := 1) hΓ hP (by kernel_rfl) (fun i hi => match i,hi with
  | 0,_ => gref02_NatCmp_L0 qd fuel
  | i + 1,hi => absurd hi (by omega)) fun xs v h => by
  unfold mref02_NatCmp at h
  split at h
  · exact Eq.trans (by kernel_rfl) h
  · cases h
noncomputable def Sslices_Equal_uint64_uint64_0 (qdv qd9 : Nat) (qdi : Ge) (qd3 qea : Nat) (qdh : Ge) (u12 u13 : Int) : St := { env := [(0,AV.ro 1 qdv qd9 qdi),(1,AV.ro 1 qd3 qea qdh),(12,AV.int .i64 u12),(13,AV.int .i64 u13)],h := [],kd := [] }
noncomputable def Xslices_Equal_uint64_uint64_0_0 (qfg : Bool) : St := { env := [(4,AV.bool qfg)],h := [],kd := [] }
noncomputable def Xslices_Equal_uint64_uint64_0_1 : St := { env := [],h := [],kd := [] }
noncomputable def gslices_Equal_uint64_uint64_l0_step (fuel : Nat) (kn : Int → Option AV) (kx0 : Bool → Option AV) (kx1 : Option AV) (qdv qd9 : Nat) (qdi : Ge) (qd3 qea : Nat) (qdh : Ge) (u12 u13 : Int) : Option AV :=
  bif decide (u13 < u12) then ck (decide (0 ≤ u13)) <| ck (decide (u13 < (↑qdv : Int))) <| ck (fitK (LK.i .u64) (qdi u13.toNat 0)) <| ck (decide (0 ≤ u13)) <| ck (decide (u13 < (↑qd3 : Int))) <| ck (fitK (LK.i .u64) (qdh u13.toNat 0)) <| bif toI (qdi u13.toNat 0) != toI (qdh u13.toNat 0) then kx0 false
    else kn (IntKind.i64.wrap (u13 + 1))
  else kx1
noncomputable def gslices_Equal_uint64_uint64_l0 (fuel : Nat) (kx0 : Bool → Option AV) (kx1 : Option AV) (qdv qd9 : Nat) (qdi : Ge) (qd3 qea : Nat) (qdh : Ge) (u12 : Int) : Nat → Int → Option AV
  | 0,_ => none
  | n' + 1,u13 => gslices_Equal_uint64_uint64_l0_step fuel (gslices_Equal_uint64_uint64_l0 fuel kx0 kx1 qdv qd9 qdi qd3 qea qdh u12 n') kx0 kx1 qdv qd9 qdi qd3 qea qdh u12 u13
noncomputable def Tslices_Equal_uint64_uint64_0 : TS' := ⟨[(0,TA.ro 1),(1,TA.ro 1),(12,TA.i .i64),(13,TA.i .i64)],[],[]⟩
noncomputable def Fslices_Equal_uint64_uint64_0 (fuel : Nat) (ps : List Pay) (K : Ex → St → Option AV) : Option AV := match ps with
  | .n qdv :: .n qd9 :: .g qdi :: .n qd3 :: .n qea :: .g qdh :: .i u12 :: .i u13 :: [] => gslices_Equal_uint64_uint64_l0 fuel (fun qfg => K (Ex.ret) (Xslices_Equal_uint64_uint64_0_0 qfg)) (K (Ex.exit 0) Xslices_Equal_uint64_uint64_0_1) qdv qd9 qdi qd3 qea qdh u12 fuel u13
  | _ => none
noncomputable def Lslices_Equal_uint64_uint64 (fuel : Nat) : Lam AV := [(67100720,lam Tslices_Equal_uint64_uint64_0 (Fslices_Equal_uint64_uint64_0 fuel))]
noncomputable def Gslices_Equal_uint64_uint64 : Gam := []
theorem gslices_Equal_uint64_uint64_l0_eq (fuel : Nat) (kn : St → Option AV) (K : Ex → St → Option AV) (qdv qd9 : Nat) (qdi : Ge) (qd3 qea : Nat) (qdh : Ge) (u12 ql7 u13 : Int) :
    bX Pr Gslices_Equal_uint64_uint64 (Lslices_Equal_uint64_uint64 fuel) 6 46 0 fuel (Sslices_Equal_uint64_uint64_0 qdv qd9 qdi qd3 qea qdh u12 u13) (fun e s => match e with | .normal => kn (hX Pr 46 0 (Sslices_Equal_uint64_uint64_0 qdv qd9 qdi qd3 qea qdh u12 ql7) s) | e => K e s) =
    gslices_Equal_uint64_uint64_l0_step fuel (fun u13 => kn (Sslices_Equal_uint64_uint64_0 qdv qd9 qdi qd3 qea qdh u12 u13)) (fun xu4 => K (Ex.ret) (Xslices_Equal_uint64_uint64_0_0 xu4)) (K (Ex.exit 0) Xslices_Equal_uint64_uint64_0_1) qdv qd9 qdi qd3 qea qdh u12 u13 := by kernel_rfl
theorem gslices_Equal_uint64_uint64_l0_ok (fuel : Nat) (K : Ex → St → Option AV) (qdv qd9 : Nat) (qdi : Ge) (qd3 qea : Nat) (qdh : Ge) (u12 ql7 : Int) : ∀ (n' : Nat) (u13 : Int),
    loopK (bX Pr Gslices_Equal_uint64_uint64 (Lslices_Equal_uint64_uint64 fuel) 6 46 0 fuel) (hX Pr 46 0 (Sslices_Equal_uint64_uint64_0 qdv qd9 qdi qd3 qea qdh u12 ql7)) n' (Sslices_Equal_uint64_uint64_0 qdv qd9 qdi qd3 qea qdh u12 u13) K = gslices_Equal_uint64_uint64_l0 fuel (fun xu4 => K (Ex.ret) (Xslices_Equal_uint64_uint64_0_0 xu4)) (K (Ex.exit 0) Xslices_Equal_uint64_uint64_0_1) qdv qd9 qdi qd3 qea qdh u12 n' u13
  | 0,_ => rfl
  | n' + 1,u13 => (gslices_Equal_uint64_uint64_l0_eq fuel (fun s => loopK (bX Pr Gslices_Equal_uint64_uint64 (Lslices_Equal_uint64_uint64 fuel) 6 46 0 fuel) (hX Pr 46 0 (Sslices_Equal_uint64_uint64_0 qdv qd9 qdi qd3 qea qdh u12 ql7)) n' s K) K qdv qd9 qdi qd3 qea qdh u12 ql7 u13).trans
    (congrArg (fun kn => gslices_Equal_uint64_uint64_l0_step fuel kn _ _ qdv qd9 qdi qd3 qea qdh u12 u13) (funext fun u13 => gslices_Equal_uint64_uint64_l0_ok fuel K qdv qd9 qdi qd3 qea qdh u12 ql7 n' u13))
theorem gslices_Equal_uint64_uint64_L0 (fuel : Nat) : LX Pr Gslices_Equal_uint64_uint64 (Lslices_Equal_uint64_uint64 fuel) 6 46 0 fuel := by
  refine .of Tslices_Equal_uint64_uint64_0 (Fslices_Equal_uint64_uint64_0 fuel) (fun L h => ?_) (fun ps st K r he hr => ?_)
  · have e : (Lslices_Equal_uint64_uint64 fuel).get (writes (lp Pr 46 0).1) = some (lam Tslices_Equal_uint64_uint64_0 (Fslices_Equal_uint64_uint64_0 fuel)) := by kernel_rfl
    exact (Option.some.inj (e.symm.trans h)).symm
  · unfold Fslices_Equal_uint64_uint64_0 at hr
    split at hr
    · obtain rfl := (Option.some.inj he).symm
      exact (gslices_Equal_uint64_uint64_l0_ok fuel K _ _ _ _ _ _ _ _ fuel _).trans hr
    · cases hr
noncomputable def gslices_Equal_uint64_uint64 (fuel qrx qt0 : Nat) (qtx : Ge) (qsp qtz : Nat) (qt3 : Ge) : Option AV :=
  bif (↑qrx : Int) != (↑qsp : Int) then some (AV.bool false)
  else gslices_Equal_uint64_uint64_l0 fuel
    (fun (xu4 : Bool) => some (AV.bool xu4))
    (some (AV.bool true))
    qrx
    qt0
    qtx
    qsp
    qtz
    qt3
    ((↑qrx : Int)) fuel (0)
noncomputable def mslices_Equal_uint64_uint64 (fuel : Nat) (xs : List AV) : Option AV := match xs with
  | [AV.ro 1 qrx qt0 qtx,AV.ro 1 qsp qtz qt3] => gslices_Equal_uint64_uint64 fuel qrx qt0 qtx qsp qtz qt3
  | _ => none
abbrev Rslices_Equal_uint64_uint64 : List RS := [RS.one LK.b]
theorem gslices_Equal_uint64_uint64_sm (fuel : Nat) (hΓ : GamOk Pr Gslices_Equal_uint64_uint64) (hP : NamesOk Pr) : SmOk Pr 46 (smM Rslices_Equal_uint64_uint64 (mslices_Equal_uint64_uint64 fuel)) := smL (L := (Lslices_Equal_uint64_uint64 fuel)) (n := 1) hΓ hP (by kernel_rfl) (fun i hi => match i,hi with
  | 0,_ => gslices_Equal_uint64_uint64_L0 fuel
  | i + 1,hi => absurd hi (by omega)) fun xs v h => by
  unfold mslices_Equal_uint64_uint64 at h
  split at h
  · exact Eq.trans (by kernel_rfl) h
  · cases h
noncomputable def Gratio_top : Gam := []
noncomputable def gratio_top (fuel y7 qa6 : Nat) (qan : Ge) : Option AV :=
  ck (bif bif decide ((↑y7 : Int) > 0) then decide ((↑y7 : Int) ≤ 256) else false then decide (0 ≤ IntKind.i64.wrap ((↑y7 : Int) - 1)) else true) <| ck (bif bif decide ((↑y7 : Int) > 0) then decide ((↑y7 : Int) ≤ 256) else false then decide (IntKind.i64.wrap ((↑y7 : Int) - 1) < (↑y7 : Int)) else true) <| ck (bif bif decide ((↑y7 : Int) > 0) then decide ((↑y7 : Int) ≤ 256) else false then true else true) <| ck (bif bif decide ((↑y7 : Int) > 0) then decide ((↑y7 : Int) ≤ 256) else false then fitK (LK.i .u64) (qan (IntKind.i64.wrap ((↑y7 : Int) - 1)).toNat 0) else true) <| some (AV.bool (bif bif decide ((↑y7 : Int) > 0) then decide ((↑y7 : Int) ≤ 256) else false then toI (qan (IntKind.i64.wrap ((↑y7 : Int) - 1)).toNat 0) != 0 else false))
noncomputable def mratio_top (fuel : Nat) (xs : List AV) : Option AV := match xs with
  | [AV.ro 1 y7 qa6 qan] => gratio_top fuel y7 qa6 qan
  | _ => none
abbrev Rratio_top : List RS := [RS.one LK.b]
theorem gratio_top_sm (fuel : Nat) (hΓ : GamOk Pr Gratio_top) (hP : NamesOk Pr) : SmOk Pr 47 (smM Rratio_top (mratio_top fuel)) := sm0 (fuel := fuel) (d := 7) hΓ hP fun xs v h => by
  unfold mratio_top at h
  split at h
  · exact Eq.trans (by kernel_rfl) h
  · cases h
noncomputable def Strim_0 (qn qv : Nat) (qk : Ge) (un3 : Int) : St := { env := [(0,AV.ro 1 qn qv qk),(3,AV.int .i64 un3)],h := [],kd := [] }
noncomputable def Xtrim_0_0 (qcl qep : Nat) (qen : Ge) (qgj : Int) : St := { env := [(0,AV.ro 1 qcl qep qen),(3,AV.int .i64 qgj)],h := [],kd := [] }
noncomputable def gtrim_l0_step (fuel : Nat) (kn : Int → Option AV) (kx0 : Nat → Nat → Ge → Int → Option AV) (qn qv : Nat) (qk : Ge) (un3 : Int) : Option AV :=
  ck (bif decide (un3 > 0) then decide (0 ≤ IntKind.i64.wrap (un3 - 1)) else true) <| ck (bif decide (un3 > 0) then decide (IntKind.i64.wrap (un3 - 1) < (↑qn : Int)) else true) <| ck (bif decide (un3 > 0) then true else true) <| ck (bif decide (un3 > 0) then fitK (LK.i .u32) (qk (IntKind.i64.wrap (un3 - 1)).toNat 0) else true) <| bif bif decide (un3 > 0) then toI (qk (IntKind.i64.wrap (un3 - 1)).toNat 0) == 0 else false then kn (IntKind.i64.wrap (un3 - 1))
  else kx0 qn qv qk un3
noncomputable def gtrim_l0 (fuel : Nat) (kx0 : Nat → Nat → Ge → Int → Option AV) (qn qv : Nat) (qk : Ge) : Nat → Int → Option AV
  | 0,_ => none
  | n' + 1,un3 => gtrim_l0_step fuel (gtrim_l0 fuel kx0 qn qv qk n') kx0 qn qv qk un3
noncomputable def Ttrim_0 : TS' := ⟨[(0,TA.ro 1),(3,TA.i .i64)],[],[]⟩
noncomputable def Ftrim_0 (fuel : Nat) (ps : List Pay) (K : Ex → St → Option AV) : Option AV := match ps with
  | .n qn :: .n qv :: .g qk :: .i un3 :: [] => gtrim_l0 fuel (fun qcl qep qen qgj => K (Ex.exit 0) (Xtrim_0_0 qcl qep qen qgj)) qn qv qk fuel un3
  | _ => none
noncomputable def Ltrim (fuel : Nat) : Lam AV := [(262088,lam Ttrim_0 (Ftrim_0 fuel))]
noncomputable def Gtrim : Gam := []
theorem gtrim_l0_eq (fuel : Nat) (kn : St → Option AV) (K : Ex → St → Option AV) (qn qv : Nat) (qk : Ge) (qhb un3 : Int) :
    bX Pr Gtrim (Ltrim fuel) 6 121 0 fuel (Strim_0 qn qv qk un3) (fun e s => match e with | .normal => kn (hX Pr 121 0 (Strim_0 qn qv qk qhb) s) | e => K e s) =
    gtrim_l0_step fuel (fun un3 => kn (Strim_0 qn qv qk un3)) (fun qas qa8 qbg qeb => K (Ex.exit 0) (Xtrim_0_0 qas qa8 qbg qeb)) qn qv qk un3 := by kernel_rfl
theorem gtrim_l0_ok (fuel : Nat) (K : Ex → St → Option AV) (qn qv : Nat) (qk : Ge) (qhb : Int) : ∀ (n' : Nat) (un3 : Int),
    loopK (bX Pr Gtrim (Ltrim fuel) 6 121 0 fuel) (hX Pr 121 0 (Strim_0 qn qv qk qhb)) n' (Strim_0 qn qv qk un3) K = gtrim_l0 fuel (fun qas qa8 qbg qeb => K (Ex.exit 0) (Xtrim_0_0 qas qa8 qbg qeb)) qn qv qk n' un3
  | 0,_ => rfl
  | n' + 1,un3 => (gtrim_l0_eq fuel (fun s => loopK (bX Pr Gtrim (Ltrim fuel) 6 121 0 fuel) (hX Pr 121 0 (Strim_0 qn qv qk qhb)) n' s K) K qn qv qk qhb un3).trans
    (congrArg (fun kn => gtrim_l0_step fuel kn _ qn qv qk un3) (funext fun un3 => gtrim_l0_ok fuel K qn qv qk qhb n' un3))
theorem gtrim_L0 (fuel : Nat) : LX Pr Gtrim (Ltrim fuel) 6 121 0 fuel := by
  refine .of Ttrim_0 (Ftrim_0 fuel) (fun L h => ?_) (fun ps st K r he hr => ?_)
  · have e : (Ltrim fuel).get (writes (lp Pr 121 0).1) = some (lam Ttrim_0 (Ftrim_0 fuel)) := by kernel_rfl
    exact (Option.some.inj (e.symm.trans h)).symm
  · unfold Ftrim_0 at hr
    split at hr
    · obtain rfl := (Option.some.inj he).symm
      exact (gtrim_l0_ok fuel K _ _ _ _ fuel _).trans hr
    · cases hr
noncomputable def gtrim (fuel zh v3 : Nat) (vs : Ge) : Option AV :=
  gtrim_l0 fuel
    (fun (_ qa8 : Nat) (qbg : Ge) (qeb : Int) => ck (decide (0 ≤ qeb)) <| ck (decide (qeb ≤ (↑qa8 : Int))) <| some (AV.ro 1 (qeb.toNat - 0) (qa8 - 0) fun (i : Nat) => qbg (0 + i)))
    zh
    v3
    vs fuel ((↑zh : Int))
noncomputable def mtrim (fuel : Nat) (xs : List AV) : Option AV := match xs with
  | [AV.ro 1 zh v3 vs] => gtrim fuel zh v3 vs
  | _ => none
abbrev Rtrim : List RS := [RS.one (LK.l (nat_lit 1))]
theorem gtrim_sm (fuel : Nat) (hΓ : GamOk Pr Gtrim) (hP : NamesOk Pr) : SmOk Pr 121 (smM Rtrim (mtrim fuel)) := smL (L := (Ltrim fuel)) (n := 1) hΓ hP (by kernel_rfl) (fun i hi => match i,hi with
  | 0,_ => gtrim_L0 fuel
  | i + 1,hi => absurd hi (by omega)) fun xs v h => by
  unfold mtrim at h
  split at h
  · exact Eq.trans (by kernel_rfl) h
  · cases h
noncomputable def Sleft_0 (qn qv : Nat) (qk : Ge) (uw5 us6 : Int) (qad qcv qdt : Nat) (ui8 : Int) (h0z : List AV) (h0e : List (List AV)) : St := { env := [(0,AV.ro 1 qn qv qk),(5,AV.int .i64 uw5),(6,AV.int .u64 us6),(7,AV.own 0 qad 1 qcv qdt),(8,AV.int .i64 ui8)],h := [Blk.fx 1 h0z h0e],kd := [] }
noncomputable def Xleft_0_0 (qke qj8 qj9 : Nat) (yk : List AV) (yj : List (List AV)) : St := { env := [(7,AV.own 0 qke 1 qj8 qj9)],h := [Blk.fx 1 yk yj],kd := [] }
noncomputable def gleft_l0_step (qf : Mo) (fuel : Nat) (kn : Int → List (List AV) → Option AV) (kx0 : Nat → Nat → Nat → List AV → List (List AV) → Option AV) (qn qv : Nat) (qk : Ge) (uw5 us6 : Int) (qad qcv qdt : Nat) (h0z : List AV) (ui8 : Int) (h0e : List (List AV)) : Option AV :=
  bif decide (ui8 < (↑qn : Int)) then ck (decide (0 ≤ ui8)) <| ck (decide (ui8 < (↑qn : Int))) <| ck (fitK (LK.i .u32) (qk ui8.toNat 0)) <| ck (decide (0 ≤ us6)) <| ck (decide (0 ≤ IntKind.i64.wrap (ui8 + uw5))) <| ck (decide (IntKind.i64.wrap (ui8 + uw5) < (↑qcv : Int))) <| ck (fitK (LK.i .u32) ((h0e.getD (qad + (IntKind.i64.wrap (ui8 + uw5)).toNat) h0z).getD 0 AV.dead)) <| ck (decide (0 ≤ IntKind.i64.wrap (ui8 + uw5))) <| ck (decide (IntKind.i64.wrap (ui8 + uw5) < (↑qcv : Int))) <| ck (decide (0 ≤ IntKind.i64.wrap (IntKind.i64.wrap (ui8 + uw5) + 1))) <| ck (decide (IntKind.i64.wrap (IntKind.i64.wrap (ui8 + uw5) + 1) < (↑qcv : Int))) <| ck (fitK (LK.i .u32) (((h0e.set (qad + (IntKind.i64.wrap (ui8 + uw5)).toNat) (AV.int .u32 (IntKind.u32.wrap (↑(BitVec.ofInt 32 (toI ((h0e.getD (qad + (IntKind.i64.wrap (ui8 + uw5)).toNat) h0z).getD 0 AV.dead)) ||| BitVec.ofInt 32 (IntKind.u32.wrap (IntKind.u64.wrap (IntKind.u64.wrap (toI (qk ui8.toNat 0)) * 2 ^ min us6.toNat 64)))).toNat : Int)) :: List.drop (0 + [AV.int .u32 (IntKind.u32.wrap (↑(BitVec.ofInt 32 (toI ((h0e.getD (qad + (IntKind.i64.wrap (ui8 + uw5)).toNat) h0z).getD 0 AV.dead)) ||| BitVec.ofInt 32 (IntKind.u32.wrap (IntKind.u64.wrap (IntKind.u64.wrap (toI (qk ui8.toNat 0)) * 2 ^ min us6.toNat 64)))).toNat : Int))].length) (h0e.getD (qad + (IntKind.i64.wrap (ui8 + uw5)).toNat) h0z))).getD (qad + (IntKind.i64.wrap (IntKind.i64.wrap (ui8 + uw5) + 1)).toNat) h0z).getD 0 AV.dead)) <| ck (decide (0 ≤ IntKind.i64.wrap (IntKind.i64.wrap (ui8 + uw5) + 1))) <| ck (decide (IntKind.i64.wrap (IntKind.i64.wrap (ui8 + uw5) + 1) < (↑qcv : Int))) <| kn (IntKind.i64.wrap (ui8 + 1)) ((h0e.set (qad + (IntKind.i64.wrap (ui8 + uw5)).toNat) (AV.int .u32 (IntKind.u32.wrap (↑(BitVec.ofInt 32 (toI ((h0e.getD (qad + (IntKind.i64.wrap (ui8 + uw5)).toNat) h0z).getD 0 AV.dead)) ||| BitVec.ofInt 32 (IntKind.u32.wrap (IntKind.u64.wrap (IntKind.u64.wrap (toI (qk ui8.toNat 0)) * 2 ^ min us6.toNat 64)))).toNat : Int)) :: List.drop (0 + [AV.int .u32 (IntKind.u32.wrap (↑(BitVec.ofInt 32 (toI ((h0e.getD (qad + (IntKind.i64.wrap (ui8 + uw5)).toNat) h0z).getD 0 AV.dead)) ||| BitVec.ofInt 32 (IntKind.u32.wrap (IntKind.u64.wrap (IntKind.u64.wrap (toI (qk ui8.toNat 0)) * 2 ^ min us6.toNat 64)))).toNat : Int))].length) (h0e.getD (qad + (IntKind.i64.wrap (ui8 + uw5)).toNat) h0z))).set (qad + (IntKind.i64.wrap (IntKind.i64.wrap (ui8 + uw5) + 1)).toNat) (AV.int .u32 (IntKind.u32.wrap (↑(BitVec.ofInt 32 (toI (((h0e.set (qad + (IntKind.i64.wrap (ui8 + uw5)).toNat) (AV.int .u32 (IntKind.u32.wrap (↑(BitVec.ofInt 32 (toI ((h0e.getD (qad + (IntKind.i64.wrap (ui8 + uw5)).toNat) h0z).getD 0 AV.dead)) ||| BitVec.ofInt 32 (IntKind.u32.wrap (IntKind.u64.wrap (IntKind.u64.wrap (toI (qk ui8.toNat 0)) * 2 ^ min us6.toNat 64)))).toNat : Int)) :: List.drop (0 + [AV.int .u32 (IntKind.u32.wrap (↑(BitVec.ofInt 32 (toI ((h0e.getD (qad + (IntKind.i64.wrap (ui8 + uw5)).toNat) h0z).getD 0 AV.dead)) ||| BitVec.ofInt 32 (IntKind.u32.wrap (IntKind.u64.wrap (IntKind.u64.wrap (toI (qk ui8.toNat 0)) * 2 ^ min us6.toNat 64)))).toNat : Int))].length) (h0e.getD (qad + (IntKind.i64.wrap (ui8 + uw5)).toNat) h0z))).getD (qad + (IntKind.i64.wrap (IntKind.i64.wrap (ui8 + uw5) + 1)).toNat) h0z).getD 0 AV.dead)) ||| BitVec.ofInt 32 (IntKind.u32.wrap ((IntKind.u64.wrap (IntKind.u64.wrap (toI (qk ui8.toNat 0)) * 2 ^ min us6.toNat 64)).fdiv (2 ^ 32)))).toNat : Int)) :: List.drop (0 + [AV.int .u32 (IntKind.u32.wrap (↑(BitVec.ofInt 32 (toI (((h0e.set (qad + (IntKind.i64.wrap (ui8 + uw5)).toNat) (AV.int .u32 (IntKind.u32.wrap (↑(BitVec.ofInt 32 (toI ((h0e.getD (qad + (IntKind.i64.wrap (ui8 + uw5)).toNat) h0z).getD 0 AV.dead)) ||| BitVec.ofInt 32 (IntKind.u32.wrap (IntKind.u64.wrap (IntKind.u64.wrap (toI (qk ui8.toNat 0)) * 2 ^ min us6.toNat 64)))).toNat : Int)) :: List.drop (0 + [AV.int .u32 (IntKind.u32.wrap (↑(BitVec.ofInt 32 (toI ((h0e.getD (qad + (IntKind.i64.wrap (ui8 + uw5)).toNat) h0z).getD 0 AV.dead)) ||| BitVec.ofInt 32 (IntKind.u32.wrap (IntKind.u64.wrap (IntKind.u64.wrap (toI (qk ui8.toNat 0)) * 2 ^ min us6.toNat 64)))).toNat : Int))].length) (h0e.getD (qad + (IntKind.i64.wrap (ui8 + uw5)).toNat) h0z))).getD (qad + (IntKind.i64.wrap (IntKind.i64.wrap (ui8 + uw5) + 1)).toNat) h0z).getD 0 AV.dead)) ||| BitVec.ofInt 32 (IntKind.u32.wrap ((IntKind.u64.wrap (IntKind.u64.wrap (toI (qk ui8.toNat 0)) * 2 ^ min us6.toNat 64)).fdiv (2 ^ 32)))).toNat : Int))].length) ((h0e.set (qad + (IntKind.i64.wrap (ui8 + uw5)).toNat) (AV.int .u32 (IntKind.u32.wrap (↑(BitVec.ofInt 32 (toI ((h0e.getD (qad + (IntKind.i64.wrap (ui8 + uw5)).toNat) h0z).getD 0 AV.dead)) ||| BitVec.ofInt 32 (IntKind.u32.wrap (IntKind.u64.wrap (IntKind.u64.wrap (toI (qk ui8.toNat 0)) * 2 ^ min us6.toNat 64)))).toNat : Int)) :: List.drop (0 + [AV.int .u32 (IntKind.u32.wrap (↑(BitVec.ofInt 32 (toI ((h0e.getD (qad + (IntKind.i64.wrap (ui8 + uw5)).toNat) h0z).getD 0 AV.dead)) ||| BitVec.ofInt 32 (IntKind.u32.wrap (IntKind.u64.wrap (IntKind.u64.wrap (toI (qk ui8.toNat 0)) * 2 ^ min us6.toNat 64)))).toNat : Int))].length) (h0e.getD (qad + (IntKind.i64.wrap (ui8 + uw5)).toNat) h0z))).getD (qad + (IntKind.i64.wrap (IntKind.i64.wrap (ui8 + uw5) + 1)).toNat) h0z)))
  else kx0 qad qcv qdt h0z h0e
noncomputable def gleft_l0 (qf : Mo) (fuel : Nat) (kx0 : Nat → Nat → Nat → List AV → List (List AV) → Option AV) (qn qv : Nat) (qk : Ge) (uw5 us6 : Int) (qad qcv qdt : Nat) (h0z : List AV) : Nat → Int → List (List AV) → Option AV
  | 0,_,_ => none
  | n' + 1,ui8,h0e => gleft_l0_step qf fuel (gleft_l0 qf fuel kx0 qn qv qk uw5 us6 qad qcv qdt h0z n') kx0 qn qv qk uw5 us6 qad qcv qdt h0z ui8 h0e
noncomputable def Tleft_0 : TS' := ⟨[(0,TA.ro 1),(5,TA.i .i64),(6,TA.i .u64),(7,TA.own 0 1),(8,TA.i .i64)],[TB.fx 1],[]⟩
noncomputable def Fleft_0 (qf : Mo) (fuel : Nat) (ps : List Pay) (K : Ex → St → Option AV) : Option AV := match ps with
  | .n qn :: .n qv :: .g qk :: .i uw5 :: .i us6 :: .n qad :: .n qcv :: .n qdt :: .i ui8 :: .z h0z :: .e h0e :: [] => gleft_l0 qf fuel (fun qke qj8 qj9 yk yj => K (Ex.exit 0) (Xleft_0_0 qke qj8 qj9 yk yj)) qn qv qk uw5 us6 qad qcv qdt h0z fuel ui8 h0e
  | _ => none
noncomputable def Lleft (qf : Mo) (fuel : Nat) : Lam AV := [(576460752286647040,lam Tleft_0 (Fleft_0 qf fuel))]
noncomputable def Gleft (qf : Mo) : Gam := [(121,smM [RS.one (LK.l (nat_lit 1))] qf)]
theorem gleft_l0_eq (qf : Mo) (fuel : Nat) (kn : St → Option AV) (K : Ex → St → Option AV) (qn qv : Nat) (qk : Ge) (uw5 us6 : Int) (qad qcv qdt : Nat) (h0z : List AV) (qg7 : Int) (pj : List (List AV)) (ui8 : Int) (h0e : List (List AV)) :
    bX Pr (Gleft qf) (Lleft qf fuel) 6 117 0 fuel (Sleft_0 qn qv qk uw5 us6 qad qcv qdt ui8 h0z h0e) (fun e s => match e with | .normal => kn (hX Pr 117 0 (Sleft_0 qn qv qk uw5 us6 qad qcv qdt qg7 h0z pj) s) | e => K e s) =
    gleft_l0_step qf fuel (fun ui8 h0e => kn (Sleft_0 qn qv qk uw5 us6 qad qcv qdt ui8 h0z h0e)) (fun qh0 qhz qh3 v0 vy => K (Ex.exit 0) (Xleft_0_0 qh0 qhz qh3 v0 vy)) qn qv qk uw5 us6 qad qcv qdt h0z ui8 h0e := by kernel_rfl
theorem gleft_l0_ok (qf : Mo) (fuel : Nat) (K : Ex → St → Option AV) (qn qv : Nat) (qk : Ge) (uw5 us6 : Int) (qad qcv qdt : Nat) (h0z : List AV) (qg7 : Int) (pj : List (List AV)) : ∀ (n' : Nat) (ui8 : Int) (h0e : List (List AV)),
    loopK (bX Pr (Gleft qf) (Lleft qf fuel) 6 117 0 fuel) (hX Pr 117 0 (Sleft_0 qn qv qk uw5 us6 qad qcv qdt qg7 h0z pj)) n' (Sleft_0 qn qv qk uw5 us6 qad qcv qdt ui8 h0z h0e) K = gleft_l0 qf fuel (fun qh0 qhz qh3 v0 vy => K (Ex.exit 0) (Xleft_0_0 qh0 qhz qh3 v0 vy)) qn qv qk uw5 us6 qad qcv qdt h0z n' ui8 h0e
  | 0,_,_ => rfl
  | n' + 1,ui8,h0e => (gleft_l0_eq qf fuel (fun s => loopK (bX Pr (Gleft qf) (Lleft qf fuel) 6 117 0 fuel) (hX Pr 117 0 (Sleft_0 qn qv qk uw5 us6 qad qcv qdt qg7 h0z pj)) n' s K) K qn qv qk uw5 us6 qad qcv qdt h0z qg7 pj ui8 h0e).trans
    (congrArg (fun kn => gleft_l0_step qf fuel kn _ qn qv qk uw5 us6 qad qcv qdt h0z ui8 h0e) (funext fun ui8 => funext fun h0e => gleft_l0_ok qf fuel K qn qv qk uw5 us6 qad qcv qdt h0z qg7 pj n' ui8 h0e))
theorem gleft_L0 (qf : Mo) (fuel : Nat) : LX Pr (Gleft qf) (Lleft qf fuel) 6 117 0 fuel := by
  refine .of Tleft_0 (Fleft_0 qf fuel) (fun L h => ?_) (fun ps st K r he hr => ?_)
  · have e : (Lleft qf fuel).get (writes (lp Pr 117 0).1) = some (lam Tleft_0 (Fleft_0 qf fuel)) := by kernel_rfl
    exact (Option.some.inj (e.symm.trans h)).symm
  · unfold Fleft_0 at hr
    split at hr
    · obtain rfl := (Option.some.inj he).symm
      exact (gleft_l0_ok qf fuel K _ _ _ _ _ _ _ _ _ _ _ fuel _ _).trans hr
    · cases hr
noncomputable def gleft (qf : Mo) (fuel zh v3 : Nat) (vs : Ge) (un1 : Int) : Option AV :=
  bif (↑zh : Int) == 0 then some (AV.ro 1 0 0 fun (x j : Nat) => [AV.int .u32 0].getD j AV.dead)
  else ck (decide (0 ≤ IntKind.i64.wrap (IntKind.i64.wrap ((↑zh : Int) + IntKind.i64.wrap (IntKind.u64.wrap (un1.tdiv 32))) + 1))) <| ck (decide (IntKind.i64.wrap (IntKind.i64.wrap ((↑zh : Int) + IntKind.i64.wrap (IntKind.u64.wrap (un1.tdiv 32))) + 1) ≤ IntKind.i64.wrap (IntKind.i64.wrap ((↑zh : Int) + IntKind.i64.wrap (IntKind.u64.wrap (un1.tdiv 32))) + 1))) <| ck ((4 * (IntKind.i64.wrap (IntKind.i64.wrap ((↑zh : Int) + IntKind.i64.wrap (IntKind.u64.wrap (un1.tdiv 32))) + 1)).toNat).ble 281474976710656) <| ck (((IntKind.i64.wrap (IntKind.i64.wrap ((↑zh : Int) + IntKind.i64.wrap (IntKind.u64.wrap (un1.tdiv 32))) + 1)).toNat + 1).ble 4611686018427387904) <| gleft_l0 qf fuel
    (fun (qh0 qhz qh3 : Nat) (v0 : List AV) (vy : List (List AV)) => let r0 : Option AV := qf [AV.ro 1 qhz qh3 fun (i j : Nat) => (vy.getD (qh0 + i) v0).getD j AV.dead]; ck (okM [RS.one (LK.l 1)] r0) <| some (AV.ro 1 (toN (getV r0)) (toR (getV r0)) (toG (getV r0))))
    zh
    v3
    vs
    (IntKind.i64.wrap (IntKind.u64.wrap (un1.tdiv 32)))
    (un1.tmod 32)
    (0)
    ((IntKind.i64.wrap (IntKind.i64.wrap ((↑zh : Int) + IntKind.i64.wrap (IntKind.u64.wrap (un1.tdiv 32))) + 1)).toNat)
    ((IntKind.i64.wrap (IntKind.i64.wrap ((↑zh : Int) + IntKind.i64.wrap (IntKind.u64.wrap (un1.tdiv 32))) + 1)).toNat)
    ([AV.int .u32 0]) fuel (0) (List.replicate (IntKind.i64.wrap (IntKind.i64.wrap ((↑zh : Int) + IntKind.i64.wrap (IntKind.u64.wrap (un1.tdiv 32))) + 1)).toNat [AV.int .u32 0])
noncomputable def mleft (qf : Mo) (fuel : Nat) (xs : List AV) : Option AV := match xs with
  | [AV.ro 1 zh v3 vs,AV.int .u64 un1] => gleft qf fuel zh v3 vs un1
  | _ => none
abbrev Rleft : List RS := [RS.one (LK.l (nat_lit 1))]
theorem gleft_sm (qf : Mo) (fuel : Nat) (hΓ : GamOk Pr (Gleft qf)) (hP : NamesOk Pr) : SmOk Pr 117 (smM Rleft (mleft qf fuel)) := smL (L := (Lleft qf fuel)) (n := 1) hΓ hP (by kernel_rfl) (fun i hi => match i,hi with
  | 0,_ => gleft_L0 qf fuel
  | i + 1,hi => absurd hi (by omega)) fun xs v h => by
  unfold mleft at h
  split at h
  · exact Eq.trans (by kernel_rfl) h
  · cases h
noncomputable def Gwords (qf : Mo) : Gam := [(121,smM [RS.one (LK.l (nat_lit 1))] qf)]
noncomputable def gwords (qf : Mo) (fuel : Nat) (ux0 : Int) : Option AV :=
  let r0 : Option AV := qf [AV.ro 1 2 2 fun (i j : Nat) => ([[AV.int .u32 (IntKind.u32.wrap ux0)],[AV.int .u32 (IntKind.u32.wrap (ux0.fdiv (2 ^ 32)))]].getD i []).getD j AV.dead]; ck (okM [RS.one (LK.l 1)] r0) <| some (AV.ro 1 (toN (getV r0)) (toR (getV r0)) (toG (getV r0)))
noncomputable def mwords (qf : Mo) (fuel : Nat) (xs : List AV) : Option AV := match xs with
  | [AV.int .u64 ux0] => gwords qf fuel ux0
  | _ => none
abbrev Rwords : List RS := [RS.one (LK.l (nat_lit 1))]
theorem gwords_sm (qf : Mo) (fuel : Nat) (hΓ : GamOk Pr (Gwords qf)) (hP : NamesOk Pr) : SmOk Pr 114 (smM Rwords (mwords qf fuel)) := sm0 (fuel := fuel) (d := 7) hΓ hP fun xs v h => by
  unfold mwords at h
  split at h
  · exact Eq.trans (by kernel_rfl) h
  · cases h
noncomputable def Sadd_0 (qn qv : Nat) (qk : Ge) (wj wl : Nat) (q9 : Ge) (yt yd pp : Nat) (uc6 ui7 : Int) (h0z : List AV) (h0e : List (List AV)) : St := { env := [(0,AV.ro 1 qn qv qk),(1,AV.ro 1 wj wl q9),(5,AV.own 0 yt 1 yd pp),(6,AV.int .u64 uc6),(7,AV.int .i64 ui7)],h := [Blk.fx 1 h0z h0e],kd := [] }
noncomputable def Xadd_0_0 (qqa qru : Nat) (qqp : Ge) (qkb qkl qki : Nat) (qsi : Int) (qhd : List AV) (qg2 : List (List AV)) : St := { env := [(0,AV.ro 1 qqa qru qqp),(5,AV.own 0 qkb 1 qkl qki),(6,AV.int .u64 qsi)],h := [Blk.fx 1 qhd qg2],kd := [] }
noncomputable def gadd_l0_step (qf : Mo) (fuel : Nat) (kn : Int → Int → List (List AV) → Option AV) (kx0 : Nat → Nat → Ge → Nat → Nat → Nat → Int → List AV → List (List AV) → Option AV) (qn qv : Nat) (qk : Ge) (wj wl : Nat) (q9 : Ge) (yt yd pp : Nat) (h0z : List AV) (uc6 ui7 : Int) (h0e : List (List AV)) : Option AV :=
  bif decide (ui7 < (↑qn : Int)) then ck (decide (0 ≤ ui7)) <| ck (decide (ui7 < (↑qn : Int))) <| ck (fitK (LK.i .u32) (qk ui7.toNat 0)) <| bif decide (ui7 < (↑wj : Int)) then ck (decide (0 ≤ ui7)) <| ck (decide (ui7 < (↑wj : Int))) <| ck (fitK (LK.i .u32) (q9 ui7.toNat 0)) <| ck (decide (0 ≤ ui7)) <| ck (decide (ui7 < (↑yd : Int))) <| kn ((IntKind.u64.wrap (IntKind.u64.wrap (uc6 + IntKind.u64.wrap (toI (qk ui7.toNat 0))) + IntKind.u64.wrap (toI (q9 ui7.toNat 0)))).fdiv (2 ^ 32)) (IntKind.i64.wrap (ui7 + 1)) (h0e.set (yt + ui7.toNat) (AV.int .u32 (IntKind.u32.wrap (IntKind.u64.wrap (IntKind.u64.wrap (uc6 + IntKind.u64.wrap (toI (qk ui7.toNat 0))) + IntKind.u64.wrap (toI (q9 ui7.toNat 0))))) :: List.drop (0 + [AV.int .u32 (IntKind.u32.wrap (IntKind.u64.wrap (IntKind.u64.wrap (uc6 + IntKind.u64.wrap (toI (qk ui7.toNat 0))) + IntKind.u64.wrap (toI (q9 ui7.toNat 0)))))].length) (h0e.getD (yt + ui7.toNat) h0z)))
    else ck (decide (0 ≤ ui7)) <| ck (decide (ui7 < (↑yd : Int))) <| kn ((IntKind.u64.wrap (uc6 + IntKind.u64.wrap (toI (qk ui7.toNat 0)))).fdiv (2 ^ 32)) (IntKind.i64.wrap (ui7 + 1)) (h0e.set (yt + ui7.toNat) (AV.int .u32 (IntKind.u32.wrap (IntKind.u64.wrap (uc6 + IntKind.u64.wrap (toI (qk ui7.toNat 0))))) :: List.drop (0 + [AV.int .u32 (IntKind.u32.wrap (IntKind.u64.wrap (uc6 + IntKind.u64.wrap (toI (qk ui7.toNat 0)))))].length) (h0e.getD (yt + ui7.toNat) h0z)))
  else kx0 qn qv qk yt yd pp uc6 h0z h0e
noncomputable def gadd_l0 (qf : Mo) (fuel : Nat) (kx0 : Nat → Nat → Ge → Nat → Nat → Nat → Int → List AV → List (List AV) → Option AV) (qn qv : Nat) (qk : Ge) (wj wl : Nat) (q9 : Ge) (yt yd pp : Nat) (h0z : List AV) : Nat → Int → Int → List (List AV) → Option AV
  | 0,_,_,_ => none
  | n' + 1,uc6,ui7,h0e => gadd_l0_step qf fuel (gadd_l0 qf fuel kx0 qn qv qk wj wl q9 yt yd pp h0z n') kx0 qn qv qk wj wl q9 yt yd pp h0z uc6 ui7 h0e
termination_by structural k => k
noncomputable def Tadd_0 : TS' := ⟨[(0,TA.ro 1),(1,TA.ro 1),(5,TA.own 0 1),(6,TA.i .u64),(7,TA.i .i64)],[TB.fx 1],[]⟩
noncomputable def Fadd_0 (qf : Mo) (fuel : Nat) (ps : List Pay) (K : Ex → St → Option AV) : Option AV := match ps with
  | .n qn :: .n qv :: .g qk :: .n wj :: .n wl :: .g q9 :: .n yt :: .n yd :: .n pp :: .i uc6 :: .i ui7 :: .z h0z :: .e h0e :: [] => gadd_l0 qf fuel (fun qqa qru qqp qkb qkl qki qsi qhd qg2 => K (Ex.exit 0) (Xadd_0_0 qqa qru qqp qkb qkl qki qsi qhd qg2)) qn qv qk wj wl q9 yt yd pp h0z fuel uc6 ui7 h0e
  | _ => none
noncomputable def Ladd (qf : Mo) (fuel : Nat) : Lam AV := [(1125899906318528,lam Tadd_0 (Fadd_0 qf fuel))]
noncomputable def Gadd (qf : Mo) : Gam := [(121,smM [RS.one (LK.l (nat_lit 1))] qf)]
theorem gadd_l0_eq (qf : Mo) (fuel : Nat) (kn : St → Option AV) (K : Ex → St → Option AV) (qn qv : Nat) (qk : Ge) (wj wl : Nat) (q9 : Ge) (yt yd pp : Nat) (h0z : List AV) (qjp qhe : Int) (pj : List (List AV)) (uc6 ui7 : Int) (h0e : List (List AV)) :
    bX Pr (Gadd qf) (Ladd qf fuel) 6 116 0 fuel (Sadd_0 qn qv qk wj wl q9 yt yd pp uc6 ui7 h0z h0e) (fun e s => match e with | .normal => kn (hX Pr 116 0 (Sadd_0 qn qv qk wj wl q9 yt yd pp qjp qhe h0z pj) s) | e => K e s) =
    gadd_l0_step qf fuel (fun uc6 ui7 h0e => kn (Sadd_0 qn qv qk wj wl q9 yt yd pp uc6 ui7 h0z h0e)) (fun qas qa8 qbg qa1 qaf qbt qr0 v0 vy => K (Ex.exit 0) (Xadd_0_0 qas qa8 qbg qa1 qaf qbt qr0 v0 vy)) qn qv qk wj wl q9 yt yd pp h0z uc6 ui7 h0e := by kernel_rfl
theorem gadd_l0_ok (qf : Mo) (fuel : Nat) (K : Ex → St → Option AV) (qn qv : Nat) (qk : Ge) (wj wl : Nat) (q9 : Ge) (yt yd pp : Nat) (h0z : List AV) (qjp qhe : Int) (pj : List (List AV)) : ∀ (n' : Nat) (uc6 ui7 : Int) (h0e : List (List AV)),
    loopK (bX Pr (Gadd qf) (Ladd qf fuel) 6 116 0 fuel) (hX Pr 116 0 (Sadd_0 qn qv qk wj wl q9 yt yd pp qjp qhe h0z pj)) n' (Sadd_0 qn qv qk wj wl q9 yt yd pp uc6 ui7 h0z h0e) K = gadd_l0 qf fuel (fun qas qa8 qbg qa1 qaf qbt qr0 v0 vy => K (Ex.exit 0) (Xadd_0_0 qas qa8 qbg qa1 qaf qbt qr0 v0 vy)) qn qv qk wj wl q9 yt yd pp h0z n' uc6 ui7 h0e
  | 0,_,_,_ => rfl
  | n' + 1,uc6,ui7,h0e => (gadd_l0_eq qf fuel (fun s => loopK (bX Pr (Gadd qf) (Ladd qf fuel) 6 116 0 fuel) (hX Pr 116 0 (Sadd_0 qn qv qk wj wl q9 yt yd pp qjp qhe h0z pj)) n' s K) K qn qv qk wj wl q9 yt yd pp h0z qjp qhe pj uc6 ui7 h0e).trans
    (congrArg (fun kn => gadd_l0_step qf fuel kn _ qn qv qk wj wl q9 yt yd pp h0z uc6 ui7 h0e) (funext fun uc6 => funext fun ui7 => funext fun h0e => gadd_l0_ok qf fuel K qn qv qk wj wl q9 yt yd pp h0z qjp qhe pj n' uc6 ui7 h0e))
theorem gadd_L0 (qf : Mo) (fuel : Nat) : LX Pr (Gadd qf) (Ladd qf fuel) 6 116 0 fuel := by
  refine .of Tadd_0 (Fadd_0 qf fuel) (fun L h => ?_) (fun ps st K r he hr => ?_)
  · have e : (Ladd qf fuel).get (writes (lp Pr 116 0).1) = some (lam Tadd_0 (Fadd_0 qf fuel)) := by kernel_rfl
    exact (Option.some.inj (e.symm.trans h)).symm
  · unfold Fadd_0 at hr
    split at hr
    · obtain rfl := (Option.some.inj he).symm
      exact (gadd_l0_ok qf fuel K _ _ _ _ _ _ _ _ _ _ _ _ _ fuel _ _ _).trans hr
    · cases hr
noncomputable def gadd (qf : Mo) (fuel zh v3 : Nat) (vs : Ge) (yl p1 : Nat) (pv : Ge) : Option AV :=
  bif decide ((↑zh : Int) < (↑yl : Int)) then ck (decide (0 ≤ IntKind.i64.wrap ((↑yl : Int) + 1))) <| ck (decide (IntKind.i64.wrap ((↑yl : Int) + 1) ≤ IntKind.i64.wrap ((↑yl : Int) + 1))) <| ck ((4 * (IntKind.i64.wrap ((↑yl : Int) + 1)).toNat).ble 281474976710656) <| ck (((IntKind.i64.wrap ((↑yl : Int) + 1)).toNat + 1).ble 4611686018427387904) <| gadd_l0 qf fuel
      (fun (qas _ : Nat) (_ : Ge) (qa1 qaf qbt : Nat) (qr0 : Int) (v0 : List AV) (vy : List (List AV)) => ck (decide (0 ≤ (↑qas : Int))) <| ck (decide ((↑qas : Int) < (↑qaf : Int))) <| let r0 : Option AV := qf [AV.ro 1 qaf qbt fun (i j : Nat) => ((vy.set (qa1 + (↑qas : Int).toNat) (AV.int .u32 (IntKind.u32.wrap qr0) :: List.drop (0 + [AV.int .u32 (IntKind.u32.wrap qr0)].length) (vy.getD (qa1 + (↑qas : Int).toNat) v0))).getD (qa1 + i) v0).getD j AV.dead]; ck (okM [RS.one (LK.l 1)] r0) <| some (AV.ro 1 (toN (getV r0)) (toR (getV r0)) (toG (getV r0))))
      yl
      p1
      pv
      zh
      v3
      vs
      (0)
      ((IntKind.i64.wrap ((↑yl : Int) + 1)).toNat)
      ((IntKind.i64.wrap ((↑yl : Int) + 1)).toNat)
      ([AV.int .u32 0]) fuel (0) (0) (List.replicate (IntKind.i64.wrap ((↑yl : Int) + 1)).toNat [AV.int .u32 0])
  else ck (decide (0 ≤ IntKind.i64.wrap ((↑zh : Int) + 1))) <| ck (decide (IntKind.i64.wrap ((↑zh : Int) + 1) ≤ IntKind.i64.wrap ((↑zh : Int) + 1))) <| ck ((4 * (IntKind.i64.wrap ((↑zh : Int) + 1)).toNat).ble 281474976710656) <| ck (((IntKind.i64.wrap ((↑zh : Int) + 1)).toNat + 1).ble 4611686018427387904) <| gadd_l0 qf fuel
    (fun (qcl _ : Nat) (_ : Ge) (qfr qd4 qgs : Nat) (que : Int) (yk : List AV) (yj : List (List AV)) => ck (decide (0 ≤ (↑qcl : Int))) <| ck (decide ((↑qcl : Int) < (↑qd4 : Int))) <| let r1 : Option AV := qf [AV.ro 1 qd4 qgs fun (i j : Nat) => ((yj.set (qfr + (↑qcl : Int).toNat) (AV.int .u32 (IntKind.u32.wrap que) :: List.drop (0 + [AV.int .u32 (IntKind.u32.wrap que)].length) (yj.getD (qfr + (↑qcl : Int).toNat) yk))).getD (qfr + i) yk).getD j AV.dead]; ck (okM [RS.one (LK.l 1)] r1) <| some (AV.ro 1 (toN (getV r1)) (toR (getV r1)) (toG (getV r1))))
    zh
    v3
    vs
    yl
    p1
    pv
    (0)
    ((IntKind.i64.wrap ((↑zh : Int) + 1)).toNat)
    ((IntKind.i64.wrap ((↑zh : Int) + 1)).toNat)
    ([AV.int .u32 0]) fuel (0) (0) (List.replicate (IntKind.i64.wrap ((↑zh : Int) + 1)).toNat [AV.int .u32 0])
noncomputable def madd (qf : Mo) (fuel : Nat) (xs : List AV) : Option AV := match xs with
  | [AV.ro 1 zh v3 vs,AV.ro 1 yl p1 pv] => gadd qf fuel zh v3 vs yl p1 pv
  | _ => none
abbrev Radd : List RS := [RS.one (LK.l (nat_lit 1))]
theorem gadd_sm (qf : Mo) (fuel : Nat) (hΓ : GamOk Pr (Gadd qf)) (hP : NamesOk Pr) : SmOk Pr 116 (smM Radd (madd qf fuel)) := smL (L := (Ladd qf fuel)) (n := 1) hΓ hP (by kernel_rfl) (fun i hi => match i,hi with
  | 0,_ => gadd_L0 qf fuel
  | i + 1,hi => absurd hi (by omega)) fun xs v h => by
  unfold madd at h
  split at h
  · exact Eq.trans (by kernel_rfl) h
  · cases h
noncomputable def LInt_give_i (fuel : Nat) : Lam AV := []
noncomputable def GInt_give_i : Gam := []
noncomputable def gInt_give_i (fuel : Nat) (qjs : Bool) (qh1 qjt : Nat) (qji : Ge) (q4 : Bool) (qm qu : Nat) (qq : Ge) : Option AV :=
  some (AV.tup [AV.bool (bif qjs then decide ((↑qh1 : Int) > 0) else false),AV.ro 1 qh1 qjt qji])
theorem gInt_give_i_run (fuel : Nat) (qjs : Bool) (qh1 qjt : Nat) (qji : Ge) (q4 : Bool) (qm qu : Nat) (qq : Ge) : runX Pr GInt_give_i [((6,84),LInt_give_i fuel)] fuel 7 84 XInt_give_i [AV.ptr 0 0,AV.bool qjs,AV.ro 1 qh1 qjt qji] [Blk.box [AV.bool q4,AV.ro 1 qm qu qq]] = gInt_give_i fuel qjs qh1 qjt qji q4 qm qu qq := by kernel_rfl
noncomputable def mInt_give_i (fuel : Nat) (xs : List AV) : Option AV := match xs with
  | [AV.ptr 0 0,AV.bool qjs,AV.ro 1 qh1 qjt qji,AV.bool q4,AV.ro 1 qm qu qq] => gInt_give_i fuel qjs qh1 qjt qji q4 qm qu qq
  | _ => none
theorem gInt_give_i_sm (fuel : Nat) (hΓ : GamOk Pr GInt_give_i) (hP : NamesOk Pr) : XOk Pr 84 (smX RInt_give_i XInt_give_i (mInt_give_i fuel)) XInt_give_i := by
  refine smX_ok (fuel := fuel) hΓ hP (LamOk.of 6 84 (LInt_give_i fuel) 0 (by kernel_rfl) (fun i hi => ?_)) 7 84 RInt_give_i XInt_give_i _ (fun xs0 ys0 v ha hb h => ?_)
  · match i,hi with
    | i + 0,hi => exact absurd hi (by omega)
  · skip
    have ha0 : xs0.length = 3 := ha
    clear ha
    obtain ⟨a0,xs1,rfl,ha1⟩ := len_cons ha0
    clear ha0
    obtain ⟨a1,xs2,rfl,ha2⟩ := len_cons ha1
    clear ha1
    obtain ⟨a2,xs3,rfl,ha3⟩ := len_cons ha2
    clear ha2
    obtain rfl := List.eq_nil_of_length_eq_zero ha3
    have hy0 : ys0.map List.length = [2] := hb
    clear hb
    obtain ⟨q4,ys1,rfl,hb0_0,hy1⟩ := map_cons' hy0
    clear hy0
    obtain ⟨c0_0,b0_1,rfl,hb0_1⟩ := len_cons hb0_0
    clear hb0_0
    obtain ⟨c0_1,z0,rfl,hb0_2⟩ := len_cons hb0_1
    clear hb0_1
    obtain rfl := List.eq_nil_of_length_eq_zero hb0_2
    obtain rfl := map_nil' hy1
    have h : mInt_give_i fuel [a0,a1,a2,c0_0,c0_1] = some v := h
    generalize hx0 : [a0,a1,a2,c0_0,c0_1] = zs at h
    unfold mInt_give_i at h
    split at h
    · skip
      obtain ⟨rfl,hx1⟩ := List.cons.inj hx0
      obtain ⟨rfl,hx2⟩ := List.cons.inj hx1
      obtain ⟨rfl,hx3⟩ := List.cons.inj hx2
      obtain ⟨rfl,hx4⟩ := List.cons.inj hx3
      obtain ⟨rfl,hx5⟩ := List.cons.inj hx4
      simp only [List.map_cons,List.map_nil]
      exact (gInt_give_i_run fuel _ _ _ _ _ _ _ _).trans h
    · cases h
noncomputable def LInt_give_ra (fuel : Nat) : Lam AV := []
noncomputable def GInt_give_ra : Gam := []
noncomputable def gInt_give_ra (fuel : Nat) (qjs : Bool) (qh1 qjt : Nat) (qji : Ge) (q4 : Bool) (qm qu : Nat) (qq : Ge) (z0 : Bool) (zd zl : Nat) (zj : Ge) : Option AV :=
  some (AV.tup [AV.bool (bif qjs then decide ((↑qh1 : Int) > 0) else false),AV.ro 1 qh1 qjt qji,AV.bool z0,AV.ro 1 zd zl zj])
theorem gInt_give_ra_run (fuel : Nat) (qjs : Bool) (qh1 qjt : Nat) (qji : Ge) (q4 : Bool) (qm qu : Nat) (qq : Ge) (z0 : Bool) (zd zl : Nat) (zj : Ge) : runX Pr GInt_give_ra [((6,84),LInt_give_ra fuel)] fuel 7 84 XInt_give_ra [AV.ptr 0 0,AV.bool qjs,AV.ro 1 qh1 qjt qji] [Blk.box [AV.bool q4,AV.ro 1 qm qu qq,AV.bool z0,AV.ro 1 zd zl zj]] = gInt_give_ra fuel qjs qh1 qjt qji q4 qm qu qq z0 zd zl zj := by kernel_rfl
noncomputable def mInt_give_ra (fuel : Nat) (xs : List AV) : Option AV := match xs with
  | [AV.ptr 0 0,AV.bool qjs,AV.ro 1 qh1 qjt qji,AV.bool q4,AV.ro 1 qm qu qq,AV.bool z0,AV.ro 1 zd zl zj] => gInt_give_ra fuel qjs qh1 qjt qji q4 qm qu qq z0 zd zl zj
  | _ => none
theorem gInt_give_ra_sm (fuel : Nat) (hΓ : GamOk Pr GInt_give_ra) (hP : NamesOk Pr) : XOk Pr 84 (smX RInt_give_ra XInt_give_ra (mInt_give_ra fuel)) XInt_give_ra := by
  refine smX_ok (fuel := fuel) hΓ hP (LamOk.of 6 84 (LInt_give_ra fuel) 0 (by kernel_rfl) (fun i hi => ?_)) 7 84 RInt_give_ra XInt_give_ra _ (fun xs0 ys0 v ha hb h => ?_)
  · match i,hi with
    | i + 0,hi => exact absurd hi (by omega)
  · skip
    have ha0 : xs0.length = 3 := ha
    clear ha
    obtain ⟨a0,xs1,rfl,ha1⟩ := len_cons ha0
    clear ha0
    obtain ⟨a1,xs2,rfl,ha2⟩ := len_cons ha1
    clear ha1
    obtain ⟨a2,xs3,rfl,ha3⟩ := len_cons ha2
    clear ha2
    obtain rfl := List.eq_nil_of_length_eq_zero ha3
    have hy0 : ys0.map List.length = [4] := hb
    clear hb
    obtain ⟨q4,ys1,rfl,hb0_0,hy1⟩ := map_cons' hy0
    clear hy0
    obtain ⟨c0_0,b0_1,rfl,hb0_1⟩ := len_cons hb0_0
    clear hb0_0
    obtain ⟨c0_1,z0,rfl,hb0_2⟩ := len_cons hb0_1
    clear hb0_1
    obtain ⟨c0_2,b0_3,rfl,hb0_3⟩ := len_cons hb0_2
    clear hb0_2
    obtain ⟨c0_3,b0_4,rfl,hb0_4⟩ := len_cons hb0_3
    clear hb0_3
    obtain rfl := List.eq_nil_of_length_eq_zero hb0_4
    obtain rfl := map_nil' hy1
    have h : mInt_give_ra fuel [a0,a1,a2,c0_0,c0_1,c0_2,c0_3] = some v := h
    generalize hx0 : [a0,a1,a2,c0_0,c0_1,c0_2,c0_3] = zs at h
    unfold mInt_give_ra at h
    split at h
    · skip
      obtain ⟨rfl,hx1⟩ := List.cons.inj hx0
      obtain ⟨rfl,hx2⟩ := List.cons.inj hx1
      obtain ⟨rfl,hx3⟩ := List.cons.inj hx2
      obtain ⟨rfl,hx4⟩ := List.cons.inj hx3
      obtain ⟨rfl,hx5⟩ := List.cons.inj hx4
      obtain ⟨rfl,hx6⟩ := List.cons.inj hx5
      obtain ⟨rfl,hx7⟩ := List.cons.inj hx6
      simp only [List.map_cons,List.map_nil]
      exact (gInt_give_ra_run fuel _ _ _ _ _ _ _ _ _ _ _ _).trans h
    · cases h
noncomputable def LInt_give_rb (fuel : Nat) : Lam AV := []
noncomputable def GInt_give_rb : Gam := []
noncomputable def gInt_give_rb (fuel : Nat) (qjs : Bool) (qh1 qjt : Nat) (qji : Ge) (q4 : Bool) (qm qu : Nat) (qq : Ge) (z0 : Bool) (zd zl : Nat) (zj : Ge) : Option AV :=
  some (AV.tup [AV.bool q4,AV.ro 1 qm qu qq,AV.bool (bif qjs then decide ((↑qh1 : Int) > 0) else false),AV.ro 1 qh1 qjt qji])
theorem gInt_give_rb_run (fuel : Nat) (qjs : Bool) (qh1 qjt : Nat) (qji : Ge) (q4 : Bool) (qm qu : Nat) (qq : Ge) (z0 : Bool) (zd zl : Nat) (zj : Ge) : runX Pr GInt_give_rb [((6,84),LInt_give_rb fuel)] fuel 7 84 XInt_give_rb [AV.ptr 0 2,AV.bool qjs,AV.ro 1 qh1 qjt qji] [Blk.box [AV.bool q4,AV.ro 1 qm qu qq,AV.bool z0,AV.ro 1 zd zl zj]] = gInt_give_rb fuel qjs qh1 qjt qji q4 qm qu qq z0 zd zl zj := by kernel_rfl
noncomputable def mInt_give_rb (fuel : Nat) (xs : List AV) : Option AV := match xs with
  | [AV.ptr 0 2,AV.bool qjs,AV.ro 1 qh1 qjt qji,AV.bool q4,AV.ro 1 qm qu qq,AV.bool z0,AV.ro 1 zd zl zj] => gInt_give_rb fuel qjs qh1 qjt qji q4 qm qu qq z0 zd zl zj
  | _ => none
theorem gInt_give_rb_sm (fuel : Nat) (hΓ : GamOk Pr GInt_give_rb) (hP : NamesOk Pr) : XOk Pr 84 (smX RInt_give_rb XInt_give_rb (mInt_give_rb fuel)) XInt_give_rb := by
  refine smX_ok (fuel := fuel) hΓ hP (LamOk.of 6 84 (LInt_give_rb fuel) 0 (by kernel_rfl) (fun i hi => ?_)) 7 84 RInt_give_rb XInt_give_rb _ (fun xs0 ys0 v ha hb h => ?_)
  · match i,hi with
    | i + 0,hi => exact absurd hi (by omega)
  · skip
    have ha0 : xs0.length = 3 := ha
    clear ha
    obtain ⟨a0,xs1,rfl,ha1⟩ := len_cons ha0
    clear ha0
    obtain ⟨a1,xs2,rfl,ha2⟩ := len_cons ha1
    clear ha1
    obtain ⟨a2,xs3,rfl,ha3⟩ := len_cons ha2
    clear ha2
    obtain rfl := List.eq_nil_of_length_eq_zero ha3
    have hy0 : ys0.map List.length = [4] := hb
    clear hb
    obtain ⟨q4,ys1,rfl,hb0_0,hy1⟩ := map_cons' hy0
    clear hy0
    obtain ⟨c0_0,b0_1,rfl,hb0_1⟩ := len_cons hb0_0
    clear hb0_0
    obtain ⟨c0_1,z0,rfl,hb0_2⟩ := len_cons hb0_1
    clear hb0_1
    obtain ⟨c0_2,b0_3,rfl,hb0_3⟩ := len_cons hb0_2
    clear hb0_2
    obtain ⟨c0_3,b0_4,rfl,hb0_4⟩ := len_cons hb0_3
    clear hb0_3
    obtain rfl := List.eq_nil_of_length_eq_zero hb0_4
    obtain rfl := map_nil' hy1
    have h : mInt_give_rb fuel [a0,a1,a2,c0_0,c0_1,c0_2,c0_3] = some v := h
    generalize hx0 : [a0,a1,a2,c0_0,c0_1,c0_2,c0_3] = zs at h
    unfold mInt_give_rb at h
    split at h
    · skip
      obtain ⟨rfl,hx1⟩ := List.cons.inj hx0
      obtain ⟨rfl,hx2⟩ := List.cons.inj hx1
      obtain ⟨rfl,hx3⟩ := List.cons.inj hx2
      obtain ⟨rfl,hx4⟩ := List.cons.inj hx3
      obtain ⟨rfl,hx5⟩ := List.cons.inj hx4
      obtain ⟨rfl,hx6⟩ := List.cons.inj hx5
      obtain ⟨rfl,hx7⟩ := List.cons.inj hx6
      simp only [List.map_cons,List.map_nil]
      exact (gInt_give_rb_run fuel _ _ _ _ _ _ _ _ _ _ _ _).trans h
    · cases h
noncomputable def SInt_SetBytes_a_0 (wj wl : Nat) (q9 : Ge) (yd qi8 : Nat) (qjd : Ge) (ui6 : Int) (zi : Bool) (q5 q8 : Nat) (q7 : Ge) : St := { env := [(0,AV.ptr 0 0),(1,AV.ro 1 wj wl q9),(5,AV.ro 1 yd qi8 qjd),(6,AV.int .i64 ui6)],h := [Blk.box [AV.bool zi,AV.ro 1 q5 q8 q7]],kd := [] }
noncomputable def XInt_SetBytes_a_0_0 (qd4 qrt : Nat) (qqi : Ge) (yy : Bool) (y3 y2 : Nat) (y1 : Ge) : St := { env := [(0,AV.ptr 0 0),(5,AV.ro 1 qd4 qrt qqi)],h := [Blk.box [AV.bool yy,AV.ro 1 y3 y2 y1]],kd := [] }
noncomputable def gInt_SetBytes_a_l0_step (wr qh : Mo) (ye qc : Mo) (qb qa : Mo) (fuel : Nat) (kn : Nat → Nat → Ge → Int → Option AV) (kx0 : Nat → Nat → Ge → Bool → Nat → Nat → Ge → Option AV) (wj wl : Nat) (q9 : Ge) (zi : Bool) (q5 q8 : Nat) (q7 : Ge) (yd qi8 : Nat) (qjd : Ge) (ui6 : Int) : Option AV :=
  bif decide (ui6 < (↑wj : Int)) then let r0 : Option AV := wr [AV.ro 1 yd qi8 qjd,AV.int .u64 8]; ck (okM [RS.one (LK.l 1)] r0) <| ck (decide (0 ≤ ui6)) <| ck (decide (ui6 < (↑wj : Int))) <| ck (fitK (LK.i .u8) (q9 ui6.toNat 0)) <| let r1 : Option AV := qh [AV.int .u64 (IntKind.u64.wrap (toI (q9 ui6.toNat 0)))]; ck (okM [RS.one (LK.l 1)] r1) <| let r2 : Option AV := ye [AV.ro 1 (toN (getV r0)) (toR (getV r0)) (toG (getV r0)),AV.ro 1 (toN (getV r1)) (toR (getV r1)) (toG (getV r1))]; ck (okM [RS.one (LK.l 1)] r2) <| kn (toN (getV r2)) (toR (getV r2)) (toG (getV r2)) (IntKind.i64.wrap (ui6 + 1))
  else kx0 yd qi8 qjd zi q5 q8 q7
noncomputable def gInt_SetBytes_a_l0 (wr qh : Mo) (ye qc : Mo) (qb qa : Mo) (fuel : Nat) (kx0 : Nat → Nat → Ge → Bool → Nat → Nat → Ge → Option AV) (wj wl : Nat) (q9 : Ge) (zi : Bool) (q5 q8 : Nat) (q7 : Ge) : Nat → Nat → Nat → Ge → Int → Option AV
  | 0,_,_,_,_ => none
  | n' + 1,yd,qi8,qjd,ui6 => gInt_SetBytes_a_l0_step wr qh ye qc qb qa fuel (gInt_SetBytes_a_l0 wr qh ye qc qb qa fuel kx0 wj wl q9 zi q5 q8 q7 n') kx0 wj wl q9 zi q5 q8 q7 yd qi8 qjd ui6
noncomputable def TInt_SetBytes_a_0 : TS' := ⟨[(0,TA.ptr 0 0),(1,TA.ro 1),(5,TA.ro 1),(6,TA.i .i64)],[TB.box [TA.b,TA.ro 1]],[]⟩
noncomputable def FInt_SetBytes_a_0 (wr qh : Mo) (ye qc : Mo) (qb qa : Mo) (fuel : Nat) (ps : List Pay) (K : Ex → St → Option AV) : Option AV := match ps with
  | .n wj :: .n wl :: .g q9 :: .n yd :: .n qi8 :: .g qjd :: .i ui6 :: .b zi :: .n q5 :: .n q8 :: .g q7 :: [] => gInt_SetBytes_a_l0 wr qh ye qc qb qa fuel (fun qd4 qrt qqi yy y3 y2 y1 => K (Ex.exit 0) (XInt_SetBytes_a_0_0 qd4 qrt qqi yy y3 y2 y1)) wj wl q9 zi q5 q8 q7 fuel yd qi8 qjd ui6
  | _ => none
noncomputable def LInt_SetBytes_a (wr qh : Mo) (ye qc : Mo) (qb qa : Mo) (fuel : Nat) : Lam AV := [(4194272,lam TInt_SetBytes_a_0 (FInt_SetBytes_a_0 wr qh ye qc qb qa fuel))]
noncomputable def GInt_SetBytes_a (wr qh : Mo) (ye qc : Mo) (qb qa : Mo) : Gam := [(117,smM [RS.one (LK.l (nat_lit 1))] wr),(114,smM [RS.one (LK.l (nat_lit 1))] qh),(116,smM [RS.one (LK.l (nat_lit 1))] ye),(84,smX RInt_give_i XInt_give_i qc),(84,smX RInt_give_ra XInt_give_ra qb),(84,smX RInt_give_rb XInt_give_rb qa)]
theorem gInt_SetBytes_a_l0_eq (wr qh : Mo) (ye qc : Mo) (qb qa : Mo) (fuel : Nat) (kn : St → Option AV) (K : Ex → St → Option AV) (wj wl : Nat) (q9 : Ge) (zi : Bool) (q5 q8 : Nat) (q7 : Ge) (qjo qpf : Nat) (qph : Ge) (qmx : Int) (yd qi8 : Nat) (qjd : Ge) (ui6 : Int) :
    bX Pr (GInt_SetBytes_a wr qh ye qc qb qa) (LInt_SetBytes_a wr qh ye qc qb qa fuel) 6 81 0 fuel (SInt_SetBytes_a_0 wj wl q9 yd qi8 qjd ui6 zi q5 q8 q7) (fun e s => match e with | .normal => kn (hX Pr 81 0 (SInt_SetBytes_a_0 wj wl q9 qjo qpf qph qmx zi q5 q8 q7) s) | e => K e s) =
    gInt_SetBytes_a_l0_step wr qh ye qc qb qa fuel (fun yd qi8 qjd ui6 => kn (SInt_SetBytes_a_0 wj wl q9 yd qi8 qjd ui6 zi q5 q8 q7)) (fun qaf qm0 qmz yg zx zv zw => K (Ex.exit 0) (XInt_SetBytes_a_0_0 qaf qm0 qmz yg zx zv zw)) wj wl q9 zi q5 q8 q7 yd qi8 qjd ui6 := by kernel_rfl
theorem gInt_SetBytes_a_l0_ok (wr qh : Mo) (ye qc : Mo) (qb qa : Mo) (fuel : Nat) (K : Ex → St → Option AV) (wj wl : Nat) (q9 : Ge) (zi : Bool) (q5 q8 : Nat) (q7 : Ge) (qjo qpf : Nat) (qph : Ge) (qmx : Int) : ∀ (n' yd qi8 : Nat) (qjd : Ge) (ui6 : Int),
    loopK (bX Pr (GInt_SetBytes_a wr qh ye qc qb qa) (LInt_SetBytes_a wr qh ye qc qb qa fuel) 6 81 0 fuel) (hX Pr 81 0 (SInt_SetBytes_a_0 wj wl q9 qjo qpf qph qmx zi q5 q8 q7)) n' (SInt_SetBytes_a_0 wj wl q9 yd qi8 qjd ui6 zi q5 q8 q7) K = gInt_SetBytes_a_l0 wr qh ye qc qb qa fuel (fun qaf qm0 qmz yg zx zv zw => K (Ex.exit 0) (XInt_SetBytes_a_0_0 qaf qm0 qmz yg zx zv zw)) wj wl q9 zi q5 q8 q7 n' yd qi8 qjd ui6
  | 0,_,_,_,_ => rfl
  | n' + 1,yd,qi8,qjd,ui6 => (gInt_SetBytes_a_l0_eq wr qh ye qc qb qa fuel (fun s => loopK (bX Pr (GInt_SetBytes_a wr qh ye qc qb qa) (LInt_SetBytes_a wr qh ye qc qb qa fuel) 6 81 0 fuel) (hX Pr 81 0 (SInt_SetBytes_a_0 wj wl q9 qjo qpf qph qmx zi q5 q8 q7)) n' s K) K wj wl q9 zi q5 q8 q7 qjo qpf qph qmx yd qi8 qjd ui6).trans
    (congrArg (fun kn => gInt_SetBytes_a_l0_step wr qh ye qc qb qa fuel kn _ wj wl q9 zi q5 q8 q7 yd qi8 qjd ui6) (funext fun yd => funext fun qi8 => funext fun qjd => funext fun ui6 => gInt_SetBytes_a_l0_ok wr qh ye qc qb qa fuel K wj wl q9 zi q5 q8 q7 qjo qpf qph qmx n' yd qi8 qjd ui6))
theorem gInt_SetBytes_a_L0 (wr qh : Mo) (ye qc : Mo) (qb qa : Mo) (fuel : Nat) : LX Pr (GInt_SetBytes_a wr qh ye qc qb qa) (LInt_SetBytes_a wr qh ye qc qb qa fuel) 6 81 0 fuel := by
  refine .of TInt_SetBytes_a_0 (FInt_SetBytes_a_0 wr qh ye qc qb qa fuel) (fun L h => ?_) (fun ps st K r he hr => ?_)
  · have e : (LInt_SetBytes_a wr qh ye qc qb qa fuel).get (writes (lp Pr 81 0).1) = some (lam TInt_SetBytes_a_0 (FInt_SetBytes_a_0 wr qh ye qc qb qa fuel)) := by kernel_rfl
    exact (Option.some.inj (e.symm.trans h)).symm
  · unfold FInt_SetBytes_a_0 at hr
    split at hr
    · obtain rfl := (Option.some.inj he).symm
      exact (gInt_SetBytes_a_l0_ok wr qh ye qc qb qa fuel K _ _ _ _ _ _ _ _ _ _ _ fuel _ _ _ _).trans hr
    · cases hr
noncomputable def gInt_SetBytes_a (wr qh : Mo) (ye qc : Mo) (qb qa : Mo) (fuel yl p1 : Nat) (pv : Ge) (q4 : Bool) (qm qu : Nat) (qq : Ge) : Option AV :=
  gInt_SetBytes_a_l0 wr qh ye qc qb qa fuel
    (fun (qaf qm0 : Nat) (qmz : Ge) (yg : Bool) (zx zv : Nat) (zw : Ge) => let r3 : Option AV := qc [AV.ptr (xidx 0 (xtoks [AV.ptr 0 0,AV.bool false,AV.ro 1 qaf qm0 qmz] [])) 0,AV.bool false,AV.ro 1 qaf qm0 qmz,AV.bool yg,AV.ro 1 zx zv zw]; ck (okX [RS.one LK.b,RS.one (LK.l 1)] r3) <| some (AV.tup [AV.bool (toB ((toT (getV r3)).headD .dead)),AV.ro 1 (toN ((toT (getV r3)).tail.headD .dead)) (toR ((toT (getV r3)).tail.headD .dead)) (toG ((toT (getV r3)).tail.headD .dead))]))
    yl
    p1
    pv
    q4
    qm
    qu
    qq fuel (0) (0) (fun (x j : Nat) => [AV.int .u32 0].getD j AV.dead) (0)
theorem gInt_SetBytes_a_run (wr qh : Mo) (ye qc : Mo) (qb qa : Mo) (fuel yl p1 : Nat) (pv : Ge) (q4 : Bool) (qm qu : Nat) (qq : Ge) : runX Pr (GInt_SetBytes_a wr qh ye qc qb qa) [((6,81),LInt_SetBytes_a wr qh ye qc qb qa fuel)] fuel 7 81 XInt_SetBytes_a [AV.ptr 0 0,AV.ro 1 yl p1 pv] [Blk.box [AV.bool q4,AV.ro 1 qm qu qq]] = gInt_SetBytes_a wr qh ye qc qb qa fuel yl p1 pv q4 qm qu qq := by kernel_rfl
noncomputable def mInt_SetBytes_a (wr qh : Mo) (ye qc : Mo) (qb qa : Mo) (fuel : Nat) (xs : List AV) : Option AV := match xs with
  | [AV.ptr 0 0,AV.ro 1 yl p1 pv,AV.bool q4,AV.ro 1 qm qu qq] => gInt_SetBytes_a wr qh ye qc qb qa fuel yl p1 pv q4 qm qu qq
  | _ => none
theorem gInt_SetBytes_a_sm (wr qh : Mo) (ye qc : Mo) (qb qa : Mo) (fuel : Nat) (hΓ : GamOk Pr (GInt_SetBytes_a wr qh ye qc qb qa)) (hP : NamesOk Pr) : XOk Pr 81 (smX RInt_SetBytes_a XInt_SetBytes_a (mInt_SetBytes_a wr qh ye qc qb qa fuel)) XInt_SetBytes_a := by
  refine smX_ok (fuel := fuel) hΓ hP (LamOk.of 6 81 (LInt_SetBytes_a wr qh ye qc qb qa fuel) 1 (by kernel_rfl) (fun i hi => ?_)) 7 81 RInt_SetBytes_a XInt_SetBytes_a _ (fun xs0 ys0 v ha hb h => ?_)
  · match i,hi with
    | 0,_ => exact gInt_SetBytes_a_L0 wr qh ye qc qb qa fuel
    | i + 1,hi => exact absurd hi (by omega)
  · skip
    have ha0 : xs0.length = 2 := ha
    clear ha
    obtain ⟨a0,xs1,rfl,ha1⟩ := len_cons ha0
    clear ha0
    obtain ⟨a1,xs2,rfl,ha2⟩ := len_cons ha1
    clear ha1
    obtain rfl := List.eq_nil_of_length_eq_zero ha2
    have hy0 : ys0.map List.length = [2] := hb
    clear hb
    obtain ⟨q4,ys1,rfl,hb0_0,hy1⟩ := map_cons' hy0
    clear hy0
    obtain ⟨c0_0,b0_1,rfl,hb0_1⟩ := len_cons hb0_0
    clear hb0_0
    obtain ⟨c0_1,z0,rfl,hb0_2⟩ := len_cons hb0_1
    clear hb0_1
    obtain rfl := List.eq_nil_of_length_eq_zero hb0_2
    obtain rfl := map_nil' hy1
    have h : mInt_SetBytes_a wr qh ye qc qb qa fuel [a0,a1,c0_0,c0_1] = some v := h
    generalize hx0 : [a0,a1,c0_0,c0_1] = zs at h
    unfold mInt_SetBytes_a at h
    split at h
    · skip
      obtain ⟨rfl,hx1⟩ := List.cons.inj hx0
      obtain ⟨rfl,hx2⟩ := List.cons.inj hx1
      obtain ⟨rfl,hx3⟩ := List.cons.inj hx2
      obtain ⟨rfl,hx4⟩ := List.cons.inj hx3
      simp only [List.map_cons,List.map_nil]
      exact (gInt_SetBytes_a_run wr qh ye qc qb qa fuel _ _ _ _ _ _ _).trans h
    · cases h
end Go.Proofs.Tryz
end
section
namespace Go.Proofs.Tryz
open Go Go.Am
set_option linter.unusedVariables false
set_option maxRecDepth 1000000
noncomputable def Sratio_whole_a_0 (p6 qae : Nat) (pw : Ge) (qc1 qa7 qdq : Nat) (u11 u12 : Int) (h0z : List AV) (h0e : List (List AV)) : St := { env := [(0,AV.ro 1 p6 qae pw),(3,AV.own 0 qc1 1 qa7 qdq),(11,AV.int .i64 u11),(12,AV.int .i64 u12)],h := [Blk.fx 1 h0z h0e],kd := [] }
noncomputable def Xratio_whole_a_0_0 (qkj qka qkd : Nat) (yk : List AV) (yj : List (List AV)) : St := { env := [(3,AV.own 0 qkj 1 qka qkd)],h := [Blk.fx 1 yk yj],kd := [] }
noncomputable def gratio_whole_a_l0_step (qi : Mo) (fuel : Nat) (kn : Int → List (List AV) → Option AV) (kx0 : Nat → Nat → Nat → List AV → List (List AV) → Option AV) (p6 qae : Nat) (pw : Ge) (qc1 qa7 qdq : Nat) (u11 : Int) (h0z : List AV) (u12 : Int) (h0e : List (List AV)) : Option AV :=
  bif decide (u12 < u11) then ck (decide (0 ≤ IntKind.i64.wrap ((IntKind.i64.wrap (IntKind.i64.wrap ((↑qa7 : Int) - 1) - u12)).tdiv 8))) <| ck (decide (IntKind.i64.wrap ((IntKind.i64.wrap (IntKind.i64.wrap ((↑qa7 : Int) - 1) - u12)).tdiv 8) < (↑p6 : Int))) <| ck (fitK (LK.i .u64) (pw (IntKind.i64.wrap ((IntKind.i64.wrap (IntKind.i64.wrap ((↑qa7 : Int) - 1) - u12)).tdiv 8)).toNat 0)) <| ck (decide (0 ≤ IntKind.i64.wrap (8 * (IntKind.i64.wrap (IntKind.i64.wrap ((↑qa7 : Int) - 1) - u12)).tmod 8))) <| ck (decide (0 ≤ u12)) <| ck (decide (u12 < (↑qa7 : Int))) <| kn (IntKind.i64.wrap (u12 + 1)) (h0e.set (qc1 + u12.toNat) (AV.int .u8 (IntKind.u8.wrap ((toI (pw (IntKind.i64.wrap ((IntKind.i64.wrap (IntKind.i64.wrap ((↑qa7 : Int) - 1) - u12)).tdiv 8)).toNat 0)).fdiv (2 ^ min (IntKind.i64.wrap (8 * (IntKind.i64.wrap (IntKind.i64.wrap ((↑qa7 : Int) - 1) - u12)).tmod 8)).toNat 64))) :: List.drop (0 + [AV.int .u8 (IntKind.u8.wrap ((toI (pw (IntKind.i64.wrap ((IntKind.i64.wrap (IntKind.i64.wrap ((↑qa7 : Int) - 1) - u12)).tdiv 8)).toNat 0)).fdiv (2 ^ min (IntKind.i64.wrap (8 * (IntKind.i64.wrap (IntKind.i64.wrap ((↑qa7 : Int) - 1) - u12)).tmod 8)).toNat 64)))].length) (h0e.getD (qc1 + u12.toNat) h0z)))
  else kx0 qc1 qa7 qdq h0z h0e
noncomputable def gratio_whole_a_l0 (qi : Mo) (fuel : Nat) (kx0 : Nat → Nat → Nat → List AV → List (List AV) → Option AV) (p6 qae : Nat) (pw : Ge) (qc1 qa7 qdq : Nat) (u11 : Int) (h0z : List AV) : Nat → Int → List (List AV) → Option AV
  | 0,_,_ => none
  | n' + 1,u12,h0e => gratio_whole_a_l0_step qi fuel (gratio_whole_a_l0 qi fuel kx0 p6 qae pw qc1 qa7 qdq u11 h0z n') kx0 p6 qae pw qc1 qa7 qdq u11 h0z u12 h0e
noncomputable def Tratio_whole_a_0 : TS' := ⟨[(0,TA.ro 1),(3,TA.own 0 1),(11,TA.i .i64),(12,TA.i .i64)],[TB.fx 1],[]⟩
noncomputable def Fratio_whole_a_0 (qi : Mo) (fuel : Nat) (ps : List Pay) (K : Ex → St → Option AV) : Option AV := match ps with
  | .n p6 :: .n qae :: .g pw :: .n qc1 :: .n qa7 :: .n qdq :: .i u11 :: .i u12 :: .z h0z :: .e h0e :: [] => gratio_whole_a_l0 qi fuel (fun qkj qka qkd yk yj => K (Ex.exit 0) (Xratio_whole_a_0_0 qkj qka qkd yk yj)) p6 qae pw qc1 qa7 qdq u11 h0z fuel u12 h0e
  | _ => none
noncomputable def Lratio_whole_a (qi : Mo) (fuel : Nat) : Lam AV := [(17179865136,lam Tratio_whole_a_0 (Fratio_whole_a_0 qi fuel))]
noncomputable def Gratio_whole_a (qi : Mo) : Gam := [(81,smX RInt_SetBytes_a XInt_SetBytes_a qi)]
theorem gratio_whole_a_l0_eq (qi : Mo) (fuel : Nat) (kn : St → Option AV) (K : Ex → St → Option AV) (p6 qae : Nat) (pw : Ge) (qc1 qa7 qdq : Nat) (u11 : Int) (h0z : List AV) (qju : Int) (pj : List (List AV)) (u12 : Int) (h0e : List (List AV)) :
    bX Pr (Gratio_whole_a qi) (Lratio_whole_a qi fuel) 6 49 0 fuel (Sratio_whole_a_0 p6 qae pw qc1 qa7 qdq u11 u12 h0z h0e) (fun e s => match e with | .normal => kn (hX Pr 49 0 (Sratio_whole_a_0 p6 qae pw qc1 qa7 qdq u11 qju h0z pj) s) | e => K e s) =
    gratio_whole_a_l0_step qi fuel (fun u12 h0e => kn (Sratio_whole_a_0 p6 qae pw qc1 qa7 qdq u11 u12 h0z h0e)) (fun qhi qhl qhn v0 vy => K (Ex.exit 0) (Xratio_whole_a_0_0 qhi qhl qhn v0 vy)) p6 qae pw qc1 qa7 qdq u11 h0z u12 h0e := by kernel_rfl
theorem gratio_whole_a_l0_ok (qi : Mo) (fuel : Nat) (K : Ex → St → Option AV) (p6 qae : Nat) (pw : Ge) (qc1 qa7 qdq : Nat) (u11 : Int) (h0z : List AV) (qju : Int) (pj : List (List AV)) : ∀ (n' : Nat) (u12 : Int) (h0e : List (List AV)),
    loopK (bX Pr (Gratio_whole_a qi) (Lratio_whole_a qi fuel) 6 49 0 fuel) (hX Pr 49 0 (Sratio_whole_a_0 p6 qae pw qc1 qa7 qdq u11 qju h0z pj)) n' (Sratio_whole_a_0 p6 qae pw qc1 qa7 qdq u11 u12 h0z h0e) K = gratio_whole_a_l0 qi fuel (fun qhi qhl qhn v0 vy => K (Ex.exit 0) (Xratio_whole_a_0_0 qhi qhl qhn v0 vy)) p6 qae pw qc1 qa7 qdq u11 h0z n' u12 h0e
  | 0,_,_ => rfl
  | n' + 1,u12,h0e => (gratio_whole_a_l0_eq qi fuel (fun s => loopK (bX Pr (Gratio_whole_a qi) (Lratio_whole_a qi fuel) 6 49 0 fuel) (hX Pr 49 0 (Sratio_whole_a_0 p6 qae pw qc1 qa7 qdq u11 qju h0z pj)) n' s K) K p6 qae pw qc1 qa7 qdq u11 h0z qju pj u12 h0e).trans
    (congrArg (fun kn => gratio_whole_a_l0_step qi fuel kn _ p6 qae pw qc1 qa7 qdq u11 h0z u12 h0e) (funext fun u12 => funext fun h0e => gratio_whole_a_l0_ok qi fuel K p6 qae pw qc1 qa7 qdq u11 h0z qju pj n' u12 h0e))
theorem gratio_whole_a_L0 (qi : Mo) (fuel : Nat) : LX Pr (Gratio_whole_a qi) (Lratio_whole_a qi fuel) 6 49 0 fuel := by
  refine .of Tratio_whole_a_0 (Fratio_whole_a_0 qi fuel) (fun L h => ?_) (fun ps st K r he hr => ?_)
  · have e : (Lratio_whole_a qi fuel).get (writes (lp Pr 49 0).1) = some (lam Tratio_whole_a_0 (Fratio_whole_a_0 qi fuel)) := by kernel_rfl
    exact (Option.some.inj (e.symm.trans h)).symm
  · unfold Fratio_whole_a_0 at hr
    split at hr
    · obtain rfl := (Option.some.inj he).symm
      exact (gratio_whole_a_l0_ok qi fuel K _ _ _ _ _ _ _ _ _ _ fuel _ _).trans hr
    · cases hr
noncomputable def gratio_whole_a (qi : Mo) (fuel qeo qkz : Nat) (qk2 : Ge) : Option AV :=
  ck (decide (0 ≤ IntKind.i64.wrap (8 * (↑qeo : Int)))) <| ck (decide (IntKind.i64.wrap (8 * (↑qeo : Int)) ≤ IntKind.i64.wrap (8 * (↑qeo : Int)))) <| ck ((1 * (IntKind.i64.wrap (8 * (↑qeo : Int))).toNat).ble 281474976710656) <| ck (((IntKind.i64.wrap (8 * (↑qeo : Int))).toNat + 1).ble 4611686018427387904) <| gratio_whole_a_l0 qi fuel
    (fun (qhi qhl qhn : Nat) (v0 : List AV) (vy : List (List AV)) => let r0 : Option AV := qi [AV.ptr (xidx [Blk.fx 1 v0 vy].length (xtoks [AV.ptr [Blk.fx 1 v0 vy].length 0,AV.own 0 qhi 1 qhl qhn] [])) 0,AV.ro 1 qhl qhn fun (i j : Nat) => (vy.getD (qhi + i) v0).getD j AV.dead,AV.bool false,AV.ro 1 0 0 fun (x j : Nat) => [AV.int .u32 0].getD j AV.dead]; ck (okX [RS.one LK.b,RS.one (LK.l 1)] r0) <| some (AV.tup [AV.bool (toB ((toT (getV r0)).headD .dead)),AV.ro 1 (toN ((toT (getV r0)).tail.headD .dead)) (toR ((toT (getV r0)).tail.headD .dead)) (toG ((toT (getV r0)).tail.headD .dead))]))
    qeo
    qkz
    qk2
    (0)
    ((IntKind.i64.wrap (8 * (↑qeo : Int))).toNat)
    ((IntKind.i64.wrap (8 * (↑qeo : Int))).toNat)
    ((↑(IntKind.i64.wrap (8 * (↑qeo : Int))).toNat : Int))
    ([AV.int .u8 0]) fuel (0) (List.replicate (IntKind.i64.wrap (8 * (↑qeo : Int))).toNat [AV.int .u8 0])
theorem gratio_whole_a_run (qi : Mo) (fuel qeo qkz : Nat) (qk2 : Ge) : runX Pr (Gratio_whole_a qi) [((6,49),Lratio_whole_a qi fuel)] fuel 7 49 Xratio_whole_a [AV.ro 1 qeo qkz qk2] [] = gratio_whole_a qi fuel qeo qkz qk2 := by kernel_rfl
noncomputable def mratio_whole_a (qi : Mo) (fuel : Nat) (xs : List AV) : Option AV := match xs with
  | [AV.ro 1 qeo qkz qk2] => gratio_whole_a qi fuel qeo qkz qk2
  | _ => none
theorem gratio_whole_a_sm (qi : Mo) (fuel : Nat) (hΓ : GamOk Pr (Gratio_whole_a qi)) (hP : NamesOk Pr) : XOk Pr 49 (smX Rratio_whole_a Xratio_whole_a (mratio_whole_a qi fuel)) Xratio_whole_a := by
  refine smX_ok (fuel := fuel) hΓ hP (LamOk.of 6 49 (Lratio_whole_a qi fuel) 1 (by kernel_rfl) (fun i hi => ?_)) 7 49 Rratio_whole_a Xratio_whole_a _ (fun xs0 ys0 v ha hb h => ?_)
  · match i,hi with
    | 0,_ => exact gratio_whole_a_L0 qi fuel
    | i + 1,hi => exact absurd hi (by omega)
  · skip
    have ha0 : xs0.length = 1 := ha
    clear ha
    obtain ⟨a0,xs1,rfl,ha1⟩ := len_cons ha0
    clear ha0
    obtain rfl := List.eq_nil_of_length_eq_zero ha1
    have hy0 : ys0.map List.length = [] := hb
    clear hb
    obtain rfl := map_nil' hy0
    have h : mratio_whole_a qi fuel [a0] = some v := h
    generalize hx0 : [a0] = zs at h
    unfold mratio_whole_a at h
    split at h
    · skip
      obtain ⟨rfl,hx1⟩ := List.cons.inj hx0
      simp only [List.map_cons,List.map_nil]
      exact (gratio_whole_a_run qi fuel _ _ _).trans h
    · cases h
noncomputable def Gtwin : Gam := []
noncomputable def gtwin (fuel zh v3 : Nat) (vs : Ge) : Option AV :=
  ck (decide (zh * 4 < 70368744177664)) <| ck (decide (zh < 4611686018427387904)) <| some (AV.ro 1 (rows 1 zh vs).length (rows 1 zh vs).length fun (i j : Nat) => ((rows 1 zh vs).getD i [AV.int .u32 0]).getD j AV.dead)
noncomputable def mtwin (fuel : Nat) (xs : List AV) : Option AV := match xs with
  | [AV.ro 1 zh v3 vs] => gtwin fuel zh v3 vs
  | _ => none
abbrev Rtwin : List RS := [RS.one (LK.l (nat_lit 1))]
theorem gtwin_sm (fuel : Nat) (hΓ : GamOk Pr Gtwin) (hP : NamesOk Pr) : SmOk Pr 87 (smM Rtwin (mtwin fuel)) := sm0 (fuel := fuel) (d := 7) hΓ hP fun xs v h => by
  unfold mtwin at h
  split at h
  · exact Eq.trans (by kernel_rfl) h
  · cases h
noncomputable def LInt_Abs_ir (qz qc : Mo) (qb qa : Mo) (fuel : Nat) : Lam AV := []
noncomputable def GInt_Abs_ir (qz qc : Mo) (qb qa : Mo) : Gam := [(87,smM [RS.one (LK.l (nat_lit 1))] qz),(84,smX RInt_give_i XInt_give_i qc),(84,smX RInt_give_ra XInt_give_ra qb),(84,smX RInt_give_rb XInt_give_rb qa)]
noncomputable def gInt_Abs_ir (qz qc : Mo) (qb qa : Mo) (fuel : Nat) (q4 : Bool) (qm qu : Nat) (qq : Ge) (zy : Bool) (wz w5 : Nat) (w6 : Ge) (qac : Bool) (p0 py : Nat) (pz : Ge) : Option AV :=
  let r0 : Option AV := qz [AV.ro 1 wz w5 w6]; ck (okM [RS.one (LK.l 1)] r0) <| let r1 : Option AV := qc [AV.ptr (xidx 0 (xtoks [AV.ptr 0 0,AV.bool false,AV.ro 1 (toN (getV r0)) (toR (getV r0)) (toG (getV r0))] [])) 0,AV.bool false,AV.ro 1 (toN (getV r0)) (toR (getV r0)) (toG (getV r0)),AV.bool q4,AV.ro 1 qm qu qq]; ck (okX [RS.one LK.b,RS.one (LK.l 1)] r1) <| some (AV.tup [AV.bool (toB ((toT (getV r1)).headD .dead)),AV.ro 1 (toN ((toT (getV r1)).tail.headD .dead)) (toR ((toT (getV r1)).tail.headD .dead)) (toG ((toT (getV r1)).tail.headD .dead)),AV.bool zy,AV.ro 1 wz w5 w6,AV.bool qac,AV.ro 1 p0 py pz])
theorem gInt_Abs_ir_run (qz qc : Mo) (qb qa : Mo) (fuel : Nat) (q4 : Bool) (qm qu : Nat) (qq : Ge) (zy : Bool) (wz w5 : Nat) (w6 : Ge) (qac : Bool) (p0 py : Nat) (pz : Ge) : runX Pr (GInt_Abs_ir qz qc qb qa) [((6,75),LInt_Abs_ir qz qc qb qa fuel)] fuel 7 75 XInt_Abs_ir [AV.ptr 0 0,AV.ptr 1 0] [Blk.box [AV.bool q4,AV.ro 1 qm qu qq],Blk.box [AV.bool zy,AV.ro 1 wz w5 w6,AV.bool qac,AV.ro 1 p0 py pz]] = gInt_Abs_ir qz qc qb qa fuel q4 qm qu qq zy wz w5 w6 qac p0 py pz := by kernel_rfl
noncomputable def mInt_Abs_ir (qz qc : Mo) (qb qa : Mo) (fuel : Nat) (xs : List AV) : Option AV := match xs with
  | [AV.ptr 0 0,AV.ptr 1 0,AV.bool q4,AV.ro 1 qm qu qq,AV.bool zy,AV.ro 1 wz w5 w6,AV.bool qac,AV.ro 1 p0 py pz] => gInt_Abs_ir qz qc qb qa fuel q4 qm qu qq zy wz w5 w6 qac p0 py pz
  | _ => none
theorem gInt_Abs_ir_sm (qz qc : Mo) (qb qa : Mo) (fuel : Nat) (hΓ : GamOk Pr (GInt_Abs_ir qz qc qb qa)) (hP : NamesOk Pr) : XOk Pr 75 (smX RInt_Abs_ir XInt_Abs_ir (mInt_Abs_ir qz qc qb qa fuel)) XInt_Abs_ir := by
  refine smX_ok (fuel := fuel) hΓ hP (LamOk.of 6 75 (LInt_Abs_ir qz qc qb qa fuel) 0 (by kernel_rfl) (fun i hi => ?_)) 7 75 RInt_Abs_ir XInt_Abs_ir _ (fun xs0 ys0 v ha hb h => ?_)
  · match i,hi with
    | i + 0,hi => exact absurd hi (by omega)
  · skip
    have ha0 : xs0.length = 2 := ha
    clear ha
    obtain ⟨a0,xs1,rfl,ha1⟩ := len_cons ha0
    clear ha0
    obtain ⟨a1,xs2,rfl,ha2⟩ := len_cons ha1
    clear ha1
    obtain rfl := List.eq_nil_of_length_eq_zero ha2
    have hy0 : ys0.map List.length = [2,4] := hb
    clear hb
    obtain ⟨q4,ys1,rfl,hb0_0,hy1⟩ := map_cons' hy0
    clear hy0
    obtain ⟨c0_0,b0_1,rfl,hb0_1⟩ := len_cons hb0_0
    clear hb0_0
    obtain ⟨c0_1,z0,rfl,hb0_2⟩ := len_cons hb0_1
    clear hb0_1
    obtain rfl := List.eq_nil_of_length_eq_zero hb0_2
    obtain ⟨zy,ys2,rfl,hb1_0,hy2⟩ := map_cons' hy1
    clear hy1
    obtain ⟨c1_0,b1_1,rfl,hb1_1⟩ := len_cons hb1_0
    clear hb1_0
    obtain ⟨c1_1,qac,rfl,hb1_2⟩ := len_cons hb1_1
    clear hb1_1
    obtain ⟨c1_2,b1_3,rfl,hb1_3⟩ := len_cons hb1_2
    clear hb1_2
    obtain ⟨c1_3,b1_4,rfl,hb1_4⟩ := len_cons hb1_3
    clear hb1_3
    obtain rfl := List.eq_nil_of_length_eq_zero hb1_4
    obtain rfl := map_nil' hy2
    have h : mInt_Abs_ir qz qc qb qa fuel [a0,a1,c0_0,c0_1,c1_0,c1_1,c1_2,c1_3] = some v := h
    generalize hx0 : [a0,a1,c0_0,c0_1,c1_0,c1_1,c1_2,c1_3] = zs at h
    unfold mInt_Abs_ir at h
    split at h
    · skip
      obtain ⟨rfl,hx1⟩ := List.cons.inj hx0
      obtain ⟨rfl,hx2⟩ := List.cons.inj hx1
      obtain ⟨rfl,hx3⟩ := List.cons.inj hx2
      obtain ⟨rfl,hx4⟩ := List.cons.inj hx3
      obtain ⟨rfl,hx5⟩ := List.cons.inj hx4
      obtain ⟨rfl,hx6⟩ := List.cons.inj hx5
      obtain ⟨rfl,hx7⟩ := List.cons.inj hx6
      obtain ⟨rfl,hx8⟩ := List.cons.inj hx7
      simp only [List.map_cons,List.map_nil]
      exact (gInt_Abs_ir_run qz qc qb qa fuel _ _ _ _ _ _ _ _ _ _ _ _).trans h
    · cases h
noncomputable def LInt_Abs_ii (qz qc : Mo) (qb qa : Mo) (fuel : Nat) : Lam AV := []
noncomputable def GInt_Abs_ii (qz qc : Mo) (qb qa : Mo) : Gam := [(87,smM [RS.one (LK.l (nat_lit 1))] qz),(84,smX RInt_give_i XInt_give_i qc),(84,smX RInt_give_ra XInt_give_ra qb),(84,smX RInt_give_rb XInt_give_rb qa)]
noncomputable def gInt_Abs_ii (qz qc : Mo) (qb qa : Mo) (fuel : Nat) (q4 : Bool) (qm qu : Nat) (qq : Ge) (zy : Bool) (wz w5 : Nat) (w6 : Ge) : Option AV :=
  let r0 : Option AV := qz [AV.ro 1 wz w5 w6]; ck (okM [RS.one (LK.l 1)] r0) <| let r1 : Option AV := qc [AV.ptr (xidx 0 (xtoks [AV.ptr 0 0,AV.bool false,AV.ro 1 (toN (getV r0)) (toR (getV r0)) (toG (getV r0))] [])) 0,AV.bool false,AV.ro 1 (toN (getV r0)) (toR (getV r0)) (toG (getV r0)),AV.bool q4,AV.ro 1 qm qu qq]; ck (okX [RS.one LK.b,RS.one (LK.l 1)] r1) <| some (AV.tup [AV.bool (toB ((toT (getV r1)).headD .dead)),AV.ro 1 (toN ((toT (getV r1)).tail.headD .dead)) (toR ((toT (getV r1)).tail.headD .dead)) (toG ((toT (getV r1)).tail.headD .dead)),AV.bool zy,AV.ro 1 wz w5 w6])
theorem gInt_Abs_ii_run (qz qc : Mo) (qb qa : Mo) (fuel : Nat) (q4 : Bool) (qm qu : Nat) (qq : Ge) (zy : Bool) (wz w5 : Nat) (w6 : Ge) : runX Pr (GInt_Abs_ii qz qc qb qa) [((6,75),LInt_Abs_ii qz qc qb qa fuel)] fuel 7 75 XInt_Abs_ii [AV.ptr 0 0,AV.ptr 1 0] [Blk.box [AV.bool q4,AV.ro 1 qm qu qq],Blk.box [AV.bool zy,AV.ro 1 wz w5 w6]] = gInt_Abs_ii qz qc qb qa fuel q4 qm qu qq zy wz w5 w6 := by kernel_rfl
noncomputable def mInt_Abs_ii (qz qc : Mo) (qb qa : Mo) (fuel : Nat) (xs : List AV) : Option AV := match xs with
  | [AV.ptr 0 0,AV.ptr 1 0,AV.bool q4,AV.ro 1 qm qu qq,AV.bool zy,AV.ro 1 wz w5 w6] => gInt_Abs_ii qz qc qb qa fuel q4 qm qu qq zy wz w5 w6
  | _ => none
theorem gInt_Abs_ii_sm (qz qc : Mo) (qb qa : Mo) (fuel : Nat) (hΓ : GamOk Pr (GInt_Abs_ii qz qc qb qa)) (hP : NamesOk Pr) : XOk Pr 75 (smX RInt_Abs_ii XInt_Abs_ii (mInt_Abs_ii qz qc qb qa fuel)) XInt_Abs_ii := by
  refine smX_ok (fuel := fuel) hΓ hP (LamOk.of 6 75 (LInt_Abs_ii qz qc qb qa fuel) 0 (by kernel_rfl) (fun i hi => ?_)) 7 75 RInt_Abs_ii XInt_Abs_ii _ (fun xs0 ys0 v ha hb h => ?_)
  · match i,hi with
    | i + 0,hi => exact absurd hi (by omega)
  · skip
    have ha0 : xs0.length = 2 := ha
    clear ha
    obtain ⟨a0,xs1,rfl,ha1⟩ := len_cons ha0
    clear ha0
    obtain ⟨a1,xs2,rfl,ha2⟩ := len_cons ha1
    clear ha1
    obtain rfl := List.eq_nil_of_length_eq_zero ha2
    have hy0 : ys0.map List.length = [2,2] := hb
    clear hb
    obtain ⟨q4,ys1,rfl,hb0_0,hy1⟩ := map_cons' hy0
    clear hy0
    obtain ⟨c0_0,b0_1,rfl,hb0_1⟩ := len_cons hb0_0
    clear hb0_0
    obtain ⟨c0_1,z0,rfl,hb0_2⟩ := len_cons hb0_1
    clear hb0_1
    obtain rfl := List.eq_nil_of_length_eq_zero hb0_2
    obtain ⟨zy,ys2,rfl,hb1_0,hy2⟩ := map_cons' hy1
    clear hy1
    obtain ⟨c1_0,b1_1,rfl,hb1_1⟩ := len_cons hb1_0
    clear hb1_0
    obtain ⟨c1_1,qac,rfl,hb1_2⟩ := len_cons hb1_1
    clear hb1_1
    obtain rfl := List.eq_nil_of_length_eq_zero hb1_2
    obtain rfl := map_nil' hy2
    have h : mInt_Abs_ii qz qc qb qa fuel [a0,a1,c0_0,c0_1,c1_0,c1_1] = some v := h
    generalize hx0 : [a0,a1,c0_0,c0_1,c1_0,c1_1] = zs at h
    unfold mInt_Abs_ii at h
    split at h
    · skip
      obtain ⟨rfl,hx1⟩ := List.cons.inj hx0
      obtain ⟨rfl,hx2⟩ := List.cons.inj hx1
      obtain ⟨rfl,hx3⟩ := List.cons.inj hx2
      obtain ⟨rfl,hx4⟩ := List.cons.inj hx3
      obtain ⟨rfl,hx5⟩ := List.cons.inj hx4
      obtain ⟨rfl,hx6⟩ := List.cons.inj hx5
      simp only [List.map_cons,List.map_nil]
      exact (gInt_Abs_ii_run qz qc qb qa fuel _ _ _ _ _ _ _ _).trans h
    · cases h
noncomputable def LInt_SetInt64_rb (qh qc : Mo) (qb qa : Mo) (fuel : Nat) : Lam AV := []
noncomputable def GInt_SetInt64_rb (qh qc : Mo) (qb qa : Mo) : Gam := [(114,smM [RS.one (LK.l (nat_lit 1))] qh),(84,smX RInt_give_i XInt_give_i qc),(84,smX RInt_give_ra XInt_give_ra qb),(84,smX RInt_give_rb XInt_give_rb qa)]
noncomputable def gInt_SetInt64_rb (qh qc : Mo) (qb qa : Mo) (fuel : Nat) (ux1 : Int) (q4 : Bool) (qm qu : Nat) (qq : Ge) (z0 : Bool) (zd zl : Nat) (zj : Ge) : Option AV :=
  bif decide (ux1 < 0) then let r0 : Option AV := qh [AV.int .u64 (IntKind.u64.wrap (0 - IntKind.u64.wrap ux1))]; ck (okM [RS.one (LK.l 1)] r0) <| let r1 : Option AV := qa [AV.ptr (xidx 0 (xtoks [AV.ptr 0 2,AV.bool (decide (ux1 < 0)),AV.ro 1 (toN (getV r0)) (toR (getV r0)) (toG (getV r0))] [])) 2,AV.bool (decide (ux1 < 0)),AV.ro 1 (toN (getV r0)) (toR (getV r0)) (toG (getV r0)),AV.bool q4,AV.ro 1 qm qu qq,AV.bool z0,AV.ro 1 zd zl zj]; ck (okX [RS.one LK.b,RS.one (LK.l 1),RS.one LK.b,RS.one (LK.l 1)] r1) <| some (AV.tup [AV.bool (toB ((toT (getV r1)).headD .dead)),AV.ro 1 (toN ((toT (getV r1)).tail.headD .dead)) (toR ((toT (getV r1)).tail.headD .dead)) (toG ((toT (getV r1)).tail.headD .dead)),AV.bool (toB ((toT (getV r1)).tail.tail.headD .dead)),AV.ro 1 (toN ((toT (getV r1)).tail.tail.tail.headD .dead)) (toR ((toT (getV r1)).tail.tail.tail.headD .dead)) (toG ((toT (getV r1)).tail.tail.tail.headD .dead))])
  else let r2 : Option AV := qh [AV.int .u64 (IntKind.u64.wrap ux1)]; ck (okM [RS.one (LK.l 1)] r2) <| let r3 : Option AV := qa [AV.ptr (xidx 0 (xtoks [AV.ptr 0 2,AV.bool (decide (ux1 < 0)),AV.ro 1 (toN (getV r2)) (toR (getV r2)) (toG (getV r2))] [])) 2,AV.bool (decide (ux1 < 0)),AV.ro 1 (toN (getV r2)) (toR (getV r2)) (toG (getV r2)),AV.bool q4,AV.ro 1 qm qu qq,AV.bool z0,AV.ro 1 zd zl zj]; ck (okX [RS.one LK.b,RS.one (LK.l 1),RS.one LK.b,RS.one (LK.l 1)] r3) <| some (AV.tup [AV.bool (toB ((toT (getV r3)).headD .dead)),AV.ro 1 (toN ((toT (getV r3)).tail.headD .dead)) (toR ((toT (getV r3)).tail.headD .dead)) (toG ((toT (getV r3)).tail.headD .dead)),AV.bool (toB ((toT (getV r3)).tail.tail.headD .dead)),AV.ro 1 (toN ((toT (getV r3)).tail.tail.tail.headD .dead)) (toR ((toT (getV r3)).tail.tail.tail.headD .dead)) (toG ((toT (getV r3)).tail.tail.tail.headD .dead))])
theorem gInt_SetInt64_rb_run (qh qc : Mo) (qb qa : Mo) (fuel : Nat) (ux1 : Int) (q4 : Bool) (qm qu : Nat) (qq : Ge) (z0 : Bool) (zd zl : Nat) (zj : Ge) : runX Pr (GInt_SetInt64_rb qh qc qb qa) [((6,76),LInt_SetInt64_rb qh qc qb qa fuel)] fuel 7 76 XInt_SetInt64_rb [AV.ptr 0 2,AV.int .i64 ux1] [Blk.box [AV.bool q4,AV.ro 1 qm qu qq,AV.bool z0,AV.ro 1 zd zl zj]] = gInt_SetInt64_rb qh qc qb qa fuel ux1 q4 qm qu qq z0 zd zl zj := by kernel_rfl
noncomputable def mInt_SetInt64_rb (qh qc : Mo) (qb qa : Mo) (fuel : Nat) (xs : List AV) : Option AV := match xs with
  | [AV.ptr 0 2,AV.int .i64 ux1,AV.bool q4,AV.ro 1 qm qu qq,AV.bool z0,AV.ro 1 zd zl zj] => gInt_SetInt64_rb qh qc qb qa fuel ux1 q4 qm qu qq z0 zd zl zj
  | _ => none
theorem gInt_SetInt64_rb_sm (qh qc : Mo) (qb qa : Mo) (fuel : Nat) (hΓ : GamOk Pr (GInt_SetInt64_rb qh qc qb qa)) (hP : NamesOk Pr) : XOk Pr 76 (smX RInt_SetInt64_rb XInt_SetInt64_rb (mInt_SetInt64_rb qh qc qb qa fuel)) XInt_SetInt64_rb := by
  refine smX_ok (fuel := fuel) hΓ hP (LamOk.of 6 76 (LInt_SetInt64_rb qh qc qb qa fuel) 0 (by kernel_rfl) (fun i hi => ?_)) 7 76 RInt_SetInt64_rb XInt_SetInt64_rb _ (fun xs0 ys0 v ha hb h => ?_)
  · match i,hi with
    | i + 0,hi => exact absurd hi (by omega)
  · skip
    have ha0 : xs0.length = 2 := ha
    clear ha
    obtain ⟨a0,xs1,rfl,ha1⟩ := len_cons ha0
    clear ha0
    obtain ⟨a1,xs2,rfl,ha2⟩ := len_cons ha1
    clear ha1
    obtain rfl := List.eq_nil_of_length_eq_zero ha2
    have hy0 : ys0.map List.length = [4] := hb
    clear hb
    obtain ⟨q4,ys1,rfl,hb0_0,hy1⟩ := map_cons' hy0
    clear hy0
    obtain ⟨c0_0,b0_1,rfl,hb0_1⟩ := len_cons hb0_0
    clear hb0_0
    obtain ⟨c0_1,z0,rfl,hb0_2⟩ := len_cons hb0_1
    clear hb0_1
    obtain ⟨c0_2,b0_3,rfl,hb0_3⟩ := len_cons hb0_2
    clear hb0_2
    obtain ⟨c0_3,b0_4,rfl,hb0_4⟩ := len_cons hb0_3
    clear hb0_3
    obtain rfl := List.eq_nil_of_length_eq_zero hb0_4
    obtain rfl := map_nil' hy1
    have h : mInt_SetInt64_rb qh qc qb qa fuel [a0,a1,c0_0,c0_1,c0_2,c0_3] = some v := h
    generalize hx0 : [a0,a1,c0_0,c0_1,c0_2,c0_3] = zs at h
    unfold mInt_SetInt64_rb at h
    split at h
    · skip
      obtain ⟨rfl,hx1⟩ := List.cons.inj hx0
      obtain ⟨rfl,hx2⟩ := List.cons.inj hx1
      obtain ⟨rfl,hx3⟩ := List.cons.inj hx2
      obtain ⟨rfl,hx4⟩ := List.cons.inj hx3
      obtain ⟨rfl,hx5⟩ := List.cons.inj hx4
      obtain ⟨rfl,hx6⟩ := List.cons.inj hx5
      simp only [List.map_cons,List.map_nil]
      exact (gInt_SetInt64_rb_run qh qc qb qa fuel _ _ _ _ _ _ _ _ _).trans h
    · cases h
noncomputable def LInt_SetInt64_i (qh qc : Mo) (qb qa : Mo) (fuel : Nat) : Lam AV := []
noncomputable def GInt_SetInt64_i (qh qc : Mo) (qb qa : Mo) : Gam := [(114,smM [RS.one (LK.l (nat_lit 1))] qh),(84,smX RInt_give_i XInt_give_i qc),(84,smX RInt_give_ra XInt_give_ra qb),(84,smX RInt_give_rb XInt_give_rb qa)]
noncomputable def gInt_SetInt64_i (qh qc : Mo) (qb qa : Mo) (fuel : Nat) (ux1 : Int) (q4 : Bool) (qm qu : Nat) (qq : Ge) : Option AV :=
  bif decide (ux1 < 0) then let r0 : Option AV := qh [AV.int .u64 (IntKind.u64.wrap (0 - IntKind.u64.wrap ux1))]; ck (okM [RS.one (LK.l 1)] r0) <| let r1 : Option AV := qc [AV.ptr (xidx 0 (xtoks [AV.ptr 0 0,AV.bool (decide (ux1 < 0)),AV.ro 1 (toN (getV r0)) (toR (getV r0)) (toG (getV r0))] [])) 0,AV.bool (decide (ux1 < 0)),AV.ro 1 (toN (getV r0)) (toR (getV r0)) (toG (getV r0)),AV.bool q4,AV.ro 1 qm qu qq]; ck (okX [RS.one LK.b,RS.one (LK.l 1)] r1) <| some (AV.tup [AV.bool (toB ((toT (getV r1)).headD .dead)),AV.ro 1 (toN ((toT (getV r1)).tail.headD .dead)) (toR ((toT (getV r1)).tail.headD .dead)) (toG ((toT (getV r1)).tail.headD .dead))])
  else let r2 : Option AV := qh [AV.int .u64 (IntKind.u64.wrap ux1)]; ck (okM [RS.one (LK.l 1)] r2) <| let r3 : Option AV := qc [AV.ptr (xidx 0 (xtoks [AV.ptr 0 0,AV.bool (decide (ux1 < 0)),AV.ro 1 (toN (getV r2)) (toR (getV r2)) (toG (getV r2))] [])) 0,AV.bool (decide (ux1 < 0)),AV.ro 1 (toN (getV r2)) (toR (getV r2)) (toG (getV r2)),AV.bool q4,AV.ro 1 qm qu qq]; ck (okX [RS.one LK.b,RS.one (LK.l 1)] r3) <| some (AV.tup [AV.bool (toB ((toT (getV r3)).headD .dead)),AV.ro 1 (toN ((toT (getV r3)).tail.headD .dead)) (toR ((toT (getV r3)).tail.headD .dead)) (toG ((toT (getV r3)).tail.headD .dead))])
theorem gInt_SetInt64_i_run (qh qc : Mo) (qb qa : Mo) (fuel : Nat) (ux1 : Int) (q4 : Bool) (qm qu : Nat) (qq : Ge) : runX Pr (GInt_SetInt64_i qh qc qb qa) [((6,76),LInt_SetInt64_i qh qc qb qa fuel)] fuel 7 76 XInt_SetInt64_i [AV.ptr 0 0,AV.int .i64 ux1] [Blk.box [AV.bool q4,AV.ro 1 qm qu qq]] = gInt_SetInt64_i qh qc qb qa fuel ux1 q4 qm qu qq := by kernel_rfl
noncomputable def mInt_SetInt64_i (qh qc : Mo) (qb qa : Mo) (fuel : Nat) (xs : List AV) : Option AV := match xs with
  | [AV.ptr 0 0,AV.int .i64 ux1,AV.bool q4,AV.ro 1 qm qu qq] => gInt_SetInt64_i qh qc qb qa fuel ux1 q4 qm qu qq
  | _ => none
theorem gInt_SetInt64_i_sm (qh qc : Mo) (qb qa : Mo) (fuel : Nat) (hΓ : GamOk Pr (GInt_SetInt64_i qh qc qb qa)) (hP : NamesOk Pr) : XOk Pr 76 (smX RInt_SetInt64_i XInt_SetInt64_i (mInt_SetInt64_i qh qc qb qa fuel)) XInt_SetInt64_i := by
  refine smX_ok (fuel := fuel) hΓ hP (LamOk.of 6 76 (LInt_SetInt64_i qh qc qb qa fuel) 0 (by kernel_rfl) (fun i hi => ?_)) 7 76 RInt_SetInt64_i XInt_SetInt64_i _ (fun xs0 ys0 v ha hb h => ?_)
  · match i,hi with
    | i + 0,hi => exact absurd hi (by omega)
  · skip
    have ha0 : xs0.length = 2 := ha
    clear ha
    obtain ⟨a0,xs1,rfl,ha1⟩ := len_cons ha0
    clear ha0
    obtain ⟨a1,xs2,rfl,ha2⟩ := len_cons ha1
    clear ha1
    obtain rfl := List.eq_nil_of_length_eq_zero ha2
    have hy0 : ys0.map List.length = [2] := hb
    clear hb
    obtain ⟨q4,ys1,rfl,hb0_0,hy1⟩ := map_cons' hy0
    clear hy0
    obtain ⟨c0_0,b0_1,rfl,hb0_1⟩ := len_cons hb0_0
    clear hb0_0
    obtain ⟨c0_1,z0,rfl,hb0_2⟩ := len_cons hb0_1
    clear hb0_1
    obtain rfl := List.eq_nil_of_length_eq_zero hb0_2
    obtain rfl := map_nil' hy1
    have h : mInt_SetInt64_i qh qc qb qa fuel [a0,a1,c0_0,c0_1] = some v := h
    generalize hx0 : [a0,a1,c0_0,c0_1] = zs at h
    unfold mInt_SetInt64_i at h
    split at h
    · skip
      obtain ⟨rfl,hx1⟩ := List.cons.inj hx0
      obtain ⟨rfl,hx2⟩ := List.cons.inj hx1
      obtain ⟨rfl,hx3⟩ := List.cons.inj hx2
      obtain ⟨rfl,hx4⟩ := List.cons.inj hx3
      simp only [List.map_cons,List.map_nil]
      exact (gInt_SetInt64_i_run qh qc qb qa fuel _ _ _ _ _).trans h
    · cases h
noncomputable def LNewInt_a (wq w3 : Mo) (fuel : Nat) : Lam AV := []
noncomputable def GNewInt_a (wq w3 : Mo) : Gam := [(76,smX RInt_SetInt64_rb XInt_SetInt64_rb wq),(76,smX RInt_SetInt64_i XInt_SetInt64_i w3)]
noncomputable def gNewInt_a (wq w3 : Mo) (fuel : Nat) (ux0 : Int) : Option AV :=
  let r0 : Option AV := w3 [AV.ptr (xidx 0 (xtoks [AV.ptr 0 0,AV.int .i64 ux0] [])) 0,AV.int .i64 ux0,AV.bool false,AV.ro 1 0 0 fun (x j : Nat) => [AV.int .u32 0].getD j AV.dead]; ck (okX [RS.one LK.b,RS.one (LK.l 1)] r0) <| some (AV.tup [AV.bool (toB ((toT (getV r0)).headD .dead)),AV.ro 1 (toN ((toT (getV r0)).tail.headD .dead)) (toR ((toT (getV r0)).tail.headD .dead)) (toG ((toT (getV r0)).tail.headD .dead))])
theorem gNewInt_a_run (wq w3 : Mo) (fuel : Nat) (ux0 : Int) : runX Pr (GNewInt_a wq w3) [((6,53),LNewInt_a wq w3 fuel)] fuel 7 53 XNewInt_a [AV.int .i64 ux0] [] = gNewInt_a wq w3 fuel ux0 := by kernel_rfl
noncomputable def mNewInt_a (wq w3 : Mo) (fuel : Nat) (xs : List AV) : Option AV := match xs with
  | [AV.int .i64 ux0] => gNewInt_a wq w3 fuel ux0
  | _ => none
theorem gNewInt_a_sm (wq w3 : Mo) (fuel : Nat) (hΓ : GamOk Pr (GNewInt_a wq w3)) (hP : NamesOk Pr) : XOk Pr 53 (smX RNewInt_a XNewInt_a (mNewInt_a wq w3 fuel)) XNewInt_a := by
  refine smX_ok (fuel := fuel) hΓ hP (LamOk.of 6 53 (LNewInt_a wq w3 fuel) 0 (by kernel_rfl) (fun i hi => ?_)) 7 53 RNewInt_a XNewInt_a _ (fun xs0 ys0 v ha hb h => ?_)
  · match i,hi with
    | i + 0,hi => exact absurd hi (by omega)
  · skip
    have ha0 : xs0.length = 1 := ha
    clear ha
    obtain ⟨a0,xs1,rfl,ha1⟩ := len_cons ha0
    clear ha0
    obtain rfl := List.eq_nil_of_length_eq_zero ha1
    have hy0 : ys0.map List.length = [] := hb
    clear hb
    obtain rfl := map_nil' hy0
    have h : mNewInt_a wq w3 fuel [a0] = some v := h
    generalize hx0 : [a0] = zs at h
    unfold mNewInt_a at h
    split at h
    · skip
      obtain ⟨rfl,hx1⟩ := List.cons.inj hx0
      simp only [List.map_cons,List.map_nil]
      exact (gNewInt_a_run wq w3 fuel _).trans h
    · cases h
noncomputable def Scmp_0 (qn qv : Nat) (qk : Ge) (wj wl : Nat) (q9 : Ge) (ui5 : Int) : St := { env := [(0,AV.ro 1 qn qv qk),(1,AV.ro 1 wj wl q9),(5,AV.int .i64 ui5)],h := [],kd := [] }
noncomputable def Xcmp_0_0 (qfg : Int) : St := { env := [(4,AV.int .i64 qfg)],h := [],kd := [] }
noncomputable def Xcmp_0_1 : St := { env := [],h := [],kd := [] }
noncomputable def gcmp_l0_step (fuel : Nat) (kn kx0 : Int → Option AV) (kx1 : Option AV) (qn qv : Nat) (qk : Ge) (wj wl : Nat) (q9 : Ge) (ui5 : Int) : Option AV :=
  bif decide (ui5 ≥ 0) then ck (decide (0 ≤ ui5)) <| ck (decide (ui5 < (↑qn : Int))) <| ck (fitK (LK.i .u32) (qk ui5.toNat 0)) <| ck (decide (0 ≤ ui5)) <| ck (decide (ui5 < (↑wj : Int))) <| ck (fitK (LK.i .u32) (q9 ui5.toNat 0)) <| bif toI (qk ui5.toNat 0) != toI (q9 ui5.toNat 0) then ck (decide (0 ≤ ui5)) <| ck (decide (ui5 < (↑qn : Int))) <| ck (fitK (LK.i .u32) (qk ui5.toNat 0)) <| ck (decide (0 ≤ ui5)) <| ck (decide (ui5 < (↑wj : Int))) <| ck (fitK (LK.i .u32) (q9 ui5.toNat 0)) <| bif decide (toI (qk ui5.toNat 0) < toI (q9 ui5.toNat 0)) then kx0 ((-1))
      else kx0 (1)
    else kn (IntKind.i64.wrap (ui5 - 1))
  else kx1
noncomputable def gcmp_l0 (fuel : Nat) (kx0 : Int → Option AV) (kx1 : Option AV) (qn qv : Nat) (qk : Ge) (wj wl : Nat) (q9 : Ge) : Nat → Int → Option AV
  | 0,_ => none
  | n' + 1,ui5 => gcmp_l0_step fuel (gcmp_l0 fuel kx0 kx1 qn qv qk wj wl q9 n') kx0 kx1 qn qv qk wj wl q9 ui5
noncomputable def Tcmp_0 : TS' := ⟨[(0,TA.ro 1),(1,TA.ro 1),(5,TA.i .i64)],[],[]⟩
noncomputable def Fcmp_0 (fuel : Nat) (ps : List Pay) (K : Ex → St → Option AV) : Option AV := match ps with
  | .n qn :: .n qv :: .g qk :: .n wj :: .n wl :: .g q9 :: .i ui5 :: [] => gcmp_l0 fuel (fun qfg => K (Ex.ret) (Xcmp_0_0 qfg)) (K (Ex.exit 0) Xcmp_0_1) qn qv qk wj wl q9 fuel ui5
  | _ => none
noncomputable def Lcmp (fuel : Nat) : Lam AV := [(2199022731312,lam Tcmp_0 (Fcmp_0 fuel))]
noncomputable def Gcmp : Gam := []
theorem gcmp_l0_eq (fuel : Nat) (kn : St → Option AV) (K : Ex → St → Option AV) (qn qv : Nat) (qk : Ge) (wj wl : Nat) (q9 : Ge) (qjq ui5 : Int) :
    bX Pr Gcmp (Lcmp fuel) 6 119 0 fuel (Scmp_0 qn qv qk wj wl q9 ui5) (fun e s => match e with | .normal => kn (hX Pr 119 0 (Scmp_0 qn qv qk wj wl q9 qjq) s) | e => K e s) =
    gcmp_l0_step fuel (fun ui5 => kn (Scmp_0 qn qv qk wj wl q9 ui5)) (fun xu4 => K (Ex.ret) (Xcmp_0_0 xu4)) (K (Ex.exit 0) Xcmp_0_1) qn qv qk wj wl q9 ui5 := by kernel_rfl
theorem gcmp_l0_ok (fuel : Nat) (K : Ex → St → Option AV) (qn qv : Nat) (qk : Ge) (wj wl : Nat) (q9 : Ge) (qjq : Int) : ∀ (n' : Nat) (ui5 : Int),
    loopK (bX Pr Gcmp (Lcmp fuel) 6 119 0 fuel) (hX Pr 119 0 (Scmp_0 qn qv qk wj wl q9 qjq)) n' (Scmp_0 qn qv qk wj wl q9 ui5) K = gcmp_l0 fuel (fun xu4 => K (Ex.ret) (Xcmp_0_0 xu4)) (K (Ex.exit 0) Xcmp_0_1) qn qv qk wj wl q9 n' ui5
  | 0,_ => rfl
  | n' + 1,ui5 => (gcmp_l0_eq fuel (fun s => loopK (bX Pr Gcmp (Lcmp fuel) 6 119 0 fuel) (hX Pr 119 0 (Scmp_0 qn qv qk wj wl q9 qjq)) n' s K) K qn qv qk wj wl q9 qjq ui5).trans
    (congrArg (fun kn => gcmp_l0_step fuel kn _ _ qn qv qk wj wl q9 ui5) (funext fun ui5 => gcmp_l0_ok fuel K qn qv qk wj wl q9 qjq n' ui5))
theorem gcmp_L0 (fuel : Nat) : LX Pr Gcmp (Lcmp fuel) 6 119 0 fuel := by
  refine .of Tcmp_0 (Fcmp_0 fuel) (fun L h => ?_) (fun ps st K r he hr => ?_)
  · have e : (Lcmp fuel).get (writes (lp Pr 119 0).1) = some (lam Tcmp_0 (Fcmp_0 fuel)) := by kernel_rfl
    exact (Option.some.inj (e.symm.trans h)).symm
  · unfold Fcmp_0 at hr
    split at hr
    · obtain rfl := (Option.some.inj he).symm
      exact (gcmp_l0_ok fuel K _ _ _ _ _ _ _ fuel _).trans hr
    · cases hr
noncomputable def gcmp (fuel zh v3 : Nat) (vs : Ge) (yl p1 : Nat) (pv : Ge) : Option AV :=
  bif (↑zh : Int) != (↑yl : Int) then bif decide ((↑zh : Int) < (↑yl : Int)) then some (AV.int .i64 (-1))
    else some (AV.int .i64 1)
  else gcmp_l0 fuel
    (fun (xu4 : Int) => some (AV.int .i64 xu4))
    (some (AV.int .i64 0))
    zh
    v3
    vs
    yl
    p1
    pv fuel (IntKind.i64.wrap ((↑zh : Int) - 1))
noncomputable def mcmp (fuel : Nat) (xs : List AV) : Option AV := match xs with
  | [AV.ro 1 zh v3 vs,AV.ro 1 yl p1 pv] => gcmp fuel zh v3 vs yl p1 pv
  | _ => none
abbrev Rcmp : List RS := [RS.one (LK.i .i64)]
theorem gcmp_sm (fuel : Nat) (hΓ : GamOk Pr Gcmp) (hP : NamesOk Pr) : SmOk Pr 119 (smM Rcmp (mcmp fuel)) := smL (L := (Lcmp fuel)) (n := 1) hΓ hP (by kernel_rfl) (fun i hi => match i,hi with
  | 0,_ => gcmp_L0 fuel
  | i + 1,hi => absurd hi (by omega)) fun xs v h => by
  unfold mcmp at h
  split at h
  · exact Eq.trans (by kernel_rfl) h
  · cases h
noncomputable def Gplain : Gam := []
noncomputable def gplain (fuel zh v3 : Nat) (vs : Ge) : Option AV :=
  bif decide ((↑zh : Int) > 0) then ck (decide (0 < (↑zh : Int))) <| ck (fitK (LK.i .u32) (vs 0 0)) <| bif decide ((↑zh : Int) > 1) then ck (decide (1 < (↑zh : Int))) <| ck (fitK (LK.i .u32) (vs 1 0)) <| some (AV.int .u64 (IntKind.u64.wrap (↑(BitVec.ofInt 64 (IntKind.u64.wrap (toI (vs 0 0))) ||| BitVec.ofInt 64 (IntKind.u64.wrap (IntKind.u64.wrap (toI (vs 1 0)) * 2 ^ 32))).toNat : Int)))
    else some (AV.int .u64 (IntKind.u64.wrap (toI (vs 0 0))))
  else bif decide ((↑zh : Int) > 1) then ck (decide (1 < (↑zh : Int))) <| ck (fitK (LK.i .u32) (vs 1 0)) <| some (AV.int .u64 (IntKind.u64.wrap (↑(BitVec.ofInt 64 0 ||| BitVec.ofInt 64 (IntKind.u64.wrap (IntKind.u64.wrap (toI (vs 1 0)) * 2 ^ 32))).toNat : Int)))
  else some (AV.int .u64 0)
noncomputable def mplain (fuel : Nat) (xs : List AV) : Option AV := match xs with
  | [AV.ro 1 zh v3 vs] => gplain fuel zh v3 vs
  | _ => none
abbrev Rplain : List RS := [RS.one (LK.i .u64)]
theorem gplain_sm (fuel : Nat) (hΓ : GamOk Pr Gplain) (hP : NamesOk Pr) : SmOk Pr 141 (smM Rplain (mplain fuel)) := sm0 (fuel := fuel) (d := 7) hΓ hP fun xs v h => by
  unfold mplain at h
  split at h
  · exact Eq.trans (by kernel_rfl) h
  · cases h
noncomputable def Ssmall_0 (qn qv : Nat) (qk : Ge) (qex : Int) (qhx qie qir : Nat) (ur7 ui8 : Int) (h0z : List AV) (h0e : List (List AV)) : St := { env := [(0,AV.ro 1 qn qv qk),(1,AV.int .u32 qex),(6,AV.own 0 qhx 1 qie qir),(7,AV.int .u64 ur7),(8,AV.int .i64 ui8)],h := [Blk.fx 1 h0z h0e],kd := [] }
noncomputable def Xsmall_0_0 (qqb qq7 qp6 : Nat) (qs9 : Int) (yk : List AV) (yj : List (List AV)) : St := { env := [(6,AV.own 0 qqb 1 qq7 qp6),(7,AV.int .u64 qs9)],h := [Blk.fx 1 yk yj],kd := [] }
noncomputable def gsmall_l0_step (qf : Mo) (fuel : Nat) (kn : Int → Int → List (List AV) → Option AV) (kx0 : Nat → Nat → Nat → Int → List AV → List (List AV) → Option AV) (qn qv : Nat) (qk : Ge) (qex : Int) (qhx qie qir : Nat) (h0z : List AV) (ur7 ui8 : Int) (h0e : List (List AV)) : Option AV :=
  bif decide (ui8 ≥ 0) then ck (decide (0 ≤ ui8)) <| ck (decide (ui8 < (↑qn : Int))) <| ck (fitK (LK.i .u32) (qk ui8.toNat 0)) <| ck (!decide (IntKind.u64.wrap qex = 0)) <| ck (decide (0 ≤ ui8)) <| ck (decide (ui8 < (↑qie : Int))) <| ck (!decide (IntKind.u64.wrap qex = 0)) <| kn ((IntKind.u64.wrap (↑(BitVec.ofInt 64 (IntKind.u64.wrap (ur7 * 2 ^ 32)) ||| BitVec.ofInt 64 (IntKind.u64.wrap (toI (qk ui8.toNat 0)))).toNat : Int)).tmod (IntKind.u64.wrap qex)) (IntKind.i64.wrap (ui8 - 1)) (h0e.set (qhx + ui8.toNat) (AV.int .u32 (IntKind.u32.wrap (IntKind.u64.wrap ((IntKind.u64.wrap (↑(BitVec.ofInt 64 (IntKind.u64.wrap (ur7 * 2 ^ 32)) ||| BitVec.ofInt 64 (IntKind.u64.wrap (toI (qk ui8.toNat 0)))).toNat : Int)).tdiv (IntKind.u64.wrap qex)))) :: List.drop (0 + [AV.int .u32 (IntKind.u32.wrap (IntKind.u64.wrap ((IntKind.u64.wrap (↑(BitVec.ofInt 64 (IntKind.u64.wrap (ur7 * 2 ^ 32)) ||| BitVec.ofInt 64 (IntKind.u64.wrap (toI (qk ui8.toNat 0)))).toNat : Int)).tdiv (IntKind.u64.wrap qex))))].length) (h0e.getD (qhx + ui8.toNat) h0z)))
  else kx0 qhx qie qir ur7 h0z h0e
noncomputable def gsmall_l0 (qf : Mo) (fuel : Nat) (kx0 : Nat → Nat → Nat → Int → List AV → List (List AV) → Option AV) (qn qv : Nat) (qk : Ge) (qex : Int) (qhx qie qir : Nat) (h0z : List AV) : Nat → Int → Int → List (List AV) → Option AV
  | 0,_,_,_ => none
  | n' + 1,ur7,ui8,h0e => gsmall_l0_step qf fuel (gsmall_l0 qf fuel kx0 qn qv qk qex qhx qie qir h0z n') kx0 qn qv qk qex qhx qie qir h0z ur7 ui8 h0e
noncomputable def Tsmall_0 : TS' := ⟨[(0,TA.ro 1),(1,TA.i .u32),(6,TA.own 0 1),(7,TA.i .u64),(8,TA.i .i64)],[TB.fx 1],[]⟩
noncomputable def Fsmall_0 (qf : Mo) (fuel : Nat) (ps : List Pay) (K : Ex → St → Option AV) : Option AV := match ps with
  | .n qn :: .n qv :: .g qk :: .i qex :: .n qhx :: .n qie :: .n qir :: .i ur7 :: .i ui8 :: .z h0z :: .e h0e :: [] => gsmall_l0 qf fuel (fun qqb qq7 qp6 qs9 yk yj => K (Ex.exit 0) (Xsmall_0_0 qqb qq7 qp6 qs9 yk yj)) qn qv qk qex qhx qie qir h0z fuel ur7 ui8 h0e
  | _ => none
noncomputable def Lsmall (qf : Mo) (fuel : Nat) : Lam AV := [(549755781504,lam Tsmall_0 (Fsmall_0 qf fuel))]
noncomputable def Gsmall (qf : Mo) : Gam := [(121,smM [RS.one (LK.l (nat_lit 1))] qf)]
theorem gsmall_l0_eq (qf : Mo) (fuel : Nat) (kn : St → Option AV) (K : Ex → St → Option AV) (qn qv : Nat) (qk : Ge) (qex : Int) (qhx qie qir : Nat) (h0z : List AV) (qt1 qg7 : Int) (pj : List (List AV)) (ur7 ui8 : Int) (h0e : List (List AV)) :
    bX Pr (Gsmall qf) (Lsmall qf fuel) 6 142 0 fuel (Ssmall_0 qn qv qk qex qhx qie qir ur7 ui8 h0z h0e) (fun e s => match e with | .normal => kn (hX Pr 142 0 (Ssmall_0 qn qv qk qex qhx qie qir qt1 qg7 h0z pj) s) | e => K e s) =
    gsmall_l0_step qf fuel (fun ur7 ui8 h0e => kn (Ssmall_0 qn qv qk qex qhx qie qir ur7 ui8 h0z h0e)) (fun qnv qow qnk qs7 v0 vy => K (Ex.exit 0) (Xsmall_0_0 qnv qow qnk qs7 v0 vy)) qn qv qk qex qhx qie qir h0z ur7 ui8 h0e := by kernel_rfl
theorem gsmall_l0_ok (qf : Mo) (fuel : Nat) (K : Ex → St → Option AV) (qn qv : Nat) (qk : Ge) (qex : Int) (qhx qie qir : Nat) (h0z : List AV) (qt1 qg7 : Int) (pj : List (List AV)) : ∀ (n' : Nat) (ur7 ui8 : Int) (h0e : List (List AV)),
    loopK (bX Pr (Gsmall qf) (Lsmall qf fuel) 6 142 0 fuel) (hX Pr 142 0 (Ssmall_0 qn qv qk qex qhx qie qir qt1 qg7 h0z pj)) n' (Ssmall_0 qn qv qk qex qhx qie qir ur7 ui8 h0z h0e) K = gsmall_l0 qf fuel (fun qnv qow qnk qs7 v0 vy => K (Ex.exit 0) (Xsmall_0_0 qnv qow qnk qs7 v0 vy)) qn qv qk qex qhx qie qir h0z n' ur7 ui8 h0e
  | 0,_,_,_ => rfl
  | n' + 1,ur7,ui8,h0e => (gsmall_l0_eq qf fuel (fun s => loopK (bX Pr (Gsmall qf) (Lsmall qf fuel) 6 142 0 fuel) (hX Pr 142 0 (Ssmall_0 qn qv qk qex qhx qie qir qt1 qg7 h0z pj)) n' s K) K qn qv qk qex qhx qie qir h0z qt1 qg7 pj ur7 ui8 h0e).trans
    (congrArg (fun kn => gsmall_l0_step qf fuel kn _ qn qv qk qex qhx qie qir h0z ur7 ui8 h0e) (funext fun ur7 => funext fun ui8 => funext fun h0e => gsmall_l0_ok qf fuel K qn qv qk qex qhx qie qir h0z qt1 qg7 pj n' ur7 ui8 h0e))
theorem gsmall_L0 (qf : Mo) (fuel : Nat) : LX Pr (Gsmall qf) (Lsmall qf fuel) 6 142 0 fuel := by
  refine .of Tsmall_0 (Fsmall_0 qf fuel) (fun L h => ?_) (fun ps st K r he hr => ?_)
  · have e : (Lsmall qf fuel).get (writes (lp Pr 142 0).1) = some (lam Tsmall_0 (Fsmall_0 qf fuel)) := by kernel_rfl
    exact (Option.some.inj (e.symm.trans h)).symm
  · unfold Fsmall_0 at hr
    split at hr
    · obtain rfl := (Option.some.inj he).symm
      exact (gsmall_l0_ok qf fuel K _ _ _ _ _ _ _ _ _ _ _ fuel _ _ _).trans hr
    · cases hr
noncomputable def gsmall (qf : Mo) (fuel zh v3 : Nat) (vs : Ge) (ud1 : Int) : Option AV :=
  ck (decide (0 ≤ (↑zh : Int))) <| ck (decide ((↑zh : Int) ≤ (↑zh : Int))) <| ck ((4 * (↑zh : Int).toNat).ble 281474976710656) <| ck (((↑zh : Int).toNat + 1).ble 4611686018427387904) <| gsmall_l0 qf fuel
    (fun (qnv qow qnk : Nat) (qs7 : Int) (v0 : List AV) (vy : List (List AV)) => let r0 : Option AV := qf [AV.ro 1 qow qnk fun (i j : Nat) => (vy.getD (qnv + i) v0).getD j AV.dead]; ck (okM [RS.one (LK.l 1)] r0) <| some (AV.tup [AV.ro 1 (toN (getV r0)) (toR (getV r0)) (toG (getV r0)),AV.int .u32 (IntKind.u32.wrap qs7)]))
    zh
    v3
    vs
    ud1
    (0)
    ((↑zh : Int).toNat)
    ((↑zh : Int).toNat)
    ([AV.int .u32 0]) fuel (0) (IntKind.i64.wrap ((↑zh : Int) - 1)) (List.replicate (↑zh : Int).toNat [AV.int .u32 0])
noncomputable def msmall (qf : Mo) (fuel : Nat) (xs : List AV) : Option AV := match xs with
  | [AV.ro 1 zh v3 vs,AV.int .u32 ud1] => gsmall qf fuel zh v3 vs ud1
  | _ => none
abbrev Rsmall : List RS := [RS.one (LK.l (nat_lit 1)),RS.one (LK.i .u32)]
theorem gsmall_sm (qf : Mo) (fuel : Nat) (hΓ : GamOk Pr (Gsmall qf)) (hP : NamesOk Pr) : SmOk Pr 142 (smM Rsmall (msmall qf fuel)) := smL (L := (Lsmall qf fuel)) (n := 1) hΓ hP (by kernel_rfl) (fun i hi => match i,hi with
  | 0,_ => gsmall_L0 qf fuel
  | i + 1,hi => absurd hi (by omega)) fun xs v h => by
  unfold msmall at h
  split at h
  · exact Eq.trans (by kernel_rfl) h
  · cases h
noncomputable def Slength_0 (qn qv : Nat) (qk : Ge) (un3 ut4 : Int) : St := { env := [(0,AV.ro 1 qn qv qk),(3,AV.int .i64 un3),(4,AV.int .u32 ut4)],h := [],kd := [] }
noncomputable def Xlength_0_0 (qcl qep : Nat) (qen : Ge) (qgj : Int) : St := { env := [(0,AV.ro 1 qcl qep qen),(3,AV.int .i64 qgj)],h := [],kd := [] }
noncomputable def glength_l0_step (fuel : Nat) (kn : Int → Int → Option AV) (kx0 : Nat → Nat → Ge → Int → Option AV) (qn qv : Nat) (qk : Ge) (un3 ut4 : Int) : Option AV :=
  bif ut4 != 0 then kn (IntKind.i64.wrap (un3 + 1)) (ut4.fdiv (2 ^ 1))
  else kx0 qn qv qk un3
noncomputable def glength_l0 (fuel : Nat) (kx0 : Nat → Nat → Ge → Int → Option AV) (qn qv : Nat) (qk : Ge) : Nat → Int → Int → Option AV
  | 0,_,_ => none
  | n' + 1,un3,ut4 => glength_l0_step fuel (glength_l0 fuel kx0 qn qv qk n') kx0 qn qv qk un3 ut4
noncomputable def Tlength_0 : TS' := ⟨[(0,TA.ro 1),(3,TA.i .i64),(4,TA.i .u32)],[],[]⟩
noncomputable def Flength_0 (fuel : Nat) (ps : List Pay) (K : Ex → St → Option AV) : Option AV := match ps with
  | .n qn :: .n qv :: .g qk :: .i un3 :: .i ut4 :: [] => glength_l0 fuel (fun qcl qep qen qgj => K (Ex.exit 0) (Xlength_0_0 qcl qep qen qgj)) qn qv qk fuel un3 ut4
  | _ => none
noncomputable def Llength (fuel : Nat) : Lam AV := [(1032216,lam Tlength_0 (Flength_0 fuel))]
noncomputable def Glength : Gam := []
theorem glength_l0_eq (fuel : Nat) (kn : St → Option AV) (K : Ex → St → Option AV) (qn qv : Nat) (qk : Ge) (qhb qtw : Int) (un3 ut4 : Int) :
    bX Pr Glength (Llength fuel) 6 82 0 fuel (Slength_0 qn qv qk un3 ut4) (fun e s => match e with | .normal => kn (hX Pr 82 0 (Slength_0 qn qv qk qhb qtw) s) | e => K e s) =
    glength_l0_step fuel (fun un3 ut4 => kn (Slength_0 qn qv qk un3 ut4)) (fun qas qa8 qbg qeb => K (Ex.exit 0) (Xlength_0_0 qas qa8 qbg qeb)) qn qv qk un3 ut4 := by kernel_rfl
theorem glength_l0_ok (fuel : Nat) (K : Ex → St → Option AV) (qn qv : Nat) (qk : Ge) (qhb qtw : Int) : ∀ (n' : Nat) (un3 ut4 : Int),
    loopK (bX Pr Glength (Llength fuel) 6 82 0 fuel) (hX Pr 82 0 (Slength_0 qn qv qk qhb qtw)) n' (Slength_0 qn qv qk un3 ut4) K = glength_l0 fuel (fun qas qa8 qbg qeb => K (Ex.exit 0) (Xlength_0_0 qas qa8 qbg qeb)) qn qv qk n' un3 ut4
  | 0,_,_ => rfl
  | n' + 1,un3,ut4 => (glength_l0_eq fuel (fun s => loopK (bX Pr Glength (Llength fuel) 6 82 0 fuel) (hX Pr 82 0 (Slength_0 qn qv qk qhb qtw)) n' s K) K qn qv qk qhb qtw un3 ut4).trans
    (congrArg (fun kn => glength_l0_step fuel kn _ qn qv qk un3 ut4) (funext fun un3 => funext fun ut4 => glength_l0_ok fuel K qn qv qk qhb qtw n' un3 ut4))
theorem glength_L0 (fuel : Nat) : LX Pr Glength (Llength fuel) 6 82 0 fuel := by
  refine .of Tlength_0 (Flength_0 fuel) (fun L h => ?_) (fun ps st K r he hr => ?_)
  · have e : (Llength fuel).get (writes (lp Pr 82 0).1) = some (lam Tlength_0 (Flength_0 fuel)) := by kernel_rfl
    exact (Option.some.inj (e.symm.trans h)).symm
  · unfold Flength_0 at hr
    split at hr
    · obtain rfl := (Option.some.inj he).symm
      exact (glength_l0_ok fuel K _ _ _ _ _ fuel _ _).trans hr
    · cases hr
noncomputable def glength (fuel zh v3 : Nat) (vs : Ge) : Option AV :=
  bif (↑zh : Int) == 0 then some (AV.int .i64 0)
  else ck (decide (0 ≤ IntKind.i64.wrap ((↑zh : Int) - 1))) <| ck (decide (IntKind.i64.wrap ((↑zh : Int) - 1) < (↑zh : Int))) <| ck (fitK (LK.i .u32) (vs (IntKind.i64.wrap ((↑zh : Int) - 1)).toNat 0)) <| glength_l0 fuel
    (fun (qas _ : Nat) (_ : Ge) (qeb : Int) => some (AV.int .i64 (IntKind.i64.wrap (IntKind.i64.wrap (IntKind.i64.wrap ((↑qas : Int) - 1) * 32) + qeb))))
    zh
    v3
    vs fuel (0) (toI (vs (IntKind.i64.wrap ((↑zh : Int) - 1)).toNat 0))
noncomputable def mlength (fuel : Nat) (xs : List AV) : Option AV := match xs with
  | [AV.ro 1 zh v3 vs] => glength fuel zh v3 vs
  | _ => none
abbrev Rlength : List RS := [RS.one (LK.i .i64)]
theorem glength_sm (fuel : Nat) (hΓ : GamOk Pr Glength) (hP : NamesOk Pr) : SmOk Pr 82 (smM Rlength (mlength fuel)) := smL (L := (Llength fuel)) (n := 1) hΓ hP (by kernel_rfl) (fun i hi => match i,hi with
  | 0,_ => glength_L0 fuel
  | i + 1,hi => absurd hi (by omega)) fun xs v h => by
  unfold mlength at h
  split at h
  · exact Eq.trans (by kernel_rfl) h
  · cases h
noncomputable def Sright_0 (qn qv : Nat) (qk : Ge) (uw5 us6 : Int) (qad qcv qdt : Nat) (ui8 : Int) (h0z : List AV) (h0e : List (List AV)) : St := { env := [(0,AV.ro 1 qn qv qk),(5,AV.int .i64 uw5),(6,AV.int .u64 us6),(7,AV.own 0 qad 1 qcv qdt),(8,AV.int .i64 ui8)],h := [Blk.fx 1 h0z h0e],kd := [] }
noncomputable def Xright_0_0 (qke qj8 qj9 : Nat) (yk : List AV) (yj : List (List AV)) : St := { env := [(7,AV.own 0 qke 1 qj8 qj9)],h := [Blk.fx 1 yk yj],kd := [] }
noncomputable def gright_l0_step (qf : Mo) (fuel : Nat) (kn : Int → List (List AV) → Option AV) (kx0 : Nat → Nat → Nat → List AV → List (List AV) → Option AV) (qn qv : Nat) (qk : Ge) (uw5 us6 : Int) (qad qcv qdt : Nat) (h0z : List AV) (ui8 : Int) (h0e : List (List AV)) : Option AV :=
  bif decide (ui8 < (↑qcv : Int)) then ck (decide (0 ≤ IntKind.i64.wrap (ui8 + uw5))) <| ck (decide (IntKind.i64.wrap (ui8 + uw5) < (↑qn : Int))) <| ck (fitK (LK.i .u32) (qk (IntKind.i64.wrap (ui8 + uw5)).toNat 0)) <| bif decide (IntKind.i64.wrap (IntKind.i64.wrap (ui8 + uw5) + 1) < (↑qn : Int)) then ck (decide (0 ≤ IntKind.i64.wrap (IntKind.i64.wrap (ui8 + uw5) + 1))) <| ck (decide (IntKind.i64.wrap (IntKind.i64.wrap (ui8 + uw5) + 1) < (↑qn : Int))) <| ck (fitK (LK.i .u32) (qk (IntKind.i64.wrap (IntKind.i64.wrap (ui8 + uw5) + 1)).toNat 0)) <| ck (decide (0 ≤ us6)) <| ck (decide (0 ≤ ui8)) <| ck (decide (ui8 < (↑qcv : Int))) <| kn (IntKind.i64.wrap (ui8 + 1)) (h0e.set (qad + ui8.toNat) (AV.int .u32 (IntKind.u32.wrap ((IntKind.u64.wrap (↑(BitVec.ofInt 64 (IntKind.u64.wrap (toI (qk (IntKind.i64.wrap (ui8 + uw5)).toNat 0))) ||| BitVec.ofInt 64 (IntKind.u64.wrap (IntKind.u64.wrap (toI (qk (IntKind.i64.wrap (IntKind.i64.wrap (ui8 + uw5) + 1)).toNat 0)) * 2 ^ 32))).toNat : Int)).fdiv (2 ^ min us6.toNat 64))) :: List.drop (0 + [AV.int .u32 (IntKind.u32.wrap ((IntKind.u64.wrap (↑(BitVec.ofInt 64 (IntKind.u64.wrap (toI (qk (IntKind.i64.wrap (ui8 + uw5)).toNat 0))) ||| BitVec.ofInt 64 (IntKind.u64.wrap (IntKind.u64.wrap (toI (qk (IntKind.i64.wrap (IntKind.i64.wrap (ui8 + uw5) + 1)).toNat 0)) * 2 ^ 32))).toNat : Int)).fdiv (2 ^ min us6.toNat 64)))].length) (h0e.getD (qad + ui8.toNat) h0z)))
    else ck (decide (0 ≤ us6)) <| ck (decide (0 ≤ ui8)) <| ck (decide (ui8 < (↑qcv : Int))) <| kn (IntKind.i64.wrap (ui8 + 1)) (h0e.set (qad + ui8.toNat) (AV.int .u32 (IntKind.u32.wrap ((IntKind.u64.wrap (toI (qk (IntKind.i64.wrap (ui8 + uw5)).toNat 0))).fdiv (2 ^ min us6.toNat 64))) :: List.drop (0 + [AV.int .u32 (IntKind.u32.wrap ((IntKind.u64.wrap (toI (qk (IntKind.i64.wrap (ui8 + uw5)).toNat 0))).fdiv (2 ^ min us6.toNat 64)))].length) (h0e.getD (qad + ui8.toNat) h0z)))
  else kx0 qad qcv qdt h0z h0e
noncomputable def gright_l0 (qf : Mo) (fuel : Nat) (kx0 : Nat → Nat → Nat → List AV → List (List AV) → Option AV) (qn qv : Nat) (qk : Ge) (uw5 us6 : Int) (qad qcv qdt : Nat) (h0z : List AV) : Nat → Int → List (List AV) → Option AV
  | 0,_,_ => none
  | n' + 1,ui8,h0e => gright_l0_step qf fuel (gright_l0 qf fuel kx0 qn qv qk uw5 us6 qad qcv qdt h0z n') kx0 qn qv qk uw5 us6 qad qcv qdt h0z ui8 h0e
noncomputable def Tright_0 : TS' := ⟨[(0,TA.ro 1),(5,TA.i .i64),(6,TA.i .u64),(7,TA.own 0 1),(8,TA.i .i64)],[TB.fx 1],[]⟩
noncomputable def Fright_0 (qf : Mo) (fuel : Nat) (ps : List Pay) (K : Ex → St → Option AV) : Option AV := match ps with
  | .n qn :: .n qv :: .g qk :: .i uw5 :: .i us6 :: .n qad :: .n qcv :: .n qdt :: .i ui8 :: .z h0z :: .e h0e :: [] => gright_l0 qf fuel (fun qke qj8 qj9 yk yj => K (Ex.exit 0) (Xright_0_0 qke qj8 qj9 yk yj)) qn qv qk uw5 us6 qad qcv qdt h0z fuel ui8 h0e
  | _ => none
noncomputable def Lright (qf : Mo) (fuel : Nat) : Lam AV := [(4611686018410611456,lam Tright_0 (Fright_0 qf fuel))]
noncomputable def Gright (qf : Mo) : Gam := [(121,smM [RS.one (LK.l (nat_lit 1))] qf)]
theorem gright_l0_eq (qf : Mo) (fuel : Nat) (kn : St → Option AV) (K : Ex → St → Option AV) (qn qv : Nat) (qk : Ge) (uw5 us6 : Int) (qad qcv qdt : Nat) (h0z : List AV) (qg7 : Int) (pj : List (List AV)) (ui8 : Int) (h0e : List (List AV)) :
    bX Pr (Gright qf) (Lright qf fuel) 6 126 0 fuel (Sright_0 qn qv qk uw5 us6 qad qcv qdt ui8 h0z h0e) (fun e s => match e with | .normal => kn (hX Pr 126 0 (Sright_0 qn qv qk uw5 us6 qad qcv qdt qg7 h0z pj) s) | e => K e s) =
    gright_l0_step qf fuel (fun ui8 h0e => kn (Sright_0 qn qv qk uw5 us6 qad qcv qdt ui8 h0z h0e)) (fun qh0 qhz qh3 v0 vy => K (Ex.exit 0) (Xright_0_0 qh0 qhz qh3 v0 vy)) qn qv qk uw5 us6 qad qcv qdt h0z ui8 h0e := by kernel_rfl
theorem gright_l0_ok (qf : Mo) (fuel : Nat) (K : Ex → St → Option AV) (qn qv : Nat) (qk : Ge) (uw5 us6 : Int) (qad qcv qdt : Nat) (h0z : List AV) (qg7 : Int) (pj : List (List AV)) : ∀ (n' : Nat) (ui8 : Int) (h0e : List (List AV)),
    loopK (bX Pr (Gright qf) (Lright qf fuel) 6 126 0 fuel) (hX Pr 126 0 (Sright_0 qn qv qk uw5 us6 qad qcv qdt qg7 h0z pj)) n' (Sright_0 qn qv qk uw5 us6 qad qcv qdt ui8 h0z h0e) K = gright_l0 qf fuel (fun qh0 qhz qh3 v0 vy => K (Ex.exit 0) (Xright_0_0 qh0 qhz qh3 v0 vy)) qn qv qk uw5 us6 qad qcv qdt h0z n' ui8 h0e
  | 0,_,_ => rfl
  | n' + 1,ui8,h0e => (gright_l0_eq qf fuel (fun s => loopK (bX Pr (Gright qf) (Lright qf fuel) 6 126 0 fuel) (hX Pr 126 0 (Sright_0 qn qv qk uw5 us6 qad qcv qdt qg7 h0z pj)) n' s K) K qn qv qk uw5 us6 qad qcv qdt h0z qg7 pj ui8 h0e).trans
    (congrArg (fun kn => gright_l0_step qf fuel kn _ qn qv qk uw5 us6 qad qcv qdt h0z ui8 h0e) (funext fun ui8 => funext fun h0e => gright_l0_ok qf fuel K qn qv qk uw5 us6 qad qcv qdt h0z qg7 pj n' ui8 h0e))
theorem gright_L0 (qf : Mo) (fuel : Nat) : LX Pr (Gright qf) (Lright qf fuel) 6 126 0 fuel := by
  refine .of Tright_0 (Fright_0 qf fuel) (fun L h => ?_) (fun ps st K r he hr => ?_)
  · have e : (Lright qf fuel).get (writes (lp Pr 126 0).1) = some (lam Tright_0 (Fright_0 qf fuel)) := by kernel_rfl
    exact (Option.some.inj (e.symm.trans h)).symm
  · unfold Fright_0 at hr
    split at hr
    · obtain rfl := (Option.some.inj he).symm
      exact (gright_l0_ok qf fuel K _ _ _ _ _ _ _ _ _ _ _ fuel _ _).trans hr
    · cases hr
noncomputable def gright (qf : Mo) (fuel zh v3 : Nat) (vs : Ge) (un1 : Int) : Option AV :=
  bif decide (IntKind.i64.wrap (IntKind.u64.wrap (un1.tdiv 32)) ≥ (↑zh : Int)) then some (AV.ro 1 0 0 fun (x j : Nat) => [AV.int .u32 0].getD j AV.dead)
  else ck (decide (0 ≤ IntKind.i64.wrap ((↑zh : Int) - IntKind.i64.wrap (IntKind.u64.wrap (un1.tdiv 32))))) <| ck (decide (IntKind.i64.wrap ((↑zh : Int) - IntKind.i64.wrap (IntKind.u64.wrap (un1.tdiv 32))) ≤ IntKind.i64.wrap ((↑zh : Int) - IntKind.i64.wrap (IntKind.u64.wrap (un1.tdiv 32))))) <| ck ((4 * (IntKind.i64.wrap ((↑zh : Int) - IntKind.i64.wrap (IntKind.u64.wrap (un1.tdiv 32)))).toNat).ble 281474976710656) <| ck (((IntKind.i64.wrap ((↑zh : Int) - IntKind.i64.wrap (IntKind.u64.wrap (un1.tdiv 32)))).toNat + 1).ble 4611686018427387904) <| gright_l0 qf fuel
    (fun (qh0 qhz qh3 : Nat) (v0 : List AV) (vy : List (List AV)) => let r0 : Option AV := qf [AV.ro 1 qhz qh3 fun (i j : Nat) => (vy.getD (qh0 + i) v0).getD j AV.dead]; ck (okM [RS.one (LK.l 1)] r0) <| some (AV.ro 1 (toN (getV r0)) (toR (getV r0)) (toG (getV r0))))
    zh
    v3
    vs
    (IntKind.i64.wrap (IntKind.u64.wrap (un1.tdiv 32)))
    (un1.tmod 32)
    (0)
    ((IntKind.i64.wrap ((↑zh : Int) - IntKind.i64.wrap (IntKind.u64.wrap (un1.tdiv 32)))).toNat)
    ((IntKind.i64.wrap ((↑zh : Int) - IntKind.i64.wrap (IntKind.u64.wrap (un1.tdiv 32)))).toNat)
    ([AV.int .u32 0]) fuel (0) (List.replicate (IntKind.i64.wrap ((↑zh : Int) - IntKind.i64.wrap (IntKind.u64.wrap (un1.tdiv 32)))).toNat [AV.int .u32 0])
noncomputable def mright (qf : Mo) (fuel : Nat) (xs : List AV) : Option AV := match xs with
  | [AV.ro 1 zh v3 vs,AV.int .u64 un1] => gright qf fuel zh v3 vs un1
  | _ => none
abbrev Rright : List RS := [RS.one (LK.l (nat_lit 1))]
theorem gright_sm (qf : Mo) (fuel : Nat) (hΓ : GamOk Pr (Gright qf)) (hP : NamesOk Pr) : SmOk Pr 126 (smM Rright (mright qf fuel)) := smL (L := (Lright qf fuel)) (n := 1) hΓ hP (by kernel_rfl) (fun i hi => match i,hi with
  | 0,_ => gright_L0 qf fuel
  | i + 1,hi => absurd hi (by omega)) fun xs v h => by
  unfold mright at h
  split at h
  · exact Eq.trans (by kernel_rfl) h
  · cases h
noncomputable def Sdiv_0 (qde : Int) (qbo qbk : Nat) (qbn : Ge) (qa3 qbf qbl : Nat) (qcf : Int) (qbq qbp qbm : Nat) (qa4 qah : Int) (qce qgz qig : Int) (p4 : List AV) (p3 : List (List AV)) (qaq : List AV) (qar : List (List AV)) : St := { env := [(10,AV.int .u64 qde),(11,AV.ro 1 qbo qbk qbn),(12,AV.own 0 qa3 1 qbf qbl),(13,AV.int .i64 qcf),(15,AV.own 1 qbq 1 qbp qbm),(16,AV.int .u64 qa4),(17,AV.int .u64 qah),(18,AV.int .i64 qce),(20,AV.int .u64 qgz),(21,AV.int .u64 qig)],h := [Blk.fx 1 p4 p3,Blk.fx 1 qaq qar],kd := [] }
noncomputable def Xdiv_0_0 (qqo : Int) (qnx qna : Nat) (qo2 : Ge) (qoi qop qoh : Nat) (qro : Int) (qnt qni qos : Nat) (qng qmk : Int) (qp8 qq6 : Int) (qsj : List AV) (qsl : List (List AV)) (qs4 : List AV) (qsm : List (List AV)) : St := { env := [(10,AV.int .u64 qqo),(11,AV.ro 1 qnx qna qo2),(12,AV.own 0 qoi 1 qop qoh),(13,AV.int .i64 qro),(15,AV.own 1 qnt 1 qni qos),(16,AV.int .u64 qng),(17,AV.int .u64 qmk),(18,AV.int .i64 qp8),(20,AV.int .u64 qq6)],h := [Blk.fx 1 qsj qsl,Blk.fx 1 qs4 qsm],kd := [] }
noncomputable def gdiv_l0_step (vc qz : Mo) (qx qh : Mo) (wt qf : Mo) (qy wr wb : Mo) (fuel : Nat) (kn : Int → Int → Option AV) (kx0 : Int → Nat → Nat → Ge → Nat → Nat → Nat → Int → Nat → Nat → Nat → Int → Int → Int → Int → List AV → List (List AV) → List AV → List (List AV) → Option AV) (qde : Int) (qbo qbk : Nat) (qbn : Ge) (qa3 qbf qbl : Nat) (qcf : Int) (qbq qbp qbm : Nat) (qa4 qah qce : Int) (p4 : List AV) (p3 : List (List AV)) (qaq : List AV) (qar : List (List AV)) (qgz qig : Int) : Option AV :=
  ck (bif !decide (qgz > 4294967295) then true else true) <| ck (bif !decide (qgz > 4294967295) then decide (0 ≤ IntKind.i64.wrap (IntKind.i64.wrap (qce + qcf) - 2)) else true) <| ck (bif !decide (qgz > 4294967295) then decide (IntKind.i64.wrap (IntKind.i64.wrap (qce + qcf) - 2) < (↑qbf : Int)) else true) <| ck (bif !decide (qgz > 4294967295) then fitK (LK.i .u32) ((p3.getD (qa3 + (IntKind.i64.wrap (IntKind.i64.wrap (qce + qcf) - 2)).toNat) p4).getD 0 AV.dead) else true) <| bif bif decide (qgz > 4294967295) then true else decide (IntKind.u64.wrap (qgz * qah) > IntKind.u64.wrap (↑(BitVec.ofInt 64 (IntKind.u64.wrap (qig * 2 ^ 32)) ||| BitVec.ofInt 64 (IntKind.u64.wrap (toI ((p3.getD (qa3 + (IntKind.i64.wrap (IntKind.i64.wrap (qce + qcf) - 2)).toNat) p4).getD 0 AV.dead)))).toNat : Int)) then bif decide (IntKind.u64.wrap (qig + qa4) > 4294967295) then kx0 qde qbo qbk qbn qa3 qbf qbl qcf qbq qbp qbm qa4 qah qce (IntKind.u64.wrap (qgz - 1)) p4 p3 qaq qar
    else kn (IntKind.u64.wrap (qgz - 1)) (IntKind.u64.wrap (qig + qa4))
  else kx0 qde qbo qbk qbn qa3 qbf qbl qcf qbq qbp qbm qa4 qah qce qgz p4 p3 qaq qar
noncomputable def gdiv_l0 (vc qz : Mo) (qx qh : Mo) (wt qf : Mo) (qy wr wb : Mo) (fuel : Nat) (kx0 : Int → Nat → Nat → Ge → Nat → Nat → Nat → Int → Nat → Nat → Nat → Int → Int → Int → Int → List AV → List (List AV) → List AV → List (List AV) → Option AV) (qde : Int) (qbo qbk : Nat) (qbn : Ge) (qa3 qbf qbl : Nat) (qcf : Int) (qbq qbp qbm : Nat) (qa4 qah qce : Int) (p4 : List AV) (p3 : List (List AV)) (qaq : List AV) (qar : List (List AV)) : Nat → Int → Int → Option AV
  | 0,_,_ => none
  | n' + 1,qgz,qig => gdiv_l0_step vc qz qx qh wt qf qy wr wb fuel (gdiv_l0 vc qz qx qh wt qf qy wr wb fuel kx0 qde qbo qbk qbn qa3 qbf qbl qcf qbq qbp qbm qa4 qah qce p4 p3 qaq qar n') kx0 qde qbo qbk qbn qa3 qbf qbl qcf qbq qbp qbm qa4 qah qce p4 p3 qaq qar qgz qig
termination_by structural k => k
noncomputable def Tdiv_0 : TS' := ⟨[(10,TA.i .u64),(11,TA.ro 1),(12,TA.own 0 1),(13,TA.i .i64),(15,TA.own 1 1),(16,TA.i .u64),(17,TA.i .u64),(18,TA.i .i64),(20,TA.i .u64),(21,TA.i .u64)],[TB.fx 1,TB.fx 1],[]⟩
noncomputable def Fdiv_0 (vc qz : Mo) (qx qh : Mo) (wt qf : Mo) (qy wr wb : Mo) (fuel : Nat) (ps : List Pay) (K : Ex → St → Option AV) : Option AV := match ps with
  | .i qde :: .n qbo :: .n qbk :: .g qbn :: .n qa3 :: .n qbf :: .n qbl :: .i qcf :: .n qbq :: .n qbp :: .n qbm :: .i qa4 :: .i qah :: .i qce :: .i qgz :: .i qig :: .z p4 :: .e p3 :: .z qaq :: .e qar :: [] => gdiv_l0 vc qz qx qh wt qf qy wr wb fuel (fun qqo qnx qna qo2 qoi qop qoh qro qnt qni qos qng qmk qp8 qq6 qsj qsl qs4 qsm => K (Ex.exit 2) (Xdiv_0_0 qqo qnx qna qo2 qoi qop qoh qro qnt qni qos qng qmk qp8 qq6 qsj qsl qs4 qsm)) qde qbo qbk qbn qa3 qbf qbl qcf qbq qbp qbm qa4 qah qce p4 p3 qaq qar fuel qgz qig
  | _ => none
noncomputable def Sdiv_1 (qdw : Int) (qbi qbw : Nat) (qap : Ge) (qai qbd qb8 : Nat) (qdg : Int) (qbx qb2 qbz : Nat) (qb1 qat : Int) (qaz qcp : Int) (qht qh6 qew : Int) (qej : List AV) (qel : List (List AV)) (qf8 : List AV) (qf7 : List (List AV)) : St := { env := [(10,AV.int .u64 qdw),(11,AV.ro 1 qbi qbw qap),(12,AV.own 0 qai 1 qbd qb8),(13,AV.int .i64 qdg),(15,AV.own 1 qbx 1 qb2 qbz),(16,AV.int .u64 qb1),(17,AV.int .u64 qat),(18,AV.int .i64 qaz),(20,AV.int .u64 qcp),(22,AV.int .u64 qht),(23,AV.int .u64 qh6),(24,AV.int .i64 qew)],h := [Blk.fx 1 qej qel,Blk.fx 1 qf8 qf7],kd := [] }
noncomputable def Xdiv_1_0 (qq9 : Int) (qnc qov : Nat) (qny : Ge) (qnj qo5 qnz : Nat) (qqm : Int) (qn5 qnw qor : Nat) (qo4 ql5 : Int) (qrq qrf : Int) (qq2 qqh : Int) (qs2 : List AV) (qs5 : List (List AV)) (qst : List AV) (qs6 : List (List AV)) : St := { env := [(10,AV.int .u64 qq9),(11,AV.ro 1 qnc qov qny),(12,AV.own 0 qnj 1 qo5 qnz),(13,AV.int .i64 qqm),(15,AV.own 1 qn5 1 qnw qor),(16,AV.int .u64 qo4),(17,AV.int .u64 ql5),(18,AV.int .i64 qrq),(20,AV.int .u64 qrf),(22,AV.int .u64 qq2),(23,AV.int .u64 qqh)],h := [Blk.fx 1 qs2 qs5,Blk.fx 1 qst qs6],kd := [] }
noncomputable def gdiv_l1_step (vc qz : Mo) (qx qh : Mo) (wt qf : Mo) (qy wr wb : Mo) (fuel : Nat) (kn : Int → Int → Int → List (List AV) → Option AV) (kx0 : Int → Nat → Nat → Ge → Nat → Nat → Nat → Int → Nat → Nat → Nat → Int → Int → Int → Int → Int → Int → List AV → List (List AV) → List AV → List (List AV) → Option AV) (qdw : Int) (qbi qbw : Nat) (qap : Ge) (qai qbd qb8 : Nat) (qdg : Int) (qbx qb2 qbz : Nat) (qb1 qat : Int) (qaz qcp : Int) (qej qf8 : List AV) (qf7 : List (List AV)) (qht qh6 qew : Int) (qel : List (List AV)) : Option AV :=
  bif decide (qew < qdg) then ck (decide (0 ≤ qew)) <| ck (decide (qew < (↑qbi : Int))) <| ck (fitK (LK.i .u32) (qap qew.toNat 0)) <| ck (decide (0 ≤ IntKind.i64.wrap (qew + qaz))) <| ck (decide (IntKind.i64.wrap (qew + qaz) < (↑qbd : Int))) <| ck (fitK (LK.i .u32) ((qel.getD (qai + (IntKind.i64.wrap (qew + qaz)).toNat) qej).getD 0 AV.dead)) <| ck (decide (0 ≤ IntKind.i64.wrap (qew + qaz))) <| ck (decide (IntKind.i64.wrap (qew + qaz) < (↑qbd : Int))) <| kn ((IntKind.u64.wrap (qht + IntKind.u64.wrap (qcp * IntKind.u64.wrap (toI (qap qew.toNat 0))))).fdiv (2 ^ 32)) ((IntKind.u64.wrap (IntKind.u64.wrap (IntKind.u64.wrap (toI ((qel.getD (qai + (IntKind.i64.wrap (qew + qaz)).toNat) qej).getD 0 AV.dead)) - IntKind.u64.wrap (IntKind.u32.wrap (IntKind.u64.wrap (qht + IntKind.u64.wrap (qcp * IntKind.u64.wrap (toI (qap qew.toNat 0))))))) - qh6)).fdiv (2 ^ 63)) (IntKind.i64.wrap (qew + 1)) (qel.set (qai + (IntKind.i64.wrap (qew + qaz)).toNat) (AV.int .u32 (IntKind.u32.wrap (IntKind.u64.wrap (IntKind.u64.wrap (IntKind.u64.wrap (toI ((qel.getD (qai + (IntKind.i64.wrap (qew + qaz)).toNat) qej).getD 0 AV.dead)) - IntKind.u64.wrap (IntKind.u32.wrap (IntKind.u64.wrap (qht + IntKind.u64.wrap (qcp * IntKind.u64.wrap (toI (qap qew.toNat 0))))))) - qh6))) :: List.drop (0 + [AV.int .u32 (IntKind.u32.wrap (IntKind.u64.wrap (IntKind.u64.wrap (IntKind.u64.wrap (toI ((qel.getD (qai + (IntKind.i64.wrap (qew + qaz)).toNat) qej).getD 0 AV.dead)) - IntKind.u64.wrap (IntKind.u32.wrap (IntKind.u64.wrap (qht + IntKind.u64.wrap (qcp * IntKind.u64.wrap (toI (qap qew.toNat 0))))))) - qh6)))].length) (qel.getD (qai + (IntKind.i64.wrap (qew + qaz)).toNat) qej)))
  else kx0 qdw qbi qbw qap qai qbd qb8 qdg qbx qb2 qbz qb1 qat qaz qcp qht qh6 qej qel qf8 qf7
noncomputable def gdiv_l1 (vc qz : Mo) (qx qh : Mo) (wt qf : Mo) (qy wr wb : Mo) (fuel : Nat) (kx0 : Int → Nat → Nat → Ge → Nat → Nat → Nat → Int → Nat → Nat → Nat → Int → Int → Int → Int → Int → Int → List AV → List (List AV) → List AV → List (List AV) → Option AV) (qdw : Int) (qbi qbw : Nat) (qap : Ge) (qai qbd qb8 : Nat) (qdg : Int) (qbx qb2 qbz : Nat) (qb1 qat : Int) (qaz qcp : Int) (qej qf8 : List AV) (qf7 : List (List AV)) : Nat → Int → Int → Int → List (List AV) → Option AV
  | 0,_,_,_,_ => none
  | n' + 1,qht,qh6,qew,qel => gdiv_l1_step vc qz qx qh wt qf qy wr wb fuel (gdiv_l1 vc qz qx qh wt qf qy wr wb fuel kx0 qdw qbi qbw qap qai qbd qb8 qdg qbx qb2 qbz qb1 qat qaz qcp qej qf8 qf7 n') kx0 qdw qbi qbw qap qai qbd qb8 qdg qbx qb2 qbz qb1 qat qaz qcp qej qf8 qf7 qht qh6 qew qel
termination_by structural k => k
noncomputable def Tdiv_1 : TS' := ⟨[(10,TA.i .u64),(11,TA.ro 1),(12,TA.own 0 1),(13,TA.i .i64),(15,TA.own 1 1),(16,TA.i .u64),(17,TA.i .u64),(18,TA.i .i64),(20,TA.i .u64),(22,TA.i .u64),(23,TA.i .u64),(24,TA.i .i64)],[TB.fx 1,TB.fx 1],[]⟩
noncomputable def Fdiv_1 (vc qz : Mo) (qx qh : Mo) (wt qf : Mo) (qy wr wb : Mo) (fuel : Nat) (ps : List Pay) (K : Ex → St → Option AV) : Option AV := match ps with
  | .i qdw :: .n qbi :: .n qbw :: .g qap :: .n qai :: .n qbd :: .n qb8 :: .i qdg :: .n qbx :: .n qb2 :: .n qbz :: .i qb1 :: .i qat :: .i qaz :: .i qcp :: .i qht :: .i qh6 :: .i qew :: .z qej :: .e qel :: .z qf8 :: .e qf7 :: [] => gdiv_l1 vc qz qx qh wt qf qy wr wb fuel (fun qq9 qnc qov qny qnj qo5 qnz qqm qn5 qnw qor qo4 ql5 qrq qrf qq2 qqh qs2 qs5 qst qs6 => K (Ex.exit 4) (Xdiv_1_0 qq9 qnc qov qny qnj qo5 qnz qqm qn5 qnw qor qo4 ql5 qrq qrf qq2 qqh qs2 qs5 qst qs6)) qdw qbi qbw qap qai qbd qb8 qdg qbx qb2 qbz qb1 qat qaz qcp qej qf8 qf7 fuel qht qh6 qew qel
  | _ => none
noncomputable def Sdiv_2 (qdu : Int) (qbj qcc : Nat) (qax : Ge) (qak qbc qcd : Nat) (qdd : Int) (qb6 qca qby : Nat) (qb0 qau : Int) (qay qd2 : Int) (qc4 qe0 : Int) (qei : List AV) (qek : List (List AV)) (qf5 : List AV) (qgf : List (List AV)) : St := { env := [(10,AV.int .u64 qdu),(11,AV.ro 1 qbj qcc qax),(12,AV.own 0 qak 1 qbc qcd),(13,AV.int .i64 qdd),(15,AV.own 1 qb6 1 qca qby),(16,AV.int .u64 qb0),(17,AV.int .u64 qau),(18,AV.int .i64 qay),(20,AV.int .u64 qd2),(22,AV.int .u64 qc4),(27,AV.int .i64 qe0)],h := [Blk.fx 1 qei qek,Blk.fx 1 qf5 qgf],kd := [] }
noncomputable def Xdiv_2_0 (qrh : Int) (qoz qn2 : Nat) (qn3 : Ge) (qok qob qog : Nat) (qqy : Int) (qm5 qoo qoq : Nat) (qol qmb : Int) (qrm qq0 qra : Int) (qsf : List AV) (qsn : List (List AV)) (qsz : List AV) (qso : List (List AV)) : St := { env := [(10,AV.int .u64 qrh),(11,AV.ro 1 qoz qn2 qn3),(12,AV.own 0 qok 1 qob qog),(13,AV.int .i64 qqy),(15,AV.own 1 qm5 1 qoo qoq),(16,AV.int .u64 qol),(17,AV.int .u64 qmb),(18,AV.int .i64 qrm),(20,AV.int .u64 qq0),(22,AV.int .u64 qra)],h := [Blk.fx 1 qsf qsn,Blk.fx 1 qsz qso],kd := [] }
noncomputable def gdiv_l2_step (vc qz : Mo) (qx qh : Mo) (wt qf : Mo) (qy wr wb : Mo) (fuel : Nat) (kn : Int → Int → List (List AV) → Option AV) (kx0 : Int → Nat → Nat → Ge → Nat → Nat → Nat → Int → Nat → Nat → Nat → Int → Int → Int → Int → Int → List AV → List (List AV) → List AV → List (List AV) → Option AV) (qdu : Int) (qbj qcc : Nat) (qax : Ge) (qak qbc qcd : Nat) (qdd : Int) (qb6 qca qby : Nat) (qb0 qau : Int) (qay qd2 : Int) (qei qf5 : List AV) (qgf : List (List AV)) (qc4 qe0 : Int) (qek : List (List AV)) : Option AV :=
  bif decide (qe0 < qdd) then ck (decide (0 ≤ IntKind.i64.wrap (qe0 + qay))) <| ck (decide (IntKind.i64.wrap (qe0 + qay) < (↑qbc : Int))) <| ck (fitK (LK.i .u32) ((qek.getD (qak + (IntKind.i64.wrap (qe0 + qay)).toNat) qei).getD 0 AV.dead)) <| ck (decide (0 ≤ qe0)) <| ck (decide (qe0 < (↑qbj : Int))) <| ck (fitK (LK.i .u32) (qax qe0.toNat 0)) <| ck (decide (0 ≤ IntKind.i64.wrap (qe0 + qay))) <| ck (decide (IntKind.i64.wrap (qe0 + qay) < (↑qbc : Int))) <| kn ((IntKind.u64.wrap (qc4 + IntKind.u64.wrap (IntKind.u64.wrap (toI ((qek.getD (qak + (IntKind.i64.wrap (qe0 + qay)).toNat) qei).getD 0 AV.dead)) + IntKind.u64.wrap (toI (qax qe0.toNat 0))))).fdiv (2 ^ 32)) (IntKind.i64.wrap (qe0 + 1)) (qek.set (qak + (IntKind.i64.wrap (qe0 + qay)).toNat) (AV.int .u32 (IntKind.u32.wrap (IntKind.u64.wrap (qc4 + IntKind.u64.wrap (IntKind.u64.wrap (toI ((qek.getD (qak + (IntKind.i64.wrap (qe0 + qay)).toNat) qei).getD 0 AV.dead)) + IntKind.u64.wrap (toI (qax qe0.toNat 0)))))) :: List.drop (0 + [AV.int .u32 (IntKind.u32.wrap (IntKind.u64.wrap (qc4 + IntKind.u64.wrap (IntKind.u64.wrap (toI ((qek.getD (qak + (IntKind.i64.wrap (qe0 + qay)).toNat) qei).getD 0 AV.dead)) + IntKind.u64.wrap (toI (qax qe0.toNat 0))))))].length) (qek.getD (qak + (IntKind.i64.wrap (qe0 + qay)).toNat) qei)))
  else kx0 qdu qbj qcc qax qak qbc qcd qdd qb6 qca qby qb0 qau qay qd2 qc4 qei qek qf5 qgf
noncomputable def gdiv_l2 (vc qz : Mo) (qx qh : Mo) (wt qf : Mo) (qy wr wb : Mo) (fuel : Nat) (kx0 : Int → Nat → Nat → Ge → Nat → Nat → Nat → Int → Nat → Nat → Nat → Int → Int → Int → Int → Int → List AV → List (List AV) → List AV → List (List AV) → Option AV) (qdu : Int) (qbj qcc : Nat) (qax : Ge) (qak qbc qcd : Nat) (qdd : Int) (qb6 qca qby : Nat) (qb0 qau : Int) (qay qd2 : Int) (qei qf5 : List AV) (qgf : List (List AV)) : Nat → Int → Int → List (List AV) → Option AV
  | 0,_,_,_ => none
  | n' + 1,qc4,qe0,qek => gdiv_l2_step vc qz qx qh wt qf qy wr wb fuel (gdiv_l2 vc qz qx qh wt qf qy wr wb fuel kx0 qdu qbj qcc qax qak qbc qcd qdd qb6 qca qby qb0 qau qay qd2 qei qf5 qgf n') kx0 qdu qbj qcc qax qak qbc qcd qdd qb6 qca qby qb0 qau qay qd2 qei qf5 qgf qc4 qe0 qek
termination_by structural k => k
noncomputable def Tdiv_2 : TS' := ⟨[(10,TA.i .u64),(11,TA.ro 1),(12,TA.own 0 1),(13,TA.i .i64),(15,TA.own 1 1),(16,TA.i .u64),(17,TA.i .u64),(18,TA.i .i64),(20,TA.i .u64),(22,TA.i .u64),(27,TA.i .i64)],[TB.fx 1,TB.fx 1],[]⟩
noncomputable def Fdiv_2 (vc qz : Mo) (qx qh : Mo) (wt qf : Mo) (qy wr wb : Mo) (fuel : Nat) (ps : List Pay) (K : Ex → St → Option AV) : Option AV := match ps with
  | .i qdu :: .n qbj :: .n qcc :: .g qax :: .n qak :: .n qbc :: .n qcd :: .i qdd :: .n qb6 :: .n qca :: .n qby :: .i qb0 :: .i qau :: .i qay :: .i qd2 :: .i qc4 :: .i qe0 :: .z qei :: .e qek :: .z qf5 :: .e qgf :: [] => gdiv_l2 vc qz qx qh wt qf qy wr wb fuel (fun qrh qoz qn2 qn3 qok qob qog qqy qm5 qoo qoq qol qmb qrm qq0 qra qsf qsn qsz qso => K (Ex.exit 6) (Xdiv_2_0 qrh qoz qn2 qn3 qok qob qog qqy qm5 qoo qoq qol qmb qrm qq0 qra qsf qsn qsz qso)) qdu qbj qcc qax qak qbc qcd qdd qb6 qca qby qb0 qau qay qd2 qei qf5 qgf fuel qc4 qe0 qek
  | _ => none
noncomputable def Sdiv_3 (qiv : Int) (qgn qgl : Nat) (qgm : Ge) (qef qe9 qf4 : Nat) (qgo : Int) (qf9 qgc qf2 : Nat) (qe4 qee qgg : Int) (h0z : List AV) (h0e : List (List AV)) (h1z : List AV) (h1e : List (List AV)) : St := { env := [(10,AV.int .u64 qiv),(11,AV.ro 1 qgn qgl qgm),(12,AV.own 0 qef 1 qe9 qf4),(13,AV.int .i64 qgo),(15,AV.own 1 qf9 1 qgc qf2),(16,AV.int .u64 qe4),(17,AV.int .u64 qee),(18,AV.int .i64 qgg)],h := [Blk.fx 1 h0z h0e,Blk.fx 1 h1z h1e],kd := [] }
noncomputable def Xdiv_3_0 (qqk : Int) (qnd qoc : Nat) (qns qn1 : Nat) (qoy qot : Nat) (qsd : List AV) (qsx : List (List AV)) (qsc : List AV) (qsy : List (List AV)) : St := { env := [(10,AV.int .u64 qqk),(12,AV.own 0 qnd 1 qoc qns),(15,AV.own 1 qn1 1 qoy qot)],h := [Blk.fx 1 qsd qsx,Blk.fx 1 qsc qsy],kd := [] }
noncomputable def gdiv_l3_step (vc qz : Mo) (qx qh : Mo) (wt qf : Mo) (qy wr wb : Mo) (fuel : Nat) (kn : Int → Nat → Nat → Ge → Nat → Nat → Nat → Int → Nat → Nat → Nat → Int → Int → Int → List AV → List (List AV) → List AV → List (List AV) → Option AV) (kx0 : Int → Nat → Nat → Nat → Nat → Nat → Nat → List AV → List (List AV) → List AV → List (List AV) → Option AV) (qiv : Int) (qgn qgl : Nat) (qgm : Ge) (qef qe9 qf4 : Nat) (qgo : Int) (qf9 qgc qf2 : Nat) (qe4 qee qgg : Int) (h0z : List AV) (h0e : List (List AV)) (h1z : List AV) (h1e : List (List AV)) : Option AV :=
  bif decide (qgg ≥ 0) then ck (decide (0 ≤ IntKind.i64.wrap (qgg + qgo))) <| ck (decide (IntKind.i64.wrap (qgg + qgo) < (↑qe9 : Int))) <| ck (fitK (LK.i .u32) ((h0e.getD (qef + (IntKind.i64.wrap (qgg + qgo)).toNat) h0z).getD 0 AV.dead)) <| ck (decide (0 ≤ IntKind.i64.wrap (IntKind.i64.wrap (qgg + qgo) - 1))) <| ck (decide (IntKind.i64.wrap (IntKind.i64.wrap (qgg + qgo) - 1) < (↑qe9 : Int))) <| ck (fitK (LK.i .u32) ((h0e.getD (qef + (IntKind.i64.wrap (IntKind.i64.wrap (qgg + qgo) - 1)).toNat) h0z).getD 0 AV.dead)) <| ck (!decide (qe4 = 0)) <| ck (!decide (qe4 = 0)) <| gdiv_l0 vc qz qx qh wt qf qy wr wb fuel
      (fun (qev : Int) (qeq qem : Nat) (qeu : Ge) (qcm qct qcq : Nat) (qgv : Int) (qcu qcs qco : Nat) (qes qcx : Int) (qgt qgq : Int) (v0 : List AV) (vy : List (List AV)) (qdf : List AV) (qci : List (List AV)) => gdiv_l1 vc qz qx qh wt qf qy wr wb fuel
          (fun (qtk : Int) (qsa qry : Nat) (qr1 : Ge) (qey qly qr9 : Nat) (qd5 : Int) (ql0 qnm qsb : Nat) (qr2 qpv : Int) (qcj qrk : Int) (qhm qky : Int) (yk : List AV) (yj : List (List AV)) (qlk : List AV) (qh5 : List (List AV)) => ck (decide (0 ≤ IntKind.i64.wrap (qcj + qd5))) <| ck (decide (IntKind.i64.wrap (qcj + qd5) < (↑qly : Int))) <| ck (fitK (LK.i .u32) ((yj.getD (qey + (IntKind.i64.wrap (qcj + qd5)).toNat) yk).getD 0 AV.dead)) <| ck (decide (0 ≤ IntKind.i64.wrap (qcj + qd5))) <| ck (decide (IntKind.i64.wrap (qcj + qd5) < (↑qly : Int))) <| bif (IntKind.u64.wrap (IntKind.u64.wrap (IntKind.u64.wrap (toI ((yj.getD (qey + (IntKind.i64.wrap (qcj + qd5)).toNat) yk).getD 0 AV.dead)) - qhm) - qky)).fdiv (2 ^ 63) != 0 then gdiv_l2 vc qz qx qh wt qf qy wr wb fuel
                (fun (quk : Int) (qt9 qug : Nat) (quc : Ge) (qjk qoa quh : Nat) (qhg : Int) (qm6 qrz quf : Nat) (qua qtn : Int) (qe3 qtm qtl : Int) (qhd : List AV) (qg2 : List (List AV)) (ql6 : List AV) (ql4 : List (List AV)) => ck (decide (0 ≤ IntKind.i64.wrap (qe3 + qhg))) <| ck (decide (IntKind.i64.wrap (qe3 + qhg) < (↑qoa : Int))) <| ck (fitK (LK.i .u32) ((qg2.getD (qjk + (IntKind.i64.wrap (qe3 + qhg)).toNat) qhd).getD 0 AV.dead)) <| ck (decide (0 ≤ IntKind.i64.wrap (qe3 + qhg))) <| ck (decide (IntKind.i64.wrap (qe3 + qhg) < (↑qoa : Int))) <| ck (decide (0 ≤ qe3)) <| ck (decide (qe3 < (↑qrz : Int))) <| kn quk qt9 qug quc qjk qoa quh qhg qm6 qrz quf qua qtn (IntKind.i64.wrap (qe3 - 1)) qhd (qg2.set (qjk + (IntKind.i64.wrap (qe3 + qhg)).toNat) (AV.int .u32 (IntKind.u32.wrap (toI ((qg2.getD (qjk + (IntKind.i64.wrap (qe3 + qhg)).toNat) qhd).getD 0 AV.dead) + IntKind.u32.wrap qtl)) :: List.drop (0 + [AV.int .u32 (IntKind.u32.wrap (toI ((qg2.getD (qjk + (IntKind.i64.wrap (qe3 + qhg)).toNat) qhd).getD 0 AV.dead) + IntKind.u32.wrap qtl))].length) (qg2.getD (qjk + (IntKind.i64.wrap (qe3 + qhg)).toNat) qhd))) ql6 (ql4.set (qm6 + qe3.toNat) (AV.int .u32 (IntKind.u32.wrap qtm) :: List.drop (0 + [AV.int .u32 (IntKind.u32.wrap qtm)].length) (ql4.getD (qm6 + qe3.toNat) ql6))))
                qtk
                qsa
                qry
                qr1
                qey
                qly
                qr9
                qd5
                ql0
                qnm
                qsb
                qr2
                qpv
                qcj
                (IntKind.u64.wrap (qrk - 1))
                yk
                qlk
                qh5 fuel (0) (0) (yj.set (qey + (IntKind.i64.wrap (qcj + qd5)).toNat) (AV.int .u32 (IntKind.u32.wrap (IntKind.u64.wrap (IntKind.u64.wrap (IntKind.u64.wrap (toI ((yj.getD (qey + (IntKind.i64.wrap (qcj + qd5)).toNat) yk).getD 0 AV.dead)) - qhm) - qky))) :: List.drop (0 + [AV.int .u32 (IntKind.u32.wrap (IntKind.u64.wrap (IntKind.u64.wrap (IntKind.u64.wrap (toI ((yj.getD (qey + (IntKind.i64.wrap (qcj + qd5)).toNat) yk).getD 0 AV.dead)) - qhm) - qky)))].length) (yj.getD (qey + (IntKind.i64.wrap (qcj + qd5)).toNat) yk)))
            else ck (decide (0 ≤ qcj)) <| ck (decide (qcj < (↑qnm : Int))) <| kn qtk qsa qry qr1 qey qly qr9 qd5 ql0 qnm qsb qr2 qpv (IntKind.i64.wrap (qcj - 1)) yk (yj.set (qey + (IntKind.i64.wrap (qcj + qd5)).toNat) (AV.int .u32 (IntKind.u32.wrap (IntKind.u64.wrap (IntKind.u64.wrap (IntKind.u64.wrap (toI ((yj.getD (qey + (IntKind.i64.wrap (qcj + qd5)).toNat) yk).getD 0 AV.dead)) - qhm) - qky))) :: List.drop (0 + [AV.int .u32 (IntKind.u32.wrap (IntKind.u64.wrap (IntKind.u64.wrap (IntKind.u64.wrap (toI ((yj.getD (qey + (IntKind.i64.wrap (qcj + qd5)).toNat) yk).getD 0 AV.dead)) - qhm) - qky)))].length) (yj.getD (qey + (IntKind.i64.wrap (qcj + qd5)).toNat) yk))) qlk (qh5.set (ql0 + qcj.toNat) (AV.int .u32 (IntKind.u32.wrap qrk) :: List.drop (0 + [AV.int .u32 (IntKind.u32.wrap qrk)].length) (qh5.getD (ql0 + qcj.toNat) qlk))))
          qev
          qeq
          qem
          qeu
          qcm
          qct
          qcq
          qgv
          qcu
          qcs
          qco
          qes
          qcx
          qgt
          qgq
          v0
          qdf
          qci fuel (0) (0) (0) vy)
      qiv
      qgn
      qgl
      qgm
      qef
      qe9
      qf4
      qgo
      qf9
      qgc
      qf2
      qe4
      qee
      qgg
      h0z
      h0e
      h1z
      h1e fuel (IntKind.u64.wrap ((IntKind.u64.wrap (↑(BitVec.ofInt 64 (IntKind.u64.wrap (IntKind.u64.wrap (toI ((h0e.getD (qef + (IntKind.i64.wrap (qgg + qgo)).toNat) h0z).getD 0 AV.dead)) * 2 ^ 32)) ||| BitVec.ofInt 64 (IntKind.u64.wrap (toI ((h0e.getD (qef + (IntKind.i64.wrap (IntKind.i64.wrap (qgg + qgo) - 1)).toNat) h0z).getD 0 AV.dead)))).toNat : Int)).tdiv qe4)) ((IntKind.u64.wrap (↑(BitVec.ofInt 64 (IntKind.u64.wrap (IntKind.u64.wrap (toI ((h0e.getD (qef + (IntKind.i64.wrap (qgg + qgo)).toNat) h0z).getD 0 AV.dead)) * 2 ^ 32)) ||| BitVec.ofInt 64 (IntKind.u64.wrap (toI ((h0e.getD (qef + (IntKind.i64.wrap (IntKind.i64.wrap (qgg + qgo) - 1)).toNat) h0z).getD 0 AV.dead)))).toNat : Int)).tmod qe4)
  else kx0 qiv qef qe9 qf4 qf9 qgc qf2 h0z h0e h1z h1e
noncomputable def gdiv_l3 (vc qz : Mo) (qx qh : Mo) (wt qf : Mo) (qy wr wb : Mo) (fuel : Nat) (kx0 : Int → Nat → Nat → Nat → Nat → Nat → Nat → List AV → List (List AV) → List AV → List (List AV) → Option AV) : Nat → Int → Nat → Nat → Ge → Nat → Nat → Nat → Int → Nat → Nat → Nat → Int → Int → Int → List AV → List (List AV) → List AV → List (List AV) → Option AV
  | 0,_,_,_,_,_,_,_,_,_,_,_,_,_,_,_,_,_,_ => none
  | n' + 1,qiv,qgn,qgl,qgm,qef,qe9,qf4,qgo,qf9,qgc,qf2,qe4,qee,qgg,h0z,h0e,h1z,h1e => gdiv_l3_step vc qz qx qh wt qf qy wr wb fuel (gdiv_l3 vc qz qx qh wt qf qy wr wb fuel kx0 n') kx0 qiv qgn qgl qgm qef qe9 qf4 qgo qf9 qgc qf2 qe4 qee qgg h0z h0e h1z h1e
termination_by structural k => k
noncomputable def Tdiv_3 : TS' := ⟨[(10,TA.i .u64),(11,TA.ro 1),(12,TA.own 0 1),(13,TA.i .i64),(15,TA.own 1 1),(16,TA.i .u64),(17,TA.i .u64),(18,TA.i .i64)],[TB.fx 1,TB.fx 1],[]⟩
noncomputable def Fdiv_3 (vc qz : Mo) (qx qh : Mo) (wt qf : Mo) (qy wr wb : Mo) (fuel : Nat) (ps : List Pay) (K : Ex → St → Option AV) : Option AV := match ps with
  | .i qiv :: .n qgn :: .n qgl :: .g qgm :: .n qef :: .n qe9 :: .n qf4 :: .i qgo :: .n qf9 :: .n qgc :: .n qf2 :: .i qe4 :: .i qee :: .i qgg :: .z h0z :: .e h0e :: .z h1z :: .e h1e :: [] => gdiv_l3 vc qz qx qh wt qf qy wr wb fuel (fun qqk qnd qoc qns qn1 qoy qot qsd qsx qsc qsy => K (Ex.exit 0) (Xdiv_3_0 qqk qnd qoc qns qn1 qoy qot qsd qsx qsc qsy)) fuel qiv qgn qgl qgm qef qe9 qf4 qgo qf9 qgc qf2 qe4 qee qgg h0z h0e h1z h1e
  | _ => none
noncomputable def Ldiv (vc qz : Mo) (qx qh : Mo) (wt qf : Mo) (qy wr wb : Mo) (fuel : Nat) : Lam AV := [(5846006462211325741054492684241232576091071184896,lam Tdiv_0 (Fdiv_0 vc qz qx qh wt qf qy wr wb fuel)),(1606938044253144268992638480668347863191337861704169168044032,lam Tdiv_1 (Fdiv_1 vc qz qx qh wt qf qy wr wb fuel)),(7237005563852288880397866665709486697319558704783963041195812759942903889920,lam Tdiv_2 (Fdiv_2 vc qz qx qh wt qf qy wr wb fuel)),(237142198758023568227473377297792835283496928594582838045492278594639777729609728,lam Tdiv_3 (Fdiv_3 vc qz qx qh wt qf qy wr wb fuel))]
noncomputable def Gdiv (vc qz : Mo) (qx qh : Mo) (wt qf : Mo) (qy wr wb : Mo) : Gam := [(119,smM [RS.one (LK.i .i64)] vc),(87,smM [RS.one (LK.l (nat_lit 1))] qz),(141,smM [RS.one (LK.i .u64)] qx),(114,smM [RS.one (LK.l (nat_lit 1))] qh),(142,smM [RS.one (LK.l (nat_lit 1)),RS.one (LK.i .u32)] wt),(121,smM [RS.one (LK.l (nat_lit 1))] qf),(82,smM [RS.one (LK.i .i64)] qy),(117,smM [RS.one (LK.l (nat_lit 1))] wr),(126,smM [RS.one (LK.l (nat_lit 1))] wb)]
theorem gdiv_l0_eq (vc qz : Mo) (qx qh : Mo) (wt qf : Mo) (qy wr wb : Mo) (fuel : Nat) (kn : St → Option AV) (K : Ex → St → Option AV) (qde : Int) (qbo qbk : Nat) (qbn : Ge) (qa3 qbf qbl : Nat) (qcf : Int) (qbq qbp qbm : Nat) (qa4 qah qce : Int) (p4 : List AV) (p3 : List (List AV)) (qaq : List AV) (qar : List (List AV)) (qpy qpx : Int) (qgz qig : Int) :
    bX Pr (Gdiv vc qz qx qh wt qf qy wr wb) (Ldiv vc qz qx qh wt qf qy wr wb fuel) 6 115 1 fuel (Sdiv_0 qde qbo qbk qbn qa3 qbf qbl qcf qbq qbp qbm qa4 qah qce qgz qig p4 p3 qaq qar) (fun e s => match e with | .normal => kn (hX Pr 115 1 (Sdiv_0 qde qbo qbk qbn qa3 qbf qbl qcf qbq qbp qbm qa4 qah qce qpy qpx p4 p3 qaq qar) s) | e => K e s) =
    gdiv_l0_step vc qz qx qh wt qf qy wr wb fuel (fun qgz qig => kn (Sdiv_0 qde qbo qbk qbn qa3 qbf qbl qcf qbq qbp qbm qa4 qah qce qgz qig p4 p3 qaq qar)) (fun qev qeq qem qeu qcm qct qcq qgv qcu qcs qco qes qcx qgt qgq v0 vy qdf qci => K (Ex.exit 2) (Xdiv_0_0 qev qeq qem qeu qcm qct qcq qgv qcu qcs qco qes qcx qgt qgq v0 vy qdf qci)) qde qbo qbk qbn qa3 qbf qbl qcf qbq qbp qbm qa4 qah qce p4 p3 qaq qar qgz qig := by kernel_rfl
theorem gdiv_l0_ok (vc qz : Mo) (qx qh : Mo) (wt qf : Mo) (qy wr wb : Mo) (fuel : Nat) (K : Ex → St → Option AV) (qde : Int) (qbo qbk : Nat) (qbn : Ge) (qa3 qbf qbl : Nat) (qcf : Int) (qbq qbp qbm : Nat) (qa4 qah qce : Int) (p4 : List AV) (p3 : List (List AV)) (qaq : List AV) (qar : List (List AV)) (qpy qpx : Int) : ∀ (n' : Nat) (qgz qig : Int),
    loopK (bX Pr (Gdiv vc qz qx qh wt qf qy wr wb) (Ldiv vc qz qx qh wt qf qy wr wb fuel) 6 115 1 fuel) (hX Pr 115 1 (Sdiv_0 qde qbo qbk qbn qa3 qbf qbl qcf qbq qbp qbm qa4 qah qce qpy qpx p4 p3 qaq qar)) n' (Sdiv_0 qde qbo qbk qbn qa3 qbf qbl qcf qbq qbp qbm qa4 qah qce qgz qig p4 p3 qaq qar) K = gdiv_l0 vc qz qx qh wt qf qy wr wb fuel (fun qev qeq qem qeu qcm qct qcq qgv qcu qcs qco qes qcx qgt qgq v0 vy qdf qci => K (Ex.exit 2) (Xdiv_0_0 qev qeq qem qeu qcm qct qcq qgv qcu qcs qco qes qcx qgt qgq v0 vy qdf qci)) qde qbo qbk qbn qa3 qbf qbl qcf qbq qbp qbm qa4 qah qce p4 p3 qaq qar n' qgz qig
  | 0,_,_ => rfl
  | n' + 1,qgz,qig => (gdiv_l0_eq vc qz qx qh wt qf qy wr wb fuel (fun s => loopK (bX Pr (Gdiv vc qz qx qh wt qf qy wr wb) (Ldiv vc qz qx qh wt qf qy wr wb fuel) 6 115 1 fuel) (hX Pr 115 1 (Sdiv_0 qde qbo qbk qbn qa3 qbf qbl qcf qbq qbp qbm qa4 qah qce qpy qpx p4 p3 qaq qar)) n' s K) K qde qbo qbk qbn qa3 qbf qbl qcf qbq qbp qbm qa4 qah qce p4 p3 qaq qar qpy qpx qgz qig).trans
    (congrArg (fun kn => gdiv_l0_step vc qz qx qh wt qf qy wr wb fuel kn _ qde qbo qbk qbn qa3 qbf qbl qcf qbq qbp qbm qa4 qah qce p4 p3 qaq qar qgz qig) (funext fun qgz => funext fun qig => gdiv_l0_ok vc qz qx qh wt qf qy wr wb fuel K qde qbo qbk qbn qa3 qbf qbl qcf qbq qbp qbm qa4 qah qce p4 p3 qaq qar qpy qpx n' qgz qig))
theorem gdiv_L0 (vc qz : Mo) (qx qh : Mo) (wt qf : Mo) (qy wr wb : Mo) (fuel : Nat) : LX Pr (Gdiv vc qz qx qh wt qf qy wr wb) (Ldiv vc qz qx qh wt qf qy wr wb fuel) 6 115 1 fuel := by
  refine .of Tdiv_0 (Fdiv_0 vc qz qx qh wt qf qy wr wb fuel) (fun L h => ?_) (fun ps st K r he hr => ?_)
  · have e : (Ldiv vc qz qx qh wt qf qy wr wb fuel).get (writes (lp Pr 115 1).1) = some (lam Tdiv_0 (Fdiv_0 vc qz qx qh wt qf qy wr wb fuel)) := by kernel_rfl
    exact (Option.some.inj (e.symm.trans h)).symm
  · unfold Fdiv_0 at hr
    split at hr
    · obtain rfl := (Option.some.inj he).symm
      exact (gdiv_l0_ok vc qz qx qh wt qf qy wr wb fuel K _ _ _ _ _ _ _ _ _ _ _ _ _ _ _ _ _ _ _ _ fuel _ _).trans hr
    · cases hr
theorem gdiv_l1_eq (vc qz : Mo) (qx qh : Mo) (wt qf : Mo) (qy wr wb : Mo) (fuel : Nat) (kn : St → Option AV) (K : Ex → St → Option AV) (qdw : Int) (qbi qbw : Nat) (qap : Ge) (qai qbd qb8 : Nat) (qdg : Int) (qbx qb2 qbz : Nat) (qb1 qat : Int) (qaz qcp : Int) (qej qf8 : List AV) (qf7 : List (List AV)) (qps qpg qpo : Int) (qmu : List (List AV)) (qht qh6 qew : Int) (qel : List (List AV)) :
    bX Pr (Gdiv vc qz qx qh wt qf qy wr wb) (Ldiv vc qz qx qh wt qf qy wr wb fuel) 6 115 2 fuel (Sdiv_1 qdw qbi qbw qap qai qbd qb8 qdg qbx qb2 qbz qb1 qat qaz qcp qht qh6 qew qej qel qf8 qf7) (fun e s => match e with | .normal => kn (hX Pr 115 2 (Sdiv_1 qdw qbi qbw qap qai qbd qb8 qdg qbx qb2 qbz qb1 qat qaz qcp qps qpg qpo qej qmu qf8 qf7) s) | e => K e s) =
    gdiv_l1_step vc qz qx qh wt qf qy wr wb fuel (fun qht qh6 qew qel => kn (Sdiv_1 qdw qbi qbw qap qai qbd qb8 qdg qbx qb2 qbz qb1 qat qaz qcp qht qh6 qew qej qel qf8 qf7)) (fun qev qeq qem qeu qcm qct qcq qgv qcu qcs qco qes qcx qgt qgq qhm qky v0 vy qdf qci => K (Ex.exit 4) (Xdiv_1_0 qev qeq qem qeu qcm qct qcq qgv qcu qcs qco qes qcx qgt qgq qhm qky v0 vy qdf qci)) qdw qbi qbw qap qai qbd qb8 qdg qbx qb2 qbz qb1 qat qaz qcp qej qf8 qf7 qht qh6 qew qel := by kernel_rfl
theorem gdiv_l1_ok (vc qz : Mo) (qx qh : Mo) (wt qf : Mo) (qy wr wb : Mo) (fuel : Nat) (K : Ex → St → Option AV) (qdw : Int) (qbi qbw : Nat) (qap : Ge) (qai qbd qb8 : Nat) (qdg : Int) (qbx qb2 qbz : Nat) (qb1 qat : Int) (qaz qcp : Int) (qej qf8 : List AV) (qf7 : List (List AV)) (qps qpg qpo : Int) (qmu : List (List AV)) : ∀ (n' : Nat) (qht qh6 qew : Int) (qel : List (List AV)),
    loopK (bX Pr (Gdiv vc qz qx qh wt qf qy wr wb) (Ldiv vc qz qx qh wt qf qy wr wb fuel) 6 115 2 fuel) (hX Pr 115 2 (Sdiv_1 qdw qbi qbw qap qai qbd qb8 qdg qbx qb2 qbz qb1 qat qaz qcp qps qpg qpo qej qmu qf8 qf7)) n' (Sdiv_1 qdw qbi qbw qap qai qbd qb8 qdg qbx qb2 qbz qb1 qat qaz qcp qht qh6 qew qej qel qf8 qf7) K = gdiv_l1 vc qz qx qh wt qf qy wr wb fuel (fun qev qeq qem qeu qcm qct qcq qgv qcu qcs qco qes qcx qgt qgq qhm qky v0 vy qdf qci => K (Ex.exit 4) (Xdiv_1_0 qev qeq qem qeu qcm qct qcq qgv qcu qcs qco qes qcx qgt qgq qhm qky v0 vy qdf qci)) qdw qbi qbw qap qai qbd qb8 qdg qbx qb2 qbz qb1 qat qaz qcp qej qf8 qf7 n' qht qh6 qew qel
  | 0,_,_,_,_ => rfl
  | n' + 1,qht,qh6,qew,qel => (gdiv_l1_eq vc qz qx qh wt qf qy wr wb fuel (fun s => loopK (bX Pr (Gdiv vc qz qx qh wt qf qy wr wb) (Ldiv vc qz qx qh wt qf qy wr wb fuel) 6 115 2 fuel) (hX Pr 115 2 (Sdiv_1 qdw qbi qbw qap qai qbd qb8 qdg qbx qb2 qbz qb1 qat qaz qcp qps qpg qpo qej qmu qf8 qf7)) n' s K) K qdw qbi qbw qap qai qbd qb8 qdg qbx qb2 qbz qb1 qat qaz qcp qej qf8 qf7 qps qpg qpo qmu qht qh6 qew qel).trans
    (congrArg (fun kn => gdiv_l1_step vc qz qx qh wt qf qy wr wb fuel kn _ qdw qbi qbw qap qai qbd qb8 qdg qbx qb2 qbz qb1 qat qaz qcp qej qf8 qf7 qht qh6 qew qel) (funext fun qht => funext fun qh6 => funext fun qew => funext fun qel => gdiv_l1_ok vc qz qx qh wt qf qy wr wb fuel K qdw qbi qbw qap qai qbd qb8 qdg qbx qb2 qbz qb1 qat qaz qcp qej qf8 qf7 qps qpg qpo qmu n' qht qh6 qew qel))
theorem gdiv_L1 (vc qz : Mo) (qx qh : Mo) (wt qf : Mo) (qy wr wb : Mo) (fuel : Nat) : LX Pr (Gdiv vc qz qx qh wt qf qy wr wb) (Ldiv vc qz qx qh wt qf qy wr wb fuel) 6 115 2 fuel := by
  refine .of Tdiv_1 (Fdiv_1 vc qz qx qh wt qf qy wr wb fuel) (fun L h => ?_) (fun ps st K r he hr => ?_)
  · have e : (Ldiv vc qz qx qh wt qf qy wr wb fuel).get (writes (lp Pr 115 2).1) = some (lam Tdiv_1 (Fdiv_1 vc qz qx qh wt qf qy wr wb fuel)) := by kernel_rfl
    exact (Option.some.inj (e.symm.trans h)).symm
  · unfold Fdiv_1 at hr
    split at hr
    · obtain rfl := (Option.some.inj he).symm
      exact (gdiv_l1_ok vc qz qx qh wt qf qy wr wb fuel K _ _ _ _ _ _ _ _ _ _ _ _ _ _ _ _ _ _ _ _ _ _ fuel _ _ _ _).trans hr
    · cases hr
theorem gdiv_l2_eq (vc qz : Mo) (qx qh : Mo) (wt qf : Mo) (qy wr wb : Mo) (fuel : Nat) (kn : St → Option AV) (K : Ex → St → Option AV) (qdu : Int) (qbj qcc : Nat) (qax : Ge) (qak qbc qcd : Nat) (qdd : Int) (qb6 qca qby : Nat) (qb0 qau : Int) (qay qd2 : Int) (qei qf5 : List AV) (qgf : List (List AV)) (qk7 qp3 : Int) (qmd : List (List AV)) (qc4 qe0 : Int) (qek : List (List AV)) :
    bX Pr (Gdiv vc qz qx qh wt qf qy wr wb) (Ldiv vc qz qx qh wt qf qy wr wb fuel) 6 115 3 fuel (Sdiv_2 qdu qbj qcc qax qak qbc qcd qdd qb6 qca qby qb0 qau qay qd2 qc4 qe0 qei qek qf5 qgf) (fun e s => match e with | .normal => kn (hX Pr 115 3 (Sdiv_2 qdu qbj qcc qax qak qbc qcd qdd qb6 qca qby qb0 qau qay qd2 qk7 qp3 qei qmd qf5 qgf) s) | e => K e s) =
    gdiv_l2_step vc qz qx qh wt qf qy wr wb fuel (fun qc4 qe0 qek => kn (Sdiv_2 qdu qbj qcc qax qak qbc qcd qdd qb6 qca qby qb0 qau qay qd2 qc4 qe0 qei qek qf5 qgf)) (fun qev qeq qem qeu qcm qct qcq qgv qcu qcs qco qes qcx qgt qgq qhm v0 vy qdf qci => K (Ex.exit 6) (Xdiv_2_0 qev qeq qem qeu qcm qct qcq qgv qcu qcs qco qes qcx qgt qgq qhm v0 vy qdf qci)) qdu qbj qcc qax qak qbc qcd qdd qb6 qca qby qb0 qau qay qd2 qei qf5 qgf qc4 qe0 qek := by kernel_rfl
theorem gdiv_l2_ok (vc qz : Mo) (qx qh : Mo) (wt qf : Mo) (qy wr wb : Mo) (fuel : Nat) (K : Ex → St → Option AV) (qdu : Int) (qbj qcc : Nat) (qax : Ge) (qak qbc qcd : Nat) (qdd : Int) (qb6 qca qby : Nat) (qb0 qau : Int) (qay qd2 : Int) (qei qf5 : List AV) (qgf : List (List AV)) (qk7 qp3 : Int) (qmd : List (List AV)) : ∀ (n' : Nat) (qc4 qe0 : Int) (qek : List (List AV)),
    loopK (bX Pr (Gdiv vc qz qx qh wt qf qy wr wb) (Ldiv vc qz qx qh wt qf qy wr wb fuel) 6 115 3 fuel) (hX Pr 115 3 (Sdiv_2 qdu qbj qcc qax qak qbc qcd qdd qb6 qca qby qb0 qau qay qd2 qk7 qp3 qei qmd qf5 qgf)) n' (Sdiv_2 qdu qbj qcc qax qak qbc qcd qdd qb6 qca qby qb0 qau qay qd2 qc4 qe0 qei qek qf5 qgf) K = gdiv_l2 vc qz qx qh wt qf qy wr wb fuel (fun qev qeq qem qeu qcm qct qcq qgv qcu qcs qco qes qcx qgt qgq qhm v0 vy qdf qci => K (Ex.exit 6) (Xdiv_2_0 qev qeq qem qeu qcm qct qcq qgv qcu qcs qco qes qcx qgt qgq qhm v0 vy qdf qci)) qdu qbj qcc qax qak qbc qcd qdd qb6 qca qby qb0 qau qay qd2 qei qf5 qgf n' qc4 qe0 qek
  | 0,_,_,_ => rfl
  | n' + 1,qc4,qe0,qek => (gdiv_l2_eq vc qz qx qh wt qf qy wr wb fuel (fun s => loopK (bX Pr (Gdiv vc qz qx qh wt qf qy wr wb) (Ldiv vc qz qx qh wt qf qy wr wb fuel) 6 115 3 fuel) (hX Pr 115 3 (Sdiv_2 qdu qbj qcc qax qak qbc qcd qdd qb6 qca qby qb0 qau qay qd2 qk7 qp3 qei qmd qf5 qgf)) n' s K) K qdu qbj qcc qax qak qbc qcd qdd qb6 qca qby qb0 qau qay qd2 qei qf5 qgf qk7 qp3 qmd qc4 qe0 qek).trans
    (congrArg (fun kn => gdiv_l2_step vc qz qx qh wt qf qy wr wb fuel kn _ qdu qbj qcc qax qak qbc qcd qdd qb6 qca qby qb0 qau qay qd2 qei qf5 qgf qc4 qe0 qek) (funext fun qc4 => funext fun qe0 => funext fun qek => gdiv_l2_ok vc qz qx qh wt qf qy wr wb fuel K qdu qbj qcc qax qak qbc qcd qdd qb6 qca qby qb0 qau qay qd2 qei qf5 qgf qk7 qp3 qmd n' qc4 qe0 qek))
theorem gdiv_L2 (vc qz : Mo) (qx qh : Mo) (wt qf : Mo) (qy wr wb : Mo) (fuel : Nat) : LX Pr (Gdiv vc qz qx qh wt qf qy wr wb) (Ldiv vc qz qx qh wt qf qy wr wb fuel) 6 115 3 fuel := by
  refine .of Tdiv_2 (Fdiv_2 vc qz qx qh wt qf qy wr wb fuel) (fun L h => ?_) (fun ps st K r he hr => ?_)
  · have e : (Ldiv vc qz qx qh wt qf qy wr wb fuel).get (writes (lp Pr 115 3).1) = some (lam Tdiv_2 (Fdiv_2 vc qz qx qh wt qf qy wr wb fuel)) := by kernel_rfl
    exact (Option.some.inj (e.symm.trans h)).symm
  · unfold Fdiv_2 at hr
    split at hr
    · obtain rfl := (Option.some.inj he).symm
      exact (gdiv_l2_ok vc qz qx qh wt qf qy wr wb fuel K _ _ _ _ _ _ _ _ _ _ _ _ _ _ _ _ _ _ _ _ _ fuel _ _ _).trans hr
    · cases hr
theorem gdiv_l3_eq (vc qz : Mo) (qx qh : Mo) (wt qf : Mo) (qy wr wb : Mo) (fuel : Nat) (kn : St → Option AV) (K : Ex → St → Option AV) (qpd : Int) (qmo qmp : Nat) (qmr : Ge) (ql2 qmg qme : Nat) (qpm : Int) (qms qmn qmv : Nat) (qmy qk6 qpu : Int) (ql1 : List AV) (pj : List (List AV)) (qmq : List AV) (qjn : List (List AV)) (qiv : Int) (qgn qgl : Nat) (qgm : Ge) (qef qe9 qf4 : Nat) (qgo : Int) (qf9 qgc qf2 : Nat) (qe4 qee qgg : Int) (h0z : List AV) (h0e : List (List AV)) (h1z : List AV) (h1e : List (List AV)) :
    bX Pr (Gdiv vc qz qx qh wt qf qy wr wb) (Ldiv vc qz qx qh wt qf qy wr wb fuel) 6 115 0 fuel (Sdiv_3 qiv qgn qgl qgm qef qe9 qf4 qgo qf9 qgc qf2 qe4 qee qgg h0z h0e h1z h1e) (fun e s => match e with | .normal => kn (hX Pr 115 0 (Sdiv_3 qpd qmo qmp qmr ql2 qmg qme qpm qms qmn qmv qmy qk6 qpu ql1 pj qmq qjn) s) | e => K e s) =
    gdiv_l3_step vc qz qx qh wt qf qy wr wb fuel (fun qiv qgn qgl qgm qef qe9 qf4 qgo qf9 qgc qf2 qe4 qee qgg h0z h0e h1z h1e => kn (Sdiv_3 qiv qgn qgl qgm qef qe9 qf4 qgo qf9 qgc qf2 qe4 qee qgg h0z h0e h1z h1e)) (fun qev qcm qct qcq qcu qcs qco v0 vy qdf qci => K (Ex.exit 0) (Xdiv_3_0 qev qcm qct qcq qcu qcs qco v0 vy qdf qci)) qiv qgn qgl qgm qef qe9 qf4 qgo qf9 qgc qf2 qe4 qee qgg h0z h0e h1z h1e := by kernel_rfl
theorem gdiv_l3_ok (vc qz : Mo) (qx qh : Mo) (wt qf : Mo) (qy wr wb : Mo) (fuel : Nat) (K : Ex → St → Option AV) (qpd : Int) (qmo qmp : Nat) (qmr : Ge) (ql2 qmg qme : Nat) (qpm : Int) (qms qmn qmv : Nat) (qmy qk6 qpu : Int) (ql1 : List AV) (pj : List (List AV)) (qmq : List AV) (qjn : List (List AV)) : ∀ (n' : Nat) (qiv : Int) (qgn qgl : Nat) (qgm : Ge) (qef qe9 qf4 : Nat) (qgo : Int) (qf9 qgc qf2 : Nat) (qe4 qee qgg : Int) (h0z : List AV) (h0e : List (List AV)) (h1z : List AV) (h1e : List (List AV)),
    loopK (bX Pr (Gdiv vc qz qx qh wt qf qy wr wb) (Ldiv vc qz qx qh wt qf qy wr wb fuel) 6 115 0 fuel) (hX Pr 115 0 (Sdiv_3 qpd qmo qmp qmr ql2 qmg qme qpm qms qmn qmv qmy qk6 qpu ql1 pj qmq qjn)) n' (Sdiv_3 qiv qgn qgl qgm qef qe9 qf4 qgo qf9 qgc qf2 qe4 qee qgg h0z h0e h1z h1e) K = gdiv_l3 vc qz qx qh wt qf qy wr wb fuel (fun qev qcm qct qcq qcu qcs qco v0 vy qdf qci => K (Ex.exit 0) (Xdiv_3_0 qev qcm qct qcq qcu qcs qco v0 vy qdf qci)) n' qiv qgn qgl qgm qef qe9 qf4 qgo qf9 qgc qf2 qe4 qee qgg h0z h0e h1z h1e
  | 0,_,_,_,_,_,_,_,_,_,_,_,_,_,_,_,_,_,_ => rfl
  | n' + 1,qiv,qgn,qgl,qgm,qef,qe9,qf4,qgo,qf9,qgc,qf2,qe4,qee,qgg,h0z,h0e,h1z,h1e => (gdiv_l3_eq vc qz qx qh wt qf qy wr wb fuel (fun s => loopK (bX Pr (Gdiv vc qz qx qh wt qf qy wr wb) (Ldiv vc qz qx qh wt qf qy wr wb fuel) 6 115 0 fuel) (hX Pr 115 0 (Sdiv_3 qpd qmo qmp qmr ql2 qmg qme qpm qms qmn qmv qmy qk6 qpu ql1 pj qmq qjn)) n' s K) K qpd qmo qmp qmr ql2 qmg qme qpm qms qmn qmv qmy qk6 qpu ql1 pj qmq qjn qiv qgn qgl qgm qef qe9 qf4 qgo qf9 qgc qf2 qe4 qee qgg h0z h0e h1z h1e).trans
    (congrArg (fun kn => gdiv_l3_step vc qz qx qh wt qf qy wr wb fuel kn _ qiv qgn qgl qgm qef qe9 qf4 qgo qf9 qgc qf2 qe4 qee qgg h0z h0e h1z h1e) (funext fun qiv => funext fun qgn => funext fun qgl => funext fun qgm => funext fun qef => funext fun qe9 => funext fun qf4 => funext fun qgo => funext fun qf9 => funext fun qgc => funext fun qf2 => funext fun qe4 => funext fun qee => funext fun qgg => funext fun h0z => funext fun h0e => funext fun h1z => funext fun h1e => gdiv_l3_ok vc qz qx qh wt qf qy wr wb fuel K qpd qmo qmp qmr ql2 qmg qme qpm qms qmn qmv qmy qk6 qpu ql1 pj qmq qjn n' qiv qgn qgl qgm qef qe9 qf4 qgo qf9 qgc qf2 qe4 qee qgg h0z h0e h1z h1e))
termination_by structural k => k
theorem gdiv_L3 (vc qz : Mo) (qx qh : Mo) (wt qf : Mo) (qy wr wb : Mo) (fuel : Nat) : LX Pr (Gdiv vc qz qx qh wt qf qy wr wb) (Ldiv vc qz qx qh wt qf qy wr wb fuel) 6 115 0 fuel := by
  refine .of Tdiv_3 (Fdiv_3 vc qz qx qh wt qf qy wr wb fuel) (fun L h => ?_) (fun ps st K r he hr => ?_)
  · have e : (Ldiv vc qz qx qh wt qf qy wr wb fuel).get (writes (lp Pr 115 0).1) = some (lam Tdiv_3 (Fdiv_3 vc qz qx qh wt qf qy wr wb fuel)) := by kernel_rfl
    exact (Option.some.inj (e.symm.trans h)).symm
  · unfold Fdiv_3 at hr
    split at hr
    · obtain rfl := (Option.some.inj he).symm
      exact (gdiv_l3_ok vc qz qx qh wt qf qy wr wb fuel K _ _ _ _ _ _ _ _ _ _ _ _ _ _ _ _ _ _ fuel _ _ _ _ _ _ _ _ _ _ _ _ _ _ _ _ _ _).trans hr
    · cases hr
noncomputable def gdiv (vc qz : Mo) (qx qh : Mo) (wt qf : Mo) (qy wr wb : Mo) (fuel zh v3 : Nat) (vs : Ge) (yl p1 : Nat) (pv : Ge) : Option AV :=
  bif (↑yl : Int) == 0 then some (AV.tup [AV.ro 1 0 0 fun (x j : Nat) => [AV.int .u32 0].getD j AV.dead,AV.ro 1 0 0 fun (x j : Nat) => [AV.int .u32 0].getD j AV.dead])
  else ck (okM [RS.one (LK.i .i64)] (vc [AV.ro 1 zh v3 vs,AV.ro 1 yl p1 pv])) <| bif decide (toI (getV (vc [AV.ro 1 zh v3 vs,AV.ro 1 yl p1 pv])) < 0) then let r0 : Option AV := qz [AV.ro 1 zh v3 vs]; ck (okM [RS.one (LK.l 1)] r0) <| some (AV.tup [AV.ro 1 0 0 fun (x j : Nat) => [AV.int .u32 0].getD j AV.dead,AV.ro 1 (toN (getV r0)) (toR (getV r0)) (toG (getV r0))])
  else bif decide ((↑zh : Int) ≤ 2) then ck (okM [RS.one (LK.i .u64)] (qx [AV.ro 1 zh v3 vs])) <| ck (okM [RS.one (LK.i .u64)] (qx [AV.ro 1 yl p1 pv])) <| ck (!decide (toI (getV (qx [AV.ro 1 yl p1 pv])) = 0)) <| let r1 : Option AV := qh [AV.int .u64 (IntKind.u64.wrap ((toI (getV (qx [AV.ro 1 zh v3 vs]))).tdiv (toI (getV (qx [AV.ro 1 yl p1 pv])))))]; ck (okM [RS.one (LK.l 1)] r1) <| ck (!decide (toI (getV (qx [AV.ro 1 yl p1 pv])) = 0)) <| let r2 : Option AV := qh [AV.int .u64 ((toI (getV (qx [AV.ro 1 zh v3 vs]))).tmod (toI (getV (qx [AV.ro 1 yl p1 pv]))))]; ck (okM [RS.one (LK.l 1)] r2) <| some (AV.tup [AV.ro 1 (toN (getV r1)) (toR (getV r1)) (toG (getV r1)),AV.ro 1 (toN (getV r2)) (toR (getV r2)) (toG (getV r2))])
  else bif (↑yl : Int) == 1 then ck (decide (0 < (↑yl : Int))) <| ck (fitK (LK.i .u32) (pv 0 0)) <| let r3 : Option AV := wt [AV.ro 1 zh v3 vs,AV.int .u32 (toI (pv 0 0))]; ck (okM [RS.one (LK.l 1),RS.one (LK.i .u32)] r3) <| let r4 : Option AV := qf [AV.ro 1 1 1 fun (i j : Nat) => ([[AV.int .u32 (toI ((toT (getV r3)).tail.headD .dead))]].getD i []).getD j AV.dead]; ck (okM [RS.one (LK.l 1)] r4) <| some (AV.tup [AV.ro 1 (toN ((toT (getV r3)).headD .dead)) (toR ((toT (getV r3)).headD .dead)) (toG ((toT (getV r3)).headD .dead)),AV.ro 1 (toN (getV r4)) (toR (getV r4)) (toG (getV r4))])
  else ck (okM [RS.one (LK.i .i64)] (qy [AV.ro 1 yl p1 pv])) <| let r5 : Option AV := wr [AV.ro 1 yl p1 pv,AV.int .u64 (IntKind.u64.wrap (IntKind.i64.wrap (IntKind.i64.wrap (32 - (IntKind.i64.wrap (toI (getV (qy [AV.ro 1 yl p1 pv])) - 1)).tmod 32) - 1)))]; ck (okM [RS.one (LK.l 1)] r5) <| ck (decide (0 ≤ IntKind.i64.wrap ((↑zh : Int) + 2))) <| ck (decide (IntKind.i64.wrap ((↑zh : Int) + 2) ≤ IntKind.i64.wrap ((↑zh : Int) + 2))) <| ck ((4 * (IntKind.i64.wrap ((↑zh : Int) + 2)).toNat).ble 281474976710656) <| ck (((IntKind.i64.wrap ((↑zh : Int) + 2)).toNat + 1).ble 4611686018427387904) <| let r6 : Option AV := wr [AV.ro 1 zh v3 vs,AV.int .u64 (IntKind.u64.wrap (IntKind.i64.wrap (IntKind.i64.wrap (32 - (IntKind.i64.wrap (toI (getV (qy [AV.ro 1 yl p1 pv])) - 1)).tmod 32) - 1)))]; ck (okM [RS.one (LK.l 1)] r6) <| ck (decide (0 ≤ IntKind.i64.wrap (IntKind.i64.wrap (IntKind.i64.wrap ((↑(IntKind.i64.wrap ((↑zh : Int) + 2)).toNat : Int) - (↑(toN (getV r5)) : Int)) - 1) + 1))) <| ck (decide (IntKind.i64.wrap (IntKind.i64.wrap (IntKind.i64.wrap ((↑(IntKind.i64.wrap ((↑zh : Int) + 2)).toNat : Int) - (↑(toN (getV r5)) : Int)) - 1) + 1) ≤ IntKind.i64.wrap (IntKind.i64.wrap (IntKind.i64.wrap ((↑(IntKind.i64.wrap ((↑zh : Int) + 2)).toNat : Int) - (↑(toN (getV r5)) : Int)) - 1) + 1))) <| ck ((4 * (IntKind.i64.wrap (IntKind.i64.wrap (IntKind.i64.wrap ((↑(IntKind.i64.wrap ((↑zh : Int) + 2)).toNat : Int) - (↑(toN (getV r5)) : Int)) - 1) + 1)).toNat).ble 281474976710656) <| ck (((IntKind.i64.wrap (IntKind.i64.wrap (IntKind.i64.wrap ((↑(IntKind.i64.wrap ((↑zh : Int) + 2)).toNat : Int) - (↑(toN (getV r5)) : Int)) - 1) + 1)).toNat + 1).ble 4611686018427387904) <| ck (decide (0 ≤ IntKind.i64.wrap ((↑(toN (getV r5)) : Int) - 1))) <| ck (decide (IntKind.i64.wrap ((↑(toN (getV r5)) : Int) - 1) < (↑(toN (getV r5)) : Int))) <| ck (fitK (LK.i .u32) (toG (getV r5) (IntKind.i64.wrap ((↑(toN (getV r5)) : Int) - 1)).toNat 0)) <| ck (decide (0 ≤ IntKind.i64.wrap ((↑(toN (getV r5)) : Int) - 2))) <| ck (decide (IntKind.i64.wrap ((↑(toN (getV r5)) : Int) - 2) < (↑(toN (getV r5)) : Int))) <| ck (fitK (LK.i .u32) (toG (getV r5) (IntKind.i64.wrap ((↑(toN (getV r5)) : Int) - 2)).toNat 0)) <| gdiv_l3 vc qz qx qh wt qf qy wr wb fuel
    (fun (quj : Int) (qt7 qui : Nat) (qub qt6 : Nat) (qt8 qud : Nat) (qox : List AV) (qm8 : List (List AV)) (qou : List AV) (qn7 : List (List AV)) => let r7 : Option AV := qf [AV.ro 1 qt8 qud fun (i j : Nat) => (qn7.getD (qt6 + i) qou).getD j AV.dead]; ck (okM [RS.one (LK.l 1)] r7) <| let r8 : Option AV := qf [AV.ro 1 qui qub fun (i j : Nat) => (qm8.getD (qt7 + i) qox).getD j AV.dead]; ck (okM [RS.one (LK.l 1)] r8) <| let r9 : Option AV := wb [AV.ro 1 (toN (getV r8)) (toR (getV r8)) (toG (getV r8)),AV.int .u64 quj]; ck (okM [RS.one (LK.l 1)] r9) <| some (AV.tup [AV.ro 1 (toN (getV r7)) (toR (getV r7)) (toG (getV r7)),AV.ro 1 (toN (getV r9)) (toR (getV r9)) (toG (getV r9))])) fuel (IntKind.u64.wrap (IntKind.i64.wrap (IntKind.i64.wrap (32 - (IntKind.i64.wrap (toI (getV (qy [AV.ro 1 yl p1 pv])) - 1)).tmod 32) - 1))) (toN (getV r5)) (toR (getV r5)) (toG (getV r5)) (0) ((IntKind.i64.wrap ((↑zh : Int) + 2)).toNat) ((IntKind.i64.wrap ((↑zh : Int) + 2)).toNat) ((↑(toN (getV r5)) : Int)) (0) ((IntKind.i64.wrap (IntKind.i64.wrap (IntKind.i64.wrap ((↑(IntKind.i64.wrap ((↑zh : Int) + 2)).toNat : Int) - (↑(toN (getV r5)) : Int)) - 1) + 1)).toNat) ((IntKind.i64.wrap (IntKind.i64.wrap (IntKind.i64.wrap ((↑(IntKind.i64.wrap ((↑zh : Int) + 2)).toNat : Int) - (↑(toN (getV r5)) : Int)) - 1) + 1)).toNat) (IntKind.u64.wrap (toI (toG (getV r5) (IntKind.i64.wrap ((↑(toN (getV r5)) : Int) - 1)).toNat 0))) (IntKind.u64.wrap (toI (toG (getV r5) (IntKind.i64.wrap ((↑(toN (getV r5)) : Int) - 2)).toNat 0))) (IntKind.i64.wrap (IntKind.i64.wrap ((↑(IntKind.i64.wrap ((↑zh : Int) + 2)).toNat : Int) - (↑(toN (getV r5)) : Int)) - 1)) ([AV.int .u32 0]) ([] ++ rows 1 ((toN (getV r6)).min (IntKind.i64.wrap ((↑zh : Int) + 2)).toNat) (toG (getV r6)) ++ List.drop (0 + (toN (getV r6)).min (IntKind.i64.wrap ((↑zh : Int) + 2)).toNat) (List.replicate (IntKind.i64.wrap ((↑zh : Int) + 2)).toNat [AV.int .u32 0])) ([AV.int .u32 0]) (List.replicate (IntKind.i64.wrap (IntKind.i64.wrap (IntKind.i64.wrap ((↑(IntKind.i64.wrap ((↑zh : Int) + 2)).toNat : Int) - (↑(toN (getV r5)) : Int)) - 1) + 1)).toNat [AV.int .u32 0])
noncomputable def mdiv (vc qz : Mo) (qx qh : Mo) (wt qf : Mo) (qy wr wb : Mo) (fuel : Nat) (xs : List AV) : Option AV := match xs with
  | [AV.ro 1 zh v3 vs,AV.ro 1 yl p1 pv] => gdiv vc qz qx qh wt qf qy wr wb fuel zh v3 vs yl p1 pv
  | _ => none
abbrev Rdiv : List RS := [RS.one (LK.l (nat_lit 1)),RS.one (LK.l (nat_lit 1))]
theorem gdiv_sm (vc qz : Mo) (qx qh : Mo) (wt qf : Mo) (qy wr wb : Mo) (fuel : Nat) (hΓ : GamOk Pr (Gdiv vc qz qx qh wt qf qy wr wb)) (hP : NamesOk Pr) : SmOk Pr 115 (smM Rdiv (mdiv vc qz qx qh wt qf qy wr wb fuel)) := smL (L := (Ldiv vc qz qx qh wt qf qy wr wb fuel)) (n := 4) hΓ hP (by kernel_rfl) (fun i hi => match i,hi with
  | 1,_ => gdiv_L0 vc qz qx qh wt qf qy wr wb fuel
  | 2,_ => gdiv_L1 vc qz qx qh wt qf qy wr wb fuel
  | 3,_ => gdiv_L2 vc qz qx qh wt qf qy wr wb fuel
  | 0,_ => gdiv_L3 vc qz qx qh wt qf qy wr wb fuel
  | i + 4,hi => absurd hi (by omega)) fun xs v h => by
  unfold mdiv at h
  split at h
  · exact Eq.trans (by kernel_rfl) h
  · cases h
end Go.Proofs.Tryz
end
