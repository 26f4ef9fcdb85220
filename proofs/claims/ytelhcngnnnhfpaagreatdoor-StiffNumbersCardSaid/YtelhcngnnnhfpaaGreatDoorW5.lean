/- Part 5 of the proof: models of the functions, and laws on them. -/
import Derived.Test.YtelhcngnnnhfpaaGreatDoorW4
set_option linter.unusedVariables false
set_option linter.unusedSimpArgs false
set_option linter.unusedSectionVars false
section
namespace Go.Proofs.Tryz
open Go Go.Am
set_option linter.unusedVariables false
set_option maxRecDepth 1000000
noncomputable def Sref02_NatTrim_0 (y1 y5 : Nat) (yq : Ge) (un3 : Int) : St := { env := [(0,AV.ro 1 y1 y5 yq),(3,AV.int .i64 un3)],h := [],kd := [] }
noncomputable def Xref02_NatTrim_0_0 (qpi qqa : Nat) (qqw : Ge) (qd9 : Int) : St := { env := [(0,AV.ro 1 qpi qqa qqw),(3,AV.int .i64 qd9)],h := [],kd := [] }
noncomputable def gref02_NatTrim_l0_step (fuel : Nat) (kn : Int → Option AV) (kx0 : Nat → Nat → Ge → Int → Option AV) (y1 y5 : Nat) (yq : Ge) (un3 : Int) : Option AV :=
  ck (bif decide (un3 > 0) then decide (0 ≤ IntKind.i64.wrap (un3 - 1)) else true) <| ck (bif decide (un3 > 0) then decide (IntKind.i64.wrap (un3 - 1) < (↑y1 : Int)) else true) <| ck (bif decide (un3 > 0) then true else true) <| ck (bif decide (un3 > 0) then fitK (LK.i .u64) (yq (IntKind.i64.wrap (un3 - 1)).toNat 0) else true) <| bif bif decide (un3 > 0) then toI (yq (IntKind.i64.wrap (un3 - 1)).toNat 0) == 0 else false then kn (IntKind.i64.wrap (un3 - 1))
  else kx0 y1 y5 yq un3
noncomputable def gref02_NatTrim_l0 (fuel : Nat) (kx0 : Nat → Nat → Ge → Int → Option AV) (y1 y5 : Nat) (yq : Ge) : Nat → Int → Option AV
  | 0,_ => none
  | n' + 1,un3 => gref02_NatTrim_l0_step fuel (gref02_NatTrim_l0 fuel kx0 y1 y5 yq n') kx0 y1 y5 yq un3
noncomputable def Tref02_NatTrim_0 : TS' := ⟨[(0,TA.ro 1),(3,TA.i .i64)],[],[]⟩
noncomputable def Fref02_NatTrim_0 (fuel : Nat) (ps : List Pay) (K : Ex → St → Option AV) : Option AV := match ps with
  | .n y1 :: .n y5 :: .g yq :: .i un3 :: [] => gref02_NatTrim_l0 fuel (fun qpi qqa qqw qd9 => K (Ex.exit 0) (Xref02_NatTrim_0_0 qpi qqa qqw qd9)) y1 y5 yq fuel un3
  | _ => none
noncomputable def Lref02_NatTrim (fuel : Nat) : Lam AV := [(524168,lam Tref02_NatTrim_0 (Fref02_NatTrim_0 fuel))]
noncomputable def Gref02_NatTrim : Gam := []
theorem gref02_NatTrim_l0_eq (fuel : Nat) (kn : St → Option AV) (K : Ex → St → Option AV) (y1 y5 : Nat) (yq : Ge) (qfb un3 : Int) :
    bX Pr Gref02_NatTrim (Lref02_NatTrim fuel) 6 200 0 fuel (Sref02_NatTrim_0 y1 y5 yq un3) (fun e s => match e with | .normal => kn (hX Pr 200 0 (Sref02_NatTrim_0 y1 y5 yq qfb) s) | e => K e s) =
    gref02_NatTrim_l0_step fuel (fun un3 => kn (Sref02_NatTrim_0 y1 y5 yq un3)) (fun xul0n qmm qkf qco => K (Ex.exit 0) (Xref02_NatTrim_0_0 xul0n qmm qkf qco)) y1 y5 yq un3 := by kernel_rfl
theorem gref02_NatTrim_l0_ok (fuel : Nat) (K : Ex → St → Option AV) (y1 y5 : Nat) (yq : Ge) (qfb : Int) : ∀ (n' : Nat) (un3 : Int),
    loopK (bX Pr Gref02_NatTrim (Lref02_NatTrim fuel) 6 200 0 fuel) (hX Pr 200 0 (Sref02_NatTrim_0 y1 y5 yq qfb)) n' (Sref02_NatTrim_0 y1 y5 yq un3) K = gref02_NatTrim_l0 fuel (fun xul0n qmm qkf qco => K (Ex.exit 0) (Xref02_NatTrim_0_0 xul0n qmm qkf qco)) y1 y5 yq n' un3
  | 0,_ => rfl
  | n' + 1,un3 => (gref02_NatTrim_l0_eq fuel (fun s => loopK (bX Pr Gref02_NatTrim (Lref02_NatTrim fuel) 6 200 0 fuel) (hX Pr 200 0 (Sref02_NatTrim_0 y1 y5 yq qfb)) n' s K) K y1 y5 yq qfb un3).trans
    (congrArg (fun kn => gref02_NatTrim_l0_step fuel kn _ y1 y5 yq un3) (funext fun un3 => gref02_NatTrim_l0_ok fuel K y1 y5 yq qfb n' un3))
theorem gref02_NatTrim_L0 (fuel : Nat) : LX Pr Gref02_NatTrim (Lref02_NatTrim fuel) 6 200 0 fuel := by
  refine .of Tref02_NatTrim_0 (Fref02_NatTrim_0 fuel) (fun L h => ?_) (fun ps st K r he hr => ?_)
  · have e : (Lref02_NatTrim fuel).get (writes (lp Pr 200 0).1) = some (lam Tref02_NatTrim_0 (Fref02_NatTrim_0 fuel)) := by kernel_rfl
    exact (Option.some.inj (e.symm.trans h)).symm
  · unfold Fref02_NatTrim_0 at hr
    split at hr
    · obtain rfl := (Option.some.inj he).symm
      exact (gref02_NatTrim_l0_ok fuel K _ _ _ _ fuel _).trans hr
    · cases hr
noncomputable def gref02_NatTrim (fuel po qbh : Nat) (qat : Ge) : Option AV :=
  gref02_NatTrim_l0 fuel
    (fun (_ qmm : Nat) (qkf : Ge) (qco : Int) => ck (decide (0 ≤ qco)) <| ck (decide (qco ≤ (↑qmm : Int))) <| ck (decide ((qco.toNat - 0) * 8 < 70368744177664)) <| ck (decide (qco.toNat - 0 < 4611686018427387904)) <| some (AV.ro 1 (rows 1 (qco.toNat - 0) fun (i : Nat) => qkf (0 + i)).length (rows 1 (qco.toNat - 0) fun (i : Nat) => qkf (0 + i)).length fun (i j : Nat) => ((rows 1 (qco.toNat - 0) fun (i : Nat) => qkf (0 + i)).getD i [AV.int .u64 0]).getD j AV.dead))
    po
    qbh
    qat fuel ((↑po : Int))
noncomputable def mref02_NatTrim (fuel : Nat) (xs : List AV) : Option AV := match xs with
  | [AV.ro 1 po qbh qat] => gref02_NatTrim fuel po qbh qat
  | _ => none
abbrev Rref02_NatTrim : List RS := [RS.one (LK.l (nat_lit 1))]
theorem gref02_NatTrim_sm (fuel : Nat) (hΓ : GamOk Pr Gref02_NatTrim) (hP : NamesOk Pr) : SmOk Pr 200 (smM Rref02_NatTrim (mref02_NatTrim fuel)) := smL (L := (Lref02_NatTrim fuel)) (n := 1) hΓ hP (by kernel_rfl) (fun i hi => match i,hi with
  | 0,_ => gref02_NatTrim_L0 fuel
  | i + 1,hi => absurd hi (by omega)) fun xs v h => by
  unfold mref02_NatTrim at h
  split at h
  · exact Eq.trans (by kernel_rfl) h
  · cases h
noncomputable def Gref02_NatOf (qg : Mo) : Gam := [(200,smM [RS.one (LK.l (nat_lit 1))] qg)]
noncomputable def gref02_NatOf (qg : Mo) (fuel : Nat) (ux0 : Int) : Option AV :=
  let r0 : Option AV := qg [AV.ro 1 1 1 fun (i j : Nat) => ([[AV.int .u64 ux0]].getD i []).getD j AV.dead]; ck (okM [RS.one (LK.l 1)] r0) <| some (AV.ro 1 (toN (getV r0)) (toR (getV r0)) (toG (getV r0)))
noncomputable def mref02_NatOf (qg : Mo) (fuel : Nat) (xs : List AV) : Option AV := match xs with
  | [AV.int .u64 ux0] => gref02_NatOf qg fuel ux0
  | _ => none
abbrev Rref02_NatOf : List RS := [RS.one (LK.l (nat_lit 1))]
theorem gref02_NatOf_sm (qg : Mo) (fuel : Nat) (hΓ : GamOk Pr (Gref02_NatOf qg)) (hP : NamesOk Pr) : SmOk Pr 147 (smM Rref02_NatOf (mref02_NatOf qg fuel)) := sm0 (fuel := fuel) (d := 7) hΓ hP fun xs v h => by
  unfold mref02_NatOf at h
  split at h
  · exact Eq.trans (by kernel_rfl) h
  · cases h
noncomputable def Gref02_Whole (ye : Mo) : Gam := [(147,smM [RS.one (LK.l (nat_lit 1))] ye)]
noncomputable def gref02_Whole (ye : Mo) (fuel : Nat) (un0 : Int) : Option AV :=
  bif decide (un0 < 0) then let r0 : Option AV := ye [AV.int .u64 (IntKind.u64.wrap (0 - IntKind.u64.wrap un0))]; ck (okM [RS.one (LK.l 1)] r0) <| some (AV.agg [AV.bool (decide (un0 < 0)),AV.ro 1 (toN (getV r0)) (toR (getV r0)) (toG (getV r0)),AV.int .i64 0])
  else let r1 : Option AV := ye [AV.int .u64 (IntKind.u64.wrap un0)]; ck (okM [RS.one (LK.l 1)] r1) <| some (AV.agg [AV.bool (decide (un0 < 0)),AV.ro 1 (toN (getV r1)) (toR (getV r1)) (toG (getV r1)),AV.int .i64 0])
noncomputable def mref02_Whole (ye : Mo) (fuel : Nat) (xs : List AV) : Option AV := match xs with
  | [AV.int .i64 un0] => gref02_Whole ye fuel un0
  | _ => none
abbrev Rref02_Whole : List RS := [RS.agg [LK.b,LK.l (nat_lit 1),LK.i .i64]]
theorem gref02_Whole_sm (ye : Mo) (fuel : Nat) (hΓ : GamOk Pr (Gref02_Whole ye)) (hP : NamesOk Pr) : SmOk Pr 90 (smM Rref02_Whole (mref02_Whole ye fuel)) := sm0 (fuel := fuel) (d := 7) hΓ hP fun xs v h => by
  unfold mref02_Whole at h
  split at h
  · exact Eq.trans (by kernel_rfl) h
  · cases h
noncomputable def Sref02_low_0 (yo y6 : Nat) (yl : Ge) (un3 : Int) : St := { env := [(0,AV.ro 1 yo y6 yl),(3,AV.int .i64 un3)],h := [],kd := [] }
noncomputable def Xref02_low_0_0 (qpb qpv : Nat) (qpu : Ge) (qd9 : Int) : St := { env := [(0,AV.ro 1 qpb qpv qpu),(3,AV.int .i64 qd9)],h := [],kd := [] }
noncomputable def gref02_low_l0_step (fuel : Nat) (kn : Int → Option AV) (kx0 : Nat → Nat → Ge → Int → Option AV) (yo y6 : Nat) (yl : Ge) (un3 : Int) : Option AV :=
  ck (bif decide (un3 > 0) then decide (0 ≤ IntKind.i64.wrap (un3 - 1)) else true) <| ck (bif decide (un3 > 0) then decide (IntKind.i64.wrap (un3 - 1) < (↑yo : Int)) else true) <| ck (bif decide (un3 > 0) then true else true) <| ck (bif decide (un3 > 0) then fitK (LK.i .u64) (yl (IntKind.i64.wrap (un3 - 1)).toNat 0) else true) <| bif bif decide (un3 > 0) then toI (yl (IntKind.i64.wrap (un3 - 1)).toNat 0) == 0 else false then kn (IntKind.i64.wrap (un3 - 1))
  else kx0 yo y6 yl un3
noncomputable def gref02_low_l0 (fuel : Nat) (kx0 : Nat → Nat → Ge → Int → Option AV) (yo y6 : Nat) (yl : Ge) : Nat → Int → Option AV
  | 0,_ => none
  | n' + 1,un3 => gref02_low_l0_step fuel (gref02_low_l0 fuel kx0 yo y6 yl n') kx0 yo y6 yl un3
noncomputable def Tref02_low_0 : TS' := ⟨[(0,TA.ro 1),(3,TA.i .i64)],[],[]⟩
noncomputable def Fref02_low_0 (fuel : Nat) (ps : List Pay) (K : Ex → St → Option AV) : Option AV := match ps with
  | .n yo :: .n y6 :: .g yl :: .i un3 :: [] => gref02_low_l0 fuel (fun qpb qpv qpu qd9 => K (Ex.exit 0) (Xref02_low_0_0 qpb qpv qpu qd9)) yo y6 yl fuel un3
  | _ => none
noncomputable def Lref02_low (fuel : Nat) : Lam AV := [(262088,lam Tref02_low_0 (Fref02_low_0 fuel))]
noncomputable def Gref02_low : Gam := []
theorem gref02_low_l0_eq (fuel : Nat) (kn : St → Option AV) (K : Ex → St → Option AV) (yo y6 : Nat) (yl : Ge) (qfb un3 : Int) :
    bX Pr Gref02_low (Lref02_low fuel) 6 251 0 fuel (Sref02_low_0 yo y6 yl un3) (fun e s => match e with | .normal => kn (hX Pr 251 0 (Sref02_low_0 yo y6 yl qfb) s) | e => K e s) =
    gref02_low_l0_step fuel (fun un3 => kn (Sref02_low_0 yo y6 yl un3)) (fun xud0n ql2 qnk qco => K (Ex.exit 0) (Xref02_low_0_0 xud0n ql2 qnk qco)) yo y6 yl un3 := by kernel_rfl
theorem gref02_low_l0_ok (fuel : Nat) (K : Ex → St → Option AV) (yo y6 : Nat) (yl : Ge) (qfb : Int) : ∀ (n' : Nat) (un3 : Int),
    loopK (bX Pr Gref02_low (Lref02_low fuel) 6 251 0 fuel) (hX Pr 251 0 (Sref02_low_0 yo y6 yl qfb)) n' (Sref02_low_0 yo y6 yl un3) K = gref02_low_l0 fuel (fun xud0n ql2 qnk qco => K (Ex.exit 0) (Xref02_low_0_0 xud0n ql2 qnk qco)) yo y6 yl n' un3
  | 0,_ => rfl
  | n' + 1,un3 => (gref02_low_l0_eq fuel (fun s => loopK (bX Pr Gref02_low (Lref02_low fuel) 6 251 0 fuel) (hX Pr 251 0 (Sref02_low_0 yo y6 yl qfb)) n' s K) K yo y6 yl qfb un3).trans
    (congrArg (fun kn => gref02_low_l0_step fuel kn _ yo y6 yl un3) (funext fun un3 => gref02_low_l0_ok fuel K yo y6 yl qfb n' un3))
theorem gref02_low_L0 (fuel : Nat) : LX Pr Gref02_low (Lref02_low fuel) 6 251 0 fuel := by
  refine .of Tref02_low_0 (Fref02_low_0 fuel) (fun L h => ?_) (fun ps st K r he hr => ?_)
  · have e : (Lref02_low fuel).get (writes (lp Pr 251 0).1) = some (lam Tref02_low_0 (Fref02_low_0 fuel)) := by kernel_rfl
    exact (Option.some.inj (e.symm.trans h)).symm
  · unfold Fref02_low_0 at hr
    split at hr
    · obtain rfl := (Option.some.inj he).symm
      exact (gref02_low_l0_ok fuel K _ _ _ _ fuel _).trans hr
    · cases hr
noncomputable def gref02_low (fuel qkj qlc : Nat) (qlb : Ge) : Option AV :=
  gref02_low_l0 fuel
    (fun (_ ql2 : Nat) (qnk : Ge) (qco : Int) => ck (decide (0 ≤ qco)) <| ck (decide (qco ≤ (↑ql2 : Int))) <| some (AV.ro 1 (qco.toNat - 0) (ql2 - 0) fun (i : Nat) => qnk (0 + i)))
    qkj
    qlc
    qlb fuel ((↑qkj : Int))
noncomputable def mref02_low (fuel : Nat) (xs : List AV) : Option AV := match xs with
  | [AV.ro 1 qkj qlc qlb] => gref02_low fuel qkj qlc qlb
  | _ => none
abbrev Rref02_low : List RS := [RS.one (LK.l (nat_lit 1))]
theorem gref02_low_sm (fuel : Nat) (hΓ : GamOk Pr Gref02_low) (hP : NamesOk Pr) : SmOk Pr 251 (smM Rref02_low (mref02_low fuel)) := smL (L := (Lref02_low fuel)) (n := 1) hΓ hP (by kernel_rfl) (fun i hi => match i,hi with
  | 0,_ => gref02_low_L0 fuel
  | i + 1,hi => absurd hi (by omega)) fun xs v h => by
  unfold mref02_low at h
  split at h
  · exact Eq.trans (by kernel_rfl) h
  · cases h
noncomputable def Sref02_halves_0 (qp qt : Nat) (qm : Ge) (ui4 : Int) (h0z : List AV) (h0e : List (List AV)) : St := { env := [(0,AV.ro 1 qp qt qm),(3,AV.lst 0 1),(4,AV.int .i64 ui4)],h := [Blk.fl 1 h0z h0e],kd := [0] }
noncomputable def Xref02_halves_0_0 (yp : List AV) (yr : List (List AV)) : St := { env := [(3,AV.lst 0 1)],h := [Blk.fl 1 yp yr],kd := [0] }
noncomputable def gref02_halves_l0_step (wa : Mo) (fuel : Nat) (kn : Int → List (List AV) → Option AV) (kx0 : List AV → List (List AV) → Option AV) (qp qt : Nat) (qm : Ge) (h0z : List AV) (ui4 : Int) (h0e : List (List AV)) : Option AV :=
  bif decide (ui4 < (↑qp : Int)) then ck (decide (0 ≤ ui4)) <| ck (decide (ui4 < (↑qp : Int))) <| ck (fitK (LK.i .u64) (qm ui4.toNat 0)) <| ck (decide (0 ≤ ui4)) <| ck (decide (ui4 < (↑qp : Int))) <| ck (fitK (LK.i .u64) (qm ui4.toNat 0)) <| ck (decide ((h0e.length + 2) * 8 < 70368744177664)) <| ck (decide (h0e.length + 2 < 4611686018427387904)) <| kn (IntKind.i64.wrap (ui4 + 1)) (h0e ++ [[AV.int .u64 ((toI (qm ui4.toNat 0)).tmod 4294967296)],[AV.int .u64 (IntKind.u64.wrap ((toI (qm ui4.toNat 0)).tdiv 4294967296))]])
  else kx0 h0z h0e
noncomputable def gref02_halves_l0 (wa : Mo) (fuel : Nat) (kx0 : List AV → List (List AV) → Option AV) (qp qt : Nat) (qm : Ge) (h0z : List AV) : Nat → Int → List (List AV) → Option AV
  | 0,_,_ => none
  | n' + 1,ui4,h0e => gref02_halves_l0_step wa fuel (gref02_halves_l0 wa fuel kx0 qp qt qm h0z n') kx0 qp qt qm h0z ui4 h0e
noncomputable def Tref02_halves_0 : TS' := ⟨[(0,TA.ro 1),(3,TA.lst 0 1),(4,TA.i .i64)],[TB.fl 1],[0]⟩
noncomputable def Fref02_halves_0 (wa : Mo) (fuel : Nat) (ps : List Pay) (K : Ex → St → Option AV) : Option AV := match ps with
  | .n qp :: .n qt :: .g qm :: .i ui4 :: .z h0z :: .e h0e :: [] => gref02_halves_l0 wa fuel (fun yp yr => K (Ex.exit 0) (Xref02_halves_0_0 yp yr)) qp qt qm h0z fuel ui4 h0e
  | _ => none
noncomputable def Lref02_halves (wa : Mo) (fuel : Nat) : Lam AV := [(16777208,lam Tref02_halves_0 (Fref02_halves_0 wa fuel))]
noncomputable def Gref02_halves (wa : Mo) : Gam := [(251,smM [RS.one (LK.l (nat_lit 1))] wa)]
theorem gref02_halves_l0_eq (wa : Mo) (fuel : Nat) (kn : St → Option AV) (K : Ex → St → Option AV) (qp qt : Nat) (qm : Ge) (h0z : List AV) (qlu : Int) (pj : List (List AV)) (ui4 : Int) (h0e : List (List AV)) :
    bX Pr (Gref02_halves wa) (Lref02_halves wa fuel) 6 230 0 fuel (Sref02_halves_0 qp qt qm ui4 h0z h0e) (fun e s => match e with | .normal => kn (hX Pr 230 0 (Sref02_halves_0 qp qt qm qlu h0z pj) s) | e => K e s) =
    gref02_halves_l0_step wa fuel (fun ui4 h0e => kn (Sref02_halves_0 qp qt qm ui4 h0z h0e)) (fun v1 v0 => K (Ex.exit 0) (Xref02_halves_0_0 v1 v0)) qp qt qm h0z ui4 h0e := by kernel_rfl
theorem gref02_halves_l0_ok (wa : Mo) (fuel : Nat) (K : Ex → St → Option AV) (qp qt : Nat) (qm : Ge) (h0z : List AV) (qlu : Int) (pj : List (List AV)) : ∀ (n' : Nat) (ui4 : Int) (h0e : List (List AV)),
    loopK (bX Pr (Gref02_halves wa) (Lref02_halves wa fuel) 6 230 0 fuel) (hX Pr 230 0 (Sref02_halves_0 qp qt qm qlu h0z pj)) n' (Sref02_halves_0 qp qt qm ui4 h0z h0e) K = gref02_halves_l0 wa fuel (fun v1 v0 => K (Ex.exit 0) (Xref02_halves_0_0 v1 v0)) qp qt qm h0z n' ui4 h0e
  | 0,_,_ => rfl
  | n' + 1,ui4,h0e => (gref02_halves_l0_eq wa fuel (fun s => loopK (bX Pr (Gref02_halves wa) (Lref02_halves wa fuel) 6 230 0 fuel) (hX Pr 230 0 (Sref02_halves_0 qp qt qm qlu h0z pj)) n' s K) K qp qt qm h0z qlu pj ui4 h0e).trans
    (congrArg (fun kn => gref02_halves_l0_step wa fuel kn _ qp qt qm h0z ui4 h0e) (funext fun ui4 => funext fun h0e => gref02_halves_l0_ok wa fuel K qp qt qm h0z qlu pj n' ui4 h0e))
theorem gref02_halves_L0 (wa : Mo) (fuel : Nat) : LX Pr (Gref02_halves wa) (Lref02_halves wa fuel) 6 230 0 fuel := by
  refine .of Tref02_halves_0 (Fref02_halves_0 wa fuel) (fun L h => ?_) (fun ps st K r he hr => ?_)
  · have e : (Lref02_halves wa fuel).get (writes (lp Pr 230 0).1) = some (lam Tref02_halves_0 (Fref02_halves_0 wa fuel)) := by kernel_rfl
    exact (Option.some.inj (e.symm.trans h)).symm
  · unfold Fref02_halves_0 at hr
    split at hr
    · obtain rfl := (Option.some.inj he).symm
      exact (gref02_halves_l0_ok wa fuel K _ _ _ _ _ _ fuel _ _).trans hr
    · cases hr
noncomputable def gref02_halves (wa : Mo) (fuel zn vq : Nat) (vh : Ge) : Option AV :=
  gref02_halves_l0 wa fuel
    (fun (v1 : List AV) (v0 : List (List AV)) => let r0 : Option AV := wa [AV.ro 1 v0.length v0.length fun (i j : Nat) => (v0.getD i v1).getD j AV.dead]; ck (okM [RS.one (LK.l 1)] r0) <| some (AV.ro 1 (toN (getV r0)) (toR (getV r0)) (toG (getV r0))))
    zn
    vq
    vh
    ([AV.int .u64 0]) fuel (0) ([])
noncomputable def mref02_halves (wa : Mo) (fuel : Nat) (xs : List AV) : Option AV := match xs with
  | [AV.ro 1 zn vq vh] => gref02_halves wa fuel zn vq vh
  | _ => none
abbrev Rref02_halves : List RS := [RS.one (LK.l (nat_lit 1))]
theorem gref02_halves_sm (wa : Mo) (fuel : Nat) (hΓ : GamOk Pr (Gref02_halves wa)) (hP : NamesOk Pr) : SmOk Pr 230 (smM Rref02_halves (mref02_halves wa fuel)) := smL (L := (Lref02_halves wa fuel)) (n := 1) hΓ hP (by kernel_rfl) (fun i hi => match i,hi with
  | 0,_ => gref02_halves_L0 wa fuel
  | i + 1,hi => absurd hi (by omega)) fun xs v h => by
  unfold mref02_halves at h
  split at h
  · exact Eq.trans (by kernel_rfl) h
  · cases h
noncomputable def Sref02_short_0 (qdd qdt : Nat) (qcp : Ge) (qeh : Int) (qe4 qfk qfq : Nat) (qe6 ui8 : Int) (h0z : List AV) (h0e : List (List AV)) : St := { env := [(0,AV.ro 1 qdd qdt qcp),(1,AV.int .u64 qeh),(6,AV.own 0 qe4 1 qfk qfq),(7,AV.int .u64 qe6),(8,AV.int .i64 ui8)],h := [Blk.fx 1 h0z h0e],kd := [] }
noncomputable def Xref02_short_0_0 (qnj qnz qnb : Nat) (qnl : Int) (yp : List AV) (yr : List (List AV)) : St := { env := [(6,AV.own 0 qnj 1 qnz qnb),(7,AV.int .u64 qnl)],h := [Blk.fx 1 yp yr],kd := [] }
noncomputable def gref02_short_l0_step (wa : Mo) (fuel : Nat) (kn : Int → Int → List (List AV) → Option AV) (kx0 : Nat → Nat → Nat → Int → List AV → List (List AV) → Option AV) (qdd qdt : Nat) (qcp : Ge) (qeh : Int) (qe4 qfk qfq : Nat) (h0z : List AV) (qe6 ui8 : Int) (h0e : List (List AV)) : Option AV :=
  bif decide (ui8 ≥ 0) then ck (decide (0 ≤ ui8)) <| ck (decide (ui8 < (↑qdd : Int))) <| ck (fitK (LK.i .u64) (qcp ui8.toNat 0)) <| ck (!decide (qeh = 0)) <| ck (decide (0 ≤ ui8)) <| ck (decide (ui8 < (↑qfk : Int))) <| ck (!decide (qeh = 0)) <| kn ((IntKind.u64.wrap (IntKind.u64.wrap (qe6 * 4294967296) + toI (qcp ui8.toNat 0))).tmod qeh) (IntKind.i64.wrap (ui8 - 1)) (h0e.set (qe4 + ui8.toNat) (AV.int .u64 (IntKind.u64.wrap ((IntKind.u64.wrap (IntKind.u64.wrap (qe6 * 4294967296) + toI (qcp ui8.toNat 0))).tdiv qeh)) :: List.drop (0 + [AV.int .u64 (IntKind.u64.wrap ((IntKind.u64.wrap (IntKind.u64.wrap (qe6 * 4294967296) + toI (qcp ui8.toNat 0))).tdiv qeh))].length) (h0e.getD (qe4 + ui8.toNat) h0z)))
  else kx0 qe4 qfk qfq qe6 h0z h0e
noncomputable def gref02_short_l0 (wa : Mo) (fuel : Nat) (kx0 : Nat → Nat → Nat → Int → List AV → List (List AV) → Option AV) (qdd qdt : Nat) (qcp : Ge) (qeh : Int) (qe4 qfk qfq : Nat) (h0z : List AV) : Nat → Int → Int → List (List AV) → Option AV
  | 0,_,_,_ => none
  | n' + 1,qe6,ui8,h0e => gref02_short_l0_step wa fuel (gref02_short_l0 wa fuel kx0 qdd qdt qcp qeh qe4 qfk qfq h0z n') kx0 qdd qdt qcp qeh qe4 qfk qfq h0z qe6 ui8 h0e
noncomputable def Tref02_short_0 : TS' := ⟨[(0,TA.ro 1),(1,TA.i .u64),(6,TA.own 0 1),(7,TA.i .u64),(8,TA.i .i64)],[TB.fx 1],[]⟩
noncomputable def Fref02_short_0 (wa : Mo) (fuel : Nat) (ps : List Pay) (K : Ex → St → Option AV) : Option AV := match ps with
  | .n qdd :: .n qdt :: .g qcp :: .i qeh :: .n qe4 :: .n qfk :: .n qfq :: .i qe6 :: .i ui8 :: .z h0z :: .e h0e :: [] => gref02_short_l0 wa fuel (fun qnj qnz qnb qnl yp yr => K (Ex.exit 0) (Xref02_short_0_0 qnj qnz qnb qnl yp yr)) qdd qdt qcp qeh qe4 qfk qfq h0z fuel qe6 ui8 h0e
  | _ => none
noncomputable def Lref02_short (wa : Mo) (fuel : Nat) : Lam AV := [(68719412096,lam Tref02_short_0 (Fref02_short_0 wa fuel))]
noncomputable def Gref02_short (wa : Mo) : Gam := [(251,smM [RS.one (LK.l (nat_lit 1))] wa)]
theorem gref02_short_l0_eq (wa : Mo) (fuel : Nat) (kn : St → Option AV) (K : Ex → St → Option AV) (qdd qdt : Nat) (qcp : Ge) (qeh : Int) (qe4 qfk qfq : Nat) (h0z : List AV) (qll qfd : Int) (pj : List (List AV)) (qe6 ui8 : Int) (h0e : List (List AV)) :
    bX Pr (Gref02_short wa) (Lref02_short wa fuel) 6 231 0 fuel (Sref02_short_0 qdd qdt qcp qeh qe4 qfk qfq qe6 ui8 h0z h0e) (fun e s => match e with | .normal => kn (hX Pr 231 0 (Sref02_short_0 qdd qdt qcp qeh qe4 qfk qfq qll qfd h0z pj) s) | e => K e s) =
    gref02_short_l0_step wa fuel (fun qe6 ui8 h0e => kn (Sref02_short_0 qdd qdt qcp qeh qe4 qfk qfq qe6 ui8 h0z h0e)) (fun qj8 qj6 qj4 qj1 v1 v0 => K (Ex.exit 0) (Xref02_short_0_0 qj8 qj6 qj4 qj1 v1 v0)) qdd qdt qcp qeh qe4 qfk qfq h0z qe6 ui8 h0e := by kernel_rfl
theorem gref02_short_l0_ok (wa : Mo) (fuel : Nat) (K : Ex → St → Option AV) (qdd qdt : Nat) (qcp : Ge) (qeh : Int) (qe4 qfk qfq : Nat) (h0z : List AV) (qll qfd : Int) (pj : List (List AV)) : ∀ (n' : Nat) (qe6 ui8 : Int) (h0e : List (List AV)),
    loopK (bX Pr (Gref02_short wa) (Lref02_short wa fuel) 6 231 0 fuel) (hX Pr 231 0 (Sref02_short_0 qdd qdt qcp qeh qe4 qfk qfq qll qfd h0z pj)) n' (Sref02_short_0 qdd qdt qcp qeh qe4 qfk qfq qe6 ui8 h0z h0e) K = gref02_short_l0 wa fuel (fun qj8 qj6 qj4 qj1 v1 v0 => K (Ex.exit 0) (Xref02_short_0_0 qj8 qj6 qj4 qj1 v1 v0)) qdd qdt qcp qeh qe4 qfk qfq h0z n' qe6 ui8 h0e
  | 0,_,_,_ => rfl
  | n' + 1,qe6,ui8,h0e => (gref02_short_l0_eq wa fuel (fun s => loopK (bX Pr (Gref02_short wa) (Lref02_short wa fuel) 6 231 0 fuel) (hX Pr 231 0 (Sref02_short_0 qdd qdt qcp qeh qe4 qfk qfq qll qfd h0z pj)) n' s K) K qdd qdt qcp qeh qe4 qfk qfq h0z qll qfd pj qe6 ui8 h0e).trans
    (congrArg (fun kn => gref02_short_l0_step wa fuel kn _ qdd qdt qcp qeh qe4 qfk qfq h0z qe6 ui8 h0e) (funext fun qe6 => funext fun ui8 => funext fun h0e => gref02_short_l0_ok wa fuel K qdd qdt qcp qeh qe4 qfk qfq h0z qll qfd pj n' qe6 ui8 h0e))
theorem gref02_short_L0 (wa : Mo) (fuel : Nat) : LX Pr (Gref02_short wa) (Lref02_short wa fuel) 6 231 0 fuel := by
  refine .of Tref02_short_0 (Fref02_short_0 wa fuel) (fun L h => ?_) (fun ps st K r he hr => ?_)
  · have e : (Lref02_short wa fuel).get (writes (lp Pr 231 0).1) = some (lam Tref02_short_0 (Fref02_short_0 wa fuel)) := by kernel_rfl
    exact (Option.some.inj (e.symm.trans h)).symm
  · unfold Fref02_short_0 at hr
    split at hr
    · obtain rfl := (Option.some.inj he).symm
      exact (gref02_short_l0_ok wa fuel K _ _ _ _ _ _ _ _ _ _ _ fuel _ _ _).trans hr
    · cases hr
noncomputable def gref02_short (wa : Mo) (fuel qkb qs5 : Nat) (qtc : Ge) (by1 : Int) : Option AV :=
  ck (decide (0 ≤ (↑qkb : Int))) <| ck (decide ((↑qkb : Int) ≤ (↑qkb : Int))) <| ck ((8 * (↑qkb : Int).toNat).ble 281474976710656) <| ck (((↑qkb : Int).toNat + 1).ble 4611686018427387904) <| gref02_short_l0 wa fuel
    (fun (qj8 qj6 qj4 : Nat) (qj1 : Int) (v1 : List AV) (v0 : List (List AV)) => let r0 : Option AV := wa [AV.ro 1 qj6 qj4 fun (i j : Nat) => (v0.getD (qj8 + i) v1).getD j AV.dead]; ck (okM [RS.one (LK.l 1)] r0) <| some (AV.tup [AV.ro 1 (toN (getV r0)) (toR (getV r0)) (toG (getV r0)),AV.int .u64 qj1]))
    qkb
    qs5
    qtc
    by1
    (0)
    ((↑qkb : Int).toNat)
    ((↑qkb : Int).toNat)
    ([AV.int .u64 0]) fuel (0) (IntKind.i64.wrap ((↑qkb : Int) - 1)) (List.replicate (↑qkb : Int).toNat [AV.int .u64 0])
noncomputable def mref02_short (wa : Mo) (fuel : Nat) (xs : List AV) : Option AV := match xs with
  | [AV.ro 1 qkb qs5 qtc,AV.int .u64 by1] => gref02_short wa fuel qkb qs5 qtc by1
  | _ => none
abbrev Rref02_short : List RS := [RS.one (LK.l (nat_lit 1)),RS.one (LK.i .u64)]
theorem gref02_short_sm (wa : Mo) (fuel : Nat) (hΓ : GamOk Pr (Gref02_short wa)) (hP : NamesOk Pr) : SmOk Pr 231 (smM Rref02_short (mref02_short wa fuel)) := smL (L := (Lref02_short wa fuel)) (n := 1) hΓ hP (by kernel_rfl) (fun i hi => match i,hi with
  | 0,_ => gref02_short_L0 wa fuel
  | i + 1,hi => absurd hi (by omega)) fun xs v h => by
  unfold mref02_short at h
  split at h
  · exact Eq.trans (by kernel_rfl) h
  · cases h
noncomputable def Sref02_limbs_0 (yo y6 : Nat) (yl : Ge) (ui4 : Int) (h0z : List AV) (h0e : List (List AV)) : St := { env := [(0,AV.ro 1 yo y6 yl),(3,AV.lst 0 1),(4,AV.int .i64 ui4)],h := [Blk.fl 1 h0z h0e],kd := [0] }
noncomputable def Xref02_limbs_0_0 (yp : List AV) (yr : List (List AV)) : St := { env := [(3,AV.lst 0 1)],h := [Blk.fl 1 yp yr],kd := [0] }
noncomputable def gref02_limbs_l0_step (qg : Mo) (fuel : Nat) (kn : Int → List (List AV) → Option AV) (kx0 : List AV → List (List AV) → Option AV) (yo y6 : Nat) (yl : Ge) (h0z : List AV) (ui4 : Int) (h0e : List (List AV)) : Option AV :=
  bif decide (ui4 < (↑yo : Int)) then ck (decide (0 ≤ ui4)) <| ck (decide (ui4 < (↑yo : Int))) <| ck (fitK (LK.i .u64) (yl ui4.toNat 0)) <| bif decide (IntKind.i64.wrap (ui4 + 1) < (↑yo : Int)) then ck (decide (0 ≤ IntKind.i64.wrap (ui4 + 1))) <| ck (decide (IntKind.i64.wrap (ui4 + 1) < (↑yo : Int))) <| ck (fitK (LK.i .u64) (yl (IntKind.i64.wrap (ui4 + 1)).toNat 0)) <| ck (decide ((h0e.length + 1) * 8 < 70368744177664)) <| ck (decide (h0e.length + 1 < 4611686018427387904)) <| kn (IntKind.i64.wrap (ui4 + 2)) (h0e ++ [[AV.int .u64 (IntKind.u64.wrap (toI (yl ui4.toNat 0) + IntKind.u64.wrap (4294967296 * toI (yl (IntKind.i64.wrap (ui4 + 1)).toNat 0))))]])
    else ck (decide ((h0e.length + 1) * 8 < 70368744177664)) <| ck (decide (h0e.length + 1 < 4611686018427387904)) <| kn (IntKind.i64.wrap (ui4 + 2)) (h0e ++ [[AV.int .u64 (toI (yl ui4.toNat 0))]])
  else kx0 h0z h0e
noncomputable def gref02_limbs_l0 (qg : Mo) (fuel : Nat) (kx0 : List AV → List (List AV) → Option AV) (yo y6 : Nat) (yl : Ge) (h0z : List AV) : Nat → Int → List (List AV) → Option AV
  | 0,_,_ => none
  | n' + 1,ui4,h0e => gref02_limbs_l0_step qg fuel (gref02_limbs_l0 qg fuel kx0 yo y6 yl h0z n') kx0 yo y6 yl h0z ui4 h0e
noncomputable def Tref02_limbs_0 : TS' := ⟨[(0,TA.ro 1),(3,TA.lst 0 1),(4,TA.i .i64)],[TB.fl 1],[0]⟩
noncomputable def Fref02_limbs_0 (qg : Mo) (fuel : Nat) (ps : List Pay) (K : Ex → St → Option AV) : Option AV := match ps with
  | .n yo :: .n y6 :: .g yl :: .i ui4 :: .z h0z :: .e h0e :: [] => gref02_limbs_l0 qg fuel (fun yp yr => K (Ex.exit 0) (Xref02_limbs_0_0 yp yr)) yo y6 yl h0z fuel ui4 h0e
  | _ => none
noncomputable def Lref02_limbs (qg : Mo) (fuel : Nat) : Lam AV := [(8589934584,lam Tref02_limbs_0 (Fref02_limbs_0 qg fuel))]
noncomputable def Gref02_limbs (qg : Mo) : Gam := [(200,smM [RS.one (LK.l (nat_lit 1))] qg)]
theorem gref02_limbs_l0_eq (qg : Mo) (fuel : Nat) (kn : St → Option AV) (K : Ex → St → Option AV) (yo y6 : Nat) (yl : Ge) (h0z : List AV) (qlu : Int) (pj : List (List AV)) (ui4 : Int) (h0e : List (List AV)) :
    bX Pr (Gref02_limbs qg) (Lref02_limbs qg fuel) 6 232 0 fuel (Sref02_limbs_0 yo y6 yl ui4 h0z h0e) (fun e s => match e with | .normal => kn (hX Pr 232 0 (Sref02_limbs_0 yo y6 yl qlu h0z pj) s) | e => K e s) =
    gref02_limbs_l0_step qg fuel (fun ui4 h0e => kn (Sref02_limbs_0 yo y6 yl ui4 h0z h0e)) (fun v1 v0 => K (Ex.exit 0) (Xref02_limbs_0_0 v1 v0)) yo y6 yl h0z ui4 h0e := by kernel_rfl
theorem gref02_limbs_l0_ok (qg : Mo) (fuel : Nat) (K : Ex → St → Option AV) (yo y6 : Nat) (yl : Ge) (h0z : List AV) (qlu : Int) (pj : List (List AV)) : ∀ (n' : Nat) (ui4 : Int) (h0e : List (List AV)),
    loopK (bX Pr (Gref02_limbs qg) (Lref02_limbs qg fuel) 6 232 0 fuel) (hX Pr 232 0 (Sref02_limbs_0 yo y6 yl qlu h0z pj)) n' (Sref02_limbs_0 yo y6 yl ui4 h0z h0e) K = gref02_limbs_l0 qg fuel (fun v1 v0 => K (Ex.exit 0) (Xref02_limbs_0_0 v1 v0)) yo y6 yl h0z n' ui4 h0e
  | 0,_,_ => rfl
  | n' + 1,ui4,h0e => (gref02_limbs_l0_eq qg fuel (fun s => loopK (bX Pr (Gref02_limbs qg) (Lref02_limbs qg fuel) 6 232 0 fuel) (hX Pr 232 0 (Sref02_limbs_0 yo y6 yl qlu h0z pj)) n' s K) K yo y6 yl h0z qlu pj ui4 h0e).trans
    (congrArg (fun kn => gref02_limbs_l0_step qg fuel kn _ yo y6 yl h0z ui4 h0e) (funext fun ui4 => funext fun h0e => gref02_limbs_l0_ok qg fuel K yo y6 yl h0z qlu pj n' ui4 h0e))
theorem gref02_limbs_L0 (qg : Mo) (fuel : Nat) : LX Pr (Gref02_limbs qg) (Lref02_limbs qg fuel) 6 232 0 fuel := by
  refine .of Tref02_limbs_0 (Fref02_limbs_0 qg fuel) (fun L h => ?_) (fun ps st K r he hr => ?_)
  · have e : (Lref02_limbs qg fuel).get (writes (lp Pr 232 0).1) = some (lam Tref02_limbs_0 (Fref02_limbs_0 qg fuel)) := by kernel_rfl
    exact (Option.some.inj (e.symm.trans h)).symm
  · unfold Fref02_limbs_0 at hr
    split at hr
    · obtain rfl := (Option.some.inj he).symm
      exact (gref02_limbs_l0_ok qg fuel K _ _ _ _ _ _ fuel _ _).trans hr
    · cases hr
noncomputable def gref02_limbs (qg : Mo) (fuel qkj qlc : Nat) (qlb : Ge) : Option AV :=
  gref02_limbs_l0 qg fuel
    (fun (v1 : List AV) (v0 : List (List AV)) => let r0 : Option AV := qg [AV.ro 1 v0.length v0.length fun (i j : Nat) => (v0.getD i v1).getD j AV.dead]; ck (okM [RS.one (LK.l 1)] r0) <| some (AV.ro 1 (toN (getV r0)) (toR (getV r0)) (toG (getV r0))))
    qkj
    qlc
    qlb
    ([AV.int .u64 0]) fuel (0) ([])
noncomputable def mref02_limbs (qg : Mo) (fuel : Nat) (xs : List AV) : Option AV := match xs with
  | [AV.ro 1 qkj qlc qlb] => gref02_limbs qg fuel qkj qlc qlb
  | _ => none
abbrev Rref02_limbs : List RS := [RS.one (LK.l (nat_lit 1))]
theorem gref02_limbs_sm (qg : Mo) (fuel : Nat) (hΓ : GamOk Pr (Gref02_limbs qg)) (hP : NamesOk Pr) : SmOk Pr 232 (smM Rref02_limbs (mref02_limbs qg fuel)) := smL (L := (Lref02_limbs qg fuel)) (n := 1) hΓ hP (by kernel_rfl) (fun i hi => match i,hi with
  | 0,_ => gref02_limbs_L0 qg fuel
  | i + 1,hi => absurd hi (by omega)) fun xs v h => by
  unfold mref02_limbs at h
  split at h
  · exact Eq.trans (by kernel_rfl) h
  · cases h
noncomputable def Sref02_NatDown_0 (p8 : Int) (qhb qih : Nat) (qhf : Ge) (qej : Bool) (ui8 : Int) : St := { env := [(1,AV.int .i64 p8),(6,AV.ro 1 qhb qih qhf),(7,AV.bool qej),(8,AV.int .i64 ui8)],h := [],kd := [] }
noncomputable def Xref02_NatDown_0_0 (qry : Int) (qqb qqz : Nat) (qqp : Ge) (qna : Bool) : St := { env := [(1,AV.int .i64 qry),(6,AV.ro 1 qqb qqz qqp),(7,AV.bool qna)],h := [],kd := [] }
noncomputable def gref02_NatDown_l0_step (q1 q8 q9 : Mo) (fuel : Nat) (kn : Bool → Int → Option AV) (kx0 : Int → Nat → Nat → Ge → Bool → Option AV) (p8 : Int) (qhb qih : Nat) (qhf : Ge) (qej : Bool) (ui8 : Int) : Option AV :=
  bif bif decide (ui8 < IntKind.i64.wrap (p8.tdiv 32)) then decide (ui8 < (↑qhb : Int)) else false then ck (bif !qej then decide (0 ≤ ui8) else true) <| ck (bif !qej then decide (ui8 < (↑qhb : Int)) else true) <| ck (bif !qej then true else true) <| ck (bif !qej then fitK (LK.i .u64) (qhf ui8.toNat 0) else true) <| kn (bif qej then true else toI (qhf ui8.toNat 0) != 0) (IntKind.i64.wrap (ui8 + 1))
  else kx0 p8 qhb qih qhf qej
noncomputable def gref02_NatDown_l0 (q1 q8 q9 : Mo) (fuel : Nat) (kx0 : Int → Nat → Nat → Ge → Bool → Option AV) (p8 : Int) (qhb qih : Nat) (qhf : Ge) : Nat → Bool → Int → Option AV
  | 0,_,_ => none
  | n' + 1,qej,ui8 => gref02_NatDown_l0_step q1 q8 q9 fuel (gref02_NatDown_l0 q1 q8 q9 fuel kx0 p8 qhb qih qhf n') kx0 p8 qhb qih qhf qej ui8
noncomputable def Tref02_NatDown_0 : TS' := ⟨[(1,TA.i .i64),(6,TA.ro 1),(7,TA.b),(8,TA.i .i64)],[],[]⟩
noncomputable def Fref02_NatDown_0 (q1 q8 q9 : Mo) (fuel : Nat) (ps : List Pay) (K : Ex → St → Option AV) : Option AV := match ps with
  | .i p8 :: .n qhb :: .n qih :: .g qhf :: .b qej :: .i ui8 :: [] => gref02_NatDown_l0 q1 q8 q9 fuel (fun qry qqb qqz qqp qna => K (Ex.exit 0) (Xref02_NatDown_0_0 qry qqb qqz qqp qna)) p8 qhb qih qhf fuel qej ui8
  | _ => none
noncomputable def Sref02_NatDown_1 (qfp : Int) (qdo qdp : Nat) (qdh : Ge) (qbz : Bool) (by9 vr : Int) : St := { env := [(1,AV.int .i64 qfp),(6,AV.ro 1 qdo qdp qdh),(7,AV.bool qbz),(9,AV.int .u64 by9),(10,AV.int .i64 vr)],h := [],kd := [] }
noncomputable def Xref02_NatDown_1_0 (qsl : Int) (qp4 qpd : Nat) (qpl : Ge) (qml : Bool) (qr2 : Int) : St := { env := [(1,AV.int .i64 qsl),(6,AV.ro 1 qp4 qpd qpl),(7,AV.bool qml),(9,AV.int .u64 qr2)],h := [],kd := [] }
noncomputable def gref02_NatDown_l1_step (q1 q8 q9 : Mo) (fuel : Nat) (kn : Int → Int → Option AV) (kx0 : Int → Nat → Nat → Ge → Bool → Int → Option AV) (qfp : Int) (qdo qdp : Nat) (qdh : Ge) (qbz : Bool) (by9 vr : Int) : Option AV :=
  bif decide (vr < qfp.tmod 32) then kn (IntKind.u64.wrap (2 * by9)) (IntKind.i64.wrap (vr + 1))
  else kx0 qfp qdo qdp qdh qbz by9
noncomputable def gref02_NatDown_l1 (q1 q8 q9 : Mo) (fuel : Nat) (kx0 : Int → Nat → Nat → Ge → Bool → Int → Option AV) (qfp : Int) (qdo qdp : Nat) (qdh : Ge) (qbz : Bool) : Nat → Int → Int → Option AV
  | 0,_,_ => none
  | n' + 1,by9,vr => gref02_NatDown_l1_step q1 q8 q9 fuel (gref02_NatDown_l1 q1 q8 q9 fuel kx0 qfp qdo qdp qdh qbz n') kx0 qfp qdo qdp qdh qbz by9 vr
noncomputable def Tref02_NatDown_1 : TS' := ⟨[(1,TA.i .i64),(6,TA.ro 1),(7,TA.b),(9,TA.i .u64),(10,TA.i .i64)],[],[]⟩
noncomputable def Fref02_NatDown_1 (q1 q8 q9 : Mo) (fuel : Nat) (ps : List Pay) (K : Ex → St → Option AV) : Option AV := match ps with
  | .i qfp :: .n qdo :: .n qdp :: .g qdh :: .b qbz :: .i by9 :: .i vr :: [] => gref02_NatDown_l1 q1 q8 q9 fuel (fun qsl qp4 qpd qpl qml qr2 => K (Ex.exit 2) (Xref02_NatDown_1_0 qsl qp4 qpd qpl qml qr2)) qfp qdo qdp qdh qbz fuel by9 vr
  | _ => none
noncomputable def Lref02_NatDown (q1 q8 q9 : Mo) (fuel : Nat) : Lam AV := [(34359705984,lam Tref02_NatDown_0 (Fref02_NatDown_0 q1 q8 q9 fuel)),(560750930167296,lam Tref02_NatDown_1 (Fref02_NatDown_1 q1 q8 q9 fuel))]
noncomputable def Gref02_NatDown (q1 q8 q9 : Mo) : Gam := [(230,smM [RS.one (LK.l (nat_lit 1))] q1),(231,smM [RS.one (LK.l (nat_lit 1)),RS.one (LK.i .u64)] q8),(232,smM [RS.one (LK.l (nat_lit 1))] q9)]
theorem gref02_NatDown_l0_eq (q1 q8 q9 : Mo) (fuel : Nat) (kn : St → Option AV) (K : Ex → St → Option AV) (p8 : Int) (qhb qih : Nat) (qhf : Ge) (qlr : Bool) (qfd : Int) (qej : Bool) (ui8 : Int) :
    bX Pr (Gref02_NatDown q1 q8 q9) (Lref02_NatDown q1 q8 q9 fuel) 6 201 0 fuel (Sref02_NatDown_0 p8 qhb qih qhf qej ui8) (fun e s => match e with | .normal => kn (hX Pr 201 0 (Sref02_NatDown_0 p8 qhb qih qhf qlr qfd) s) | e => K e s) =
    gref02_NatDown_l0_step q1 q8 q9 fuel (fun qej ui8 => kn (Sref02_NatDown_0 p8 qhb qih qhf qej ui8)) (fun qkk qh0 qis qit qgk => K (Ex.exit 0) (Xref02_NatDown_0_0 qkk qh0 qis qit qgk)) p8 qhb qih qhf qej ui8 := by kernel_rfl
theorem gref02_NatDown_l0_ok (q1 q8 q9 : Mo) (fuel : Nat) (K : Ex → St → Option AV) (p8 : Int) (qhb qih : Nat) (qhf : Ge) (qlr : Bool) (qfd : Int) : ∀ (n' : Nat) (qej : Bool) (ui8 : Int),
    loopK (bX Pr (Gref02_NatDown q1 q8 q9) (Lref02_NatDown q1 q8 q9 fuel) 6 201 0 fuel) (hX Pr 201 0 (Sref02_NatDown_0 p8 qhb qih qhf qlr qfd)) n' (Sref02_NatDown_0 p8 qhb qih qhf qej ui8) K = gref02_NatDown_l0 q1 q8 q9 fuel (fun qkk qh0 qis qit qgk => K (Ex.exit 0) (Xref02_NatDown_0_0 qkk qh0 qis qit qgk)) p8 qhb qih qhf n' qej ui8
  | 0,_,_ => rfl
  | n' + 1,qej,ui8 => (gref02_NatDown_l0_eq q1 q8 q9 fuel (fun s => loopK (bX Pr (Gref02_NatDown q1 q8 q9) (Lref02_NatDown q1 q8 q9 fuel) 6 201 0 fuel) (hX Pr 201 0 (Sref02_NatDown_0 p8 qhb qih qhf qlr qfd)) n' s K) K p8 qhb qih qhf qlr qfd qej ui8).trans
    (congrArg (fun kn => gref02_NatDown_l0_step q1 q8 q9 fuel kn _ p8 qhb qih qhf qej ui8) (funext fun qej => funext fun ui8 => gref02_NatDown_l0_ok q1 q8 q9 fuel K p8 qhb qih qhf qlr qfd n' qej ui8))
theorem gref02_NatDown_L0 (q1 q8 q9 : Mo) (fuel : Nat) : LX Pr (Gref02_NatDown q1 q8 q9) (Lref02_NatDown q1 q8 q9 fuel) 6 201 0 fuel := by
  refine .of Tref02_NatDown_0 (Fref02_NatDown_0 q1 q8 q9 fuel) (fun L h => ?_) (fun ps st K r he hr => ?_)
  · have e : (Lref02_NatDown q1 q8 q9 fuel).get (writes (lp Pr 201 0).1) = some (lam Tref02_NatDown_0 (Fref02_NatDown_0 q1 q8 q9 fuel)) := by kernel_rfl
    exact (Option.some.inj (e.symm.trans h)).symm
  · unfold Fref02_NatDown_0 at hr
    split at hr
    · obtain rfl := (Option.some.inj he).symm
      exact (gref02_NatDown_l0_ok q1 q8 q9 fuel K _ _ _ _ _ _ fuel _ _).trans hr
    · cases hr
theorem gref02_NatDown_l1_eq (q1 q8 q9 : Mo) (fuel : Nat) (kn : St → Option AV) (K : Ex → St → Option AV) (qfp : Int) (qdo qdp : Nat) (qdh : Ge) (qbz : Bool) (qs9 qdz : Int) (by9 vr : Int) :
    bX Pr (Gref02_NatDown q1 q8 q9) (Lref02_NatDown q1 q8 q9 fuel) 6 201 1 fuel (Sref02_NatDown_1 qfp qdo qdp qdh qbz by9 vr) (fun e s => match e with | .normal => kn (hX Pr 201 1 (Sref02_NatDown_1 qfp qdo qdp qdh qbz qs9 qdz) s) | e => K e s) =
    gref02_NatDown_l1_step q1 q8 q9 fuel (fun by9 vr => kn (Sref02_NatDown_1 qfp qdo qdp qdh qbz by9 vr)) (fun qkk qh0 qis qit qgk qrm => K (Ex.exit 2) (Xref02_NatDown_1_0 qkk qh0 qis qit qgk qrm)) qfp qdo qdp qdh qbz by9 vr := by kernel_rfl
theorem gref02_NatDown_l1_ok (q1 q8 q9 : Mo) (fuel : Nat) (K : Ex → St → Option AV) (qfp : Int) (qdo qdp : Nat) (qdh : Ge) (qbz : Bool) (qs9 qdz : Int) : ∀ (n' : Nat) (by9 vr : Int),
    loopK (bX Pr (Gref02_NatDown q1 q8 q9) (Lref02_NatDown q1 q8 q9 fuel) 6 201 1 fuel) (hX Pr 201 1 (Sref02_NatDown_1 qfp qdo qdp qdh qbz qs9 qdz)) n' (Sref02_NatDown_1 qfp qdo qdp qdh qbz by9 vr) K = gref02_NatDown_l1 q1 q8 q9 fuel (fun qkk qh0 qis qit qgk qrm => K (Ex.exit 2) (Xref02_NatDown_1_0 qkk qh0 qis qit qgk qrm)) qfp qdo qdp qdh qbz n' by9 vr
  | 0,_,_ => rfl
  | n' + 1,by9,vr => (gref02_NatDown_l1_eq q1 q8 q9 fuel (fun s => loopK (bX Pr (Gref02_NatDown q1 q8 q9) (Lref02_NatDown q1 q8 q9 fuel) 6 201 1 fuel) (hX Pr 201 1 (Sref02_NatDown_1 qfp qdo qdp qdh qbz qs9 qdz)) n' s K) K qfp qdo qdp qdh qbz qs9 qdz by9 vr).trans
    (congrArg (fun kn => gref02_NatDown_l1_step q1 q8 q9 fuel kn _ qfp qdo qdp qdh qbz by9 vr) (funext fun by9 => funext fun vr => gref02_NatDown_l1_ok q1 q8 q9 fuel K qfp qdo qdp qdh qbz qs9 qdz n' by9 vr))
theorem gref02_NatDown_L1 (q1 q8 q9 : Mo) (fuel : Nat) : LX Pr (Gref02_NatDown q1 q8 q9) (Lref02_NatDown q1 q8 q9 fuel) 6 201 1 fuel := by
  refine .of Tref02_NatDown_1 (Fref02_NatDown_1 q1 q8 q9 fuel) (fun L h => ?_) (fun ps st K r he hr => ?_)
  · have e : (Lref02_NatDown q1 q8 q9 fuel).get (writes (lp Pr 201 1).1) = some (lam Tref02_NatDown_1 (Fref02_NatDown_1 q1 q8 q9 fuel)) := by kernel_rfl
    exact (Option.some.inj (e.symm.trans h)).symm
  · unfold Fref02_NatDown_1 at hr
    split at hr
    · obtain rfl := (Option.some.inj he).symm
      exact (gref02_NatDown_l1_ok q1 q8 q9 fuel K _ _ _ _ _ _ _ fuel _ _).trans hr
    · cases hr
noncomputable def gref02_NatDown (q1 q8 q9 : Mo) (fuel zn vq : Nat) (vh : Ge) (un1 : Int) : Option AV :=
  let r0 : Option AV := q1 [AV.ro 1 zn vq vh]; ck (okM [RS.one (LK.l 1)] r0) <| gref02_NatDown_l0 q1 q8 q9 fuel
    (fun (qkk : Int) (qh0 qis : Nat) (qit : Ge) (qgk : Bool) => bif decide (IntKind.i64.wrap (qkk.tdiv 32) ≥ (↑qh0 : Int)) then some (AV.tup [AV.ro 1 0 0 fun (x j : Nat) => [AV.int .u64 0].getD j AV.dead,AV.bool qgk])
      else gref02_NatDown_l1 q1 q8 q9 fuel
        (fun (qnh : Int) (qsv qtu : Nat) (qtv : Ge) (qtl : Bool) (qrm : Int) => ck (decide (0 ≤ IntKind.i64.wrap (qnh.tdiv 32))) <| ck (decide (IntKind.i64.wrap (qnh.tdiv 32) ≤ (↑qsv : Int))) <| let r1 : Option AV := q8 [AV.ro 1 (qsv - (IntKind.i64.wrap (qnh.tdiv 32)).toNat) (qtu - (IntKind.i64.wrap (qnh.tdiv 32)).toNat) fun (i : Nat) => qtv ((IntKind.i64.wrap (qnh.tdiv 32)).toNat + i),AV.int .u64 qrm]; ck (okM [RS.one (LK.l 1),RS.one (LK.i .u64)] r1) <| let r2 : Option AV := q9 [AV.ro 1 (toN ((toT (getV r1)).headD .dead)) (toR ((toT (getV r1)).headD .dead)) (toG ((toT (getV r1)).headD .dead))]; ck (okM [RS.one (LK.l 1)] r2) <| some (AV.tup [AV.ro 1 (toN (getV r2)) (toR (getV r2)) (toG (getV r2)),AV.bool (bif qtl then true else toI ((toT (getV r1)).tail.headD .dead) != 0)]))
        qkk
        qh0
        qis
        qit
        qgk fuel (1) (0))
    un1
    (toN (getV r0))
    (toR (getV r0))
    (toG (getV r0)) fuel false (0)
noncomputable def mref02_NatDown (q1 q8 q9 : Mo) (fuel : Nat) (xs : List AV) : Option AV := match xs with
  | [AV.ro 1 zn vq vh,AV.int .i64 un1] => gref02_NatDown q1 q8 q9 fuel zn vq vh un1
  | _ => none
abbrev Rref02_NatDown : List RS := [RS.one (LK.l (nat_lit 1)),RS.one LK.b]
theorem gref02_NatDown_sm (q1 q8 q9 : Mo) (fuel : Nat) (hΓ : GamOk Pr (Gref02_NatDown q1 q8 q9)) (hP : NamesOk Pr) : SmOk Pr 201 (smM Rref02_NatDown (mref02_NatDown q1 q8 q9 fuel)) := smL (L := (Lref02_NatDown q1 q8 q9 fuel)) (n := 2) hΓ hP (by kernel_rfl) (fun i hi => match i,hi with
  | 0,_ => gref02_NatDown_L0 q1 q8 q9 fuel
  | 1,_ => gref02_NatDown_L1 q1 q8 q9 fuel
  | i + 2,hi => absurd hi (by omega)) fun xs v h => by
  unfold mref02_NatDown at h
  split at h
  · exact Eq.trans (by kernel_rfl) h
  · cases h
noncomputable def Sref02_Norm_0 (qhw qh5 : Nat) (qhn : Ge) (un5 : Int) (wx : Bool) (qu qx : Nat) (qw : Ge) (ph : Int) (zj : Bool) (qc8 : Int) (h2z : List AV) (h2e : List (List AV)) : St := { env := [(1,AV.ptr 0 0),(2,AV.ptr 1 0),(4,AV.ro 1 qhw qh5 qhn),(5,AV.int .i64 un5)],h := [Blk.box [AV.bool wx,AV.ro 1 qu qx qw,AV.int .i64 ph],Blk.box [AV.bool zj,AV.lst 2 1,AV.int .i64 qc8],Blk.fl 1 h2z h2e],kd := [2] }
noncomputable def Xref02_Norm_0_0 (qp3 qpe : Nat) (qqe : Ge) (qrp : Int) (vm : Bool) (vl vk : Nat) (vi : Ge) (qgg : Int) (vy : Bool) (pt : Int) (qee : List AV) (qed : List (List AV)) : St := { env := [(1,AV.ptr 0 0),(2,AV.ptr 1 0),(4,AV.ro 1 qp3 qpe qqe),(5,AV.int .i64 qrp)],h := [Blk.box [AV.bool vm,AV.ro 1 vl vk vi,AV.int .i64 qgg],Blk.box [AV.bool vy,AV.lst 2 1,AV.int .i64 pt],Blk.fl 1 qee qed],kd := [2] }
noncomputable def gref02_Norm_l0_step (qg wt : Mo) (fuel : Nat) (kn : Int → Option AV) (kx0 : Nat → Nat → Ge → Int → Bool → Nat → Nat → Ge → Int → Bool → Int → List AV → List (List AV) → Option AV) (qhw qh5 : Nat) (qhn : Ge) (wx : Bool) (qu qx : Nat) (qw : Ge) (ph : Int) (zj : Bool) (qc8 : Int) (h2z : List AV) (h2e : List (List AV)) (un5 : Int) : Option AV :=
  ck (decide (0 ≤ IntKind.i64.wrap (un5.tdiv 64))) <| ck (decide (IntKind.i64.wrap (un5.tdiv 64) < (↑qhw : Int))) <| ck (fitK (LK.i .u64) (qhn (IntKind.i64.wrap (un5.tdiv 64)).toNat 0)) <| ck (decide (0 ≤ IntKind.u64.wrap (un5.tmod 64))) <| bif ((toI (qhn (IntKind.i64.wrap (un5.tdiv 64)).toNat 0)).fdiv (2 ^ min (IntKind.u64.wrap (un5.tmod 64)).toNat 64)).tmod 2 == 0 then kn (IntKind.i64.wrap (un5 + 1))
  else kx0 qhw qh5 qhn un5 wx qu qx qw ph zj qc8 h2z h2e
noncomputable def gref02_Norm_l0 (qg wt : Mo) (fuel : Nat) (kx0 : Nat → Nat → Ge → Int → Bool → Nat → Nat → Ge → Int → Bool → Int → List AV → List (List AV) → Option AV) (qhw qh5 : Nat) (qhn : Ge) (wx : Bool) (qu qx : Nat) (qw : Ge) (ph : Int) (zj : Bool) (qc8 : Int) (h2z : List AV) (h2e : List (List AV)) : Nat → Int → Option AV
  | 0,_ => none
  | n' + 1,un5 => gref02_Norm_l0_step qg wt fuel (gref02_Norm_l0 qg wt fuel kx0 qhw qh5 qhn wx qu qx qw ph zj qc8 h2z h2e n') kx0 qhw qh5 qhn wx qu qx qw ph zj qc8 h2z h2e un5
termination_by structural k => k
noncomputable def Tref02_Norm_0 : TS' := ⟨[(1,TA.ptr 0 0),(2,TA.ptr 1 0),(4,TA.ro 1),(5,TA.i .i64)],[TB.box [TA.b,TA.ro 1,TA.i .i64],TB.box [TA.b,TA.lst 2 1,TA.i .i64],TB.fl 1],[2]⟩
noncomputable def Fref02_Norm_0 (qg wt : Mo) (fuel : Nat) (ps : List Pay) (K : Ex → St → Option AV) : Option AV := match ps with
  | .n qhw :: .n qh5 :: .g qhn :: .i un5 :: .b wx :: .n qu :: .n qx :: .g qw :: .i ph :: .b zj :: .i qc8 :: .z h2z :: .e h2e :: [] => gref02_Norm_l0 qg wt fuel (fun qp3 qpe qqe qrp vm vl vk vi qgg vy pt qee qed => K (Ex.exit 0) (Xref02_Norm_0_0 qp3 qpe qqe qrp vm vl vk vi qgg vy pt qee qed)) qhw qh5 qhn wx qu qx qw ph zj qc8 h2z h2e fuel un5
  | _ => none
noncomputable def Lref02_Norm (qg wt : Mo) (fuel : Nat) : Lam AV := [(67100704,lam Tref02_Norm_0 (Fref02_Norm_0 qg wt fuel))]
noncomputable def Gref02_Norm (qg wt : Mo) : Gam := [(200,smM [RS.one (LK.l (nat_lit 1))] qg),(201,smM [RS.one (LK.l (nat_lit 1)),RS.one LK.b] wt)]
theorem gref02_Norm_l0_eq (qg wt : Mo) (fuel : Nat) (kn : St → Option AV) (K : Ex → St → Option AV) (qhw qh5 : Nat) (qhn : Ge) (wx : Bool) (qu qx : Nat) (qw : Ge) (ph : Int) (zj : Bool) (qc8 : Int) (h2z : List AV) (h2e : List (List AV)) (qs4 un5 : Int) :
    bX Pr (Gref02_Norm qg wt) (Lref02_Norm qg wt fuel) 6 146 0 fuel (Sref02_Norm_0 qhw qh5 qhn un5 wx qu qx qw ph zj qc8 h2z h2e) (fun e s => match e with | .normal => kn (hX Pr 146 0 (Sref02_Norm_0 qhw qh5 qhn qs4 wx qu qx qw ph zj qc8 h2z h2e) s) | e => K e s) =
    gref02_Norm_l0_step qg wt fuel (fun un5 => kn (Sref02_Norm_0 qhw qh5 qhn un5 wx qu qx qw ph zj qc8 h2z h2e)) (fun qmr qn4 qm2 qmn z9 zb za w9 qdv v6 xh1_2 qen qdu => K (Ex.exit 0) (Xref02_Norm_0_0 qmr qn4 qm2 qmn z9 zb za w9 qdv v6 xh1_2 qen qdu)) qhw qh5 qhn wx qu qx qw ph zj qc8 h2z h2e un5 := by kernel_rfl
theorem gref02_Norm_l0_ok (qg wt : Mo) (fuel : Nat) (K : Ex → St → Option AV) (qhw qh5 : Nat) (qhn : Ge) (wx : Bool) (qu qx : Nat) (qw : Ge) (ph : Int) (zj : Bool) (qc8 : Int) (h2z : List AV) (h2e : List (List AV)) (qs4 : Int) : ∀ (n' : Nat) (un5 : Int),
    loopK (bX Pr (Gref02_Norm qg wt) (Lref02_Norm qg wt fuel) 6 146 0 fuel) (hX Pr 146 0 (Sref02_Norm_0 qhw qh5 qhn qs4 wx qu qx qw ph zj qc8 h2z h2e)) n' (Sref02_Norm_0 qhw qh5 qhn un5 wx qu qx qw ph zj qc8 h2z h2e) K = gref02_Norm_l0 qg wt fuel (fun qmr qn4 qm2 qmn z9 zb za w9 qdv v6 xh1_2 qen qdu => K (Ex.exit 0) (Xref02_Norm_0_0 qmr qn4 qm2 qmn z9 zb za w9 qdv v6 xh1_2 qen qdu)) qhw qh5 qhn wx qu qx qw ph zj qc8 h2z h2e n' un5
  | 0,_ => rfl
  | n' + 1,un5 => (gref02_Norm_l0_eq qg wt fuel (fun s => loopK (bX Pr (Gref02_Norm qg wt) (Lref02_Norm qg wt fuel) 6 146 0 fuel) (hX Pr 146 0 (Sref02_Norm_0 qhw qh5 qhn qs4 wx qu qx qw ph zj qc8 h2z h2e)) n' s K) K qhw qh5 qhn wx qu qx qw ph zj qc8 h2z h2e qs4 un5).trans
    (congrArg (fun kn => gref02_Norm_l0_step qg wt fuel kn _ qhw qh5 qhn wx qu qx qw ph zj qc8 h2z h2e un5) (funext fun un5 => gref02_Norm_l0_ok qg wt fuel K qhw qh5 qhn wx qu qx qw ph zj qc8 h2z h2e qs4 n' un5))
theorem gref02_Norm_L0 (qg wt : Mo) (fuel : Nat) : LX Pr (Gref02_Norm qg wt) (Lref02_Norm qg wt fuel) 6 146 0 fuel := by
  refine .of Tref02_Norm_0 (Fref02_Norm_0 qg wt fuel) (fun L h => ?_) (fun ps st K r he hr => ?_)
  · have e : (Lref02_Norm qg wt fuel).get (writes (lp Pr 146 0).1) = some (lam Tref02_Norm_0 (Fref02_Norm_0 qg wt fuel)) := by kernel_rfl
    exact (Option.some.inj (e.symm.trans h)).symm
  · unfold Fref02_Norm_0 at hr
    split at hr
    · obtain rfl := (Option.some.inj he).symm
      exact (gref02_Norm_l0_ok qg wt fuel K _ _ _ _ _ _ _ _ _ _ _ _ _ fuel _).trans hr
    · cases hr
noncomputable def gref02_Norm (qg wt : Mo) (fuel : Nat) (qc1 : Bool) (v4 qaz : Nat) (y9 : Ge) (qcv : Int) : Option AV :=
  let r0 : Option AV := qg [AV.ro 1 v4 qaz y9]; ck (okM [RS.one (LK.l 1)] r0) <| bif (↑(toN (getV r0)) : Int) == 0 then some (AV.tup [AV.agg [AV.bool false,AV.ro 1 0 0 fun (x j : Nat) => [AV.int .u64 0].getD j AV.dead,AV.int .i64 0],AV.int .i64 0])
  else gref02_Norm_l0 qg wt fuel
    (fun (qmr qn4 : Nat) (qm2 : Ge) (qmn : Int) (z9 : Bool) (_ _ : Nat) (_ : Ge) (qdv : Int) (_ : Bool) (_ : Int) (_ : List AV) (_ : List (List AV)) => let r1 : Option AV := wt [AV.ro 1 qmr qn4 qm2,AV.int .i64 qmn]; ck (okM [RS.one (LK.l 1),RS.one LK.b] r1) <| ck (bif !decide ((↑(toN ((toT (getV r1)).headD .dead)) : Int) > 256) then true else true) <| ck (bif !bif decide ((↑(toN ((toT (getV r1)).headD .dead)) : Int) > 256) then true else decide (qdv > 65536) then true else true) <| ck (bif !bif bif decide ((↑(toN ((toT (getV r1)).headD .dead)) : Int) > 256) then true else decide (qdv > 65536) then true else decide (qdv < IntKind.i64.wrap ((-65536) - qmn)) then true else true) <| bif bif bif bif decide ((↑(toN ((toT (getV r1)).headD .dead)) : Int) > 256) then true else decide (qdv > 65536) then true else decide (qdv < IntKind.i64.wrap ((-65536) - qmn)) then true else decide (IntKind.i64.wrap (qdv + qmn) > 65536) then some (AV.tup [AV.agg [AV.bool false,AV.ro 1 0 0 fun (x j : Nat) => [AV.int .u64 0].getD j AV.dead,AV.int .i64 0],AV.int .i64 3])
      else some (AV.tup [AV.agg [AV.bool z9,AV.ro 1 (toN ((toT (getV r1)).headD .dead)) (toR ((toT (getV r1)).headD .dead)) (toG ((toT (getV r1)).headD .dead)),AV.int .i64 (IntKind.i64.wrap (qdv + qmn))],AV.int .i64 0]))
    (toN (getV r0))
    (toR (getV r0))
    (toG (getV r0))
    qc1
    v4
    qaz
    y9
    qcv
    false
    (0)
    ([AV.int .u64 0])
    ([]) fuel (0)
noncomputable def mref02_Norm (qg wt : Mo) (fuel : Nat) (xs : List AV) : Option AV := match xs with
  | [AV.agg [AV.bool qc1,AV.ro 1 v4 qaz y9,AV.int .i64 qcv]] => gref02_Norm qg wt fuel qc1 v4 qaz y9 qcv
  | _ => none
abbrev Rref02_Norm : List RS := [RS.agg [LK.b,LK.l (nat_lit 1),LK.i .i64],RS.one (LK.i .i64)]
theorem gref02_Norm_sm (qg wt : Mo) (fuel : Nat) (hΓ : GamOk Pr (Gref02_Norm qg wt)) (hP : NamesOk Pr) : SmOk Pr 146 (smM Rref02_Norm (mref02_Norm qg wt fuel)) := smL (L := (Lref02_Norm qg wt fuel)) (n := 1) hΓ hP (by kernel_rfl) (fun i hi => match i,hi with
  | 0,_ => gref02_Norm_L0 qg wt fuel
  | i + 1,hi => absurd hi (by omega)) fun xs v h => by
  unfold mref02_Norm at h
  split at h
  · exact Eq.trans (by kernel_rfl) h
  · cases h
noncomputable def Gref02_Told (y0 : Mo) : Gam := [(146,smM [RS.agg [LK.b,LK.l (nat_lit 1),LK.i .i64],RS.one (LK.i .i64)] y0)]
noncomputable def gref02_Told (y0 : Mo) (fuel : Nat) (qo4 : Bool) (qk7 qkq : Nat) (qky : Ge) (qoi : Int) : Option AV :=
  let r0 : Option AV := y0 [AV.agg [AV.bool qo4,AV.ro 1 qk7 qkq qky,AV.int .i64 qoi]]; ck (okM [RS.agg [LK.b,LK.l 1,LK.i .i64],RS.one (LK.i .i64)] r0) <| some (AV.tup [AV.agg [AV.bool (toB ((toC ((toT (getV r0)).headD .dead)).headD .dead)),AV.ro 1 (toN ((toC ((toT (getV r0)).headD .dead)).tail.headD .dead)) (toR ((toC ((toT (getV r0)).headD .dead)).tail.headD .dead)) (toG ((toC ((toT (getV r0)).headD .dead)).tail.headD .dead)),AV.int .i64 (toI ((toC ((toT (getV r0)).headD .dead)).tail.tail.headD .dead))],AV.int .i64 (toI ((toT (getV r0)).tail.headD .dead))])
noncomputable def mref02_Told (y0 : Mo) (fuel : Nat) (xs : List AV) : Option AV := match xs with
  | [AV.agg [AV.bool qo4,AV.ro 1 qk7 qkq qky,AV.int .i64 qoi]] => gref02_Told y0 fuel qo4 qk7 qkq qky qoi
  | _ => none
abbrev Rref02_Told : List RS := [RS.agg [LK.b,LK.l (nat_lit 1),LK.i .i64],RS.one (LK.i .i64)]
theorem gref02_Told_sm (y0 : Mo) (fuel : Nat) (hΓ : GamOk Pr (Gref02_Told y0)) (hP : NamesOk Pr) : SmOk Pr 89 (smM Rref02_Told (mref02_Told y0 fuel)) := sm0 (fuel := fuel) (d := 7) hΓ hP fun xs v h => by
  unfold mref02_Told at h
  split at h
  · exact Eq.trans (by kernel_rfl) h
  · cases h
noncomputable def Gref02_Int (yk yy : Mo) : Gam := [(90,smM [RS.agg [LK.b,LK.l (nat_lit 1),LK.i .i64]] yk),(89,smM [RS.agg [LK.b,LK.l (nat_lit 1),LK.i .i64],RS.one (LK.i .i64)] yy)]
noncomputable def gref02_Int (yk yy : Mo) (fuel : Nat) (un0 : Int) : Option AV :=
  let r0 : Option AV := yk [AV.int .i64 un0]; ck (okM [RS.agg [LK.b,LK.l 1,LK.i .i64]] r0) <| let r1 : Option AV := yy [AV.agg [AV.bool (toB ((toC (getV r0)).headD .dead)),AV.ro 1 (toN ((toC (getV r0)).tail.headD .dead)) (toR ((toC (getV r0)).tail.headD .dead)) (toG ((toC (getV r0)).tail.headD .dead)),AV.int .i64 (toI ((toC (getV r0)).tail.tail.headD .dead))]]; ck (okM [RS.agg [LK.b,LK.l 1,LK.i .i64],RS.one (LK.i .i64)] r1) <| some (AV.agg [AV.bool (toB ((toC ((toT (getV r1)).headD .dead)).headD .dead)),AV.ro 1 (toN ((toC ((toT (getV r1)).headD .dead)).tail.headD .dead)) (toR ((toC ((toT (getV r1)).headD .dead)).tail.headD .dead)) (toG ((toC ((toT (getV r1)).headD .dead)).tail.headD .dead)),AV.int .i64 (toI ((toC ((toT (getV r1)).headD .dead)).tail.tail.headD .dead))])
noncomputable def mref02_Int (yk yy : Mo) (fuel : Nat) (xs : List AV) : Option AV := match xs with
  | [AV.int .i64 un0] => gref02_Int yk yy fuel un0
  | _ => none
abbrev Rref02_Int : List RS := [RS.agg [LK.b,LK.l (nat_lit 1),LK.i .i64]]
theorem gref02_Int_sm (yk yy : Mo) (fuel : Nat) (hΓ : GamOk Pr (Gref02_Int yk yy)) (hP : NamesOk Pr) : SmOk Pr 42 (smM Rref02_Int (mref02_Int yk yy fuel)) := sm0 (fuel := fuel) (d := 7) hΓ hP fun xs v h => by
  unfold mref02_Int at h
  split at h
  · exact Eq.trans (by kernel_rfl) h
  · cases h
noncomputable def Glaw22_ones (pe : Mo) : Gam := [(42,smM [RS.agg [LK.b,LK.l (nat_lit 1),LK.i .i64]] pe)]
noncomputable def glaw22_ones (pe : Mo) (fuel : Nat) (un0 : Int) : Option AV :=
  let r0 : Option AV := pe [AV.int .i64 un0]; ck (okM [RS.agg [LK.b,LK.l 1,LK.i .i64]] r0) <| some (AV.ro 3 [[AV.bool (toB ((toC (getV r0)).headD .dead)),AV.ro 1 (toN ((toC (getV r0)).tail.headD .dead)) (toR ((toC (getV r0)).tail.headD .dead)) (toG ((toC (getV r0)).tail.headD .dead)),AV.int .i64 (toI ((toC (getV r0)).tail.tail.headD .dead))]].length [[AV.bool (toB ((toC (getV r0)).headD .dead)),AV.ro 1 (toN ((toC (getV r0)).tail.headD .dead)) (toR ((toC (getV r0)).tail.headD .dead)) (toG ((toC (getV r0)).tail.headD .dead)),AV.int .i64 (toI ((toC (getV r0)).tail.tail.headD .dead))]].length fun (i j : Nat) => ([[AV.bool (toB ((toC (getV r0)).headD .dead)),AV.ro 1 (toN ((toC (getV r0)).tail.headD .dead)) (toR ((toC (getV r0)).tail.headD .dead)) (toG ((toC (getV r0)).tail.headD .dead)),AV.int .i64 (toI ((toC (getV r0)).tail.tail.headD .dead))]].getD i [AV.bool false,AV.nils 1 [AV.int .u64 0],AV.int .i64 0]).getD j AV.dead)
noncomputable def mlaw22_ones (pe : Mo) (fuel : Nat) (xs : List AV) : Option AV := match xs with
  | [AV.int .i64 un0] => glaw22_ones pe fuel un0
  | _ => none
abbrev Rlaw22_ones : List RS := [RS.one (LK.l (nat_lit 3))]
theorem glaw22_ones_sm (pe : Mo) (fuel : Nat) (hΓ : GamOk Pr (Glaw22_ones pe)) (hP : NamesOk Pr) : SmOk Pr 9 (smM Rlaw22_ones (mlaw22_ones pe fuel)) := sm0 (fuel := fuel) (d := 7) hΓ hP fun xs v h => by
  unfold mlaw22_ones at h
  split at h
  · exact Eq.trans (by kernel_rfl) h
  · cases h
noncomputable def Gdyad_Right : Gam := []
noncomputable def gdyad_Right (fuel : Nat) (qc1 : Bool) (v4 qaz : Nat) (y9 : Ge) (qcv : Int) : Option AV :=
  bif (↑v4 : Int) == 0 then ck (bif !qc1 then true else true) <| some (AV.bool (bif !qc1 then qcv == 0 else false))
  else ck (bif decide ((↑v4 : Int) ≤ 256) then true else true) <| ck (bif decide ((↑v4 : Int) ≤ 256) then decide (0 ≤ IntKind.i64.wrap ((↑v4 : Int) - 1)) else true) <| ck (bif decide ((↑v4 : Int) ≤ 256) then decide (IntKind.i64.wrap ((↑v4 : Int) - 1) < (↑v4 : Int)) else true) <| ck (bif decide ((↑v4 : Int) ≤ 256) then true else true) <| ck (bif decide ((↑v4 : Int) ≤ 256) then fitK (LK.i .u64) (y9 (IntKind.i64.wrap ((↑v4 : Int) - 1)).toNat 0) else true) <| ck (bif bif decide ((↑v4 : Int) ≤ 256) then toI (y9 (IntKind.i64.wrap ((↑v4 : Int) - 1)).toNat 0) != 0 else false then true else true) <| ck (bif bif decide ((↑v4 : Int) ≤ 256) then toI (y9 (IntKind.i64.wrap ((↑v4 : Int) - 1)).toNat 0) != 0 else false then true else true) <| ck (bif bif decide ((↑v4 : Int) ≤ 256) then toI (y9 (IntKind.i64.wrap ((↑v4 : Int) - 1)).toNat 0) != 0 else false then decide (0 < (↑v4 : Int)) else true) <| ck (bif bif decide ((↑v4 : Int) ≤ 256) then toI (y9 (IntKind.i64.wrap ((↑v4 : Int) - 1)).toNat 0) != 0 else false then true else true) <| ck (bif bif decide ((↑v4 : Int) ≤ 256) then toI (y9 (IntKind.i64.wrap ((↑v4 : Int) - 1)).toNat 0) != 0 else false then fitK (LK.i .u64) (y9 0 0) else true) <| ck (bif bif bif decide ((↑v4 : Int) ≤ 256) then toI (y9 (IntKind.i64.wrap ((↑v4 : Int) - 1)).toNat 0) != 0 else false then IntKind.u64.wrap (↑(BitVec.ofInt 64 (toI (y9 0 0)) &&& BitVec.ofInt 64 1).toNat : Int) == 1 else false then true else true) <| ck (bif bif bif bif decide ((↑v4 : Int) ≤ 256) then toI (y9 (IntKind.i64.wrap ((↑v4 : Int) - 1)).toNat 0) != 0 else false then IntKind.u64.wrap (↑(BitVec.ofInt 64 (toI (y9 0 0)) &&& BitVec.ofInt 64 1).toNat : Int) == 1 else false then decide ((-65536) ≤ qcv) else false then true else true) <| some (AV.bool (bif bif bif bif decide ((↑v4 : Int) ≤ 256) then toI (y9 (IntKind.i64.wrap ((↑v4 : Int) - 1)).toNat 0) != 0 else false then IntKind.u64.wrap (↑(BitVec.ofInt 64 (toI (y9 0 0)) &&& BitVec.ofInt 64 1).toNat : Int) == 1 else false then decide ((-65536) ≤ qcv) else false then decide (qcv ≤ 65536) else false))
noncomputable def mdyad_Right (fuel : Nat) (xs : List AV) : Option AV := match xs with
  | [AV.agg [AV.bool qc1,AV.ro 1 v4 qaz y9,AV.int .i64 qcv]] => gdyad_Right fuel qc1 v4 qaz y9 qcv
  | _ => none
abbrev Rdyad_Right : List RS := [RS.one LK.b]
theorem gdyad_Right_sm (fuel : Nat) (hΓ : GamOk Pr Gdyad_Right) (hP : NamesOk Pr) : SmOk Pr 27 (smM Rdyad_Right (mdyad_Right fuel)) := sm0 (fuel := fuel) (d := 7) hΓ hP fun xs v h => by
  unfold mdyad_Right at h
  split at h
  · exact Eq.trans (by kernel_rfl) h
  · cases h
noncomputable def Gbits_Kind (wf qf : Mo) : Gam := [(162,smM [RS.one (LK.f .f64)] wf),(156,smM [RS.one LK.b] qf)]
noncomputable def gbits_Kind (wf qf : Mo) (fuel : Nat) (ux0 : Option Nat) : Option AV :=
  ck (okM [RS.one (LK.f .f64)] (wf [AV.flt .f64 ux0])) <| bif ford .f64 ux0 ux0 != some Ordering.eq then some (AV.int .i64 4)
  else ck (okM [RS.one LK.b] (qf [AV.flt .f64 ux0,AV.int .i64 0])) <| bif toB (getV (qf [AV.flt .f64 ux0,AV.int .i64 0])) then some (AV.int .i64 3)
  else bif ford .f64 (toF (getV (wf [AV.flt .f64 ux0]))) (some 4503599627370496) == some Ordering.gt || ford .f64 (toF (getV (wf [AV.flt .f64 ux0]))) (some 4503599627370496) == some Ordering.eq then some (AV.int .i64 2)
  else bif ford .f64 (toF (getV (wf [AV.flt .f64 ux0]))) (some 0) == some Ordering.gt then some (AV.int .i64 1)
  else some (AV.int .i64 0)
noncomputable def mbits_Kind (wf qf : Mo) (fuel : Nat) (xs : List AV) : Option AV := match xs with
  | [AV.flt .f64 ux0] => gbits_Kind wf qf fuel ux0
  | _ => none
abbrev Rbits_Kind : List RS := [RS.one (LK.i .i64)]
theorem gbits_Kind_sm (wf qf : Mo) (fuel : Nat) (hΓ : GamOk Pr (Gbits_Kind wf qf)) (hP : NamesOk Pr) : SmOk Pr 186 (smM Rbits_Kind (mbits_Kind wf qf fuel)) := sm0 (fuel := fuel) (d := 7) hΓ hP fun xs v h => by
  unfold mbits_Kind at h
  split at h
  · exact Eq.trans (by kernel_rfl) h
  · cases h
noncomputable def Gmath_archFrexp : Gam := []
noncomputable def gmath_archFrexp (fuel : Nat) (ux0 : Option Nat) : Option AV :=
  none
noncomputable def mmath_archFrexp (fuel : Nat) (xs : List AV) : Option AV := match xs with
  | [AV.flt .f64 ux0] => gmath_archFrexp fuel ux0
  | _ => none
abbrev Rmath_archFrexp : List RS := [RS.one (LK.f .f64),RS.one (LK.i .i64)]
theorem gmath_archFrexp_sm (fuel : Nat) (hΓ : GamOk Pr Gmath_archFrexp) (hP : NamesOk Pr) : SmOk Pr 224 (smM Rmath_archFrexp (mmath_archFrexp fuel)) := sm0 (fuel := fuel) (d := 7) hΓ hP fun xs v h => by
  unfold mmath_archFrexp at h
  split at h
  · exact Eq.trans (by kernel_rfl) h
  · cases h
noncomputable def Gmath_normalize (wf : Mo) : Gam := [(162,smM [RS.one (LK.f .f64)] wf)]
noncomputable def gmath_normalize (wf : Mo) (fuel : Nat) (ux0 : Option Nat) : Option AV :=
  ck (okM [RS.one (LK.f .f64)] (wf [AV.flt .f64 ux0])) <| bif ford .f64 (toF (getV (wf [AV.flt .f64 ux0]))) (some 4503599627370496) == some Ordering.lt then some (AV.tup [AV.flt .f64 (farith BinOp.mul .f64 ux0 (some 4841369599423283200)),AV.int .i64 (-52)])
  else some (AV.tup [AV.flt .f64 ux0,AV.int .i64 0])
noncomputable def mmath_normalize (wf : Mo) (fuel : Nat) (xs : List AV) : Option AV := match xs with
  | [AV.flt .f64 ux0] => gmath_normalize wf fuel ux0
  | _ => none
abbrev Rmath_normalize : List RS := [RS.one (LK.f .f64),RS.one (LK.i .i64)]
theorem gmath_normalize_sm (wf : Mo) (fuel : Nat) (hΓ : GamOk Pr (Gmath_normalize wf)) (hP : NamesOk Pr) : SmOk Pr 250 (smM Rmath_normalize (mmath_normalize wf fuel)) := sm0 (fuel := fuel) (d := 7) hΓ hP fun xs v h => by
  unfold mmath_normalize at h
  split at h
  · exact Eq.trans (by kernel_rfl) h
  · cases h
noncomputable def Gmath_frexp (qf wm vs : Mo) : Gam := [(156,smM [RS.one LK.b] qf),(203,smM [RS.one LK.b] wm),(250,smM [RS.one (LK.f .f64),RS.one (LK.i .i64)] vs),(66,Go.Am.sBits),(185,Go.Am.sFrom)]
noncomputable def gmath_frexp (qf wm vs : Mo) (fuel : Nat) (uf0 : Option Nat) : Option AV :=
  bif ford .f64 uf0 (some 0) == some Ordering.eq then some (AV.tup [AV.flt .f64 uf0,AV.int .i64 0])
  else ck (okM [RS.one LK.b] (qf [AV.flt .f64 uf0,AV.int .i64 0])) <| ck (bif !toB (getV (qf [AV.flt .f64 uf0,AV.int .i64 0])) then okM [RS.one LK.b] (wm [AV.flt .f64 uf0]) else true) <| bif bif toB (getV (qf [AV.flt .f64 uf0,AV.int .i64 0])) then true else toB (getV (wm [AV.flt .f64 uf0])) then some (AV.tup [AV.flt .f64 uf0,AV.int .i64 0])
  else let r0 : Option AV := vs [AV.flt .f64 uf0]; ck (okM [RS.one (LK.f .f64),RS.one (LK.i .i64)] r0) <| ck (sBits.ok [AV.flt .f64 (toF ((toT (getV r0)).headD .dead))]) <| ck (sFrom.ok [AV.int .u64 (IntKind.u64.wrap (↑(BitVec.ofInt 64 (IntKind.u64.wrap (↑(BitVec.ofInt 64 (↑((toF ((toT (getV r0)).headD .dead)).getD 0) : Int) &&& ~~~BitVec.ofInt 64 9218868437227405312).toNat : Int)) ||| BitVec.ofInt 64 4602678819172646912).toNat : Int))]) <| some (AV.tup [AV.flt .f64 (some (IntKind.u64.wrap (↑(BitVec.ofInt 64 (IntKind.u64.wrap (↑(BitVec.ofInt 64 (↑((toF ((toT (getV r0)).headD .dead)).getD 0) : Int) &&& ~~~BitVec.ofInt 64 9218868437227405312).toNat : Int)) ||| BitVec.ofInt 64 4602678819172646912).toNat : Int)).toNat),AV.int .i64 (IntKind.i64.wrap (toI ((toT (getV r0)).tail.headD .dead) + IntKind.i64.wrap (IntKind.i64.wrap (IntKind.i64.wrap (IntKind.u64.wrap (↑(BitVec.ofInt 64 ((↑((toF ((toT (getV r0)).headD .dead)).getD 0) : Int).fdiv (2 ^ 52)) &&& BitVec.ofInt 64 2047).toNat : Int)) - 1023) + 1)))])
noncomputable def mmath_frexp (qf wm vs : Mo) (fuel : Nat) (xs : List AV) : Option AV := match xs with
  | [AV.flt .f64 uf0] => gmath_frexp qf wm vs fuel uf0
  | _ => none
abbrev Rmath_frexp : List RS := [RS.one (LK.f .f64),RS.one (LK.i .i64)]
theorem gmath_frexp_sm (qf wm vs : Mo) (fuel : Nat) (hΓ : GamOk Pr (Gmath_frexp qf wm vs)) (hP : NamesOk Pr) : SmOk Pr 225 (smM Rmath_frexp (mmath_frexp qf wm vs fuel)) := sm0 (fuel := fuel) (d := 7) hΓ hP fun xs v h => by
  unfold mmath_frexp at h
  split at h
  · exact Eq.trans (by kernel_rfl) h
  · cases h
noncomputable def Gmath_Frexp (vx yz : Mo) : Gam := [(224,smM [RS.one (LK.f .f64),RS.one (LK.i .i64)] vx),(225,smM [RS.one (LK.f .f64),RS.one (LK.i .i64)] yz)]
noncomputable def gmath_Frexp (vx yz : Mo) (fuel : Nat) (uf0 : Option Nat) : Option AV :=
  let r0 : Option AV := yz [AV.flt .f64 uf0]; ck (okM [RS.one (LK.f .f64),RS.one (LK.i .i64)] r0) <| some (AV.tup [AV.flt .f64 (toF ((toT (getV r0)).headD .dead)),AV.int .i64 (toI ((toT (getV r0)).tail.headD .dead))])
noncomputable def mmath_Frexp (vx yz : Mo) (fuel : Nat) (xs : List AV) : Option AV := match xs with
  | [AV.flt .f64 uf0] => gmath_Frexp vx yz fuel uf0
  | _ => none
abbrev Rmath_Frexp : List RS := [RS.one (LK.f .f64),RS.one (LK.i .i64)]
theorem gmath_Frexp_sm (vx yz : Mo) (fuel : Nat) (hΓ : GamOk Pr (Gmath_Frexp vx yz)) (hP : NamesOk Pr) : SmOk Pr 187 (smM Rmath_Frexp (mmath_Frexp vx yz fuel)) := sm0 (fuel := fuel) (d := 7) hΓ hP fun xs v h => by
  unfold mmath_Frexp at h
  split at h
  · exact Eq.trans (by kernel_rfl) h
  · cases h
noncomputable def Gdyad_Sign (yu : Mo) : Gam := [(27,smM [RS.one LK.b] yu)]
noncomputable def gdyad_Sign (yu : Mo) (fuel : Nat) (qc1 : Bool) (v4 qaz : Nat) (y9 : Ge) (qcv : Int) : Option AV :=
  ck (okM [RS.one LK.b] (yu [AV.agg [AV.bool qc1,AV.ro 1 v4 qaz y9,AV.int .i64 qcv]])) <| bif !toB (getV (yu [AV.agg [AV.bool qc1,AV.ro 1 v4 qaz y9,AV.int .i64 qcv]])) then some (AV.tup [AV.int .i64 0,AV.int .i64 2])
  else bif (↑v4 : Int) == 0 then some (AV.tup [AV.int .i64 0,AV.int .i64 0])
  else bif qc1 then some (AV.tup [AV.int .i64 (-1),AV.int .i64 0])
  else some (AV.tup [AV.int .i64 1,AV.int .i64 0])
noncomputable def mdyad_Sign (yu : Mo) (fuel : Nat) (xs : List AV) : Option AV := match xs with
  | [AV.agg [AV.bool qc1,AV.ro 1 v4 qaz y9,AV.int .i64 qcv]] => gdyad_Sign yu fuel qc1 v4 qaz y9 qcv
  | _ => none
abbrev Rdyad_Sign : List RS := [RS.one (LK.i .i64),RS.one (LK.i .i64)]
theorem gdyad_Sign_sm (yu : Mo) (fuel : Nat) (hΓ : GamOk Pr (Gdyad_Sign yu)) (hP : NamesOk Pr) : SmOk Pr 128 (smM Rdyad_Sign (mdyad_Sign yu fuel)) := sm0 (fuel := fuel) (d := 7) hΓ hP fun xs v h => by
  unfold mdyad_Sign at h
  split at h
  · exact Eq.trans (by kernel_rfl) h
  · cases h
noncomputable def Strim_0 (qp qt : Nat) (qm : Ge) (un3 : Int) : St := { env := [(0,AV.ro 1 qp qt qm),(3,AV.int .i64 un3)],h := [],kd := [] }
noncomputable def Xtrim_0_0 (qb7 qd8 : Nat) (qd7 : Ge) (qd9 : Int) : St := { env := [(0,AV.ro 1 qb7 qd8 qd7),(3,AV.int .i64 qd9)],h := [],kd := [] }
noncomputable def gtrim_l0_step (fuel : Nat) (kn : Int → Option AV) (kx0 : Nat → Nat → Ge → Int → Option AV) (qp qt : Nat) (qm : Ge) (un3 : Int) : Option AV :=
  ck (bif decide (un3 > 0) then decide (0 ≤ IntKind.i64.wrap (un3 - 1)) else true) <| ck (bif decide (un3 > 0) then decide (IntKind.i64.wrap (un3 - 1) < (↑qp : Int)) else true) <| ck (bif decide (un3 > 0) then true else true) <| ck (bif decide (un3 > 0) then fitK (LK.i .u32) (qm (IntKind.i64.wrap (un3 - 1)).toNat 0) else true) <| bif bif decide (un3 > 0) then toI (qm (IntKind.i64.wrap (un3 - 1)).toNat 0) == 0 else false then kn (IntKind.i64.wrap (un3 - 1))
  else kx0 qp qt qm un3
noncomputable def gtrim_l0 (fuel : Nat) (kx0 : Nat → Nat → Ge → Int → Option AV) (qp qt : Nat) (qm : Ge) : Nat → Int → Option AV
  | 0,_ => none
  | n' + 1,un3 => gtrim_l0_step fuel (gtrim_l0 fuel kx0 qp qt qm n') kx0 qp qt qm un3
noncomputable def Ttrim_0 : TS' := ⟨[(0,TA.ro 1),(3,TA.i .i64)],[],[]⟩
noncomputable def Ftrim_0 (fuel : Nat) (ps : List Pay) (K : Ex → St → Option AV) : Option AV := match ps with
  | .n qp :: .n qt :: .g qm :: .i un3 :: [] => gtrim_l0 fuel (fun qb7 qd8 qd7 qd9 => K (Ex.exit 0) (Xtrim_0_0 qb7 qd8 qd7 qd9)) qp qt qm fuel un3
  | _ => none
noncomputable def Ltrim (fuel : Nat) : Lam AV := [(262088,lam Ttrim_0 (Ftrim_0 fuel))]
noncomputable def Gtrim : Gam := []
theorem gtrim_l0_eq (fuel : Nat) (kn : St → Option AV) (K : Ex → St → Option AV) (qp qt : Nat) (qm : Ge) (qfb un3 : Int) :
    bX Pr Gtrim (Ltrim fuel) 6 195 0 fuel (Strim_0 qp qt qm un3) (fun e s => match e with | .normal => kn (hX Pr 195 0 (Strim_0 qp qt qm qfb) s) | e => K e s) =
    gtrim_l0_step fuel (fun un3 => kn (Strim_0 qp qt qm un3)) (fun p7 qax qay qco => K (Ex.exit 0) (Xtrim_0_0 p7 qax qay qco)) qp qt qm un3 := by kernel_rfl
theorem gtrim_l0_ok (fuel : Nat) (K : Ex → St → Option AV) (qp qt : Nat) (qm : Ge) (qfb : Int) : ∀ (n' : Nat) (un3 : Int),
    loopK (bX Pr Gtrim (Ltrim fuel) 6 195 0 fuel) (hX Pr 195 0 (Strim_0 qp qt qm qfb)) n' (Strim_0 qp qt qm un3) K = gtrim_l0 fuel (fun p7 qax qay qco => K (Ex.exit 0) (Xtrim_0_0 p7 qax qay qco)) qp qt qm n' un3
  | 0,_ => rfl
  | n' + 1,un3 => (gtrim_l0_eq fuel (fun s => loopK (bX Pr Gtrim (Ltrim fuel) 6 195 0 fuel) (hX Pr 195 0 (Strim_0 qp qt qm qfb)) n' s K) K qp qt qm qfb un3).trans
    (congrArg (fun kn => gtrim_l0_step fuel kn _ qp qt qm un3) (funext fun un3 => gtrim_l0_ok fuel K qp qt qm qfb n' un3))
theorem gtrim_L0 (fuel : Nat) : LX Pr Gtrim (Ltrim fuel) 6 195 0 fuel := by
  refine .of Ttrim_0 (Ftrim_0 fuel) (fun L h => ?_) (fun ps st K r he hr => ?_)
  · have e : (Ltrim fuel).get (writes (lp Pr 195 0).1) = some (lam Ttrim_0 (Ftrim_0 fuel)) := by kernel_rfl
    exact (Option.some.inj (e.symm.trans h)).symm
  · unfold Ftrim_0 at hr
    split at hr
    · obtain rfl := (Option.some.inj he).symm
      exact (gtrim_l0_ok fuel K _ _ _ _ fuel _).trans hr
    · cases hr
noncomputable def gtrim (fuel zn vq : Nat) (vh : Ge) : Option AV :=
  gtrim_l0 fuel
    (fun (_ qax : Nat) (qay : Ge) (qco : Int) => ck (decide (0 ≤ qco)) <| ck (decide (qco ≤ (↑qax : Int))) <| some (AV.ro 1 (qco.toNat - 0) (qax - 0) fun (i : Nat) => qay (0 + i)))
    zn
    vq
    vh fuel ((↑zn : Int))
noncomputable def mtrim (fuel : Nat) (xs : List AV) : Option AV := match xs with
  | [AV.ro 1 zn vq vh] => gtrim fuel zn vq vh
  | _ => none
abbrev Rtrim : List RS := [RS.one (LK.l (nat_lit 1))]
theorem gtrim_sm (fuel : Nat) (hΓ : GamOk Pr Gtrim) (hP : NamesOk Pr) : SmOk Pr 195 (smM Rtrim (mtrim fuel)) := smL (L := (Ltrim fuel)) (n := 1) hΓ hP (by kernel_rfl) (fun i hi => match i,hi with
  | 0,_ => gtrim_L0 fuel
  | i + 1,hi => absurd hi (by omega)) fun xs v h => by
  unfold mtrim at h
  split at h
  · exact Eq.trans (by kernel_rfl) h
  · cases h
noncomputable def Sleft_0 (qp qt : Nat) (qm : Ge) (uw5 us6 : Int) (pq qck qdc : Nat) (ui8 : Int) (h0z : List AV) (h0e : List (List AV)) : St := { env := [(0,AV.ro 1 qp qt qm),(5,AV.int .i64 uw5),(6,AV.int .u64 us6),(7,AV.own 0 pq 1 qck qdc),(8,AV.int .i64 ui8)],h := [Blk.fx 1 h0z h0e],kd := [] }
noncomputable def Xleft_0_0 (qi9 qjh qjf : Nat) (yp : List AV) (yr : List (List AV)) : St := { env := [(7,AV.own 0 qi9 1 qjh qjf)],h := [Blk.fx 1 yp yr],kd := [] }
noncomputable def gleft_l0_step (qe : Mo) (fuel : Nat) (kn : Int → List (List AV) → Option AV) (kx0 : Nat → Nat → Nat → List AV → List (List AV) → Option AV) (qp qt : Nat) (qm : Ge) (uw5 us6 : Int) (pq qck qdc : Nat) (h0z : List AV) (ui8 : Int) (h0e : List (List AV)) : Option AV :=
  bif decide (ui8 < (↑qp : Int)) then ck (decide (0 ≤ ui8)) <| ck (decide (ui8 < (↑qp : Int))) <| ck (fitK (LK.i .u32) (qm ui8.toNat 0)) <| ck (decide (0 ≤ us6)) <| ck (decide (0 ≤ IntKind.i64.wrap (ui8 + uw5))) <| ck (decide (IntKind.i64.wrap (ui8 + uw5) < (↑qck : Int))) <| ck (fitK (LK.i .u32) ((h0e.getD (pq + (IntKind.i64.wrap (ui8 + uw5)).toNat) h0z).getD 0 AV.dead)) <| ck (decide (0 ≤ IntKind.i64.wrap (ui8 + uw5))) <| ck (decide (IntKind.i64.wrap (ui8 + uw5) < (↑qck : Int))) <| ck (decide (0 ≤ IntKind.i64.wrap (IntKind.i64.wrap (ui8 + uw5) + 1))) <| ck (decide (IntKind.i64.wrap (IntKind.i64.wrap (ui8 + uw5) + 1) < (↑qck : Int))) <| ck (fitK (LK.i .u32) (((h0e.set (pq + (IntKind.i64.wrap (ui8 + uw5)).toNat) (AV.int .u32 (IntKind.u32.wrap (↑(BitVec.ofInt 32 (toI ((h0e.getD (pq + (IntKind.i64.wrap (ui8 + uw5)).toNat) h0z).getD 0 AV.dead)) ||| BitVec.ofInt 32 (IntKind.u32.wrap (IntKind.u64.wrap (IntKind.u64.wrap (toI (qm ui8.toNat 0)) * 2 ^ min us6.toNat 64)))).toNat : Int)) :: List.drop (0 + [AV.int .u32 (IntKind.u32.wrap (↑(BitVec.ofInt 32 (toI ((h0e.getD (pq + (IntKind.i64.wrap (ui8 + uw5)).toNat) h0z).getD 0 AV.dead)) ||| BitVec.ofInt 32 (IntKind.u32.wrap (IntKind.u64.wrap (IntKind.u64.wrap (toI (qm ui8.toNat 0)) * 2 ^ min us6.toNat 64)))).toNat : Int))].length) (h0e.getD (pq + (IntKind.i64.wrap (ui8 + uw5)).toNat) h0z))).getD (pq + (IntKind.i64.wrap (IntKind.i64.wrap (ui8 + uw5) + 1)).toNat) h0z).getD 0 AV.dead)) <| ck (decide (0 ≤ IntKind.i64.wrap (IntKind.i64.wrap (ui8 + uw5) + 1))) <| ck (decide (IntKind.i64.wrap (IntKind.i64.wrap (ui8 + uw5) + 1) < (↑qck : Int))) <| kn (IntKind.i64.wrap (ui8 + 1)) ((h0e.set (pq + (IntKind.i64.wrap (ui8 + uw5)).toNat) (AV.int .u32 (IntKind.u32.wrap (↑(BitVec.ofInt 32 (toI ((h0e.getD (pq + (IntKind.i64.wrap (ui8 + uw5)).toNat) h0z).getD 0 AV.dead)) ||| BitVec.ofInt 32 (IntKind.u32.wrap (IntKind.u64.wrap (IntKind.u64.wrap (toI (qm ui8.toNat 0)) * 2 ^ min us6.toNat 64)))).toNat : Int)) :: List.drop (0 + [AV.int .u32 (IntKind.u32.wrap (↑(BitVec.ofInt 32 (toI ((h0e.getD (pq + (IntKind.i64.wrap (ui8 + uw5)).toNat) h0z).getD 0 AV.dead)) ||| BitVec.ofInt 32 (IntKind.u32.wrap (IntKind.u64.wrap (IntKind.u64.wrap (toI (qm ui8.toNat 0)) * 2 ^ min us6.toNat 64)))).toNat : Int))].length) (h0e.getD (pq + (IntKind.i64.wrap (ui8 + uw5)).toNat) h0z))).set (pq + (IntKind.i64.wrap (IntKind.i64.wrap (ui8 + uw5) + 1)).toNat) (AV.int .u32 (IntKind.u32.wrap (↑(BitVec.ofInt 32 (toI (((h0e.set (pq + (IntKind.i64.wrap (ui8 + uw5)).toNat) (AV.int .u32 (IntKind.u32.wrap (↑(BitVec.ofInt 32 (toI ((h0e.getD (pq + (IntKind.i64.wrap (ui8 + uw5)).toNat) h0z).getD 0 AV.dead)) ||| BitVec.ofInt 32 (IntKind.u32.wrap (IntKind.u64.wrap (IntKind.u64.wrap (toI (qm ui8.toNat 0)) * 2 ^ min us6.toNat 64)))).toNat : Int)) :: List.drop (0 + [AV.int .u32 (IntKind.u32.wrap (↑(BitVec.ofInt 32 (toI ((h0e.getD (pq + (IntKind.i64.wrap (ui8 + uw5)).toNat) h0z).getD 0 AV.dead)) ||| BitVec.ofInt 32 (IntKind.u32.wrap (IntKind.u64.wrap (IntKind.u64.wrap (toI (qm ui8.toNat 0)) * 2 ^ min us6.toNat 64)))).toNat : Int))].length) (h0e.getD (pq + (IntKind.i64.wrap (ui8 + uw5)).toNat) h0z))).getD (pq + (IntKind.i64.wrap (IntKind.i64.wrap (ui8 + uw5) + 1)).toNat) h0z).getD 0 AV.dead)) ||| BitVec.ofInt 32 (IntKind.u32.wrap ((IntKind.u64.wrap (IntKind.u64.wrap (toI (qm ui8.toNat 0)) * 2 ^ min us6.toNat 64)).fdiv (2 ^ 32)))).toNat : Int)) :: List.drop (0 + [AV.int .u32 (IntKind.u32.wrap (↑(BitVec.ofInt 32 (toI (((h0e.set (pq + (IntKind.i64.wrap (ui8 + uw5)).toNat) (AV.int .u32 (IntKind.u32.wrap (↑(BitVec.ofInt 32 (toI ((h0e.getD (pq + (IntKind.i64.wrap (ui8 + uw5)).toNat) h0z).getD 0 AV.dead)) ||| BitVec.ofInt 32 (IntKind.u32.wrap (IntKind.u64.wrap (IntKind.u64.wrap (toI (qm ui8.toNat 0)) * 2 ^ min us6.toNat 64)))).toNat : Int)) :: List.drop (0 + [AV.int .u32 (IntKind.u32.wrap (↑(BitVec.ofInt 32 (toI ((h0e.getD (pq + (IntKind.i64.wrap (ui8 + uw5)).toNat) h0z).getD 0 AV.dead)) ||| BitVec.ofInt 32 (IntKind.u32.wrap (IntKind.u64.wrap (IntKind.u64.wrap (toI (qm ui8.toNat 0)) * 2 ^ min us6.toNat 64)))).toNat : Int))].length) (h0e.getD (pq + (IntKind.i64.wrap (ui8 + uw5)).toNat) h0z))).getD (pq + (IntKind.i64.wrap (IntKind.i64.wrap (ui8 + uw5) + 1)).toNat) h0z).getD 0 AV.dead)) ||| BitVec.ofInt 32 (IntKind.u32.wrap ((IntKind.u64.wrap (IntKind.u64.wrap (toI (qm ui8.toNat 0)) * 2 ^ min us6.toNat 64)).fdiv (2 ^ 32)))).toNat : Int))].length) ((h0e.set (pq + (IntKind.i64.wrap (ui8 + uw5)).toNat) (AV.int .u32 (IntKind.u32.wrap (↑(BitVec.ofInt 32 (toI ((h0e.getD (pq + (IntKind.i64.wrap (ui8 + uw5)).toNat) h0z).getD 0 AV.dead)) ||| BitVec.ofInt 32 (IntKind.u32.wrap (IntKind.u64.wrap (IntKind.u64.wrap (toI (qm ui8.toNat 0)) * 2 ^ min us6.toNat 64)))).toNat : Int)) :: List.drop (0 + [AV.int .u32 (IntKind.u32.wrap (↑(BitVec.ofInt 32 (toI ((h0e.getD (pq + (IntKind.i64.wrap (ui8 + uw5)).toNat) h0z).getD 0 AV.dead)) ||| BitVec.ofInt 32 (IntKind.u32.wrap (IntKind.u64.wrap (IntKind.u64.wrap (toI (qm ui8.toNat 0)) * 2 ^ min us6.toNat 64)))).toNat : Int))].length) (h0e.getD (pq + (IntKind.i64.wrap (ui8 + uw5)).toNat) h0z))).getD (pq + (IntKind.i64.wrap (IntKind.i64.wrap (ui8 + uw5) + 1)).toNat) h0z)))
  else kx0 pq qck qdc h0z h0e
noncomputable def gleft_l0 (qe : Mo) (fuel : Nat) (kx0 : Nat → Nat → Nat → List AV → List (List AV) → Option AV) (qp qt : Nat) (qm : Ge) (uw5 us6 : Int) (pq qck qdc : Nat) (h0z : List AV) : Nat → Int → List (List AV) → Option AV
  | 0,_,_ => none
  | n' + 1,ui8,h0e => gleft_l0_step qe fuel (gleft_l0 qe fuel kx0 qp qt qm uw5 us6 pq qck qdc h0z n') kx0 qp qt qm uw5 us6 pq qck qdc h0z ui8 h0e
noncomputable def Tleft_0 : TS' := ⟨[(0,TA.ro 1),(5,TA.i .i64),(6,TA.i .u64),(7,TA.own 0 1),(8,TA.i .i64)],[TB.fx 1],[]⟩
noncomputable def Fleft_0 (qe : Mo) (fuel : Nat) (ps : List Pay) (K : Ex → St → Option AV) : Option AV := match ps with
  | .n qp :: .n qt :: .g qm :: .i uw5 :: .i us6 :: .n pq :: .n qck :: .n qdc :: .i ui8 :: .z h0z :: .e h0e :: [] => gleft_l0 qe fuel (fun qi9 qjh qjf yp yr => K (Ex.exit 0) (Xleft_0_0 qi9 qjh qjf yp yr)) qp qt qm uw5 us6 pq qck qdc h0z fuel ui8 h0e
  | _ => none
noncomputable def Lleft (qe : Mo) (fuel : Nat) : Lam AV := [(576460752286647040,lam Tleft_0 (Fleft_0 qe fuel))]
noncomputable def Gleft (qe : Mo) : Gam := [(195,smM [RS.one (LK.l (nat_lit 1))] qe)]
theorem gleft_l0_eq (qe : Mo) (fuel : Nat) (kn : St → Option AV) (K : Ex → St → Option AV) (qp qt : Nat) (qm : Ge) (uw5 us6 : Int) (pq qck qdc : Nat) (h0z : List AV) (qfd : Int) (pj : List (List AV)) (ui8 : Int) (h0e : List (List AV)) :
    bX Pr (Gleft qe) (Lleft qe fuel) 6 138 0 fuel (Sleft_0 qp qt qm uw5 us6 pq qck qdc ui8 h0z h0e) (fun e s => match e with | .normal => kn (hX Pr 138 0 (Sleft_0 qp qt qm uw5 us6 pq qck qdc qfd h0z pj) s) | e => K e s) =
    gleft_l0_step qe fuel (fun ui8 h0e => kn (Sleft_0 qp qt qm uw5 us6 pq qck qdc ui8 h0z h0e)) (fun qhl qhm qhp v1 v0 => K (Ex.exit 0) (Xleft_0_0 qhl qhm qhp v1 v0)) qp qt qm uw5 us6 pq qck qdc h0z ui8 h0e := by kernel_rfl
theorem gleft_l0_ok (qe : Mo) (fuel : Nat) (K : Ex → St → Option AV) (qp qt : Nat) (qm : Ge) (uw5 us6 : Int) (pq qck qdc : Nat) (h0z : List AV) (qfd : Int) (pj : List (List AV)) : ∀ (n' : Nat) (ui8 : Int) (h0e : List (List AV)),
    loopK (bX Pr (Gleft qe) (Lleft qe fuel) 6 138 0 fuel) (hX Pr 138 0 (Sleft_0 qp qt qm uw5 us6 pq qck qdc qfd h0z pj)) n' (Sleft_0 qp qt qm uw5 us6 pq qck qdc ui8 h0z h0e) K = gleft_l0 qe fuel (fun qhl qhm qhp v1 v0 => K (Ex.exit 0) (Xleft_0_0 qhl qhm qhp v1 v0)) qp qt qm uw5 us6 pq qck qdc h0z n' ui8 h0e
  | 0,_,_ => rfl
  | n' + 1,ui8,h0e => (gleft_l0_eq qe fuel (fun s => loopK (bX Pr (Gleft qe) (Lleft qe fuel) 6 138 0 fuel) (hX Pr 138 0 (Sleft_0 qp qt qm uw5 us6 pq qck qdc qfd h0z pj)) n' s K) K qp qt qm uw5 us6 pq qck qdc h0z qfd pj ui8 h0e).trans
    (congrArg (fun kn => gleft_l0_step qe fuel kn _ qp qt qm uw5 us6 pq qck qdc h0z ui8 h0e) (funext fun ui8 => funext fun h0e => gleft_l0_ok qe fuel K qp qt qm uw5 us6 pq qck qdc h0z qfd pj n' ui8 h0e))
theorem gleft_L0 (qe : Mo) (fuel : Nat) : LX Pr (Gleft qe) (Lleft qe fuel) 6 138 0 fuel := by
  refine .of Tleft_0 (Fleft_0 qe fuel) (fun L h => ?_) (fun ps st K r he hr => ?_)
  · have e : (Lleft qe fuel).get (writes (lp Pr 138 0).1) = some (lam Tleft_0 (Fleft_0 qe fuel)) := by kernel_rfl
    exact (Option.some.inj (e.symm.trans h)).symm
  · unfold Fleft_0 at hr
    split at hr
    · obtain rfl := (Option.some.inj he).symm
      exact (gleft_l0_ok qe fuel K _ _ _ _ _ _ _ _ _ _ _ fuel _ _).trans hr
    · cases hr
noncomputable def gleft (qe : Mo) (fuel zn vq : Nat) (vh : Ge) (un1 : Int) : Option AV :=
  bif (↑zn : Int) == 0 then some (AV.ro 1 0 0 fun (x j : Nat) => [AV.int .u32 0].getD j AV.dead)
  else ck (decide (0 ≤ IntKind.i64.wrap (IntKind.i64.wrap ((↑zn : Int) + IntKind.i64.wrap (IntKind.u64.wrap (un1.tdiv 32))) + 1))) <| ck (decide (IntKind.i64.wrap (IntKind.i64.wrap ((↑zn : Int) + IntKind.i64.wrap (IntKind.u64.wrap (un1.tdiv 32))) + 1) ≤ IntKind.i64.wrap (IntKind.i64.wrap ((↑zn : Int) + IntKind.i64.wrap (IntKind.u64.wrap (un1.tdiv 32))) + 1))) <| ck ((4 * (IntKind.i64.wrap (IntKind.i64.wrap ((↑zn : Int) + IntKind.i64.wrap (IntKind.u64.wrap (un1.tdiv 32))) + 1)).toNat).ble 281474976710656) <| ck (((IntKind.i64.wrap (IntKind.i64.wrap ((↑zn : Int) + IntKind.i64.wrap (IntKind.u64.wrap (un1.tdiv 32))) + 1)).toNat + 1).ble 4611686018427387904) <| gleft_l0 qe fuel
    (fun (qhl qhm qhp : Nat) (v1 : List AV) (v0 : List (List AV)) => let r0 : Option AV := qe [AV.ro 1 qhm qhp fun (i j : Nat) => (v0.getD (qhl + i) v1).getD j AV.dead]; ck (okM [RS.one (LK.l 1)] r0) <| some (AV.ro 1 (toN (getV r0)) (toR (getV r0)) (toG (getV r0))))
    zn
    vq
    vh
    (IntKind.i64.wrap (IntKind.u64.wrap (un1.tdiv 32)))
    (un1.tmod 32)
    (0)
    ((IntKind.i64.wrap (IntKind.i64.wrap ((↑zn : Int) + IntKind.i64.wrap (IntKind.u64.wrap (un1.tdiv 32))) + 1)).toNat)
    ((IntKind.i64.wrap (IntKind.i64.wrap ((↑zn : Int) + IntKind.i64.wrap (IntKind.u64.wrap (un1.tdiv 32))) + 1)).toNat)
    ([AV.int .u32 0]) fuel (0) (List.replicate (IntKind.i64.wrap (IntKind.i64.wrap ((↑zn : Int) + IntKind.i64.wrap (IntKind.u64.wrap (un1.tdiv 32))) + 1)).toNat [AV.int .u32 0])
noncomputable def mleft (qe : Mo) (fuel : Nat) (xs : List AV) : Option AV := match xs with
  | [AV.ro 1 zn vq vh,AV.int .u64 un1] => gleft qe fuel zn vq vh un1
  | _ => none
abbrev Rleft : List RS := [RS.one (LK.l (nat_lit 1))]
theorem gleft_sm (qe : Mo) (fuel : Nat) (hΓ : GamOk Pr (Gleft qe)) (hP : NamesOk Pr) : SmOk Pr 138 (smM Rleft (mleft qe fuel)) := smL (L := (Lleft qe fuel)) (n := 1) hΓ hP (by kernel_rfl) (fun i hi => match i,hi with
  | 0,_ => gleft_L0 qe fuel
  | i + 1,hi => absurd hi (by omega)) fun xs v h => by
  unfold mleft at h
  split at h
  · exact Eq.trans (by kernel_rfl) h
  · cases h
noncomputable def LInt_give_i (fuel : Nat) : Lam AV := []
noncomputable def GInt_give_i : Gam := []
noncomputable def gInt_give_i (fuel : Nat) (qin : Bool) (qhi qix : Nat) (qir : Ge) (wh : Bool) (qr qz : Nat) (qy : Ge) : Option AV :=
  some (AV.tup [AV.bool (bif qin then decide ((↑qhi : Int) > 0) else false),AV.ro 1 qhi qix qir])
theorem gInt_give_i_run (fuel : Nat) (qin : Bool) (qhi qix : Nat) (qir : Ge) (wh : Bool) (qr qz : Nat) (qy : Ge) : runX Pr GInt_give_i [((6,133),LInt_give_i fuel)] fuel 7 133 XInt_give_i [AV.ptr 0 0,AV.bool qin,AV.ro 1 qhi qix qir] [Blk.box [AV.bool wh,AV.ro 1 qr qz qy]] = gInt_give_i fuel qin qhi qix qir wh qr qz qy := by kernel_rfl
noncomputable def mInt_give_i (fuel : Nat) (xs : List AV) : Option AV := match xs with
  | [AV.ptr 0 0,AV.bool qin,AV.ro 1 qhi qix qir,AV.bool wh,AV.ro 1 qr qz qy] => gInt_give_i fuel qin qhi qix qir wh qr qz qy
  | _ => none
theorem gInt_give_i_sm (fuel : Nat) (hΓ : GamOk Pr GInt_give_i) (hP : NamesOk Pr) : XOk Pr 133 (smX RInt_give_i XInt_give_i (mInt_give_i fuel)) XInt_give_i := by
  refine smX_ok (fuel := fuel) hΓ hP (LamOk.of 6 133 (LInt_give_i fuel) 0 (by kernel_rfl) (fun i hi => ?_)) 7 133 RInt_give_i XInt_give_i _ (fun xs0 ys0 v ha hb h => ?_)
  · match i,hi with
    | i + 0,hi => exact absurd hi (by omega)
  · skip
    have ha0 : xs0.length = 3 := ha
    clear ha
    obtain ⟨a0,xs1,rfl,ha1⟩ := len_cons ha0
    clear ha0
    obtain ⟨a1,xs2,rfl,ha2⟩ := len_cons ha1
    clear ha1
    obtain ⟨a2,xs3,rfl,ha3⟩ := len_cons ha2
    clear ha2
    obtain rfl := List.eq_nil_of_length_eq_zero ha3
    have hy0 : ys0.map List.length = [2] := hb
    clear hb
    obtain ⟨wh,ys1,rfl,hb0_0,hy1⟩ := map_cons' hy0
    clear hy0
    obtain ⟨c0_0,b0_1,rfl,hb0_1⟩ := len_cons hb0_0
    clear hb0_0
    obtain ⟨c0_1,z8,rfl,hb0_2⟩ := len_cons hb0_1
    clear hb0_1
    obtain rfl := List.eq_nil_of_length_eq_zero hb0_2
    obtain rfl := map_nil' hy1
    have h : mInt_give_i fuel [a0,a1,a2,c0_0,c0_1] = some v := h
    generalize hx0 : [a0,a1,a2,c0_0,c0_1] = zs at h
    unfold mInt_give_i at h
    split at h
    · skip
      obtain ⟨rfl,hx1⟩ := List.cons.inj hx0
      obtain ⟨rfl,hx2⟩ := List.cons.inj hx1
      obtain ⟨rfl,hx3⟩ := List.cons.inj hx2
      obtain ⟨rfl,hx4⟩ := List.cons.inj hx3
      obtain ⟨rfl,hx5⟩ := List.cons.inj hx4
      simp only [List.map_cons,List.map_nil]
      exact (gInt_give_i_run fuel _ _ _ _ _ _ _ _).trans h
    · cases h
noncomputable def LInt_give_ra (fuel : Nat) : Lam AV := []
noncomputable def GInt_give_ra : Gam := []
noncomputable def gInt_give_ra (fuel : Nat) (qin : Bool) (qhi qix : Nat) (qir : Ge) (wh : Bool) (qr qz : Nat) (qy : Ge) (z8 : Bool) (zu zz : Nat) (zw : Ge) : Option AV :=
  some (AV.tup [AV.bool (bif qin then decide ((↑qhi : Int) > 0) else false),AV.ro 1 qhi qix qir,AV.bool z8,AV.ro 1 zu zz zw])
theorem gInt_give_ra_run (fuel : Nat) (qin : Bool) (qhi qix : Nat) (qir : Ge) (wh : Bool) (qr qz : Nat) (qy : Ge) (z8 : Bool) (zu zz : Nat) (zw : Ge) : runX Pr GInt_give_ra [((6,133),LInt_give_ra fuel)] fuel 7 133 XInt_give_ra [AV.ptr 0 0,AV.bool qin,AV.ro 1 qhi qix qir] [Blk.box [AV.bool wh,AV.ro 1 qr qz qy,AV.bool z8,AV.ro 1 zu zz zw]] = gInt_give_ra fuel qin qhi qix qir wh qr qz qy z8 zu zz zw := by kernel_rfl
noncomputable def mInt_give_ra (fuel : Nat) (xs : List AV) : Option AV := match xs with
  | [AV.ptr 0 0,AV.bool qin,AV.ro 1 qhi qix qir,AV.bool wh,AV.ro 1 qr qz qy,AV.bool z8,AV.ro 1 zu zz zw] => gInt_give_ra fuel qin qhi qix qir wh qr qz qy z8 zu zz zw
  | _ => none
theorem gInt_give_ra_sm (fuel : Nat) (hΓ : GamOk Pr GInt_give_ra) (hP : NamesOk Pr) : XOk Pr 133 (smX RInt_give_ra XInt_give_ra (mInt_give_ra fuel)) XInt_give_ra := by
  refine smX_ok (fuel := fuel) hΓ hP (LamOk.of 6 133 (LInt_give_ra fuel) 0 (by kernel_rfl) (fun i hi => ?_)) 7 133 RInt_give_ra XInt_give_ra _ (fun xs0 ys0 v ha hb h => ?_)
  · match i,hi with
    | i + 0,hi => exact absurd hi (by omega)
  · skip
    have ha0 : xs0.length = 3 := ha
    clear ha
    obtain ⟨a0,xs1,rfl,ha1⟩ := len_cons ha0
    clear ha0
    obtain ⟨a1,xs2,rfl,ha2⟩ := len_cons ha1
    clear ha1
    obtain ⟨a2,xs3,rfl,ha3⟩ := len_cons ha2
    clear ha2
    obtain rfl := List.eq_nil_of_length_eq_zero ha3
    have hy0 : ys0.map List.length = [4] := hb
    clear hb
    obtain ⟨wh,ys1,rfl,hb0_0,hy1⟩ := map_cons' hy0
    clear hy0
    obtain ⟨c0_0,b0_1,rfl,hb0_1⟩ := len_cons hb0_0
    clear hb0_0
    obtain ⟨c0_1,z8,rfl,hb0_2⟩ := len_cons hb0_1
    clear hb0_1
    obtain ⟨c0_2,b0_3,rfl,hb0_3⟩ := len_cons hb0_2
    clear hb0_2
    obtain ⟨c0_3,b0_4,rfl,hb0_4⟩ := len_cons hb0_3
    clear hb0_3
    obtain rfl := List.eq_nil_of_length_eq_zero hb0_4
    obtain rfl := map_nil' hy1
    have h : mInt_give_ra fuel [a0,a1,a2,c0_0,c0_1,c0_2,c0_3] = some v := h
    generalize hx0 : [a0,a1,a2,c0_0,c0_1,c0_2,c0_3] = zs at h
    unfold mInt_give_ra at h
    split at h
    · skip
      obtain ⟨rfl,hx1⟩ := List.cons.inj hx0
      obtain ⟨rfl,hx2⟩ := List.cons.inj hx1
      obtain ⟨rfl,hx3⟩ := List.cons.inj hx2
      obtain ⟨rfl,hx4⟩ := List.cons.inj hx3
      obtain ⟨rfl,hx5⟩ := List.cons.inj hx4
      obtain ⟨rfl,hx6⟩ := List.cons.inj hx5
      obtain ⟨rfl,hx7⟩ := List.cons.inj hx6
      simp only [List.map_cons,List.map_nil]
      exact (gInt_give_ra_run fuel _ _ _ _ _ _ _ _ _ _ _ _).trans h
    · cases h
noncomputable def LInt_give_rb (fuel : Nat) : Lam AV := []
noncomputable def GInt_give_rb : Gam := []
noncomputable def gInt_give_rb (fuel : Nat) (qin : Bool) (qhi qix : Nat) (qir : Ge) (wh : Bool) (qr qz : Nat) (qy : Ge) (z8 : Bool) (zu zz : Nat) (zw : Ge) : Option AV :=
  some (AV.tup [AV.bool wh,AV.ro 1 qr qz qy,AV.bool (bif qin then decide ((↑qhi : Int) > 0) else false),AV.ro 1 qhi qix qir])
theorem gInt_give_rb_run (fuel : Nat) (qin : Bool) (qhi qix : Nat) (qir : Ge) (wh : Bool) (qr qz : Nat) (qy : Ge) (z8 : Bool) (zu zz : Nat) (zw : Ge) : runX Pr GInt_give_rb [((6,133),LInt_give_rb fuel)] fuel 7 133 XInt_give_rb [AV.ptr 0 2,AV.bool qin,AV.ro 1 qhi qix qir] [Blk.box [AV.bool wh,AV.ro 1 qr qz qy,AV.bool z8,AV.ro 1 zu zz zw]] = gInt_give_rb fuel qin qhi qix qir wh qr qz qy z8 zu zz zw := by kernel_rfl
noncomputable def mInt_give_rb (fuel : Nat) (xs : List AV) : Option AV := match xs with
  | [AV.ptr 0 2,AV.bool qin,AV.ro 1 qhi qix qir,AV.bool wh,AV.ro 1 qr qz qy,AV.bool z8,AV.ro 1 zu zz zw] => gInt_give_rb fuel qin qhi qix qir wh qr qz qy z8 zu zz zw
  | _ => none
theorem gInt_give_rb_sm (fuel : Nat) (hΓ : GamOk Pr GInt_give_rb) (hP : NamesOk Pr) : XOk Pr 133 (smX RInt_give_rb XInt_give_rb (mInt_give_rb fuel)) XInt_give_rb := by
  refine smX_ok (fuel := fuel) hΓ hP (LamOk.of 6 133 (LInt_give_rb fuel) 0 (by kernel_rfl) (fun i hi => ?_)) 7 133 RInt_give_rb XInt_give_rb _ (fun xs0 ys0 v ha hb h => ?_)
  · match i,hi with
    | i + 0,hi => exact absurd hi (by omega)
  · skip
    have ha0 : xs0.length = 3 := ha
    clear ha
    obtain ⟨a0,xs1,rfl,ha1⟩ := len_cons ha0
    clear ha0
    obtain ⟨a1,xs2,rfl,ha2⟩ := len_cons ha1
    clear ha1
    obtain ⟨a2,xs3,rfl,ha3⟩ := len_cons ha2
    clear ha2
    obtain rfl := List.eq_nil_of_length_eq_zero ha3
    have hy0 : ys0.map List.length = [4] := hb
    clear hb
    obtain ⟨wh,ys1,rfl,hb0_0,hy1⟩ := map_cons' hy0
    clear hy0
    obtain ⟨c0_0,b0_1,rfl,hb0_1⟩ := len_cons hb0_0
    clear hb0_0
    obtain ⟨c0_1,z8,rfl,hb0_2⟩ := len_cons hb0_1
    clear hb0_1
    obtain ⟨c0_2,b0_3,rfl,hb0_3⟩ := len_cons hb0_2
    clear hb0_2
    obtain ⟨c0_3,b0_4,rfl,hb0_4⟩ := len_cons hb0_3
    clear hb0_3
    obtain rfl := List.eq_nil_of_length_eq_zero hb0_4
    obtain rfl := map_nil' hy1
    have h : mInt_give_rb fuel [a0,a1,a2,c0_0,c0_1,c0_2,c0_3] = some v := h
    generalize hx0 : [a0,a1,a2,c0_0,c0_1,c0_2,c0_3] = zs at h
    unfold mInt_give_rb at h
    split at h
    · skip
      obtain ⟨rfl,hx1⟩ := List.cons.inj hx0
      obtain ⟨rfl,hx2⟩ := List.cons.inj hx1
      obtain ⟨rfl,hx3⟩ := List.cons.inj hx2
      obtain ⟨rfl,hx4⟩ := List.cons.inj hx3
      obtain ⟨rfl,hx5⟩ := List.cons.inj hx4
      obtain ⟨rfl,hx6⟩ := List.cons.inj hx5
      obtain ⟨rfl,hx7⟩ := List.cons.inj hx6
      simp only [List.map_cons,List.map_nil]
      exact (gInt_give_rb_run fuel _ _ _ _ _ _ _ _ _ _ _ _).trans h
    · cases h
noncomputable def Gwords (qe : Mo) : Gam := [(195,smM [RS.one (LK.l (nat_lit 1))] qe)]
noncomputable def gwords (qe : Mo) (fuel : Nat) (ux0 : Int) : Option AV :=
  let r0 : Option AV := qe [AV.ro 1 2 2 fun (i j : Nat) => ([[AV.int .u32 (IntKind.u32.wrap ux0)],[AV.int .u32 (IntKind.u32.wrap (ux0.fdiv (2 ^ 32)))]].getD i []).getD j AV.dead]; ck (okM [RS.one (LK.l 1)] r0) <| some (AV.ro 1 (toN (getV r0)) (toR (getV r0)) (toG (getV r0)))
noncomputable def mwords (qe : Mo) (fuel : Nat) (xs : List AV) : Option AV := match xs with
  | [AV.int .u64 ux0] => gwords qe fuel ux0
  | _ => none
abbrev Rwords : List RS := [RS.one (LK.l (nat_lit 1))]
theorem gwords_sm (qe : Mo) (fuel : Nat) (hΓ : GamOk Pr (Gwords qe)) (hP : NamesOk Pr) : SmOk Pr 194 (smM Rwords (mwords qe fuel)) := sm0 (fuel := fuel) (d := 7) hΓ hP fun xs v h => by
  unfold mwords at h
  split at h
  · exact Eq.trans (by kernel_rfl) h
  · cases h
noncomputable def LInt_SetUint64_i (qj qc : Mo) (qb qa : Mo) (fuel : Nat) : Lam AV := []
noncomputable def GInt_SetUint64_i (qj qc : Mo) (qb qa : Mo) : Gam := [(194,smM [RS.one (LK.l (nat_lit 1))] qj),(133,smX RInt_give_i XInt_give_i qc),(133,smX RInt_give_ra XInt_give_ra qb),(133,smX RInt_give_rb XInt_give_rb qa)]
noncomputable def gInt_SetUint64_i (qj qc : Mo) (qb qa : Mo) (fuel : Nat) (ux1 : Int) (wh : Bool) (qr qz : Nat) (qy : Ge) : Option AV :=
  let r0 : Option AV := qj [AV.int .u64 ux1]; ck (okM [RS.one (LK.l 1)] r0) <| let r1 : Option AV := qc [AV.ptr (xidx 0 (xtoks [AV.ptr 0 0,AV.bool false,AV.ro 1 (toN (getV r0)) (toR (getV r0)) (toG (getV r0))] [])) 0,AV.bool false,AV.ro 1 (toN (getV r0)) (toR (getV r0)) (toG (getV r0)),AV.bool wh,AV.ro 1 qr qz qy]; ck (okX [RS.one LK.b,RS.one (LK.l 1)] r1) <| some (AV.tup [AV.bool (toB ((toT (getV r1)).headD .dead)),AV.ro 1 (toN ((toT (getV r1)).tail.headD .dead)) (toR ((toT (getV r1)).tail.headD .dead)) (toG ((toT (getV r1)).tail.headD .dead))])
theorem gInt_SetUint64_i_run (qj qc : Mo) (qb qa : Mo) (fuel : Nat) (ux1 : Int) (wh : Bool) (qr qz : Nat) (qy : Ge) : runX Pr (GInt_SetUint64_i qj qc qb qa) [((6,142),LInt_SetUint64_i qj qc qb qa fuel)] fuel 7 142 XInt_SetUint64_i [AV.ptr 0 0,AV.int .u64 ux1] [Blk.box [AV.bool wh,AV.ro 1 qr qz qy]] = gInt_SetUint64_i qj qc qb qa fuel ux1 wh qr qz qy := by kernel_rfl
noncomputable def mInt_SetUint64_i (qj qc : Mo) (qb qa : Mo) (fuel : Nat) (xs : List AV) : Option AV := match xs with
  | [AV.ptr 0 0,AV.int .u64 ux1,AV.bool wh,AV.ro 1 qr qz qy] => gInt_SetUint64_i qj qc qb qa fuel ux1 wh qr qz qy
  | _ => none
theorem gInt_SetUint64_i_sm (qj qc : Mo) (qb qa : Mo) (fuel : Nat) (hΓ : GamOk Pr (GInt_SetUint64_i qj qc qb qa)) (hP : NamesOk Pr) : XOk Pr 142 (smX RInt_SetUint64_i XInt_SetUint64_i (mInt_SetUint64_i qj qc qb qa fuel)) XInt_SetUint64_i := by
  refine smX_ok (fuel := fuel) hΓ hP (LamOk.of 6 142 (LInt_SetUint64_i qj qc qb qa fuel) 0 (by kernel_rfl) (fun i hi => ?_)) 7 142 RInt_SetUint64_i XInt_SetUint64_i _ (fun xs0 ys0 v ha hb h => ?_)
  · match i,hi with
    | i + 0,hi => exact absurd hi (by omega)
  · skip
    have ha0 : xs0.length = 2 := ha
    clear ha
    obtain ⟨a0,xs1,rfl,ha1⟩ := len_cons ha0
    clear ha0
    obtain ⟨a1,xs2,rfl,ha2⟩ := len_cons ha1
    clear ha1
    obtain rfl := List.eq_nil_of_length_eq_zero ha2
    have hy0 : ys0.map List.length = [2] := hb
    clear hb
    obtain ⟨wh,ys1,rfl,hb0_0,hy1⟩ := map_cons' hy0
    clear hy0
    obtain ⟨c0_0,b0_1,rfl,hb0_1⟩ := len_cons hb0_0
    clear hb0_0
    obtain ⟨c0_1,z8,rfl,hb0_2⟩ := len_cons hb0_1
    clear hb0_1
    obtain rfl := List.eq_nil_of_length_eq_zero hb0_2
    obtain rfl := map_nil' hy1
    have h : mInt_SetUint64_i qj qc qb qa fuel [a0,a1,c0_0,c0_1] = some v := h
    generalize hx0 : [a0,a1,c0_0,c0_1] = zs at h
    unfold mInt_SetUint64_i at h
    split at h
    · skip
      obtain ⟨rfl,hx1⟩ := List.cons.inj hx0
      obtain ⟨rfl,hx2⟩ := List.cons.inj hx1
      obtain ⟨rfl,hx3⟩ := List.cons.inj hx2
      obtain ⟨rfl,hx4⟩ := List.cons.inj hx3
      simp only [List.map_cons,List.map_nil]
      exact (gInt_SetUint64_i_run qj qc qb qa fuel _ _ _ _ _).trans h
    · cases h
noncomputable def SInt_low_a_0 (p8 : Int) (yi v5 y3 : Nat) (uc6 ui7 : Int) (wx : Bool) (qu qx : Nat) (qw : Ge) (h1z : List AV) (h1e : List (List AV)) : St := { env := [(1,AV.int .i64 p8),(5,AV.own 1 yi 1 v5 y3),(6,AV.int .u64 uc6),(7,AV.int .i64 ui7)],h := [Blk.box [AV.bool wx,AV.ro 1 qu qx qw],Blk.fx 1 h1z h1e],kd := [] }
noncomputable def XInt_low_a_0_0 (qfc qds qge : Nat) (vm : Bool) (vl vk : Nat) (vi : Ge) (qj7 : List AV) (qhe : List (List AV)) : St := { env := [(5,AV.own 1 qfc 1 qds qge)],h := [Blk.box [AV.bool vm,AV.ro 1 vl vk vi],Blk.fx 1 qj7 qhe],kd := [] }
noncomputable def gInt_low_a_l0_step (fuel : Nat) (kn : Int → Int → List (List AV) → Option AV) (kx0 : Nat → Nat → Nat → Bool → Nat → Nat → Ge → List AV → List (List AV) → Option AV) (p8 : Int) (yi v5 y3 : Nat) (wx : Bool) (qu qx : Nat) (qw : Ge) (h1z : List AV) (uc6 ui7 : Int) (h1e : List (List AV)) : Option AV :=
  bif decide (ui7 < p8) then ck (decide (0 ≤ ui7)) <| ck (decide (ui7 < (↑v5 : Int))) <| ck (fitK (LK.i .u32) ((h1e.getD (yi + ui7.toNat) h1z).getD 0 AV.dead)) <| ck (decide (0 ≤ ui7)) <| ck (decide (ui7 < (↑v5 : Int))) <| kn ((IntKind.u64.wrap (uc6 + IntKind.u64.wrap (IntKind.u32.wrap (↑(BitVec.ofInt 32 (if IntKind.u32.signed = true then (-1) else IntKind.u32.max) ^^^ BitVec.ofInt 32 (toI ((h1e.getD (yi + ui7.toNat) h1z).getD 0 AV.dead))).toNat : Int)))).fdiv (2 ^ 32)) (IntKind.i64.wrap (ui7 + 1)) (h1e.set (yi + ui7.toNat) (AV.int .u32 (IntKind.u32.wrap (IntKind.u64.wrap (uc6 + IntKind.u64.wrap (IntKind.u32.wrap (↑(BitVec.ofInt 32 (if IntKind.u32.signed = true then (-1) else IntKind.u32.max) ^^^ BitVec.ofInt 32 (toI ((h1e.getD (yi + ui7.toNat) h1z).getD 0 AV.dead))).toNat : Int))))) :: List.drop (0 + [AV.int .u32 (IntKind.u32.wrap (IntKind.u64.wrap (uc6 + IntKind.u64.wrap (IntKind.u32.wrap (↑(BitVec.ofInt 32 (if IntKind.u32.signed = true then (-1) else IntKind.u32.max) ^^^ BitVec.ofInt 32 (toI ((h1e.getD (yi + ui7.toNat) h1z).getD 0 AV.dead))).toNat : Int)))))].length) (h1e.getD (yi + ui7.toNat) h1z)))
  else kx0 yi v5 y3 wx qu qx qw h1z h1e
noncomputable def gInt_low_a_l0 (fuel : Nat) (kx0 : Nat → Nat → Nat → Bool → Nat → Nat → Ge → List AV → List (List AV) → Option AV) (p8 : Int) (yi v5 y3 : Nat) (wx : Bool) (qu qx : Nat) (qw : Ge) (h1z : List AV) : Nat → Int → Int → List (List AV) → Option AV
  | 0,_,_,_ => none
  | n' + 1,uc6,ui7,h1e => gInt_low_a_l0_step fuel (gInt_low_a_l0 fuel kx0 p8 yi v5 y3 wx qu qx qw h1z n') kx0 p8 yi v5 y3 wx qu qx qw h1z uc6 ui7 h1e
noncomputable def TInt_low_a_0 : TS' := ⟨[(1,TA.i .i64),(5,TA.own 1 1),(6,TA.i .u64),(7,TA.i .i64)],[TB.box [TA.b,TA.ro 1],TB.fx 1],[]⟩
noncomputable def FInt_low_a_0 (fuel : Nat) (ps : List Pay) (K : Ex → St → Option AV) : Option AV := match ps with
  | .i p8 :: .n yi :: .n v5 :: .n y3 :: .i uc6 :: .i ui7 :: .b wx :: .n qu :: .n qx :: .g qw :: .z h1z :: .e h1e :: [] => gInt_low_a_l0 fuel (fun qfc qds qge vm vl vk vi qj7 qhe => K (Ex.exit 0) (XInt_low_a_0_0 qfc qds qge vm vl vk vi qj7 qhe)) p8 yi v5 y3 wx qu qx qw h1z fuel uc6 ui7 h1e
  | _ => none
noncomputable def LInt_low_a (fuel : Nat) : Lam AV := [(1099510579392,lam TInt_low_a_0 (FInt_low_a_0 fuel))]
noncomputable def GInt_low_a : Gam := []
theorem gInt_low_a_l0_eq (fuel : Nat) (kn : St → Option AV) (K : Ex → St → Option AV) (p8 : Int) (yi v5 y3 : Nat) (wx : Bool) (qu qx : Nat) (qw : Ge) (h1z : List AV) (qi0 qiz : Int) (qil : List (List AV)) (uc6 ui7 : Int) (h1e : List (List AV)) :
    bX Pr GInt_low_a (LInt_low_a fuel) 6 198 0 fuel (SInt_low_a_0 p8 yi v5 y3 uc6 ui7 wx qu qx qw h1z h1e) (fun e s => match e with | .normal => kn (hX Pr 198 0 (SInt_low_a_0 p8 yi v5 y3 qi0 qiz wx qu qx qw h1z qil) s) | e => K e s) =
    gInt_low_a_l0_step fuel (fun uc6 ui7 h1e => kn (SInt_low_a_0 p8 yi v5 y3 uc6 ui7 wx qu qx qw h1z h1e)) (fun qan pr qbc z9 zb za w9 qc4 qb5 => K (Ex.exit 0) (XInt_low_a_0_0 qan pr qbc z9 zb za w9 qc4 qb5)) p8 yi v5 y3 wx qu qx qw h1z uc6 ui7 h1e := by kernel_rfl
theorem gInt_low_a_l0_ok (fuel : Nat) (K : Ex → St → Option AV) (p8 : Int) (yi v5 y3 : Nat) (wx : Bool) (qu qx : Nat) (qw : Ge) (h1z : List AV) (qi0 qiz : Int) (qil : List (List AV)) : ∀ (n' : Nat) (uc6 ui7 : Int) (h1e : List (List AV)),
    loopK (bX Pr GInt_low_a (LInt_low_a fuel) 6 198 0 fuel) (hX Pr 198 0 (SInt_low_a_0 p8 yi v5 y3 qi0 qiz wx qu qx qw h1z qil)) n' (SInt_low_a_0 p8 yi v5 y3 uc6 ui7 wx qu qx qw h1z h1e) K = gInt_low_a_l0 fuel (fun qan pr qbc z9 zb za w9 qc4 qb5 => K (Ex.exit 0) (XInt_low_a_0_0 qan pr qbc z9 zb za w9 qc4 qb5)) p8 yi v5 y3 wx qu qx qw h1z n' uc6 ui7 h1e
  | 0,_,_,_ => rfl
  | n' + 1,uc6,ui7,h1e => (gInt_low_a_l0_eq fuel (fun s => loopK (bX Pr GInt_low_a (LInt_low_a fuel) 6 198 0 fuel) (hX Pr 198 0 (SInt_low_a_0 p8 yi v5 y3 qi0 qiz wx qu qx qw h1z qil)) n' s K) K p8 yi v5 y3 wx qu qx qw h1z qi0 qiz qil uc6 ui7 h1e).trans
    (congrArg (fun kn => gInt_low_a_l0_step fuel kn _ p8 yi v5 y3 wx qu qx qw h1z uc6 ui7 h1e) (funext fun uc6 => funext fun ui7 => funext fun h1e => gInt_low_a_l0_ok fuel K p8 yi v5 y3 wx qu qx qw h1z qi0 qiz qil n' uc6 ui7 h1e))
theorem gInt_low_a_L0 (fuel : Nat) : LX Pr GInt_low_a (LInt_low_a fuel) 6 198 0 fuel := by
  refine .of TInt_low_a_0 (FInt_low_a_0 fuel) (fun L h => ?_) (fun ps st K r he hr => ?_)
  · have e : (LInt_low_a fuel).get (writes (lp Pr 198 0).1) = some (lam TInt_low_a_0 (FInt_low_a_0 fuel)) := by kernel_rfl
    exact (Option.some.inj (e.symm.trans h)).symm
  · unfold FInt_low_a_0 at hr
    split at hr
    · obtain rfl := (Option.some.inj he).symm
      exact (gInt_low_a_l0_ok fuel K _ _ _ _ _ _ _ _ _ _ _ _ fuel _ _ _).trans hr
    · cases hr
noncomputable def gInt_low_a (fuel : Nat) (un1 : Int) (wh : Bool) (qr qz : Nat) (qy : Ge) : Option AV :=
  ck (decide (0 ≤ un1)) <| ck (decide (un1 ≤ un1)) <| ck ((4 * un1.toNat).ble 281474976710656) <| ck ((un1.toNat + 1).ble 4611686018427387904) <| bif wh then gInt_low_a_l0 fuel
      (fun (qan pr qbc : Nat) (z9 : Bool) (zb za : Nat) (w9 : Ge) (_ : List AV) (qb5 : List (List AV)) => some (AV.tup [AV.bool z9,AV.ro 1 zb za w9,AV.ro 1 pr qbc fun (i j : Nat) => (qb5.getD i []).getD j AV.dead,AV.ro 1 qb5.length qb5.length fun (i j : Nat) => (qb5.getD i []).getD j AV.dead,AV.int .i64 (↑qan : Int)]))
      un1
      (0)
      (un1.toNat)
      (un1.toNat)
      wh
      qr
      qz
      qy
      ([AV.int .u32 0]) fuel (1) (0) ([] ++ rows 1 (qr.min un1.toNat) qy ++ List.drop (0 + qr.min un1.toNat) (List.replicate un1.toNat [AV.int .u32 0]))
  else some (AV.tup [AV.bool wh,AV.ro 1 qr qz qy,AV.ro 1 un1.toNat un1.toNat fun (i j : Nat) => (([] ++ rows 1 (qr.min un1.toNat) qy ++ List.drop (0 + qr.min un1.toNat) (List.replicate un1.toNat [AV.int .u32 0])).getD i []).getD j AV.dead,AV.ro 1 ([] ++ rows 1 (qr.min un1.toNat) qy ++ List.drop (0 + qr.min un1.toNat) (List.replicate un1.toNat [AV.int .u32 0])).length ([] ++ rows 1 (qr.min un1.toNat) qy ++ List.drop (0 + qr.min un1.toNat) (List.replicate un1.toNat [AV.int .u32 0])).length fun (i j : Nat) => (([] ++ rows 1 (qr.min un1.toNat) qy ++ List.drop (0 + qr.min un1.toNat) (List.replicate un1.toNat [AV.int .u32 0])).getD i []).getD j AV.dead,AV.int .i64 (↑0 : Int)])
theorem gInt_low_a_run (fuel : Nat) (un1 : Int) (wh : Bool) (qr qz : Nat) (qy : Ge) : runX Pr GInt_low_a [((6,198),LInt_low_a fuel)] fuel 7 198 XInt_low_a [AV.ptr 0 0,AV.int .i64 un1] [Blk.box [AV.bool wh,AV.ro 1 qr qz qy]] = gInt_low_a fuel un1 wh qr qz qy := by kernel_rfl
noncomputable def mInt_low_a (fuel : Nat) (xs : List AV) : Option AV := match xs with
  | [AV.ptr 0 0,AV.int .i64 un1,AV.bool wh,AV.ro 1 qr qz qy] => gInt_low_a fuel un1 wh qr qz qy
  | _ => none
theorem gInt_low_a_sm (fuel : Nat) (hΓ : GamOk Pr GInt_low_a) (hP : NamesOk Pr) : XOk Pr 198 (smX RInt_low_a XInt_low_a (mInt_low_a fuel)) XInt_low_a := by
  refine smX_ok (fuel := fuel) hΓ hP (LamOk.of 6 198 (LInt_low_a fuel) 1 (by kernel_rfl) (fun i hi => ?_)) 7 198 RInt_low_a XInt_low_a _ (fun xs0 ys0 v ha hb h => ?_)
  · match i,hi with
    | 0,_ => exact gInt_low_a_L0 fuel
    | i + 1,hi => exact absurd hi (by omega)
  · skip
    have ha0 : xs0.length = 2 := ha
    clear ha
    obtain ⟨a0,xs1,rfl,ha1⟩ := len_cons ha0
    clear ha0
    obtain ⟨a1,xs2,rfl,ha2⟩ := len_cons ha1
    clear ha1
    obtain rfl := List.eq_nil_of_length_eq_zero ha2
    have hy0 : ys0.map List.length = [2] := hb
    clear hb
    obtain ⟨wh,ys1,rfl,hb0_0,hy1⟩ := map_cons' hy0
    clear hy0
    obtain ⟨c0_0,b0_1,rfl,hb0_1⟩ := len_cons hb0_0
    clear hb0_0
    obtain ⟨c0_1,z8,rfl,hb0_2⟩ := len_cons hb0_1
    clear hb0_1
    obtain rfl := List.eq_nil_of_length_eq_zero hb0_2
    obtain rfl := map_nil' hy1
    have h : mInt_low_a fuel [a0,a1,c0_0,c0_1] = some v := h
    generalize hx0 : [a0,a1,c0_0,c0_1] = zs at h
    unfold mInt_low_a at h
    split at h
    · skip
      obtain ⟨rfl,hx1⟩ := List.cons.inj hx0
      obtain ⟨rfl,hx2⟩ := List.cons.inj hx1
      obtain ⟨rfl,hx3⟩ := List.cons.inj hx2
      obtain ⟨rfl,hx4⟩ := List.cons.inj hx3
      simp only [List.map_cons,List.map_nil]
      exact (gInt_low_a_run fuel _ _ _ _ _).trans h
    · cases h
end Go.Proofs.Tryz
end
section
namespace Go.Proofs.Tryz
open Go Go.Am
set_option linter.unusedVariables false
set_option maxRecDepth 1000000
noncomputable def SInt_of_a_0 (qcl qdg : Nat) (qc2 : Ge) (uc5 ui6 : Int) (wx : Bool) (qu qx : Nat) (qw : Ge) : St := { env := [(0,AV.ptr 0 0),(1,AV.ro 1 qcl qdg qc2),(5,AV.int .u64 uc5),(6,AV.int .i64 ui6)],h := [Blk.box [AV.bool wx,AV.ro 1 qu qx qw]],kd := [] }
noncomputable def XInt_of_a_0_0 (qpg qo5 : Nat) (qp2 : Ge) (vm : Bool) (vl vk : Nat) (vi : Ge) : St := { env := [(0,AV.ptr 0 0),(1,AV.ro 1 qpg qo5 qp2)],h := [Blk.box [AV.bool vm,AV.ro 1 vl vk vi]],kd := [] }
noncomputable def gInt_of_a_l0_step (qe qc : Mo) (qb qa : Mo) (fuel : Nat) (kn : Option AV) (kx0 : Nat → Nat → Ge → Bool → Nat → Nat → Ge → Option AV) (qcl qdg : Nat) (qc2 : Ge) (uc5 ui6 : Int) (wx : Bool) (qu qx : Nat) (qw : Ge) : Option AV :=
  bif decide (ui6 < (↑qcl : Int)) then ck (decide (0 ≤ ui6)) <| ck (decide (ui6 < (↑qcl : Int))) <| ck (fitK (LK.i .u32) (qc2 ui6.toNat 0)) <| ck (decide (0 ≤ ui6)) <| ck (decide (ui6 < (↑qcl : Int))) <| none
  else kx0 qcl qdg qc2 wx qu qx qw
noncomputable def gInt_of_a_l0 (qe qc : Mo) (qb qa : Mo) (fuel : Nat) (kx0 : Nat → Nat → Ge → Bool → Nat → Nat → Ge → Option AV) (qcl qdg : Nat) (qc2 : Ge) (uc5 ui6 : Int) (wx : Bool) (qu qx : Nat) (qw : Ge) : Nat → Option AV
  | 0 => none
  | n' + 1 => gInt_of_a_l0_step qe qc qb qa fuel (gInt_of_a_l0 qe qc qb qa fuel kx0 qcl qdg qc2 uc5 ui6 wx qu qx qw n') kx0 qcl qdg qc2 uc5 ui6 wx qu qx qw
noncomputable def TInt_of_a_0 : TS' := ⟨[(0,TA.ptr 0 0),(1,TA.ro 1),(5,TA.i .u64),(6,TA.i .i64)],[TB.box [TA.b,TA.ro 1]],[]⟩
noncomputable def FInt_of_a_0 (qe qc : Mo) (qb qa : Mo) (fuel : Nat) (ps : List Pay) (K : Ex → St → Option AV) : Option AV := match ps with
  | .n qcl :: .n qdg :: .g qc2 :: .i uc5 :: .i ui6 :: .b wx :: .n qu :: .n qx :: .g qw :: [] => gInt_of_a_l0 qe qc qb qa fuel (fun qpg qo5 qp2 vm vl vk vi => K (Ex.exit 0) (XInt_of_a_0_0 qpg qo5 qp2 vm vl vk vi)) qcl qdg qc2 uc5 ui6 wx qu qx qw fuel
  | _ => none
noncomputable def LInt_of_a (qe qc : Mo) (qb qa : Mo) (fuel : Nat) : Lam AV := [(2199022207072,lam TInt_of_a_0 (FInt_of_a_0 qe qc qb qa fuel))]
noncomputable def GInt_of_a (qe qc : Mo) (qb qa : Mo) : Gam := [(195,smM [RS.one (LK.l (nat_lit 1))] qe),(133,smX RInt_give_i XInt_give_i qc),(133,smX RInt_give_ra XInt_give_ra qb),(133,smX RInt_give_rb XInt_give_rb qa)]
theorem gInt_of_a_l0_eq (qe qc : Mo) (qb qa : Mo) (fuel : Nat) (kn : St → Option AV) (K : Ex → St → Option AV) (qcl qdg : Nat) (qc2 : Ge) (uc5 ui6 : Int) (wx : Bool) (qu qx : Nat) (qw : Ge) :
    bX Pr (GInt_of_a qe qc qb qa) (LInt_of_a qe qc qb qa fuel) 6 199 0 fuel (SInt_of_a_0 qcl qdg qc2 uc5 ui6 wx qu qx qw) (fun e s => match e with | .normal => kn (hX Pr 199 0 (SInt_of_a_0 qcl qdg qc2 uc5 ui6 wx qu qx qw) s) | e => K e s) =
    gInt_of_a_l0_step qe qc qb qa fuel (kn (SInt_of_a_0 qcl qdg qc2 uc5 ui6 wx qu qx qw)) (fun qm8 ql8 qm4 z9 zb za w9 => K (Ex.exit 0) (XInt_of_a_0_0 qm8 ql8 qm4 z9 zb za w9)) qcl qdg qc2 uc5 ui6 wx qu qx qw := by kernel_rfl
theorem gInt_of_a_l0_ok (qe qc : Mo) (qb qa : Mo) (fuel : Nat) (K : Ex → St → Option AV) (qcl qdg : Nat) (qc2 : Ge) (uc5 ui6 : Int) (wx : Bool) (qu qx : Nat) (qw : Ge) : ∀ (n' : Nat),
    loopK (bX Pr (GInt_of_a qe qc qb qa) (LInt_of_a qe qc qb qa fuel) 6 199 0 fuel) (hX Pr 199 0 (SInt_of_a_0 qcl qdg qc2 uc5 ui6 wx qu qx qw)) n' (SInt_of_a_0 qcl qdg qc2 uc5 ui6 wx qu qx qw) K = gInt_of_a_l0 qe qc qb qa fuel (fun qm8 ql8 qm4 z9 zb za w9 => K (Ex.exit 0) (XInt_of_a_0_0 qm8 ql8 qm4 z9 zb za w9)) qcl qdg qc2 uc5 ui6 wx qu qx qw n'
  | 0 => rfl
  | n' + 1 => (gInt_of_a_l0_eq qe qc qb qa fuel (fun s => loopK (bX Pr (GInt_of_a qe qc qb qa) (LInt_of_a qe qc qb qa fuel) 6 199 0 fuel) (hX Pr 199 0 (SInt_of_a_0 qcl qdg qc2 uc5 ui6 wx qu qx qw)) n' s K) K qcl qdg qc2 uc5 ui6 wx qu qx qw).trans
    (congrArg (fun kn => gInt_of_a_l0_step qe qc qb qa fuel kn (fun qm8 ql8 qm4 z9 zb za w9 => K (Ex.exit 0) (XInt_of_a_0_0 qm8 ql8 qm4 z9 zb za w9)) qcl qdg qc2 uc5 ui6 wx qu qx qw) (gInt_of_a_l0_ok qe qc qb qa fuel K qcl qdg qc2 uc5 ui6 wx qu qx qw n'))
theorem gInt_of_a_L0 (qe qc : Mo) (qb qa : Mo) (fuel : Nat) : LX Pr (GInt_of_a qe qc qb qa) (LInt_of_a qe qc qb qa fuel) 6 199 0 fuel := by
  refine .of TInt_of_a_0 (FInt_of_a_0 qe qc qb qa fuel) (fun L h => ?_) (fun ps st K r he hr => ?_)
  · have e : (LInt_of_a qe qc qb qa fuel).get (writes (lp Pr 199 0).1) = some (lam TInt_of_a_0 (FInt_of_a_0 qe qc qb qa fuel)) := by kernel_rfl
    exact (Option.some.inj (e.symm.trans h)).symm
  · unfold FInt_of_a_0 at hr
    split at hr
    · obtain rfl := (Option.some.inj he).symm
      exact (gInt_of_a_l0_ok qe qc qb qa fuel K _ _ _ _ _ _ _ _ _ fuel).trans hr
    · cases hr
noncomputable def gInt_of_a (qe qc : Mo) (qb qa : Mo) (fuel qjt qrz : Nat) (qp5 : Ge) (wh : Bool) (qr qz : Nat) (qy : Ge) : Option AV :=
  ck (bif decide ((↑qjt : Int) > 0) then decide (0 ≤ IntKind.i64.wrap ((↑qjt : Int) - 1)) else true) <| ck (bif decide ((↑qjt : Int) > 0) then decide (IntKind.i64.wrap ((↑qjt : Int) - 1) < (↑qjt : Int)) else true) <| ck (bif decide ((↑qjt : Int) > 0) then true else true) <| ck (bif decide ((↑qjt : Int) > 0) then fitK (LK.i .u32) (qp5 (IntKind.i64.wrap ((↑qjt : Int) - 1)).toNat 0) else true) <| ck (bif decide ((↑qjt : Int) > 0) then true else true) <| bif bif decide ((↑qjt : Int) > 0) then (toI (qp5 (IntKind.i64.wrap ((↑qjt : Int) - 1)).toNat 0)).fdiv (2 ^ 31) == 1 else false then gInt_of_a_l0 qe qc qb qa fuel
      (fun (qm8 ql8 : Nat) (qm4 : Ge) (z9 : Bool) (zb za : Nat) (w9 : Ge) => let r0 : Option AV := qe [AV.ro 1 qm8 ql8 qm4]; ck (okM [RS.one (LK.l 1)] r0) <| let r1 : Option AV := qc [AV.ptr (xidx 0 (xtoks [AV.ptr 0 0,AV.bool true,AV.ro 1 (toN (getV r0)) (toR (getV r0)) (toG (getV r0))] [])) 0,AV.bool true,AV.ro 1 (toN (getV r0)) (toR (getV r0)) (toG (getV r0)),AV.bool z9,AV.ro 1 zb za w9]; ck (okX [RS.one LK.b,RS.one (LK.l 1)] r1) <| some (AV.tup [AV.bool (toB ((toT (getV r1)).headD .dead)),AV.ro 1 (toN ((toT (getV r1)).tail.headD .dead)) (toR ((toT (getV r1)).tail.headD .dead)) (toG ((toT (getV r1)).tail.headD .dead))]))
      qjt
      qrz
      qp5
      (1)
      (0)
      wh
      qr
      qz
      qy fuel
  else let r2 : Option AV := qe [AV.ro 1 qjt qrz qp5]; ck (okM [RS.one (LK.l 1)] r2) <| let r3 : Option AV := qc [AV.ptr (xidx 0 (xtoks [AV.ptr 0 0,AV.bool false,AV.ro 1 (toN (getV r2)) (toR (getV r2)) (toG (getV r2))] [])) 0,AV.bool false,AV.ro 1 (toN (getV r2)) (toR (getV r2)) (toG (getV r2)),AV.bool wh,AV.ro 1 qr qz qy]; ck (okX [RS.one LK.b,RS.one (LK.l 1)] r3) <| some (AV.tup [AV.bool (toB ((toT (getV r3)).headD .dead)),AV.ro 1 (toN ((toT (getV r3)).tail.headD .dead)) (toR ((toT (getV r3)).tail.headD .dead)) (toG ((toT (getV r3)).tail.headD .dead))])
theorem gInt_of_a_run (qe qc : Mo) (qb qa : Mo) (fuel qjt qrz : Nat) (qp5 : Ge) (wh : Bool) (qr qz : Nat) (qy : Ge) : runX Pr (GInt_of_a qe qc qb qa) [((6,199),LInt_of_a qe qc qb qa fuel)] fuel 7 199 XInt_of_a [AV.ptr 0 0,AV.ro 1 qjt qrz qp5] [Blk.box [AV.bool wh,AV.ro 1 qr qz qy]] = gInt_of_a qe qc qb qa fuel qjt qrz qp5 wh qr qz qy := by kernel_rfl
noncomputable def mInt_of_a (qe qc : Mo) (qb qa : Mo) (fuel : Nat) (xs : List AV) : Option AV := match xs with
  | [AV.ptr 0 0,AV.ro 1 qjt qrz qp5,AV.bool wh,AV.ro 1 qr qz qy] => gInt_of_a qe qc qb qa fuel qjt qrz qp5 wh qr qz qy
  | _ => none
theorem gInt_of_a_sm (qe qc : Mo) (qb qa : Mo) (fuel : Nat) (hΓ : GamOk Pr (GInt_of_a qe qc qb qa)) (hP : NamesOk Pr) : XOk Pr 199 (smX RInt_of_a XInt_of_a (mInt_of_a qe qc qb qa fuel)) XInt_of_a := by
  refine smX_ok (fuel := fuel) hΓ hP (LamOk.of 6 199 (LInt_of_a qe qc qb qa fuel) 1 (by kernel_rfl) (fun i hi => ?_)) 7 199 RInt_of_a XInt_of_a _ (fun xs0 ys0 v ha hb h => ?_)
  · match i,hi with
    | 0,_ => exact gInt_of_a_L0 qe qc qb qa fuel
    | i + 1,hi => exact absurd hi (by omega)
  · skip
    have ha0 : xs0.length = 2 := ha
    clear ha
    obtain ⟨a0,xs1,rfl,ha1⟩ := len_cons ha0
    clear ha0
    obtain ⟨a1,xs2,rfl,ha2⟩ := len_cons ha1
    clear ha1
    obtain rfl := List.eq_nil_of_length_eq_zero ha2
    have hy0 : ys0.map List.length = [2] := hb
    clear hb
    obtain ⟨wh,ys1,rfl,hb0_0,hy1⟩ := map_cons' hy0
    clear hy0
    obtain ⟨c0_0,b0_1,rfl,hb0_1⟩ := len_cons hb0_0
    clear hb0_0
    obtain ⟨c0_1,z8,rfl,hb0_2⟩ := len_cons hb0_1
    clear hb0_1
    obtain rfl := List.eq_nil_of_length_eq_zero hb0_2
    obtain rfl := map_nil' hy1
    have h : mInt_of_a qe qc qb qa fuel [a0,a1,c0_0,c0_1] = some v := h
    generalize hx0 : [a0,a1,c0_0,c0_1] = zs at h
    unfold mInt_of_a at h
    split at h
    · skip
      obtain ⟨rfl,hx1⟩ := List.cons.inj hx0
      obtain ⟨rfl,hx2⟩ := List.cons.inj hx1
      obtain ⟨rfl,hx3⟩ := List.cons.inj hx2
      obtain ⟨rfl,hx4⟩ := List.cons.inj hx3
      simp only [List.map_cons,List.map_nil]
      exact (gInt_of_a_run qe qc qb qa fuel _ _ _ _ _ _ _).trans h
    · cases h
noncomputable def SInt_Or_a_0 (un7 : Int) (pd pv : Nat) (qab pw : Nat) (qag qal : Nat) (vr : Int) (wx : Bool) (qu qx : Nat) (qw : Ge) (zj : Bool) (ze zg : Nat) (zh : Ge) (h2z : List AV) (h2e : List (List AV)) (h3z : List AV) (h3e : List (List AV)) : St := { env := [(0,AV.ptr 0 0),(7,AV.int .i64 un7),(8,AV.own 2 pd 1 pv qab),(9,AV.own 3 pw 1 qag qal),(10,AV.int .i64 vr)],h := [Blk.box [AV.bool wx,AV.ro 1 qu qx qw],Blk.box [AV.bool zj,AV.ro 1 ze zg zh],Blk.fx 1 h2z h2e,Blk.fx 1 h3z h3e],kd := [] }
noncomputable def XInt_Or_a_0_0 (qgh qgn qgd : Nat) (vm : Bool) (vl vk : Nat) (vi : Ge) (vy : Bool) (pc pb : Nat) (y7 : Ge) (qee : List AV) (qed : List (List AV)) (qf1 : List AV) (qf3 : List (List AV)) : St := { env := [(0,AV.ptr 0 0),(8,AV.own 2 qgh 1 qgn qgd)],h := [Blk.box [AV.bool vm,AV.ro 1 vl vk vi],Blk.box [AV.bool vy,AV.ro 1 pc pb y7],Blk.fx 1 qee qed,Blk.fx 1 qf1 qf3],kd := [] }
noncomputable def gInt_Or_a_l0_step (qn qq : Mo) (fuel : Nat) (kn : Int → List (List AV) → Option AV) (kx0 : Nat → Nat → Nat → Bool → Nat → Nat → Ge → Bool → Nat → Nat → Ge → List AV → List (List AV) → List AV → List (List AV) → Option AV) (un7 : Int) (pd pv : Nat) (qab pw : Nat) (qag qal : Nat) (wx : Bool) (qu qx : Nat) (qw : Ge) (zj : Bool) (ze zg : Nat) (zh : Ge) (h2z h3z : List AV) (h3e : List (List AV)) (vr : Int) (h2e : List (List AV)) : Option AV :=
  bif decide (vr < un7) then ck (decide (0 ≤ vr)) <| ck (decide (vr < (↑pv : Int))) <| ck (fitK (LK.i .u32) ((h2e.getD (pd + vr.toNat) h2z).getD 0 AV.dead)) <| ck (decide (0 ≤ vr)) <| ck (decide (vr < (↑qag : Int))) <| ck (fitK (LK.i .u32) ((h3e.getD (pw + vr.toNat) h3z).getD 0 AV.dead)) <| ck (decide (0 ≤ vr)) <| ck (decide (vr < (↑pv : Int))) <| kn (IntKind.i64.wrap (vr + 1)) (h2e.set (pd + vr.toNat) (AV.int .u32 (IntKind.u32.wrap (↑(BitVec.ofInt 32 (toI ((h2e.getD (pd + vr.toNat) h2z).getD 0 AV.dead)) ||| BitVec.ofInt 32 (toI ((h3e.getD (pw + vr.toNat) h3z).getD 0 AV.dead))).toNat : Int)) :: List.drop (0 + [AV.int .u32 (IntKind.u32.wrap (↑(BitVec.ofInt 32 (toI ((h2e.getD (pd + vr.toNat) h2z).getD 0 AV.dead)) ||| BitVec.ofInt 32 (toI ((h3e.getD (pw + vr.toNat) h3z).getD 0 AV.dead))).toNat : Int))].length) (h2e.getD (pd + vr.toNat) h2z)))
  else kx0 pd pv qab wx qu qx qw zj ze zg zh h2z h2e h3z h3e
noncomputable def gInt_Or_a_l0 (qn qq : Mo) (fuel : Nat) (kx0 : Nat → Nat → Nat → Bool → Nat → Nat → Ge → Bool → Nat → Nat → Ge → List AV → List (List AV) → List AV → List (List AV) → Option AV) (un7 : Int) (pd pv : Nat) (qab pw : Nat) (qag qal : Nat) (wx : Bool) (qu qx : Nat) (qw : Ge) (zj : Bool) (ze zg : Nat) (zh : Ge) (h2z h3z : List AV) (h3e : List (List AV)) : Nat → Int → List (List AV) → Option AV
  | 0,_,_ => none
  | n' + 1,vr,h2e => gInt_Or_a_l0_step qn qq fuel (gInt_Or_a_l0 qn qq fuel kx0 un7 pd pv qab pw qag qal wx qu qx qw zj ze zg zh h2z h3z h3e n') kx0 un7 pd pv qab pw qag qal wx qu qx qw zj ze zg zh h2z h3z h3e vr h2e
termination_by structural k => k
noncomputable def TInt_Or_a_0 : TS' := ⟨[(0,TA.ptr 0 0),(7,TA.i .i64),(8,TA.own 2 1),(9,TA.own 3 1),(10,TA.i .i64)],[TB.box [TA.b,TA.ro 1],TB.box [TA.b,TA.ro 1],TB.fx 1,TB.fx 1],[]⟩
noncomputable def FInt_Or_a_0 (qn qq : Mo) (fuel : Nat) (ps : List Pay) (K : Ex → St → Option AV) : Option AV := match ps with
  | .i un7 :: .n pd :: .n pv :: .n qab :: .n pw :: .n qag :: .n qal :: .i vr :: .b wx :: .n qu :: .n qx :: .g qw :: .b zj :: .n ze :: .n zg :: .g zh :: .z h2z :: .e h2e :: .z h3z :: .e h3e :: [] => gInt_Or_a_l0 qn qq fuel (fun qgh qgn qgd vm vl vk vi vy pc pb y7 qee qed qf1 qf3 => K (Ex.exit 0) (XInt_Or_a_0_0 qgh qgn qgd vm vl vk vi vy pc pb y7 qee qed qf1 qf3)) un7 pd pv qab pw qag qal wx qu qx qw zj ze zg zh h2z h3z h3e fuel vr h2e
  | _ => none
noncomputable def LInt_Or_a (qn qq : Mo) (fuel : Nat) : Lam AV := [(17591649174528,lam TInt_Or_a_0 (FInt_Or_a_0 qn qq fuel))]
noncomputable def GInt_Or_a (qn qq : Mo) : Gam := [(198,smX RInt_low_a XInt_low_a qn),(199,smX RInt_of_a XInt_of_a qq)]
theorem gInt_Or_a_l0_eq (qn qq : Mo) (fuel : Nat) (kn : St → Option AV) (K : Ex → St → Option AV) (un7 : Int) (pd pv : Nat) (qab pw : Nat) (qag qal : Nat) (wx : Bool) (qu qx : Nat) (qw : Ge) (zj : Bool) (ze zg : Nat) (zh : Ge) (h2z h3z : List AV) (h3e : List (List AV)) (qdz : Int) (qg2 : List (List AV)) (vr : Int) (h2e : List (List AV)) :
    bX Pr (GInt_Or_a qn qq) (LInt_Or_a qn qq fuel) 6 141 0 fuel (SInt_Or_a_0 un7 pd pv qab pw qag qal vr wx qu qx qw zj ze zg zh h2z h2e h3z h3e) (fun e s => match e with | .normal => kn (hX Pr 141 0 (SInt_Or_a_0 un7 pd pv qab pw qag qal qdz wx qu qx qw zj ze zg zh h2z qg2 h3z h3e) s) | e => K e s) =
    gInt_Or_a_l0_step qn qq fuel (fun vr h2e => kn (SInt_Or_a_0 un7 pd pv qab pw qag qal vr wx qu qx qw zj ze zg zh h2z h2e h3z h3e)) (fun qd3 qd5 qd1 z9 zb za w9 v6 yh yg yj qen qdu qg1 qf9 => K (Ex.exit 0) (XInt_Or_a_0_0 qd3 qd5 qd1 z9 zb za w9 v6 yh yg yj qen qdu qg1 qf9)) un7 pd pv qab pw qag qal wx qu qx qw zj ze zg zh h2z h3z h3e vr h2e := by kernel_rfl
theorem gInt_Or_a_l0_ok (qn qq : Mo) (fuel : Nat) (K : Ex → St → Option AV) (un7 : Int) (pd pv : Nat) (qab pw : Nat) (qag qal : Nat) (wx : Bool) (qu qx : Nat) (qw : Ge) (zj : Bool) (ze zg : Nat) (zh : Ge) (h2z h3z : List AV) (h3e : List (List AV)) (qdz : Int) (qg2 : List (List AV)) : ∀ (n' : Nat) (vr : Int) (h2e : List (List AV)),
    loopK (bX Pr (GInt_Or_a qn qq) (LInt_Or_a qn qq fuel) 6 141 0 fuel) (hX Pr 141 0 (SInt_Or_a_0 un7 pd pv qab pw qag qal qdz wx qu qx qw zj ze zg zh h2z qg2 h3z h3e)) n' (SInt_Or_a_0 un7 pd pv qab pw qag qal vr wx qu qx qw zj ze zg zh h2z h2e h3z h3e) K = gInt_Or_a_l0 qn qq fuel (fun qd3 qd5 qd1 z9 zb za w9 v6 yh yg yj qen qdu qg1 qf9 => K (Ex.exit 0) (XInt_Or_a_0_0 qd3 qd5 qd1 z9 zb za w9 v6 yh yg yj qen qdu qg1 qf9)) un7 pd pv qab pw qag qal wx qu qx qw zj ze zg zh h2z h3z h3e n' vr h2e
  | 0,_,_ => rfl
  | n' + 1,vr,h2e => (gInt_Or_a_l0_eq qn qq fuel (fun s => loopK (bX Pr (GInt_Or_a qn qq) (LInt_Or_a qn qq fuel) 6 141 0 fuel) (hX Pr 141 0 (SInt_Or_a_0 un7 pd pv qab pw qag qal qdz wx qu qx qw zj ze zg zh h2z qg2 h3z h3e)) n' s K) K un7 pd pv qab pw qag qal wx qu qx qw zj ze zg zh h2z h3z h3e qdz qg2 vr h2e).trans
    (congrArg (fun kn => gInt_Or_a_l0_step qn qq fuel kn _ un7 pd pv qab pw qag qal wx qu qx qw zj ze zg zh h2z h3z h3e vr h2e) (funext fun vr => funext fun h2e => gInt_Or_a_l0_ok qn qq fuel K un7 pd pv qab pw qag qal wx qu qx qw zj ze zg zh h2z h3z h3e qdz qg2 n' vr h2e))
theorem gInt_Or_a_L0 (qn qq : Mo) (fuel : Nat) : LX Pr (GInt_Or_a qn qq) (LInt_Or_a qn qq fuel) 6 141 0 fuel := by
  refine .of TInt_Or_a_0 (FInt_Or_a_0 qn qq fuel) (fun L h => ?_) (fun ps st K r he hr => ?_)
  · have e : (LInt_Or_a qn qq fuel).get (writes (lp Pr 141 0).1) = some (lam TInt_Or_a_0 (FInt_Or_a_0 qn qq fuel)) := by kernel_rfl
    exact (Option.some.inj (e.symm.trans h)).symm
  · unfold FInt_Or_a_0 at hr
    split at hr
    · obtain rfl := (Option.some.inj he).symm
      exact (gInt_Or_a_l0_ok qn qq fuel K _ _ _ _ _ _ _ _ _ _ _ _ _ _ _ _ _ _ _ _ fuel _ _).trans hr
    · cases hr
noncomputable def gInt_Or_a (qn qq : Mo) (fuel : Nat) (wh : Bool) (qr qz : Nat) (qy : Ge) (z4 : Bool) (w5 zl : Nat) (zm : Ge) : Option AV :=
  let r0 : Option AV := qn [AV.ptr (xidx 0 (xtoks [AV.ptr 0 0,AV.int .i64 (IntKind.i64.wrap ((if (↑w5 : Int) > (↑qr : Int) then (↑w5 : Int) else (↑qr : Int)) + 1))] [])) 0,AV.int .i64 (IntKind.i64.wrap ((if (↑w5 : Int) > (↑qr : Int) then (↑w5 : Int) else (↑qr : Int)) + 1)),AV.bool wh,AV.ro 1 qr qz qy]; ck (okX [RS.one LK.b,RS.one (LK.l 1),RS.one (LK.l 1),RS.one (LK.l 1),RS.one (LK.i .i64)] r0) <| let r1 : Option AV := qn [AV.ptr (xidx 1 (xtoks [AV.ptr 1 0,AV.int .i64 (IntKind.i64.wrap ((if (↑w5 : Int) > (↑qr : Int) then (↑w5 : Int) else (↑qr : Int)) + 1))] [])) 0,AV.int .i64 (IntKind.i64.wrap ((if (↑w5 : Int) > (↑qr : Int) then (↑w5 : Int) else (↑qr : Int)) + 1)),AV.bool z4,AV.ro 1 w5 zl zm]; ck (okX [RS.one LK.b,RS.one (LK.l 1),RS.one (LK.l 1),RS.one (LK.l 1),RS.one (LK.i .i64)] r1) <| gInt_Or_a_l0 qn qq fuel
    (fun (qd3 qd5 qd1 : Nat) (z9 : Bool) (zb za : Nat) (w9 : Ge) (v6 : Bool) (yh yg : Nat) (yj : Ge) (qen : List AV) (qdu : List (List AV)) (_ : List AV) (_ : List (List AV)) => let r2 : Option AV := qq [AV.ptr (xidx 0 (xtoks [AV.ptr 0 0,AV.own 2 qd3 1 qd5 qd1] [])) 0,AV.ro 1 qd5 qd1 fun (i j : Nat) => (qdu.getD (qd3 + i) qen).getD j AV.dead,AV.bool z9,AV.ro 1 zb za w9]; ck (okX [RS.one LK.b,RS.one (LK.l 1)] r2) <| some (AV.tup [AV.bool (toB ((toT (getV r2)).headD .dead)),AV.ro 1 (toN ((toT (getV r2)).tail.headD .dead)) (toR ((toT (getV r2)).tail.headD .dead)) (toG ((toT (getV r2)).tail.headD .dead)),AV.bool v6,AV.ro 1 yh yg yj]))
    (IntKind.i64.wrap ((if (↑w5 : Int) > (↑qr : Int) then (↑w5 : Int) else (↑qr : Int)) + 1))
    ((match (toT (getV r0)).tail.tail.tail.tail.headD .dead with | AV.int k n => n | x => 0).toNat)
    (match (toT (getV r0)).tail.tail.headD .dead with | AV.ro sz n rd get => n | x => 0)
    (match (toT (getV r0)).tail.tail.headD .dead with | AV.ro sz n r get => r | x => 0)
    ((match (toT (getV r1)).tail.tail.tail.tail.headD .dead with | AV.int k n => n | x => 0).toNat)
    (match (toT (getV r1)).tail.tail.headD .dead with | AV.ro sz n rd get => n | x => 0)
    (match (toT (getV r1)).tail.tail.headD .dead with | AV.ro sz n r get => r | x => 0)
    (toB ((toT (getV r0)).headD .dead))
    (toN ((toT (getV r0)).tail.headD .dead))
    (toR ((toT (getV r0)).tail.headD .dead))
    (toG ((toT (getV r0)).tail.headD .dead))
    (toB ((toT (getV r1)).headD .dead))
    (toN ((toT (getV r1)).tail.headD .dead))
    (toR ((toT (getV r1)).tail.headD .dead))
    (toG ((toT (getV r1)).tail.headD .dead))
    ([AV.int .u32 0])
    ([AV.int .u32 0])
    (rows 1 (match (toT (getV r1)).tail.tail.tail.headD .dead with | AV.ro sz n rd get => n | x => 0) (toG (AV.ro 1 (toN ((toT (getV r1)).tail.tail.tail.headD .dead)) (toR ((toT (getV r1)).tail.tail.tail.headD .dead)) (toG ((toT (getV r1)).tail.tail.tail.headD .dead))))) fuel (0) (rows 1 (match (toT (getV r0)).tail.tail.tail.headD .dead with | AV.ro sz n rd get => n | x => 0) (toG (AV.ro 1 (toN ((toT (getV r0)).tail.tail.tail.headD .dead)) (toR ((toT (getV r0)).tail.tail.tail.headD .dead)) (toG ((toT (getV r0)).tail.tail.tail.headD .dead)))))
theorem gInt_Or_a_run (qn qq : Mo) (fuel : Nat) (wh : Bool) (qr qz : Nat) (qy : Ge) (z4 : Bool) (w5 zl : Nat) (zm : Ge) : runX Pr (GInt_Or_a qn qq) [((6,141),LInt_Or_a qn qq fuel)] fuel 7 141 XInt_Or_a [AV.ptr 0 0,AV.ptr 0 0,AV.ptr 1 0] [Blk.box [AV.bool wh,AV.ro 1 qr qz qy],Blk.box [AV.bool z4,AV.ro 1 w5 zl zm]] = gInt_Or_a qn qq fuel wh qr qz qy z4 w5 zl zm := by kernel_rfl
noncomputable def mInt_Or_a (qn qq : Mo) (fuel : Nat) (xs : List AV) : Option AV := match xs with
  | [AV.ptr 0 0,AV.ptr 0 0,AV.ptr 1 0,AV.bool wh,AV.ro 1 qr qz qy,AV.bool z4,AV.ro 1 w5 zl zm] => gInt_Or_a qn qq fuel wh qr qz qy z4 w5 zl zm
  | _ => none
theorem gInt_Or_a_sm (qn qq : Mo) (fuel : Nat) (hΓ : GamOk Pr (GInt_Or_a qn qq)) (hP : NamesOk Pr) : XOk Pr 141 (smX RInt_Or_a XInt_Or_a (mInt_Or_a qn qq fuel)) XInt_Or_a := by
  refine smX_ok (fuel := fuel) hΓ hP (LamOk.of 6 141 (LInt_Or_a qn qq fuel) 1 (by kernel_rfl) (fun i hi => ?_)) 7 141 RInt_Or_a XInt_Or_a _ (fun xs0 ys0 v ha hb h => ?_)
  · match i,hi with
    | 0,_ => exact gInt_Or_a_L0 qn qq fuel
    | i + 1,hi => exact absurd hi (by omega)
  · skip
    have ha0 : xs0.length = 3 := ha
    clear ha
    obtain ⟨a0,xs1,rfl,ha1⟩ := len_cons ha0
    clear ha0
    obtain ⟨a1,xs2,rfl,ha2⟩ := len_cons ha1
    clear ha1
    obtain ⟨a2,xs3,rfl,ha3⟩ := len_cons ha2
    clear ha2
    obtain rfl := List.eq_nil_of_length_eq_zero ha3
    have hy0 : ys0.map List.length = [2,2] := hb
    clear hb
    obtain ⟨wh,ys1,rfl,hb0_0,hy1⟩ := map_cons' hy0
    clear hy0
    obtain ⟨c0_0,b0_1,rfl,hb0_1⟩ := len_cons hb0_0
    clear hb0_0
    obtain ⟨c0_1,z8,rfl,hb0_2⟩ := len_cons hb0_1
    clear hb0_1
    obtain rfl := List.eq_nil_of_length_eq_zero hb0_2
    obtain ⟨z4,ys2,rfl,hb1_0,hy2⟩ := map_cons' hy1
    clear hy1
    obtain ⟨c1_0,b1_1,rfl,hb1_1⟩ := len_cons hb1_0
    clear hb1_0
    obtain ⟨c1_1,qaq,rfl,hb1_2⟩ := len_cons hb1_1
    clear hb1_1
    obtain rfl := List.eq_nil_of_length_eq_zero hb1_2
    obtain rfl := map_nil' hy2
    have h : mInt_Or_a qn qq fuel [a0,a1,a2,c0_0,c0_1,c1_0,c1_1] = some v := h
    generalize hx0 : [a0,a1,a2,c0_0,c0_1,c1_0,c1_1] = zs at h
    unfold mInt_Or_a at h
    split at h
    · skip
      obtain ⟨rfl,hx1⟩ := List.cons.inj hx0
      obtain ⟨rfl,hx2⟩ := List.cons.inj hx1
      obtain ⟨rfl,hx3⟩ := List.cons.inj hx2
      obtain ⟨rfl,hx4⟩ := List.cons.inj hx3
      obtain ⟨rfl,hx5⟩ := List.cons.inj hx4
      obtain ⟨rfl,hx6⟩ := List.cons.inj hx5
      obtain ⟨rfl,hx7⟩ := List.cons.inj hx6
      simp only [List.map_cons,List.map_nil]
      exact (gInt_Or_a_run qn qq fuel _ _ _ _ _ _ _ _).trans h
    · cases h
noncomputable def Gtwin : Gam := []
noncomputable def gtwin (fuel zn vq : Nat) (vh : Ge) : Option AV :=
  ck (decide (zn * 4 < 70368744177664)) <| ck (decide (zn < 4611686018427387904)) <| some (AV.ro 1 (rows 1 zn vh).length (rows 1 zn vh).length fun (i j : Nat) => ((rows 1 zn vh).getD i [AV.int .u32 0]).getD j AV.dead)
noncomputable def mtwin (fuel : Nat) (xs : List AV) : Option AV := match xs with
  | [AV.ro 1 zn vq vh] => gtwin fuel zn vq vh
  | _ => none
abbrev Rtwin : List RS := [RS.one (LK.l (nat_lit 1))]
theorem gtwin_sm (fuel : Nat) (hΓ : GamOk Pr Gtwin) (hP : NamesOk Pr) : SmOk Pr 137 (smM Rtwin (mtwin fuel)) := sm0 (fuel := fuel) (d := 7) hΓ hP fun xs v h => by
  unfold mtwin at h
  split at h
  · exact Eq.trans (by kernel_rfl) h
  · cases h
noncomputable def LInt_Neg_ra (q3 qc : Mo) (qb qa : Mo) (fuel : Nat) : Lam AV := []
noncomputable def GInt_Neg_ra (q3 qc : Mo) (qb qa : Mo) : Gam := [(137,smM [RS.one (LK.l (nat_lit 1))] q3),(133,smX RInt_give_i XInt_give_i qc),(133,smX RInt_give_ra XInt_give_ra qb),(133,smX RInt_give_rb XInt_give_rb qa)]
noncomputable def gInt_Neg_ra (q3 qc : Mo) (qb qa : Mo) (fuel : Nat) (wh : Bool) (qr qz : Nat) (qy : Ge) (z8 : Bool) (zu zz : Nat) (zw : Ge) : Option AV :=
  let r0 : Option AV := q3 [AV.ro 1 qr qz qy]; ck (okM [RS.one (LK.l 1)] r0) <| let r1 : Option AV := qb [AV.ptr (xidx 0 (xtoks [AV.ptr 0 0,AV.bool !wh,AV.ro 1 (toN (getV r0)) (toR (getV r0)) (toG (getV r0))] [])) 0,AV.bool !wh,AV.ro 1 (toN (getV r0)) (toR (getV r0)) (toG (getV r0)),AV.bool wh,AV.ro 1 qr qz qy,AV.bool z8,AV.ro 1 zu zz zw]; ck (okX [RS.one LK.b,RS.one (LK.l 1),RS.one LK.b,RS.one (LK.l 1)] r1) <| some (AV.tup [AV.bool (toB ((toT (getV r1)).headD .dead)),AV.ro 1 (toN ((toT (getV r1)).tail.headD .dead)) (toR ((toT (getV r1)).tail.headD .dead)) (toG ((toT (getV r1)).tail.headD .dead)),AV.bool (toB ((toT (getV r1)).tail.tail.headD .dead)),AV.ro 1 (toN ((toT (getV r1)).tail.tail.tail.headD .dead)) (toR ((toT (getV r1)).tail.tail.tail.headD .dead)) (toG ((toT (getV r1)).tail.tail.tail.headD .dead))])
theorem gInt_Neg_ra_run (q3 qc : Mo) (qb qa : Mo) (fuel : Nat) (wh : Bool) (qr qz : Nat) (qy : Ge) (z8 : Bool) (zu zz : Nat) (zw : Ge) : runX Pr (GInt_Neg_ra q3 qc qb qa) [((6,79),LInt_Neg_ra q3 qc qb qa fuel)] fuel 7 79 XInt_Neg_ra [AV.ptr 0 0,AV.ptr 0 0] [Blk.box [AV.bool wh,AV.ro 1 qr qz qy,AV.bool z8,AV.ro 1 zu zz zw]] = gInt_Neg_ra q3 qc qb qa fuel wh qr qz qy z8 zu zz zw := by kernel_rfl
noncomputable def mInt_Neg_ra (q3 qc : Mo) (qb qa : Mo) (fuel : Nat) (xs : List AV) : Option AV := match xs with
  | [AV.ptr 0 0,AV.ptr 0 0,AV.bool wh,AV.ro 1 qr qz qy,AV.bool z8,AV.ro 1 zu zz zw] => gInt_Neg_ra q3 qc qb qa fuel wh qr qz qy z8 zu zz zw
  | _ => none
theorem gInt_Neg_ra_sm (q3 qc : Mo) (qb qa : Mo) (fuel : Nat) (hΓ : GamOk Pr (GInt_Neg_ra q3 qc qb qa)) (hP : NamesOk Pr) : XOk Pr 79 (smX RInt_Neg_ra XInt_Neg_ra (mInt_Neg_ra q3 qc qb qa fuel)) XInt_Neg_ra := by
  refine smX_ok (fuel := fuel) hΓ hP (LamOk.of 6 79 (LInt_Neg_ra q3 qc qb qa fuel) 0 (by kernel_rfl) (fun i hi => ?_)) 7 79 RInt_Neg_ra XInt_Neg_ra _ (fun xs0 ys0 v ha hb h => ?_)
  · match i,hi with
    | i + 0,hi => exact absurd hi (by omega)
  · skip
    have ha0 : xs0.length = 2 := ha
    clear ha
    obtain ⟨a0,xs1,rfl,ha1⟩ := len_cons ha0
    clear ha0
    obtain ⟨a1,xs2,rfl,ha2⟩ := len_cons ha1
    clear ha1
    obtain rfl := List.eq_nil_of_length_eq_zero ha2
    have hy0 : ys0.map List.length = [4] := hb
    clear hb
    obtain ⟨wh,ys1,rfl,hb0_0,hy1⟩ := map_cons' hy0
    clear hy0
    obtain ⟨c0_0,b0_1,rfl,hb0_1⟩ := len_cons hb0_0
    clear hb0_0
    obtain ⟨c0_1,z8,rfl,hb0_2⟩ := len_cons hb0_1
    clear hb0_1
    obtain ⟨c0_2,b0_3,rfl,hb0_3⟩ := len_cons hb0_2
    clear hb0_2
    obtain ⟨c0_3,b0_4,rfl,hb0_4⟩ := len_cons hb0_3
    clear hb0_3
    obtain rfl := List.eq_nil_of_length_eq_zero hb0_4
    obtain rfl := map_nil' hy1
    have h : mInt_Neg_ra q3 qc qb qa fuel [a0,a1,c0_0,c0_1,c0_2,c0_3] = some v := h
    generalize hx0 : [a0,a1,c0_0,c0_1,c0_2,c0_3] = zs at h
    unfold mInt_Neg_ra at h
    split at h
    · skip
      obtain ⟨rfl,hx1⟩ := List.cons.inj hx0
      obtain ⟨rfl,hx2⟩ := List.cons.inj hx1
      obtain ⟨rfl,hx3⟩ := List.cons.inj hx2
      obtain ⟨rfl,hx4⟩ := List.cons.inj hx3
      obtain ⟨rfl,hx5⟩ := List.cons.inj hx4
      obtain ⟨rfl,hx6⟩ := List.cons.inj hx5
      simp only [List.map_cons,List.map_nil]
      exact (gInt_Neg_ra_run q3 qc qb qa fuel _ _ _ _ _ _ _ _).trans h
    · cases h
noncomputable def LInt_Neg_rb (q3 qc : Mo) (qb qa : Mo) (fuel : Nat) : Lam AV := []
noncomputable def GInt_Neg_rb (q3 qc : Mo) (qb qa : Mo) : Gam := [(137,smM [RS.one (LK.l (nat_lit 1))] q3),(133,smX RInt_give_i XInt_give_i qc),(133,smX RInt_give_ra XInt_give_ra qb),(133,smX RInt_give_rb XInt_give_rb qa)]
noncomputable def gInt_Neg_rb (q3 qc : Mo) (qb qa : Mo) (fuel : Nat) (wh : Bool) (qr qz : Nat) (qy : Ge) (z8 : Bool) (zu zz : Nat) (zw : Ge) : Option AV :=
  let r0 : Option AV := q3 [AV.ro 1 zu zz zw]; ck (okM [RS.one (LK.l 1)] r0) <| let r1 : Option AV := qa [AV.ptr (xidx 0 (xtoks [AV.ptr 0 2,AV.bool !z8,AV.ro 1 (toN (getV r0)) (toR (getV r0)) (toG (getV r0))] [])) 2,AV.bool !z8,AV.ro 1 (toN (getV r0)) (toR (getV r0)) (toG (getV r0)),AV.bool wh,AV.ro 1 qr qz qy,AV.bool z8,AV.ro 1 zu zz zw]; ck (okX [RS.one LK.b,RS.one (LK.l 1),RS.one LK.b,RS.one (LK.l 1)] r1) <| some (AV.tup [AV.bool (toB ((toT (getV r1)).headD .dead)),AV.ro 1 (toN ((toT (getV r1)).tail.headD .dead)) (toR ((toT (getV r1)).tail.headD .dead)) (toG ((toT (getV r1)).tail.headD .dead)),AV.bool (toB ((toT (getV r1)).tail.tail.headD .dead)),AV.ro 1 (toN ((toT (getV r1)).tail.tail.tail.headD .dead)) (toR ((toT (getV r1)).tail.tail.tail.headD .dead)) (toG ((toT (getV r1)).tail.tail.tail.headD .dead))])
theorem gInt_Neg_rb_run (q3 qc : Mo) (qb qa : Mo) (fuel : Nat) (wh : Bool) (qr qz : Nat) (qy : Ge) (z8 : Bool) (zu zz : Nat) (zw : Ge) : runX Pr (GInt_Neg_rb q3 qc qb qa) [((6,79),LInt_Neg_rb q3 qc qb qa fuel)] fuel 7 79 XInt_Neg_rb [AV.ptr 0 2,AV.ptr 0 2] [Blk.box [AV.bool wh,AV.ro 1 qr qz qy,AV.bool z8,AV.ro 1 zu zz zw]] = gInt_Neg_rb q3 qc qb qa fuel wh qr qz qy z8 zu zz zw := by kernel_rfl
noncomputable def mInt_Neg_rb (q3 qc : Mo) (qb qa : Mo) (fuel : Nat) (xs : List AV) : Option AV := match xs with
  | [AV.ptr 0 2,AV.ptr 0 2,AV.bool wh,AV.ro 1 qr qz qy,AV.bool z8,AV.ro 1 zu zz zw] => gInt_Neg_rb q3 qc qb qa fuel wh qr qz qy z8 zu zz zw
  | _ => none
theorem gInt_Neg_rb_sm (q3 qc : Mo) (qb qa : Mo) (fuel : Nat) (hΓ : GamOk Pr (GInt_Neg_rb q3 qc qb qa)) (hP : NamesOk Pr) : XOk Pr 79 (smX RInt_Neg_rb XInt_Neg_rb (mInt_Neg_rb q3 qc qb qa fuel)) XInt_Neg_rb := by
  refine smX_ok (fuel := fuel) hΓ hP (LamOk.of 6 79 (LInt_Neg_rb q3 qc qb qa fuel) 0 (by kernel_rfl) (fun i hi => ?_)) 7 79 RInt_Neg_rb XInt_Neg_rb _ (fun xs0 ys0 v ha hb h => ?_)
  · match i,hi with
    | i + 0,hi => exact absurd hi (by omega)
  · skip
    have ha0 : xs0.length = 2 := ha
    clear ha
    obtain ⟨a0,xs1,rfl,ha1⟩ := len_cons ha0
    clear ha0
    obtain ⟨a1,xs2,rfl,ha2⟩ := len_cons ha1
    clear ha1
    obtain rfl := List.eq_nil_of_length_eq_zero ha2
    have hy0 : ys0.map List.length = [4] := hb
    clear hb
    obtain ⟨wh,ys1,rfl,hb0_0,hy1⟩ := map_cons' hy0
    clear hy0
    obtain ⟨c0_0,b0_1,rfl,hb0_1⟩ := len_cons hb0_0
    clear hb0_0
    obtain ⟨c0_1,z8,rfl,hb0_2⟩ := len_cons hb0_1
    clear hb0_1
    obtain ⟨c0_2,b0_3,rfl,hb0_3⟩ := len_cons hb0_2
    clear hb0_2
    obtain ⟨c0_3,b0_4,rfl,hb0_4⟩ := len_cons hb0_3
    clear hb0_3
    obtain rfl := List.eq_nil_of_length_eq_zero hb0_4
    obtain rfl := map_nil' hy1
    have h : mInt_Neg_rb q3 qc qb qa fuel [a0,a1,c0_0,c0_1,c0_2,c0_3] = some v := h
    generalize hx0 : [a0,a1,c0_0,c0_1,c0_2,c0_3] = zs at h
    unfold mInt_Neg_rb at h
    split at h
    · skip
      obtain ⟨rfl,hx1⟩ := List.cons.inj hx0
      obtain ⟨rfl,hx2⟩ := List.cons.inj hx1
      obtain ⟨rfl,hx3⟩ := List.cons.inj hx2
      obtain ⟨rfl,hx4⟩ := List.cons.inj hx3
      obtain ⟨rfl,hx5⟩ := List.cons.inj hx4
      obtain ⟨rfl,hx6⟩ := List.cons.inj hx5
      simp only [List.map_cons,List.map_nil]
      exact (gInt_Neg_rb_run q3 qc qb qa fuel _ _ _ _ _ _ _ _).trans h
    · cases h
noncomputable def LInt_Neg_ii (q3 qc : Mo) (qb qa : Mo) (fuel : Nat) : Lam AV := []
noncomputable def GInt_Neg_ii (q3 qc : Mo) (qb qa : Mo) : Gam := [(137,smM [RS.one (LK.l (nat_lit 1))] q3),(133,smX RInt_give_i XInt_give_i qc),(133,smX RInt_give_ra XInt_give_ra qb),(133,smX RInt_give_rb XInt_give_rb qa)]
noncomputable def gInt_Neg_ii (q3 qc : Mo) (qb qa : Mo) (fuel : Nat) (wh : Bool) (qr qz : Nat) (qy : Ge) : Option AV :=
  let r0 : Option AV := q3 [AV.ro 1 qr qz qy]; ck (okM [RS.one (LK.l 1)] r0) <| let r1 : Option AV := qc [AV.ptr (xidx 0 (xtoks [AV.ptr 0 0,AV.bool !wh,AV.ro 1 (toN (getV r0)) (toR (getV r0)) (toG (getV r0))] [])) 0,AV.bool !wh,AV.ro 1 (toN (getV r0)) (toR (getV r0)) (toG (getV r0)),AV.bool wh,AV.ro 1 qr qz qy]; ck (okX [RS.one LK.b,RS.one (LK.l 1)] r1) <| some (AV.tup [AV.bool (toB ((toT (getV r1)).headD .dead)),AV.ro 1 (toN ((toT (getV r1)).tail.headD .dead)) (toR ((toT (getV r1)).tail.headD .dead)) (toG ((toT (getV r1)).tail.headD .dead))])
theorem gInt_Neg_ii_run (q3 qc : Mo) (qb qa : Mo) (fuel : Nat) (wh : Bool) (qr qz : Nat) (qy : Ge) : runX Pr (GInt_Neg_ii q3 qc qb qa) [((6,79),LInt_Neg_ii q3 qc qb qa fuel)] fuel 7 79 XInt_Neg_ii [AV.ptr 0 0,AV.ptr 0 0] [Blk.box [AV.bool wh,AV.ro 1 qr qz qy]] = gInt_Neg_ii q3 qc qb qa fuel wh qr qz qy := by kernel_rfl
noncomputable def mInt_Neg_ii (q3 qc : Mo) (qb qa : Mo) (fuel : Nat) (xs : List AV) : Option AV := match xs with
  | [AV.ptr 0 0,AV.ptr 0 0,AV.bool wh,AV.ro 1 qr qz qy] => gInt_Neg_ii q3 qc qb qa fuel wh qr qz qy
  | _ => none
theorem gInt_Neg_ii_sm (q3 qc : Mo) (qb qa : Mo) (fuel : Nat) (hΓ : GamOk Pr (GInt_Neg_ii q3 qc qb qa)) (hP : NamesOk Pr) : XOk Pr 79 (smX RInt_Neg_ii XInt_Neg_ii (mInt_Neg_ii q3 qc qb qa fuel)) XInt_Neg_ii := by
  refine smX_ok (fuel := fuel) hΓ hP (LamOk.of 6 79 (LInt_Neg_ii q3 qc qb qa fuel) 0 (by kernel_rfl) (fun i hi => ?_)) 7 79 RInt_Neg_ii XInt_Neg_ii _ (fun xs0 ys0 v ha hb h => ?_)
  · match i,hi with
    | i + 0,hi => exact absurd hi (by omega)
  · skip
    have ha0 : xs0.length = 2 := ha
    clear ha
    obtain ⟨a0,xs1,rfl,ha1⟩ := len_cons ha0
    clear ha0
    obtain ⟨a1,xs2,rfl,ha2⟩ := len_cons ha1
    clear ha1
    obtain rfl := List.eq_nil_of_length_eq_zero ha2
    have hy0 : ys0.map List.length = [2] := hb
    clear hb
    obtain ⟨wh,ys1,rfl,hb0_0,hy1⟩ := map_cons' hy0
    clear hy0
    obtain ⟨c0_0,b0_1,rfl,hb0_1⟩ := len_cons hb0_0
    clear hb0_0
    obtain ⟨c0_1,z8,rfl,hb0_2⟩ := len_cons hb0_1
    clear hb0_1
    obtain rfl := List.eq_nil_of_length_eq_zero hb0_2
    obtain rfl := map_nil' hy1
    have h : mInt_Neg_ii q3 qc qb qa fuel [a0,a1,c0_0,c0_1] = some v := h
    generalize hx0 : [a0,a1,c0_0,c0_1] = zs at h
    unfold mInt_Neg_ii at h
    split at h
    · skip
      obtain ⟨rfl,hx1⟩ := List.cons.inj hx0
      obtain ⟨rfl,hx2⟩ := List.cons.inj hx1
      obtain ⟨rfl,hx3⟩ := List.cons.inj hx2
      obtain ⟨rfl,hx4⟩ := List.cons.inj hx3
      simp only [List.map_cons,List.map_nil]
      exact (gInt_Neg_ii_run q3 qc qb qa fuel _ _ _ _).trans h
    · cases h
noncomputable def Sdyad_whole_a_0 (u8 u9 : Int) (wx : Bool) (qu qx : Nat) (qw : Ge) (ph : Int) (zj : Bool) (ze zg : Nat) (zh : Ge) : St := { env := [(1,AV.ptr 0 0),(3,AV.ptr 1 0),(8,AV.int .i64 u8),(9,AV.int .i64 u9)],h := [Blk.box [AV.bool wx,AV.ro 1 qu qx qw,AV.int .i64 ph],Blk.box [AV.bool zj,AV.ro 1 ze zg zh]],kd := [] }
noncomputable def Xdyad_whole_a_0_0 (vm : Bool) (vl vk : Nat) (vi : Ge) (qgg : Int) (vy : Bool) (pc pb : Nat) (y7 : Ge) : St := { env := [(1,AV.ptr 0 0),(3,AV.ptr 1 0)],h := [Blk.box [AV.bool vm,AV.ro 1 vl vk vi,AV.int .i64 qgg],Blk.box [AV.bool vy,AV.ro 1 pc pb y7]],kd := [] }
noncomputable def gdyad_whole_a_l0_step (wd qc : Mo) (qb qa : Mo) (qh zx : Mo) (wp wo wq : Mo) (fuel : Nat) (kn : Int → Bool → Nat → Nat → Ge → Option AV) (kx0 : Bool → Nat → Nat → Ge → Int → Bool → Nat → Nat → Ge → Option AV) (u8 : Int) (wx : Bool) (qu qx : Nat) (qw : Ge) (ph u9 : Int) (zj : Bool) (ze zg : Nat) (zh : Ge) : Option AV :=
  bif decide (u9 < u8) then let r0 : Option AV := wd [AV.ro 1 ze zg zh,AV.int .u64 64]; ck (okM [RS.one (LK.l (nat_lit 1))] r0) <| let r1 : Option AV := qc [AV.ptr (xidx 1 (xtoks [AV.ptr 1 0,AV.bool zj,AV.ro 1 (toN (getV r0)) (toR (getV r0)) (toG (getV r0))] [])) 0,AV.bool zj,AV.ro 1 (toN (getV r0)) (toR (getV r0)) (toG (getV r0)),AV.bool zj,AV.ro 1 ze zg zh]; ck (okX [RS.one LK.b,RS.one (LK.l 1)] r1) <| ck (decide (0 ≤ IntKind.i64.wrap (IntKind.i64.wrap ((↑qu : Int) - 1) - u9))) <| ck (decide (IntKind.i64.wrap (IntKind.i64.wrap ((↑qu : Int) - 1) - u9) < (↑qu : Int))) <| ck (fitK (LK.i .u64) (qw (IntKind.i64.wrap (IntKind.i64.wrap ((↑qu : Int) - 1) - u9)).toNat 0)) <| let r2 : Option AV := qh [AV.ptr (xidx [Blk.box [AV.bool wx,AV.ro 1 qu qx qw,AV.int .i64 ph],Blk.box [AV.bool (toB ((toT (getV r1)).headD .dead)),AV.ro 1 (toN ((toT (getV r1)).tail.headD .dead)) (toR ((toT (getV r1)).tail.headD .dead)) (toG ((toT (getV r1)).tail.headD .dead))]].length (xtoks [AV.ptr [Blk.box [AV.bool wx,AV.ro 1 qu qx qw,AV.int .i64 ph],Blk.box [AV.bool (toB ((toT (getV r1)).headD .dead)),AV.ro 1 (toN ((toT (getV r1)).tail.headD .dead)) (toR ((toT (getV r1)).tail.headD .dead)) (toG ((toT (getV r1)).tail.headD .dead))]].length 0,AV.int .u64 (toI (qw (IntKind.i64.wrap (IntKind.i64.wrap ((↑qu : Int) - 1) - u9)).toNat 0))] [])) 0,AV.int .u64 (toI (qw (IntKind.i64.wrap (IntKind.i64.wrap ((↑qu : Int) - 1) - u9)).toNat 0)),AV.bool false,AV.ro 1 0 0 fun (x j : Nat) => [AV.int .u32 0].getD j AV.dead]; ck (okX [RS.one LK.b,RS.one (LK.l 1)] r2) <| let r3 : Option AV := zx [AV.ptr (xidx 1 (xtoks [AV.ptr 1 0,AV.ptr 1 0,AV.ptr (xren (xtoks [AV.ptr [Blk.box [AV.bool wx,AV.ro 1 qu qx qw,AV.int .i64 ph],Blk.box [AV.bool (toB ((toT (getV r1)).headD .dead)),AV.ro 1 (toN ((toT (getV r1)).tail.headD .dead)) (toR ((toT (getV r1)).tail.headD .dead)) (toG ((toT (getV r1)).tail.headD .dead))]].length 0,AV.int .u64 (toI (qw (IntKind.i64.wrap (IntKind.i64.wrap ((↑qu : Int) - 1) - u9)).toNat 0))] []) [Blk.box [AV.bool wx,AV.ro 1 qu qx qw,AV.int .i64 ph],Blk.box [AV.bool (toB ((toT (getV r1)).headD .dead)),AV.ro 1 (toN ((toT (getV r1)).tail.headD .dead)) (toR ((toT (getV r1)).tail.headD .dead)) (toG ((toT (getV r1)).tail.headD .dead))],Blk.box [AV.bool false,AV.nils 1 [AV.int .u32 0]]].length 0) 0] [])) 0,AV.ptr (xidx 1 (xtoks [AV.ptr 1 0,AV.ptr 1 0,AV.ptr (xren (xtoks [AV.ptr [Blk.box [AV.bool wx,AV.ro 1 qu qx qw,AV.int .i64 ph],Blk.box [AV.bool (toB ((toT (getV r1)).headD .dead)),AV.ro 1 (toN ((toT (getV r1)).tail.headD .dead)) (toR ((toT (getV r1)).tail.headD .dead)) (toG ((toT (getV r1)).tail.headD .dead))]].length 0,AV.int .u64 (toI (qw (IntKind.i64.wrap (IntKind.i64.wrap ((↑qu : Int) - 1) - u9)).toNat 0))] []) [Blk.box [AV.bool wx,AV.ro 1 qu qx qw,AV.int .i64 ph],Blk.box [AV.bool (toB ((toT (getV r1)).headD .dead)),AV.ro 1 (toN ((toT (getV r1)).tail.headD .dead)) (toR ((toT (getV r1)).tail.headD .dead)) (toG ((toT (getV r1)).tail.headD .dead))],Blk.box [AV.bool false,AV.nils 1 [AV.int .u32 0]]].length 0) 0] [])) 0,AV.ptr (xidx (xren (xtoks [AV.ptr [Blk.box [AV.bool wx,AV.ro 1 qu qx qw,AV.int .i64 ph],Blk.box [AV.bool (toB ((toT (getV r1)).headD .dead)),AV.ro 1 (toN ((toT (getV r1)).tail.headD .dead)) (toR ((toT (getV r1)).tail.headD .dead)) (toG ((toT (getV r1)).tail.headD .dead))]].length 0,AV.int .u64 (toI (qw (IntKind.i64.wrap (IntKind.i64.wrap ((↑qu : Int) - 1) - u9)).toNat 0))] []) [Blk.box [AV.bool wx,AV.ro 1 qu qx qw,AV.int .i64 ph],Blk.box [AV.bool (toB ((toT (getV r1)).headD .dead)),AV.ro 1 (toN ((toT (getV r1)).tail.headD .dead)) (toR ((toT (getV r1)).tail.headD .dead)) (toG ((toT (getV r1)).tail.headD .dead))],Blk.box [AV.bool false,AV.nils 1 [AV.int .u32 0]]].length 0) (xtoks [AV.ptr 1 0,AV.ptr 1 0,AV.ptr (xren (xtoks [AV.ptr [Blk.box [AV.bool wx,AV.ro 1 qu qx qw,AV.int .i64 ph],Blk.box [AV.bool (toB ((toT (getV r1)).headD .dead)),AV.ro 1 (toN ((toT (getV r1)).tail.headD .dead)) (toR ((toT (getV r1)).tail.headD .dead)) (toG ((toT (getV r1)).tail.headD .dead))]].length 0,AV.int .u64 (toI (qw (IntKind.i64.wrap (IntKind.i64.wrap ((↑qu : Int) - 1) - u9)).toNat 0))] []) [Blk.box [AV.bool wx,AV.ro 1 qu qx qw,AV.int .i64 ph],Blk.box [AV.bool (toB ((toT (getV r1)).headD .dead)),AV.ro 1 (toN ((toT (getV r1)).tail.headD .dead)) (toR ((toT (getV r1)).tail.headD .dead)) (toG ((toT (getV r1)).tail.headD .dead))],Blk.box [AV.bool false,AV.nils 1 [AV.int .u32 0]]].length 0) 0] [])) 0,AV.bool (toB ((toT (getV r1)).headD .dead)),AV.ro 1 (toN ((toT (getV r1)).tail.headD .dead)) (toR ((toT (getV r1)).tail.headD .dead)) (toG ((toT (getV r1)).tail.headD .dead)),AV.bool (toB ((toT (getV r2)).headD .dead)),AV.ro 1 (toN ((toT (getV r2)).tail.headD .dead)) (toR ((toT (getV r2)).tail.headD .dead)) (toG ((toT (getV r2)).tail.headD .dead))]; ck (okX [RS.one LK.b,RS.one (LK.l 1),RS.one LK.b,RS.one (LK.l 1)] r3) <| kn (IntKind.i64.wrap (u9 + 1)) (toB ((toT (getV r3)).headD .dead)) (toN ((toT (getV r3)).tail.headD .dead)) (toR ((toT (getV r3)).tail.headD .dead)) (toG ((toT (getV r3)).tail.headD .dead))
  else kx0 wx qu qx qw ph zj ze zg zh
noncomputable def gdyad_whole_a_l0 (wd qc : Mo) (qb qa : Mo) (qh zx : Mo) (wp wo wq : Mo) (fuel : Nat) (kx0 : Bool → Nat → Nat → Ge → Int → Bool → Nat → Nat → Ge → Option AV) (u8 : Int) (wx : Bool) (qu qx : Nat) (qw : Ge) (ph : Int) : Nat → Int → Bool → Nat → Nat → Ge → Option AV
  | 0,_,_,_,_,_ => none
  | n' + 1,u9,zj,ze,zg,zh => gdyad_whole_a_l0_step wd qc qb qa qh zx wp wo wq fuel (gdyad_whole_a_l0 wd qc qb qa qh zx wp wo wq fuel kx0 u8 wx qu qx qw ph n') kx0 u8 wx qu qx qw ph u9 zj ze zg zh
noncomputable def Tdyad_whole_a_0 : TS' := ⟨[(1,TA.ptr 0 0),(3,TA.ptr 1 0),(8,TA.i .i64),(9,TA.i .i64)],[TB.box [TA.b,TA.ro 1,TA.i .i64],TB.box [TA.b,TA.ro 1]],[]⟩
noncomputable def Fdyad_whole_a_0 (wd qc : Mo) (qb qa : Mo) (qh zx : Mo) (wp wo wq : Mo) (fuel : Nat) (ps : List Pay) (K : Ex → St → Option AV) : Option AV := match ps with
  | .i u8 :: .i u9 :: .b wx :: .n qu :: .n qx :: .g qw :: .i ph :: .b zj :: .n ze :: .n zg :: .g zh :: [] => gdyad_whole_a_l0 wd qc qb qa qh zx wp wo wq fuel (fun vm vl vk vi qgg vy pc pb y7 => K (Ex.exit 0) (Xdyad_whole_a_0_0 vm vl vk vi qgg vy pc pb y7)) u8 wx qu qx qw ph fuel u9 zj ze zg zh
  | _ => none
noncomputable def Ldyad_whole_a (wd qc : Mo) (qb qa : Mo) (qh zx : Mo) (wp wo wq : Mo) (fuel : Nat) : Lam AV := [(2147483152,lam Tdyad_whole_a_0 (Fdyad_whole_a_0 wd qc qb qa qh zx wp wo wq fuel))]
noncomputable def Gdyad_whole_a (wd qc : Mo) (qb qa : Mo) (qh zx : Mo) (wp wo wq : Mo) : Gam := [(138,smM [RS.one (LK.l (nat_lit 1))] wd),(133,smX RInt_give_i XInt_give_i qc),(133,smX RInt_give_ra XInt_give_ra qb),(133,smX RInt_give_rb XInt_give_rb qa),(142,smX RInt_SetUint64_i XInt_SetUint64_i qh),(141,smX RInt_Or_a XInt_Or_a zx),(79,smX RInt_Neg_ra XInt_Neg_ra wp),(79,smX RInt_Neg_rb XInt_Neg_rb wo),(79,smX RInt_Neg_ii XInt_Neg_ii wq)]
theorem gdyad_whole_a_l0_eq (wd qc : Mo) (qb qa : Mo) (qh zx : Mo) (wp wo wq : Mo) (fuel : Nat) (kn : St → Option AV) (K : Ex → St → Option AV) (u8 : Int) (wx : Bool) (qu qx : Nat) (qw : Ge) (ph u90 : Int) (qb8 : Bool) (qbg qbe : Nat) (qbf : Ge) (u9 : Int) (zj : Bool) (ze zg : Nat) (zh : Ge) :
    bX Pr (Gdyad_whole_a wd qc qb qa qh zx wp wo wq) (Ldyad_whole_a wd qc qb qa qh zx wp wo wq fuel) 6 82 0 fuel (Sdyad_whole_a_0 u8 u9 wx qu qx qw ph zj ze zg zh) (fun e s => match e with | .normal => kn (hX Pr 82 0 (Sdyad_whole_a_0 u8 u90 wx qu qx qw ph qb8 qbg qbe qbf) s) | e => K e s) =
    gdyad_whole_a_l0_step wd qc qb qa qh zx wp wo wq fuel (fun u9 zj ze zg zh => kn (Sdyad_whole_a_0 u8 u9 wx qu qx qw ph zj ze zg zh)) (fun z9 zb za w9 qdv v6 yh yg yj => K (Ex.exit 0) (Xdyad_whole_a_0_0 z9 zb za w9 qdv v6 yh yg yj)) u8 wx qu qx qw ph u9 zj ze zg zh := by kernel_rfl
theorem gdyad_whole_a_l0_ok (wd qc : Mo) (qb qa : Mo) (qh zx : Mo) (wp wo wq : Mo) (fuel : Nat) (K : Ex → St → Option AV) (u8 : Int) (wx : Bool) (qu qx : Nat) (qw : Ge) (ph u90 : Int) (qb8 : Bool) (qbg qbe : Nat) (qbf : Ge) : ∀ (n' : Nat) (u9 : Int) (zj : Bool) (ze zg : Nat) (zh : Ge),
    loopK (bX Pr (Gdyad_whole_a wd qc qb qa qh zx wp wo wq) (Ldyad_whole_a wd qc qb qa qh zx wp wo wq fuel) 6 82 0 fuel) (hX Pr 82 0 (Sdyad_whole_a_0 u8 u90 wx qu qx qw ph qb8 qbg qbe qbf)) n' (Sdyad_whole_a_0 u8 u9 wx qu qx qw ph zj ze zg zh) K = gdyad_whole_a_l0 wd qc qb qa qh zx wp wo wq fuel (fun z9 zb za w9 qdv v6 yh yg yj => K (Ex.exit 0) (Xdyad_whole_a_0_0 z9 zb za w9 qdv v6 yh yg yj)) u8 wx qu qx qw ph n' u9 zj ze zg zh
  | 0,_,_,_,_,_ => rfl
  | n' + 1,u9,zj,ze,zg,zh => (gdyad_whole_a_l0_eq wd qc qb qa qh zx wp wo wq fuel (fun s => loopK (bX Pr (Gdyad_whole_a wd qc qb qa qh zx wp wo wq) (Ldyad_whole_a wd qc qb qa qh zx wp wo wq fuel) 6 82 0 fuel) (hX Pr 82 0 (Sdyad_whole_a_0 u8 u90 wx qu qx qw ph qb8 qbg qbe qbf)) n' s K) K u8 wx qu qx qw ph u90 qb8 qbg qbe qbf u9 zj ze zg zh).trans
    (congrArg (fun kn => gdyad_whole_a_l0_step wd qc qb qa qh zx wp wo wq fuel kn _ u8 wx qu qx qw ph u9 zj ze zg zh) (funext fun u9 => funext fun zj => funext fun ze => funext fun zg => funext fun zh => gdyad_whole_a_l0_ok wd qc qb qa qh zx wp wo wq fuel K u8 wx qu qx qw ph u90 qb8 qbg qbe qbf n' u9 zj ze zg zh))
theorem gdyad_whole_a_L0 (wd qc : Mo) (qb qa : Mo) (qh zx : Mo) (wp wo wq : Mo) (fuel : Nat) : LX Pr (Gdyad_whole_a wd qc qb qa qh zx wp wo wq) (Ldyad_whole_a wd qc qb qa qh zx wp wo wq fuel) 6 82 0 fuel := by
  refine .of Tdyad_whole_a_0 (Fdyad_whole_a_0 wd qc qb qa qh zx wp wo wq fuel) (fun L h => ?_) (fun ps st K r he hr => ?_)
  · have e : (Ldyad_whole_a wd qc qb qa qh zx wp wo wq fuel).get (writes (lp Pr 82 0).1) = some (lam Tdyad_whole_a_0 (Fdyad_whole_a_0 wd qc qb qa qh zx wp wo wq fuel)) := by kernel_rfl
    exact (Option.some.inj (e.symm.trans h)).symm
  · unfold Fdyad_whole_a_0 at hr
    split at hr
    · obtain rfl := (Option.some.inj he).symm
      exact (gdyad_whole_a_l0_ok wd qc qb qa qh zx wp wo wq fuel K _ _ _ _ _ _ _ _ _ _ _ fuel _ _ _ _ _).trans hr
    · cases hr
noncomputable def gdyad_whole_a (wd qc : Mo) (qb qa : Mo) (qh zx : Mo) (wp wo wq : Mo) (fuel : Nat) (qc1 : Bool) (v4 qaz : Nat) (y9 : Ge) (qcv : Int) : Option AV :=
  gdyad_whole_a_l0 wd qc qb qa qh zx wp wo wq fuel
    (fun (z9 : Bool) (_ _ : Nat) (_ : Ge) (_ : Int) (v6 : Bool) (yh yg : Nat) (yj : Ge) => bif z9 then let r4 : Option AV := wq [AV.ptr (xidx 1 (xtoks [AV.ptr 1 0,AV.ptr 1 0] [])) 0,AV.ptr (xidx 1 (xtoks [AV.ptr 1 0,AV.ptr 1 0] [])) 0,AV.bool v6,AV.ro 1 yh yg yj]; ck (okX [RS.one LK.b,RS.one (LK.l 1)] r4) <| some (AV.tup [AV.bool (toB ((toT (getV r4)).headD .dead)),AV.ro 1 (toN ((toT (getV r4)).tail.headD .dead)) (toR ((toT (getV r4)).tail.headD .dead)) (toG ((toT (getV r4)).tail.headD .dead))])
      else some (AV.tup [AV.bool v6,AV.ro 1 yh yg yj]))
    ((↑v4 : Int))
    qc1
    v4
    qaz
    y9
    qcv fuel (0) false (0) (0) (fun (x j : Nat) => [AV.int .u32 0].getD j AV.dead)
theorem gdyad_whole_a_run (wd qc : Mo) (qb qa : Mo) (qh zx : Mo) (wp wo wq : Mo) (fuel : Nat) (qc1 : Bool) (v4 qaz : Nat) (y9 : Ge) (qcv : Int) : runX Pr (Gdyad_whole_a wd qc qb qa qh zx wp wo wq) [((6,82),Ldyad_whole_a wd qc qb qa qh zx wp wo wq fuel)] fuel 7 82 Xdyad_whole_a [AV.agg [AV.bool qc1,AV.ro 1 v4 qaz y9,AV.int .i64 qcv]] [] = gdyad_whole_a wd qc qb qa qh zx wp wo wq fuel qc1 v4 qaz y9 qcv := by kernel_rfl
noncomputable def mdyad_whole_a (wd qc : Mo) (qb qa : Mo) (qh zx : Mo) (wp wo wq : Mo) (fuel : Nat) (xs : List AV) : Option AV := match xs with
  | [AV.agg [AV.bool qc1,AV.ro 1 v4 qaz y9,AV.int .i64 qcv]] => gdyad_whole_a wd qc qb qa qh zx wp wo wq fuel qc1 v4 qaz y9 qcv
  | _ => none
theorem gdyad_whole_a_sm (wd qc : Mo) (qb qa : Mo) (qh zx : Mo) (wp wo wq : Mo) (fuel : Nat) (hΓ : GamOk Pr (Gdyad_whole_a wd qc qb qa qh zx wp wo wq)) (hP : NamesOk Pr) : XOk Pr 82 (smX Rdyad_whole_a Xdyad_whole_a (mdyad_whole_a wd qc qb qa qh zx wp wo wq fuel)) Xdyad_whole_a := by
  refine smX_ok (fuel := fuel) hΓ hP (LamOk.of 6 82 (Ldyad_whole_a wd qc qb qa qh zx wp wo wq fuel) 1 (by kernel_rfl) (fun i hi => ?_)) 7 82 Rdyad_whole_a Xdyad_whole_a _ (fun xs0 ys0 v ha hb h => ?_)
  · match i,hi with
    | 0,_ => exact gdyad_whole_a_L0 wd qc qb qa qh zx wp wo wq fuel
    | i + 1,hi => exact absurd hi (by omega)
  · skip
    have ha0 : xs0.length = 1 := ha
    clear ha
    obtain ⟨a0,xs1,rfl,ha1⟩ := len_cons ha0
    clear ha0
    obtain rfl := List.eq_nil_of_length_eq_zero ha1
    have hy0 : ys0.map List.length = [] := hb
    clear hb
    obtain rfl := map_nil' hy0
    have h : mdyad_whole_a wd qc qb qa qh zx wp wo wq fuel [a0] = some v := h
    generalize hx0 : [a0] = zs at h
    unfold mdyad_whole_a at h
    split at h
    · skip
      obtain ⟨rfl,hx1⟩ := List.cons.inj hx0
      simp only [List.map_cons,List.map_nil]
      exact (gdyad_whole_a_run wd qc qb qa qh zx wp wo wq fuel _ _ _ _ _).trans h
    · cases h
noncomputable def Scmp_0 (qp qt : Nat) (qm : Ge) (wj wn : Nat) (wi : Ge) (ui5 : Int) : St := { env := [(0,AV.ro 1 qp qt qm),(1,AV.ro 1 wj wn wi),(5,AV.int .i64 ui5)],h := [],kd := [] }
noncomputable def Xcmp_0_0 (qho : Int) : St := { env := [(4,AV.int .i64 qho)],h := [],kd := [] }
noncomputable def Xcmp_0_1 : St := { env := [],h := [],kd := [] }
noncomputable def gcmp_l0_step (fuel : Nat) (kn kx0 : Int → Option AV) (kx1 : Option AV) (qp qt : Nat) (qm : Ge) (wj wn : Nat) (wi : Ge) (ui5 : Int) : Option AV :=
  bif decide (ui5 ≥ 0) then ck (decide (0 ≤ ui5)) <| ck (decide (ui5 < (↑qp : Int))) <| ck (fitK (LK.i .u32) (qm ui5.toNat 0)) <| ck (decide (0 ≤ ui5)) <| ck (decide (ui5 < (↑wj : Int))) <| ck (fitK (LK.i .u32) (wi ui5.toNat 0)) <| bif toI (qm ui5.toNat 0) != toI (wi ui5.toNat 0) then ck (decide (0 ≤ ui5)) <| ck (decide (ui5 < (↑qp : Int))) <| ck (fitK (LK.i .u32) (qm ui5.toNat 0)) <| ck (decide (0 ≤ ui5)) <| ck (decide (ui5 < (↑wj : Int))) <| ck (fitK (LK.i .u32) (wi ui5.toNat 0)) <| bif decide (toI (qm ui5.toNat 0) < toI (wi ui5.toNat 0)) then kx0 ((-1))
      else kx0 (1)
    else kn (IntKind.i64.wrap (ui5 - 1))
  else kx1
noncomputable def gcmp_l0 (fuel : Nat) (kx0 : Int → Option AV) (kx1 : Option AV) (qp qt : Nat) (qm : Ge) (wj wn : Nat) (wi : Ge) : Nat → Int → Option AV
  | 0,_ => none
  | n' + 1,ui5 => gcmp_l0_step fuel (gcmp_l0 fuel kx0 kx1 qp qt qm wj wn wi n') kx0 kx1 qp qt qm wj wn wi ui5
noncomputable def Tcmp_0 : TS' := ⟨[(0,TA.ro 1),(1,TA.ro 1),(5,TA.i .i64)],[],[]⟩
noncomputable def Fcmp_0 (fuel : Nat) (ps : List Pay) (K : Ex → St → Option AV) : Option AV := match ps with
  | .n qp :: .n qt :: .g qm :: .n wj :: .n wn :: .g wi :: .i ui5 :: [] => gcmp_l0 fuel (fun qho => K (Ex.ret) (Xcmp_0_0 qho)) (K (Ex.exit 0) Xcmp_0_1) qp qt qm wj wn wi fuel ui5
  | _ => none
noncomputable def Lcmp (fuel : Nat) : Lam AV := [(2199022731312,lam Tcmp_0 (Fcmp_0 fuel))]
noncomputable def Gcmp : Gam := []
theorem gcmp_l0_eq (fuel : Nat) (kn : St → Option AV) (K : Ex → St → Option AV) (qp qt : Nat) (qm : Ge) (wj wn : Nat) (wi : Ge) (qi1 ui5 : Int) :
    bX Pr Gcmp (Lcmp fuel) 6 191 0 fuel (Scmp_0 qp qt qm wj wn wi ui5) (fun e s => match e with | .normal => kn (hX Pr 191 0 (Scmp_0 qp qt qm wj wn wi qi1) s) | e => K e s) =
    gcmp_l0_step fuel (fun ui5 => kn (Scmp_0 qp qt qm wj wn wi ui5)) (fun xu4 => K (Ex.ret) (Xcmp_0_0 xu4)) (K (Ex.exit 0) Xcmp_0_1) qp qt qm wj wn wi ui5 := by kernel_rfl
theorem gcmp_l0_ok (fuel : Nat) (K : Ex → St → Option AV) (qp qt : Nat) (qm : Ge) (wj wn : Nat) (wi : Ge) (qi1 : Int) : ∀ (n' : Nat) (ui5 : Int),
    loopK (bX Pr Gcmp (Lcmp fuel) 6 191 0 fuel) (hX Pr 191 0 (Scmp_0 qp qt qm wj wn wi qi1)) n' (Scmp_0 qp qt qm wj wn wi ui5) K = gcmp_l0 fuel (fun xu4 => K (Ex.ret) (Xcmp_0_0 xu4)) (K (Ex.exit 0) Xcmp_0_1) qp qt qm wj wn wi n' ui5
  | 0,_ => rfl
  | n' + 1,ui5 => (gcmp_l0_eq fuel (fun s => loopK (bX Pr Gcmp (Lcmp fuel) 6 191 0 fuel) (hX Pr 191 0 (Scmp_0 qp qt qm wj wn wi qi1)) n' s K) K qp qt qm wj wn wi qi1 ui5).trans
    (congrArg (fun kn => gcmp_l0_step fuel kn _ _ qp qt qm wj wn wi ui5) (funext fun ui5 => gcmp_l0_ok fuel K qp qt qm wj wn wi qi1 n' ui5))
theorem gcmp_L0 (fuel : Nat) : LX Pr Gcmp (Lcmp fuel) 6 191 0 fuel := by
  refine .of Tcmp_0 (Fcmp_0 fuel) (fun L h => ?_) (fun ps st K r he hr => ?_)
  · have e : (Lcmp fuel).get (writes (lp Pr 191 0).1) = some (lam Tcmp_0 (Fcmp_0 fuel)) := by kernel_rfl
    exact (Option.some.inj (e.symm.trans h)).symm
  · unfold Fcmp_0 at hr
    split at hr
    · obtain rfl := (Option.some.inj he).symm
      exact (gcmp_l0_ok fuel K _ _ _ _ _ _ _ fuel _).trans hr
    · cases hr
noncomputable def gcmp (fuel zn vq : Nat) (vh : Ge) (ym pp : Nat) (pi : Ge) : Option AV :=
  bif (↑zn : Int) != (↑ym : Int) then bif decide ((↑zn : Int) < (↑ym : Int)) then some (AV.int .i64 (-1))
    else some (AV.int .i64 1)
  else gcmp_l0 fuel
    (fun (xu4 : Int) => some (AV.int .i64 xu4))
    (some (AV.int .i64 0))
    zn
    vq
    vh
    ym
    pp
    pi fuel (IntKind.i64.wrap ((↑zn : Int) - 1))
noncomputable def mcmp (fuel : Nat) (xs : List AV) : Option AV := match xs with
  | [AV.ro 1 zn vq vh,AV.ro 1 ym pp pi] => gcmp fuel zn vq vh ym pp pi
  | _ => none
abbrev Rcmp : List RS := [RS.one (LK.i .i64)]
theorem gcmp_sm (fuel : Nat) (hΓ : GamOk Pr Gcmp) (hP : NamesOk Pr) : SmOk Pr 191 (smM Rcmp (mcmp fuel)) := smL (L := (Lcmp fuel)) (n := 1) hΓ hP (by kernel_rfl) (fun i hi => match i,hi with
  | 0,_ => gcmp_L0 fuel
  | i + 1,hi => absurd hi (by omega)) fun xs v h => by
  unfold mcmp at h
  split at h
  · exact Eq.trans (by kernel_rfl) h
  · cases h
noncomputable def LRat_Sign_r (fuel : Nat) : Lam AV := []
noncomputable def GRat_Sign_r : Gam := []
noncomputable def gRat_Sign_r (fuel : Nat) (wh : Bool) (qr qz : Nat) (qy : Ge) (z8 : Bool) (zu zz : Nat) (zw : Ge) : Option AV :=
  bif (↑qr : Int) == 0 then some (AV.tup [AV.bool wh,AV.ro 1 qr qz qy,AV.bool z8,AV.ro 1 zu zz zw,AV.int .i64 0])
  else bif wh then some (AV.tup [AV.bool wh,AV.ro 1 qr qz qy,AV.bool z8,AV.ro 1 zu zz zw,AV.int .i64 (-1)])
  else some (AV.tup [AV.bool wh,AV.ro 1 qr qz qy,AV.bool z8,AV.ro 1 zu zz zw,AV.int .i64 1])
theorem gRat_Sign_r_run (fuel : Nat) (wh : Bool) (qr qz : Nat) (qy : Ge) (z8 : Bool) (zu zz : Nat) (zw : Ge) : runX Pr GRat_Sign_r [((6,37),LRat_Sign_r fuel)] fuel 7 37 XRat_Sign_r [AV.ptr 0 0] [Blk.box [AV.bool wh,AV.ro 1 qr qz qy,AV.bool z8,AV.ro 1 zu zz zw]] = gRat_Sign_r fuel wh qr qz qy z8 zu zz zw := by kernel_rfl
noncomputable def mRat_Sign_r (fuel : Nat) (xs : List AV) : Option AV := match xs with
  | [AV.ptr 0 0,AV.bool wh,AV.ro 1 qr qz qy,AV.bool z8,AV.ro 1 zu zz zw] => gRat_Sign_r fuel wh qr qz qy z8 zu zz zw
  | _ => none
theorem gRat_Sign_r_sm (fuel : Nat) (hΓ : GamOk Pr GRat_Sign_r) (hP : NamesOk Pr) : XOk Pr 37 (smX RRat_Sign_r XRat_Sign_r (mRat_Sign_r fuel)) XRat_Sign_r := by
  refine smX_ok (fuel := fuel) hΓ hP (LamOk.of 6 37 (LRat_Sign_r fuel) 0 (by kernel_rfl) (fun i hi => ?_)) 7 37 RRat_Sign_r XRat_Sign_r _ (fun xs0 ys0 v ha hb h => ?_)
  · match i,hi with
    | i + 0,hi => exact absurd hi (by omega)
  · skip
    have ha0 : xs0.length = 1 := ha
    clear ha
    obtain ⟨a0,xs1,rfl,ha1⟩ := len_cons ha0
    clear ha0
    obtain rfl := List.eq_nil_of_length_eq_zero ha1
    have hy0 : ys0.map List.length = [4] := hb
    clear hb
    obtain ⟨wh,ys1,rfl,hb0_0,hy1⟩ := map_cons' hy0
    clear hy0
    obtain ⟨c0_0,b0_1,rfl,hb0_1⟩ := len_cons hb0_0
    clear hb0_0
    obtain ⟨c0_1,z8,rfl,hb0_2⟩ := len_cons hb0_1
    clear hb0_1
    obtain ⟨c0_2,b0_3,rfl,hb0_3⟩ := len_cons hb0_2
    clear hb0_2
    obtain ⟨c0_3,b0_4,rfl,hb0_4⟩ := len_cons hb0_3
    clear hb0_3
    obtain rfl := List.eq_nil_of_length_eq_zero hb0_4
    obtain rfl := map_nil' hy1
    have h : mRat_Sign_r fuel [a0,c0_0,c0_1,c0_2,c0_3] = some v := h
    generalize hx0 : [a0,c0_0,c0_1,c0_2,c0_3] = zs at h
    unfold mRat_Sign_r at h
    split at h
    · skip
      obtain ⟨rfl,hx1⟩ := List.cons.inj hx0
      obtain ⟨rfl,hx2⟩ := List.cons.inj hx1
      obtain ⟨rfl,hx3⟩ := List.cons.inj hx2
      obtain ⟨rfl,hx4⟩ := List.cons.inj hx3
      obtain ⟨rfl,hx5⟩ := List.cons.inj hx4
      simp only [List.map_cons,List.map_nil]
      exact (gRat_Sign_r_run fuel _ _ _ _ _ _ _ _).trans h
    · cases h
noncomputable def LInt_Abs_ir (q3 qc : Mo) (qb qa : Mo) (fuel : Nat) : Lam AV := []
noncomputable def GInt_Abs_ir (q3 qc : Mo) (qb qa : Mo) : Gam := [(137,smM [RS.one (LK.l (nat_lit 1))] q3),(133,smX RInt_give_i XInt_give_i qc),(133,smX RInt_give_ra XInt_give_ra qb),(133,smX RInt_give_rb XInt_give_rb qa)]
noncomputable def gInt_Abs_ir (q3 qc : Mo) (qb qa : Mo) (fuel : Nat) (wh : Bool) (qr qz : Nat) (qy : Ge) (z4 : Bool) (w5 zl : Nat) (zm : Ge) (qaq : Bool) (qaa qad : Nat) (qac : Ge) : Option AV :=
  let r0 : Option AV := q3 [AV.ro 1 w5 zl zm]; ck (okM [RS.one (LK.l 1)] r0) <| let r1 : Option AV := qc [AV.ptr (xidx 0 (xtoks [AV.ptr 0 0,AV.bool false,AV.ro 1 (toN (getV r0)) (toR (getV r0)) (toG (getV r0))] [])) 0,AV.bool false,AV.ro 1 (toN (getV r0)) (toR (getV r0)) (toG (getV r0)),AV.bool wh,AV.ro 1 qr qz qy]; ck (okX [RS.one LK.b,RS.one (LK.l 1)] r1) <| some (AV.tup [AV.bool (toB ((toT (getV r1)).headD .dead)),AV.ro 1 (toN ((toT (getV r1)).tail.headD .dead)) (toR ((toT (getV r1)).tail.headD .dead)) (toG ((toT (getV r1)).tail.headD .dead)),AV.bool z4,AV.ro 1 w5 zl zm,AV.bool qaq,AV.ro 1 qaa qad qac])
theorem gInt_Abs_ir_run (q3 qc : Mo) (qb qa : Mo) (fuel : Nat) (wh : Bool) (qr qz : Nat) (qy : Ge) (z4 : Bool) (w5 zl : Nat) (zm : Ge) (qaq : Bool) (qaa qad : Nat) (qac : Ge) : runX Pr (GInt_Abs_ir q3 qc qb qa) [((6,84),LInt_Abs_ir q3 qc qb qa fuel)] fuel 7 84 XInt_Abs_ir [AV.ptr 0 0,AV.ptr 1 0] [Blk.box [AV.bool wh,AV.ro 1 qr qz qy],Blk.box [AV.bool z4,AV.ro 1 w5 zl zm,AV.bool qaq,AV.ro 1 qaa qad qac]] = gInt_Abs_ir q3 qc qb qa fuel wh qr qz qy z4 w5 zl zm qaq qaa qad qac := by kernel_rfl
noncomputable def mInt_Abs_ir (q3 qc : Mo) (qb qa : Mo) (fuel : Nat) (xs : List AV) : Option AV := match xs with
  | [AV.ptr 0 0,AV.ptr 1 0,AV.bool wh,AV.ro 1 qr qz qy,AV.bool z4,AV.ro 1 w5 zl zm,AV.bool qaq,AV.ro 1 qaa qad qac] => gInt_Abs_ir q3 qc qb qa fuel wh qr qz qy z4 w5 zl zm qaq qaa qad qac
  | _ => none
theorem gInt_Abs_ir_sm (q3 qc : Mo) (qb qa : Mo) (fuel : Nat) (hΓ : GamOk Pr (GInt_Abs_ir q3 qc qb qa)) (hP : NamesOk Pr) : XOk Pr 84 (smX RInt_Abs_ir XInt_Abs_ir (mInt_Abs_ir q3 qc qb qa fuel)) XInt_Abs_ir := by
  refine smX_ok (fuel := fuel) hΓ hP (LamOk.of 6 84 (LInt_Abs_ir q3 qc qb qa fuel) 0 (by kernel_rfl) (fun i hi => ?_)) 7 84 RInt_Abs_ir XInt_Abs_ir _ (fun xs0 ys0 v ha hb h => ?_)
  · match i,hi with
    | i + 0,hi => exact absurd hi (by omega)
  · skip
    have ha0 : xs0.length = 2 := ha
    clear ha
    obtain ⟨a0,xs1,rfl,ha1⟩ := len_cons ha0
    clear ha0
    obtain ⟨a1,xs2,rfl,ha2⟩ := len_cons ha1
    clear ha1
    obtain rfl := List.eq_nil_of_length_eq_zero ha2
    have hy0 : ys0.map List.length = [2,4] := hb
    clear hb
    obtain ⟨wh,ys1,rfl,hb0_0,hy1⟩ := map_cons' hy0
    clear hy0
    obtain ⟨c0_0,b0_1,rfl,hb0_1⟩ := len_cons hb0_0
    clear hb0_0
    obtain ⟨c0_1,z8,rfl,hb0_2⟩ := len_cons hb0_1
    clear hb0_1
    obtain rfl := List.eq_nil_of_length_eq_zero hb0_2
    obtain ⟨z4,ys2,rfl,hb1_0,hy2⟩ := map_cons' hy1
    clear hy1
    obtain ⟨c1_0,b1_1,rfl,hb1_1⟩ := len_cons hb1_0
    clear hb1_0
    obtain ⟨c1_1,qaq,rfl,hb1_2⟩ := len_cons hb1_1
    clear hb1_1
    obtain ⟨c1_2,b1_3,rfl,hb1_3⟩ := len_cons hb1_2
    clear hb1_2
    obtain ⟨c1_3,b1_4,rfl,hb1_4⟩ := len_cons hb1_3
    clear hb1_3
    obtain rfl := List.eq_nil_of_length_eq_zero hb1_4
    obtain rfl := map_nil' hy2
    have h : mInt_Abs_ir q3 qc qb qa fuel [a0,a1,c0_0,c0_1,c1_0,c1_1,c1_2,c1_3] = some v := h
    generalize hx0 : [a0,a1,c0_0,c0_1,c1_0,c1_1,c1_2,c1_3] = zs at h
    unfold mInt_Abs_ir at h
    split at h
    · skip
      obtain ⟨rfl,hx1⟩ := List.cons.inj hx0
      obtain ⟨rfl,hx2⟩ := List.cons.inj hx1
      obtain ⟨rfl,hx3⟩ := List.cons.inj hx2
      obtain ⟨rfl,hx4⟩ := List.cons.inj hx3
      obtain ⟨rfl,hx5⟩ := List.cons.inj hx4
      obtain ⟨rfl,hx6⟩ := List.cons.inj hx5
      obtain ⟨rfl,hx7⟩ := List.cons.inj hx6
      obtain ⟨rfl,hx8⟩ := List.cons.inj hx7
      simp only [List.map_cons,List.map_nil]
      exact (gInt_Abs_ir_run q3 qc qb qa fuel _ _ _ _ _ _ _ _ _ _ _ _).trans h
    · cases h
noncomputable def LInt_Abs_ii (q3 qc : Mo) (qb qa : Mo) (fuel : Nat) : Lam AV := []
noncomputable def GInt_Abs_ii (q3 qc : Mo) (qb qa : Mo) : Gam := [(137,smM [RS.one (LK.l (nat_lit 1))] q3),(133,smX RInt_give_i XInt_give_i qc),(133,smX RInt_give_ra XInt_give_ra qb),(133,smX RInt_give_rb XInt_give_rb qa)]
noncomputable def gInt_Abs_ii (q3 qc : Mo) (qb qa : Mo) (fuel : Nat) (wh : Bool) (qr qz : Nat) (qy : Ge) (z4 : Bool) (w5 zl : Nat) (zm : Ge) : Option AV :=
  let r0 : Option AV := q3 [AV.ro 1 w5 zl zm]; ck (okM [RS.one (LK.l 1)] r0) <| let r1 : Option AV := qc [AV.ptr (xidx 0 (xtoks [AV.ptr 0 0,AV.bool false,AV.ro 1 (toN (getV r0)) (toR (getV r0)) (toG (getV r0))] [])) 0,AV.bool false,AV.ro 1 (toN (getV r0)) (toR (getV r0)) (toG (getV r0)),AV.bool wh,AV.ro 1 qr qz qy]; ck (okX [RS.one LK.b,RS.one (LK.l 1)] r1) <| some (AV.tup [AV.bool (toB ((toT (getV r1)).headD .dead)),AV.ro 1 (toN ((toT (getV r1)).tail.headD .dead)) (toR ((toT (getV r1)).tail.headD .dead)) (toG ((toT (getV r1)).tail.headD .dead)),AV.bool z4,AV.ro 1 w5 zl zm])
theorem gInt_Abs_ii_run (q3 qc : Mo) (qb qa : Mo) (fuel : Nat) (wh : Bool) (qr qz : Nat) (qy : Ge) (z4 : Bool) (w5 zl : Nat) (zm : Ge) : runX Pr (GInt_Abs_ii q3 qc qb qa) [((6,84),LInt_Abs_ii q3 qc qb qa fuel)] fuel 7 84 XInt_Abs_ii [AV.ptr 0 0,AV.ptr 1 0] [Blk.box [AV.bool wh,AV.ro 1 qr qz qy],Blk.box [AV.bool z4,AV.ro 1 w5 zl zm]] = gInt_Abs_ii q3 qc qb qa fuel wh qr qz qy z4 w5 zl zm := by kernel_rfl
noncomputable def mInt_Abs_ii (q3 qc : Mo) (qb qa : Mo) (fuel : Nat) (xs : List AV) : Option AV := match xs with
  | [AV.ptr 0 0,AV.ptr 1 0,AV.bool wh,AV.ro 1 qr qz qy,AV.bool z4,AV.ro 1 w5 zl zm] => gInt_Abs_ii q3 qc qb qa fuel wh qr qz qy z4 w5 zl zm
  | _ => none
theorem gInt_Abs_ii_sm (q3 qc : Mo) (qb qa : Mo) (fuel : Nat) (hΓ : GamOk Pr (GInt_Abs_ii q3 qc qb qa)) (hP : NamesOk Pr) : XOk Pr 84 (smX RInt_Abs_ii XInt_Abs_ii (mInt_Abs_ii q3 qc qb qa fuel)) XInt_Abs_ii := by
  refine smX_ok (fuel := fuel) hΓ hP (LamOk.of 6 84 (LInt_Abs_ii q3 qc qb qa fuel) 0 (by kernel_rfl) (fun i hi => ?_)) 7 84 RInt_Abs_ii XInt_Abs_ii _ (fun xs0 ys0 v ha hb h => ?_)
  · match i,hi with
    | i + 0,hi => exact absurd hi (by omega)
  · skip
    have ha0 : xs0.length = 2 := ha
    clear ha
    obtain ⟨a0,xs1,rfl,ha1⟩ := len_cons ha0
    clear ha0
    obtain ⟨a1,xs2,rfl,ha2⟩ := len_cons ha1
    clear ha1
    obtain rfl := List.eq_nil_of_length_eq_zero ha2
    have hy0 : ys0.map List.length = [2,2] := hb
    clear hb
    obtain ⟨wh,ys1,rfl,hb0_0,hy1⟩ := map_cons' hy0
    clear hy0
    obtain ⟨c0_0,b0_1,rfl,hb0_1⟩ := len_cons hb0_0
    clear hb0_0
    obtain ⟨c0_1,z8,rfl,hb0_2⟩ := len_cons hb0_1
    clear hb0_1
    obtain rfl := List.eq_nil_of_length_eq_zero hb0_2
    obtain ⟨z4,ys2,rfl,hb1_0,hy2⟩ := map_cons' hy1
    clear hy1
    obtain ⟨c1_0,b1_1,rfl,hb1_1⟩ := len_cons hb1_0
    clear hb1_0
    obtain ⟨c1_1,qaq,rfl,hb1_2⟩ := len_cons hb1_1
    clear hb1_1
    obtain rfl := List.eq_nil_of_length_eq_zero hb1_2
    obtain rfl := map_nil' hy2
    have h : mInt_Abs_ii q3 qc qb qa fuel [a0,a1,c0_0,c0_1,c1_0,c1_1] = some v := h
    generalize hx0 : [a0,a1,c0_0,c0_1,c1_0,c1_1] = zs at h
    unfold mInt_Abs_ii at h
    split at h
    · skip
      obtain ⟨rfl,hx1⟩ := List.cons.inj hx0
      obtain ⟨rfl,hx2⟩ := List.cons.inj hx1
      obtain ⟨rfl,hx3⟩ := List.cons.inj hx2
      obtain ⟨rfl,hx4⟩ := List.cons.inj hx3
      obtain ⟨rfl,hx5⟩ := List.cons.inj hx4
      obtain ⟨rfl,hx6⟩ := List.cons.inj hx5
      simp only [List.map_cons,List.map_nil]
      exact (gInt_Abs_ii_run q3 qc qb qa fuel _ _ _ _ _ _ _ _).trans h
    · cases h
noncomputable def LInt_Uint64_i (fuel : Nat) : Lam AV := []
noncomputable def GInt_Uint64_i : Gam := []
noncomputable def gInt_Uint64_i (fuel : Nat) (wh : Bool) (qr qz : Nat) (qy : Ge) : Option AV :=
  bif decide ((↑qr : Int) > 0) then ck (decide (0 < (↑qr : Int))) <| ck (fitK (LK.i .u32) (qy 0 0)) <| bif decide ((↑qr : Int) > 1) then ck (decide (1 < (↑qr : Int))) <| ck (fitK (LK.i .u32) (qy 1 0)) <| some (AV.tup [AV.bool wh,AV.ro 1 qr qz qy,AV.int .u64 (IntKind.u64.wrap (↑(BitVec.ofInt 64 (IntKind.u64.wrap (toI (qy 0 0))) ||| BitVec.ofInt 64 (IntKind.u64.wrap (IntKind.u64.wrap (toI (qy 1 0)) * 2 ^ 32))).toNat : Int))])
    else some (AV.tup [AV.bool wh,AV.ro 1 qr qz qy,AV.int .u64 (IntKind.u64.wrap (toI (qy 0 0)))])
  else bif decide ((↑qr : Int) > 1) then ck (decide (1 < (↑qr : Int))) <| ck (fitK (LK.i .u32) (qy 1 0)) <| some (AV.tup [AV.bool wh,AV.ro 1 qr qz qy,AV.int .u64 (IntKind.u64.wrap (↑(BitVec.ofInt 64 0 ||| BitVec.ofInt 64 (IntKind.u64.wrap (IntKind.u64.wrap (toI (qy 1 0)) * 2 ^ 32))).toNat : Int))])
  else some (AV.tup [AV.bool wh,AV.ro 1 qr qz qy,AV.int .u64 0])
theorem gInt_Uint64_i_run (fuel : Nat) (wh : Bool) (qr qz : Nat) (qy : Ge) : runX Pr GInt_Uint64_i [((6,86),LInt_Uint64_i fuel)] fuel 7 86 XInt_Uint64_i [AV.ptr 0 0] [Blk.box [AV.bool wh,AV.ro 1 qr qz qy]] = gInt_Uint64_i fuel wh qr qz qy := by kernel_rfl
noncomputable def mInt_Uint64_i (fuel : Nat) (xs : List AV) : Option AV := match xs with
  | [AV.ptr 0 0,AV.bool wh,AV.ro 1 qr qz qy] => gInt_Uint64_i fuel wh qr qz qy
  | _ => none
theorem gInt_Uint64_i_sm (fuel : Nat) (hΓ : GamOk Pr GInt_Uint64_i) (hP : NamesOk Pr) : XOk Pr 86 (smX RInt_Uint64_i XInt_Uint64_i (mInt_Uint64_i fuel)) XInt_Uint64_i := by
  refine smX_ok (fuel := fuel) hΓ hP (LamOk.of 6 86 (LInt_Uint64_i fuel) 0 (by kernel_rfl) (fun i hi => ?_)) 7 86 RInt_Uint64_i XInt_Uint64_i _ (fun xs0 ys0 v ha hb h => ?_)
  · match i,hi with
    | i + 0,hi => exact absurd hi (by omega)
  · skip
    have ha0 : xs0.length = 1 := ha
    clear ha
    obtain ⟨a0,xs1,rfl,ha1⟩ := len_cons ha0
    clear ha0
    obtain rfl := List.eq_nil_of_length_eq_zero ha1
    have hy0 : ys0.map List.length = [2] := hb
    clear hb
    obtain ⟨wh,ys1,rfl,hb0_0,hy1⟩ := map_cons' hy0
    clear hy0
    obtain ⟨c0_0,b0_1,rfl,hb0_1⟩ := len_cons hb0_0
    clear hb0_0
    obtain ⟨c0_1,z8,rfl,hb0_2⟩ := len_cons hb0_1
    clear hb0_1
    obtain rfl := List.eq_nil_of_length_eq_zero hb0_2
    obtain rfl := map_nil' hy1
    have h : mInt_Uint64_i fuel [a0,c0_0,c0_1] = some v := h
    generalize hx0 : [a0,c0_0,c0_1] = zs at h
    unfold mInt_Uint64_i at h
    split at h
    · skip
      obtain ⟨rfl,hx1⟩ := List.cons.inj hx0
      obtain ⟨rfl,hx2⟩ := List.cons.inj hx1
      obtain ⟨rfl,hx3⟩ := List.cons.inj hx2
      simp only [List.map_cons,List.map_nil]
      exact (gInt_Uint64_i_run fuel _ _ _ _).trans h
    · cases h
noncomputable def Ssub_0 (qp qt : Nat) (qm : Ge) (wj wn : Nat) (wi : Ge) (yi v5 y3 : Nat) (uc6 ui7 : Int) (h0z : List AV) (h0e : List (List AV)) : St := { env := [(0,AV.ro 1 qp qt qm),(1,AV.ro 1 wj wn wi),(5,AV.own 0 yi 1 v5 y3),(6,AV.int .u64 uc6),(7,AV.int .i64 ui7)],h := [Blk.fx 1 h0z h0e],kd := [] }
noncomputable def Xsub_0_0 (qfc qds qge : Nat) (yp : List AV) (yr : List (List AV)) : St := { env := [(5,AV.own 0 qfc 1 qds qge)],h := [Blk.fx 1 yp yr],kd := [] }
noncomputable def gsub_l0_step (qe : Mo) (fuel : Nat) (kn : Int → Int → List (List AV) → Option AV) (kx0 : Nat → Nat → Nat → List AV → List (List AV) → Option AV) (qp qt : Nat) (qm : Ge) (wj wn : Nat) (wi : Ge) (yi v5 y3 : Nat) (h0z : List AV) (uc6 ui7 : Int) (h0e : List (List AV)) : Option AV :=
  bif decide (ui7 < (↑qp : Int)) then ck (decide (0 ≤ ui7)) <| ck (decide (ui7 < (↑qp : Int))) <| ck (fitK (LK.i .u32) (qm ui7.toNat 0)) <| bif decide (ui7 < (↑wj : Int)) then ck (decide (0 ≤ ui7)) <| ck (decide (ui7 < (↑wj : Int))) <| ck (fitK (LK.i .u32) (wi ui7.toNat 0)) <| ck (decide (0 ≤ ui7)) <| ck (decide (ui7 < (↑v5 : Int))) <| kn ((IntKind.u64.wrap (IntKind.u64.wrap (IntKind.u64.wrap (toI (qm ui7.toNat 0)) - uc6) - IntKind.u64.wrap (toI (wi ui7.toNat 0)))).fdiv (2 ^ 63)) (IntKind.i64.wrap (ui7 + 1)) (h0e.set (yi + ui7.toNat) (AV.int .u32 (IntKind.u32.wrap (IntKind.u64.wrap (IntKind.u64.wrap (IntKind.u64.wrap (toI (qm ui7.toNat 0)) - uc6) - IntKind.u64.wrap (toI (wi ui7.toNat 0))))) :: List.drop (0 + [AV.int .u32 (IntKind.u32.wrap (IntKind.u64.wrap (IntKind.u64.wrap (IntKind.u64.wrap (toI (qm ui7.toNat 0)) - uc6) - IntKind.u64.wrap (toI (wi ui7.toNat 0)))))].length) (h0e.getD (yi + ui7.toNat) h0z)))
    else ck (decide (0 ≤ ui7)) <| ck (decide (ui7 < (↑v5 : Int))) <| kn ((IntKind.u64.wrap (IntKind.u64.wrap (toI (qm ui7.toNat 0)) - uc6)).fdiv (2 ^ 63)) (IntKind.i64.wrap (ui7 + 1)) (h0e.set (yi + ui7.toNat) (AV.int .u32 (IntKind.u32.wrap (IntKind.u64.wrap (IntKind.u64.wrap (toI (qm ui7.toNat 0)) - uc6))) :: List.drop (0 + [AV.int .u32 (IntKind.u32.wrap (IntKind.u64.wrap (IntKind.u64.wrap (toI (qm ui7.toNat 0)) - uc6)))].length) (h0e.getD (yi + ui7.toNat) h0z)))
  else kx0 yi v5 y3 h0z h0e
noncomputable def gsub_l0 (qe : Mo) (fuel : Nat) (kx0 : Nat → Nat → Nat → List AV → List (List AV) → Option AV) (qp qt : Nat) (qm : Ge) (wj wn : Nat) (wi : Ge) (yi v5 y3 : Nat) (h0z : List AV) : Nat → Int → Int → List (List AV) → Option AV
  | 0,_,_,_ => none
  | n' + 1,uc6,ui7,h0e => gsub_l0_step qe fuel (gsub_l0 qe fuel kx0 qp qt qm wj wn wi yi v5 y3 h0z n') kx0 qp qt qm wj wn wi yi v5 y3 h0z uc6 ui7 h0e
termination_by structural k => k
noncomputable def Tsub_0 : TS' := ⟨[(0,TA.ro 1),(1,TA.ro 1),(5,TA.own 0 1),(6,TA.i .u64),(7,TA.i .i64)],[TB.fx 1],[]⟩
noncomputable def Fsub_0 (qe : Mo) (fuel : Nat) (ps : List Pay) (K : Ex → St → Option AV) : Option AV := match ps with
  | .n qp :: .n qt :: .g qm :: .n wj :: .n wn :: .g wi :: .n yi :: .n v5 :: .n y3 :: .i uc6 :: .i ui7 :: .z h0z :: .e h0e :: [] => gsub_l0 qe fuel (fun qfc qds qge yp yr => K (Ex.exit 0) (Xsub_0_0 qfc qds qge yp yr)) qp qt qm wj wn wi yi v5 y3 h0z fuel uc6 ui7 h0e
  | _ => none
noncomputable def Lsub (qe : Mo) (fuel : Nat) : Lam AV := [(8796093018560,lam Tsub_0 (Fsub_0 qe fuel))]
noncomputable def Gsub (qe : Mo) : Gam := [(195,smM [RS.one (LK.l (nat_lit 1))] qe)]
theorem gsub_l0_eq (qe : Mo) (fuel : Nat) (kn : St → Option AV) (K : Ex → St → Option AV) (qp qt : Nat) (qm : Ge) (wj wn : Nat) (wi : Ge) (yi v5 y3 : Nat) (h0z : List AV) (qi0 qiz : Int) (pj : List (List AV)) (uc6 ui7 : Int) (h0e : List (List AV)) :
    bX Pr (Gsub qe) (Lsub qe fuel) 6 145 0 fuel (Ssub_0 qp qt qm wj wn wi yi v5 y3 uc6 ui7 h0z h0e) (fun e s => match e with | .normal => kn (hX Pr 145 0 (Ssub_0 qp qt qm wj wn wi yi v5 y3 qi0 qiz h0z pj) s) | e => K e s) =
    gsub_l0_step qe fuel (fun uc6 ui7 h0e => kn (Ssub_0 qp qt qm wj wn wi yi v5 y3 uc6 ui7 h0z h0e)) (fun qan pr qbc v1 v0 => K (Ex.exit 0) (Xsub_0_0 qan pr qbc v1 v0)) qp qt qm wj wn wi yi v5 y3 h0z uc6 ui7 h0e := by kernel_rfl
theorem gsub_l0_ok (qe : Mo) (fuel : Nat) (K : Ex → St → Option AV) (qp qt : Nat) (qm : Ge) (wj wn : Nat) (wi : Ge) (yi v5 y3 : Nat) (h0z : List AV) (qi0 qiz : Int) (pj : List (List AV)) : ∀ (n' : Nat) (uc6 ui7 : Int) (h0e : List (List AV)),
    loopK (bX Pr (Gsub qe) (Lsub qe fuel) 6 145 0 fuel) (hX Pr 145 0 (Ssub_0 qp qt qm wj wn wi yi v5 y3 qi0 qiz h0z pj)) n' (Ssub_0 qp qt qm wj wn wi yi v5 y3 uc6 ui7 h0z h0e) K = gsub_l0 qe fuel (fun qan pr qbc v1 v0 => K (Ex.exit 0) (Xsub_0_0 qan pr qbc v1 v0)) qp qt qm wj wn wi yi v5 y3 h0z n' uc6 ui7 h0e
  | 0,_,_,_ => rfl
  | n' + 1,uc6,ui7,h0e => (gsub_l0_eq qe fuel (fun s => loopK (bX Pr (Gsub qe) (Lsub qe fuel) 6 145 0 fuel) (hX Pr 145 0 (Ssub_0 qp qt qm wj wn wi yi v5 y3 qi0 qiz h0z pj)) n' s K) K qp qt qm wj wn wi yi v5 y3 h0z qi0 qiz pj uc6 ui7 h0e).trans
    (congrArg (fun kn => gsub_l0_step qe fuel kn _ qp qt qm wj wn wi yi v5 y3 h0z uc6 ui7 h0e) (funext fun uc6 => funext fun ui7 => funext fun h0e => gsub_l0_ok qe fuel K qp qt qm wj wn wi yi v5 y3 h0z qi0 qiz pj n' uc6 ui7 h0e))
theorem gsub_L0 (qe : Mo) (fuel : Nat) : LX Pr (Gsub qe) (Lsub qe fuel) 6 145 0 fuel := by
  refine .of Tsub_0 (Fsub_0 qe fuel) (fun L h => ?_) (fun ps st K r he hr => ?_)
  · have e : (Lsub qe fuel).get (writes (lp Pr 145 0).1) = some (lam Tsub_0 (Fsub_0 qe fuel)) := by kernel_rfl
    exact (Option.some.inj (e.symm.trans h)).symm
  · unfold Fsub_0 at hr
    split at hr
    · obtain rfl := (Option.some.inj he).symm
      exact (gsub_l0_ok qe fuel K _ _ _ _ _ _ _ _ _ _ _ _ _ fuel _ _ _).trans hr
    · cases hr
noncomputable def gsub (qe : Mo) (fuel zn vq : Nat) (vh : Ge) (ym pp : Nat) (pi : Ge) : Option AV :=
  ck (decide (0 ≤ (↑zn : Int))) <| ck (decide ((↑zn : Int) ≤ (↑zn : Int))) <| ck ((4 * (↑zn : Int).toNat).ble 281474976710656) <| ck (((↑zn : Int).toNat + 1).ble 4611686018427387904) <| gsub_l0 qe fuel
    (fun (qan pr qbc : Nat) (v1 : List AV) (v0 : List (List AV)) => let r0 : Option AV := qe [AV.ro 1 pr qbc fun (i j : Nat) => (v0.getD (qan + i) v1).getD j AV.dead]; ck (okM [RS.one (LK.l 1)] r0) <| some (AV.ro 1 (toN (getV r0)) (toR (getV r0)) (toG (getV r0))))
    zn
    vq
    vh
    ym
    pp
    pi
    (0)
    ((↑zn : Int).toNat)
    ((↑zn : Int).toNat)
    ([AV.int .u32 0]) fuel (0) (0) (List.replicate (↑zn : Int).toNat [AV.int .u32 0])
noncomputable def msub (qe : Mo) (fuel : Nat) (xs : List AV) : Option AV := match xs with
  | [AV.ro 1 zn vq vh,AV.ro 1 ym pp pi] => gsub qe fuel zn vq vh ym pp pi
  | _ => none
abbrev Rsub : List RS := [RS.one (LK.l (nat_lit 1))]
theorem gsub_sm (qe : Mo) (fuel : Nat) (hΓ : GamOk Pr (Gsub qe)) (hP : NamesOk Pr) : SmOk Pr 145 (smM Rsub (msub qe fuel)) := smL (L := (Lsub qe fuel)) (n := 1) hΓ hP (by kernel_rfl) (fun i hi => match i,hi with
  | 0,_ => gsub_L0 qe fuel
  | i + 1,hi => absurd hi (by omega)) fun xs v h => by
  unfold msub at h
  split at h
  · exact Eq.trans (by kernel_rfl) h
  · cases h
noncomputable def Sright_0 (qp qt : Nat) (qm : Ge) (uw5 us6 : Int) (pq qck qdc : Nat) (ui8 : Int) (h0z : List AV) (h0e : List (List AV)) : St := { env := [(0,AV.ro 1 qp qt qm),(5,AV.int .i64 uw5),(6,AV.int .u64 us6),(7,AV.own 0 pq 1 qck qdc),(8,AV.int .i64 ui8)],h := [Blk.fx 1 h0z h0e],kd := [] }
noncomputable def Xright_0_0 (qi9 qjh qjf : Nat) (yp : List AV) (yr : List (List AV)) : St := { env := [(7,AV.own 0 qi9 1 qjh qjf)],h := [Blk.fx 1 yp yr],kd := [] }
noncomputable def gright_l0_step (qe : Mo) (fuel : Nat) (kn : Int → List (List AV) → Option AV) (kx0 : Nat → Nat → Nat → List AV → List (List AV) → Option AV) (qp qt : Nat) (qm : Ge) (uw5 us6 : Int) (pq qck qdc : Nat) (h0z : List AV) (ui8 : Int) (h0e : List (List AV)) : Option AV :=
  bif decide (ui8 < (↑qck : Int)) then ck (decide (0 ≤ IntKind.i64.wrap (ui8 + uw5))) <| ck (decide (IntKind.i64.wrap (ui8 + uw5) < (↑qp : Int))) <| ck (fitK (LK.i .u32) (qm (IntKind.i64.wrap (ui8 + uw5)).toNat 0)) <| bif decide (IntKind.i64.wrap (IntKind.i64.wrap (ui8 + uw5) + 1) < (↑qp : Int)) then ck (decide (0 ≤ IntKind.i64.wrap (IntKind.i64.wrap (ui8 + uw5) + 1))) <| ck (decide (IntKind.i64.wrap (IntKind.i64.wrap (ui8 + uw5) + 1) < (↑qp : Int))) <| ck (fitK (LK.i .u32) (qm (IntKind.i64.wrap (IntKind.i64.wrap (ui8 + uw5) + 1)).toNat 0)) <| ck (decide (0 ≤ us6)) <| ck (decide (0 ≤ ui8)) <| ck (decide (ui8 < (↑qck : Int))) <| kn (IntKind.i64.wrap (ui8 + 1)) (h0e.set (pq + ui8.toNat) (AV.int .u32 (IntKind.u32.wrap ((IntKind.u64.wrap (↑(BitVec.ofInt 64 (IntKind.u64.wrap (toI (qm (IntKind.i64.wrap (ui8 + uw5)).toNat 0))) ||| BitVec.ofInt 64 (IntKind.u64.wrap (IntKind.u64.wrap (toI (qm (IntKind.i64.wrap (IntKind.i64.wrap (ui8 + uw5) + 1)).toNat 0)) * 2 ^ 32))).toNat : Int)).fdiv (2 ^ min us6.toNat 64))) :: List.drop (0 + [AV.int .u32 (IntKind.u32.wrap ((IntKind.u64.wrap (↑(BitVec.ofInt 64 (IntKind.u64.wrap (toI (qm (IntKind.i64.wrap (ui8 + uw5)).toNat 0))) ||| BitVec.ofInt 64 (IntKind.u64.wrap (IntKind.u64.wrap (toI (qm (IntKind.i64.wrap (IntKind.i64.wrap (ui8 + uw5) + 1)).toNat 0)) * 2 ^ 32))).toNat : Int)).fdiv (2 ^ min us6.toNat 64)))].length) (h0e.getD (pq + ui8.toNat) h0z)))
    else ck (decide (0 ≤ us6)) <| ck (decide (0 ≤ ui8)) <| ck (decide (ui8 < (↑qck : Int))) <| kn (IntKind.i64.wrap (ui8 + 1)) (h0e.set (pq + ui8.toNat) (AV.int .u32 (IntKind.u32.wrap ((IntKind.u64.wrap (toI (qm (IntKind.i64.wrap (ui8 + uw5)).toNat 0))).fdiv (2 ^ min us6.toNat 64))) :: List.drop (0 + [AV.int .u32 (IntKind.u32.wrap ((IntKind.u64.wrap (toI (qm (IntKind.i64.wrap (ui8 + uw5)).toNat 0))).fdiv (2 ^ min us6.toNat 64)))].length) (h0e.getD (pq + ui8.toNat) h0z)))
  else kx0 pq qck qdc h0z h0e
noncomputable def gright_l0 (qe : Mo) (fuel : Nat) (kx0 : Nat → Nat → Nat → List AV → List (List AV) → Option AV) (qp qt : Nat) (qm : Ge) (uw5 us6 : Int) (pq qck qdc : Nat) (h0z : List AV) : Nat → Int → List (List AV) → Option AV
  | 0,_,_ => none
  | n' + 1,ui8,h0e => gright_l0_step qe fuel (gright_l0 qe fuel kx0 qp qt qm uw5 us6 pq qck qdc h0z n') kx0 qp qt qm uw5 us6 pq qck qdc h0z ui8 h0e
noncomputable def Tright_0 : TS' := ⟨[(0,TA.ro 1),(5,TA.i .i64),(6,TA.i .u64),(7,TA.own 0 1),(8,TA.i .i64)],[TB.fx 1],[]⟩
noncomputable def Fright_0 (qe : Mo) (fuel : Nat) (ps : List Pay) (K : Ex → St → Option AV) : Option AV := match ps with
  | .n qp :: .n qt :: .g qm :: .i uw5 :: .i us6 :: .n pq :: .n qck :: .n qdc :: .i ui8 :: .z h0z :: .e h0e :: [] => gright_l0 qe fuel (fun qi9 qjh qjf yp yr => K (Ex.exit 0) (Xright_0_0 qi9 qjh qjf yp yr)) qp qt qm uw5 us6 pq qck qdc h0z fuel ui8 h0e
  | _ => none
noncomputable def Lright (qe : Mo) (fuel : Nat) : Lam AV := [(4611686018410611456,lam Tright_0 (Fright_0 qe fuel))]
noncomputable def Gright (qe : Mo) : Gam := [(195,smM [RS.one (LK.l (nat_lit 1))] qe)]
theorem gright_l0_eq (qe : Mo) (fuel : Nat) (kn : St → Option AV) (K : Ex → St → Option AV) (qp qt : Nat) (qm : Ge) (uw5 us6 : Int) (pq qck qdc : Nat) (h0z : List AV) (qfd : Int) (pj : List (List AV)) (ui8 : Int) (h0e : List (List AV)) :
    bX Pr (Gright qe) (Lright qe fuel) 6 144 0 fuel (Sright_0 qp qt qm uw5 us6 pq qck qdc ui8 h0z h0e) (fun e s => match e with | .normal => kn (hX Pr 144 0 (Sright_0 qp qt qm uw5 us6 pq qck qdc qfd h0z pj) s) | e => K e s) =
    gright_l0_step qe fuel (fun ui8 h0e => kn (Sright_0 qp qt qm uw5 us6 pq qck qdc ui8 h0z h0e)) (fun qhl qhm qhp v1 v0 => K (Ex.exit 0) (Xright_0_0 qhl qhm qhp v1 v0)) qp qt qm uw5 us6 pq qck qdc h0z ui8 h0e := by kernel_rfl
theorem gright_l0_ok (qe : Mo) (fuel : Nat) (K : Ex → St → Option AV) (qp qt : Nat) (qm : Ge) (uw5 us6 : Int) (pq qck qdc : Nat) (h0z : List AV) (qfd : Int) (pj : List (List AV)) : ∀ (n' : Nat) (ui8 : Int) (h0e : List (List AV)),
    loopK (bX Pr (Gright qe) (Lright qe fuel) 6 144 0 fuel) (hX Pr 144 0 (Sright_0 qp qt qm uw5 us6 pq qck qdc qfd h0z pj)) n' (Sright_0 qp qt qm uw5 us6 pq qck qdc ui8 h0z h0e) K = gright_l0 qe fuel (fun qhl qhm qhp v1 v0 => K (Ex.exit 0) (Xright_0_0 qhl qhm qhp v1 v0)) qp qt qm uw5 us6 pq qck qdc h0z n' ui8 h0e
  | 0,_,_ => rfl
  | n' + 1,ui8,h0e => (gright_l0_eq qe fuel (fun s => loopK (bX Pr (Gright qe) (Lright qe fuel) 6 144 0 fuel) (hX Pr 144 0 (Sright_0 qp qt qm uw5 us6 pq qck qdc qfd h0z pj)) n' s K) K qp qt qm uw5 us6 pq qck qdc h0z qfd pj ui8 h0e).trans
    (congrArg (fun kn => gright_l0_step qe fuel kn _ qp qt qm uw5 us6 pq qck qdc h0z ui8 h0e) (funext fun ui8 => funext fun h0e => gright_l0_ok qe fuel K qp qt qm uw5 us6 pq qck qdc h0z qfd pj n' ui8 h0e))
theorem gright_L0 (qe : Mo) (fuel : Nat) : LX Pr (Gright qe) (Lright qe fuel) 6 144 0 fuel := by
  refine .of Tright_0 (Fright_0 qe fuel) (fun L h => ?_) (fun ps st K r he hr => ?_)
  · have e : (Lright qe fuel).get (writes (lp Pr 144 0).1) = some (lam Tright_0 (Fright_0 qe fuel)) := by kernel_rfl
    exact (Option.some.inj (e.symm.trans h)).symm
  · unfold Fright_0 at hr
    split at hr
    · obtain rfl := (Option.some.inj he).symm
      exact (gright_l0_ok qe fuel K _ _ _ _ _ _ _ _ _ _ _ fuel _ _).trans hr
    · cases hr
noncomputable def gright (qe : Mo) (fuel zn vq : Nat) (vh : Ge) (un1 : Int) : Option AV :=
  bif decide (IntKind.i64.wrap (IntKind.u64.wrap (un1.tdiv 32)) ≥ (↑zn : Int)) then some (AV.ro 1 0 0 fun (x j : Nat) => [AV.int .u32 0].getD j AV.dead)
  else ck (decide (0 ≤ IntKind.i64.wrap ((↑zn : Int) - IntKind.i64.wrap (IntKind.u64.wrap (un1.tdiv 32))))) <| ck (decide (IntKind.i64.wrap ((↑zn : Int) - IntKind.i64.wrap (IntKind.u64.wrap (un1.tdiv 32))) ≤ IntKind.i64.wrap ((↑zn : Int) - IntKind.i64.wrap (IntKind.u64.wrap (un1.tdiv 32))))) <| ck ((4 * (IntKind.i64.wrap ((↑zn : Int) - IntKind.i64.wrap (IntKind.u64.wrap (un1.tdiv 32)))).toNat).ble 281474976710656) <| ck (((IntKind.i64.wrap ((↑zn : Int) - IntKind.i64.wrap (IntKind.u64.wrap (un1.tdiv 32)))).toNat + 1).ble 4611686018427387904) <| gright_l0 qe fuel
    (fun (qhl qhm qhp : Nat) (v1 : List AV) (v0 : List (List AV)) => let r0 : Option AV := qe [AV.ro 1 qhm qhp fun (i j : Nat) => (v0.getD (qhl + i) v1).getD j AV.dead]; ck (okM [RS.one (LK.l 1)] r0) <| some (AV.ro 1 (toN (getV r0)) (toR (getV r0)) (toG (getV r0))))
    zn
    vq
    vh
    (IntKind.i64.wrap (IntKind.u64.wrap (un1.tdiv 32)))
    (un1.tmod 32)
    (0)
    ((IntKind.i64.wrap ((↑zn : Int) - IntKind.i64.wrap (IntKind.u64.wrap (un1.tdiv 32)))).toNat)
    ((IntKind.i64.wrap ((↑zn : Int) - IntKind.i64.wrap (IntKind.u64.wrap (un1.tdiv 32)))).toNat)
    ([AV.int .u32 0]) fuel (0) (List.replicate (IntKind.i64.wrap ((↑zn : Int) - IntKind.i64.wrap (IntKind.u64.wrap (un1.tdiv 32)))).toNat [AV.int .u32 0])
noncomputable def mright (qe : Mo) (fuel : Nat) (xs : List AV) : Option AV := match xs with
  | [AV.ro 1 zn vq vh,AV.int .u64 un1] => gright qe fuel zn vq vh un1
  | _ => none
abbrev Rright : List RS := [RS.one (LK.l (nat_lit 1))]
theorem gright_sm (qe : Mo) (fuel : Nat) (hΓ : GamOk Pr (Gright qe)) (hP : NamesOk Pr) : SmOk Pr 144 (smM Rright (mright qe fuel)) := smL (L := (Lright qe fuel)) (n := 1) hΓ hP (by kernel_rfl) (fun i hi => match i,hi with
  | 0,_ => gright_L0 qe fuel
  | i + 1,hi => absurd hi (by omega)) fun xs v h => by
  unfold mright at h
  split at h
  · exact Eq.trans (by kernel_rfl) h
  · cases h
noncomputable def Sadd_0 (qp qt : Nat) (qm : Ge) (wj wn : Nat) (wi : Ge) (yi v5 y3 : Nat) (uc6 ui7 : Int) (h0z : List AV) (h0e : List (List AV)) : St := { env := [(0,AV.ro 1 qp qt qm),(1,AV.ro 1 wj wn wi),(5,AV.own 0 yi 1 v5 y3),(6,AV.int .u64 uc6),(7,AV.int .i64 ui7)],h := [Blk.fx 1 h0z h0e],kd := [] }
noncomputable def Xadd_0_0 (qpz qqk : Nat) (qqm : Ge) (qjg qjj qi3 : Nat) (qrx : Int) (qg0 : List AV) (qgv : List (List AV)) : St := { env := [(0,AV.ro 1 qpz qqk qqm),(5,AV.own 0 qjg 1 qjj qi3),(6,AV.int .u64 qrx)],h := [Blk.fx 1 qg0 qgv],kd := [] }
noncomputable def gadd_l0_step (qe : Mo) (fuel : Nat) (kn : Int → Int → List (List AV) → Option AV) (kx0 : Nat → Nat → Ge → Nat → Nat → Nat → Int → List AV → List (List AV) → Option AV) (qp qt : Nat) (qm : Ge) (wj wn : Nat) (wi : Ge) (yi v5 y3 : Nat) (h0z : List AV) (uc6 ui7 : Int) (h0e : List (List AV)) : Option AV :=
  bif decide (ui7 < (↑qp : Int)) then ck (decide (0 ≤ ui7)) <| ck (decide (ui7 < (↑qp : Int))) <| ck (fitK (LK.i .u32) (qm ui7.toNat 0)) <| bif decide (ui7 < (↑wj : Int)) then ck (decide (0 ≤ ui7)) <| ck (decide (ui7 < (↑wj : Int))) <| ck (fitK (LK.i .u32) (wi ui7.toNat 0)) <| ck (decide (0 ≤ ui7)) <| ck (decide (ui7 < (↑v5 : Int))) <| kn ((IntKind.u64.wrap (IntKind.u64.wrap (uc6 + IntKind.u64.wrap (toI (qm ui7.toNat 0))) + IntKind.u64.wrap (toI (wi ui7.toNat 0)))).fdiv (2 ^ 32)) (IntKind.i64.wrap (ui7 + 1)) (h0e.set (yi + ui7.toNat) (AV.int .u32 (IntKind.u32.wrap (IntKind.u64.wrap (IntKind.u64.wrap (uc6 + IntKind.u64.wrap (toI (qm ui7.toNat 0))) + IntKind.u64.wrap (toI (wi ui7.toNat 0))))) :: List.drop (0 + [AV.int .u32 (IntKind.u32.wrap (IntKind.u64.wrap (IntKind.u64.wrap (uc6 + IntKind.u64.wrap (toI (qm ui7.toNat 0))) + IntKind.u64.wrap (toI (wi ui7.toNat 0)))))].length) (h0e.getD (yi + ui7.toNat) h0z)))
    else ck (decide (0 ≤ ui7)) <| ck (decide (ui7 < (↑v5 : Int))) <| kn ((IntKind.u64.wrap (uc6 + IntKind.u64.wrap (toI (qm ui7.toNat 0)))).fdiv (2 ^ 32)) (IntKind.i64.wrap (ui7 + 1)) (h0e.set (yi + ui7.toNat) (AV.int .u32 (IntKind.u32.wrap (IntKind.u64.wrap (uc6 + IntKind.u64.wrap (toI (qm ui7.toNat 0))))) :: List.drop (0 + [AV.int .u32 (IntKind.u32.wrap (IntKind.u64.wrap (uc6 + IntKind.u64.wrap (toI (qm ui7.toNat 0)))))].length) (h0e.getD (yi + ui7.toNat) h0z)))
  else kx0 qp qt qm yi v5 y3 uc6 h0z h0e
noncomputable def gadd_l0 (qe : Mo) (fuel : Nat) (kx0 : Nat → Nat → Ge → Nat → Nat → Nat → Int → List AV → List (List AV) → Option AV) (qp qt : Nat) (qm : Ge) (wj wn : Nat) (wi : Ge) (yi v5 y3 : Nat) (h0z : List AV) : Nat → Int → Int → List (List AV) → Option AV
  | 0,_,_,_ => none
  | n' + 1,uc6,ui7,h0e => gadd_l0_step qe fuel (gadd_l0 qe fuel kx0 qp qt qm wj wn wi yi v5 y3 h0z n') kx0 qp qt qm wj wn wi yi v5 y3 h0z uc6 ui7 h0e
termination_by structural k => k
noncomputable def Tadd_0 : TS' := ⟨[(0,TA.ro 1),(1,TA.ro 1),(5,TA.own 0 1),(6,TA.i .u64),(7,TA.i .i64)],[TB.fx 1],[]⟩
noncomputable def Fadd_0 (qe : Mo) (fuel : Nat) (ps : List Pay) (K : Ex → St → Option AV) : Option AV := match ps with
  | .n qp :: .n qt :: .g qm :: .n wj :: .n wn :: .g wi :: .n yi :: .n v5 :: .n y3 :: .i uc6 :: .i ui7 :: .z h0z :: .e h0e :: [] => gadd_l0 qe fuel (fun qpz qqk qqm qjg qjj qi3 qrx qg0 qgv => K (Ex.exit 0) (Xadd_0_0 qpz qqk qqm qjg qjj qi3 qrx qg0 qgv)) qp qt qm wj wn wi yi v5 y3 h0z fuel uc6 ui7 h0e
  | _ => none
noncomputable def Ladd (qe : Mo) (fuel : Nat) : Lam AV := [(1125899906318528,lam Tadd_0 (Fadd_0 qe fuel))]
noncomputable def Gadd (qe : Mo) : Gam := [(195,smM [RS.one (LK.l (nat_lit 1))] qe)]
theorem gadd_l0_eq (qe : Mo) (fuel : Nat) (kn : St → Option AV) (K : Ex → St → Option AV) (qp qt : Nat) (qm : Ge) (wj wn : Nat) (wi : Ge) (yi v5 y3 : Nat) (h0z : List AV) (qi0 qiz : Int) (pj : List (List AV)) (uc6 ui7 : Int) (h0e : List (List AV)) :
    bX Pr (Gadd qe) (Ladd qe fuel) 6 143 0 fuel (Sadd_0 qp qt qm wj wn wi yi v5 y3 uc6 ui7 h0z h0e) (fun e s => match e with | .normal => kn (hX Pr 143 0 (Sadd_0 qp qt qm wj wn wi yi v5 y3 qi0 qiz h0z pj) s) | e => K e s) =
    gadd_l0_step qe fuel (fun uc6 ui7 h0e => kn (Sadd_0 qp qt qm wj wn wi yi v5 y3 uc6 ui7 h0z h0e)) (fun p7 qax qay qan pr qbc qrk v1 v0 => K (Ex.exit 0) (Xadd_0_0 p7 qax qay qan pr qbc qrk v1 v0)) qp qt qm wj wn wi yi v5 y3 h0z uc6 ui7 h0e := by kernel_rfl
theorem gadd_l0_ok (qe : Mo) (fuel : Nat) (K : Ex → St → Option AV) (qp qt : Nat) (qm : Ge) (wj wn : Nat) (wi : Ge) (yi v5 y3 : Nat) (h0z : List AV) (qi0 qiz : Int) (pj : List (List AV)) : ∀ (n' : Nat) (uc6 ui7 : Int) (h0e : List (List AV)),
    loopK (bX Pr (Gadd qe) (Ladd qe fuel) 6 143 0 fuel) (hX Pr 143 0 (Sadd_0 qp qt qm wj wn wi yi v5 y3 qi0 qiz h0z pj)) n' (Sadd_0 qp qt qm wj wn wi yi v5 y3 uc6 ui7 h0z h0e) K = gadd_l0 qe fuel (fun p7 qax qay qan pr qbc qrk v1 v0 => K (Ex.exit 0) (Xadd_0_0 p7 qax qay qan pr qbc qrk v1 v0)) qp qt qm wj wn wi yi v5 y3 h0z n' uc6 ui7 h0e
  | 0,_,_,_ => rfl
  | n' + 1,uc6,ui7,h0e => (gadd_l0_eq qe fuel (fun s => loopK (bX Pr (Gadd qe) (Ladd qe fuel) 6 143 0 fuel) (hX Pr 143 0 (Sadd_0 qp qt qm wj wn wi yi v5 y3 qi0 qiz h0z pj)) n' s K) K qp qt qm wj wn wi yi v5 y3 h0z qi0 qiz pj uc6 ui7 h0e).trans
    (congrArg (fun kn => gadd_l0_step qe fuel kn _ qp qt qm wj wn wi yi v5 y3 h0z uc6 ui7 h0e) (funext fun uc6 => funext fun ui7 => funext fun h0e => gadd_l0_ok qe fuel K qp qt qm wj wn wi yi v5 y3 h0z qi0 qiz pj n' uc6 ui7 h0e))
theorem gadd_L0 (qe : Mo) (fuel : Nat) : LX Pr (Gadd qe) (Ladd qe fuel) 6 143 0 fuel := by
  refine .of Tadd_0 (Fadd_0 qe fuel) (fun L h => ?_) (fun ps st K r he hr => ?_)
  · have e : (Ladd qe fuel).get (writes (lp Pr 143 0).1) = some (lam Tadd_0 (Fadd_0 qe fuel)) := by kernel_rfl
    exact (Option.some.inj (e.symm.trans h)).symm
  · unfold Fadd_0 at hr
    split at hr
    · obtain rfl := (Option.some.inj he).symm
      exact (gadd_l0_ok qe fuel K _ _ _ _ _ _ _ _ _ _ _ _ _ fuel _ _ _).trans hr
    · cases hr
noncomputable def gadd (qe : Mo) (fuel zn vq : Nat) (vh : Ge) (ym pp : Nat) (pi : Ge) : Option AV :=
  bif decide ((↑zn : Int) < (↑ym : Int)) then ck (decide (0 ≤ IntKind.i64.wrap ((↑ym : Int) + 1))) <| ck (decide (IntKind.i64.wrap ((↑ym : Int) + 1) ≤ IntKind.i64.wrap ((↑ym : Int) + 1))) <| ck ((4 * (IntKind.i64.wrap ((↑ym : Int) + 1)).toNat).ble 281474976710656) <| ck (((IntKind.i64.wrap ((↑ym : Int) + 1)).toNat + 1).ble 4611686018427387904) <| gadd_l0 qe fuel
      (fun (p7 _ : Nat) (_ : Ge) (qan pr qbc : Nat) (qrk : Int) (v1 : List AV) (v0 : List (List AV)) => ck (decide (0 ≤ (↑p7 : Int))) <| ck (decide ((↑p7 : Int) < (↑pr : Int))) <| let r0 : Option AV := qe [AV.ro 1 pr qbc fun (i j : Nat) => ((v0.set (qan + (↑p7 : Int).toNat) (AV.int .u32 (IntKind.u32.wrap qrk) :: List.drop (0 + [AV.int .u32 (IntKind.u32.wrap qrk)].length) (v0.getD (qan + (↑p7 : Int).toNat) v1))).getD (qan + i) v1).getD j AV.dead]; ck (okM [RS.one (LK.l 1)] r0) <| some (AV.ro 1 (toN (getV r0)) (toR (getV r0)) (toG (getV r0))))
      ym
      pp
      pi
      zn
      vq
      vh
      (0)
      ((IntKind.i64.wrap ((↑ym : Int) + 1)).toNat)
      ((IntKind.i64.wrap ((↑ym : Int) + 1)).toNat)
      ([AV.int .u32 0]) fuel (0) (0) (List.replicate (IntKind.i64.wrap ((↑ym : Int) + 1)).toNat [AV.int .u32 0])
  else ck (decide (0 ≤ IntKind.i64.wrap ((↑zn : Int) + 1))) <| ck (decide (IntKind.i64.wrap ((↑zn : Int) + 1) ≤ IntKind.i64.wrap ((↑zn : Int) + 1))) <| ck ((4 * (IntKind.i64.wrap ((↑zn : Int) + 1)).toNat).ble 281474976710656) <| ck (((IntKind.i64.wrap ((↑zn : Int) + 1)).toNat + 1).ble 4611686018427387904) <| gadd_l0 qe fuel
    (fun (qb7 _ : Nat) (_ : Ge) (qfc qds qge : Nat) (qtm : Int) (yp : List AV) (yr : List (List AV)) => ck (decide (0 ≤ (↑qb7 : Int))) <| ck (decide ((↑qb7 : Int) < (↑qds : Int))) <| let r1 : Option AV := qe [AV.ro 1 qds qge fun (i j : Nat) => ((yr.set (qfc + (↑qb7 : Int).toNat) (AV.int .u32 (IntKind.u32.wrap qtm) :: List.drop (0 + [AV.int .u32 (IntKind.u32.wrap qtm)].length) (yr.getD (qfc + (↑qb7 : Int).toNat) yp))).getD (qfc + i) yp).getD j AV.dead]; ck (okM [RS.one (LK.l 1)] r1) <| some (AV.ro 1 (toN (getV r1)) (toR (getV r1)) (toG (getV r1))))
    zn
    vq
    vh
    ym
    pp
    pi
    (0)
    ((IntKind.i64.wrap ((↑zn : Int) + 1)).toNat)
    ((IntKind.i64.wrap ((↑zn : Int) + 1)).toNat)
    ([AV.int .u32 0]) fuel (0) (0) (List.replicate (IntKind.i64.wrap ((↑zn : Int) + 1)).toNat [AV.int .u32 0])
noncomputable def madd (qe : Mo) (fuel : Nat) (xs : List AV) : Option AV := match xs with
  | [AV.ro 1 zn vq vh,AV.ro 1 ym pp pi] => gadd qe fuel zn vq vh ym pp pi
  | _ => none
abbrev Radd : List RS := [RS.one (LK.l (nat_lit 1))]
theorem gadd_sm (qe : Mo) (fuel : Nat) (hΓ : GamOk Pr (Gadd qe)) (hP : NamesOk Pr) : SmOk Pr 143 (smM Radd (madd qe fuel)) := smL (L := (Ladd qe fuel)) (n := 1) hΓ hP (by kernel_rfl) (fun i hi => match i,hi with
  | 0,_ => gadd_L0 qe fuel
  | i + 1,hi => absurd hi (by omega)) fun xs v h => by
  unfold madd at h
  split at h
  · exact Eq.trans (by kernel_rfl) h
  · cases h
noncomputable def LInt_Rsh_ii (qam wc : Mo) (v2 qc : Mo) (qb qa : Mo) (fuel : Nat) : Lam AV := []
noncomputable def GInt_Rsh_ii (qam wc : Mo) (v2 qc : Mo) (qb qa : Mo) : Gam := [(145,smM [RS.one (LK.l (nat_lit 1))] qam),(144,smM [RS.one (LK.l (nat_lit 1))] wc),(143,smM [RS.one (LK.l (nat_lit 1))] v2),(133,smX RInt_give_i XInt_give_i qc),(133,smX RInt_give_ra XInt_give_ra qb),(133,smX RInt_give_rb XInt_give_rb qa)]
noncomputable def gInt_Rsh_ii (qam wc : Mo) (v2 qc : Mo) (qb qa : Mo) (fuel : Nat) (un2 : Int) (wh : Bool) (qr qz : Nat) (qy : Ge) (z4 : Bool) (w5 zl : Nat) (zm : Ge) : Option AV :=
  bif z4 then let r0 : Option AV := qam [AV.ro 1 w5 zl zm,AV.ro 1 1 1 fun (i j : Nat) => ([[AV.int .u32 1]].getD i []).getD j AV.dead]; ck (okM [RS.one (LK.l 1)] r0) <| let r1 : Option AV := wc [AV.ro 1 (toN (getV r0)) (toR (getV r0)) (toG (getV r0)),AV.int .u64 un2]; ck (okM [RS.one (LK.l 1)] r1) <| let r2 : Option AV := v2 [AV.ro 1 (toN (getV r1)) (toR (getV r1)) (toG (getV r1)),AV.ro 1 1 1 fun (i j : Nat) => ([[AV.int .u32 1]].getD i []).getD j AV.dead]; ck (okM [RS.one (LK.l 1)] r2) <| let r3 : Option AV := qc [AV.ptr (xidx 0 (xtoks [AV.ptr 0 0,AV.bool true,AV.ro 1 (toN (getV r2)) (toR (getV r2)) (toG (getV r2))] [])) 0,AV.bool true,AV.ro 1 (toN (getV r2)) (toR (getV r2)) (toG (getV r2)),AV.bool wh,AV.ro 1 qr qz qy]; ck (okX [RS.one LK.b,RS.one (LK.l 1)] r3) <| some (AV.tup [AV.bool (toB ((toT (getV r3)).headD .dead)),AV.ro 1 (toN ((toT (getV r3)).tail.headD .dead)) (toR ((toT (getV r3)).tail.headD .dead)) (toG ((toT (getV r3)).tail.headD .dead)),AV.bool z4,AV.ro 1 w5 zl zm])
  else let r4 : Option AV := wc [AV.ro 1 w5 zl zm,AV.int .u64 un2]; ck (okM [RS.one (LK.l 1)] r4) <| let r5 : Option AV := qc [AV.ptr (xidx 0 (xtoks [AV.ptr 0 0,AV.bool false,AV.ro 1 (toN (getV r4)) (toR (getV r4)) (toG (getV r4))] [])) 0,AV.bool false,AV.ro 1 (toN (getV r4)) (toR (getV r4)) (toG (getV r4)),AV.bool wh,AV.ro 1 qr qz qy]; ck (okX [RS.one LK.b,RS.one (LK.l 1)] r5) <| some (AV.tup [AV.bool (toB ((toT (getV r5)).headD .dead)),AV.ro 1 (toN ((toT (getV r5)).tail.headD .dead)) (toR ((toT (getV r5)).tail.headD .dead)) (toG ((toT (getV r5)).tail.headD .dead)),AV.bool z4,AV.ro 1 w5 zl zm])
theorem gInt_Rsh_ii_run (qam wc : Mo) (v2 qc : Mo) (qb qa : Mo) (fuel : Nat) (un2 : Int) (wh : Bool) (qr qz : Nat) (qy : Ge) (z4 : Bool) (w5 zl : Nat) (zm : Ge) : runX Pr (GInt_Rsh_ii qam wc v2 qc qb qa) [((6,85),LInt_Rsh_ii qam wc v2 qc qb qa fuel)] fuel 7 85 XInt_Rsh_ii [AV.ptr 0 0,AV.ptr 1 0,AV.int .u64 un2] [Blk.box [AV.bool wh,AV.ro 1 qr qz qy],Blk.box [AV.bool z4,AV.ro 1 w5 zl zm]] = gInt_Rsh_ii qam wc v2 qc qb qa fuel un2 wh qr qz qy z4 w5 zl zm := by kernel_rfl
noncomputable def mInt_Rsh_ii (qam wc : Mo) (v2 qc : Mo) (qb qa : Mo) (fuel : Nat) (xs : List AV) : Option AV := match xs with
  | [AV.ptr 0 0,AV.ptr 1 0,AV.int .u64 un2,AV.bool wh,AV.ro 1 qr qz qy,AV.bool z4,AV.ro 1 w5 zl zm] => gInt_Rsh_ii qam wc v2 qc qb qa fuel un2 wh qr qz qy z4 w5 zl zm
  | _ => none
theorem gInt_Rsh_ii_sm (qam wc : Mo) (v2 qc : Mo) (qb qa : Mo) (fuel : Nat) (hΓ : GamOk Pr (GInt_Rsh_ii qam wc v2 qc qb qa)) (hP : NamesOk Pr) : XOk Pr 85 (smX RInt_Rsh_ii XInt_Rsh_ii (mInt_Rsh_ii qam wc v2 qc qb qa fuel)) XInt_Rsh_ii := by
  refine smX_ok (fuel := fuel) hΓ hP (LamOk.of 6 85 (LInt_Rsh_ii qam wc v2 qc qb qa fuel) 0 (by kernel_rfl) (fun i hi => ?_)) 7 85 RInt_Rsh_ii XInt_Rsh_ii _ (fun xs0 ys0 v ha hb h => ?_)
  · match i,hi with
    | i + 0,hi => exact absurd hi (by omega)
  · skip
    have ha0 : xs0.length = 3 := ha
    clear ha
    obtain ⟨a0,xs1,rfl,ha1⟩ := len_cons ha0
    clear ha0
    obtain ⟨a1,xs2,rfl,ha2⟩ := len_cons ha1
    clear ha1
    obtain ⟨a2,xs3,rfl,ha3⟩ := len_cons ha2
    clear ha2
    obtain rfl := List.eq_nil_of_length_eq_zero ha3
    have hy0 : ys0.map List.length = [2,2] := hb
    clear hb
    obtain ⟨wh,ys1,rfl,hb0_0,hy1⟩ := map_cons' hy0
    clear hy0
    obtain ⟨c0_0,b0_1,rfl,hb0_1⟩ := len_cons hb0_0
    clear hb0_0
    obtain ⟨c0_1,z8,rfl,hb0_2⟩ := len_cons hb0_1
    clear hb0_1
    obtain rfl := List.eq_nil_of_length_eq_zero hb0_2
    obtain ⟨z4,ys2,rfl,hb1_0,hy2⟩ := map_cons' hy1
    clear hy1
    obtain ⟨c1_0,b1_1,rfl,hb1_1⟩ := len_cons hb1_0
    clear hb1_0
    obtain ⟨c1_1,qaq,rfl,hb1_2⟩ := len_cons hb1_1
    clear hb1_1
    obtain rfl := List.eq_nil_of_length_eq_zero hb1_2
    obtain rfl := map_nil' hy2
    have h : mInt_Rsh_ii qam wc v2 qc qb qa fuel [a0,a1,a2,c0_0,c0_1,c1_0,c1_1] = some v := h
    generalize hx0 : [a0,a1,a2,c0_0,c0_1,c1_0,c1_1] = zs at h
    unfold mInt_Rsh_ii at h
    split at h
    · skip
      obtain ⟨rfl,hx1⟩ := List.cons.inj hx0
      obtain ⟨rfl,hx2⟩ := List.cons.inj hx1
      obtain ⟨rfl,hx3⟩ := List.cons.inj hx2
      obtain ⟨rfl,hx4⟩ := List.cons.inj hx3
      obtain ⟨rfl,hx5⟩ := List.cons.inj hx4
      obtain ⟨rfl,hx6⟩ := List.cons.inj hx5
      obtain ⟨rfl,hx7⟩ := List.cons.inj hx6
      simp only [List.map_cons,List.map_nil]
      exact (gInt_Rsh_ii_run qam wc v2 qc qb qa fuel _ _ _ _ _ _ _ _ _).trans h
    · cases h
noncomputable def LInt_Rsh_p (qam wc : Mo) (v2 qc : Mo) (qb qa : Mo) (fuel : Nat) : Lam AV := []
noncomputable def GInt_Rsh_p (qam wc : Mo) (v2 qc : Mo) (qb qa : Mo) : Gam := [(145,smM [RS.one (LK.l (nat_lit 1))] qam),(144,smM [RS.one (LK.l (nat_lit 1))] wc),(143,smM [RS.one (LK.l (nat_lit 1))] v2),(133,smX RInt_give_i XInt_give_i qc),(133,smX RInt_give_ra XInt_give_ra qb),(133,smX RInt_give_rb XInt_give_rb qa)]
noncomputable def gInt_Rsh_p (qam wc : Mo) (v2 qc : Mo) (qb qa : Mo) (fuel : Nat) (un2 : Int) (wh : Bool) (qr qz : Nat) (qy : Ge) : Option AV :=
  bif wh then let r0 : Option AV := qam [AV.ro 1 qr qz qy,AV.ro 1 1 1 fun (i j : Nat) => ([[AV.int .u32 1]].getD i []).getD j AV.dead]; ck (okM [RS.one (LK.l 1)] r0) <| let r1 : Option AV := wc [AV.ro 1 (toN (getV r0)) (toR (getV r0)) (toG (getV r0)),AV.int .u64 un2]; ck (okM [RS.one (LK.l 1)] r1) <| let r2 : Option AV := v2 [AV.ro 1 (toN (getV r1)) (toR (getV r1)) (toG (getV r1)),AV.ro 1 1 1 fun (i j : Nat) => ([[AV.int .u32 1]].getD i []).getD j AV.dead]; ck (okM [RS.one (LK.l 1)] r2) <| let r3 : Option AV := qc [AV.ptr (xidx 0 (xtoks [AV.ptr 0 0,AV.bool true,AV.ro 1 (toN (getV r2)) (toR (getV r2)) (toG (getV r2))] [])) 0,AV.bool true,AV.ro 1 (toN (getV r2)) (toR (getV r2)) (toG (getV r2)),AV.bool wh,AV.ro 1 qr qz qy]; ck (okX [RS.one LK.b,RS.one (LK.l 1)] r3) <| some (AV.tup [AV.bool (toB ((toT (getV r3)).headD .dead)),AV.ro 1 (toN ((toT (getV r3)).tail.headD .dead)) (toR ((toT (getV r3)).tail.headD .dead)) (toG ((toT (getV r3)).tail.headD .dead))])
  else let r4 : Option AV := wc [AV.ro 1 qr qz qy,AV.int .u64 un2]; ck (okM [RS.one (LK.l 1)] r4) <| let r5 : Option AV := qc [AV.ptr (xidx 0 (xtoks [AV.ptr 0 0,AV.bool false,AV.ro 1 (toN (getV r4)) (toR (getV r4)) (toG (getV r4))] [])) 0,AV.bool false,AV.ro 1 (toN (getV r4)) (toR (getV r4)) (toG (getV r4)),AV.bool wh,AV.ro 1 qr qz qy]; ck (okX [RS.one LK.b,RS.one (LK.l 1)] r5) <| some (AV.tup [AV.bool (toB ((toT (getV r5)).headD .dead)),AV.ro 1 (toN ((toT (getV r5)).tail.headD .dead)) (toR ((toT (getV r5)).tail.headD .dead)) (toG ((toT (getV r5)).tail.headD .dead))])
theorem gInt_Rsh_p_run (qam wc : Mo) (v2 qc : Mo) (qb qa : Mo) (fuel : Nat) (un2 : Int) (wh : Bool) (qr qz : Nat) (qy : Ge) : runX Pr (GInt_Rsh_p qam wc v2 qc qb qa) [((6,85),LInt_Rsh_p qam wc v2 qc qb qa fuel)] fuel 7 85 XInt_Rsh_p [AV.ptr 0 0,AV.ptr 0 0,AV.int .u64 un2] [Blk.box [AV.bool wh,AV.ro 1 qr qz qy]] = gInt_Rsh_p qam wc v2 qc qb qa fuel un2 wh qr qz qy := by kernel_rfl
noncomputable def mInt_Rsh_p (qam wc : Mo) (v2 qc : Mo) (qb qa : Mo) (fuel : Nat) (xs : List AV) : Option AV := match xs with
  | [AV.ptr 0 0,AV.ptr 0 0,AV.int .u64 un2,AV.bool wh,AV.ro 1 qr qz qy] => gInt_Rsh_p qam wc v2 qc qb qa fuel un2 wh qr qz qy
  | _ => none
theorem gInt_Rsh_p_sm (qam wc : Mo) (v2 qc : Mo) (qb qa : Mo) (fuel : Nat) (hΓ : GamOk Pr (GInt_Rsh_p qam wc v2 qc qb qa)) (hP : NamesOk Pr) : XOk Pr 85 (smX RInt_Rsh_p XInt_Rsh_p (mInt_Rsh_p qam wc v2 qc qb qa fuel)) XInt_Rsh_p := by
  refine smX_ok (fuel := fuel) hΓ hP (LamOk.of 6 85 (LInt_Rsh_p qam wc v2 qc qb qa fuel) 0 (by kernel_rfl) (fun i hi => ?_)) 7 85 RInt_Rsh_p XInt_Rsh_p _ (fun xs0 ys0 v ha hb h => ?_)
  · match i,hi with
    | i + 0,hi => exact absurd hi (by omega)
  · skip
    have ha0 : xs0.length = 3 := ha
    clear ha
    obtain ⟨a0,xs1,rfl,ha1⟩ := len_cons ha0
    clear ha0
    obtain ⟨a1,xs2,rfl,ha2⟩ := len_cons ha1
    clear ha1
    obtain ⟨a2,xs3,rfl,ha3⟩ := len_cons ha2
    clear ha2
    obtain rfl := List.eq_nil_of_length_eq_zero ha3
    have hy0 : ys0.map List.length = [2] := hb
    clear hb
    obtain ⟨wh,ys1,rfl,hb0_0,hy1⟩ := map_cons' hy0
    clear hy0
    obtain ⟨c0_0,b0_1,rfl,hb0_1⟩ := len_cons hb0_0
    clear hb0_0
    obtain ⟨c0_1,z8,rfl,hb0_2⟩ := len_cons hb0_1
    clear hb0_1
    obtain rfl := List.eq_nil_of_length_eq_zero hb0_2
    obtain rfl := map_nil' hy1
    have h : mInt_Rsh_p qam wc v2 qc qb qa fuel [a0,a1,a2,c0_0,c0_1] = some v := h
    generalize hx0 : [a0,a1,a2,c0_0,c0_1] = zs at h
    unfold mInt_Rsh_p at h
    split at h
    · skip
      obtain ⟨rfl,hx1⟩ := List.cons.inj hx0
      obtain ⟨rfl,hx2⟩ := List.cons.inj hx1
      obtain ⟨rfl,hx3⟩ := List.cons.inj hx2
      obtain ⟨rfl,hx4⟩ := List.cons.inj hx3
      obtain ⟨rfl,hx5⟩ := List.cons.inj hx4
      simp only [List.map_cons,List.map_nil]
      exact (gInt_Rsh_p_run qam wc v2 qc qb qa fuel _ _ _ _ _).trans h
    · cases h
end Go.Proofs.Tryz
end
