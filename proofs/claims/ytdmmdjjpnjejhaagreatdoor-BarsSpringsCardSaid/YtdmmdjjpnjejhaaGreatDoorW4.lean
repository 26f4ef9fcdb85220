/- Part 4 of the proof: models of the functions, and laws on them. -/
import Derived.Test.YtdmmdjjpnjejhaaGreatDoorW3
import Derived.Test.YtdmmdjjpnjejhaaGreatDoorProg
import Derived.KernelRfl
section
namespace Go.Proofs.Tryz
open Go Go.Am
noncomputable abbrev Pr : Program := prog
def Xspan_corners_a : XS := { pat := [none, none, some (1000079, 0)], nb := [], out := [.one] }
abbrev Rspan_corners_a : List RS := [RS.agg [LK.f FloatKind.f64, LK.f FloatKind.f64]]
def Xspan_corners_b : XS := { pat := [none, none, some (1000077, 0)], nb := [], out := [.one] }
abbrev Rspan_corners_b : List RS := [RS.agg [LK.f FloatKind.f64, LK.f FloatKind.f64]]
def Xbars_springs_a : XS := { pat := [none, none], nb := [], out := [.newl 11 [AV.int IntKind.i64 0, AV.int IntKind.u8 0, AV.int IntKind.i64 0, AV.int IntKind.i64 0, AV.int IntKind.i64 0, AV.int IntKind.i64 0, AV.int IntKind.i64 0, AV.int IntKind.i64 0, AV.flt FloatKind.f64 (some 0), AV.flt FloatKind.f64 (some 0), AV.flt FloatKind.f64 (some 0)]] }
abbrev Rbars_springs_a : List RS := [RS.one (LK.l 11)]
noncomputable instance : Inhabited GlobT := ⟨⟨[]⟩⟩
end Go.Proofs.Tryz
end
section
namespace Go.Proofs.Tryz
open Go Go.Am
set_option linter.unusedVariables false
set_option maxRecDepth 1000000
noncomputable def Lkit_markText (fuel : Nat) : Lam AV := []
noncomputable def Gkit_markText : Gam := []
noncomputable def Ckit_markText (fuel : Nat) : CallI AV := callX (Gkit_markText) (execFn Pr (Gkit_markText) [((6, 49), Lkit_markText fuel)] fuel 6)
noncomputable def gkit_markText (fuel : Nat) (uk0 ui1 : Int) : Option AV :=
  ck ([[AV.int .u8 35], [AV.int .u8 (IntKind.u8.wrap uk0)], [AV.int .u8 (IntKind.u8.wrap (uk0.fdiv (2 ^ 8)))], [AV.int .u8 (IntKind.u8.wrap (uk0.fdiv (2 ^ 16)))], [AV.int .u8 47], [AV.int .u8 (IntKind.u8.wrap ui1)], [AV.int .u8 (IntKind.u8.wrap (ui1.fdiv (2 ^ 8)))], [AV.int .u8 (IntKind.u8.wrap (ui1.fdiv (2 ^ 16)))]].all fun (el : List AV) => fitKs [LK.i .u8] el) <| some (AV.str (bytesOf [[AV.int .u8 35], [AV.int .u8 (IntKind.u8.wrap uk0)], [AV.int .u8 (IntKind.u8.wrap (uk0.fdiv (2 ^ 8)))], [AV.int .u8 (IntKind.u8.wrap (uk0.fdiv (2 ^ 16)))], [AV.int .u8 47], [AV.int .u8 (IntKind.u8.wrap ui1)], [AV.int .u8 (IntKind.u8.wrap (ui1.fdiv (2 ^ 8)))], [AV.int .u8 (IntKind.u8.wrap (ui1.fdiv (2 ^ 16)))]]))
theorem gkit_markText_run (fuel : Nat) (uk0 ui1 : Int) : run Pr (Gkit_markText) [((6, 49), Lkit_markText fuel)] fuel 7 49 [AV.int .i64 uk0, AV.int .i64 ui1] = gkit_markText fuel uk0 ui1 := by kernel_rfl
noncomputable def mkit_markText (fuel : Nat) (xs : List AV) : Option AV := match xs with
  | [AV.int .i64 uk0, AV.int .i64 ui1] => gkit_markText fuel uk0 ui1
  | _ => none
abbrev Rkit_markText : List RS := [RS.one LK.s]
theorem gkit_markText_sm (fuel : Nat) (hΓ : GamOk Pr (Gkit_markText)) (hP : NamesOk Pr) : SmOk Pr 49 (smM Rkit_markText (mkit_markText fuel)) := by
  refine smM_ok (fuel := fuel) hΓ hP (LamOk.of 6 49 (Lkit_markText fuel) 0 (by kernel_rfl) (fun i hi => ?_)) 7 49 Rkit_markText _ (fun xs v h => ?_)
  · match i, hi with
    | i + 0, hi => exact absurd hi (by omega)
  · unfold mkit_markText at h
    split at h
    · exact (gkit_markText_run fuel _ _).trans h
    · cases h
noncomputable def Lkit_markJoint (w8 : Mo) (fuel : Nat) : Lam AV := []
noncomputable def Gkit_markJoint (w8 : Mo) : Gam := [(49, smM [RS.one LK.s] w8)]
noncomputable def Ckit_markJoint (w8 : Mo) (fuel : Nat) : CallI AV := callX (Gkit_markJoint w8) (execFn Pr (Gkit_markJoint w8) [((6, 26), Lkit_markJoint w8 fuel)] fuel 6)
noncomputable def gkit_markJoint (w8 : Mo) (fuel : Nat) (uk0 ui1 : Int) : Option AV :=
  ck (okM [RS.one LK.s] (w8 [AV.int .i64 uk0, AV.int .i64 ui1])) <| some (AV.agg [AV.str (toS (getV (w8 [AV.int .i64 uk0, AV.int .i64 ui1]))), AV.int .i32 0, AV.int .i32 0, AV.int .u8 0])
theorem gkit_markJoint_run (w8 : Mo) (fuel : Nat) (uk0 ui1 : Int) : run Pr (Gkit_markJoint w8) [((6, 26), Lkit_markJoint w8 fuel)] fuel 7 26 [AV.int .i64 uk0, AV.int .i64 ui1] = gkit_markJoint w8 fuel uk0 ui1 := by kernel_rfl
noncomputable def mkit_markJoint (w8 : Mo) (fuel : Nat) (xs : List AV) : Option AV := match xs with
  | [AV.int .i64 uk0, AV.int .i64 ui1] => gkit_markJoint w8 fuel uk0 ui1
  | _ => none
abbrev Rkit_markJoint : List RS := [RS.agg [LK.s, LK.i .i32, LK.i .i32, LK.i .u8]]
theorem gkit_markJoint_sm (w8 : Mo) (fuel : Nat) (hΓ : GamOk Pr (Gkit_markJoint w8)) (hP : NamesOk Pr) : SmOk Pr 26 (smM Rkit_markJoint (mkit_markJoint w8 fuel)) := by
  refine smM_ok (fuel := fuel) hΓ hP (LamOk.of 6 26 (Lkit_markJoint w8 fuel) 0 (by kernel_rfl) (fun i hi => ?_)) 7 26 Rkit_markJoint _ (fun xs v h => ?_)
  · match i, hi with
    | i + 0, hi => exact absurd hi (by omega)
  · unfold mkit_markJoint at h
    split at h
    · exact (gkit_markJoint_run w8 fuel _ _).trans h
    · cases h
noncomputable def Skit_LentJoints_0 (vr vv : Nat) (vf : Ge) (pn pt pw : Nat) (ui4 : Int) (h0z : List AV) (h0e : List (List AV)) : St := { env := [(0, AV.ro 4 vr vv vf), (3, AV.own 0 pn 4 pt pw), (4, AV.int .i64 ui4)], h := [Blk.fx 4 h0z h0e], kd := [] }
noncomputable def Xkit_LentJoints_0_0 (qdh qdi : Nat) (qda : Ge) (qed qee qei : Nat) (qhe : List AV) (qg3 : List (List AV)) : St := { env := [(0, AV.ro 4 qdh qdi qda), (3, AV.own 0 qed 4 qee qei)], h := [Blk.fx 4 qhe qg3], kd := [] }
noncomputable def gkit_LentJoints_l0_step (qe : Mo) (fuel : Nat) (kn : Nat → Int → List (List AV) → Option AV) (kx0 : Nat → Nat → (Ge) → Nat → Nat → Nat → List AV → List (List AV) → Option AV) (vr vv : Nat) (vf : Ge) (pn pw : Nat) (h0z : List AV) (pt : Nat) (ui4 : Int) (h0e : List (List AV)) : Option AV :=
  bif decide (ui4 < 12) then let r0 : Option AV := qe [AV.int .i64 1, AV.int .i64 ui4]; ck (okM [RS.agg [LK.s, LK.i .i32, LK.i .i32, LK.i .u8]] r0) <| ck (decide (pt + 1 ≤ pw)) <| kn (pt + 1) (IntKind.i64.wrap (ui4 + 1)) (List.take (pn + pt) h0e ++ [[AV.str (toS ((toC (getV r0)).headD AV.dead)), AV.int .i32 (toI ((toC (getV r0)).tail.headD AV.dead)), AV.int .i32 (toI ((toC (getV r0)).tail.tail.headD AV.dead)), AV.int .u8 (toI ((toC (getV r0)).tail.tail.tail.headD AV.dead))]] ++ List.drop (pn + pt + 1) h0e)
  else kx0 (vr) (vv) (vf) (pn) (pt) (pw) (h0z) (h0e)
noncomputable def gkit_LentJoints_l0 (qe : Mo) (fuel : Nat) (kx0 : Nat → Nat → (Ge) → Nat → Nat → Nat → List AV → List (List AV) → Option AV) (vr vv : Nat) (vf : Ge) (pn pw : Nat) (h0z : List AV) : Nat → Nat → Int → List (List AV) → Option AV
  | 0, _, _, _ => none
  | n' + 1, pt, ui4, h0e => gkit_LentJoints_l0_step qe fuel (gkit_LentJoints_l0 qe fuel kx0 vr vv vf pn pw h0z n') kx0 vr vv vf pn pw h0z pt ui4 h0e
noncomputable def Tkit_LentJoints_0 : TS' := ⟨[(0, TA.ro 4), (3, TA.own 0 4), (4, TA.i .i64)], [TB.fx 4], []⟩
noncomputable def Fkit_LentJoints_0 (qe : Mo) (fuel : Nat) (ps : List Pay) (K : Ex → St → Option AV) : Option AV := match ps with
  | .n vr :: .n vv :: .g vf :: .n pn :: .n pt :: .n pw :: .i ui4 :: .z h0z :: .e h0e :: [] => gkit_LentJoints_l0 qe fuel (fun qdh qdi qda qed qee qei qhe qg3 => K (Ex.exit 0) (Xkit_LentJoints_0_0 qdh qdi qda qed qee qei qhe qg3)) vr vv vf pn pw h0z fuel pt ui4 h0e
  | _ => none
noncomputable def Lkit_LentJoints (qe : Mo) (fuel : Nat) : Lam AV := [(2093080, lam Tkit_LentJoints_0 (Fkit_LentJoints_0 qe fuel))]
noncomputable def Gkit_LentJoints (qe : Mo) : Gam := [(26, smM [RS.agg [LK.s, LK.i .i32, LK.i .i32, LK.i .u8]] qe)]
noncomputable def Ckit_LentJoints (qe : Mo) (fuel : Nat) : CallI AV := callX (Gkit_LentJoints qe) (execFn Pr (Gkit_LentJoints qe) [((6, 10), Lkit_LentJoints qe fuel)] fuel 6)
theorem gkit_LentJoints_l0_eq (qe : Mo) (fuel : Nat) (kn : St → Option AV) (K : Ex → St → Option AV) (vr vv : Nat) (vf : Ge) (pn pw : Nat) (h0z : List AV) (qds : Nat) (qe8 : Int) (qhv : List (List AV)) (pt : Nat) (ui4 : Int) (h0e : List (List AV)) :
    exec Pr (Gkit_LentJoints qe) (Lkit_LentJoints qe fuel) (fnNt Pr 10) fuel (Ckit_LentJoints qe fuel) (lp Pr 10 0).1 (lp Pr 10 0).2 (live (lp Pr 10 0).1 (lp Pr 10 0).2 0) (Skit_LentJoints_0 vr vv vf pn pt pw ui4 h0z h0e) (fun e s => match e with | .normal => kn (headN (live (lp Pr 10 0).1 (lp Pr 10 0).2 0) (writes (lp Pr 10 0).1) (Skit_LentJoints_0 vr vv vf pn qds pw qe8 h0z qhv) s) | e => K e s) =
    gkit_LentJoints_l0_step qe fuel (fun pt ui4 h0e => kn (Skit_LentJoints_0 vr vv vf pn pt pw ui4 h0z h0e)) (fun qbq qdg qc7 qcy xout3n qbx qhb qhf => K (Ex.exit 0) (Xkit_LentJoints_0_0 qbq qdg qc7 qcy xout3n qbx qhb qhf)) vr vv vf pn pw h0z pt ui4 h0e := by kernel_rfl
theorem gkit_LentJoints_l0_ok (qe : Mo) (fuel : Nat) (K : Ex → St → Option AV) (vr vv : Nat) (vf : Ge) (pn pw : Nat) (h0z : List AV) (qds : Nat) (qe8 : Int) (qhv : List (List AV)) : ∀ (n' pt : Nat) (ui4 : Int) (h0e : List (List AV)),
    loopK (exec Pr (Gkit_LentJoints qe) (Lkit_LentJoints qe fuel) (fnNt Pr 10) fuel (Ckit_LentJoints qe fuel) (lp Pr 10 0).1 (lp Pr 10 0).2 (live (lp Pr 10 0).1 (lp Pr 10 0).2 0)) (headN (live (lp Pr 10 0).1 (lp Pr 10 0).2 0) (writes (lp Pr 10 0).1) (Skit_LentJoints_0 vr vv vf pn qds pw qe8 h0z qhv)) n' (Skit_LentJoints_0 vr vv vf pn pt pw ui4 h0z h0e) K = gkit_LentJoints_l0 qe fuel (fun qbq qdg qc7 qcy xout3n qbx qhb qhf => K (Ex.exit 0) (Xkit_LentJoints_0_0 qbq qdg qc7 qcy xout3n qbx qhb qhf)) vr vv vf pn pw h0z n' pt ui4 h0e
  | 0, _, _, _ => rfl
  | n' + 1, pt, ui4, h0e => (gkit_LentJoints_l0_eq qe fuel (fun s => loopK (exec Pr (Gkit_LentJoints qe) (Lkit_LentJoints qe fuel) (fnNt Pr 10) fuel (Ckit_LentJoints qe fuel) (lp Pr 10 0).1 (lp Pr 10 0).2 (live (lp Pr 10 0).1 (lp Pr 10 0).2 0)) (headN (live (lp Pr 10 0).1 (lp Pr 10 0).2 0) (writes (lp Pr 10 0).1) (Skit_LentJoints_0 vr vv vf pn qds pw qe8 h0z qhv)) n' s K) K vr vv vf pn pw h0z qds qe8 qhv pt ui4 h0e).trans
    (congrArg (fun kn => gkit_LentJoints_l0_step qe fuel kn (fun qbq qdg qc7 qcy xout3n qbx qhb qhf => K (Ex.exit 0) (Xkit_LentJoints_0_0 qbq qdg qc7 qcy xout3n qbx qhb qhf)) vr vv vf pn pw h0z pt ui4 h0e) (funext fun _ => funext fun _ => funext fun _ => gkit_LentJoints_l0_ok qe fuel K vr vv vf pn pw h0z qds qe8 qhv n' _ _ _))
theorem gkit_LentJoints_L0 (qe : Mo) (fuel : Nat) : LOk Pr (Gkit_LentJoints qe) (Lkit_LentJoints qe fuel) (fnNt Pr 10) fuel (Ckit_LentJoints qe fuel) (lp Pr 10 0) := by
  refine .of Tkit_LentJoints_0 (Fkit_LentJoints_0 qe fuel) (fun L h => ?_) (fun ps st K r he hr => ?_)
  · have e : (Lkit_LentJoints qe fuel).get (writes (lp Pr 10 0).1) = some (lam Tkit_LentJoints_0 (Fkit_LentJoints_0 qe fuel)) := by kernel_rfl
    exact (Option.some.inj (e.symm.trans h)).symm
  · unfold Fkit_LentJoints_0 at hr
    split at hr
    · obtain rfl := (Option.some.inj he).symm
      exact (gkit_LentJoints_l0_ok qe fuel K _ _ _ _ _ _ _ _ _ fuel _ _ _).trans hr
    · cases hr
noncomputable def gkit_LentJoints (qe : Mo) (fuel yn p6 : Nat) (pu : Ge) : Option AV :=
  ck (decide (0 ≤ IntKind.i64.wrap ((↑yn : Int) + 12))) <| ck ((32 * (IntKind.i64.wrap ((↑yn : Int) + 12)).toNat).ble 281474976710656) <| ck (((IntKind.i64.wrap ((↑yn : Int) + 12)).toNat + 1).ble 4611686018427387904) <| ck (decide (0 + yn ≤ (IntKind.i64.wrap ((↑yn : Int) + 12)).toNat)) <| gkit_LentJoints_l0 qe fuel
    (fun (qbq _ : Nat) (_ : Ge) (qcy _ qbx : Nat) (qhb : List AV) (qhf : List (List AV)) => ck (decide (0 < qbx)) <| ck (decide (0 ≤ (↑qbq : Int))) <| ck (decide ((↑qbq : Int) ≤ (↑qbx : Int))) <| some (AV.ro 4 ((↑qbq : Int).toNat - 0) (qbx - 0) fun (i j : Nat) => (qhf.getD (qcy + 0 + i) qhb).getD j AV.dead))
    (yn)
    (p6)
    (pu)
    (0)
    ((IntKind.i64.wrap ((↑yn : Int) + 12)).toNat)
    ([AV.str { data := #[] }, AV.int .i32 0, AV.int .i32 0, AV.int .u8 0]) fuel (0 + yn) (0) ([] ++ rows 4 yn pu ++ List.drop (0 + yn) (List.replicate (IntKind.i64.wrap ((↑yn : Int) + 12)).toNat [AV.str { data := #[] }, AV.int .i32 0, AV.int .i32 0, AV.int .u8 0]))
theorem gkit_LentJoints_run (qe : Mo) (fuel yn p6 : Nat) (pu : Ge) : run Pr (Gkit_LentJoints qe) [((6, 10), Lkit_LentJoints qe fuel)] fuel 7 10 [AV.ro 4 yn p6 pu] = gkit_LentJoints qe fuel yn p6 pu := by kernel_rfl
noncomputable def mkit_LentJoints (qe : Mo) (fuel : Nat) (xs : List AV) : Option AV := match xs with
  | [AV.ro 4 yn p6 pu] => gkit_LentJoints qe fuel yn p6 pu
  | _ => none
abbrev Rkit_LentJoints : List RS := [RS.one (LK.l (nat_lit 4))]
theorem gkit_LentJoints_sm (qe : Mo) (fuel : Nat) (hΓ : GamOk Pr (Gkit_LentJoints qe)) (hP : NamesOk Pr) : SmOk Pr 10 (smM Rkit_LentJoints (mkit_LentJoints qe fuel)) := by
  refine smM_ok (fuel := fuel) hΓ hP (LamOk.of 6 10 (Lkit_LentJoints qe fuel) 1 (by kernel_rfl) (fun i hi => ?_)) 7 10 Rkit_LentJoints _ (fun xs v h => ?_)
  · match i, hi with
    | 0, _ => exact gkit_LentJoints_L0 qe fuel
    | i + 1, hi => exact absurd hi (by omega)
  · unfold mkit_LentJoints at h
    split at h
    · exact (gkit_LentJoints_run qe fuel _ _ _).trans h
    · cases h
noncomputable def Lkit_markMember (w8 : Mo) (fuel : Nat) : Lam AV := []
noncomputable def Gkit_markMember (w8 : Mo) : Gam := [(49, smM [RS.one LK.s] w8)]
noncomputable def Ckit_markMember (w8 : Mo) (fuel : Nat) : CallI AV := callX (Gkit_markMember w8) (execFn Pr (Gkit_markMember w8) [((6, 27), Lkit_markMember w8 fuel)] fuel 6)
noncomputable def gkit_markMember (w8 : Mo) (fuel : Nat) (uk0 ui1 : Int) : Option AV :=
  ck (okM [RS.one LK.s] (w8 [AV.int .i64 uk0, AV.int .i64 ui1])) <| some (AV.agg [AV.str (toS (getV (w8 [AV.int .i64 uk0, AV.int .i64 ui1]))), AV.int .u8 0, AV.int .i64 0, AV.int .i64 0, AV.bool false, AV.bool false, AV.flt .f64 (some 0), AV.flt .f64 (some 0), AV.flt .f64 (some 0)])
theorem gkit_markMember_run (w8 : Mo) (fuel : Nat) (uk0 ui1 : Int) : run Pr (Gkit_markMember w8) [((6, 27), Lkit_markMember w8 fuel)] fuel 7 27 [AV.int .i64 uk0, AV.int .i64 ui1] = gkit_markMember w8 fuel uk0 ui1 := by kernel_rfl
noncomputable def mkit_markMember (w8 : Mo) (fuel : Nat) (xs : List AV) : Option AV := match xs with
  | [AV.int .i64 uk0, AV.int .i64 ui1] => gkit_markMember w8 fuel uk0 ui1
  | _ => none
abbrev Rkit_markMember : List RS := [RS.agg [LK.s, LK.i .u8, LK.i .i64, LK.i .i64, LK.b, LK.b, LK.f .f64, LK.f .f64, LK.f .f64]]
theorem gkit_markMember_sm (w8 : Mo) (fuel : Nat) (hΓ : GamOk Pr (Gkit_markMember w8)) (hP : NamesOk Pr) : SmOk Pr 27 (smM Rkit_markMember (mkit_markMember w8 fuel)) := by
  refine smM_ok (fuel := fuel) hΓ hP (LamOk.of 6 27 (Lkit_markMember w8 fuel) 0 (by kernel_rfl) (fun i hi => ?_)) 7 27 Rkit_markMember _ (fun xs v h => ?_)
  · match i, hi with
    | i + 0, hi => exact absurd hi (by omega)
  · unfold mkit_markMember at h
    split at h
    · exact (gkit_markMember_run w8 fuel _ _).trans h
    · cases h
noncomputable def Skit_LentMembers_0 (vr vv : Nat) (vf : Ge) (pn pt pw : Nat) (ui4 : Int) (h0z : List AV) (h0e : List (List AV)) : St := { env := [(0, AV.ro 9 vr vv vf), (3, AV.own 0 pn 9 pt pw), (4, AV.int .i64 ui4)], h := [Blk.fx 9 h0z h0e], kd := [] }
noncomputable def Xkit_LentMembers_0_0 (qdh qdi : Nat) (qda : Ge) (qed qee qei : Nat) (qhe : List AV) (qg3 : List (List AV)) : St := { env := [(0, AV.ro 9 qdh qdi qda), (3, AV.own 0 qed 9 qee qei)], h := [Blk.fx 9 qhe qg3], kd := [] }
noncomputable def gkit_LentMembers_l0_step (qc : Mo) (fuel : Nat) (kn : Nat → Int → List (List AV) → Option AV) (kx0 : Nat → Nat → (Ge) → Nat → Nat → Nat → List AV → List (List AV) → Option AV) (vr vv : Nat) (vf : Ge) (pn pw : Nat) (h0z : List AV) (pt : Nat) (ui4 : Int) (h0e : List (List AV)) : Option AV :=
  bif decide (ui4 < 12) then let r0 : Option AV := qc [AV.int .i64 1, AV.int .i64 ui4]; ck (okM [RS.agg [LK.s, LK.i .u8, LK.i .i64, LK.i .i64, LK.b, LK.b, LK.f .f64, LK.f .f64, LK.f .f64]] r0) <| ck (decide (pt + 1 ≤ pw)) <| kn (pt + 1) (IntKind.i64.wrap (ui4 + 1)) (List.take (pn + pt) h0e ++ [[AV.str (toS ((toC (getV r0)).headD AV.dead)), AV.int .u8 (toI ((toC (getV r0)).tail.headD AV.dead)), AV.int .i64 (toI ((toC (getV r0)).tail.tail.headD AV.dead)), AV.int .i64 (toI ((toC (getV r0)).tail.tail.tail.headD AV.dead)), AV.bool (toB ((toC (getV r0)).tail.tail.tail.tail.headD AV.dead)), AV.bool (toB ((toC (getV r0)).tail.tail.tail.tail.tail.headD AV.dead)), AV.flt .f64 (toF ((toC (getV r0)).tail.tail.tail.tail.tail.tail.headD AV.dead)), AV.flt .f64 (toF ((toC (getV r0)).tail.tail.tail.tail.tail.tail.tail.headD AV.dead)), AV.flt .f64 (toF ((toC (getV r0)).tail.tail.tail.tail.tail.tail.tail.tail.headD AV.dead))]] ++ List.drop (pn + pt + 1) h0e)
  else kx0 (vr) (vv) (vf) (pn) (pt) (pw) (h0z) (h0e)
noncomputable def gkit_LentMembers_l0 (qc : Mo) (fuel : Nat) (kx0 : Nat → Nat → (Ge) → Nat → Nat → Nat → List AV → List (List AV) → Option AV) (vr vv : Nat) (vf : Ge) (pn pw : Nat) (h0z : List AV) : Nat → Nat → Int → List (List AV) → Option AV
  | 0, _, _, _ => none
  | n' + 1, pt, ui4, h0e => gkit_LentMembers_l0_step qc fuel (gkit_LentMembers_l0 qc fuel kx0 vr vv vf pn pw h0z n') kx0 vr vv vf pn pw h0z pt ui4 h0e
noncomputable def Tkit_LentMembers_0 : TS' := ⟨[(0, TA.ro 9), (3, TA.own 0 9), (4, TA.i .i64)], [TB.fx 9], []⟩
noncomputable def Fkit_LentMembers_0 (qc : Mo) (fuel : Nat) (ps : List Pay) (K : Ex → St → Option AV) : Option AV := match ps with
  | .n vr :: .n vv :: .g vf :: .n pn :: .n pt :: .n pw :: .i ui4 :: .z h0z :: .e h0e :: [] => gkit_LentMembers_l0 qc fuel (fun qdh qdi qda qed qee qei qhe qg3 => K (Ex.exit 0) (Xkit_LentMembers_0_0 qdh qdi qda qed qee qei qhe qg3)) vr vv vf pn pw h0z fuel pt ui4 h0e
  | _ => none
noncomputable def Lkit_LentMembers (qc : Mo) (fuel : Nat) : Lam AV := [(2093080, lam Tkit_LentMembers_0 (Fkit_LentMembers_0 qc fuel))]
noncomputable def Gkit_LentMembers (qc : Mo) : Gam := [(27, smM [RS.agg [LK.s, LK.i .u8, LK.i .i64, LK.i .i64, LK.b, LK.b, LK.f .f64, LK.f .f64, LK.f .f64]] qc)]
noncomputable def Ckit_LentMembers (qc : Mo) (fuel : Nat) : CallI AV := callX (Gkit_LentMembers qc) (execFn Pr (Gkit_LentMembers qc) [((6, 11), Lkit_LentMembers qc fuel)] fuel 6)
theorem gkit_LentMembers_l0_eq (qc : Mo) (fuel : Nat) (kn : St → Option AV) (K : Ex → St → Option AV) (vr vv : Nat) (vf : Ge) (pn pw : Nat) (h0z : List AV) (qds : Nat) (qe8 : Int) (qhv : List (List AV)) (pt : Nat) (ui4 : Int) (h0e : List (List AV)) :
    exec Pr (Gkit_LentMembers qc) (Lkit_LentMembers qc fuel) (fnNt Pr 11) fuel (Ckit_LentMembers qc fuel) (lp Pr 11 0).1 (lp Pr 11 0).2 (live (lp Pr 11 0).1 (lp Pr 11 0).2 0) (Skit_LentMembers_0 vr vv vf pn pt pw ui4 h0z h0e) (fun e s => match e with | .normal => kn (headN (live (lp Pr 11 0).1 (lp Pr 11 0).2 0) (writes (lp Pr 11 0).1) (Skit_LentMembers_0 vr vv vf pn qds pw qe8 h0z qhv) s) | e => K e s) =
    gkit_LentMembers_l0_step qc fuel (fun pt ui4 h0e => kn (Skit_LentMembers_0 vr vv vf pn pt pw ui4 h0z h0e)) (fun qbq qdg qc7 qcy xout3n qbx qhb qhf => K (Ex.exit 0) (Xkit_LentMembers_0_0 qbq qdg qc7 qcy xout3n qbx qhb qhf)) vr vv vf pn pw h0z pt ui4 h0e := by kernel_rfl
theorem gkit_LentMembers_l0_ok (qc : Mo) (fuel : Nat) (K : Ex → St → Option AV) (vr vv : Nat) (vf : Ge) (pn pw : Nat) (h0z : List AV) (qds : Nat) (qe8 : Int) (qhv : List (List AV)) : ∀ (n' pt : Nat) (ui4 : Int) (h0e : List (List AV)),
    loopK (exec Pr (Gkit_LentMembers qc) (Lkit_LentMembers qc fuel) (fnNt Pr 11) fuel (Ckit_LentMembers qc fuel) (lp Pr 11 0).1 (lp Pr 11 0).2 (live (lp Pr 11 0).1 (lp Pr 11 0).2 0)) (headN (live (lp Pr 11 0).1 (lp Pr 11 0).2 0) (writes (lp Pr 11 0).1) (Skit_LentMembers_0 vr vv vf pn qds pw qe8 h0z qhv)) n' (Skit_LentMembers_0 vr vv vf pn pt pw ui4 h0z h0e) K = gkit_LentMembers_l0 qc fuel (fun qbq qdg qc7 qcy xout3n qbx qhb qhf => K (Ex.exit 0) (Xkit_LentMembers_0_0 qbq qdg qc7 qcy xout3n qbx qhb qhf)) vr vv vf pn pw h0z n' pt ui4 h0e
  | 0, _, _, _ => rfl
  | n' + 1, pt, ui4, h0e => (gkit_LentMembers_l0_eq qc fuel (fun s => loopK (exec Pr (Gkit_LentMembers qc) (Lkit_LentMembers qc fuel) (fnNt Pr 11) fuel (Ckit_LentMembers qc fuel) (lp Pr 11 0).1 (lp Pr 11 0).2 (live (lp Pr 11 0).1 (lp Pr 11 0).2 0)) (headN (live (lp Pr 11 0).1 (lp Pr 11 0).2 0) (writes (lp Pr 11 0).1) (Skit_LentMembers_0 vr vv vf pn qds pw qe8 h0z qhv)) n' s K) K vr vv vf pn pw h0z qds qe8 qhv pt ui4 h0e).trans
    (congrArg (fun kn => gkit_LentMembers_l0_step qc fuel kn (fun qbq qdg qc7 qcy xout3n qbx qhb qhf => K (Ex.exit 0) (Xkit_LentMembers_0_0 qbq qdg qc7 qcy xout3n qbx qhb qhf)) vr vv vf pn pw h0z pt ui4 h0e) (funext fun _ => funext fun _ => funext fun _ => gkit_LentMembers_l0_ok qc fuel K vr vv vf pn pw h0z qds qe8 qhv n' _ _ _))
theorem gkit_LentMembers_L0 (qc : Mo) (fuel : Nat) : LOk Pr (Gkit_LentMembers qc) (Lkit_LentMembers qc fuel) (fnNt Pr 11) fuel (Ckit_LentMembers qc fuel) (lp Pr 11 0) := by
  refine .of Tkit_LentMembers_0 (Fkit_LentMembers_0 qc fuel) (fun L h => ?_) (fun ps st K r he hr => ?_)
  · have e : (Lkit_LentMembers qc fuel).get (writes (lp Pr 11 0).1) = some (lam Tkit_LentMembers_0 (Fkit_LentMembers_0 qc fuel)) := by kernel_rfl
    exact (Option.some.inj (e.symm.trans h)).symm
  · unfold Fkit_LentMembers_0 at hr
    split at hr
    · obtain rfl := (Option.some.inj he).symm
      exact (gkit_LentMembers_l0_ok qc fuel K _ _ _ _ _ _ _ _ _ fuel _ _ _).trans hr
    · cases hr
noncomputable def gkit_LentMembers (qc : Mo) (fuel yn p6 : Nat) (pu : Ge) : Option AV :=
  ck (decide (0 ≤ IntKind.i64.wrap ((↑yn : Int) + 12))) <| ck ((72 * (IntKind.i64.wrap ((↑yn : Int) + 12)).toNat).ble 281474976710656) <| ck (((IntKind.i64.wrap ((↑yn : Int) + 12)).toNat + 1).ble 4611686018427387904) <| ck (decide (0 + yn ≤ (IntKind.i64.wrap ((↑yn : Int) + 12)).toNat)) <| gkit_LentMembers_l0 qc fuel
    (fun (qbq _ : Nat) (_ : Ge) (qcy _ qbx : Nat) (qhb : List AV) (qhf : List (List AV)) => ck (decide (0 < qbx)) <| ck (decide (0 ≤ (↑qbq : Int))) <| ck (decide ((↑qbq : Int) ≤ (↑qbx : Int))) <| some (AV.ro 9 ((↑qbq : Int).toNat - 0) (qbx - 0) fun (i j : Nat) => (qhf.getD (qcy + 0 + i) qhb).getD j AV.dead))
    (yn)
    (p6)
    (pu)
    (0)
    ((IntKind.i64.wrap ((↑yn : Int) + 12)).toNat)
    ([AV.str { data := #[] }, AV.int .u8 0, AV.int .i64 0, AV.int .i64 0, AV.bool false, AV.bool false, AV.flt .f64 (some 0), AV.flt .f64 (some 0), AV.flt .f64 (some 0)]) fuel (0 + yn) (0) ([] ++ rows 9 yn pu ++ List.drop (0 + yn) (List.replicate (IntKind.i64.wrap ((↑yn : Int) + 12)).toNat [AV.str { data := #[] }, AV.int .u8 0, AV.int .i64 0, AV.int .i64 0, AV.bool false, AV.bool false, AV.flt .f64 (some 0), AV.flt .f64 (some 0), AV.flt .f64 (some 0)]))
theorem gkit_LentMembers_run (qc : Mo) (fuel yn p6 : Nat) (pu : Ge) : run Pr (Gkit_LentMembers qc) [((6, 11), Lkit_LentMembers qc fuel)] fuel 7 11 [AV.ro 9 yn p6 pu] = gkit_LentMembers qc fuel yn p6 pu := by kernel_rfl
noncomputable def mkit_LentMembers (qc : Mo) (fuel : Nat) (xs : List AV) : Option AV := match xs with
  | [AV.ro 9 yn p6 pu] => gkit_LentMembers qc fuel yn p6 pu
  | _ => none
abbrev Rkit_LentMembers : List RS := [RS.one (LK.l (nat_lit 9))]
theorem gkit_LentMembers_sm (qc : Mo) (fuel : Nat) (hΓ : GamOk Pr (Gkit_LentMembers qc)) (hP : NamesOk Pr) : SmOk Pr 11 (smM Rkit_LentMembers (mkit_LentMembers qc fuel)) := by
  refine smM_ok (fuel := fuel) hΓ hP (LamOk.of 6 11 (Lkit_LentMembers qc fuel) 1 (by kernel_rfl) (fun i hi => ?_)) 7 11 Rkit_LentMembers _ (fun xs v h => ?_)
  · match i, hi with
    | 0, _ => exact gkit_LentMembers_L0 qc fuel
    | i + 1, hi => exact absurd hi (by omega)
  · unfold mkit_LentMembers at h
    split at h
    · exact (gkit_LentMembers_run qc fuel _ _ _).trans h
    · cases h
noncomputable def Lkit_LentPlan (vq vl : Mo) (fuel : Nat) : Lam AV := []
noncomputable def Gkit_LentPlan (vq vl : Mo) : Gam := [(10, smM [RS.one (LK.l (nat_lit 4))] vq), (11, smM [RS.one (LK.l (nat_lit 9))] vl)]
noncomputable def Ckit_LentPlan (vq vl : Mo) (fuel : Nat) : CallI AV := callX (Gkit_LentPlan vq vl) (execFn Pr (Gkit_LentPlan vq vl) [((6, 4), Lkit_LentPlan vq vl fuel)] fuel 6)
noncomputable def gkit_LentPlan (vq vl : Mo) (fuel qag qai : Nat) (qaj : Ge) (qav qap : Nat) (qaw : Ge) : Option AV :=
  let r0 : Option AV := vq [AV.ro 4 qag qai qaj]; ck (okM [RS.one (LK.l 4)] r0) <| let r1 : Option AV := vl [AV.ro 9 qav qap qaw]; ck (okM [RS.one (LK.l 9)] r1) <| some (AV.agg [AV.ro 4 (toN (getV r0)) (toR (getV r0)) (toG (getV r0)), AV.ro 9 (toN (getV r1)) (toR (getV r1)) (toG (getV r1))])
theorem gkit_LentPlan_run (vq vl : Mo) (fuel qag qai : Nat) (qaj : Ge) (qav qap : Nat) (qaw : Ge) : run Pr (Gkit_LentPlan vq vl) [((6, 4), Lkit_LentPlan vq vl fuel)] fuel 7 4 [AV.agg [AV.ro 4 qag qai qaj, AV.ro 9 qav qap qaw]] = gkit_LentPlan vq vl fuel qag qai qaj qav qap qaw := by kernel_rfl
noncomputable def mkit_LentPlan (vq vl : Mo) (fuel : Nat) (xs : List AV) : Option AV := match xs with
  | [AV.agg [AV.ro 4 qag qai qaj, AV.ro 9 qav qap qaw]] => gkit_LentPlan vq vl fuel qag qai qaj qav qap qaw
  | _ => none
abbrev Rkit_LentPlan : List RS := [RS.agg [LK.l (nat_lit 4), LK.l (nat_lit 9)]]
theorem gkit_LentPlan_sm (vq vl : Mo) (fuel : Nat) (hΓ : GamOk Pr (Gkit_LentPlan vq vl)) (hP : NamesOk Pr) : SmOk Pr 4 (smM Rkit_LentPlan (mkit_LentPlan vq vl fuel)) := by
  refine smM_ok (fuel := fuel) hΓ hP (LamOk.of 6 4 (Lkit_LentPlan vq vl fuel) 0 (by kernel_rfl) (fun i hi => ?_)) 7 4 Rkit_LentPlan _ (fun xs v h => ?_)
  · match i, hi with
    | i + 0, hi => exact absurd hi (by omega)
  · unfold mkit_LentPlan at h
    split at h
    · exact (gkit_LentPlan_run vq vl fuel _ _ _ _ _ _).trans h
    · cases h
noncomputable def Sjoints_named_0 (h0s : ByteArray) (h0p : Nat) : St := { env := [(13, AV.ptr 0 0)], h := [Blk.it h0s h0p], kd := [] }
noncomputable def Xjoints_named_0_0 (pf : Bool) (qjz : ByteArray) (qkq : Nat) : St := { env := [(2, AV.bool pf)], h := [Blk.it qjz qkq], kd := [] }
noncomputable def Xjoints_named_0_1 (qj9 : ByteArray) (qj7 : Nat) : St := { env := [], h := [Blk.it qj9 qj7], kd := [] }
noncomputable def gjoints_named_l0_step (fuel : Nat) (kn : Nat → Option AV) (kx0 : Bool → ByteArray → Nat → Option AV) (kx1 : ByteArray → Nat → Option AV) (h0s : ByteArray) (h0p : Nat) : Option AV :=
  bif h0p.blt h0s.size then bif bif decide ((↑(Utf8.decode h0s h0p).fst : Int) ≥ 97) then decide ((↑(Utf8.decode h0s h0p).fst : Int) ≤ 122) else false then kn (h0p + (Utf8.decode h0s h0p).snd)
    else bif bif bif decide ((↑(Utf8.decode h0s h0p).fst : Int) ≥ 48) then decide ((↑(Utf8.decode h0s h0p).fst : Int) ≤ 57) else false then decide ((↑h0p : Int) > 0) else false then kn (h0p + (Utf8.decode h0s h0p).snd)
    else kx0 (false) (h0s) (h0p + (Utf8.decode h0s h0p).snd)
  else kx1 (h0s) (h0p)
noncomputable def gjoints_named_l0 (fuel : Nat) (kx0 : Bool → ByteArray → Nat → Option AV) (kx1 : ByteArray → Nat → Option AV) (h0s : ByteArray) : Nat → Nat → Option AV
  | 0, _ => none
  | n' + 1, h0p => gjoints_named_l0_step fuel (gjoints_named_l0 fuel kx0 kx1 h0s n') kx0 kx1 h0s h0p
noncomputable def Tjoints_named_0 : TS' := ⟨[(13, TA.ptr 0 0)], [TB.it], []⟩
noncomputable def Fjoints_named_0 (fuel : Nat) (ps : List Pay) (K : Ex → St → Option AV) : Option AV := match ps with
  | .s h0s :: .n h0p :: [] => gjoints_named_l0 fuel (fun pf qjz qkq => K (Ex.ret) (Xjoints_named_0_0 pf qjz qkq)) (fun qj9 qj7 => K (Ex.exit 0) (Xjoints_named_0_1 qj9 qj7)) h0s fuel h0p
  | _ => none
noncomputable def Ljoints_named (fuel : Nat) : Lam AV := [(68719460380, lam Tjoints_named_0 (Fjoints_named_0 fuel))]
noncomputable def Gjoints_named : Gam := []
noncomputable def Cjoints_named (fuel : Nat) : CallI AV := callX (Gjoints_named) (execFn Pr (Gjoints_named) [((6, 50), Ljoints_named fuel)] fuel 6)
theorem gjoints_named_l0_eq (fuel : Nat) (kn : St → Option AV) (K : Ex → St → Option AV) (h0s : ByteArray) (qk4 h0p : Nat) :
    exec Pr (Gjoints_named) (Ljoints_named fuel) (fnNt Pr 50) fuel (Cjoints_named fuel) (lp Pr 50 0).1 (lp Pr 50 0).2 (live (lp Pr 50 0).1 (lp Pr 50 0).2 0) (Sjoints_named_0 h0s h0p) (fun e s => match e with | .normal => kn (headN (live (lp Pr 50 0).1 (lp Pr 50 0).2 0) (writes (lp Pr 50 0).1) (Sjoints_named_0 h0s qk4) s) | e => K e s) =
    gjoints_named_l0_step fuel (fun h0p => kn (Sjoints_named_0 h0s h0p)) (fun xu2 xh0s xh0p => K (Ex.ret) (Xjoints_named_0_0 xu2 xh0s xh0p)) (fun xh0s xh0p => K (Ex.exit 0) (Xjoints_named_0_1 xh0s xh0p)) h0s h0p := by kernel_rfl
theorem gjoints_named_l0_ok (fuel : Nat) (K : Ex → St → Option AV) (h0s : ByteArray) (qk4 : Nat) : ∀ (n' h0p : Nat),
    loopK (exec Pr (Gjoints_named) (Ljoints_named fuel) (fnNt Pr 50) fuel (Cjoints_named fuel) (lp Pr 50 0).1 (lp Pr 50 0).2 (live (lp Pr 50 0).1 (lp Pr 50 0).2 0)) (headN (live (lp Pr 50 0).1 (lp Pr 50 0).2 0) (writes (lp Pr 50 0).1) (Sjoints_named_0 h0s qk4)) n' (Sjoints_named_0 h0s h0p) K = gjoints_named_l0 fuel (fun xu2 xh0s xh0p => K (Ex.ret) (Xjoints_named_0_0 xu2 xh0s xh0p)) (fun xh0s xh0p => K (Ex.exit 0) (Xjoints_named_0_1 xh0s xh0p)) h0s n' h0p
  | 0, _ => rfl
  | n' + 1, h0p => (gjoints_named_l0_eq fuel (fun s => loopK (exec Pr (Gjoints_named) (Ljoints_named fuel) (fnNt Pr 50) fuel (Cjoints_named fuel) (lp Pr 50 0).1 (lp Pr 50 0).2 (live (lp Pr 50 0).1 (lp Pr 50 0).2 0)) (headN (live (lp Pr 50 0).1 (lp Pr 50 0).2 0) (writes (lp Pr 50 0).1) (Sjoints_named_0 h0s qk4)) n' s K) K h0s qk4 h0p).trans
    (congrArg (fun kn => gjoints_named_l0_step fuel kn (fun xu2 xh0s xh0p => K (Ex.ret) (Xjoints_named_0_0 xu2 xh0s xh0p)) (fun xh0s xh0p => K (Ex.exit 0) (Xjoints_named_0_1 xh0s xh0p)) h0s h0p) (funext fun _ => gjoints_named_l0_ok fuel K h0s qk4 n' _))
theorem gjoints_named_L0 (fuel : Nat) : LOk Pr (Gjoints_named) (Ljoints_named fuel) (fnNt Pr 50) fuel (Cjoints_named fuel) (lp Pr 50 0) := by
  refine .of Tjoints_named_0 (Fjoints_named_0 fuel) (fun L h => ?_) (fun ps st K r he hr => ?_)
  · have e : (Ljoints_named fuel).get (writes (lp Pr 50 0).1) = some (lam Tjoints_named_0 (Fjoints_named_0 fuel)) := by kernel_rfl
    exact (Option.some.inj (e.symm.trans h)).symm
  · unfold Fjoints_named_0 at hr
    split at hr
    · obtain rfl := (Option.some.inj he).symm
      exact (gjoints_named_l0_ok fuel K _ _ fuel _).trans hr
    · cases hr
noncomputable def gjoints_named (fuel : Nat) (us0 : ByteArray) : Option AV :=
  bif bif strEq us0 { data := #[] } then true else decide ((↑us0.size : Int) > 8) then some (AV.bool false)
  else gjoints_named_l0 fuel
    (fun (xu2 : Bool) (_ : ByteArray) (_ : Nat) => some (AV.bool xu2))
    (fun (_ : ByteArray) (_ : Nat) => some (AV.bool true))
    (us0) fuel (0)
theorem gjoints_named_run (fuel : Nat) (us0 : ByteArray) : run Pr (Gjoints_named) [((6, 50), Ljoints_named fuel)] fuel 7 50 [AV.str us0] = gjoints_named fuel us0 := by kernel_rfl
noncomputable def mjoints_named (fuel : Nat) (xs : List AV) : Option AV := match xs with
  | [AV.str us0] => gjoints_named fuel us0
  | _ => none
abbrev Rjoints_named : List RS := [RS.one LK.b]
theorem gjoints_named_sm (fuel : Nat) (hΓ : GamOk Pr (Gjoints_named)) (hP : NamesOk Pr) : SmOk Pr 50 (smM Rjoints_named (mjoints_named fuel)) := by
  refine smM_ok (fuel := fuel) hΓ hP (LamOk.of 6 50 (Ljoints_named fuel) 1 (by kernel_rfl) (fun i hi => ?_)) 7 50 Rjoints_named _ (fun xs v h => ?_)
  · match i, hi with
    | 0, _ => exact gjoints_named_L0 fuel
    | i + 1, hi => exact absurd hi (by omega)
  · unfold mjoints_named at h
    split at h
    · exact (gjoints_named_run fuel _).trans h
    · cases h
noncomputable def Sjoints_near_0 (u5n u5r : Nat) (u5g : Ge) (u6 u7 : Int) : St := { env := [(5, AV.ro 1 u5n u5r u5g), (6, AV.int .i64 u6), (7, AV.int .i64 u7)], h := [], kd := [] }
noncomputable def Xjoints_near_0_0 (pf : Bool) : St := { env := [(2, AV.bool pf)], h := [], kd := [] }
noncomputable def Xjoints_near_0_1 : St := { env := [], h := [], kd := [] }
noncomputable def gjoints_near_l0_step (fuel : Nat) (kn : Int → Option AV) (kx0 : Bool → Option AV) (kx1 : Option AV) (u5n u5r : Nat) (u5g : Ge) (u6 u7 : Int) : Option AV :=
  bif decide (u7 < u6) then ck (decide (0 ≤ u7)) <| ck (decide (u7 < (↑u5n : Int))) <| ck (fitK (LK.i .i32) (u5g u7.toNat 0)) <| bif bif decide (toI (u5g u7.toNat 0) < (-1048576)) then true else decide (toI (u5g u7.toNat 0) > 1048576) then kx0 (false)
    else kn (IntKind.i64.wrap (u7 + 1))
  else kx1
noncomputable def gjoints_near_l0 (fuel : Nat) (kx0 : Bool → Option AV) (kx1 : Option AV) (u5n u5r : Nat) (u5g : Ge) (u6 : Int) : Nat → Int → Option AV
  | 0, _ => none
  | n' + 1, u7 => gjoints_near_l0_step fuel (gjoints_near_l0 fuel kx0 kx1 u5n u5r u5g u6 n') kx0 kx1 u5n u5r u5g u6 u7
noncomputable def Tjoints_near_0 : TS' := ⟨[(5, TA.ro 1), (6, TA.i .i64), (7, TA.i .i64)], [], []⟩
noncomputable def Fjoints_near_0 (fuel : Nat) (ps : List Pay) (K : Ex → St → Option AV) : Option AV := match ps with
  | .n u5n :: .n u5r :: .g u5g :: .i u6 :: .i u7 :: [] => gjoints_near_l0 fuel (fun pf => K (Ex.ret) (Xjoints_near_0_0 pf)) (K (Ex.exit 0) Xjoints_near_0_1) u5n u5r u5g u6 fuel u7
  | _ => none
noncomputable def Ljoints_near (fuel : Nat) : Lam AV := [(262036, lam Tjoints_near_0 (Fjoints_near_0 fuel))]
noncomputable def Gjoints_near : Gam := []
noncomputable def Cjoints_near (fuel : Nat) : CallI AV := callX (Gjoints_near) (execFn Pr (Gjoints_near) [((6, 51), Ljoints_near fuel)] fuel 6)
theorem gjoints_near_l0_eq (fuel : Nat) (kn : St → Option AV) (K : Ex → St → Option AV) (u5n u5r : Nat) (u5g : Ge) (u6 u70 u7 : Int) :
    exec Pr (Gjoints_near) (Ljoints_near fuel) (fnNt Pr 51) fuel (Cjoints_near fuel) (lp Pr 51 0).1 (lp Pr 51 0).2 (live (lp Pr 51 0).1 (lp Pr 51 0).2 0) (Sjoints_near_0 u5n u5r u5g u6 u7) (fun e s => match e with | .normal => kn (headN (live (lp Pr 51 0).1 (lp Pr 51 0).2 0) (writes (lp Pr 51 0).1) (Sjoints_near_0 u5n u5r u5g u6 u70) s) | e => K e s) =
    gjoints_near_l0_step fuel (fun u7 => kn (Sjoints_near_0 u5n u5r u5g u6 u7)) (fun xu2 => K (Ex.ret) (Xjoints_near_0_0 xu2)) (K (Ex.exit 0) Xjoints_near_0_1) u5n u5r u5g u6 u7 := by kernel_rfl
theorem gjoints_near_l0_ok (fuel : Nat) (K : Ex → St → Option AV) (u5n u5r : Nat) (u5g : Ge) (u6 u70 : Int) : ∀ (n' : Nat) (u7 : Int),
    loopK (exec Pr (Gjoints_near) (Ljoints_near fuel) (fnNt Pr 51) fuel (Cjoints_near fuel) (lp Pr 51 0).1 (lp Pr 51 0).2 (live (lp Pr 51 0).1 (lp Pr 51 0).2 0)) (headN (live (lp Pr 51 0).1 (lp Pr 51 0).2 0) (writes (lp Pr 51 0).1) (Sjoints_near_0 u5n u5r u5g u6 u70)) n' (Sjoints_near_0 u5n u5r u5g u6 u7) K = gjoints_near_l0 fuel (fun xu2 => K (Ex.ret) (Xjoints_near_0_0 xu2)) (K (Ex.exit 0) Xjoints_near_0_1) u5n u5r u5g u6 n' u7
  | 0, _ => rfl
  | n' + 1, u7 => (gjoints_near_l0_eq fuel (fun s => loopK (exec Pr (Gjoints_near) (Ljoints_near fuel) (fnNt Pr 51) fuel (Cjoints_near fuel) (lp Pr 51 0).1 (lp Pr 51 0).2 (live (lp Pr 51 0).1 (lp Pr 51 0).2 0)) (headN (live (lp Pr 51 0).1 (lp Pr 51 0).2 0) (writes (lp Pr 51 0).1) (Sjoints_near_0 u5n u5r u5g u6 u70)) n' s K) K u5n u5r u5g u6 u70 u7).trans
    (congrArg (fun kn => gjoints_near_l0_step fuel kn (fun xu2 => K (Ex.ret) (Xjoints_near_0_0 xu2)) (K (Ex.exit 0) Xjoints_near_0_1) u5n u5r u5g u6 u7) (funext fun _ => gjoints_near_l0_ok fuel K u5n u5r u5g u6 u70 n' _))
theorem gjoints_near_L0 (fuel : Nat) : LOk Pr (Gjoints_near) (Ljoints_near fuel) (fnNt Pr 51) fuel (Cjoints_near fuel) (lp Pr 51 0) := by
  refine .of Tjoints_near_0 (Fjoints_near_0 fuel) (fun L h => ?_) (fun ps st K r he hr => ?_)
  · have e : (Ljoints_near fuel).get (writes (lp Pr 51 0).1) = some (lam Tjoints_near_0 (Fjoints_near_0 fuel)) := by kernel_rfl
    exact (Option.some.inj (e.symm.trans h)).symm
  · unfold Fjoints_near_0 at hr
    split at hr
    · obtain rfl := (Option.some.inj he).symm
      exact (gjoints_near_l0_ok fuel K _ _ _ _ _ fuel _).trans hr
    · cases hr
noncomputable def gjoints_near (fuel yn p6 : Nat) (pu : Ge) : Option AV :=
  gjoints_near_l0 fuel
    (fun (xu2 : Bool) => some (AV.bool xu2))
    (some (AV.bool true))
    (yn)
    (p6)
    (pu)
    ((↑yn : Int)) fuel (0)
theorem gjoints_near_run (fuel yn p6 : Nat) (pu : Ge) : run Pr (Gjoints_near) [((6, 51), Ljoints_near fuel)] fuel 7 51 [AV.ro 1 yn p6 pu] = gjoints_near fuel yn p6 pu := by kernel_rfl
noncomputable def mjoints_near (fuel : Nat) (xs : List AV) : Option AV := match xs with
  | [AV.ro 1 yn p6 pu] => gjoints_near fuel yn p6 pu
  | _ => none
abbrev Rjoints_near : List RS := [RS.one LK.b]
theorem gjoints_near_sm (fuel : Nat) (hΓ : GamOk Pr (Gjoints_near)) (hP : NamesOk Pr) : SmOk Pr 51 (smM Rjoints_near (mjoints_near fuel)) := by
  refine smM_ok (fuel := fuel) hΓ hP (LamOk.of 6 51 (Ljoints_near fuel) 1 (by kernel_rfl) (fun i hi => ?_)) 7 51 Rjoints_near _ (fun xs v h => ?_)
  · match i, hi with
    | 0, _ => exact gjoints_near_L0 fuel
    | i + 1, hi => exact absurd hi (by omega)
  · unfold mjoints_near at h
    split at h
    · exact (gjoints_near_run fuel _ _ _).trans h
    · cases h
noncomputable def Sjoints_Check_0 (qbg qbn : Nat) (vy : Ge) (u18 u19 : Int) (h0m h1m : List (AV × AV)) : St := { env := [(4, AV.mp 0), (5, AV.mp 1), (17, AV.ro 4 qbg qbn vy), (18, AV.int .i64 u18), (19, AV.int .i64 u19)], h := [Blk.mp h0m, Blk.mp h1m], kd := [] }
noncomputable def Xjoints_Check_0_0 (pf qfi : Int) (qkv qku : List (AV × AV)) (qb2 : ByteArray) (qbz qb0 qby : Int) : St := { env := [(2, AV.int .i64 pf), (3, AV.int .i64 qfi)], h := [Blk.mp qkv, Blk.mp qku, Blk.box [AV.str qb2, AV.int .i32 qbz, AV.int .i32 qb0, AV.int .u8 qby]], kd := [] }
noncomputable def Xjoints_Check_0_1 (qju qki : List (AV × AV)) : St := { env := [], h := [Blk.mp qju, Blk.mp qki], kd := [] }
noncomputable def gjoints_Check_l0_step (q6 qu : Mo) (fuel : Nat) (kn : Int → List (AV × AV) → List (AV × AV) → Option AV) (kx0 : Int → Int → List (AV × AV) → List (AV × AV) → ByteArray → Int → Int → Int → Option AV) (kx1 : List (AV × AV) → List (AV × AV) → Option AV) (qbg qbn : Nat) (vy : Ge) (u18 u19 : Int) (h0m h1m : List (AV × AV)) : Option AV :=
  bif decide (u19 < u18) then ck (decide (0 ≤ u19)) <| ck (decide (u19 < (↑qbg : Int))) <| ck (fitKs [LK.s, LK.i .i32, LK.i .i32, LK.i .u8] [vy u19.toNat 0, vy u19.toNat 1, vy u19.toNat 2, vy u19.toNat 3]) <| ck (keyOk Tryz.prog 9 (AV.str (toS (vy u19.toNat 0)))) <| ck (mapFit Tryz.prog 9 (AV.str (toS (vy u19.toNat 0))) h0m) <| ck (fit1 Tryz.prog 3 ((findM Tryz.prog 9 (AV.str (toS (vy u19.toNat 0))) h0m).getD (AV.int .i64 0))) <| ck (keyOk Tryz.prog 91 (AV.agg [AV.int .i32 (toI (vy u19.toNat 1)), AV.int .i32 (toI (vy u19.toNat 2))])) <| ck (mapFit Tryz.prog 91 (AV.agg [AV.int .i32 (toI (vy u19.toNat 1)), AV.int .i32 (toI (vy u19.toNat 2))]) h1m) <| ck (fit1 Tryz.prog 3 ((findM Tryz.prog 91 (AV.agg [AV.int .i32 (toI (vy u19.toNat 1)), AV.int .i32 (toI (vy u19.toNat 2))]) h1m).getD (AV.int .i64 0))) <| ck (bif !bif (findM Tryz.prog 9 (AV.str (toS (vy u19.toNat 0))) h0m).isSome then true else (findM Tryz.prog 91 (AV.agg [AV.int .i32 (toI (vy u19.toNat 1)), AV.int .i32 (toI (vy u19.toNat 2))]) h1m).isSome then true else true) <| ck (bif !bif (findM Tryz.prog 9 (AV.str (toS (vy u19.toNat 0))) h0m).isSome then true else (findM Tryz.prog 91 (AV.agg [AV.int .i32 (toI (vy u19.toNat 1)), AV.int .i32 (toI (vy u19.toNat 2))]) h1m).isSome then okM [RS.one LK.b] (q6 [AV.str (toS (vy u19.toNat 0))]) else true) <| ck (bif !bif bif (findM Tryz.prog 9 (AV.str (toS (vy u19.toNat 0))) h0m).isSome then true else (findM Tryz.prog 91 (AV.agg [AV.int .i32 (toI (vy u19.toNat 1)), AV.int .i32 (toI (vy u19.toNat 2))]) h1m).isSome then true else !toB (getV (q6 [AV.str (toS (vy u19.toNat 0))])) then true else true) <| ck (bif !bif bif (findM Tryz.prog 9 (AV.str (toS (vy u19.toNat 0))) h0m).isSome then true else (findM Tryz.prog 91 (AV.agg [AV.int .i32 (toI (vy u19.toNat 1)), AV.int .i32 (toI (vy u19.toNat 2))]) h1m).isSome then true else !toB (getV (q6 [AV.str (toS (vy u19.toNat 0))])) then true else true) <| ck (bif !bif bif (findM Tryz.prog 9 (AV.str (toS (vy u19.toNat 0))) h0m).isSome then true else (findM Tryz.prog 91 (AV.agg [AV.int .i32 (toI (vy u19.toNat 1)), AV.int .i32 (toI (vy u19.toNat 2))]) h1m).isSome then true else !toB (getV (q6 [AV.str (toS (vy u19.toNat 0))])) then okM [RS.one LK.b] (qu [AV.ro 1 2 2 fun (i j : Nat) => ([[AV.int .i32 (toI (vy u19.toNat 1))], [AV.int .i32 (toI (vy u19.toNat 2))]].getD i []).getD j AV.dead]) else true) <| ck (bif !bif bif bif (findM Tryz.prog 9 (AV.str (toS (vy u19.toNat 0))) h0m).isSome then true else (findM Tryz.prog 91 (AV.agg [AV.int .i32 (toI (vy u19.toNat 1)), AV.int .i32 (toI (vy u19.toNat 2))]) h1m).isSome then true else !toB (getV (q6 [AV.str (toS (vy u19.toNat 0))])) then true else !toB (getV (qu [AV.ro 1 2 2 fun (i j : Nat) => ([[AV.int .i32 (toI (vy u19.toNat 1))], [AV.int .i32 (toI (vy u19.toNat 2))]].getD i []).getD j AV.dead])) then true else true) <| bif bif bif bif bif (findM Tryz.prog 9 (AV.str (toS (vy u19.toNat 0))) h0m).isSome then true else (findM Tryz.prog 91 (AV.agg [AV.int .i32 (toI (vy u19.toNat 1)), AV.int .i32 (toI (vy u19.toNat 2))]) h1m).isSome then true else !toB (getV (q6 [AV.str (toS (vy u19.toNat 0))])) then true else !toB (getV (qu [AV.ro 1 2 2 fun (i j : Nat) => ([[AV.int .i32 (toI (vy u19.toNat 1))], [AV.int .i32 (toI (vy u19.toNat 2))]].getD i []).getD j AV.dead])) then true else decide (toI (vy u19.toNat 3) > 7) then kx0 (280) (u19) (h0m) (h1m) (toS (vy u19.toNat 0)) (toI (vy u19.toNat 1)) (toI (vy u19.toNat 2)) (toI (vy u19.toNat 3))
    else ck (keyOk Tryz.prog 9 (AV.str (toS (vy u19.toNat 0)))) <| ck (mapFit Tryz.prog 9 (AV.str (toS (vy u19.toNat 0))) h0m) <| ck (!(findM Tryz.prog 9 (AV.str (toS (vy u19.toNat 0))) h0m).isSome) <| ck (keyOk Tryz.prog 91 (AV.agg [AV.int .i32 (toI (vy u19.toNat 1)), AV.int .i32 (toI (vy u19.toNat 2))])) <| ck (mapFit Tryz.prog 91 (AV.agg [AV.int .i32 (toI (vy u19.toNat 1)), AV.int .i32 (toI (vy u19.toNat 2))]) h1m) <| ck (!(findM Tryz.prog 91 (AV.agg [AV.int .i32 (toI (vy u19.toNat 1)), AV.int .i32 (toI (vy u19.toNat 2))]) h1m).isSome) <| kn (IntKind.i64.wrap (u19 + 1)) (h0m ++ [(AV.str (toS (vy u19.toNat 0)), AV.int .i64 u19)]) (h1m ++ [(AV.agg [AV.int .i32 (toI (vy u19.toNat 1)), AV.int .i32 (toI (vy u19.toNat 2))], AV.int .i64 u19)])
  else kx1 (h0m) (h1m)
noncomputable def gjoints_Check_l0 (q6 qu : Mo) (fuel : Nat) (kx0 : Int → Int → List (AV × AV) → List (AV × AV) → ByteArray → Int → Int → Int → Option AV) (kx1 : List (AV × AV) → List (AV × AV) → Option AV) (qbg qbn : Nat) (vy : Ge) (u18 : Int) : Nat → Int → List (AV × AV) → List (AV × AV) → Option AV
  | 0, _, _, _ => none
  | n' + 1, u19, h0m, h1m => gjoints_Check_l0_step q6 qu fuel (gjoints_Check_l0 q6 qu fuel kx0 kx1 qbg qbn vy u18 n') kx0 kx1 qbg qbn vy u18 u19 h0m h1m
noncomputable def Tjoints_Check_0 : TS' := ⟨[(4, TA.mp 0), (5, TA.mp 1), (17, TA.ro 4), (18, TA.i .i64), (19, TA.i .i64)], [TB.mp, TB.mp], []⟩
noncomputable def Fjoints_Check_0 (q6 qu : Mo) (fuel : Nat) (ps : List Pay) (K : Ex → St → Option AV) : Option AV := match ps with
  | .n qbg :: .n qbn :: .g vy :: .i u18 :: .i u19 :: .m h0m :: .m h1m :: [] => gjoints_Check_l0 q6 qu fuel (fun pf qfi qkv qku qb2 qbz qb0 qby => K (Ex.ret) (Xjoints_Check_0_0 pf qfi qkv qku qb2 qbz qb0 qby)) (fun qju qki => K (Ex.exit 0) (Xjoints_Check_0_1 qju qki)) qbg qbn vy u18 fuel u19 h0m h1m
  | _ => none
noncomputable def Ljoints_Check (q6 qu : Mo) (fuel : Nat) : Lam AV := [(302231454903657293156300, lam Tjoints_Check_0 (Fjoints_Check_0 q6 qu fuel))]
noncomputable def Gjoints_Check (q6 qu : Mo) : Gam := [(50, smM [RS.one LK.b] q6), (51, smM [RS.one LK.b] qu)]
noncomputable def Cjoints_Check (q6 qu : Mo) (fuel : Nat) : CallI AV := callX (Gjoints_Check q6 qu) (execFn Pr (Gjoints_Check q6 qu) [((6, 28), Ljoints_Check q6 qu fuel)] fuel 6)
theorem gjoints_Check_l0_eq (q6 qu : Mo) (fuel : Nat) (kn : St → Option AV) (K : Ex → St → Option AV) (qbg qbn : Nat) (vy : Ge) (u18 qhj : Int) (qk5 qky : List (AV × AV)) (u19 : Int) (h0m h1m : List (AV × AV)) :
    exec Pr (Gjoints_Check q6 qu) (Ljoints_Check q6 qu fuel) (fnNt Pr 28) fuel (Cjoints_Check q6 qu fuel) (lp Pr 28 0).1 (lp Pr 28 0).2 (live (lp Pr 28 0).1 (lp Pr 28 0).2 0) (Sjoints_Check_0 qbg qbn vy u18 u19 h0m h1m) (fun e s => match e with | .normal => kn (headN (live (lp Pr 28 0).1 (lp Pr 28 0).2 0) (writes (lp Pr 28 0).1) (Sjoints_Check_0 qbg qbn vy u18 qhj qk5 qky) s) | e => K e s) =
    gjoints_Check_l0_step q6 qu fuel (fun u19 h0m h1m => kn (Sjoints_Check_0 qbg qbn vy u18 u19 h0m h1m)) (fun xu2 xu3 xh0m xh1m xh2_0 xh2_1 xh2_2 xh2_3 => K (Ex.ret) (Xjoints_Check_0_0 xu2 xu3 xh0m xh1m xh2_0 xh2_1 xh2_2 xh2_3)) (fun xh0m xh1m => K (Ex.exit 0) (Xjoints_Check_0_1 xh0m xh1m)) qbg qbn vy u18 u19 h0m h1m := by kernel_rfl
theorem gjoints_Check_l0_ok (q6 qu : Mo) (fuel : Nat) (K : Ex → St → Option AV) (qbg qbn : Nat) (vy : Ge) (u18 qhj : Int) (qk5 qky : List (AV × AV)) : ∀ (n' : Nat) (u19 : Int) (h0m h1m : List (AV × AV)),
    loopK (exec Pr (Gjoints_Check q6 qu) (Ljoints_Check q6 qu fuel) (fnNt Pr 28) fuel (Cjoints_Check q6 qu fuel) (lp Pr 28 0).1 (lp Pr 28 0).2 (live (lp Pr 28 0).1 (lp Pr 28 0).2 0)) (headN (live (lp Pr 28 0).1 (lp Pr 28 0).2 0) (writes (lp Pr 28 0).1) (Sjoints_Check_0 qbg qbn vy u18 qhj qk5 qky)) n' (Sjoints_Check_0 qbg qbn vy u18 u19 h0m h1m) K = gjoints_Check_l0 q6 qu fuel (fun xu2 xu3 xh0m xh1m xh2_0 xh2_1 xh2_2 xh2_3 => K (Ex.ret) (Xjoints_Check_0_0 xu2 xu3 xh0m xh1m xh2_0 xh2_1 xh2_2 xh2_3)) (fun xh0m xh1m => K (Ex.exit 0) (Xjoints_Check_0_1 xh0m xh1m)) qbg qbn vy u18 n' u19 h0m h1m
  | 0, _, _, _ => rfl
  | n' + 1, u19, h0m, h1m => (gjoints_Check_l0_eq q6 qu fuel (fun s => loopK (exec Pr (Gjoints_Check q6 qu) (Ljoints_Check q6 qu fuel) (fnNt Pr 28) fuel (Cjoints_Check q6 qu fuel) (lp Pr 28 0).1 (lp Pr 28 0).2 (live (lp Pr 28 0).1 (lp Pr 28 0).2 0)) (headN (live (lp Pr 28 0).1 (lp Pr 28 0).2 0) (writes (lp Pr 28 0).1) (Sjoints_Check_0 qbg qbn vy u18 qhj qk5 qky)) n' s K) K qbg qbn vy u18 qhj qk5 qky u19 h0m h1m).trans
    (congrArg (fun kn => gjoints_Check_l0_step q6 qu fuel kn (fun xu2 xu3 xh0m xh1m xh2_0 xh2_1 xh2_2 xh2_3 => K (Ex.ret) (Xjoints_Check_0_0 xu2 xu3 xh0m xh1m xh2_0 xh2_1 xh2_2 xh2_3)) (fun xh0m xh1m => K (Ex.exit 0) (Xjoints_Check_0_1 xh0m xh1m)) qbg qbn vy u18 u19 h0m h1m) (funext fun _ => funext fun _ => funext fun _ => gjoints_Check_l0_ok q6 qu fuel K qbg qbn vy u18 qhj qk5 qky n' _ _ _))
theorem gjoints_Check_L0 (q6 qu : Mo) (fuel : Nat) : LOk Pr (Gjoints_Check q6 qu) (Ljoints_Check q6 qu fuel) (fnNt Pr 28) fuel (Cjoints_Check q6 qu fuel) (lp Pr 28 0) := by
  refine .of Tjoints_Check_0 (Fjoints_Check_0 q6 qu fuel) (fun L h => ?_) (fun ps st K r he hr => ?_)
  · have e : (Ljoints_Check q6 qu fuel).get (writes (lp Pr 28 0).1) = some (lam Tjoints_Check_0 (Fjoints_Check_0 q6 qu fuel)) := by kernel_rfl
    exact (Option.some.inj (e.symm.trans h)).symm
  · unfold Fjoints_Check_0 at hr
    split at hr
    · obtain rfl := (Option.some.inj he).symm
      exact (gjoints_Check_l0_ok q6 qu fuel K _ _ _ _ _ _ _ fuel _ _ _).trans hr
    · cases hr
noncomputable def gjoints_Check (q6 qu : Mo) (fuel yn p6 : Nat) (pu : Ge) : Option AV :=
  bif decide ((↑yn : Int) > 16) then some (AV.tup [AV.int .i64 3, AV.int .i64 0])
  else gjoints_Check_l0 q6 qu fuel
    (fun (xu2 xu3 : Int) (_ _ : List (AV × AV)) (_ : ByteArray) (_ _ _ : Int) => some (AV.tup [AV.int .i64 xu2, AV.int .i64 xu3]))
    (fun (_ _ : List (AV × AV)) => some (AV.tup [AV.int .i64 0, AV.int .i64 0]))
    (yn)
    (p6)
    (pu)
    ((↑yn : Int)) fuel (0) ([]) ([])
theorem gjoints_Check_run (q6 qu : Mo) (fuel yn p6 : Nat) (pu : Ge) : run Pr (Gjoints_Check q6 qu) [((6, 28), Ljoints_Check q6 qu fuel)] fuel 7 28 [AV.ro 4 yn p6 pu] = gjoints_Check q6 qu fuel yn p6 pu := by kernel_rfl
noncomputable def mjoints_Check (q6 qu : Mo) (fuel : Nat) (xs : List AV) : Option AV := match xs with
  | [AV.ro 4 yn p6 pu] => gjoints_Check q6 qu fuel yn p6 pu
  | _ => none
abbrev Rjoints_Check : List RS := [RS.one (LK.i .i64), RS.one (LK.i .i64)]
theorem gjoints_Check_sm (q6 qu : Mo) (fuel : Nat) (hΓ : GamOk Pr (Gjoints_Check q6 qu)) (hP : NamesOk Pr) : SmOk Pr 28 (smM Rjoints_Check (mjoints_Check q6 qu fuel)) := by
  refine smM_ok (fuel := fuel) hΓ hP (LamOk.of 6 28 (Ljoints_Check q6 qu fuel) 1 (by kernel_rfl) (fun i hi => ?_)) 7 28 Rjoints_Check _ (fun xs v h => ?_)
  · match i, hi with
    | 0, _ => exact gjoints_Check_L0 q6 qu fuel
    | i + 1, hi => exact absurd hi (by omega)
  · unfold mjoints_Check at h
    split at h
    · exact (gjoints_Check_run q6 qu fuel _ _ _).trans h
    · cases h
noncomputable def Sbars_named_0 (zg : ByteArray) (u7 u8 : Int) : St := { env := [(0, AV.str zg), (7, AV.int .i64 u7), (8, AV.int .i64 u8)], h := [], kd := [] }
noncomputable def Xbars_named_0_0 (pf : Bool) : St := { env := [(2, AV.bool pf)], h := [], kd := [] }
noncomputable def Xbars_named_0_1 (qkw : ByteArray) : St := { env := [(0, AV.str qkw)], h := [], kd := [] }
noncomputable def gbars_named_l0_step (fuel : Nat) (kn : Int → Option AV) (kx0 : Bool → Option AV) (kx1 : ByteArray → Option AV) (zg : ByteArray) (u7 u8 : Int) : Option AV :=
  bif decide (u8 < u7) then ck (decide (0 ≤ u8)) <| ck (decide (u8 < (↑zg.size : Int))) <| ck (bif decide (sbyte zg u8.toNat ≥ 97) then decide (0 ≤ u8) else true) <| ck (bif decide (sbyte zg u8.toNat ≥ 97) then decide (u8 < (↑zg.size : Int)) else true) <| ck (decide (0 ≤ u8)) <| ck (decide (u8 < (↑zg.size : Int))) <| ck (bif decide (sbyte zg u8.toNat ≥ 48) then decide (0 ≤ u8) else true) <| ck (bif decide (sbyte zg u8.toNat ≥ 48) then decide (u8 < (↑zg.size : Int)) else true) <| bif bif !bif decide (sbyte zg u8.toNat ≥ 97) then decide (sbyte zg u8.toNat ≤ 122) else false then bif !bif decide (sbyte zg u8.toNat ≥ 48) then decide (sbyte zg u8.toNat ≤ 57) else false then true else u8 == 0 else false then kx0 (false)
    else kn (IntKind.i64.wrap (u8 + 1))
  else kx1 (zg)
noncomputable def gbars_named_l0 (fuel : Nat) (kx0 : Bool → Option AV) (kx1 : ByteArray → Option AV) (zg : ByteArray) (u7 : Int) : Nat → Int → Option AV
  | 0, _ => none
  | n' + 1, u8 => gbars_named_l0_step fuel (gbars_named_l0 fuel kx0 kx1 zg u7 n') kx0 kx1 zg u7 u8
noncomputable def Tbars_named_0 : TS' := ⟨[(0, TA.s), (7, TA.i .i64), (8, TA.i .i64)], [], []⟩
noncomputable def Fbars_named_0 (fuel : Nat) (ps : List Pay) (K : Ex → St → Option AV) : Option AV := match ps with
  | .s zg :: .i u7 :: .i u8 :: [] => gbars_named_l0 fuel (fun pf => K (Ex.ret) (Xbars_named_0_0 pf)) (fun qkw => K (Ex.exit 0) (Xbars_named_0_1 qkw)) zg u7 fuel u8
  | _ => none
noncomputable def Lbars_named (fuel : Nat) : Lam AV := [(4398046510908, lam Tbars_named_0 (Fbars_named_0 fuel))]
noncomputable def Gbars_named : Gam := []
noncomputable def Cbars_named (fuel : Nat) : CallI AV := callX (Gbars_named) (execFn Pr (Gbars_named) [((6, 52), Lbars_named fuel)] fuel 6)
theorem gbars_named_l0_eq (fuel : Nat) (kn : St → Option AV) (K : Ex → St → Option AV) (zg : ByteArray) (u7 u80 u8 : Int) :
    exec Pr (Gbars_named) (Lbars_named fuel) (fnNt Pr 52) fuel (Cbars_named fuel) (lp Pr 52 0).1 (lp Pr 52 0).2 (live (lp Pr 52 0).1 (lp Pr 52 0).2 0) (Sbars_named_0 zg u7 u8) (fun e s => match e with | .normal => kn (headN (live (lp Pr 52 0).1 (lp Pr 52 0).2 0) (writes (lp Pr 52 0).1) (Sbars_named_0 zg u7 u80) s) | e => K e s) =
    gbars_named_l0_step fuel (fun u8 => kn (Sbars_named_0 zg u7 u8)) (fun xu2 => K (Ex.ret) (Xbars_named_0_0 xu2)) (fun qjq => K (Ex.exit 0) (Xbars_named_0_1 qjq)) zg u7 u8 := by kernel_rfl
theorem gbars_named_l0_ok (fuel : Nat) (K : Ex → St → Option AV) (zg : ByteArray) (u7 u80 : Int) : ∀ (n' : Nat) (u8 : Int),
    loopK (exec Pr (Gbars_named) (Lbars_named fuel) (fnNt Pr 52) fuel (Cbars_named fuel) (lp Pr 52 0).1 (lp Pr 52 0).2 (live (lp Pr 52 0).1 (lp Pr 52 0).2 0)) (headN (live (lp Pr 52 0).1 (lp Pr 52 0).2 0) (writes (lp Pr 52 0).1) (Sbars_named_0 zg u7 u80)) n' (Sbars_named_0 zg u7 u8) K = gbars_named_l0 fuel (fun xu2 => K (Ex.ret) (Xbars_named_0_0 xu2)) (fun qjq => K (Ex.exit 0) (Xbars_named_0_1 qjq)) zg u7 n' u8
  | 0, _ => rfl
  | n' + 1, u8 => (gbars_named_l0_eq fuel (fun s => loopK (exec Pr (Gbars_named) (Lbars_named fuel) (fnNt Pr 52) fuel (Cbars_named fuel) (lp Pr 52 0).1 (lp Pr 52 0).2 (live (lp Pr 52 0).1 (lp Pr 52 0).2 0)) (headN (live (lp Pr 52 0).1 (lp Pr 52 0).2 0) (writes (lp Pr 52 0).1) (Sbars_named_0 zg u7 u80)) n' s K) K zg u7 u80 u8).trans
    (congrArg (fun kn => gbars_named_l0_step fuel kn (fun xu2 => K (Ex.ret) (Xbars_named_0_0 xu2)) (fun qjq => K (Ex.exit 0) (Xbars_named_0_1 qjq)) zg u7 u8) (funext fun _ => gbars_named_l0_ok fuel K zg u7 u80 n' _))
theorem gbars_named_L0 (fuel : Nat) : LOk Pr (Gbars_named) (Lbars_named fuel) (fnNt Pr 52) fuel (Cbars_named fuel) (lp Pr 52 0) := by
  refine .of Tbars_named_0 (Fbars_named_0 fuel) (fun L h => ?_) (fun ps st K r he hr => ?_)
  · have e : (Lbars_named fuel).get (writes (lp Pr 52 0).1) = some (lam Tbars_named_0 (Fbars_named_0 fuel)) := by kernel_rfl
    exact (Option.some.inj (e.symm.trans h)).symm
  · unfold Fbars_named_0 at hr
    split at hr
    · obtain rfl := (Option.some.inj he).symm
      exact (gbars_named_l0_ok fuel K _ _ _ fuel _).trans hr
    · cases hr
noncomputable def gbars_named (fuel : Nat) (us0 : ByteArray) : Option AV :=
  gbars_named_l0 fuel
    (fun (xu2 : Bool) => some (AV.bool xu2))
    (fun (qjq : ByteArray) => some (AV.bool (bif decide ((↑qjq.size : Int) ≥ 1) then decide ((↑qjq.size : Int) ≤ 8) else false)))
    (us0)
    ((↑us0.size : Int)) fuel (0)
theorem gbars_named_run (fuel : Nat) (us0 : ByteArray) : run Pr (Gbars_named) [((6, 52), Lbars_named fuel)] fuel 7 52 [AV.str us0] = gbars_named fuel us0 := by kernel_rfl
noncomputable def mbars_named (fuel : Nat) (xs : List AV) : Option AV := match xs with
  | [AV.str us0] => gbars_named fuel us0
  | _ => none
abbrev Rbars_named : List RS := [RS.one LK.b]
theorem gbars_named_sm (fuel : Nat) (hΓ : GamOk Pr (Gbars_named)) (hP : NamesOk Pr) : SmOk Pr 52 (smM Rbars_named (mbars_named fuel)) := by
  refine smM_ok (fuel := fuel) hΓ hP (LamOk.of 6 52 (Lbars_named fuel) 1 (by kernel_rfl) (fun i hi => ?_)) 7 52 Rbars_named _ (fun xs v h => ?_)
  · match i, hi with
    | 0, _ => exact gbars_named_L0 fuel
    | i + 1, hi => exact absurd hi (by omega)
  · unfold mbars_named at h
    split at h
    · exact (gbars_named_run fuel _).trans h
    · cases h
noncomputable def Lbars_number (fuel : Nat) : Lam AV := []
noncomputable def Gbars_number : Gam := []
noncomputable def Cbars_number (fuel : Nat) : CallI AV := callX (Gbars_number) (execFn Pr (Gbars_number) [((6, 53), Lbars_number fuel)] fuel 6)
noncomputable def gbars_number (fuel : Nat) (ux0 : Option Nat) : Option AV :=
  some (AV.bool (bif ford .f64 ux0 (some 4336966441157787648) == some Ordering.gt || ford .f64 ux0 (some 4336966441157787648) == some Ordering.eq then ford .f64 ux0 (some 4877398396442247168) == some Ordering.lt || ford .f64 ux0 (some 4877398396442247168) == some Ordering.eq else false))
theorem gbars_number_run (fuel : Nat) (ux0 : Option Nat) : run Pr (Gbars_number) [((6, 53), Lbars_number fuel)] fuel 7 53 [AV.flt .f64 ux0] = gbars_number fuel ux0 := by kernel_rfl
noncomputable def mbars_number (fuel : Nat) (xs : List AV) : Option AV := match xs with
  | [AV.flt .f64 ux0] => gbars_number fuel ux0
  | _ => none
abbrev Rbars_number : List RS := [RS.one LK.b]
theorem gbars_number_sm (fuel : Nat) (hΓ : GamOk Pr (Gbars_number)) (hP : NamesOk Pr) : SmOk Pr 53 (smM Rbars_number (mbars_number fuel)) := by
  refine smM_ok (fuel := fuel) hΓ hP (LamOk.of 6 53 (Lbars_number fuel) 0 (by kernel_rfl) (fun i hi => ?_)) 7 53 Rbars_number _ (fun xs v h => ?_)
  · match i, hi with
    | i + 0, hi => exact absurd hi (by omega)
  · unfold mbars_number at h
    split at h
    · exact (gbars_number_run fuel _).trans h
    · cases h
noncomputable def Sbars_may_0 (qbg qbn : Nat) (vy : Ge) (u18 u19 : Int) (w2 w3 : Nat) (w5 : Ge) (wz w4 : Nat) (wf : Ge) (px : ByteArray) (ys qay qaz : Int) (qau qaq : Bool) (qat qar qax : Option Nat) : St := { env := [(2, AV.ptr 0 0), (5, AV.ptr 1 0), (17, AV.ro 9 qbg qbn vy), (18, AV.int .i64 u18), (19, AV.int .i64 u19)], h := [Blk.box [AV.ro 4 w2 w3 w5, AV.ro 9 wz w4 wf], Blk.box [AV.str px, AV.int .u8 ys, AV.int .i64 qay, AV.int .i64 qaz, AV.bool qau, AV.bool qaq, AV.flt .f64 qat, AV.flt .f64 qar, AV.flt .f64 qax]], kd := [] }
noncomputable def Xbars_may_0_0 (qbs : Bool) (pl pp : Nat) (pm : Ge) (pi po : Nat) (pj : Ge) (qfx : ByteArray) (qf1 qgb qfq : Int) (qf4 qfv : Bool) (qfu qf0 qf9 : Option Nat) (qb2 : ByteArray) (qbz qb0 qby : Int) (qde qdd : Bool) (qc4 qc5 qc8 : Option Nat) : St := { env := [(4, AV.bool qbs)], h := [Blk.box [AV.ro 4 pl pp pm, AV.ro 9 pi po pj], Blk.box [AV.str qfx, AV.int .u8 qf1, AV.int .i64 qgb, AV.int .i64 qfq, AV.bool qf4, AV.bool qfv, AV.flt .f64 qfu, AV.flt .f64 qf0, AV.flt .f64 qf9], Blk.box [AV.str qb2, AV.int .u8 qbz, AV.int .i64 qb0, AV.int .i64 qby, AV.bool qde, AV.bool qdd, AV.flt .f64 qc4, AV.flt .f64 qc5, AV.flt .f64 qc8]], kd := [] }
noncomputable def Xbars_may_0_1 (y2 yy : Nat) (yx : Ge) (y3 yw : Nat) (yu : Ge) (qf5 : ByteArray) (qc6 qgc qfr : Int) (qf2 qfp : Bool) (qfs qfz qfy : Option Nat) : St := { env := [(2, AV.ptr 0 0), (5, AV.ptr 1 0)], h := [Blk.box [AV.ro 4 y2 yy yx, AV.ro 9 y3 yw yu], Blk.box [AV.str qf5, AV.int .u8 qc6, AV.int .i64 qgc, AV.int .i64 qfr, AV.bool qf2, AV.bool qfp, AV.flt .f64 qfs, AV.flt .f64 qfz, AV.flt .f64 qfy]], kd := [] }
noncomputable def gbars_may_l0_step (wk wd : Mo) (fuel : Nat) (kn : Int → Option AV) (kx0 : Bool → Nat → Nat → (Ge) → Nat → Nat → (Ge) → ByteArray → Int → Int → Int → Bool → Bool → Option Nat → Option Nat → Option Nat → ByteArray → Int → Int → Int → Bool → Bool → Option Nat → Option Nat → Option Nat → Option AV) (kx1 : Nat → Nat → (Ge) → Nat → Nat → (Ge) → ByteArray → Int → Int → Int → Bool → Bool → Option Nat → Option Nat → Option Nat → Option AV) (qbg qbn : Nat) (vy : Ge) (u18 : Int) (w2 w3 : Nat) (w5 : Ge) (wz w4 : Nat) (wf : Ge) (px : ByteArray) (ys qay qaz : Int) (qau qaq : Bool) (qat qar qax : Option Nat) (u19 : Int) : Option AV :=
  bif decide (u19 < u18) then ck (decide (0 ≤ u19)) <| ck (decide (u19 < (↑qbg : Int))) <| ck (fitKs [LK.s, LK.i .u8, LK.i .i64, LK.i .i64, LK.b, LK.b, LK.f .f64, LK.f .f64, LK.f .f64] [vy u19.toNat 0, vy u19.toNat 1, vy u19.toNat 2, vy u19.toNat 3, vy u19.toNat 4, vy u19.toNat 5, vy u19.toNat 6, vy u19.toNat 7, vy u19.toNat 8]) <| bif strEq (toS (vy u19.toNat 0)) px then kx0 (false) (w2) (w3) (w5) (wz) (w4) (wf) (px) (ys) (qay) (qaz) (qau) (qaq) (qat) (qar) (qax) (toS (vy u19.toNat 0)) (toI (vy u19.toNat 1)) (toI (vy u19.toNat 2)) (toI (vy u19.toNat 3)) (toB (vy u19.toNat 4)) (toB (vy u19.toNat 5)) (toF (vy u19.toNat 6)) (toF (vy u19.toNat 7)) (toF (vy u19.toNat 8))
    else kn (IntKind.i64.wrap (u19 + 1))
  else kx1 (w2) (w3) (w5) (wz) (w4) (wf) (px) (ys) (qay) (qaz) (qau) (qaq) (qat) (qar) (qax)
noncomputable def gbars_may_l0 (wk wd : Mo) (fuel : Nat) (kx0 : Bool → Nat → Nat → (Ge) → Nat → Nat → (Ge) → ByteArray → Int → Int → Int → Bool → Bool → Option Nat → Option Nat → Option Nat → ByteArray → Int → Int → Int → Bool → Bool → Option Nat → Option Nat → Option Nat → Option AV) (kx1 : Nat → Nat → (Ge) → Nat → Nat → (Ge) → ByteArray → Int → Int → Int → Bool → Bool → Option Nat → Option Nat → Option Nat → Option AV) (qbg qbn : Nat) (vy : Ge) (u18 : Int) (w2 w3 : Nat) (w5 : Ge) (wz w4 : Nat) (wf : Ge) (px : ByteArray) (ys qay qaz : Int) (qau qaq : Bool) (qat qar qax : Option Nat) : Nat → Int → Option AV
  | 0, _ => none
  | n' + 1, u19 => gbars_may_l0_step wk wd fuel (gbars_may_l0 wk wd fuel kx0 kx1 qbg qbn vy u18 w2 w3 w5 wz w4 wf px ys qay qaz qau qaq qat qar qax n') kx0 kx1 qbg qbn vy u18 w2 w3 w5 wz w4 wf px ys qay qaz qau qaq qat qar qax u19
noncomputable def Tbars_may_0 : TS' := ⟨[(2, TA.ptr 0 0), (5, TA.ptr 1 0), (17, TA.ro 9), (18, TA.i .i64), (19, TA.i .i64)], [TB.box [TA.ro 4, TA.ro 9], TB.box [TA.s, TA.i .u8, TA.i .i64, TA.i .i64, TA.b, TA.b, TA.f .f64, TA.f .f64, TA.f .f64]], []⟩
noncomputable def Fbars_may_0 (wk wd : Mo) (fuel : Nat) (ps : List Pay) (K : Ex → St → Option AV) : Option AV := match ps with
  | .n qbg :: .n qbn :: .g vy :: .i u18 :: .i u19 :: .n w2 :: .n w3 :: .g w5 :: .n wz :: .n w4 :: .g wf :: .s px :: .i ys :: .i qay :: .i qaz :: .b qau :: .b qaq :: .o qat :: .o qar :: .o qax :: [] => gbars_may_l0 wk wd fuel (fun qbs pl pp pm pi po pj qfx qf1 qgb qfq qf4 qfv qfu qf0 qf9 qb2 qbz qb0 qby qde qdd qc4 qc5 qc8 => K (Ex.ret) (Xbars_may_0_0 qbs pl pp pm pi po pj qfx qf1 qgb qfq qf4 qfv qfu qf0 qf9 qb2 qbz qb0 qby qde qdd qc4 qc5 qc8)) (fun y2 yy yx y3 yw yu qf5 qc6 qgc qfr qf2 qfp qfs qfz qfy => K (Ex.exit 0) (Xbars_may_0_1 y2 yy yx y3 yw yu qf5 qc6 qgc qfr qf2 qfp qfs qfz qfy)) qbg qbn vy u18 w2 w3 w5 wz w4 wf px ys qay qaz qau qaq qat qar qax fuel u19
  | _ => none
noncomputable def Lbars_may (wk wd : Mo) (fuel : Nat) : Lam AV := [(536346768, lam Tbars_may_0 (Fbars_may_0 wk wd fuel))]
noncomputable def Gbars_may (wk wd : Mo) : Gam := [(52, smM [RS.one LK.b] wk), (53, smM [RS.one LK.b] wd), (54, Go.Am.sBits)]
noncomputable def Cbars_may (wk wd : Mo) (fuel : Nat) : CallI AV := callX (Gbars_may wk wd) (execFn Pr (Gbars_may wk wd) [((6, 29), Lbars_may wk wd fuel)] fuel 6)
theorem gbars_may_l0_eq (wk wd : Mo) (fuel : Nat) (kn : St → Option AV) (K : Ex → St → Option AV) (qbg qbn : Nat) (vy : Ge) (u18 : Int) (w2 w3 : Nat) (w5 : Ge) (wz w4 : Nat) (wf : Ge) (px : ByteArray) (ys qay qaz : Int) (qau qaq : Bool) (qat qar qax : Option Nat) (qhj u19 : Int) :
    exec Pr (Gbars_may wk wd) (Lbars_may wk wd fuel) (fnNt Pr 29) fuel (Cbars_may wk wd fuel) (lp Pr 29 0).1 (lp Pr 29 0).2 (live (lp Pr 29 0).1 (lp Pr 29 0).2 0) (Sbars_may_0 qbg qbn vy u18 u19 w2 w3 w5 wz w4 wf px ys qay qaz qau qaq qat qar qax) (fun e s => match e with | .normal => kn (headN (live (lp Pr 29 0).1 (lp Pr 29 0).2 0) (writes (lp Pr 29 0).1) (Sbars_may_0 qbg qbn vy u18 qhj w2 w3 w5 wz w4 wf px ys qay qaz qau qaq qat qar qax) s) | e => K e s) =
    gbars_may_l0_step wk wd fuel (fun u19 => kn (Sbars_may_0 qbg qbn vy u18 u19 w2 w3 w5 wz w4 wf px ys qay qaz qau qaq qat qar qax)) (fun xu4 zk zl zm zo zn zp qal pa xh1_2 xh1_3 xh1_4 xh1_5 xh1_6 xh1_7 xh1_8 xh2_0 xh2_1 xh2_2 xh2_3 xh2_4 xh2_5 xh2_6 xh2_7 xh2_8 => K (Ex.ret) (Xbars_may_0_0 xu4 zk zl zm zo zn zp qal pa xh1_2 xh1_3 xh1_4 xh1_5 xh1_6 xh1_7 xh1_8 xh2_0 xh2_1 xh2_2 xh2_3 xh2_4 xh2_5 xh2_6 xh2_7 xh2_8)) (fun zk zl zm zo zn zp qal pa xh1_2 xh1_3 xh1_4 xh1_5 xh1_6 xh1_7 xh1_8 => K (Ex.exit 0) (Xbars_may_0_1 zk zl zm zo zn zp qal pa xh1_2 xh1_3 xh1_4 xh1_5 xh1_6 xh1_7 xh1_8)) qbg qbn vy u18 w2 w3 w5 wz w4 wf px ys qay qaz qau qaq qat qar qax u19 := by kernel_rfl
theorem gbars_may_l0_ok (wk wd : Mo) (fuel : Nat) (K : Ex → St → Option AV) (qbg qbn : Nat) (vy : Ge) (u18 : Int) (w2 w3 : Nat) (w5 : Ge) (wz w4 : Nat) (wf : Ge) (px : ByteArray) (ys qay qaz : Int) (qau qaq : Bool) (qat qar qax : Option Nat) (qhj : Int) : ∀ (n' : Nat) (u19 : Int),
    loopK (exec Pr (Gbars_may wk wd) (Lbars_may wk wd fuel) (fnNt Pr 29) fuel (Cbars_may wk wd fuel) (lp Pr 29 0).1 (lp Pr 29 0).2 (live (lp Pr 29 0).1 (lp Pr 29 0).2 0)) (headN (live (lp Pr 29 0).1 (lp Pr 29 0).2 0) (writes (lp Pr 29 0).1) (Sbars_may_0 qbg qbn vy u18 qhj w2 w3 w5 wz w4 wf px ys qay qaz qau qaq qat qar qax)) n' (Sbars_may_0 qbg qbn vy u18 u19 w2 w3 w5 wz w4 wf px ys qay qaz qau qaq qat qar qax) K = gbars_may_l0 wk wd fuel (fun xu4 zk zl zm zo zn zp qal pa xh1_2 xh1_3 xh1_4 xh1_5 xh1_6 xh1_7 xh1_8 xh2_0 xh2_1 xh2_2 xh2_3 xh2_4 xh2_5 xh2_6 xh2_7 xh2_8 => K (Ex.ret) (Xbars_may_0_0 xu4 zk zl zm zo zn zp qal pa xh1_2 xh1_3 xh1_4 xh1_5 xh1_6 xh1_7 xh1_8 xh2_0 xh2_1 xh2_2 xh2_3 xh2_4 xh2_5 xh2_6 xh2_7 xh2_8)) (fun zk zl zm zo zn zp qal pa xh1_2 xh1_3 xh1_4 xh1_5 xh1_6 xh1_7 xh1_8 => K (Ex.exit 0) (Xbars_may_0_1 zk zl zm zo zn zp qal pa xh1_2 xh1_3 xh1_4 xh1_5 xh1_6 xh1_7 xh1_8)) qbg qbn vy u18 w2 w3 w5 wz w4 wf px ys qay qaz qau qaq qat qar qax n' u19
  | 0, _ => rfl
  | n' + 1, u19 => (gbars_may_l0_eq wk wd fuel (fun s => loopK (exec Pr (Gbars_may wk wd) (Lbars_may wk wd fuel) (fnNt Pr 29) fuel (Cbars_may wk wd fuel) (lp Pr 29 0).1 (lp Pr 29 0).2 (live (lp Pr 29 0).1 (lp Pr 29 0).2 0)) (headN (live (lp Pr 29 0).1 (lp Pr 29 0).2 0) (writes (lp Pr 29 0).1) (Sbars_may_0 qbg qbn vy u18 qhj w2 w3 w5 wz w4 wf px ys qay qaz qau qaq qat qar qax)) n' s K) K qbg qbn vy u18 w2 w3 w5 wz w4 wf px ys qay qaz qau qaq qat qar qax qhj u19).trans
    (congrArg (fun kn => gbars_may_l0_step wk wd fuel kn (fun xu4 zk zl zm zo zn zp qal pa xh1_2 xh1_3 xh1_4 xh1_5 xh1_6 xh1_7 xh1_8 xh2_0 xh2_1 xh2_2 xh2_3 xh2_4 xh2_5 xh2_6 xh2_7 xh2_8 => K (Ex.ret) (Xbars_may_0_0 xu4 zk zl zm zo zn zp qal pa xh1_2 xh1_3 xh1_4 xh1_5 xh1_6 xh1_7 xh1_8 xh2_0 xh2_1 xh2_2 xh2_3 xh2_4 xh2_5 xh2_6 xh2_7 xh2_8)) (fun zk zl zm zo zn zp qal pa xh1_2 xh1_3 xh1_4 xh1_5 xh1_6 xh1_7 xh1_8 => K (Ex.exit 0) (Xbars_may_0_1 zk zl zm zo zn zp qal pa xh1_2 xh1_3 xh1_4 xh1_5 xh1_6 xh1_7 xh1_8)) qbg qbn vy u18 w2 w3 w5 wz w4 wf px ys qay qaz qau qaq qat qar qax u19) (funext fun _ => gbars_may_l0_ok wk wd fuel K qbg qbn vy u18 w2 w3 w5 wz w4 wf px ys qay qaz qau qaq qat qar qax qhj n' _))
theorem gbars_may_L0 (wk wd : Mo) (fuel : Nat) : LOk Pr (Gbars_may wk wd) (Lbars_may wk wd fuel) (fnNt Pr 29) fuel (Cbars_may wk wd fuel) (lp Pr 29 0) := by
  refine .of Tbars_may_0 (Fbars_may_0 wk wd fuel) (fun L h => ?_) (fun ps st K r he hr => ?_)
  · have e : (Lbars_may wk wd fuel).get (writes (lp Pr 29 0).1) = some (lam Tbars_may_0 (Fbars_may_0 wk wd fuel)) := by kernel_rfl
    exact (Option.some.inj (e.symm.trans h)).symm
  · unfold Fbars_may_0 at hr
    split at hr
    · obtain rfl := (Option.some.inj he).symm
      exact (gbars_may_l0_ok wk wd fuel K _ _ _ _ _ _ _ _ _ _ _ _ _ _ _ _ _ _ _ _ fuel _).trans hr
    · cases hr
noncomputable def gbars_may (wk wd : Mo) (fuel zi z1 : Nat) (wq : Ge) (zv zy : Nat) (w1 : Ge) (at1 : Int) : Option AV :=
  ck (decide (0 ≤ at1)) <| ck (decide (at1 < (↑zv : Int))) <| ck (fitKs [LK.s, LK.i .u8, LK.i .i64, LK.i .i64, LK.b, LK.b, LK.f .f64, LK.f .f64, LK.f .f64] [w1 at1.toNat 0, w1 at1.toNat 1, w1 at1.toNat 2, w1 at1.toNat 3, w1 at1.toNat 4, w1 at1.toNat 5, w1 at1.toNat 6, w1 at1.toNat 7, w1 at1.toNat 8]) <| ck (decide (0 ≤ at1)) <| ck (decide (at1 ≤ (↑zy : Int))) <| gbars_may_l0 wk wd fuel
    (fun (xu4 : Bool) (_ _ : Nat) (_ : Ge) (_ _ : Nat) (_ : Ge) (_ : ByteArray) (_ _ _ : Int) (_ _ : Bool) (_ _ _ : Option Nat) (_ : ByteArray) (_ _ _ : Int) (_ _ : Bool) (_ _ _ : Option Nat) => some (AV.bool xu4))
    (fun (yb _ : Nat) (_ : Ge) (_ _ : Nat) (_ : Ge) (pg : ByteArray) (qce vx yc : Int) (qd8 qel : Bool) (qec qhh qcu : Option Nat) => ck (okM [RS.one LK.b] (wk [AV.str pg])) <| ck (bif !!toB (getV (wk [AV.str pg])) then true else true) <| ck (bif !bif !toB (getV (wk [AV.str pg])) then true else decide (vx < 0) then true else true) <| ck (bif !bif bif !toB (getV (wk [AV.str pg])) then true else decide (vx < 0) then true else decide (vx ≥ (↑yb : Int)) then true else true) <| ck (bif !bif bif bif !toB (getV (wk [AV.str pg])) then true else decide (vx < 0) then true else decide (vx ≥ (↑yb : Int)) then true else decide (yc < 0) then true else true) <| ck (bif !bif bif bif bif !toB (getV (wk [AV.str pg])) then true else decide (vx < 0) then true else decide (vx ≥ (↑yb : Int)) then true else decide (yc < 0) then true else decide (yc ≥ (↑yb : Int)) then true else true) <| ck (bif !bif bif bif bif !toB (getV (wk [AV.str pg])) then true else decide (vx < 0) then true else decide (vx ≥ (↑yb : Int)) then true else decide (yc < 0) then true else decide (yc ≥ (↑yb : Int)) then true else true) <| ck (bif !bif bif bif bif bif !toB (getV (wk [AV.str pg])) then true else decide (vx < 0) then true else decide (vx ≥ (↑yb : Int)) then true else decide (yc < 0) then true else decide (yc ≥ (↑yb : Int)) then true else vx == yc then true else true) <| ck (bif !bif bif bif bif bif !toB (getV (wk [AV.str pg])) then true else decide (vx < 0) then true else decide (vx ≥ (↑yb : Int)) then true else decide (yc < 0) then true else decide (yc ≥ (↑yb : Int)) then true else vx == yc then okM [RS.one LK.b] (wd [AV.flt .f64 qec]) else true) <| ck (bif !bif bif bif bif bif bif !toB (getV (wk [AV.str pg])) then true else decide (vx < 0) then true else decide (vx ≥ (↑yb : Int)) then true else decide (yc < 0) then true else decide (yc ≥ (↑yb : Int)) then true else vx == yc then true else !toB (getV (wd [AV.flt .f64 qec])) then true else true) <| ck (bif !bif bif bif bif bif bif !toB (getV (wk [AV.str pg])) then true else decide (vx < 0) then true else decide (vx ≥ (↑yb : Int)) then true else decide (yc < 0) then true else decide (yc ≥ (↑yb : Int)) then true else vx == yc then true else !toB (getV (wd [AV.flt .f64 qec])) then okM [RS.one LK.b] (wd [AV.flt .f64 qhh]) else true) <| bif bif bif bif bif bif bif bif !toB (getV (wk [AV.str pg])) then true else decide (vx < 0) then true else decide (vx ≥ (↑yb : Int)) then true else decide (yc < 0) then true else decide (yc ≥ (↑yb : Int)) then true else vx == yc then true else !toB (getV (wd [AV.flt .f64 qec])) then true else !toB (getV (wd [AV.flt .f64 qhh])) then some (AV.bool false)
      else bif qce == 1 then ck (bif !qd8 then true else true) <| ck (bif bif !qd8 then !qel else false then true else true) <| ck (bif bif !qd8 then !qel else false then sBits.ok [AV.flt .f64 qcu] else true) <| some (AV.bool (bif bif !qd8 then !qel else false then (↑(qcu.getD 0) : Int) == 0 else false))
      else bif qce == 2 then ck (okM [RS.one LK.b] (wd [AV.flt .f64 qcu])) <| some (AV.bool (toB (getV (wd [AV.flt .f64 qcu]))))
      else some (AV.bool false))
    (at1.toNat - 0)
    (zy - 0)
    (fun (i : Nat) => w1 (0 + i))
    ((↑(at1.toNat - 0) : Int))
    (zi)
    (z1)
    (wq)
    (zv)
    (zy)
    (w1)
    (toS (w1 at1.toNat 0))
    (toI (w1 at1.toNat 1))
    (toI (w1 at1.toNat 2))
    (toI (w1 at1.toNat 3))
    (toB (w1 at1.toNat 4))
    (toB (w1 at1.toNat 5))
    (toF (w1 at1.toNat 6))
    (toF (w1 at1.toNat 7))
    (toF (w1 at1.toNat 8)) fuel (0)
theorem gbars_may_run (wk wd : Mo) (fuel zi z1 : Nat) (wq : Ge) (zv zy : Nat) (w1 : Ge) (at1 : Int) : run Pr (Gbars_may wk wd) [((6, 29), Lbars_may wk wd fuel)] fuel 7 29 [AV.agg [AV.ro 4 zi z1 wq, AV.ro 9 zv zy w1], AV.int .i64 at1] = gbars_may wk wd fuel zi z1 wq zv zy w1 at1 := by kernel_rfl
noncomputable def mbars_may (wk wd : Mo) (fuel : Nat) (xs : List AV) : Option AV := match xs with
  | [AV.agg [AV.ro 4 zi z1 wq, AV.ro 9 zv zy w1], AV.int .i64 at1] => gbars_may wk wd fuel zi z1 wq zv zy w1 at1
  | _ => none
abbrev Rbars_may : List RS := [RS.one LK.b]
theorem gbars_may_sm (wk wd : Mo) (fuel : Nat) (hΓ : GamOk Pr (Gbars_may wk wd)) (hP : NamesOk Pr) : SmOk Pr 29 (smM Rbars_may (mbars_may wk wd fuel)) := by
  refine smM_ok (fuel := fuel) hΓ hP (LamOk.of 6 29 (Lbars_may wk wd fuel) 1 (by kernel_rfl) (fun i hi => ?_)) 7 29 Rbars_may _ (fun xs v h => ?_)
  · match i, hi with
    | 0, _ => exact gbars_may_L0 wk wd fuel
    | i + 1, hi => exact absurd hi (by omega)
  · unfold mbars_may at h
    split at h
    · exact (gbars_may_run wk wd fuel _ _ _ _ _ _ _).trans h
    · cases h
noncomputable def Sbars_Check_0 (u25 u26 : Int) (w2 w3 : Nat) (w5 : Ge) (wz w4 : Nat) (wf : Ge) : St := { env := [(1, AV.ptr 0 0), (25, AV.int .i64 u25), (26, AV.int .i64 u26)], h := [Blk.box [AV.ro 4 w2 w3 w5, AV.ro 9 wz w4 wf]], kd := [] }
noncomputable def Xbars_Check_0_0 (pf qfi : Int) (pl pp : Nat) (pm : Ge) (pi po : Nat) (pj : Ge) : St := { env := [(2, AV.int .i64 pf), (3, AV.int .i64 qfi)], h := [Blk.box [AV.ro 4 pl pp pm, AV.ro 9 pi po pj]], kd := [] }
noncomputable def Xbars_Check_0_1 (y2 yy : Nat) (yx : Ge) (y3 yw : Nat) (yu : Ge) : St := { env := [], h := [Blk.box [AV.ro 4 y2 yy yx, AV.ro 9 y3 yw yu]], kd := [] }
noncomputable def gbars_Check_l0_step (wi zt : Mo) (fuel : Nat) (kn : Int → Option AV) (kx0 : Int → Int → Nat → Nat → (Ge) → Nat → Nat → (Ge) → Option AV) (kx1 : Nat → Nat → (Ge) → Nat → Nat → (Ge) → Option AV) (u25 : Int) (w2 w3 : Nat) (w5 : Ge) (wz w4 : Nat) (wf : Ge) (u26 : Int) : Option AV :=
  bif decide (u26 < u25) then ck (okM [RS.one LK.b] (zt [AV.agg [AV.ro 4 w2 w3 w5, AV.ro 9 wz w4 wf], AV.int .i64 u26])) <| bif !toB (getV (zt [AV.agg [AV.ro 4 w2 w3 w5, AV.ro 9 wz w4 wf], AV.int .i64 u26])) then kx0 (290) (u26) (w2) (w3) (w5) (wz) (w4) (wf)
    else kn (IntKind.i64.wrap (u26 + 1))
  else kx1 (w2) (w3) (w5) (wz) (w4) (wf)
noncomputable def gbars_Check_l0 (wi zt : Mo) (fuel : Nat) (kx0 : Int → Int → Nat → Nat → (Ge) → Nat → Nat → (Ge) → Option AV) (kx1 : Nat → Nat → (Ge) → Nat → Nat → (Ge) → Option AV) (u25 : Int) (w2 w3 : Nat) (w5 : Ge) (wz w4 : Nat) (wf : Ge) : Nat → Int → Option AV
  | 0, _ => none
  | n' + 1, u26 => gbars_Check_l0_step wi zt fuel (gbars_Check_l0 wi zt fuel kx0 kx1 u25 w2 w3 w5 wz w4 wf n') kx0 kx1 u25 w2 w3 w5 wz w4 wf u26
noncomputable def Tbars_Check_0 : TS' := ⟨[(1, TA.ptr 0 0), (25, TA.i .i64), (26, TA.i .i64)], [TB.box [TA.ro 4, TA.ro 9]], []⟩
noncomputable def Fbars_Check_0 (wi zt : Mo) (fuel : Nat) (ps : List Pay) (K : Ex → St → Option AV) : Option AV := match ps with
  | .i u25 :: .i u26 :: .n w2 :: .n w3 :: .g w5 :: .n wz :: .n w4 :: .g wf :: [] => gbars_Check_l0 wi zt fuel (fun pf qfi pl pp pm pi po pj => K (Ex.ret) (Xbars_Check_0_0 pf qfi pl pp pm pi po pj)) (fun y2 yy yx y3 yw yu => K (Ex.exit 1) (Xbars_Check_0_1 y2 yy yx y3 yw yu)) u25 w2 w3 w5 wz w4 wf fuel u26
  | _ => none
noncomputable def Lbars_Check (wi zt : Mo) (fuel : Nat) : Lam AV := [(34292629580, lam Tbars_Check_0 (Fbars_Check_0 wi zt fuel))]
noncomputable def Gbars_Check (wi zt : Mo) : Gam := [(28, smM [RS.one (LK.i .i64), RS.one (LK.i .i64)] wi), (29, smM [RS.one LK.b] zt)]
noncomputable def Cbars_Check (wi zt : Mo) (fuel : Nat) : CallI AV := callX (Gbars_Check wi zt) (execFn Pr (Gbars_Check wi zt) [((6, 12), Lbars_Check wi zt fuel)] fuel 6)
theorem gbars_Check_l0_eq (wi zt : Mo) (fuel : Nat) (kn : St → Option AV) (K : Ex → St → Option AV) (u25 : Int) (w2 w3 : Nat) (w5 : Ge) (wz w4 : Nat) (wf : Ge) (qk9 u26 : Int) :
    exec Pr (Gbars_Check wi zt) (Lbars_Check wi zt fuel) (fnNt Pr 12) fuel (Cbars_Check wi zt fuel) (lp Pr 12 0).1 (lp Pr 12 0).2 (live (lp Pr 12 0).1 (lp Pr 12 0).2 0) (Sbars_Check_0 u25 u26 w2 w3 w5 wz w4 wf) (fun e s => match e with | .normal => kn (headN (live (lp Pr 12 0).1 (lp Pr 12 0).2 0) (writes (lp Pr 12 0).1) (Sbars_Check_0 u25 qk9 w2 w3 w5 wz w4 wf) s) | e => K e s) =
    gbars_Check_l0_step wi zt fuel (fun u26 => kn (Sbars_Check_0 u25 u26 w2 w3 w5 wz w4 wf)) (fun xu2 xu3 zk zl zm zo zn zp => K (Ex.ret) (Xbars_Check_0_0 xu2 xu3 zk zl zm zo zn zp)) (fun zk zl zm zo zn zp => K (Ex.exit 1) (Xbars_Check_0_1 zk zl zm zo zn zp)) u25 w2 w3 w5 wz w4 wf u26 := by kernel_rfl
theorem gbars_Check_l0_ok (wi zt : Mo) (fuel : Nat) (K : Ex → St → Option AV) (u25 : Int) (w2 w3 : Nat) (w5 : Ge) (wz w4 : Nat) (wf : Ge) (qk9 : Int) : ∀ (n' : Nat) (u26 : Int),
    loopK (exec Pr (Gbars_Check wi zt) (Lbars_Check wi zt fuel) (fnNt Pr 12) fuel (Cbars_Check wi zt fuel) (lp Pr 12 0).1 (lp Pr 12 0).2 (live (lp Pr 12 0).1 (lp Pr 12 0).2 0)) (headN (live (lp Pr 12 0).1 (lp Pr 12 0).2 0) (writes (lp Pr 12 0).1) (Sbars_Check_0 u25 qk9 w2 w3 w5 wz w4 wf)) n' (Sbars_Check_0 u25 u26 w2 w3 w5 wz w4 wf) K = gbars_Check_l0 wi zt fuel (fun xu2 xu3 zk zl zm zo zn zp => K (Ex.ret) (Xbars_Check_0_0 xu2 xu3 zk zl zm zo zn zp)) (fun zk zl zm zo zn zp => K (Ex.exit 1) (Xbars_Check_0_1 zk zl zm zo zn zp)) u25 w2 w3 w5 wz w4 wf n' u26
  | 0, _ => rfl
  | n' + 1, u26 => (gbars_Check_l0_eq wi zt fuel (fun s => loopK (exec Pr (Gbars_Check wi zt) (Lbars_Check wi zt fuel) (fnNt Pr 12) fuel (Cbars_Check wi zt fuel) (lp Pr 12 0).1 (lp Pr 12 0).2 (live (lp Pr 12 0).1 (lp Pr 12 0).2 0)) (headN (live (lp Pr 12 0).1 (lp Pr 12 0).2 0) (writes (lp Pr 12 0).1) (Sbars_Check_0 u25 qk9 w2 w3 w5 wz w4 wf)) n' s K) K u25 w2 w3 w5 wz w4 wf qk9 u26).trans
    (congrArg (fun kn => gbars_Check_l0_step wi zt fuel kn (fun xu2 xu3 zk zl zm zo zn zp => K (Ex.ret) (Xbars_Check_0_0 xu2 xu3 zk zl zm zo zn zp)) (fun zk zl zm zo zn zp => K (Ex.exit 1) (Xbars_Check_0_1 zk zl zm zo zn zp)) u25 w2 w3 w5 wz w4 wf u26) (funext fun _ => gbars_Check_l0_ok wi zt fuel K u25 w2 w3 w5 wz w4 wf qk9 n' _))
theorem gbars_Check_L0 (wi zt : Mo) (fuel : Nat) : LOk Pr (Gbars_Check wi zt) (Lbars_Check wi zt fuel) (fnNt Pr 12) fuel (Cbars_Check wi zt fuel) (lp Pr 12 0) := by
  refine .of Tbars_Check_0 (Fbars_Check_0 wi zt fuel) (fun L h => ?_) (fun ps st K r he hr => ?_)
  · have e : (Lbars_Check wi zt fuel).get (writes (lp Pr 12 0).1) = some (lam Tbars_Check_0 (Fbars_Check_0 wi zt fuel)) := by kernel_rfl
    exact (Option.some.inj (e.symm.trans h)).symm
  · unfold Fbars_Check_0 at hr
    split at hr
    · obtain rfl := (Option.some.inj he).symm
      exact (gbars_Check_l0_ok wi zt fuel K _ _ _ _ _ _ _ _ fuel _).trans hr
    · cases hr
noncomputable def gbars_Check (wi zt : Mo) (fuel zi z1 : Nat) (wq : Ge) (zv zy : Nat) (w1 : Ge) : Option AV :=
  let r0 : Option AV := wi [AV.ro 4 zi z1 wq]; ck (okM [RS.one (LK.i .i64), RS.one (LK.i .i64)] r0) <| bif toI ((toT (getV r0)).headD AV.dead) != 0 then some (AV.tup [AV.int .i64 (toI ((toT (getV r0)).headD AV.dead)), AV.int .i64 (toI ((toT (getV r0)).tail.headD AV.dead))])
  else bif decide ((↑zv : Int) > 48) then some (AV.tup [AV.int .i64 3, AV.int .i64 0])
  else gbars_Check_l0 wi zt fuel
    (fun (xu2 xu3 : Int) (_ _ : Nat) (_ : Ge) (_ _ : Nat) (_ : Ge) => some (AV.tup [AV.int .i64 xu2, AV.int .i64 xu3]))
    (fun (_ _ : Nat) (_ : Ge) (_ _ : Nat) (_ : Ge) => some (AV.tup [AV.int .i64 0, AV.int .i64 0]))
    ((↑zv : Int))
    (zi)
    (z1)
    (wq)
    (zv)
    (zy)
    (w1) fuel (0)
theorem gbars_Check_run (wi zt : Mo) (fuel zi z1 : Nat) (wq : Ge) (zv zy : Nat) (w1 : Ge) : run Pr (Gbars_Check wi zt) [((6, 12), Lbars_Check wi zt fuel)] fuel 7 12 [AV.agg [AV.ro 4 zi z1 wq, AV.ro 9 zv zy w1]] = gbars_Check wi zt fuel zi z1 wq zv zy w1 := by kernel_rfl
noncomputable def mbars_Check (wi zt : Mo) (fuel : Nat) (xs : List AV) : Option AV := match xs with
  | [AV.agg [AV.ro 4 zi z1 wq, AV.ro 9 zv zy w1]] => gbars_Check wi zt fuel zi z1 wq zv zy w1
  | _ => none
abbrev Rbars_Check : List RS := [RS.one (LK.i .i64), RS.one (LK.i .i64)]
theorem gbars_Check_sm (wi zt : Mo) (fuel : Nat) (hΓ : GamOk Pr (Gbars_Check wi zt)) (hP : NamesOk Pr) : SmOk Pr 12 (smM Rbars_Check (mbars_Check wi zt fuel)) := by
  refine smM_ok (fuel := fuel) hΓ hP (LamOk.of 6 12 (Lbars_Check wi zt fuel) 1 (by kernel_rfl) (fun i hi => ?_)) 7 12 Rbars_Check _ (fun xs v h => ?_)
  · match i, hi with
    | 0, _ => exact gbars_Check_L0 wi zt fuel
    | i + 1, hi => exact absurd hi (by omega)
  · unfold mbars_Check at h
    split at h
    · exact (gbars_Check_run wi zt fuel _ _ _ _ _ _).trans h
    · cases h
noncomputable def Ljoints_Apart (qu : Mo) (fuel : Nat) : Lam AV := []
noncomputable def Gjoints_Apart (qu : Mo) : Gam := [(51, smM [RS.one LK.b] qu)]
noncomputable def Cjoints_Apart (qu : Mo) (fuel : Nat) : CallI AV := callX (Gjoints_Apart qu) (execFn Pr (Gjoints_Apart qu) [((6, 30), Ljoints_Apart qu fuel)] fuel 6)
noncomputable def gjoints_Apart (qu : Mo) (fuel : Nat) (q9 : ByteArray) (wl y9 pr : Int) (wa : ByteArray) (wj y8 pv : Int) : Option AV :=
  ck (okM [RS.one LK.b] (qu [AV.ro 1 4 4 fun (i j : Nat) => ([[AV.int .i32 wl], [AV.int .i32 y9], [AV.int .i32 wj], [AV.int .i32 y8]].getD i []).getD j AV.dead])) <| bif !toB (getV (qu [AV.ro 1 4 4 fun (i j : Nat) => ([[AV.int .i32 wl], [AV.int .i32 y9], [AV.int .i32 wj], [AV.int .i32 y8]].getD i []).getD j AV.dead])) then some (AV.tup [AV.int .i64 0, AV.int .i64 0, AV.int .i64 0])
  else some (AV.tup [AV.int .i64 (IntKind.i64.wrap (IntKind.i32.wrap (wj - wl))), AV.int .i64 (IntKind.i64.wrap (IntKind.i32.wrap (y8 - y9))), AV.int .i64 (IntKind.i64.wrap (IntKind.i64.wrap (IntKind.i64.wrap (IntKind.i32.wrap (wj - wl)) * IntKind.i64.wrap (IntKind.i32.wrap (wj - wl))) + IntKind.i64.wrap (IntKind.i64.wrap (IntKind.i32.wrap (y8 - y9)) * IntKind.i64.wrap (IntKind.i32.wrap (y8 - y9)))))])
theorem gjoints_Apart_run (qu : Mo) (fuel : Nat) (q9 : ByteArray) (wl y9 pr : Int) (wa : ByteArray) (wj y8 pv : Int) : run Pr (Gjoints_Apart qu) [((6, 30), Ljoints_Apart qu fuel)] fuel 7 30 [AV.agg [AV.str q9, AV.int .i32 wl, AV.int .i32 y9, AV.int .u8 pr], AV.agg [AV.str wa, AV.int .i32 wj, AV.int .i32 y8, AV.int .u8 pv]] = gjoints_Apart qu fuel q9 wl y9 pr wa wj y8 pv := by kernel_rfl
noncomputable def mjoints_Apart (qu : Mo) (fuel : Nat) (xs : List AV) : Option AV := match xs with
  | [AV.agg [AV.str q9, AV.int .i32 wl, AV.int .i32 y9, AV.int .u8 pr], AV.agg [AV.str wa, AV.int .i32 wj, AV.int .i32 y8, AV.int .u8 pv]] => gjoints_Apart qu fuel q9 wl y9 pr wa wj y8 pv
  | _ => none
abbrev Rjoints_Apart : List RS := [RS.one (LK.i .i64), RS.one (LK.i .i64), RS.one (LK.i .i64)]
theorem gjoints_Apart_sm (qu : Mo) (fuel : Nat) (hΓ : GamOk Pr (Gjoints_Apart qu)) (hP : NamesOk Pr) : SmOk Pr 30 (smM Rjoints_Apart (mjoints_Apart qu fuel)) := by
  refine smM_ok (fuel := fuel) hΓ hP (LamOk.of 6 30 (Ljoints_Apart qu fuel) 0 (by kernel_rfl) (fun i hi => ?_)) 7 30 Rjoints_Apart _ (fun xs v h => ?_)
  · match i, hi with
    | i + 0, hi => exact absurd hi (by omega)
  · unfold mjoints_Apart at h
    split at h
    · exact (gjoints_Apart_run qu fuel _ _ _ _ _ _ _ _).trans h
    · cases h
noncomputable def Lround_way (fuel : Nat) : Lam AV := []
noncomputable def Ground_way : Gam := []
noncomputable def Cround_way (fuel : Nat) : CallI AV := callX (Ground_way) (execFn Pr (Ground_way) [((6, 65), Lround_way fuel)] fuel 6)
noncomputable def ground_way (fuel : Nat) (um0 : Int) : Option AV :=
  bif bif decide (um0 < 0) then true else decide (um0 > 3) then some (AV.int .i8 0)
  else some (AV.int .i8 um0)
theorem ground_way_run (fuel : Nat) (um0 : Int) : run Pr (Ground_way) [((6, 65), Lround_way fuel)] fuel 7 65 [AV.int .i8 um0] = ground_way fuel um0 := by kernel_rfl
noncomputable def mround_way (fuel : Nat) (xs : List AV) : Option AV := match xs with
  | [AV.int .i8 um0] => ground_way fuel um0
  | _ => none
abbrev Rround_way : List RS := [RS.one (LK.i .i8)]
theorem ground_way_sm (fuel : Nat) (hΓ : GamOk Pr (Ground_way)) (hP : NamesOk Pr) : SmOk Pr 65 (smM Rround_way (mround_way fuel)) := by
  refine smM_ok (fuel := fuel) hΓ hP (LamOk.of 6 65 (Lround_way fuel) 0 (by kernel_rfl) (fun i hi => ?_)) 7 65 Rround_way _ (fun xs v h => ?_)
  · match i, hi with
    | i + 0, hi => exact absurd hi (by omega)
  · unfold mround_way at h
    split at h
    · exact (ground_way_run fuel _).trans h
    · cases h
noncomputable def Lmath_Sqrt (fuel : Nat) : Lam AV := []
noncomputable def Gmath_Sqrt : Gam := [(95, Go.Am.sSqrt)]
noncomputable def Cmath_Sqrt (fuel : Nat) : CallI AV := callX (Gmath_Sqrt) (execFn Pr (Gmath_Sqrt) [((6, 66), Lmath_Sqrt fuel)] fuel 6)
noncomputable def gmath_Sqrt (fuel : Nat) (ux0 : Option Nat) : Option AV :=
  ck (sSqrt.ok [AV.flt .f64 ux0]) <| some (AV.flt .f64 (ux0.bind fun (x : Nat) => FloatKind.f64.format.sqrt x))
theorem gmath_Sqrt_run (fuel : Nat) (ux0 : Option Nat) : run Pr (Gmath_Sqrt) [((6, 66), Lmath_Sqrt fuel)] fuel 7 66 [AV.flt .f64 ux0] = gmath_Sqrt fuel ux0 := by kernel_rfl
noncomputable def mmath_Sqrt (fuel : Nat) (xs : List AV) : Option AV := match xs with
  | [AV.flt .f64 ux0] => gmath_Sqrt fuel ux0
  | _ => none
abbrev Rmath_Sqrt : List RS := [RS.one (LK.f .f64)]
theorem gmath_Sqrt_sm (fuel : Nat) (hΓ : GamOk Pr (Gmath_Sqrt)) (hP : NamesOk Pr) : SmOk Pr 66 (smM Rmath_Sqrt (mmath_Sqrt fuel)) := by
  refine smM_ok (fuel := fuel) hΓ hP (LamOk.of 6 66 (Lmath_Sqrt fuel) 0 (by kernel_rfl) (fun i hi => ?_)) 7 66 Rmath_Sqrt _ (fun xs v h => ?_)
  · match i, hi with
    | i + 0, hi => exact absurd hi (by omega)
  · unfold mmath_Sqrt at h
    split at h
    · exact (gmath_Sqrt_run fuel _).trans h
    · cases h
noncomputable def Lmath_IsNaN (fuel : Nat) : Lam AV := []
noncomputable def Gmath_IsNaN : Gam := []
noncomputable def Cmath_IsNaN (fuel : Nat) : CallI AV := callX (Gmath_IsNaN) (execFn Pr (Gmath_IsNaN) [((6, 96), Lmath_IsNaN fuel)] fuel 6)
noncomputable def gmath_IsNaN (fuel : Nat) (uf0 : Option Nat) : Option AV :=
  some (AV.bool (ford .f64 uf0 uf0 != some Ordering.eq))
theorem gmath_IsNaN_run (fuel : Nat) (uf0 : Option Nat) : run Pr (Gmath_IsNaN) [((6, 96), Lmath_IsNaN fuel)] fuel 7 96 [AV.flt .f64 uf0] = gmath_IsNaN fuel uf0 := by kernel_rfl
noncomputable def mmath_IsNaN (fuel : Nat) (xs : List AV) : Option AV := match xs with
  | [AV.flt .f64 uf0] => gmath_IsNaN fuel uf0
  | _ => none
abbrev Rmath_IsNaN : List RS := [RS.one LK.b]
theorem gmath_IsNaN_sm (fuel : Nat) (hΓ : GamOk Pr (Gmath_IsNaN)) (hP : NamesOk Pr) : SmOk Pr 96 (smM Rmath_IsNaN (mmath_IsNaN fuel)) := by
  refine smM_ok (fuel := fuel) hΓ hP (LamOk.of 6 96 (Lmath_IsNaN fuel) 0 (by kernel_rfl) (fun i hi => ?_)) 7 96 Rmath_IsNaN _ (fun xs v h => ?_)
  · match i, hi with
    | i + 0, hi => exact absurd hi (by omega)
  · unfold mmath_IsNaN at h
    split at h
    · exact (gmath_IsNaN_run fuel _).trans h
    · cases h
noncomputable def Lmath_Abs (fuel : Nat) : Lam AV := []
noncomputable def Gmath_Abs : Gam := [(54, Go.Am.sBits), (118, Go.Am.sFrom)]
noncomputable def Cmath_Abs (fuel : Nat) : CallI AV := callX (Gmath_Abs) (execFn Pr (Gmath_Abs) [((6, 106), Lmath_Abs fuel)] fuel 6)
noncomputable def gmath_Abs (fuel : Nat) (ux0 : Option Nat) : Option AV :=
  ck (sBits.ok [AV.flt .f64 ux0]) <| ck (sFrom.ok [AV.int .u64 (IntKind.u64.wrap (↑(BitVec.ofInt 64 (↑(ux0.getD 0) : Int) &&& ~~~BitVec.ofInt 64 9223372036854775808).toNat : Int))]) <| some (AV.flt .f64 (some (IntKind.u64.wrap (↑(BitVec.ofInt 64 (↑(ux0.getD 0) : Int) &&& ~~~BitVec.ofInt 64 9223372036854775808).toNat : Int)).toNat))
theorem gmath_Abs_run (fuel : Nat) (ux0 : Option Nat) : run Pr (Gmath_Abs) [((6, 106), Lmath_Abs fuel)] fuel 7 106 [AV.flt .f64 ux0] = gmath_Abs fuel ux0 := by kernel_rfl
noncomputable def mmath_Abs (fuel : Nat) (xs : List AV) : Option AV := match xs with
  | [AV.flt .f64 ux0] => gmath_Abs fuel ux0
  | _ => none
abbrev Rmath_Abs : List RS := [RS.one (LK.f .f64)]
theorem gmath_Abs_sm (fuel : Nat) (hΓ : GamOk Pr (Gmath_Abs)) (hP : NamesOk Pr) : SmOk Pr 106 (smM Rmath_Abs (mmath_Abs fuel)) := by
  refine smM_ok (fuel := fuel) hΓ hP (LamOk.of 6 106 (Lmath_Abs fuel) 0 (by kernel_rfl) (fun i hi => ?_)) 7 106 Rmath_Abs _ (fun xs v h => ?_)
  · match i, hi with
    | i + 0, hi => exact absurd hi (by omega)
  · unfold mmath_Abs at h
    split at h
    · exact (gmath_Abs_run fuel _).trans h
    · cases h
noncomputable def Lmath_IsInf (w6 : Mo) (fuel : Nat) : Lam AV := []
noncomputable def Gmath_IsInf (w6 : Mo) : Gam := [(106, smM [RS.one (LK.f .f64)] w6)]
noncomputable def Cmath_IsInf (w6 : Mo) (fuel : Nat) : CallI AV := callX (Gmath_IsInf w6) (execFn Pr (Gmath_IsInf w6) [((6, 97), Lmath_IsInf w6 fuel)] fuel 6)
noncomputable def gmath_IsInf (w6 : Mo) (fuel : Nat) (uf0 : Option Nat) (qea : Int) : Option AV :=
  bif qea == 0 then ck (okM [RS.one (LK.f .f64)] (w6 [AV.flt .f64 uf0])) <| some (AV.bool (ford .f64 (toF (getV (w6 [AV.flt .f64 uf0]))) (some 9218868437227405311) == some Ordering.gt))
  else bif decide (qea < 0) then some (AV.bool (ford .f64 (Option.map (Op.negFloat .f64) uf0) (some 9218868437227405311) == some Ordering.gt))
  else some (AV.bool (ford .f64 uf0 (some 9218868437227405311) == some Ordering.gt))
theorem gmath_IsInf_run (w6 : Mo) (fuel : Nat) (uf0 : Option Nat) (qea : Int) : run Pr (Gmath_IsInf w6) [((6, 97), Lmath_IsInf w6 fuel)] fuel 7 97 [AV.flt .f64 uf0, AV.int .i64 qea] = gmath_IsInf w6 fuel uf0 qea := by kernel_rfl
noncomputable def mmath_IsInf (w6 : Mo) (fuel : Nat) (xs : List AV) : Option AV := match xs with
  | [AV.flt .f64 uf0, AV.int .i64 qea] => gmath_IsInf w6 fuel uf0 qea
  | _ => none
abbrev Rmath_IsInf : List RS := [RS.one LK.b]
theorem gmath_IsInf_sm (w6 : Mo) (fuel : Nat) (hΓ : GamOk Pr (Gmath_IsInf w6)) (hP : NamesOk Pr) : SmOk Pr 97 (smM Rmath_IsInf (mmath_IsInf w6 fuel)) := by
  refine smM_ok (fuel := fuel) hΓ hP (LamOk.of 6 97 (Lmath_IsInf w6 fuel) 0 (by kernel_rfl) (fun i hi => ?_)) 7 97 Rmath_IsInf _ (fun xs v h => ?_)
  · match i, hi with
    | i + 0, hi => exact absurd hi (by omega)
  · unfold mmath_IsInf at h
    split at h
    · exact (gmath_IsInf_run w6 fuel _ _).trans h
    · cases h
noncomputable def Sround_finite_0 (u5n u5r : Nat) (u5g : Ge) (u6 u7 : Int) : St := { env := [(5, AV.ro 1 u5n u5r u5g), (6, AV.int .i64 u6), (7, AV.int .i64 u7)], h := [], kd := [] }
noncomputable def Xround_finite_0_0 (pf : Bool) : St := { env := [(2, AV.bool pf)], h := [], kd := [] }
noncomputable def Xround_finite_0_1 : St := { env := [], h := [], kd := [] }
noncomputable def ground_finite_l0_step (wy qg : Mo) (fuel : Nat) (kn : Int → Option AV) (kx0 : Bool → Option AV) (kx1 : Option AV) (u5n u5r : Nat) (u5g : Ge) (u6 u7 : Int) : Option AV :=
  bif decide (u7 < u6) then ck (decide (0 ≤ u7)) <| ck (decide (u7 < (↑u5n : Int))) <| ck (fitK (LK.f .f64) (u5g u7.toNat 0)) <| ck (okM [RS.one LK.b] (wy [AV.flt .f64 (toF (u5g u7.toNat 0))])) <| ck (bif !toB (getV (wy [AV.flt .f64 (toF (u5g u7.toNat 0))])) then okM [RS.one LK.b] (qg [AV.flt .f64 (toF (u5g u7.toNat 0)), AV.int .i64 0]) else true) <| bif bif toB (getV (wy [AV.flt .f64 (toF (u5g u7.toNat 0))])) then true else toB (getV (qg [AV.flt .f64 (toF (u5g u7.toNat 0)), AV.int .i64 0])) then kx0 (false)
    else kn (IntKind.i64.wrap (u7 + 1))
  else kx1
noncomputable def ground_finite_l0 (wy qg : Mo) (fuel : Nat) (kx0 : Bool → Option AV) (kx1 : Option AV) (u5n u5r : Nat) (u5g : Ge) (u6 : Int) : Nat → Int → Option AV
  | 0, _ => none
  | n' + 1, u7 => ground_finite_l0_step wy qg fuel (ground_finite_l0 wy qg fuel kx0 kx1 u5n u5r u5g u6 n') kx0 kx1 u5n u5r u5g u6 u7
noncomputable def Tround_finite_0 : TS' := ⟨[(5, TA.ro 1), (6, TA.i .i64), (7, TA.i .i64)], [], []⟩
noncomputable def Fround_finite_0 (wy qg : Mo) (fuel : Nat) (ps : List Pay) (K : Ex → St → Option AV) : Option AV := match ps with
  | .n u5n :: .n u5r :: .g u5g :: .i u6 :: .i u7 :: [] => ground_finite_l0 wy qg fuel (fun pf => K (Ex.ret) (Xround_finite_0_0 pf)) (K (Ex.exit 0) Xround_finite_0_1) u5n u5r u5g u6 fuel u7
  | _ => none
noncomputable def Lround_finite (wy qg : Mo) (fuel : Nat) : Lam AV := [(262036, lam Tround_finite_0 (Fround_finite_0 wy qg fuel))]
noncomputable def Ground_finite (wy qg : Mo) : Gam := [(96, smM [RS.one LK.b] wy), (97, smM [RS.one LK.b] qg)]
noncomputable def Cround_finite (wy qg : Mo) (fuel : Nat) : CallI AV := callX (Ground_finite wy qg) (execFn Pr (Ground_finite wy qg) [((6, 67), Lround_finite wy qg fuel)] fuel 6)
theorem ground_finite_l0_eq (wy qg : Mo) (fuel : Nat) (kn : St → Option AV) (K : Ex → St → Option AV) (u5n u5r : Nat) (u5g : Ge) (u6 u70 u7 : Int) :
    exec Pr (Ground_finite wy qg) (Lround_finite wy qg fuel) (fnNt Pr 67) fuel (Cround_finite wy qg fuel) (lp Pr 67 0).1 (lp Pr 67 0).2 (live (lp Pr 67 0).1 (lp Pr 67 0).2 0) (Sround_finite_0 u5n u5r u5g u6 u7) (fun e s => match e with | .normal => kn (headN (live (lp Pr 67 0).1 (lp Pr 67 0).2 0) (writes (lp Pr 67 0).1) (Sround_finite_0 u5n u5r u5g u6 u70) s) | e => K e s) =
    ground_finite_l0_step wy qg fuel (fun u7 => kn (Sround_finite_0 u5n u5r u5g u6 u7)) (fun xu2 => K (Ex.ret) (Xround_finite_0_0 xu2)) (K (Ex.exit 0) Xround_finite_0_1) u5n u5r u5g u6 u7 := by kernel_rfl
theorem ground_finite_l0_ok (wy qg : Mo) (fuel : Nat) (K : Ex → St → Option AV) (u5n u5r : Nat) (u5g : Ge) (u6 u70 : Int) : ∀ (n' : Nat) (u7 : Int),
    loopK (exec Pr (Ground_finite wy qg) (Lround_finite wy qg fuel) (fnNt Pr 67) fuel (Cround_finite wy qg fuel) (lp Pr 67 0).1 (lp Pr 67 0).2 (live (lp Pr 67 0).1 (lp Pr 67 0).2 0)) (headN (live (lp Pr 67 0).1 (lp Pr 67 0).2 0) (writes (lp Pr 67 0).1) (Sround_finite_0 u5n u5r u5g u6 u70)) n' (Sround_finite_0 u5n u5r u5g u6 u7) K = ground_finite_l0 wy qg fuel (fun xu2 => K (Ex.ret) (Xround_finite_0_0 xu2)) (K (Ex.exit 0) Xround_finite_0_1) u5n u5r u5g u6 n' u7
  | 0, _ => rfl
  | n' + 1, u7 => (ground_finite_l0_eq wy qg fuel (fun s => loopK (exec Pr (Ground_finite wy qg) (Lround_finite wy qg fuel) (fnNt Pr 67) fuel (Cround_finite wy qg fuel) (lp Pr 67 0).1 (lp Pr 67 0).2 (live (lp Pr 67 0).1 (lp Pr 67 0).2 0)) (headN (live (lp Pr 67 0).1 (lp Pr 67 0).2 0) (writes (lp Pr 67 0).1) (Sround_finite_0 u5n u5r u5g u6 u70)) n' s K) K u5n u5r u5g u6 u70 u7).trans
    (congrArg (fun kn => ground_finite_l0_step wy qg fuel kn (fun xu2 => K (Ex.ret) (Xround_finite_0_0 xu2)) (K (Ex.exit 0) Xround_finite_0_1) u5n u5r u5g u6 u7) (funext fun _ => ground_finite_l0_ok wy qg fuel K u5n u5r u5g u6 u70 n' _))
theorem ground_finite_L0 (wy qg : Mo) (fuel : Nat) : LOk Pr (Ground_finite wy qg) (Lround_finite wy qg fuel) (fnNt Pr 67) fuel (Cround_finite wy qg fuel) (lp Pr 67 0) := by
  refine .of Tround_finite_0 (Fround_finite_0 wy qg fuel) (fun L h => ?_) (fun ps st K r he hr => ?_)
  · have e : (Lround_finite wy qg fuel).get (writes (lp Pr 67 0).1) = some (lam Tround_finite_0 (Fround_finite_0 wy qg fuel)) := by kernel_rfl
    exact (Option.some.inj (e.symm.trans h)).symm
  · unfold Fround_finite_0 at hr
    split at hr
    · obtain rfl := (Option.some.inj he).symm
      exact (ground_finite_l0_ok wy qg fuel K _ _ _ _ _ fuel _).trans hr
    · cases hr
noncomputable def ground_finite (wy qg : Mo) (fuel yn p6 : Nat) (pu : Ge) : Option AV :=
  ground_finite_l0 wy qg fuel
    (fun (xu2 : Bool) => some (AV.bool xu2))
    (some (AV.bool true))
    (yn)
    (p6)
    (pu)
    ((↑yn : Int)) fuel (0)
theorem ground_finite_run (wy qg : Mo) (fuel yn p6 : Nat) (pu : Ge) : run Pr (Ground_finite wy qg) [((6, 67), Lround_finite wy qg fuel)] fuel 7 67 [AV.ro 1 yn p6 pu] = ground_finite wy qg fuel yn p6 pu := by kernel_rfl
noncomputable def mround_finite (wy qg : Mo) (fuel : Nat) (xs : List AV) : Option AV := match xs with
  | [AV.ro 1 yn p6 pu] => ground_finite wy qg fuel yn p6 pu
  | _ => none
abbrev Rround_finite : List RS := [RS.one LK.b]
theorem ground_finite_sm (wy qg : Mo) (fuel : Nat) (hΓ : GamOk Pr (Ground_finite wy qg)) (hP : NamesOk Pr) : SmOk Pr 67 (smM Rround_finite (mround_finite wy qg fuel)) := by
  refine smM_ok (fuel := fuel) hΓ hP (LamOk.of 6 67 (Lround_finite wy qg fuel) 1 (by kernel_rfl) (fun i hi => ?_)) 7 67 Rround_finite _ (fun xs v h => ?_)
  · match i, hi with
    | 0, _ => exact ground_finite_L0 wy qg fuel
    | i + 1, hi => exact absurd hi (by omega)
  · unfold mround_finite at h
    split at h
    · exact (ground_finite_run wy qg fuel _ _ _).trans h
    · cases h
noncomputable def Sround_plain_0 (u6n u6r : Nat) (u6g : Ge) (u7 u8 : Int) : St := { env := [(6, AV.ro 1 u6n u6r u6g), (7, AV.int .i64 u7), (8, AV.int .i64 u8)], h := [], kd := [] }
noncomputable def Xround_plain_0_0 (pf : Bool) : St := { env := [(2, AV.bool pf)], h := [], kd := [] }
noncomputable def Xround_plain_0_1 : St := { env := [], h := [], kd := [] }
noncomputable def ground_plain_l0_step (fuel : Nat) (kn : Int → Option AV) (kx0 : Bool → Option AV) (kx1 : Option AV) (u6n u6r : Nat) (u6g : Ge) (u7 u8 : Int) : Option AV :=
  bif decide (u8 < u7) then ck (decide (0 ≤ u8)) <| ck (decide (u8 < (↑u6n : Int))) <| ck (fitK (LK.f .f64) (u6g u8.toNat 0)) <| ck (sBits.ok [AV.flt .f64 (toF (u6g u8.toNat 0))]) <| bif bif decide (IntKind.u64.wrap (↑(BitVec.ofInt 64 ((↑((toF (u6g u8.toNat 0)).getD 0) : Int).fdiv (2 ^ 52)) &&& BitVec.ofInt 64 2047).toNat : Int) < 200) then true else decide (IntKind.u64.wrap (↑(BitVec.ofInt 64 ((↑((toF (u6g u8.toNat 0)).getD 0) : Int).fdiv (2 ^ 52)) &&& BitVec.ofInt 64 2047).toNat : Int) > 1900) then kx0 (false)
    else kn (IntKind.i64.wrap (u8 + 1))
  else kx1
noncomputable def ground_plain_l0 (fuel : Nat) (kx0 : Bool → Option AV) (kx1 : Option AV) (u6n u6r : Nat) (u6g : Ge) (u7 : Int) : Nat → Int → Option AV
  | 0, _ => none
  | n' + 1, u8 => ground_plain_l0_step fuel (ground_plain_l0 fuel kx0 kx1 u6n u6r u6g u7 n') kx0 kx1 u6n u6r u6g u7 u8
noncomputable def Tround_plain_0 : TS' := ⟨[(6, TA.ro 1), (7, TA.i .i64), (8, TA.i .i64)], [], []⟩
noncomputable def Fround_plain_0 (fuel : Nat) (ps : List Pay) (K : Ex → St → Option AV) : Option AV := match ps with
  | .n u6n :: .n u6r :: .g u6g :: .i u7 :: .i u8 :: [] => ground_plain_l0 fuel (fun pf => K (Ex.ret) (Xround_plain_0_0 pf)) (K (Ex.exit 0) Xround_plain_0_1) u6n u6r u6g u7 fuel u8
  | _ => none
noncomputable def Lround_plain (fuel : Nat) : Lam AV := [(8388404, lam Tround_plain_0 (Fround_plain_0 fuel))]
noncomputable def Ground_plain : Gam := [(54, Go.Am.sBits)]
noncomputable def Cround_plain (fuel : Nat) : CallI AV := callX (Ground_plain) (execFn Pr (Ground_plain) [((6, 68), Lround_plain fuel)] fuel 6)
theorem ground_plain_l0_eq (fuel : Nat) (kn : St → Option AV) (K : Ex → St → Option AV) (u6n u6r : Nat) (u6g : Ge) (u7 u80 u8 : Int) :
    exec Pr (Ground_plain) (Lround_plain fuel) (fnNt Pr 68) fuel (Cround_plain fuel) (lp Pr 68 0).1 (lp Pr 68 0).2 (live (lp Pr 68 0).1 (lp Pr 68 0).2 0) (Sround_plain_0 u6n u6r u6g u7 u8) (fun e s => match e with | .normal => kn (headN (live (lp Pr 68 0).1 (lp Pr 68 0).2 0) (writes (lp Pr 68 0).1) (Sround_plain_0 u6n u6r u6g u7 u80) s) | e => K e s) =
    ground_plain_l0_step fuel (fun u8 => kn (Sround_plain_0 u6n u6r u6g u7 u8)) (fun xu2 => K (Ex.ret) (Xround_plain_0_0 xu2)) (K (Ex.exit 0) Xround_plain_0_1) u6n u6r u6g u7 u8 := by kernel_rfl
theorem ground_plain_l0_ok (fuel : Nat) (K : Ex → St → Option AV) (u6n u6r : Nat) (u6g : Ge) (u7 u80 : Int) : ∀ (n' : Nat) (u8 : Int),
    loopK (exec Pr (Ground_plain) (Lround_plain fuel) (fnNt Pr 68) fuel (Cround_plain fuel) (lp Pr 68 0).1 (lp Pr 68 0).2 (live (lp Pr 68 0).1 (lp Pr 68 0).2 0)) (headN (live (lp Pr 68 0).1 (lp Pr 68 0).2 0) (writes (lp Pr 68 0).1) (Sround_plain_0 u6n u6r u6g u7 u80)) n' (Sround_plain_0 u6n u6r u6g u7 u8) K = ground_plain_l0 fuel (fun xu2 => K (Ex.ret) (Xround_plain_0_0 xu2)) (K (Ex.exit 0) Xround_plain_0_1) u6n u6r u6g u7 n' u8
  | 0, _ => rfl
  | n' + 1, u8 => (ground_plain_l0_eq fuel (fun s => loopK (exec Pr (Ground_plain) (Lround_plain fuel) (fnNt Pr 68) fuel (Cround_plain fuel) (lp Pr 68 0).1 (lp Pr 68 0).2 (live (lp Pr 68 0).1 (lp Pr 68 0).2 0)) (headN (live (lp Pr 68 0).1 (lp Pr 68 0).2 0) (writes (lp Pr 68 0).1) (Sround_plain_0 u6n u6r u6g u7 u80)) n' s K) K u6n u6r u6g u7 u80 u8).trans
    (congrArg (fun kn => ground_plain_l0_step fuel kn (fun xu2 => K (Ex.ret) (Xround_plain_0_0 xu2)) (K (Ex.exit 0) Xround_plain_0_1) u6n u6r u6g u7 u8) (funext fun _ => ground_plain_l0_ok fuel K u6n u6r u6g u7 u80 n' _))
theorem ground_plain_L0 (fuel : Nat) : LOk Pr (Ground_plain) (Lround_plain fuel) (fnNt Pr 68) fuel (Cround_plain fuel) (lp Pr 68 0) := by
  refine .of Tround_plain_0 (Fround_plain_0 fuel) (fun L h => ?_) (fun ps st K r he hr => ?_)
  · have e : (Lround_plain fuel).get (writes (lp Pr 68 0).1) = some (lam Tround_plain_0 (Fround_plain_0 fuel)) := by kernel_rfl
    exact (Option.some.inj (e.symm.trans h)).symm
  · unfold Fround_plain_0 at hr
    split at hr
    · obtain rfl := (Option.some.inj he).symm
      exact (ground_plain_l0_ok fuel K _ _ _ _ _ fuel _).trans hr
    · cases hr
noncomputable def ground_plain (fuel yn p6 : Nat) (pu : Ge) : Option AV :=
  ground_plain_l0 fuel
    (fun (xu2 : Bool) => some (AV.bool xu2))
    (some (AV.bool true))
    (yn)
    (p6)
    (pu)
    ((↑yn : Int)) fuel (0)
theorem ground_plain_run (fuel yn p6 : Nat) (pu : Ge) : run Pr (Ground_plain) [((6, 68), Lround_plain fuel)] fuel 7 68 [AV.ro 1 yn p6 pu] = ground_plain fuel yn p6 pu := by kernel_rfl
noncomputable def mround_plain (fuel : Nat) (xs : List AV) : Option AV := match xs with
  | [AV.ro 1 yn p6 pu] => ground_plain fuel yn p6 pu
  | _ => none
abbrev Rround_plain : List RS := [RS.one LK.b]
theorem ground_plain_sm (fuel : Nat) (hΓ : GamOk Pr (Ground_plain)) (hP : NamesOk Pr) : SmOk Pr 68 (smM Rround_plain (mround_plain fuel)) := by
  refine smM_ok (fuel := fuel) hΓ hP (LamOk.of 6 68 (Lround_plain fuel) 1 (by kernel_rfl) (fun i hi => ?_)) 7 68 Rround_plain _ (fun xs v h => ?_)
  · match i, hi with
    | 0, _ => exact ground_plain_L0 fuel
    | i + 1, hi => exact absurd hi (by omega)
  · unfold mround_plain at h
    split at h
    · exact (ground_plain_run fuel _ _ _).trans h
    · cases h
noncomputable def Lround_sign (fuel : Nat) : Lam AV := []
noncomputable def Ground_sign : Gam := []
noncomputable def Cround_sign (fuel : Nat) : CallI AV := callX (Ground_sign) (execFn Pr (Ground_sign) [((6, 70), Lround_sign fuel)] fuel 6)
noncomputable def ground_sign (fuel : Nat) (ux0 : Option Nat) : Option AV :=
  bif ford .f64 ux0 (some 0) == some Ordering.gt then some (AV.int .i64 1)
  else bif ford .f64 ux0 (some 0) == some Ordering.lt then some (AV.int .i64 (-1))
  else some (AV.int .i64 0)
theorem ground_sign_run (fuel : Nat) (ux0 : Option Nat) : run Pr (Ground_sign) [((6, 70), Lround_sign fuel)] fuel 7 70 [AV.flt .f64 ux0] = ground_sign fuel ux0 := by kernel_rfl
noncomputable def mround_sign (fuel : Nat) (xs : List AV) : Option AV := match xs with
  | [AV.flt .f64 ux0] => ground_sign fuel ux0
  | _ => none
abbrev Rround_sign : List RS := [RS.one (LK.i .i64)]
theorem ground_sign_sm (fuel : Nat) (hΓ : GamOk Pr (Ground_sign)) (hP : NamesOk Pr) : SmOk Pr 70 (smM Rround_sign (mround_sign fuel)) := by
  refine smM_ok (fuel := fuel) hΓ hP (LamOk.of 6 70 (Lround_sign fuel) 0 (by kernel_rfl) (fun i hi => ?_)) 7 70 Rround_sign _ (fun xs v h => ?_)
  · match i, hi with
    | i + 0, hi => exact absurd hi (by omega)
  · unfold mround_sign at h
    split at h
    · exact (ground_sign_run fuel _).trans h
    · cases h
noncomputable def Lmath_Signbit (fuel : Nat) : Lam AV := []
noncomputable def Gmath_Signbit : Gam := [(54, Go.Am.sBits)]
noncomputable def Cmath_Signbit (fuel : Nat) : CallI AV := callX (Gmath_Signbit) (execFn Pr (Gmath_Signbit) [((6, 61), Lmath_Signbit fuel)] fuel 6)
noncomputable def gmath_Signbit (fuel : Nat) (ux0 : Option Nat) : Option AV :=
  ck (sBits.ok [AV.flt .f64 ux0]) <| some (AV.bool (decide (IntKind.i64.wrap (↑(ux0.getD 0) : Int) < 0)))
theorem gmath_Signbit_run (fuel : Nat) (ux0 : Option Nat) : run Pr (Gmath_Signbit) [((6, 61), Lmath_Signbit fuel)] fuel 7 61 [AV.flt .f64 ux0] = gmath_Signbit fuel ux0 := by kernel_rfl
noncomputable def mmath_Signbit (fuel : Nat) (xs : List AV) : Option AV := match xs with
  | [AV.flt .f64 ux0] => gmath_Signbit fuel ux0
  | _ => none
abbrev Rmath_Signbit : List RS := [RS.one LK.b]
theorem gmath_Signbit_sm (fuel : Nat) (hΓ : GamOk Pr (Gmath_Signbit)) (hP : NamesOk Pr) : SmOk Pr 61 (smM Rmath_Signbit (mmath_Signbit fuel)) := by
  refine smM_ok (fuel := fuel) hΓ hP (LamOk.of 6 61 (Lmath_Signbit fuel) 0 (by kernel_rfl) (fun i hi => ?_)) 7 61 Rmath_Signbit _ (fun xs v h => ?_)
  · match i, hi with
    | i + 0, hi => exact absurd hi (by omega)
  · unfold mmath_Signbit at h
    split at h
    · exact (gmath_Signbit_run fuel _).trans h
    · cases h
noncomputable def Lmath_Copysign (fuel : Nat) : Lam AV := []
noncomputable def Gmath_Copysign : Gam := [(54, Go.Am.sBits), (118, Go.Am.sFrom)]
noncomputable def Cmath_Copysign (fuel : Nat) : CallI AV := callX (Gmath_Copysign) (execFn Pr (Gmath_Copysign) [((6, 98), Lmath_Copysign fuel)] fuel 6)
noncomputable def gmath_Copysign (fuel : Nat) (uf0 qea : Option Nat) : Option AV :=
  ck (sBits.ok [AV.flt .f64 uf0]) <| ck (sBits.ok [AV.flt .f64 qea]) <| ck (sFrom.ok [AV.int .u64 (IntKind.u64.wrap (↑(BitVec.ofInt 64 (IntKind.u64.wrap (↑(BitVec.ofInt 64 (↑(uf0.getD 0) : Int) &&& ~~~BitVec.ofInt 64 9223372036854775808).toNat : Int)) ||| BitVec.ofInt 64 (IntKind.u64.wrap (↑(BitVec.ofInt 64 (↑(qea.getD 0) : Int) &&& BitVec.ofInt 64 9223372036854775808).toNat : Int))).toNat : Int))]) <| some (AV.flt .f64 (some (IntKind.u64.wrap (↑(BitVec.ofInt 64 (IntKind.u64.wrap (↑(BitVec.ofInt 64 (↑(uf0.getD 0) : Int) &&& ~~~BitVec.ofInt 64 9223372036854775808).toNat : Int)) ||| BitVec.ofInt 64 (IntKind.u64.wrap (↑(BitVec.ofInt 64 (↑(qea.getD 0) : Int) &&& BitVec.ofInt 64 9223372036854775808).toNat : Int))).toNat : Int)).toNat))
theorem gmath_Copysign_run (fuel : Nat) (uf0 qea : Option Nat) : run Pr (Gmath_Copysign) [((6, 98), Lmath_Copysign fuel)] fuel 7 98 [AV.flt .f64 uf0, AV.flt .f64 qea] = gmath_Copysign fuel uf0 qea := by kernel_rfl
noncomputable def mmath_Copysign (fuel : Nat) (xs : List AV) : Option AV := match xs with
  | [AV.flt .f64 uf0, AV.flt .f64 qea] => gmath_Copysign fuel uf0 qea
  | _ => none
abbrev Rmath_Copysign : List RS := [RS.one (LK.f .f64)]
theorem gmath_Copysign_sm (fuel : Nat) (hΓ : GamOk Pr (Gmath_Copysign)) (hP : NamesOk Pr) : SmOk Pr 98 (smM Rmath_Copysign (mmath_Copysign fuel)) := by
  refine smM_ok (fuel := fuel) hΓ hP (LamOk.of 6 98 (Lmath_Copysign fuel) 0 (by kernel_rfl) (fun i hi => ?_)) 7 98 Rmath_Copysign _ (fun xs v h => ?_)
  · match i, hi with
    | i + 0, hi => exact absurd hi (by omega)
  · unfold mmath_Copysign at h
    split at h
    · exact (gmath_Copysign_run fuel _ _).trans h
    · cases h
noncomputable def Lround_step (fuel : Nat) : Lam AV := []
noncomputable def Ground_step : Gam := [(54, Go.Am.sBits), (118, Go.Am.sFrom)]
noncomputable def Cround_step (fuel : Nat) : CallI AV := callX (Ground_step) (execFn Pr (Ground_step) [((6, 99), Lround_step fuel)] fuel 6)
noncomputable def ground_step (fuel : Nat) (ux0 : Option Nat) (up1 : Bool) : Option AV :=
  ck (sBits.ok [AV.flt .f64 ux0]) <| bif ford .f64 ux0 (some 0) == some Ordering.eq then bif !up1 then ck (sFrom.ok [AV.int .u64 (IntKind.u64.wrap (↑9223372036854775809 : Int))]) <| some (AV.flt .f64 (some 9223372036854775809))
    else ck (sFrom.ok [AV.int .u64 1]) <| some (AV.flt .f64 (some 1))
  else bif up1 == (ford .f64 ux0 (some 0) == some Ordering.gt) then ck (sFrom.ok [AV.int .u64 (IntKind.u64.wrap ((↑(ux0.getD 0) : Int) + 1))]) <| some (AV.flt .f64 (some (IntKind.u64.wrap ((↑(ux0.getD 0) : Int) + 1)).toNat))
  else ck (sFrom.ok [AV.int .u64 (IntKind.u64.wrap ((↑(ux0.getD 0) : Int) - 1))]) <| some (AV.flt .f64 (some (IntKind.u64.wrap ((↑(ux0.getD 0) : Int) - 1)).toNat))
theorem ground_step_run (fuel : Nat) (ux0 : Option Nat) (up1 : Bool) : run Pr (Ground_step) [((6, 99), Lround_step fuel)] fuel 7 99 [AV.flt .f64 ux0, AV.bool up1] = ground_step fuel ux0 up1 := by kernel_rfl
noncomputable def mround_step (fuel : Nat) (xs : List AV) : Option AV := match xs with
  | [AV.flt .f64 ux0, AV.bool up1] => ground_step fuel ux0 up1
  | _ => none
abbrev Rround_step : List RS := [RS.one (LK.f .f64)]
theorem ground_step_sm (fuel : Nat) (hΓ : GamOk Pr (Ground_step)) (hP : NamesOk Pr) : SmOk Pr 99 (smM Rround_step (mround_step fuel)) := by
  refine smM_ok (fuel := fuel) hΓ hP (LamOk.of 6 99 (Lround_step fuel) 0 (by kernel_rfl) (fun i hi => ?_)) 7 99 Rround_step _ (fun xs v h => ?_)
  · match i, hi with
    | i + 0, hi => exact absurd hi (by omega)
  · unfold mround_step at h
    split at h
    · exact (ground_step_run fuel _ _).trans h
    · cases h
noncomputable def Lround_settle (qd qg : Mo) (wn v7 : Mo) (fuel : Nat) : Lam AV := []
noncomputable def Ground_settle (qd qg : Mo) (wn v7 : Mo) : Gam := [(61, smM [RS.one LK.b] qd), (97, smM [RS.one LK.b] qg), (98, smM [RS.one (LK.f .f64)] wn), (99, smM [RS.one (LK.f .f64)] v7)]
noncomputable def Cround_settle (qd qg : Mo) (wn v7 : Mo) (fuel : Nat) : CallI AV := callX (Ground_settle qd qg wn v7) (execFn Pr (Ground_settle qd qg wn v7) [((6, 69), Lround_settle qd qg wn v7 fuel)] fuel 6)
noncomputable def ground_settle (qd qg : Mo) (wn v7 : Mo) (fuel : Nat) (p7 : Option Nat) (qgg um2 : Int) : Option AV :=
  bif um2 == 3 then ck (okM [RS.one LK.b] (qd [AV.flt .f64 p7])) <| bif toB (getV (qd [AV.flt .f64 p7])) then ck (okM [RS.one LK.b] (qg [AV.flt .f64 p7, AV.int .i64 0])) <| bif toB (getV (qg [AV.flt .f64 p7, AV.int .i64 0])) then bif bif bif ford .f64 p7 (some 0) == some Ordering.gt then false else false then true else bif ford .f64 p7 (some 0) == some Ordering.lt then true else false then ck (okM [RS.one (LK.f .f64)] (wn [AV.flt .f64 (some 9218868437227405311), AV.flt .f64 p7])) <| some (AV.flt .f64 (toF (getV (wn [AV.flt .f64 (some 9218868437227405311), AV.flt .f64 p7]))))
        else some (AV.flt .f64 p7)
      else bif bif bif decide (qgg < 0) then false else false then true else bif decide (qgg > 0) then true else false then ck (okM [RS.one (LK.f .f64)] (v7 [AV.flt .f64 p7, AV.bool (decide (qgg > 0))])) <| some (AV.flt .f64 (toF (getV (v7 [AV.flt .f64 p7, AV.bool (decide (qgg > 0))]))))
      else some (AV.flt .f64 p7)
    else ck (okM [RS.one LK.b] (qg [AV.flt .f64 p7, AV.int .i64 0])) <| bif toB (getV (qg [AV.flt .f64 p7, AV.int .i64 0])) then bif bif bif ford .f64 p7 (some 0) == some Ordering.gt then true else false then true else bif ford .f64 p7 (some 0) == some Ordering.lt then false else false then ck (okM [RS.one (LK.f .f64)] (wn [AV.flt .f64 (some 9218868437227405311), AV.flt .f64 p7])) <| some (AV.flt .f64 (toF (getV (wn [AV.flt .f64 (some 9218868437227405311), AV.flt .f64 p7]))))
      else some (AV.flt .f64 p7)
    else bif bif bif decide (qgg < 0) then true else false then true else bif decide (qgg > 0) then false else false then ck (okM [RS.one (LK.f .f64)] (v7 [AV.flt .f64 p7, AV.bool (decide (qgg > 0))])) <| some (AV.flt .f64 (toF (getV (v7 [AV.flt .f64 p7, AV.bool (decide (qgg > 0))]))))
    else some (AV.flt .f64 p7)
  else ck (okM [RS.one LK.b] (qg [AV.flt .f64 p7, AV.int .i64 0])) <| bif toB (getV (qg [AV.flt .f64 p7, AV.int .i64 0])) then bif bif bif ford .f64 p7 (some 0) == some Ordering.gt then um2 == 1 else false then true else bif ford .f64 p7 (some 0) == some Ordering.lt then um2 == 2 else false then ck (okM [RS.one (LK.f .f64)] (wn [AV.flt .f64 (some 9218868437227405311), AV.flt .f64 p7])) <| some (AV.flt .f64 (toF (getV (wn [AV.flt .f64 (some 9218868437227405311), AV.flt .f64 p7]))))
    else some (AV.flt .f64 p7)
  else bif bif bif decide (qgg < 0) then um2 == 1 else false then true else bif decide (qgg > 0) then um2 == 2 else false then ck (okM [RS.one (LK.f .f64)] (v7 [AV.flt .f64 p7, AV.bool (decide (qgg > 0))])) <| some (AV.flt .f64 (toF (getV (v7 [AV.flt .f64 p7, AV.bool (decide (qgg > 0))]))))
  else some (AV.flt .f64 p7)
theorem ground_settle_run (qd qg : Mo) (wn v7 : Mo) (fuel : Nat) (p7 : Option Nat) (qgg um2 : Int) : run Pr (Ground_settle qd qg wn v7) [((6, 69), Lround_settle qd qg wn v7 fuel)] fuel 7 69 [AV.flt .f64 p7, AV.int .i64 qgg, AV.int .i8 um2] = ground_settle qd qg wn v7 fuel p7 qgg um2 := by kernel_rfl
noncomputable def mround_settle (qd qg : Mo) (wn v7 : Mo) (fuel : Nat) (xs : List AV) : Option AV := match xs with
  | [AV.flt .f64 p7, AV.int .i64 qgg, AV.int .i8 um2] => ground_settle qd qg wn v7 fuel p7 qgg um2
  | _ => none
abbrev Rround_settle : List RS := [RS.one (LK.f .f64)]
theorem ground_settle_sm (qd qg : Mo) (wn v7 : Mo) (fuel : Nat) (hΓ : GamOk Pr (Ground_settle qd qg wn v7)) (hP : NamesOk Pr) : SmOk Pr 69 (smM Rround_settle (mround_settle qd qg wn v7 fuel)) := by
  refine smM_ok (fuel := fuel) hΓ hP (LamOk.of 6 69 (Lround_settle qd qg wn v7 fuel) 0 (by kernel_rfl) (fun i hi => ?_)) 7 69 Rround_settle _ (fun xs v h => ?_)
  · match i, hi with
    | i + 0, hi => exact absurd hi (by omega)
  · unfold mround_settle at h
    split at h
    · exact (ground_settle_run qd qg wn v7 fuel _ _ _).trans h
    · cases h
noncomputable def Lround_Sqrt (wb wm : Mo) (qx q7 : Mo) (q4 qq : Mo) (w7 wc wr : Mo) (fuel : Nat) : Lam AV := []
noncomputable def Ground_Sqrt (wb wm : Mo) (qx q7 : Mo) (q4 qq : Mo) (w7 wc wr : Mo) : Gam := [(65, smM [RS.one (LK.i .i8)] wb), (66, smM [RS.one (LK.f .f64)] wm), (67, smM [RS.one LK.b] qx), (68, smM [RS.one LK.b] q7), (70, smM [RS.one (LK.i .i64)] q4), (69, smM [RS.one (LK.f .f64)] qq), (73, smM [RS.agg [LK.b, LK.l (nat_lit 1), LK.i .i64]] w7), (74, smM [RS.agg [LK.b, LK.l (nat_lit 1), LK.i .i64]] wc), (72, smM [RS.one (LK.i .i64)] wr), (71, Go.Am.sFma)]
noncomputable def Cround_Sqrt (wb wm : Mo) (qx q7 : Mo) (q4 qq : Mo) (w7 wc wr : Mo) (fuel : Nat) : CallI AV := callX (Ground_Sqrt wb wm qx q7 q4 qq w7 wc wr) (execFn Pr (Ground_Sqrt wb wm qx q7 q4 qq w7 wc wr) [((6, 55), Lround_Sqrt wb wm qx q7 q4 qq w7 wc wr fuel)] fuel 6)
noncomputable def ground_Sqrt (wb wm : Mo) (qx q7 : Mo) (q4 qq : Mo) (w7 wc wr : Mo) (fuel : Nat) (ua0 : Option Nat) (um1 : Int) : Option AV :=
  ck (okM [RS.one (LK.i .i8)] (wb [AV.int .i8 um1])) <| ck (okM [RS.one (LK.f .f64)] (wm [AV.flt .f64 ua0])) <| ck (okM [RS.one LK.b] (qx [AV.ro 1 1 1 fun (i j : Nat) => ([[AV.flt .f64 ua0]].getD i []).getD j AV.dead])) <| bif bif !toB (getV (qx [AV.ro 1 1 1 fun (i j : Nat) => ([[AV.flt .f64 ua0]].getD i []).getD j AV.dead])) then true else ford .f64 ua0 (some 0) == some Ordering.lt || ford .f64 ua0 (some 0) == some Ordering.eq then some (AV.flt .f64 (toF (getV (wm [AV.flt .f64 ua0]))))
  else ck (okM [RS.one LK.b] (q7 [AV.ro 1 1 1 fun (i j : Nat) => ([[AV.flt .f64 ua0]].getD i []).getD j AV.dead])) <| bif toB (getV (q7 [AV.ro 1 1 1 fun (i j : Nat) => ([[AV.flt .f64 ua0]].getD i []).getD j AV.dead])) then ck (sFma.ok [AV.flt .f64 (Option.map (Op.negFloat .f64) (toF (getV (wm [AV.flt .f64 ua0])))), AV.flt .f64 (toF (getV (wm [AV.flt .f64 ua0]))), AV.flt .f64 ua0]) <| ck (okM [RS.one (LK.i .i64)] (q4 [AV.flt .f64 ((Option.map (Op.negFloat .f64) (toF (getV (wm [AV.flt .f64 ua0])))).bind fun (x : Nat) => (toF (getV (wm [AV.flt .f64 ua0]))).bind fun (y : Nat) => ua0.bind fun (z : Nat) => FloatKind.f64.format.fma x y z)])) <| ck (okM [RS.one (LK.f .f64)] (qq [AV.flt .f64 (toF (getV (wm [AV.flt .f64 ua0]))), AV.int .i64 (toI (getV (q4 [AV.flt .f64 ((Option.map (Op.negFloat .f64) (toF (getV (wm [AV.flt .f64 ua0])))).bind fun (x : Nat) => (toF (getV (wm [AV.flt .f64 ua0]))).bind fun (y : Nat) => ua0.bind fun (z : Nat) => FloatKind.f64.format.fma x y z)]))), AV.int .i8 (toI (getV (wb [AV.int .i8 um1])))])) <| some (AV.flt .f64 (toF (getV (qq [AV.flt .f64 (toF (getV (wm [AV.flt .f64 ua0]))), AV.int .i64 (toI (getV (q4 [AV.flt .f64 ((Option.map (Op.negFloat .f64) (toF (getV (wm [AV.flt .f64 ua0])))).bind fun (x : Nat) => (toF (getV (wm [AV.flt .f64 ua0]))).bind fun (y : Nat) => ua0.bind fun (z : Nat) => FloatKind.f64.format.fma x y z)]))), AV.int .i8 (toI (getV (wb [AV.int .i8 um1])))]))))
  else let r0 : Option AV := w7 [AV.flt .f64 ua0]; ck (okM [RS.agg [LK.b, LK.l 1, LK.i .i64]] r0) <| let r1 : Option AV := w7 [AV.flt .f64 (toF (getV (wm [AV.flt .f64 ua0])))]; ck (okM [RS.agg [LK.b, LK.l 1, LK.i .i64]] r1) <| let r2 : Option AV := w7 [AV.flt .f64 (toF (getV (wm [AV.flt .f64 ua0])))]; ck (okM [RS.agg [LK.b, LK.l 1, LK.i .i64]] r2) <| let r3 : Option AV := wc [AV.agg [AV.bool (toB ((toC (getV r1)).headD AV.dead)), AV.ro 1 (toN ((toC (getV r1)).tail.headD AV.dead)) (toR ((toC (getV r1)).tail.headD AV.dead)) (toG ((toC (getV r1)).tail.headD AV.dead)), AV.int .i64 (toI ((toC (getV r1)).tail.tail.headD AV.dead))], AV.agg [AV.bool (toB ((toC (getV r2)).headD AV.dead)), AV.ro 1 (toN ((toC (getV r2)).tail.headD AV.dead)) (toR ((toC (getV r2)).tail.headD AV.dead)) (toG ((toC (getV r2)).tail.headD AV.dead)), AV.int .i64 (toI ((toC (getV r2)).tail.tail.headD AV.dead))]]; ck (okM [RS.agg [LK.b, LK.l 1, LK.i .i64]] r3) <| ck (okM [RS.one (LK.i .i64)] (wr [AV.agg [AV.bool (toB ((toC (getV r0)).headD AV.dead)), AV.ro 1 (toN ((toC (getV r0)).tail.headD AV.dead)) (toR ((toC (getV r0)).tail.headD AV.dead)) (toG ((toC (getV r0)).tail.headD AV.dead)), AV.int .i64 (toI ((toC (getV r0)).tail.tail.headD AV.dead))], AV.agg [AV.bool (toB ((toC (getV r3)).headD AV.dead)), AV.ro 1 (toN ((toC (getV r3)).tail.headD AV.dead)) (toR ((toC (getV r3)).tail.headD AV.dead)) (toG ((toC (getV r3)).tail.headD AV.dead)), AV.int .i64 (toI ((toC (getV r3)).tail.tail.headD AV.dead))]])) <| ck (okM [RS.one (LK.f .f64)] (qq [AV.flt .f64 (toF (getV (wm [AV.flt .f64 ua0]))), AV.int .i64 (toI (getV (wr [AV.agg [AV.bool (toB ((toC (getV r0)).headD AV.dead)), AV.ro 1 (toN ((toC (getV r0)).tail.headD AV.dead)) (toR ((toC (getV r0)).tail.headD AV.dead)) (toG ((toC (getV r0)).tail.headD AV.dead)), AV.int .i64 (toI ((toC (getV r0)).tail.tail.headD AV.dead))], AV.agg [AV.bool (toB ((toC (getV r3)).headD AV.dead)), AV.ro 1 (toN ((toC (getV r3)).tail.headD AV.dead)) (toR ((toC (getV r3)).tail.headD AV.dead)) (toG ((toC (getV r3)).tail.headD AV.dead)), AV.int .i64 (toI ((toC (getV r3)).tail.tail.headD AV.dead))]]))), AV.int .i8 (toI (getV (wb [AV.int .i8 um1])))])) <| some (AV.flt .f64 (toF (getV (qq [AV.flt .f64 (toF (getV (wm [AV.flt .f64 ua0]))), AV.int .i64 (toI (getV (wr [AV.agg [AV.bool (toB ((toC (getV r0)).headD AV.dead)), AV.ro 1 (toN ((toC (getV r0)).tail.headD AV.dead)) (toR ((toC (getV r0)).tail.headD AV.dead)) (toG ((toC (getV r0)).tail.headD AV.dead)), AV.int .i64 (toI ((toC (getV r0)).tail.tail.headD AV.dead))], AV.agg [AV.bool (toB ((toC (getV r3)).headD AV.dead)), AV.ro 1 (toN ((toC (getV r3)).tail.headD AV.dead)) (toR ((toC (getV r3)).tail.headD AV.dead)) (toG ((toC (getV r3)).tail.headD AV.dead)), AV.int .i64 (toI ((toC (getV r3)).tail.tail.headD AV.dead))]]))), AV.int .i8 (toI (getV (wb [AV.int .i8 um1])))]))))
theorem ground_Sqrt_run (wb wm : Mo) (qx q7 : Mo) (q4 qq : Mo) (w7 wc wr : Mo) (fuel : Nat) (ua0 : Option Nat) (um1 : Int) : run Pr (Ground_Sqrt wb wm qx q7 q4 qq w7 wc wr) [((6, 55), Lround_Sqrt wb wm qx q7 q4 qq w7 wc wr fuel)] fuel 7 55 [AV.flt .f64 ua0, AV.int .i8 um1] = ground_Sqrt wb wm qx q7 q4 qq w7 wc wr fuel ua0 um1 := by kernel_rfl
noncomputable def mround_Sqrt (wb wm : Mo) (qx q7 : Mo) (q4 qq : Mo) (w7 wc wr : Mo) (fuel : Nat) (xs : List AV) : Option AV := match xs with
  | [AV.flt .f64 ua0, AV.int .i8 um1] => ground_Sqrt wb wm qx q7 q4 qq w7 wc wr fuel ua0 um1
  | _ => none
abbrev Rround_Sqrt : List RS := [RS.one (LK.f .f64)]
theorem ground_Sqrt_sm (wb wm : Mo) (qx q7 : Mo) (q4 qq : Mo) (w7 wc wr : Mo) (fuel : Nat) (hΓ : GamOk Pr (Ground_Sqrt wb wm qx q7 q4 qq w7 wc wr)) (hP : NamesOk Pr) : SmOk Pr 55 (smM Rround_Sqrt (mround_Sqrt wb wm qx q7 q4 qq w7 wc wr fuel)) := by
  refine smM_ok (fuel := fuel) hΓ hP (LamOk.of 6 55 (Lround_Sqrt wb wm qx q7 q4 qq w7 wc wr fuel) 0 (by kernel_rfl) (fun i hi => ?_)) 7 55 Rround_Sqrt _ (fun xs v h => ?_)
  · match i, hi with
    | i + 0, hi => exact absurd hi (by omega)
  · unfold mround_Sqrt at h
    split at h
    · exact (ground_Sqrt_run wb wm qx q7 q4 qq w7 wc wr fuel _ _).trans h
    · cases h
noncomputable def Ljoints_Length (za v6 : Mo) (fuel : Nat) : Lam AV := []
noncomputable def Gjoints_Length (za v6 : Mo) : Gam := [(30, smM [RS.one (LK.i .i64), RS.one (LK.i .i64), RS.one (LK.i .i64)] za), (55, smM [RS.one (LK.f .f64)] v6)]
noncomputable def Cjoints_Length (za v6 : Mo) (fuel : Nat) : CallI AV := callX (Gjoints_Length za v6) (execFn Pr (Gjoints_Length za v6) [((6, 31), Ljoints_Length za v6 fuel)] fuel 6)
noncomputable def gjoints_Length (za v6 : Mo) (fuel : Nat) (q9 : ByteArray) (wl y9 pr : Int) (wa : ByteArray) (wj y8 pv : Int) : Option AV :=
  let r0 : Option AV := za [AV.agg [AV.str q9, AV.int .i32 wl, AV.int .i32 y9, AV.int .u8 pr], AV.agg [AV.str wa, AV.int .i32 wj, AV.int .i32 y8, AV.int .u8 pv]]; ck (okM [RS.one (LK.i .i64), RS.one (LK.i .i64), RS.one (LK.i .i64)] r0) <| ck (okM [RS.one (LK.f .f64)] (v6 [AV.flt .f64 (some (FloatKind.f64.nearest (toI ((toT (getV r0)).tail.tail.headD AV.dead)))), AV.int .i8 1])) <| ck (okM [RS.one (LK.f .f64)] (v6 [AV.flt .f64 (some (FloatKind.f64.nearest (toI ((toT (getV r0)).tail.tail.headD AV.dead)))), AV.int .i8 2])) <| ck (okM [RS.one (LK.f .f64)] (v6 [AV.flt .f64 (some (FloatKind.f64.nearest (toI ((toT (getV r0)).tail.tail.headD AV.dead)))), AV.int .i8 0])) <| some (AV.tup [AV.agg [AV.flt .f64 (toF (getV (v6 [AV.flt .f64 (some (FloatKind.f64.nearest (toI ((toT (getV r0)).tail.tail.headD AV.dead)))), AV.int .i8 1]))), AV.flt .f64 (toF (getV (v6 [AV.flt .f64 (some (FloatKind.f64.nearest (toI ((toT (getV r0)).tail.tail.headD AV.dead)))), AV.int .i8 2])))], AV.flt .f64 (toF (getV (v6 [AV.flt .f64 (some (FloatKind.f64.nearest (toI ((toT (getV r0)).tail.tail.headD AV.dead)))), AV.int .i8 0])))])
theorem gjoints_Length_run (za v6 : Mo) (fuel : Nat) (q9 : ByteArray) (wl y9 pr : Int) (wa : ByteArray) (wj y8 pv : Int) : run Pr (Gjoints_Length za v6) [((6, 31), Ljoints_Length za v6 fuel)] fuel 7 31 [AV.agg [AV.str q9, AV.int .i32 wl, AV.int .i32 y9, AV.int .u8 pr], AV.agg [AV.str wa, AV.int .i32 wj, AV.int .i32 y8, AV.int .u8 pv]] = gjoints_Length za v6 fuel q9 wl y9 pr wa wj y8 pv := by kernel_rfl
noncomputable def mjoints_Length (za v6 : Mo) (fuel : Nat) (xs : List AV) : Option AV := match xs with
  | [AV.agg [AV.str q9, AV.int .i32 wl, AV.int .i32 y9, AV.int .u8 pr], AV.agg [AV.str wa, AV.int .i32 wj, AV.int .i32 y8, AV.int .u8 pv]] => gjoints_Length za v6 fuel q9 wl y9 pr wa wj y8 pv
  | _ => none
abbrev Rjoints_Length : List RS := [RS.agg [LK.f .f64, LK.f .f64], RS.one (LK.f .f64)]
theorem gjoints_Length_sm (za v6 : Mo) (fuel : Nat) (hΓ : GamOk Pr (Gjoints_Length za v6)) (hP : NamesOk Pr) : SmOk Pr 31 (smM Rjoints_Length (mjoints_Length za v6 fuel)) := by
  refine smM_ok (fuel := fuel) hΓ hP (LamOk.of 6 31 (Ljoints_Length za v6 fuel) 0 (by kernel_rfl) (fun i hi => ?_)) 7 31 Rjoints_Length _ (fun xs v h => ?_)
  · match i, hi with
    | i + 0, hi => exact absurd hi (by omega)
  · unfold mjoints_Length at h
    split at h
    · exact (gjoints_Length_run za v6 fuel _ _ _ _ _ _ _ _).trans h
    · cases h
noncomputable def Lbars_one (fuel : Nat) : Lam AV := []
noncomputable def Gbars_one : Gam := []
noncomputable def Cbars_one (fuel : Nat) : CallI AV := callX (Gbars_one) (execFn Pr (Gbars_one) [((6, 34), Lbars_one fuel)] fuel 6)
noncomputable def gbars_one (fuel : Nat) (ux0 : Option Nat) : Option AV :=
  some (AV.agg [AV.flt .f64 ux0, AV.flt .f64 ux0])
theorem gbars_one_run (fuel : Nat) (ux0 : Option Nat) : run Pr (Gbars_one) [((6, 34), Lbars_one fuel)] fuel 7 34 [AV.flt .f64 ux0] = gbars_one fuel ux0 := by kernel_rfl
noncomputable def mbars_one (fuel : Nat) (xs : List AV) : Option AV := match xs with
  | [AV.flt .f64 ux0] => gbars_one fuel ux0
  | _ => none
abbrev Rbars_one : List RS := [RS.agg [LK.f .f64, LK.f .f64]]
theorem gbars_one_sm (fuel : Nat) (hΓ : GamOk Pr (Gbars_one)) (hP : NamesOk Pr) : SmOk Pr 34 (smM Rbars_one (mbars_one fuel)) := by
  refine smM_ok (fuel := fuel) hΓ hP (LamOk.of 6 34 (Lbars_one fuel) 0 (by kernel_rfl) (fun i hi => ?_)) 7 34 Rbars_one _ (fun xs v h => ?_)
  · match i, hi with
    | i + 0, hi => exact absurd hi (by omega)
  · unfold mbars_one at h
    split at h
    · exact (gbars_one_run fuel _).trans h
    · cases h
noncomputable def Lmath_Inf (fuel : Nat) : Lam AV := []
noncomputable def Gmath_Inf : Gam := [(118, Go.Am.sFrom)]
noncomputable def Cmath_Inf (fuel : Nat) : CallI AV := callX (Gmath_Inf) (execFn Pr (Gmath_Inf) [((6, 128), Lmath_Inf fuel)] fuel 6)
noncomputable def gmath_Inf (fuel : Nat) (qix : Int) : Option AV :=
  bif decide (qix ≥ 0) then ck (sFrom.ok [AV.int .u64 9218868437227405312]) <| some (AV.flt .f64 (some 9218868437227405312))
  else ck (sFrom.ok [AV.int .u64 18442240474082181120]) <| some (AV.flt .f64 (some 18442240474082181120))
theorem gmath_Inf_run (fuel : Nat) (qix : Int) : run Pr (Gmath_Inf) [((6, 128), Lmath_Inf fuel)] fuel 7 128 [AV.int .i64 qix] = gmath_Inf fuel qix := by kernel_rfl
noncomputable def mmath_Inf (fuel : Nat) (xs : List AV) : Option AV := match xs with
  | [AV.int .i64 qix] => gmath_Inf fuel qix
  | _ => none
abbrev Rmath_Inf : List RS := [RS.one (LK.f .f64)]
theorem gmath_Inf_sm (fuel : Nat) (hΓ : GamOk Pr (Gmath_Inf)) (hP : NamesOk Pr) : SmOk Pr 128 (smM Rmath_Inf (mmath_Inf fuel)) := by
  refine smM_ok (fuel := fuel) hΓ hP (LamOk.of 6 128 (Lmath_Inf fuel) 0 (by kernel_rfl) (fun i hi => ?_)) 7 128 Rmath_Inf _ (fun xs v h => ?_)
  · match i, hi with
    | i + 0, hi => exact absurd hi (by omega)
  · unfold mmath_Inf at h
    split at h
    · exact (gmath_Inf_run fuel _).trans h
    · cases h
end Go.Proofs.Tryz
end
section
namespace Go.Proofs.Tryz
open Go Go.Am
set_option linter.unusedVariables false
set_option maxRecDepth 1000000
noncomputable def Lspan_Right (yt : Mo) (fuel : Nat) : Lam AV := []
noncomputable def Gspan_Right (yt : Mo) : Gam := [(128, smM [RS.one (LK.f .f64)] yt)]
noncomputable def Cspan_Right (yt : Mo) (fuel : Nat) : CallI AV := callX (Gspan_Right yt) (execFn Pr (Gspan_Right yt) [((6, 103), Lspan_Right yt fuel)] fuel 6)
noncomputable def gspan_Right (yt : Mo) (fuel : Nat) (p2 zg : Option Nat) : Option AV :=
  ck (bif ford .f64 p2 zg == some Ordering.lt || ford .f64 p2 zg == some Ordering.eq then true else true) <| ck (bif ford .f64 p2 zg == some Ordering.lt || ford .f64 p2 zg == some Ordering.eq then okM [RS.one (LK.f .f64)] (yt [AV.int .i64 1]) else true) <| ck (bif bif ford .f64 p2 zg == some Ordering.lt || ford .f64 p2 zg == some Ordering.eq then ford .f64 p2 (toF (getV (yt [AV.int .i64 1]))) == some Ordering.lt else false then true else true) <| ck (bif bif ford .f64 p2 zg == some Ordering.lt || ford .f64 p2 zg == some Ordering.eq then ford .f64 p2 (toF (getV (yt [AV.int .i64 1]))) == some Ordering.lt else false then okM [RS.one (LK.f .f64)] (yt [AV.int .i64 (-1)]) else true) <| some (AV.bool (bif bif ford .f64 p2 zg == some Ordering.lt || ford .f64 p2 zg == some Ordering.eq then ford .f64 p2 (toF (getV (yt [AV.int .i64 1]))) == some Ordering.lt else false then ford .f64 zg (toF (getV (yt [AV.int .i64 (-1)]))) == some Ordering.gt else false))
theorem gspan_Right_run (yt : Mo) (fuel : Nat) (p2 zg : Option Nat) : run Pr (Gspan_Right yt) [((6, 103), Lspan_Right yt fuel)] fuel 7 103 [AV.agg [AV.flt .f64 p2, AV.flt .f64 zg]] = gspan_Right yt fuel p2 zg := by kernel_rfl
noncomputable def mspan_Right (yt : Mo) (fuel : Nat) (xs : List AV) : Option AV := match xs with
  | [AV.agg [AV.flt .f64 p2, AV.flt .f64 zg]] => gspan_Right yt fuel p2 zg
  | _ => none
abbrev Rspan_Right : List RS := [RS.one LK.b]
theorem gspan_Right_sm (yt : Mo) (fuel : Nat) (hΓ : GamOk Pr (Gspan_Right yt)) (hP : NamesOk Pr) : SmOk Pr 103 (smM Rspan_Right (mspan_Right yt fuel)) := by
  refine smM_ok (fuel := fuel) hΓ hP (LamOk.of 6 103 (Lspan_Right yt fuel) 0 (by kernel_rfl) (fun i hi => ?_)) 7 103 Rspan_Right _ (fun xs v h => ?_)
  · match i, hi with
    | i + 0, hi => exact absurd hi (by omega)
  · unfold mspan_Right at h
    split at h
    · exact (gspan_Right_run yt fuel _ _).trans h
    · cases h
noncomputable def Sspan_right_0 (u5n u5r : Nat) (u5g : Ge) (u6 u7 : Int) : St := { env := [(5, AV.ro 2 u5n u5r u5g), (6, AV.int .i64 u6), (7, AV.int .i64 u7)], h := [], kd := [] }
noncomputable def Xspan_right_0_0 (pf : Bool) (qfw qf6 : Option Nat) : St := { env := [(2, AV.bool pf)], h := [Blk.box [AV.flt .f64 qfw, AV.flt .f64 qf6]], kd := [] }
noncomputable def Xspan_right_0_1 : St := { env := [], h := [], kd := [] }
noncomputable def gspan_right_l0_step (w0 : Mo) (fuel : Nat) (kn : Int → Option AV) (kx0 : Bool → Option Nat → Option Nat → Option AV) (kx1 : Option AV) (u5n u5r : Nat) (u5g : Ge) (u6 u7 : Int) : Option AV :=
  bif decide (u7 < u6) then ck (decide (0 ≤ u7)) <| ck (decide (u7 < (↑u5n : Int))) <| ck (fitKs [LK.f .f64, LK.f .f64] [u5g u7.toNat 0, u5g u7.toNat 1]) <| ck (okM [RS.one LK.b] (w0 [AV.agg [AV.flt .f64 (toF (u5g u7.toNat 0)), AV.flt .f64 (toF (u5g u7.toNat 1))]])) <| bif !toB (getV (w0 [AV.agg [AV.flt .f64 (toF (u5g u7.toNat 0)), AV.flt .f64 (toF (u5g u7.toNat 1))]])) then kx0 (false) (toF (u5g u7.toNat 0)) (toF (u5g u7.toNat 1))
    else kn (IntKind.i64.wrap (u7 + 1))
  else kx1
noncomputable def gspan_right_l0 (w0 : Mo) (fuel : Nat) (kx0 : Bool → Option Nat → Option Nat → Option AV) (kx1 : Option AV) (u5n u5r : Nat) (u5g : Ge) (u6 : Int) : Nat → Int → Option AV
  | 0, _ => none
  | n' + 1, u7 => gspan_right_l0_step w0 fuel (gspan_right_l0 w0 fuel kx0 kx1 u5n u5r u5g u6 n') kx0 kx1 u5n u5r u5g u6 u7
noncomputable def Tspan_right_0 : TS' := ⟨[(5, TA.ro 2), (6, TA.i .i64), (7, TA.i .i64)], [], []⟩
noncomputable def Fspan_right_0 (w0 : Mo) (fuel : Nat) (ps : List Pay) (K : Ex → St → Option AV) : Option AV := match ps with
  | .n u5n :: .n u5r :: .g u5g :: .i u6 :: .i u7 :: [] => gspan_right_l0 w0 fuel (fun pf qfw qf6 => K (Ex.ret) (Xspan_right_0_0 pf qfw qf6)) (K (Ex.exit 0) Xspan_right_0_1) u5n u5r u5g u6 fuel u7
  | _ => none
noncomputable def Lspan_right (w0 : Mo) (fuel : Nat) : Lam AV := [(32660, lam Tspan_right_0 (Fspan_right_0 w0 fuel))]
noncomputable def Gspan_right (w0 : Mo) : Gam := [(103, smM [RS.one LK.b] w0)]
noncomputable def Cspan_right (w0 : Mo) (fuel : Nat) : CallI AV := callX (Gspan_right w0) (execFn Pr (Gspan_right w0) [((6, 75), Lspan_right w0 fuel)] fuel 6)
theorem gspan_right_l0_eq (w0 : Mo) (fuel : Nat) (kn : St → Option AV) (K : Ex → St → Option AV) (u5n u5r : Nat) (u5g : Ge) (u6 u70 u7 : Int) :
    exec Pr (Gspan_right w0) (Lspan_right w0 fuel) (fnNt Pr 75) fuel (Cspan_right w0 fuel) (lp Pr 75 0).1 (lp Pr 75 0).2 (live (lp Pr 75 0).1 (lp Pr 75 0).2 0) (Sspan_right_0 u5n u5r u5g u6 u7) (fun e s => match e with | .normal => kn (headN (live (lp Pr 75 0).1 (lp Pr 75 0).2 0) (writes (lp Pr 75 0).1) (Sspan_right_0 u5n u5r u5g u6 u70) s) | e => K e s) =
    gspan_right_l0_step w0 fuel (fun u7 => kn (Sspan_right_0 u5n u5r u5g u6 u7)) (fun xu2 xh0_0 xh0_1 => K (Ex.ret) (Xspan_right_0_0 xu2 xh0_0 xh0_1)) (K (Ex.exit 0) Xspan_right_0_1) u5n u5r u5g u6 u7 := by kernel_rfl
theorem gspan_right_l0_ok (w0 : Mo) (fuel : Nat) (K : Ex → St → Option AV) (u5n u5r : Nat) (u5g : Ge) (u6 u70 : Int) : ∀ (n' : Nat) (u7 : Int),
    loopK (exec Pr (Gspan_right w0) (Lspan_right w0 fuel) (fnNt Pr 75) fuel (Cspan_right w0 fuel) (lp Pr 75 0).1 (lp Pr 75 0).2 (live (lp Pr 75 0).1 (lp Pr 75 0).2 0)) (headN (live (lp Pr 75 0).1 (lp Pr 75 0).2 0) (writes (lp Pr 75 0).1) (Sspan_right_0 u5n u5r u5g u6 u70)) n' (Sspan_right_0 u5n u5r u5g u6 u7) K = gspan_right_l0 w0 fuel (fun xu2 xh0_0 xh0_1 => K (Ex.ret) (Xspan_right_0_0 xu2 xh0_0 xh0_1)) (K (Ex.exit 0) Xspan_right_0_1) u5n u5r u5g u6 n' u7
  | 0, _ => rfl
  | n' + 1, u7 => (gspan_right_l0_eq w0 fuel (fun s => loopK (exec Pr (Gspan_right w0) (Lspan_right w0 fuel) (fnNt Pr 75) fuel (Cspan_right w0 fuel) (lp Pr 75 0).1 (lp Pr 75 0).2 (live (lp Pr 75 0).1 (lp Pr 75 0).2 0)) (headN (live (lp Pr 75 0).1 (lp Pr 75 0).2 0) (writes (lp Pr 75 0).1) (Sspan_right_0 u5n u5r u5g u6 u70)) n' s K) K u5n u5r u5g u6 u70 u7).trans
    (congrArg (fun kn => gspan_right_l0_step w0 fuel kn (fun xu2 xh0_0 xh0_1 => K (Ex.ret) (Xspan_right_0_0 xu2 xh0_0 xh0_1)) (K (Ex.exit 0) Xspan_right_0_1) u5n u5r u5g u6 u7) (funext fun _ => gspan_right_l0_ok w0 fuel K u5n u5r u5g u6 u70 n' _))
theorem gspan_right_L0 (w0 : Mo) (fuel : Nat) : LOk Pr (Gspan_right w0) (Lspan_right w0 fuel) (fnNt Pr 75) fuel (Cspan_right w0 fuel) (lp Pr 75 0) := by
  refine .of Tspan_right_0 (Fspan_right_0 w0 fuel) (fun L h => ?_) (fun ps st K r he hr => ?_)
  · have e : (Lspan_right w0 fuel).get (writes (lp Pr 75 0).1) = some (lam Tspan_right_0 (Fspan_right_0 w0 fuel)) := by kernel_rfl
    exact (Option.some.inj (e.symm.trans h)).symm
  · unfold Fspan_right_0 at hr
    split at hr
    · obtain rfl := (Option.some.inj he).symm
      exact (gspan_right_l0_ok w0 fuel K _ _ _ _ _ fuel _).trans hr
    · cases hr
noncomputable def gspan_right (w0 : Mo) (fuel yn p6 : Nat) (pu : Ge) : Option AV :=
  gspan_right_l0 w0 fuel
    (fun (xu2 : Bool) (_ _ : Option Nat) => some (AV.bool xu2))
    (some (AV.bool true))
    (yn)
    (p6)
    (pu)
    ((↑yn : Int)) fuel (0)
theorem gspan_right_run (w0 : Mo) (fuel yn p6 : Nat) (pu : Ge) : run Pr (Gspan_right w0) [((6, 75), Lspan_right w0 fuel)] fuel 7 75 [AV.ro 2 yn p6 pu] = gspan_right w0 fuel yn p6 pu := by kernel_rfl
noncomputable def mspan_right (w0 : Mo) (fuel : Nat) (xs : List AV) : Option AV := match xs with
  | [AV.ro 2 yn p6 pu] => gspan_right w0 fuel yn p6 pu
  | _ => none
abbrev Rspan_right : List RS := [RS.one LK.b]
theorem gspan_right_sm (w0 : Mo) (fuel : Nat) (hΓ : GamOk Pr (Gspan_right w0)) (hP : NamesOk Pr) : SmOk Pr 75 (smM Rspan_right (mspan_right w0 fuel)) := by
  refine smM_ok (fuel := fuel) hΓ hP (LamOk.of 6 75 (Lspan_right w0 fuel) 1 (by kernel_rfl) (fun i hi => ?_)) 7 75 Rspan_right _ (fun xs v h => ?_)
  · match i, hi with
    | 0, _ => exact gspan_right_L0 w0 fuel
    | i + 1, hi => exact absurd hi (by omega)
  · unfold mspan_right at h
    split at h
    · exact (gspan_right_run w0 fuel _ _ _).trans h
    · cases h
noncomputable def Lbits_Place (w6 : Mo) (fuel : Nat) : Lam AV := []
noncomputable def Gbits_Place (w6 : Mo) : Gam := [(106, smM [RS.one (LK.f .f64)] w6), (54, Go.Am.sBits)]
noncomputable def Cbits_Place (w6 : Mo) (fuel : Nat) : CallI AV := callX (Gbits_Place w6) (execFn Pr (Gbits_Place w6) [((6, 190), Lbits_Place w6 fuel)] fuel 6)
noncomputable def gbits_Place (w6 : Mo) (fuel : Nat) (ux0 : Option Nat) : Option AV :=
  bif ford .f64 ux0 ux0 != some Ordering.eq then some (AV.tup [AV.int .i64 0, AV.bool false])
  else ck (okM [RS.one (LK.f .f64)] (w6 [AV.flt .f64 ux0])) <| ck (sBits.ok [AV.flt .f64 (toF (getV (w6 [AV.flt .f64 ux0])))]) <| bif ford .f64 ux0 (some 0) == some Ordering.lt then some (AV.tup [AV.int .i64 (IntKind.i64.wrap (0 - IntKind.i64.wrap (↑((toF (getV (w6 [AV.flt .f64 ux0]))).getD 0) : Int))), AV.bool true])
  else some (AV.tup [AV.int .i64 (IntKind.i64.wrap (↑((toF (getV (w6 [AV.flt .f64 ux0]))).getD 0) : Int)), AV.bool true])
theorem gbits_Place_run (w6 : Mo) (fuel : Nat) (ux0 : Option Nat) : run Pr (Gbits_Place w6) [((6, 190), Lbits_Place w6 fuel)] fuel 7 190 [AV.flt .f64 ux0] = gbits_Place w6 fuel ux0 := by kernel_rfl
noncomputable def mbits_Place (w6 : Mo) (fuel : Nat) (xs : List AV) : Option AV := match xs with
  | [AV.flt .f64 ux0] => gbits_Place w6 fuel ux0
  | _ => none
abbrev Rbits_Place : List RS := [RS.one (LK.i .i64), RS.one LK.b]
theorem gbits_Place_sm (w6 : Mo) (fuel : Nat) (hΓ : GamOk Pr (Gbits_Place w6)) (hP : NamesOk Pr) : SmOk Pr 190 (smM Rbits_Place (mbits_Place w6 fuel)) := by
  refine smM_ok (fuel := fuel) hΓ hP (LamOk.of 6 190 (Lbits_Place w6 fuel) 0 (by kernel_rfl) (fun i hi => ?_)) 7 190 Rbits_Place _ (fun xs v h => ?_)
  · match i, hi with
    | i + 0, hi => exact absurd hi (by omega)
  · unfold mbits_Place at h
    split at h
    · exact (gbits_Place_run w6 fuel _).trans h
    · cases h
noncomputable def Lbits_rank (yq qd : Mo) (fuel : Nat) : Lam AV := []
noncomputable def Gbits_rank (yq qd : Mo) : Gam := [(190, smM [RS.one (LK.i .i64), RS.one LK.b] yq), (61, smM [RS.one LK.b] qd)]
noncomputable def Cbits_rank (yq qd : Mo) (fuel : Nat) : CallI AV := callX (Gbits_rank yq qd) (execFn Pr (Gbits_rank yq qd) [((6, 163), Lbits_rank yq qd fuel)] fuel 6)
noncomputable def gbits_rank (yq qd : Mo) (fuel : Nat) (ux0 : Option Nat) : Option AV :=
  let r0 : Option AV := yq [AV.flt .f64 ux0]; ck (okM [RS.one (LK.i .i64), RS.one LK.b] r0) <| bif !toB ((toT (getV r0)).tail.headD AV.dead) then some (AV.tup [AV.int .i64 9223372036854775807, AV.int .i64 0])
  else ck (bif toI ((toT (getV r0)).headD AV.dead) == 0 then okM [RS.one LK.b] (qd [AV.flt .f64 ux0]) else true) <| bif bif toI ((toT (getV r0)).headD AV.dead) == 0 then !toB (getV (qd [AV.flt .f64 ux0])) else false then some (AV.tup [AV.int .i64 0, AV.int .i64 1])
  else some (AV.tup [AV.int .i64 (toI ((toT (getV r0)).headD AV.dead)), AV.int .i64 0])
theorem gbits_rank_run (yq qd : Mo) (fuel : Nat) (ux0 : Option Nat) : run Pr (Gbits_rank yq qd) [((6, 163), Lbits_rank yq qd fuel)] fuel 7 163 [AV.flt .f64 ux0] = gbits_rank yq qd fuel ux0 := by kernel_rfl
noncomputable def mbits_rank (yq qd : Mo) (fuel : Nat) (xs : List AV) : Option AV := match xs with
  | [AV.flt .f64 ux0] => gbits_rank yq qd fuel ux0
  | _ => none
abbrev Rbits_rank : List RS := [RS.one (LK.i .i64), RS.one (LK.i .i64)]
theorem gbits_rank_sm (yq qd : Mo) (fuel : Nat) (hΓ : GamOk Pr (Gbits_rank yq qd)) (hP : NamesOk Pr) : SmOk Pr 163 (smM Rbits_rank (mbits_rank yq qd fuel)) := by
  refine smM_ok (fuel := fuel) hΓ hP (LamOk.of 6 163 (Lbits_rank yq qd fuel) 0 (by kernel_rfl) (fun i hi => ?_)) 7 163 Rbits_rank _ (fun xs v h => ?_)
  · match i, hi with
    | i + 0, hi => exact absurd hi (by omega)
  · unfold mbits_rank at h
    split at h
    · exact (gbits_rank_run yq qd fuel _).trans h
    · cases h
noncomputable def Lcmp_isNaN_int64 (fuel : Nat) : Lam AV := []
noncomputable def Gcmp_isNaN_int64 : Gam := []
noncomputable def Ccmp_isNaN_int64 (fuel : Nat) : CallI AV := callX (Gcmp_isNaN_int64) (execFn Pr (Gcmp_isNaN_int64) [((6, 191), Lcmp_isNaN_int64 fuel)] fuel 6)
noncomputable def gcmp_isNaN_int64 (fuel : Nat) (ux0 : Int) : Option AV :=
  some (AV.bool (ux0 != ux0))
theorem gcmp_isNaN_int64_run (fuel : Nat) (ux0 : Int) : run Pr (Gcmp_isNaN_int64) [((6, 191), Lcmp_isNaN_int64 fuel)] fuel 7 191 [AV.int .i64 ux0] = gcmp_isNaN_int64 fuel ux0 := by kernel_rfl
noncomputable def mcmp_isNaN_int64 (fuel : Nat) (xs : List AV) : Option AV := match xs with
  | [AV.int .i64 ux0] => gcmp_isNaN_int64 fuel ux0
  | _ => none
abbrev Rcmp_isNaN_int64 : List RS := [RS.one LK.b]
theorem gcmp_isNaN_int64_sm (fuel : Nat) (hΓ : GamOk Pr (Gcmp_isNaN_int64)) (hP : NamesOk Pr) : SmOk Pr 191 (smM Rcmp_isNaN_int64 (mcmp_isNaN_int64 fuel)) := by
  refine smM_ok (fuel := fuel) hΓ hP (LamOk.of 6 191 (Lcmp_isNaN_int64 fuel) 0 (by kernel_rfl) (fun i hi => ?_)) 7 191 Rcmp_isNaN_int64 _ (fun xs v h => ?_)
  · match i, hi with
    | i + 0, hi => exact absurd hi (by omega)
  · unfold mcmp_isNaN_int64 at h
    split at h
    · exact (gcmp_isNaN_int64_run fuel _).trans h
    · cases h
noncomputable def Lcmp_Compare_int64 (z0 : Mo) (fuel : Nat) : Lam AV := []
noncomputable def Gcmp_Compare_int64 (z0 : Mo) : Gam := [(191, smM [RS.one LK.b] z0)]
noncomputable def Ccmp_Compare_int64 (z0 : Mo) (fuel : Nat) : CallI AV := callX (Gcmp_Compare_int64 z0) (execFn Pr (Gcmp_Compare_int64 z0) [((6, 165), Lcmp_Compare_int64 z0 fuel)] fuel 6)
noncomputable def gcmp_Compare_int64 (z0 : Mo) (fuel : Nat) (ux0 uy1 : Int) : Option AV :=
  ck (okM [RS.one LK.b] (z0 [AV.int .i64 ux0])) <| ck (okM [RS.one LK.b] (z0 [AV.int .i64 uy1])) <| bif toB (getV (z0 [AV.int .i64 ux0])) then bif toB (getV (z0 [AV.int .i64 uy1])) then some (AV.int .i64 0)
    else some (AV.int .i64 (-1))
  else bif toB (getV (z0 [AV.int .i64 uy1])) then some (AV.int .i64 1)
  else bif decide (ux0 < uy1) then some (AV.int .i64 (-1))
  else bif decide (ux0 > uy1) then some (AV.int .i64 1)
  else some (AV.int .i64 0)
theorem gcmp_Compare_int64_run (z0 : Mo) (fuel : Nat) (ux0 uy1 : Int) : run Pr (Gcmp_Compare_int64 z0) [((6, 165), Lcmp_Compare_int64 z0 fuel)] fuel 7 165 [AV.int .i64 ux0, AV.int .i64 uy1] = gcmp_Compare_int64 z0 fuel ux0 uy1 := by kernel_rfl
noncomputable def mcmp_Compare_int64 (z0 : Mo) (fuel : Nat) (xs : List AV) : Option AV := match xs with
  | [AV.int .i64 ux0, AV.int .i64 uy1] => gcmp_Compare_int64 z0 fuel ux0 uy1
  | _ => none
abbrev Rcmp_Compare_int64 : List RS := [RS.one (LK.i .i64)]
theorem gcmp_Compare_int64_sm (z0 : Mo) (fuel : Nat) (hΓ : GamOk Pr (Gcmp_Compare_int64 z0)) (hP : NamesOk Pr) : SmOk Pr 165 (smM Rcmp_Compare_int64 (mcmp_Compare_int64 z0 fuel)) := by
  refine smM_ok (fuel := fuel) hΓ hP (LamOk.of 6 165 (Lcmp_Compare_int64 z0 fuel) 0 (by kernel_rfl) (fun i hi => ?_)) 7 165 Rcmp_Compare_int64 _ (fun xs v h => ?_)
  · match i, hi with
    | i + 0, hi => exact absurd hi (by omega)
  · unfold mcmp_Compare_int64 at h
    split at h
    · exact (gcmp_Compare_int64_run z0 fuel _ _).trans h
    · cases h
noncomputable def Lcmp_isNaN_int (fuel : Nat) : Lam AV := []
noncomputable def Gcmp_isNaN_int : Gam := []
noncomputable def Ccmp_isNaN_int (fuel : Nat) : CallI AV := callX (Gcmp_isNaN_int) (execFn Pr (Gcmp_isNaN_int) [((6, 192), Lcmp_isNaN_int fuel)] fuel 6)
noncomputable def gcmp_isNaN_int (fuel : Nat) (ux0 : Int) : Option AV :=
  some (AV.bool (ux0 != ux0))
theorem gcmp_isNaN_int_run (fuel : Nat) (ux0 : Int) : run Pr (Gcmp_isNaN_int) [((6, 192), Lcmp_isNaN_int fuel)] fuel 7 192 [AV.int .i64 ux0] = gcmp_isNaN_int fuel ux0 := by kernel_rfl
noncomputable def mcmp_isNaN_int (fuel : Nat) (xs : List AV) : Option AV := match xs with
  | [AV.int .i64 ux0] => gcmp_isNaN_int fuel ux0
  | _ => none
abbrev Rcmp_isNaN_int : List RS := [RS.one LK.b]
theorem gcmp_isNaN_int_sm (fuel : Nat) (hΓ : GamOk Pr (Gcmp_isNaN_int)) (hP : NamesOk Pr) : SmOk Pr 192 (smM Rcmp_isNaN_int (mcmp_isNaN_int fuel)) := by
  refine smM_ok (fuel := fuel) hΓ hP (LamOk.of 6 192 (Lcmp_isNaN_int fuel) 0 (by kernel_rfl) (fun i hi => ?_)) 7 192 Rcmp_isNaN_int _ (fun xs v h => ?_)
  · match i, hi with
    | i + 0, hi => exact absurd hi (by omega)
  · unfold mcmp_isNaN_int at h
    split at h
    · exact (gcmp_isNaN_int_run fuel _).trans h
    · cases h
noncomputable def Lcmp_Compare_int (vk : Mo) (fuel : Nat) : Lam AV := []
noncomputable def Gcmp_Compare_int (vk : Mo) : Gam := [(192, smM [RS.one LK.b] vk)]
noncomputable def Ccmp_Compare_int (vk : Mo) (fuel : Nat) : CallI AV := callX (Gcmp_Compare_int vk) (execFn Pr (Gcmp_Compare_int vk) [((6, 166), Lcmp_Compare_int vk fuel)] fuel 6)
noncomputable def gcmp_Compare_int (vk : Mo) (fuel : Nat) (ux0 uy1 : Int) : Option AV :=
  ck (okM [RS.one LK.b] (vk [AV.int .i64 ux0])) <| ck (okM [RS.one LK.b] (vk [AV.int .i64 uy1])) <| bif toB (getV (vk [AV.int .i64 ux0])) then bif toB (getV (vk [AV.int .i64 uy1])) then some (AV.int .i64 0)
    else some (AV.int .i64 (-1))
  else bif toB (getV (vk [AV.int .i64 uy1])) then some (AV.int .i64 1)
  else bif decide (ux0 < uy1) then some (AV.int .i64 (-1))
  else bif decide (ux0 > uy1) then some (AV.int .i64 1)
  else some (AV.int .i64 0)
theorem gcmp_Compare_int_run (vk : Mo) (fuel : Nat) (ux0 uy1 : Int) : run Pr (Gcmp_Compare_int vk) [((6, 166), Lcmp_Compare_int vk fuel)] fuel 7 166 [AV.int .i64 ux0, AV.int .i64 uy1] = gcmp_Compare_int vk fuel ux0 uy1 := by kernel_rfl
noncomputable def mcmp_Compare_int (vk : Mo) (fuel : Nat) (xs : List AV) : Option AV := match xs with
  | [AV.int .i64 ux0, AV.int .i64 uy1] => gcmp_Compare_int vk fuel ux0 uy1
  | _ => none
abbrev Rcmp_Compare_int : List RS := [RS.one (LK.i .i64)]
theorem gcmp_Compare_int_sm (vk : Mo) (fuel : Nat) (hΓ : GamOk Pr (Gcmp_Compare_int vk)) (hP : NamesOk Pr) : SmOk Pr 166 (smM Rcmp_Compare_int (mcmp_Compare_int vk fuel)) := by
  refine smM_ok (fuel := fuel) hΓ hP (LamOk.of 6 166 (Lcmp_Compare_int vk fuel) 0 (by kernel_rfl) (fun i hi => ?_)) 7 166 Rcmp_Compare_int _ (fun xs v h => ?_)
  · match i, hi with
    | i + 0, hi => exact absurd hi (by omega)
  · unfold mcmp_Compare_int at h
    split at h
    · exact (gcmp_Compare_int_run vk fuel _ _).trans h
    · cases h
noncomputable def Scmp_Or_int_0 (qcg : Int) (u6n u6r : Nat) (u6g : Ge) (u7 u8 : Int) : St := { env := [(3, AV.int .i64 qcg), (6, AV.ro 1 u6n u6r u6g), (7, AV.int .i64 u7), (8, AV.int .i64 u8)], h := [], kd := [] }
noncomputable def Xcmp_Or_int_0_0 (pf : Int) : St := { env := [(2, AV.int .i64 pf)], h := [], kd := [] }
noncomputable def Xcmp_Or_int_0_1 (qia : Int) : St := { env := [(3, AV.int .i64 qia)], h := [], kd := [] }
noncomputable def gcmp_Or_int_l0_step (fuel : Nat) (kn kx0 kx1 : Int → Option AV) (qcg : Int) (u6n u6r : Nat) (u6g : Ge) (u7 u8 : Int) : Option AV :=
  bif decide (u8 < u7) then ck (decide (0 ≤ u8)) <| ck (decide (u8 < (↑u6n : Int))) <| ck (fitK (LK.i .i64) (u6g u8.toNat 0)) <| bif toI (u6g u8.toNat 0) != qcg then kx0 (toI (u6g u8.toNat 0))
    else kn (IntKind.i64.wrap (u8 + 1))
  else kx1 (qcg)
noncomputable def gcmp_Or_int_l0 (fuel : Nat) (kx0 kx1 : Int → Option AV) (qcg : Int) (u6n u6r : Nat) (u6g : Ge) (u7 : Int) : Nat → Int → Option AV
  | 0, _ => none
  | n' + 1, u8 => gcmp_Or_int_l0_step fuel (gcmp_Or_int_l0 fuel kx0 kx1 qcg u6n u6r u6g u7 n') kx0 kx1 qcg u6n u6r u6g u7 u8
noncomputable def Tcmp_Or_int_0 : TS' := ⟨[(3, TA.i .i64), (6, TA.ro 1), (7, TA.i .i64), (8, TA.i .i64)], [], []⟩
noncomputable def Fcmp_Or_int_0 (fuel : Nat) (ps : List Pay) (K : Ex → St → Option AV) : Option AV := match ps with
  | .i qcg :: .n u6n :: .n u6r :: .g u6g :: .i u7 :: .i u8 :: [] => gcmp_Or_int_l0 fuel (fun pf => K (Ex.ret) (Xcmp_Or_int_0_0 pf)) (fun qia => K (Ex.exit 0) (Xcmp_Or_int_0_1 qia)) qcg u6n u6r u6g u7 fuel u8
  | _ => none
noncomputable def Lcmp_Or_int (fuel : Nat) : Lam AV := [(130852, lam Tcmp_Or_int_0 (Fcmp_Or_int_0 fuel))]
noncomputable def Gcmp_Or_int : Gam := []
noncomputable def Ccmp_Or_int (fuel : Nat) : CallI AV := callX (Gcmp_Or_int) (execFn Pr (Gcmp_Or_int) [((6, 164), Lcmp_Or_int fuel)] fuel 6)
theorem gcmp_Or_int_l0_eq (fuel : Nat) (kn : St → Option AV) (K : Ex → St → Option AV) (qcg : Int) (u6n u6r : Nat) (u6g : Ge) (u7 u80 u8 : Int) :
    exec Pr (Gcmp_Or_int) (Lcmp_Or_int fuel) (fnNt Pr 164) fuel (Ccmp_Or_int fuel) (lp Pr 164 0).1 (lp Pr 164 0).2 (live (lp Pr 164 0).1 (lp Pr 164 0).2 0) (Scmp_Or_int_0 qcg u6n u6r u6g u7 u8) (fun e s => match e with | .normal => kn (headN (live (lp Pr 164 0).1 (lp Pr 164 0).2 0) (writes (lp Pr 164 0).1) (Scmp_Or_int_0 qcg u6n u6r u6g u7 u80) s) | e => K e s) =
    gcmp_Or_int_l0_step fuel (fun u8 => kn (Scmp_Or_int_0 qcg u6n u6r u6g u7 u8)) (fun xu2 => K (Ex.ret) (Xcmp_Or_int_0_0 xu2)) (fun qha => K (Ex.exit 0) (Xcmp_Or_int_0_1 qha)) qcg u6n u6r u6g u7 u8 := by kernel_rfl
theorem gcmp_Or_int_l0_ok (fuel : Nat) (K : Ex → St → Option AV) (qcg : Int) (u6n u6r : Nat) (u6g : Ge) (u7 u80 : Int) : ∀ (n' : Nat) (u8 : Int),
    loopK (exec Pr (Gcmp_Or_int) (Lcmp_Or_int fuel) (fnNt Pr 164) fuel (Ccmp_Or_int fuel) (lp Pr 164 0).1 (lp Pr 164 0).2 (live (lp Pr 164 0).1 (lp Pr 164 0).2 0)) (headN (live (lp Pr 164 0).1 (lp Pr 164 0).2 0) (writes (lp Pr 164 0).1) (Scmp_Or_int_0 qcg u6n u6r u6g u7 u80)) n' (Scmp_Or_int_0 qcg u6n u6r u6g u7 u8) K = gcmp_Or_int_l0 fuel (fun xu2 => K (Ex.ret) (Xcmp_Or_int_0_0 xu2)) (fun qha => K (Ex.exit 0) (Xcmp_Or_int_0_1 qha)) qcg u6n u6r u6g u7 n' u8
  | 0, _ => rfl
  | n' + 1, u8 => (gcmp_Or_int_l0_eq fuel (fun s => loopK (exec Pr (Gcmp_Or_int) (Lcmp_Or_int fuel) (fnNt Pr 164) fuel (Ccmp_Or_int fuel) (lp Pr 164 0).1 (lp Pr 164 0).2 (live (lp Pr 164 0).1 (lp Pr 164 0).2 0)) (headN (live (lp Pr 164 0).1 (lp Pr 164 0).2 0) (writes (lp Pr 164 0).1) (Scmp_Or_int_0 qcg u6n u6r u6g u7 u80)) n' s K) K qcg u6n u6r u6g u7 u80 u8).trans
    (congrArg (fun kn => gcmp_Or_int_l0_step fuel kn (fun xu2 => K (Ex.ret) (Xcmp_Or_int_0_0 xu2)) (fun qha => K (Ex.exit 0) (Xcmp_Or_int_0_1 qha)) qcg u6n u6r u6g u7 u8) (funext fun _ => gcmp_Or_int_l0_ok fuel K qcg u6n u6r u6g u7 u80 n' _))
theorem gcmp_Or_int_L0 (fuel : Nat) : LOk Pr (Gcmp_Or_int) (Lcmp_Or_int fuel) (fnNt Pr 164) fuel (Ccmp_Or_int fuel) (lp Pr 164 0) := by
  refine .of Tcmp_Or_int_0 (Fcmp_Or_int_0 fuel) (fun L h => ?_) (fun ps st K r he hr => ?_)
  · have e : (Lcmp_Or_int fuel).get (writes (lp Pr 164 0).1) = some (lam Tcmp_Or_int_0 (Fcmp_Or_int_0 fuel)) := by kernel_rfl
    exact (Option.some.inj (e.symm.trans h)).symm
  · unfold Fcmp_Or_int_0 at hr
    split at hr
    · obtain rfl := (Option.some.inj he).symm
      exact (gcmp_Or_int_l0_ok fuel K _ _ _ _ _ _ fuel _).trans hr
    · cases hr
noncomputable def gcmp_Or_int (fuel qg2 qhq : Nat) (qhw : Ge) : Option AV :=
  gcmp_Or_int_l0 fuel
    (fun (xu2 : Int) => some (AV.int .i64 xu2))
    (fun (qha : Int) => some (AV.int .i64 qha))
    (0)
    (qg2)
    (qhq)
    (qhw)
    ((↑qg2 : Int)) fuel (0)
theorem gcmp_Or_int_run (fuel qg2 qhq : Nat) (qhw : Ge) : run Pr (Gcmp_Or_int) [((6, 164), Lcmp_Or_int fuel)] fuel 7 164 [AV.ro 1 qg2 qhq qhw] = gcmp_Or_int fuel qg2 qhq qhw := by kernel_rfl
noncomputable def mcmp_Or_int (fuel : Nat) (xs : List AV) : Option AV := match xs with
  | [AV.ro 1 qg2 qhq qhw] => gcmp_Or_int fuel qg2 qhq qhw
  | _ => none
abbrev Rcmp_Or_int : List RS := [RS.one (LK.i .i64)]
theorem gcmp_Or_int_sm (fuel : Nat) (hΓ : GamOk Pr (Gcmp_Or_int)) (hP : NamesOk Pr) : SmOk Pr 164 (smM Rcmp_Or_int (mcmp_Or_int fuel)) := by
  refine smM_ok (fuel := fuel) hΓ hP (LamOk.of 6 164 (Lcmp_Or_int fuel) 1 (by kernel_rfl) (fun i hi => ?_)) 7 164 Rcmp_Or_int _ (fun xs v h => ?_)
  · match i, hi with
    | 0, _ => exact gcmp_Or_int_L0 fuel
    | i + 1, hi => exact absurd hi (by omega)
  · unfold mcmp_Or_int at h
    split at h
    · exact (gcmp_Or_int_run fuel _ _ _).trans h
    · cases h
noncomputable def Lbits_Order (y4 zw : Mo) (vd yk : Mo) (fuel : Nat) : Lam AV := []
noncomputable def Gbits_Order (y4 zw : Mo) (vd yk : Mo) : Gam := [(163, smM [RS.one (LK.i .i64), RS.one (LK.i .i64)] y4), (165, smM [RS.one (LK.i .i64)] zw), (166, smM [RS.one (LK.i .i64)] vd), (164, smM [RS.one (LK.i .i64)] yk)]
noncomputable def Cbits_Order (y4 zw : Mo) (vd yk : Mo) (fuel : Nat) : CallI AV := callX (Gbits_Order y4 zw vd yk) (execFn Pr (Gbits_Order y4 zw vd yk) [((6, 129), Lbits_Order y4 zw vd yk fuel)] fuel 6)
noncomputable def gbits_Order (y4 zw : Mo) (vd yk : Mo) (fuel : Nat) (ua0 ub1 : Option Nat) : Option AV :=
  let r0 : Option AV := y4 [AV.flt .f64 ua0]; ck (okM [RS.one (LK.i .i64), RS.one (LK.i .i64)] r0) <| let r1 : Option AV := y4 [AV.flt .f64 ub1]; ck (okM [RS.one (LK.i .i64), RS.one (LK.i .i64)] r1) <| ck (okM [RS.one (LK.i .i64)] (zw [AV.int .i64 (toI ((toT (getV r0)).headD AV.dead)), AV.int .i64 (toI ((toT (getV r1)).headD AV.dead))])) <| ck (okM [RS.one (LK.i .i64)] (vd [AV.int .i64 (toI ((toT (getV r0)).tail.headD AV.dead)), AV.int .i64 (toI ((toT (getV r1)).tail.headD AV.dead))])) <| ck (okM [RS.one (LK.i .i64)] (yk [AV.ro 1 2 2 fun (i j : Nat) => ([[AV.int .i64 (toI (getV (zw [AV.int .i64 (toI ((toT (getV r0)).headD AV.dead)), AV.int .i64 (toI ((toT (getV r1)).headD AV.dead))])))], [AV.int .i64 (toI (getV (vd [AV.int .i64 (toI ((toT (getV r0)).tail.headD AV.dead)), AV.int .i64 (toI ((toT (getV r1)).tail.headD AV.dead))])))]].getD i []).getD j AV.dead])) <| some (AV.int .i64 (toI (getV (yk [AV.ro 1 2 2 fun (i j : Nat) => ([[AV.int .i64 (toI (getV (zw [AV.int .i64 (toI ((toT (getV r0)).headD AV.dead)), AV.int .i64 (toI ((toT (getV r1)).headD AV.dead))])))], [AV.int .i64 (toI (getV (vd [AV.int .i64 (toI ((toT (getV r0)).tail.headD AV.dead)), AV.int .i64 (toI ((toT (getV r1)).tail.headD AV.dead))])))]].getD i []).getD j AV.dead]))))
theorem gbits_Order_run (y4 zw : Mo) (vd yk : Mo) (fuel : Nat) (ua0 ub1 : Option Nat) : run Pr (Gbits_Order y4 zw vd yk) [((6, 129), Lbits_Order y4 zw vd yk fuel)] fuel 7 129 [AV.flt .f64 ua0, AV.flt .f64 ub1] = gbits_Order y4 zw vd yk fuel ua0 ub1 := by kernel_rfl
noncomputable def mbits_Order (y4 zw : Mo) (vd yk : Mo) (fuel : Nat) (xs : List AV) : Option AV := match xs with
  | [AV.flt .f64 ua0, AV.flt .f64 ub1] => gbits_Order y4 zw vd yk fuel ua0 ub1
  | _ => none
abbrev Rbits_Order : List RS := [RS.one (LK.i .i64)]
theorem gbits_Order_sm (y4 zw : Mo) (vd yk : Mo) (fuel : Nat) (hΓ : GamOk Pr (Gbits_Order y4 zw vd yk)) (hP : NamesOk Pr) : SmOk Pr 129 (smM Rbits_Order (mbits_Order y4 zw vd yk fuel)) := by
  refine smM_ok (fuel := fuel) hΓ hP (LamOk.of 6 129 (Lbits_Order y4 zw vd yk fuel) 0 (by kernel_rfl) (fun i hi => ?_)) 7 129 Rbits_Order _ (fun xs v h => ?_)
  · match i, hi with
    | i + 0, hi => exact absurd hi (by omega)
  · unfold mbits_Order at h
    split at h
    · exact (gbits_Order_run y4 zw vd yk fuel _ _).trans h
    · cases h
noncomputable def Lspan_lesser (zq : Mo) (fuel : Nat) : Lam AV := []
noncomputable def Gspan_lesser (zq : Mo) : Gam := [(129, smM [RS.one (LK.i .i64)] zq)]
noncomputable def Cspan_lesser (zq : Mo) (fuel : Nat) : CallI AV := callX (Gspan_lesser zq) (execFn Pr (Gspan_lesser zq) [((6, 104), Lspan_lesser zq fuel)] fuel 6)
noncomputable def gspan_lesser (zq : Mo) (fuel : Nat) (ua0 ub1 : Option Nat) : Option AV :=
  ck (okM [RS.one (LK.i .i64)] (zq [AV.flt .f64 ub1, AV.flt .f64 ua0])) <| bif decide (toI (getV (zq [AV.flt .f64 ub1, AV.flt .f64 ua0])) < 0) then some (AV.flt .f64 ub1)
  else some (AV.flt .f64 ua0)
theorem gspan_lesser_run (zq : Mo) (fuel : Nat) (ua0 ub1 : Option Nat) : run Pr (Gspan_lesser zq) [((6, 104), Lspan_lesser zq fuel)] fuel 7 104 [AV.flt .f64 ua0, AV.flt .f64 ub1] = gspan_lesser zq fuel ua0 ub1 := by kernel_rfl
noncomputable def mspan_lesser (zq : Mo) (fuel : Nat) (xs : List AV) : Option AV := match xs with
  | [AV.flt .f64 ua0, AV.flt .f64 ub1] => gspan_lesser zq fuel ua0 ub1
  | _ => none
abbrev Rspan_lesser : List RS := [RS.one (LK.f .f64)]
theorem gspan_lesser_sm (zq : Mo) (fuel : Nat) (hΓ : GamOk Pr (Gspan_lesser zq)) (hP : NamesOk Pr) : SmOk Pr 104 (smM Rspan_lesser (mspan_lesser zq fuel)) := by
  refine smM_ok (fuel := fuel) hΓ hP (LamOk.of 6 104 (Lspan_lesser zq fuel) 0 (by kernel_rfl) (fun i hi => ?_)) 7 104 Rspan_lesser _ (fun xs v h => ?_)
  · match i, hi with
    | i + 0, hi => exact absurd hi (by omega)
  · unfold mspan_lesser at h
    split at h
    · exact (gspan_lesser_run zq fuel _ _).trans h
    · cases h
noncomputable def Lspan_greater (zq : Mo) (fuel : Nat) : Lam AV := []
noncomputable def Gspan_greater (zq : Mo) : Gam := [(129, smM [RS.one (LK.i .i64)] zq)]
noncomputable def Cspan_greater (zq : Mo) (fuel : Nat) : CallI AV := callX (Gspan_greater zq) (execFn Pr (Gspan_greater zq) [((6, 105), Lspan_greater zq fuel)] fuel 6)
noncomputable def gspan_greater (zq : Mo) (fuel : Nat) (ua0 ub1 : Option Nat) : Option AV :=
  ck (okM [RS.one (LK.i .i64)] (zq [AV.flt .f64 ub1, AV.flt .f64 ua0])) <| bif decide (toI (getV (zq [AV.flt .f64 ub1, AV.flt .f64 ua0])) > 0) then some (AV.flt .f64 ub1)
  else some (AV.flt .f64 ua0)
theorem gspan_greater_run (zq : Mo) (fuel : Nat) (ua0 ub1 : Option Nat) : run Pr (Gspan_greater zq) [((6, 105), Lspan_greater zq fuel)] fuel 7 105 [AV.flt .f64 ua0, AV.flt .f64 ub1] = gspan_greater zq fuel ua0 ub1 := by kernel_rfl
noncomputable def mspan_greater (zq : Mo) (fuel : Nat) (xs : List AV) : Option AV := match xs with
  | [AV.flt .f64 ua0, AV.flt .f64 ub1] => gspan_greater zq fuel ua0 ub1
  | _ => none
abbrev Rspan_greater : List RS := [RS.one (LK.f .f64)]
theorem gspan_greater_sm (zq : Mo) (fuel : Nat) (hΓ : GamOk Pr (Gspan_greater zq)) (hP : NamesOk Pr) : SmOk Pr 105 (smM Rspan_greater (mspan_greater zq fuel)) := by
  refine smM_ok (fuel := fuel) hΓ hP (LamOk.of 6 105 (Lspan_greater zq fuel) 0 (by kernel_rfl) (fun i hi => ?_)) 7 105 Rspan_greater _ (fun xs v h => ?_)
  · match i, hi with
    | i + 0, hi => exact absurd hi (by omega)
  · unfold mspan_greater at h
    split at h
    · exact (gspan_greater_run zq fuel _ _).trans h
    · cases h
noncomputable def Lround_Mul (wb qx : Mo) (q7 q4 : Mo) (qq qg : Mo) (w7 wc wr : Mo) (fuel : Nat) : Lam AV := []
noncomputable def Ground_Mul (wb qx : Mo) (q7 q4 : Mo) (qq qg : Mo) (w7 wc wr : Mo) : Gam := [(65, smM [RS.one (LK.i .i8)] wb), (67, smM [RS.one LK.b] qx), (68, smM [RS.one LK.b] q7), (70, smM [RS.one (LK.i .i64)] q4), (69, smM [RS.one (LK.f .f64)] qq), (97, smM [RS.one LK.b] qg), (73, smM [RS.agg [LK.b, LK.l (nat_lit 1), LK.i .i64]] w7), (74, smM [RS.agg [LK.b, LK.l (nat_lit 1), LK.i .i64]] wc), (72, smM [RS.one (LK.i .i64)] wr), (71, Go.Am.sFma)]
noncomputable def Cround_Mul (wb qx : Mo) (q7 q4 : Mo) (qq qg : Mo) (w7 wc wr : Mo) (fuel : Nat) : CallI AV := callX (Ground_Mul wb qx q7 q4 qq qg w7 wc wr) (execFn Pr (Ground_Mul wb qx q7 q4 qq qg w7 wc wr) [((6, 80), Lround_Mul wb qx q7 q4 qq qg w7 wc wr fuel)] fuel 6)
noncomputable def ground_Mul (wb qx : Mo) (q7 q4 : Mo) (qq qg : Mo) (w7 wc wr : Mo) (fuel : Nat) (ua0 ub1 : Option Nat) (um2 : Int) : Option AV :=
  ck (okM [RS.one (LK.i .i8)] (wb [AV.int .i8 um2])) <| ck (okM [RS.one LK.b] (qx [AV.ro 1 2 2 fun (i j : Nat) => ([[AV.flt .f64 ua0], [AV.flt .f64 ub1]].getD i []).getD j AV.dead])) <| bif bif bif !toB (getV (qx [AV.ro 1 2 2 fun (i j : Nat) => ([[AV.flt .f64 ua0], [AV.flt .f64 ub1]].getD i []).getD j AV.dead])) then true else ford .f64 ua0 (some 0) == some Ordering.eq then true else ford .f64 ub1 (some 0) == some Ordering.eq then some (AV.flt .f64 (farith BinOp.mul .f64 ua0 ub1))
  else ck (okM [RS.one LK.b] (q7 [AV.ro 1 3 3 fun (i j : Nat) => ([[AV.flt .f64 ua0], [AV.flt .f64 ub1], [AV.flt .f64 (farith BinOp.mul .f64 ua0 ub1)]].getD i []).getD j AV.dead])) <| bif toB (getV (q7 [AV.ro 1 3 3 fun (i j : Nat) => ([[AV.flt .f64 ua0], [AV.flt .f64 ub1], [AV.flt .f64 (farith BinOp.mul .f64 ua0 ub1)]].getD i []).getD j AV.dead])) then ck (sFma.ok [AV.flt .f64 ua0, AV.flt .f64 ub1, AV.flt .f64 (Option.map (Op.negFloat .f64) (farith BinOp.mul .f64 ua0 ub1))]) <| ck (okM [RS.one (LK.i .i64)] (q4 [AV.flt .f64 (ua0.bind fun (x : Nat) => ub1.bind fun (y : Nat) => (Option.map (Op.negFloat .f64) (farith BinOp.mul .f64 ua0 ub1)).bind fun (z : Nat) => FloatKind.f64.format.fma x y z)])) <| ck (okM [RS.one (LK.f .f64)] (qq [AV.flt .f64 (farith BinOp.mul .f64 ua0 ub1), AV.int .i64 (toI (getV (q4 [AV.flt .f64 (ua0.bind fun (x : Nat) => ub1.bind fun (y : Nat) => (Option.map (Op.negFloat .f64) (farith BinOp.mul .f64 ua0 ub1)).bind fun (z : Nat) => FloatKind.f64.format.fma x y z)]))), AV.int .i8 (toI (getV (wb [AV.int .i8 um2])))])) <| some (AV.flt .f64 (toF (getV (qq [AV.flt .f64 (farith BinOp.mul .f64 ua0 ub1), AV.int .i64 (toI (getV (q4 [AV.flt .f64 (ua0.bind fun (x : Nat) => ub1.bind fun (y : Nat) => (Option.map (Op.negFloat .f64) (farith BinOp.mul .f64 ua0 ub1)).bind fun (z : Nat) => FloatKind.f64.format.fma x y z)]))), AV.int .i8 (toI (getV (wb [AV.int .i8 um2])))]))))
  else ck (okM [RS.one LK.b] (qg [AV.flt .f64 (farith BinOp.mul .f64 ua0 ub1), AV.int .i64 0])) <| bif toB (getV (qg [AV.flt .f64 (farith BinOp.mul .f64 ua0 ub1), AV.int .i64 0])) then ck (okM [RS.one (LK.f .f64)] (qq [AV.flt .f64 (farith BinOp.mul .f64 ua0 ub1), AV.int .i64 0, AV.int .i8 (toI (getV (wb [AV.int .i8 um2])))])) <| some (AV.flt .f64 (toF (getV (qq [AV.flt .f64 (farith BinOp.mul .f64 ua0 ub1), AV.int .i64 0, AV.int .i8 (toI (getV (wb [AV.int .i8 um2])))]))))
  else let r0 : Option AV := w7 [AV.flt .f64 ua0]; ck (okM [RS.agg [LK.b, LK.l 1, LK.i .i64]] r0) <| let r1 : Option AV := w7 [AV.flt .f64 ub1]; ck (okM [RS.agg [LK.b, LK.l 1, LK.i .i64]] r1) <| let r2 : Option AV := wc [AV.agg [AV.bool (toB ((toC (getV r0)).headD AV.dead)), AV.ro 1 (toN ((toC (getV r0)).tail.headD AV.dead)) (toR ((toC (getV r0)).tail.headD AV.dead)) (toG ((toC (getV r0)).tail.headD AV.dead)), AV.int .i64 (toI ((toC (getV r0)).tail.tail.headD AV.dead))], AV.agg [AV.bool (toB ((toC (getV r1)).headD AV.dead)), AV.ro 1 (toN ((toC (getV r1)).tail.headD AV.dead)) (toR ((toC (getV r1)).tail.headD AV.dead)) (toG ((toC (getV r1)).tail.headD AV.dead)), AV.int .i64 (toI ((toC (getV r1)).tail.tail.headD AV.dead))]]; ck (okM [RS.agg [LK.b, LK.l 1, LK.i .i64]] r2) <| let r3 : Option AV := w7 [AV.flt .f64 (farith BinOp.mul .f64 ua0 ub1)]; ck (okM [RS.agg [LK.b, LK.l 1, LK.i .i64]] r3) <| ck (okM [RS.one (LK.i .i64)] (wr [AV.agg [AV.bool (toB ((toC (getV r2)).headD AV.dead)), AV.ro 1 (toN ((toC (getV r2)).tail.headD AV.dead)) (toR ((toC (getV r2)).tail.headD AV.dead)) (toG ((toC (getV r2)).tail.headD AV.dead)), AV.int .i64 (toI ((toC (getV r2)).tail.tail.headD AV.dead))], AV.agg [AV.bool (toB ((toC (getV r3)).headD AV.dead)), AV.ro 1 (toN ((toC (getV r3)).tail.headD AV.dead)) (toR ((toC (getV r3)).tail.headD AV.dead)) (toG ((toC (getV r3)).tail.headD AV.dead)), AV.int .i64 (toI ((toC (getV r3)).tail.tail.headD AV.dead))]])) <| ck (okM [RS.one (LK.f .f64)] (qq [AV.flt .f64 (farith BinOp.mul .f64 ua0 ub1), AV.int .i64 (toI (getV (wr [AV.agg [AV.bool (toB ((toC (getV r2)).headD AV.dead)), AV.ro 1 (toN ((toC (getV r2)).tail.headD AV.dead)) (toR ((toC (getV r2)).tail.headD AV.dead)) (toG ((toC (getV r2)).tail.headD AV.dead)), AV.int .i64 (toI ((toC (getV r2)).tail.tail.headD AV.dead))], AV.agg [AV.bool (toB ((toC (getV r3)).headD AV.dead)), AV.ro 1 (toN ((toC (getV r3)).tail.headD AV.dead)) (toR ((toC (getV r3)).tail.headD AV.dead)) (toG ((toC (getV r3)).tail.headD AV.dead)), AV.int .i64 (toI ((toC (getV r3)).tail.tail.headD AV.dead))]]))), AV.int .i8 (toI (getV (wb [AV.int .i8 um2])))])) <| some (AV.flt .f64 (toF (getV (qq [AV.flt .f64 (farith BinOp.mul .f64 ua0 ub1), AV.int .i64 (toI (getV (wr [AV.agg [AV.bool (toB ((toC (getV r2)).headD AV.dead)), AV.ro 1 (toN ((toC (getV r2)).tail.headD AV.dead)) (toR ((toC (getV r2)).tail.headD AV.dead)) (toG ((toC (getV r2)).tail.headD AV.dead)), AV.int .i64 (toI ((toC (getV r2)).tail.tail.headD AV.dead))], AV.agg [AV.bool (toB ((toC (getV r3)).headD AV.dead)), AV.ro 1 (toN ((toC (getV r3)).tail.headD AV.dead)) (toR ((toC (getV r3)).tail.headD AV.dead)) (toG ((toC (getV r3)).tail.headD AV.dead)), AV.int .i64 (toI ((toC (getV r3)).tail.tail.headD AV.dead))]]))), AV.int .i8 (toI (getV (wb [AV.int .i8 um2])))]))))
theorem ground_Mul_run (wb qx : Mo) (q7 q4 : Mo) (qq qg : Mo) (w7 wc wr : Mo) (fuel : Nat) (ua0 ub1 : Option Nat) (um2 : Int) : run Pr (Ground_Mul wb qx q7 q4 qq qg w7 wc wr) [((6, 80), Lround_Mul wb qx q7 q4 qq qg w7 wc wr fuel)] fuel 7 80 [AV.flt .f64 ua0, AV.flt .f64 ub1, AV.int .i8 um2] = ground_Mul wb qx q7 q4 qq qg w7 wc wr fuel ua0 ub1 um2 := by kernel_rfl
noncomputable def mround_Mul (wb qx : Mo) (q7 q4 : Mo) (qq qg : Mo) (w7 wc wr : Mo) (fuel : Nat) (xs : List AV) : Option AV := match xs with
  | [AV.flt .f64 ua0, AV.flt .f64 ub1, AV.int .i8 um2] => ground_Mul wb qx q7 q4 qq qg w7 wc wr fuel ua0 ub1 um2
  | _ => none
abbrev Rround_Mul : List RS := [RS.one (LK.f .f64)]
theorem ground_Mul_sm (wb qx : Mo) (q7 q4 : Mo) (qq qg : Mo) (w7 wc wr : Mo) (fuel : Nat) (hΓ : GamOk Pr (Ground_Mul wb qx q7 q4 qq qg w7 wc wr)) (hP : NamesOk Pr) : SmOk Pr 80 (smM Rround_Mul (mround_Mul wb qx q7 q4 qq qg w7 wc wr fuel)) := by
  refine smM_ok (fuel := fuel) hΓ hP (LamOk.of 6 80 (Lround_Mul wb qx q7 q4 qq qg w7 wc wr fuel) 0 (by kernel_rfl) (fun i hi => ?_)) 7 80 Rround_Mul _ (fun xs v h => ?_)
  · match i, hi with
    | i + 0, hi => exact absurd hi (by omega)
  · unfold mround_Mul at h
    split at h
    · exact (ground_Mul_run wb qx q7 q4 qq qg w7 wc wr fuel _ _ _).trans h
    · cases h
noncomputable def Lspan_Mul_c1 (yp : Mo) (fuel : Nat) : Lam AV := []
noncomputable def Gspan_Mul_c1 (yp : Mo) : Gam := [(80, smM [RS.one (LK.f .f64)] yp)]
noncomputable def Cspan_Mul_c1 (yp : Mo) (fuel : Nat) : CallI AV := callX (Gspan_Mul_c1 yp) (execFn Pr (Gspan_Mul_c1 yp) [((6, 79), Lspan_Mul_c1 yp fuel)] fuel 6)
noncomputable def gspan_Mul_c1 (yp : Mo) (fuel : Nat) (ux0 uy1 : Option Nat) (um2 : Int) : Option AV :=
  ck (okM [RS.one (LK.f .f64)] (yp [AV.flt .f64 ux0, AV.flt .f64 uy1, AV.int .i8 um2])) <| bif ford .f64 (toF (getV (yp [AV.flt .f64 ux0, AV.flt .f64 uy1, AV.int .i8 um2]))) (toF (getV (yp [AV.flt .f64 ux0, AV.flt .f64 uy1, AV.int .i8 um2]))) == some Ordering.eq then some (AV.flt .f64 (toF (getV (yp [AV.flt .f64 ux0, AV.flt .f64 uy1, AV.int .i8 um2]))))
  else some (AV.flt .f64 (some 0))
theorem gspan_Mul_c1_run (yp : Mo) (fuel : Nat) (ux0 uy1 : Option Nat) (um2 : Int) : run Pr (Gspan_Mul_c1 yp) [((6, 79), Lspan_Mul_c1 yp fuel)] fuel 7 79 [AV.flt .f64 ux0, AV.flt .f64 uy1, AV.int .i8 um2] = gspan_Mul_c1 yp fuel ux0 uy1 um2 := by kernel_rfl
noncomputable def mspan_Mul_c1 (yp : Mo) (fuel : Nat) (xs : List AV) : Option AV := match xs with
  | [AV.flt .f64 ux0, AV.flt .f64 uy1, AV.int .i8 um2] => gspan_Mul_c1 yp fuel ux0 uy1 um2
  | _ => none
abbrev Rspan_Mul_c1 : List RS := [RS.one (LK.f .f64)]
theorem gspan_Mul_c1_sm (yp : Mo) (fuel : Nat) (hΓ : GamOk Pr (Gspan_Mul_c1 yp)) (hP : NamesOk Pr) : SmOk Pr 79 (smM Rspan_Mul_c1 (mspan_Mul_c1 yp fuel)) := by
  refine smM_ok (fuel := fuel) hΓ hP (LamOk.of 6 79 (Lspan_Mul_c1 yp fuel) 0 (by kernel_rfl) (fun i hi => ?_)) 7 79 Rspan_Mul_c1 _ (fun xs v h => ?_)
  · match i, hi with
    | i + 0, hi => exact absurd hi (by omega)
  · unfold mspan_Mul_c1 at h
    split at h
    · exact (gspan_Mul_c1_run yp fuel _ _ _).trans h
    · cases h
noncomputable def Lround_Div (wb qx : Mo) (q7 q4 : Mo) (qq qg : Mo) (w7 wc wr : Mo) (fuel : Nat) : Lam AV := []
noncomputable def Ground_Div (wb qx : Mo) (q7 q4 : Mo) (qq qg : Mo) (w7 wc wr : Mo) : Gam := [(65, smM [RS.one (LK.i .i8)] wb), (67, smM [RS.one LK.b] qx), (68, smM [RS.one LK.b] q7), (70, smM [RS.one (LK.i .i64)] q4), (69, smM [RS.one (LK.f .f64)] qq), (97, smM [RS.one LK.b] qg), (73, smM [RS.agg [LK.b, LK.l (nat_lit 1), LK.i .i64]] w7), (74, smM [RS.agg [LK.b, LK.l (nat_lit 1), LK.i .i64]] wc), (72, smM [RS.one (LK.i .i64)] wr), (71, Go.Am.sFma)]
noncomputable def Cround_Div (wb qx : Mo) (q7 q4 : Mo) (qq qg : Mo) (w7 wc wr : Mo) (fuel : Nat) : CallI AV := callX (Ground_Div wb qx q7 q4 qq qg w7 wc wr) (execFn Pr (Ground_Div wb qx q7 q4 qq qg w7 wc wr) [((6, 78), Lround_Div wb qx q7 q4 qq qg w7 wc wr fuel)] fuel 6)
noncomputable def ground_Div (wb qx : Mo) (q7 q4 : Mo) (qq qg : Mo) (w7 wc wr : Mo) (fuel : Nat) (ua0 ub1 : Option Nat) (um2 : Int) : Option AV :=
  ck (okM [RS.one (LK.i .i8)] (wb [AV.int .i8 um2])) <| ck (okM [RS.one LK.b] (qx [AV.ro 1 2 2 fun (i j : Nat) => ([[AV.flt .f64 ua0], [AV.flt .f64 ub1]].getD i []).getD j AV.dead])) <| bif bif bif !toB (getV (qx [AV.ro 1 2 2 fun (i j : Nat) => ([[AV.flt .f64 ua0], [AV.flt .f64 ub1]].getD i []).getD j AV.dead])) then true else ford .f64 ua0 (some 0) == some Ordering.eq then true else ford .f64 ub1 (some 0) == some Ordering.eq then some (AV.flt .f64 (farith BinOp.quo .f64 ua0 ub1))
  else ck (okM [RS.one LK.b] (q7 [AV.ro 1 3 3 fun (i j : Nat) => ([[AV.flt .f64 ua0], [AV.flt .f64 ub1], [AV.flt .f64 (farith BinOp.quo .f64 ua0 ub1)]].getD i []).getD j AV.dead])) <| bif toB (getV (q7 [AV.ro 1 3 3 fun (i j : Nat) => ([[AV.flt .f64 ua0], [AV.flt .f64 ub1], [AV.flt .f64 (farith BinOp.quo .f64 ua0 ub1)]].getD i []).getD j AV.dead])) then ck (sFma.ok [AV.flt .f64 (Option.map (Op.negFloat .f64) (farith BinOp.quo .f64 ua0 ub1)), AV.flt .f64 ub1, AV.flt .f64 ua0]) <| ck (okM [RS.one (LK.i .i64)] (q4 [AV.flt .f64 ((Option.map (Op.negFloat .f64) (farith BinOp.quo .f64 ua0 ub1)).bind fun (x : Nat) => ub1.bind fun (y : Nat) => ua0.bind fun (z : Nat) => FloatKind.f64.format.fma x y z)])) <| ck (okM [RS.one (LK.i .i64)] (q4 [AV.flt .f64 ub1])) <| ck (okM [RS.one (LK.f .f64)] (qq [AV.flt .f64 (farith BinOp.quo .f64 ua0 ub1), AV.int .i64 (IntKind.i64.wrap (toI (getV (q4 [AV.flt .f64 ((Option.map (Op.negFloat .f64) (farith BinOp.quo .f64 ua0 ub1)).bind fun (x : Nat) => ub1.bind fun (y : Nat) => ua0.bind fun (z : Nat) => FloatKind.f64.format.fma x y z)])) * toI (getV (q4 [AV.flt .f64 ub1])))), AV.int .i8 (toI (getV (wb [AV.int .i8 um2])))])) <| some (AV.flt .f64 (toF (getV (qq [AV.flt .f64 (farith BinOp.quo .f64 ua0 ub1), AV.int .i64 (IntKind.i64.wrap (toI (getV (q4 [AV.flt .f64 ((Option.map (Op.negFloat .f64) (farith BinOp.quo .f64 ua0 ub1)).bind fun (x : Nat) => ub1.bind fun (y : Nat) => ua0.bind fun (z : Nat) => FloatKind.f64.format.fma x y z)])) * toI (getV (q4 [AV.flt .f64 ub1])))), AV.int .i8 (toI (getV (wb [AV.int .i8 um2])))]))))
  else ck (okM [RS.one LK.b] (qg [AV.flt .f64 (farith BinOp.quo .f64 ua0 ub1), AV.int .i64 0])) <| bif toB (getV (qg [AV.flt .f64 (farith BinOp.quo .f64 ua0 ub1), AV.int .i64 0])) then ck (okM [RS.one (LK.f .f64)] (qq [AV.flt .f64 (farith BinOp.quo .f64 ua0 ub1), AV.int .i64 0, AV.int .i8 (toI (getV (wb [AV.int .i8 um2])))])) <| some (AV.flt .f64 (toF (getV (qq [AV.flt .f64 (farith BinOp.quo .f64 ua0 ub1), AV.int .i64 0, AV.int .i8 (toI (getV (wb [AV.int .i8 um2])))]))))
  else let r0 : Option AV := w7 [AV.flt .f64 ua0]; ck (okM [RS.agg [LK.b, LK.l 1, LK.i .i64]] r0) <| let r1 : Option AV := w7 [AV.flt .f64 (farith BinOp.quo .f64 ua0 ub1)]; ck (okM [RS.agg [LK.b, LK.l 1, LK.i .i64]] r1) <| let r2 : Option AV := w7 [AV.flt .f64 ub1]; ck (okM [RS.agg [LK.b, LK.l 1, LK.i .i64]] r2) <| let r3 : Option AV := wc [AV.agg [AV.bool (toB ((toC (getV r1)).headD AV.dead)), AV.ro 1 (toN ((toC (getV r1)).tail.headD AV.dead)) (toR ((toC (getV r1)).tail.headD AV.dead)) (toG ((toC (getV r1)).tail.headD AV.dead)), AV.int .i64 (toI ((toC (getV r1)).tail.tail.headD AV.dead))], AV.agg [AV.bool (toB ((toC (getV r2)).headD AV.dead)), AV.ro 1 (toN ((toC (getV r2)).tail.headD AV.dead)) (toR ((toC (getV r2)).tail.headD AV.dead)) (toG ((toC (getV r2)).tail.headD AV.dead)), AV.int .i64 (toI ((toC (getV r2)).tail.tail.headD AV.dead))]]; ck (okM [RS.agg [LK.b, LK.l 1, LK.i .i64]] r3) <| ck (okM [RS.one (LK.i .i64)] (wr [AV.agg [AV.bool (toB ((toC (getV r0)).headD AV.dead)), AV.ro 1 (toN ((toC (getV r0)).tail.headD AV.dead)) (toR ((toC (getV r0)).tail.headD AV.dead)) (toG ((toC (getV r0)).tail.headD AV.dead)), AV.int .i64 (toI ((toC (getV r0)).tail.tail.headD AV.dead))], AV.agg [AV.bool (toB ((toC (getV r3)).headD AV.dead)), AV.ro 1 (toN ((toC (getV r3)).tail.headD AV.dead)) (toR ((toC (getV r3)).tail.headD AV.dead)) (toG ((toC (getV r3)).tail.headD AV.dead)), AV.int .i64 (toI ((toC (getV r3)).tail.tail.headD AV.dead))]])) <| ck (okM [RS.one (LK.i .i64)] (q4 [AV.flt .f64 ub1])) <| ck (okM [RS.one (LK.f .f64)] (qq [AV.flt .f64 (farith BinOp.quo .f64 ua0 ub1), AV.int .i64 (IntKind.i64.wrap (toI (getV (wr [AV.agg [AV.bool (toB ((toC (getV r0)).headD AV.dead)), AV.ro 1 (toN ((toC (getV r0)).tail.headD AV.dead)) (toR ((toC (getV r0)).tail.headD AV.dead)) (toG ((toC (getV r0)).tail.headD AV.dead)), AV.int .i64 (toI ((toC (getV r0)).tail.tail.headD AV.dead))], AV.agg [AV.bool (toB ((toC (getV r3)).headD AV.dead)), AV.ro 1 (toN ((toC (getV r3)).tail.headD AV.dead)) (toR ((toC (getV r3)).tail.headD AV.dead)) (toG ((toC (getV r3)).tail.headD AV.dead)), AV.int .i64 (toI ((toC (getV r3)).tail.tail.headD AV.dead))]])) * toI (getV (q4 [AV.flt .f64 ub1])))), AV.int .i8 (toI (getV (wb [AV.int .i8 um2])))])) <| some (AV.flt .f64 (toF (getV (qq [AV.flt .f64 (farith BinOp.quo .f64 ua0 ub1), AV.int .i64 (IntKind.i64.wrap (toI (getV (wr [AV.agg [AV.bool (toB ((toC (getV r0)).headD AV.dead)), AV.ro 1 (toN ((toC (getV r0)).tail.headD AV.dead)) (toR ((toC (getV r0)).tail.headD AV.dead)) (toG ((toC (getV r0)).tail.headD AV.dead)), AV.int .i64 (toI ((toC (getV r0)).tail.tail.headD AV.dead))], AV.agg [AV.bool (toB ((toC (getV r3)).headD AV.dead)), AV.ro 1 (toN ((toC (getV r3)).tail.headD AV.dead)) (toR ((toC (getV r3)).tail.headD AV.dead)) (toG ((toC (getV r3)).tail.headD AV.dead)), AV.int .i64 (toI ((toC (getV r3)).tail.tail.headD AV.dead))]])) * toI (getV (q4 [AV.flt .f64 ub1])))), AV.int .i8 (toI (getV (wb [AV.int .i8 um2])))]))))
theorem ground_Div_run (wb qx : Mo) (q7 q4 : Mo) (qq qg : Mo) (w7 wc wr : Mo) (fuel : Nat) (ua0 ub1 : Option Nat) (um2 : Int) : run Pr (Ground_Div wb qx q7 q4 qq qg w7 wc wr) [((6, 78), Lround_Div wb qx q7 q4 qq qg w7 wc wr fuel)] fuel 7 78 [AV.flt .f64 ua0, AV.flt .f64 ub1, AV.int .i8 um2] = ground_Div wb qx q7 q4 qq qg w7 wc wr fuel ua0 ub1 um2 := by kernel_rfl
noncomputable def mround_Div (wb qx : Mo) (q7 q4 : Mo) (qq qg : Mo) (w7 wc wr : Mo) (fuel : Nat) (xs : List AV) : Option AV := match xs with
  | [AV.flt .f64 ua0, AV.flt .f64 ub1, AV.int .i8 um2] => ground_Div wb qx q7 q4 qq qg w7 wc wr fuel ua0 ub1 um2
  | _ => none
abbrev Rround_Div : List RS := [RS.one (LK.f .f64)]
theorem ground_Div_sm (wb qx : Mo) (q7 q4 : Mo) (qq qg : Mo) (w7 wc wr : Mo) (fuel : Nat) (hΓ : GamOk Pr (Ground_Div wb qx q7 q4 qq qg w7 wc wr)) (hP : NamesOk Pr) : SmOk Pr 78 (smM Rround_Div (mround_Div wb qx q7 q4 qq qg w7 wc wr fuel)) := by
  refine smM_ok (fuel := fuel) hΓ hP (LamOk.of 6 78 (Lround_Div wb qx q7 q4 qq qg w7 wc wr fuel) 0 (by kernel_rfl) (fun i hi => ?_)) 7 78 Rround_Div _ (fun xs v h => ?_)
  · match i, hi with
    | i + 0, hi => exact absurd hi (by omega)
  · unfold mround_Div at h
    split at h
    · exact (ground_Div_run wb qx q7 q4 qq qg w7 wc wr fuel _ _ _).trans h
    · cases h
noncomputable def Lspan_Div_c1 (yo : Mo) (fuel : Nat) : Lam AV := []
noncomputable def Gspan_Div_c1 (yo : Mo) : Gam := [(78, smM [RS.one (LK.f .f64)] yo)]
noncomputable def Cspan_Div_c1 (yo : Mo) (fuel : Nat) : CallI AV := callX (Gspan_Div_c1 yo) (execFn Pr (Gspan_Div_c1 yo) [((6, 77), Lspan_Div_c1 yo fuel)] fuel 6)
noncomputable def gspan_Div_c1 (yo : Mo) (fuel : Nat) (ux0 uy1 : Option Nat) (um2 : Int) : Option AV :=
  ck (okM [RS.one (LK.f .f64)] (yo [AV.flt .f64 ux0, AV.flt .f64 uy1, AV.int .i8 um2])) <| bif ford .f64 (toF (getV (yo [AV.flt .f64 ux0, AV.flt .f64 uy1, AV.int .i8 um2]))) (toF (getV (yo [AV.flt .f64 ux0, AV.flt .f64 uy1, AV.int .i8 um2]))) == some Ordering.eq then some (AV.flt .f64 (toF (getV (yo [AV.flt .f64 ux0, AV.flt .f64 uy1, AV.int .i8 um2]))))
  else some (AV.flt .f64 (some 0))
theorem gspan_Div_c1_run (yo : Mo) (fuel : Nat) (ux0 uy1 : Option Nat) (um2 : Int) : run Pr (Gspan_Div_c1 yo) [((6, 77), Lspan_Div_c1 yo fuel)] fuel 7 77 [AV.flt .f64 ux0, AV.flt .f64 uy1, AV.int .i8 um2] = gspan_Div_c1 yo fuel ux0 uy1 um2 := by kernel_rfl
noncomputable def mspan_Div_c1 (yo : Mo) (fuel : Nat) (xs : List AV) : Option AV := match xs with
  | [AV.flt .f64 ux0, AV.flt .f64 uy1, AV.int .i8 um2] => gspan_Div_c1 yo fuel ux0 uy1 um2
  | _ => none
abbrev Rspan_Div_c1 : List RS := [RS.one (LK.f .f64)]
theorem gspan_Div_c1_sm (yo : Mo) (fuel : Nat) (hΓ : GamOk Pr (Gspan_Div_c1 yo)) (hP : NamesOk Pr) : SmOk Pr 77 (smM Rspan_Div_c1 (mspan_Div_c1 yo fuel)) := by
  refine smM_ok (fuel := fuel) hΓ hP (LamOk.of 6 77 (Lspan_Div_c1 yo fuel) 0 (by kernel_rfl) (fun i hi => ?_)) 7 77 Rspan_Div_c1 _ (fun xs v h => ?_)
  · match i, hi with
    | i + 0, hi => exact absurd hi (by omega)
  · unfold mspan_Div_c1 at h
    split at h
    · exact (gspan_Div_c1_run yo fuel _ _ _).trans h
    · cases h
noncomputable def Lspan_corners_a (wo wh : Mo) (qk qj : Mo) (fuel : Nat) : Lam AV := []
noncomputable def Gspan_corners_a (wo wh : Mo) (qk qj : Mo) : Gam := [(104, smM [RS.one (LK.f .f64)] wo), (105, smM [RS.one (LK.f .f64)] wh), (79, smM [RS.one (LK.f .f64)] qk), (77, smM [RS.one (LK.f .f64)] qj)]
noncomputable def Cspan_corners_a (wo wh : Mo) (qk qj : Mo) (fuel : Nat) : CallI AV := callX (Gspan_corners_a wo wh qk qj) (execFn Pr (Gspan_corners_a wo wh qk qj) [((6, 76), Lspan_corners_a wo wh qk qj fuel)] fuel 6)
noncomputable def gspan_corners_a (wo wh : Mo) (qk qj : Mo) (fuel : Nat) (q9 wl : Option Nat) (wa wj : Option Nat) : Option AV :=
  ck (okM [RS.one (LK.f .f64)] (qk [AV.flt .f64 q9, AV.flt .f64 wa, AV.int .i8 1])) <| ck (okM [RS.one (LK.f .f64)] (qk [AV.flt .f64 q9, AV.flt .f64 wa, AV.int .i8 2])) <| ck (okM [RS.one (LK.f .f64)] (qk [AV.flt .f64 q9, AV.flt .f64 wj, AV.int .i8 1])) <| ck (okM [RS.one (LK.f .f64)] (wo [AV.flt .f64 (toF (getV (qk [AV.flt .f64 q9, AV.flt .f64 wa, AV.int .i8 1]))), AV.flt .f64 (toF (getV (qk [AV.flt .f64 q9, AV.flt .f64 wj, AV.int .i8 1])))])) <| ck (okM [RS.one (LK.f .f64)] (qk [AV.flt .f64 q9, AV.flt .f64 wj, AV.int .i8 2])) <| ck (okM [RS.one (LK.f .f64)] (wh [AV.flt .f64 (toF (getV (qk [AV.flt .f64 q9, AV.flt .f64 wa, AV.int .i8 2]))), AV.flt .f64 (toF (getV (qk [AV.flt .f64 q9, AV.flt .f64 wj, AV.int .i8 2])))])) <| ck (okM [RS.one (LK.f .f64)] (qk [AV.flt .f64 wl, AV.flt .f64 wa, AV.int .i8 1])) <| ck (okM [RS.one (LK.f .f64)] (wo [AV.flt .f64 (toF (getV (wo [AV.flt .f64 (toF (getV (qk [AV.flt .f64 q9, AV.flt .f64 wa, AV.int .i8 1]))), AV.flt .f64 (toF (getV (qk [AV.flt .f64 q9, AV.flt .f64 wj, AV.int .i8 1])))]))), AV.flt .f64 (toF (getV (qk [AV.flt .f64 wl, AV.flt .f64 wa, AV.int .i8 1])))])) <| ck (okM [RS.one (LK.f .f64)] (qk [AV.flt .f64 wl, AV.flt .f64 wa, AV.int .i8 2])) <| ck (okM [RS.one (LK.f .f64)] (wh [AV.flt .f64 (toF (getV (wh [AV.flt .f64 (toF (getV (qk [AV.flt .f64 q9, AV.flt .f64 wa, AV.int .i8 2]))), AV.flt .f64 (toF (getV (qk [AV.flt .f64 q9, AV.flt .f64 wj, AV.int .i8 2])))]))), AV.flt .f64 (toF (getV (qk [AV.flt .f64 wl, AV.flt .f64 wa, AV.int .i8 2])))])) <| ck (okM [RS.one (LK.f .f64)] (qk [AV.flt .f64 wl, AV.flt .f64 wj, AV.int .i8 1])) <| ck (okM [RS.one (LK.f .f64)] (wo [AV.flt .f64 (toF (getV (wo [AV.flt .f64 (toF (getV (wo [AV.flt .f64 (toF (getV (qk [AV.flt .f64 q9, AV.flt .f64 wa, AV.int .i8 1]))), AV.flt .f64 (toF (getV (qk [AV.flt .f64 q9, AV.flt .f64 wj, AV.int .i8 1])))]))), AV.flt .f64 (toF (getV (qk [AV.flt .f64 wl, AV.flt .f64 wa, AV.int .i8 1])))]))), AV.flt .f64 (toF (getV (qk [AV.flt .f64 wl, AV.flt .f64 wj, AV.int .i8 1])))])) <| ck (okM [RS.one (LK.f .f64)] (qk [AV.flt .f64 wl, AV.flt .f64 wj, AV.int .i8 2])) <| ck (okM [RS.one (LK.f .f64)] (wh [AV.flt .f64 (toF (getV (wh [AV.flt .f64 (toF (getV (wh [AV.flt .f64 (toF (getV (qk [AV.flt .f64 q9, AV.flt .f64 wa, AV.int .i8 2]))), AV.flt .f64 (toF (getV (qk [AV.flt .f64 q9, AV.flt .f64 wj, AV.int .i8 2])))]))), AV.flt .f64 (toF (getV (qk [AV.flt .f64 wl, AV.flt .f64 wa, AV.int .i8 2])))]))), AV.flt .f64 (toF (getV (qk [AV.flt .f64 wl, AV.flt .f64 wj, AV.int .i8 2])))])) <| some (AV.tup [AV.agg [AV.flt .f64 (toF (getV (wo [AV.flt .f64 (toF (getV (wo [AV.flt .f64 (toF (getV (wo [AV.flt .f64 (toF (getV (qk [AV.flt .f64 q9, AV.flt .f64 wa, AV.int .i8 1]))), AV.flt .f64 (toF (getV (qk [AV.flt .f64 q9, AV.flt .f64 wj, AV.int .i8 1])))]))), AV.flt .f64 (toF (getV (qk [AV.flt .f64 wl, AV.flt .f64 wa, AV.int .i8 1])))]))), AV.flt .f64 (toF (getV (qk [AV.flt .f64 wl, AV.flt .f64 wj, AV.int .i8 1])))]))), AV.flt .f64 (toF (getV (wh [AV.flt .f64 (toF (getV (wh [AV.flt .f64 (toF (getV (wh [AV.flt .f64 (toF (getV (qk [AV.flt .f64 q9, AV.flt .f64 wa, AV.int .i8 2]))), AV.flt .f64 (toF (getV (qk [AV.flt .f64 q9, AV.flt .f64 wj, AV.int .i8 2])))]))), AV.flt .f64 (toF (getV (qk [AV.flt .f64 wl, AV.flt .f64 wa, AV.int .i8 2])))]))), AV.flt .f64 (toF (getV (qk [AV.flt .f64 wl, AV.flt .f64 wj, AV.int .i8 2])))])))]])
theorem gspan_corners_a_run (wo wh : Mo) (qk qj : Mo) (fuel : Nat) (q9 wl : Option Nat) (wa wj : Option Nat) : runX Pr (Gspan_corners_a wo wh qk qj) [] (fuel + 8) 7 76 Xspan_corners_a [AV.agg [AV.flt .f64 q9, AV.flt .f64 wl], AV.agg [AV.flt .f64 wa, AV.flt .f64 wj], AV.fn (Fn.func 79) [] []] [] = gspan_corners_a wo wh qk qj fuel q9 wl wa wj := by kernel_rfl
noncomputable def mspan_corners_a (wo wh : Mo) (qk qj : Mo) (fuel : Nat) (xs : List AV) : Option AV := match xs with
  | [AV.agg [AV.flt .f64 q9, AV.flt .f64 wl], AV.agg [AV.flt .f64 wa, AV.flt .f64 wj], AV.fn (Fn.func 79) [] []] => gspan_corners_a wo wh qk qj fuel q9 wl wa wj
  | _ => none
theorem gspan_corners_a_sm (wo wh : Mo) (qk qj : Mo) (fuel : Nat) (hΓ : GamOk Pr (Gspan_corners_a wo wh qk qj)) (hP : NamesOk Pr) : XOk Pr 76 (smX Rspan_corners_a Xspan_corners_a (mspan_corners_a wo wh qk qj fuel)) Xspan_corners_a := by
  refine smX_ok (fuel := (fuel + 8)) hΓ hP (LamOk.nil _ _ _) 7 76 Rspan_corners_a Xspan_corners_a _ (fun xs0 ys0 v ha hb h => ?_)
  · skip
    have ha0 : xs0.length = 3 := ha
    clear ha
    obtain ⟨a0, xs1, rfl, ha1⟩ := len_cons ha0
    clear ha0
    obtain ⟨a1, xs2, rfl, ha2⟩ := len_cons ha1
    clear ha1
    obtain ⟨a2, xs3, rfl, ha3⟩ := len_cons ha2
    clear ha2
    obtain rfl := List.eq_nil_of_length_eq_zero ha3
    have hy0 : ys0.map List.length = [] := hb
    clear hb
    obtain rfl := map_nil' hy0
    have h : mspan_corners_a wo wh qk qj fuel [a0, a1, a2] = some v := h
    generalize hx0 : [a0, a1, a2] = zs at h
    unfold mspan_corners_a at h
    split at h
    · skip
      obtain ⟨rfl, hx1⟩ := List.cons.inj hx0
      obtain ⟨rfl, hx2⟩ := List.cons.inj hx1
      obtain ⟨rfl, hx3⟩ := List.cons.inj hx2
      simp only [List.map_cons, List.map_nil]
      exact (gspan_corners_a_run wo wh qk qj fuel _ _ _ _).trans h
    · cases h
noncomputable def Lspan_corners_b (wo wh : Mo) (qk qj : Mo) (fuel : Nat) : Lam AV := []
noncomputable def Gspan_corners_b (wo wh : Mo) (qk qj : Mo) : Gam := [(104, smM [RS.one (LK.f .f64)] wo), (105, smM [RS.one (LK.f .f64)] wh), (79, smM [RS.one (LK.f .f64)] qk), (77, smM [RS.one (LK.f .f64)] qj)]
noncomputable def Cspan_corners_b (wo wh : Mo) (qk qj : Mo) (fuel : Nat) : CallI AV := callX (Gspan_corners_b wo wh qk qj) (execFn Pr (Gspan_corners_b wo wh qk qj) [((6, 76), Lspan_corners_b wo wh qk qj fuel)] fuel 6)
noncomputable def gspan_corners_b (wo wh : Mo) (qk qj : Mo) (fuel : Nat) (q9 wl : Option Nat) (wa wj : Option Nat) : Option AV :=
  ck (okM [RS.one (LK.f .f64)] (qj [AV.flt .f64 q9, AV.flt .f64 wa, AV.int .i8 1])) <| ck (okM [RS.one (LK.f .f64)] (qj [AV.flt .f64 q9, AV.flt .f64 wa, AV.int .i8 2])) <| ck (okM [RS.one (LK.f .f64)] (qj [AV.flt .f64 q9, AV.flt .f64 wj, AV.int .i8 1])) <| ck (okM [RS.one (LK.f .f64)] (wo [AV.flt .f64 (toF (getV (qj [AV.flt .f64 q9, AV.flt .f64 wa, AV.int .i8 1]))), AV.flt .f64 (toF (getV (qj [AV.flt .f64 q9, AV.flt .f64 wj, AV.int .i8 1])))])) <| ck (okM [RS.one (LK.f .f64)] (qj [AV.flt .f64 q9, AV.flt .f64 wj, AV.int .i8 2])) <| ck (okM [RS.one (LK.f .f64)] (wh [AV.flt .f64 (toF (getV (qj [AV.flt .f64 q9, AV.flt .f64 wa, AV.int .i8 2]))), AV.flt .f64 (toF (getV (qj [AV.flt .f64 q9, AV.flt .f64 wj, AV.int .i8 2])))])) <| ck (okM [RS.one (LK.f .f64)] (qj [AV.flt .f64 wl, AV.flt .f64 wa, AV.int .i8 1])) <| ck (okM [RS.one (LK.f .f64)] (wo [AV.flt .f64 (toF (getV (wo [AV.flt .f64 (toF (getV (qj [AV.flt .f64 q9, AV.flt .f64 wa, AV.int .i8 1]))), AV.flt .f64 (toF (getV (qj [AV.flt .f64 q9, AV.flt .f64 wj, AV.int .i8 1])))]))), AV.flt .f64 (toF (getV (qj [AV.flt .f64 wl, AV.flt .f64 wa, AV.int .i8 1])))])) <| ck (okM [RS.one (LK.f .f64)] (qj [AV.flt .f64 wl, AV.flt .f64 wa, AV.int .i8 2])) <| ck (okM [RS.one (LK.f .f64)] (wh [AV.flt .f64 (toF (getV (wh [AV.flt .f64 (toF (getV (qj [AV.flt .f64 q9, AV.flt .f64 wa, AV.int .i8 2]))), AV.flt .f64 (toF (getV (qj [AV.flt .f64 q9, AV.flt .f64 wj, AV.int .i8 2])))]))), AV.flt .f64 (toF (getV (qj [AV.flt .f64 wl, AV.flt .f64 wa, AV.int .i8 2])))])) <| ck (okM [RS.one (LK.f .f64)] (qj [AV.flt .f64 wl, AV.flt .f64 wj, AV.int .i8 1])) <| ck (okM [RS.one (LK.f .f64)] (wo [AV.flt .f64 (toF (getV (wo [AV.flt .f64 (toF (getV (wo [AV.flt .f64 (toF (getV (qj [AV.flt .f64 q9, AV.flt .f64 wa, AV.int .i8 1]))), AV.flt .f64 (toF (getV (qj [AV.flt .f64 q9, AV.flt .f64 wj, AV.int .i8 1])))]))), AV.flt .f64 (toF (getV (qj [AV.flt .f64 wl, AV.flt .f64 wa, AV.int .i8 1])))]))), AV.flt .f64 (toF (getV (qj [AV.flt .f64 wl, AV.flt .f64 wj, AV.int .i8 1])))])) <| ck (okM [RS.one (LK.f .f64)] (qj [AV.flt .f64 wl, AV.flt .f64 wj, AV.int .i8 2])) <| ck (okM [RS.one (LK.f .f64)] (wh [AV.flt .f64 (toF (getV (wh [AV.flt .f64 (toF (getV (wh [AV.flt .f64 (toF (getV (qj [AV.flt .f64 q9, AV.flt .f64 wa, AV.int .i8 2]))), AV.flt .f64 (toF (getV (qj [AV.flt .f64 q9, AV.flt .f64 wj, AV.int .i8 2])))]))), AV.flt .f64 (toF (getV (qj [AV.flt .f64 wl, AV.flt .f64 wa, AV.int .i8 2])))]))), AV.flt .f64 (toF (getV (qj [AV.flt .f64 wl, AV.flt .f64 wj, AV.int .i8 2])))])) <| some (AV.tup [AV.agg [AV.flt .f64 (toF (getV (wo [AV.flt .f64 (toF (getV (wo [AV.flt .f64 (toF (getV (wo [AV.flt .f64 (toF (getV (qj [AV.flt .f64 q9, AV.flt .f64 wa, AV.int .i8 1]))), AV.flt .f64 (toF (getV (qj [AV.flt .f64 q9, AV.flt .f64 wj, AV.int .i8 1])))]))), AV.flt .f64 (toF (getV (qj [AV.flt .f64 wl, AV.flt .f64 wa, AV.int .i8 1])))]))), AV.flt .f64 (toF (getV (qj [AV.flt .f64 wl, AV.flt .f64 wj, AV.int .i8 1])))]))), AV.flt .f64 (toF (getV (wh [AV.flt .f64 (toF (getV (wh [AV.flt .f64 (toF (getV (wh [AV.flt .f64 (toF (getV (qj [AV.flt .f64 q9, AV.flt .f64 wa, AV.int .i8 2]))), AV.flt .f64 (toF (getV (qj [AV.flt .f64 q9, AV.flt .f64 wj, AV.int .i8 2])))]))), AV.flt .f64 (toF (getV (qj [AV.flt .f64 wl, AV.flt .f64 wa, AV.int .i8 2])))]))), AV.flt .f64 (toF (getV (qj [AV.flt .f64 wl, AV.flt .f64 wj, AV.int .i8 2])))])))]])
theorem gspan_corners_b_run (wo wh : Mo) (qk qj : Mo) (fuel : Nat) (q9 wl : Option Nat) (wa wj : Option Nat) : runX Pr (Gspan_corners_b wo wh qk qj) [] (fuel + 8) 7 76 Xspan_corners_b [AV.agg [AV.flt .f64 q9, AV.flt .f64 wl], AV.agg [AV.flt .f64 wa, AV.flt .f64 wj], AV.fn (Fn.func 77) [] []] [] = gspan_corners_b wo wh qk qj fuel q9 wl wa wj := by kernel_rfl
noncomputable def mspan_corners_b (wo wh : Mo) (qk qj : Mo) (fuel : Nat) (xs : List AV) : Option AV := match xs with
  | [AV.agg [AV.flt .f64 q9, AV.flt .f64 wl], AV.agg [AV.flt .f64 wa, AV.flt .f64 wj], AV.fn (Fn.func 77) [] []] => gspan_corners_b wo wh qk qj fuel q9 wl wa wj
  | _ => none
theorem gspan_corners_b_sm (wo wh : Mo) (qk qj : Mo) (fuel : Nat) (hΓ : GamOk Pr (Gspan_corners_b wo wh qk qj)) (hP : NamesOk Pr) : XOk Pr 76 (smX Rspan_corners_b Xspan_corners_b (mspan_corners_b wo wh qk qj fuel)) Xspan_corners_b := by
  refine smX_ok (fuel := (fuel + 8)) hΓ hP (LamOk.nil _ _ _) 7 76 Rspan_corners_b Xspan_corners_b _ (fun xs0 ys0 v ha hb h => ?_)
  · skip
    have ha0 : xs0.length = 3 := ha
    clear ha
    obtain ⟨a0, xs1, rfl, ha1⟩ := len_cons ha0
    clear ha0
    obtain ⟨a1, xs2, rfl, ha2⟩ := len_cons ha1
    clear ha1
    obtain ⟨a2, xs3, rfl, ha3⟩ := len_cons ha2
    clear ha2
    obtain rfl := List.eq_nil_of_length_eq_zero ha3
    have hy0 : ys0.map List.length = [] := hb
    clear hb
    obtain rfl := map_nil' hy0
    have h : mspan_corners_b wo wh qk qj fuel [a0, a1, a2] = some v := h
    generalize hx0 : [a0, a1, a2] = zs at h
    unfold mspan_corners_b at h
    split at h
    · skip
      obtain ⟨rfl, hx1⟩ := List.cons.inj hx0
      obtain ⟨rfl, hx2⟩ := List.cons.inj hx1
      obtain ⟨rfl, hx3⟩ := List.cons.inj hx2
      simp only [List.map_cons, List.map_nil]
      exact (gspan_corners_b_run wo wh qk qj fuel _ _ _ _).trans h
    · cases h
noncomputable def Lspan_Mul (zr qk : Mo) (wv ww : Mo) (fuel : Nat) : Lam AV := []
noncomputable def Gspan_Mul (zr qk : Mo) (wv ww : Mo) : Gam := [(75, smM [RS.one LK.b] zr), (79, smM [RS.one (LK.f .f64)] qk), (76, smX Rspan_corners_a Xspan_corners_a wv), (76, smX Rspan_corners_b Xspan_corners_b ww)]
noncomputable def Cspan_Mul (zr qk : Mo) (wv ww : Mo) (fuel : Nat) : CallI AV := callX (Gspan_Mul zr qk wv ww) (execFn Pr (Gspan_Mul zr qk wv ww) [((6, 57), Lspan_Mul zr qk wv ww fuel)] fuel 6)
noncomputable def gspan_Mul (zr qk : Mo) (wv ww : Mo) (fuel : Nat) (q9 wl : Option Nat) (wa wj : Option Nat) : Option AV :=
  ck (okM [RS.one LK.b] (zr [AV.ro 2 2 2 fun (i j : Nat) => ([[AV.flt .f64 q9, AV.flt .f64 wl], [AV.flt .f64 wa, AV.flt .f64 wj]].getD i []).getD j AV.dead])) <| bif !toB (getV (zr [AV.ro 2 2 2 fun (i j : Nat) => ([[AV.flt .f64 q9, AV.flt .f64 wl], [AV.flt .f64 wa, AV.flt .f64 wj]].getD i []).getD j AV.dead])) then some (AV.tup [AV.agg [AV.flt .f64 (some 0), AV.flt .f64 (some 0)], AV.int .i64 2])
  else let r0 : Option AV := wv [AV.agg [AV.flt .f64 q9, AV.flt .f64 wl], AV.agg [AV.flt .f64 wa, AV.flt .f64 wj], AV.fn (Fn.func 79) [] []]; ck (okX [RS.agg [LK.f .f64, LK.f .f64]] r0) <| some (AV.tup [AV.agg [AV.flt .f64 (toF ((toC ((toT (getV r0)).headD AV.dead)).headD AV.dead)), AV.flt .f64 (toF ((toC ((toT (getV r0)).headD AV.dead)).tail.headD AV.dead))], AV.int .i64 0])
theorem gspan_Mul_run (zr qk : Mo) (wv ww : Mo) (fuel : Nat) (q9 wl : Option Nat) (wa wj : Option Nat) : run Pr (Gspan_Mul zr qk wv ww) [((6, 57), Lspan_Mul zr qk wv ww fuel)] fuel 7 57 [AV.agg [AV.flt .f64 q9, AV.flt .f64 wl], AV.agg [AV.flt .f64 wa, AV.flt .f64 wj]] = gspan_Mul zr qk wv ww fuel q9 wl wa wj := by kernel_rfl
noncomputable def mspan_Mul (zr qk : Mo) (wv ww : Mo) (fuel : Nat) (xs : List AV) : Option AV := match xs with
  | [AV.agg [AV.flt .f64 q9, AV.flt .f64 wl], AV.agg [AV.flt .f64 wa, AV.flt .f64 wj]] => gspan_Mul zr qk wv ww fuel q9 wl wa wj
  | _ => none
abbrev Rspan_Mul : List RS := [RS.agg [LK.f .f64, LK.f .f64], RS.one (LK.i .i64)]
theorem gspan_Mul_sm (zr qk : Mo) (wv ww : Mo) (fuel : Nat) (hΓ : GamOk Pr (Gspan_Mul zr qk wv ww)) (hP : NamesOk Pr) : SmOk Pr 57 (smM Rspan_Mul (mspan_Mul zr qk wv ww fuel)) := by
  refine smM_ok (fuel := fuel) hΓ hP (LamOk.of 6 57 (Lspan_Mul zr qk wv ww fuel) 0 (by kernel_rfl) (fun i hi => ?_)) 7 57 Rspan_Mul _ (fun xs v h => ?_)
  · match i, hi with
    | i + 0, hi => exact absurd hi (by omega)
  · unfold mspan_Mul at h
    split at h
    · exact (gspan_Mul_run zr qk wv ww fuel _ _ _ _).trans h
    · cases h
noncomputable def Sbars_times_0 (qem qfa : Nat) (qeb : Ge) (u11 u12 : Int) (qev qet : Option Nat) (px ys : Option Nat) : St := { env := [(2, AV.ptr 0 0), (3, AV.ptr 1 0), (10, AV.ro 2 qem qfa qeb), (11, AV.int .i64 u11), (12, AV.int .i64 u12)], h := [Blk.box [AV.flt .f64 qev, AV.flt .f64 qet], Blk.box [AV.flt .f64 px, AV.flt .f64 ys]], kd := [] }
noncomputable def Xbars_times_0_0 (qfw qf6 : Option Nat) (pg qce : Option Nat) : St := { env := [(2, AV.ptr 0 0), (3, AV.ptr 1 0)], h := [Blk.box [AV.flt .f64 qfw, AV.flt .f64 qf6], Blk.box [AV.flt .f64 pg, AV.flt .f64 qce]], kd := [] }
noncomputable def gbars_times_l0_step (zu : Mo) (fuel : Nat) (kn : Int → Option Nat → Option Nat → Option AV) (kx0 : Option Nat → Option Nat → Option Nat → Option Nat → Option AV) (qem qfa : Nat) (qeb : Ge) (u11 : Int) (qev qet : Option Nat) (u12 : Int) (px ys : Option Nat) : Option AV :=
  bif decide (u12 < u11) then ck (decide (0 ≤ u12)) <| ck (decide (u12 < (↑qem : Int))) <| ck (fitKs [LK.f .f64, LK.f .f64] [qeb u12.toNat 0, qeb u12.toNat 1]) <| let r0 : Option AV := zu [AV.agg [AV.flt .f64 px, AV.flt .f64 ys], AV.agg [AV.flt .f64 (toF (qeb u12.toNat 0)), AV.flt .f64 (toF (qeb u12.toNat 1))]]; ck (okM [RS.agg [LK.f .f64, LK.f .f64], RS.one (LK.i .i64)] r0) <| kn (IntKind.i64.wrap (u12 + 1)) (toF ((toC ((toT (getV r0)).headD AV.dead)).headD AV.dead)) (toF ((toC ((toT (getV r0)).headD AV.dead)).tail.headD AV.dead))
  else kx0 (qev) (qet) (px) (ys)
noncomputable def gbars_times_l0 (zu : Mo) (fuel : Nat) (kx0 : Option Nat → Option Nat → Option Nat → Option Nat → Option AV) (qem qfa : Nat) (qeb : Ge) (u11 : Int) (qev qet : Option Nat) : Nat → Int → Option Nat → Option Nat → Option AV
  | 0, _, _, _ => none
  | n' + 1, u12, px, ys => gbars_times_l0_step zu fuel (gbars_times_l0 zu fuel kx0 qem qfa qeb u11 qev qet n') kx0 qem qfa qeb u11 qev qet u12 px ys
noncomputable def Tbars_times_0 : TS' := ⟨[(2, TA.ptr 0 0), (3, TA.ptr 1 0), (10, TA.ro 2), (11, TA.i .i64), (12, TA.i .i64)], [TB.box [TA.f .f64, TA.f .f64], TB.box [TA.f .f64, TA.f .f64]], []⟩
noncomputable def Fbars_times_0 (zu : Mo) (fuel : Nat) (ps : List Pay) (K : Ex → St → Option AV) : Option AV := match ps with
  | .n qem :: .n qfa :: .g qeb :: .i u11 :: .i u12 :: .o qev :: .o qet :: .o px :: .o ys :: [] => gbars_times_l0 zu fuel (fun qfw qf6 pg qce => K (Ex.exit 0) (Xbars_times_0_0 qfw qf6 pg qce)) qem qfa qeb u11 qev qet fuel u12 px ys
  | _ => none
noncomputable def Lbars_times (zu : Mo) (fuel : Nat) : Lam AV := [(8384544, lam Tbars_times_0 (Fbars_times_0 zu fuel))]
noncomputable def Gbars_times (zu : Mo) : Gam := [(57, smM [RS.agg [LK.f .f64, LK.f .f64], RS.one (LK.i .i64)] zu)]
noncomputable def Cbars_times (zu : Mo) (fuel : Nat) : CallI AV := callX (Gbars_times zu) (execFn Pr (Gbars_times zu) [((6, 33), Lbars_times zu fuel)] fuel 6)
theorem gbars_times_l0_eq (zu : Mo) (fuel : Nat) (kn : St → Option AV) (K : Ex → St → Option AV) (qem qfa : Nat) (qeb : Ge) (u11 : Int) (qev qet : Option Nat) (qk0 : Int) (qi8 qi5 : Option Nat) (u12 : Int) (px ys : Option Nat) :
    exec Pr (Gbars_times zu) (Lbars_times zu fuel) (fnNt Pr 33) fuel (Cbars_times zu fuel) (lp Pr 33 0).1 (lp Pr 33 0).2 (live (lp Pr 33 0).1 (lp Pr 33 0).2 0) (Sbars_times_0 qem qfa qeb u11 u12 qev qet px ys) (fun e s => match e with | .normal => kn (headN (live (lp Pr 33 0).1 (lp Pr 33 0).2 0) (writes (lp Pr 33 0).1) (Sbars_times_0 qem qfa qeb u11 qk0 qev qet qi8 qi5) s) | e => K e s) =
    gbars_times_l0_step zu fuel (fun u12 px ys => kn (Sbars_times_0 qem qfa qeb u11 u12 qev qet px ys)) (fun xh0_0 xh0_1 qal pa => K (Ex.exit 0) (Xbars_times_0_0 xh0_0 xh0_1 qal pa)) qem qfa qeb u11 qev qet u12 px ys := by kernel_rfl
theorem gbars_times_l0_ok (zu : Mo) (fuel : Nat) (K : Ex → St → Option AV) (qem qfa : Nat) (qeb : Ge) (u11 : Int) (qev qet : Option Nat) (qk0 : Int) (qi8 qi5 : Option Nat) : ∀ (n' : Nat) (u12 : Int) (px ys : Option Nat),
    loopK (exec Pr (Gbars_times zu) (Lbars_times zu fuel) (fnNt Pr 33) fuel (Cbars_times zu fuel) (lp Pr 33 0).1 (lp Pr 33 0).2 (live (lp Pr 33 0).1 (lp Pr 33 0).2 0)) (headN (live (lp Pr 33 0).1 (lp Pr 33 0).2 0) (writes (lp Pr 33 0).1) (Sbars_times_0 qem qfa qeb u11 qk0 qev qet qi8 qi5)) n' (Sbars_times_0 qem qfa qeb u11 u12 qev qet px ys) K = gbars_times_l0 zu fuel (fun xh0_0 xh0_1 qal pa => K (Ex.exit 0) (Xbars_times_0_0 xh0_0 xh0_1 qal pa)) qem qfa qeb u11 qev qet n' u12 px ys
  | 0, _, _, _ => rfl
  | n' + 1, u12, px, ys => (gbars_times_l0_eq zu fuel (fun s => loopK (exec Pr (Gbars_times zu) (Lbars_times zu fuel) (fnNt Pr 33) fuel (Cbars_times zu fuel) (lp Pr 33 0).1 (lp Pr 33 0).2 (live (lp Pr 33 0).1 (lp Pr 33 0).2 0)) (headN (live (lp Pr 33 0).1 (lp Pr 33 0).2 0) (writes (lp Pr 33 0).1) (Sbars_times_0 qem qfa qeb u11 qk0 qev qet qi8 qi5)) n' s K) K qem qfa qeb u11 qev qet qk0 qi8 qi5 u12 px ys).trans
    (congrArg (fun kn => gbars_times_l0_step zu fuel kn (fun xh0_0 xh0_1 qal pa => K (Ex.exit 0) (Xbars_times_0_0 xh0_0 xh0_1 qal pa)) qem qfa qeb u11 qev qet u12 px ys) (funext fun _ => funext fun _ => funext fun _ => gbars_times_l0_ok zu fuel K qem qfa qeb u11 qev qet qk0 qi8 qi5 n' _ _ _))
theorem gbars_times_L0 (zu : Mo) (fuel : Nat) : LOk Pr (Gbars_times zu) (Lbars_times zu fuel) (fnNt Pr 33) fuel (Cbars_times zu fuel) (lp Pr 33 0) := by
  refine .of Tbars_times_0 (Fbars_times_0 zu fuel) (fun L h => ?_) (fun ps st K r he hr => ?_)
  · have e : (Lbars_times zu fuel).get (writes (lp Pr 33 0).1) = some (lam Tbars_times_0 (Fbars_times_0 zu fuel)) := by kernel_rfl
    exact (Option.some.inj (e.symm.trans h)).symm
  · unfold Fbars_times_0 at hr
    split at hr
    · obtain rfl := (Option.some.inj he).symm
      exact (gbars_times_l0_ok zu fuel K _ _ _ _ _ _ _ _ _ fuel _ _ _).trans hr
    · cases hr
noncomputable def gbars_times (zu : Mo) (fuel yn p6 : Nat) (pu : Ge) : Option AV :=
  ck (decide (0 < (↑yn : Int))) <| ck (fitKs [LK.f .f64, LK.f .f64] [pu 0 0, pu 0 1]) <| ck (decide (1 ≤ (↑yn : Int))) <| gbars_times_l0 zu fuel
    (fun (_ _ : Option Nat) (qal pa : Option Nat) => some (AV.agg [AV.flt .f64 qal, AV.flt .f64 pa]))
    (yn - 1)
    (p6 - 1)
    (fun (i : Nat) => pu (1 + i))
    ((↑(yn - 1) : Int))
    (some 0)
    (some 0) fuel (0) (toF (pu 0 0)) (toF (pu 0 1))
theorem gbars_times_run (zu : Mo) (fuel yn p6 : Nat) (pu : Ge) : run Pr (Gbars_times zu) [((6, 33), Lbars_times zu fuel)] fuel 7 33 [AV.ro 2 yn p6 pu] = gbars_times zu fuel yn p6 pu := by kernel_rfl
noncomputable def mbars_times (zu : Mo) (fuel : Nat) (xs : List AV) : Option AV := match xs with
  | [AV.ro 2 yn p6 pu] => gbars_times zu fuel yn p6 pu
  | _ => none
abbrev Rbars_times : List RS := [RS.agg [LK.f .f64, LK.f .f64]]
theorem gbars_times_sm (zu : Mo) (fuel : Nat) (hΓ : GamOk Pr (Gbars_times zu)) (hP : NamesOk Pr) : SmOk Pr 33 (smM Rbars_times (mbars_times zu fuel)) := by
  refine smM_ok (fuel := fuel) hΓ hP (LamOk.of 6 33 (Lbars_times zu fuel) 1 (by kernel_rfl) (fun i hi => ?_)) 7 33 Rbars_times _ (fun xs v h => ?_)
  · match i, hi with
    | 0, _ => exact gbars_times_L0 zu fuel
    | i + 1, hi => exact absurd hi (by omega)
  · unfold mbars_times at h
    split at h
    · exact (gbars_times_run zu fuel _ _ _).trans h
    · cases h
noncomputable def Lspan_Div (zr qj : Mo) (wv ww : Mo) (fuel : Nat) : Lam AV := []
noncomputable def Gspan_Div (zr qj : Mo) (wv ww : Mo) : Gam := [(75, smM [RS.one LK.b] zr), (77, smM [RS.one (LK.f .f64)] qj), (76, smX Rspan_corners_a Xspan_corners_a wv), (76, smX Rspan_corners_b Xspan_corners_b ww)]
noncomputable def Cspan_Div (zr qj : Mo) (wv ww : Mo) (fuel : Nat) : CallI AV := callX (Gspan_Div zr qj wv ww) (execFn Pr (Gspan_Div zr qj wv ww) [((6, 56), Lspan_Div zr qj wv ww fuel)] fuel 6)
noncomputable def gspan_Div (zr qj : Mo) (wv ww : Mo) (fuel : Nat) (q9 wl : Option Nat) (wa wj : Option Nat) : Option AV :=
  ck (okM [RS.one LK.b] (zr [AV.ro 2 2 2 fun (i j : Nat) => ([[AV.flt .f64 q9, AV.flt .f64 wl], [AV.flt .f64 wa, AV.flt .f64 wj]].getD i []).getD j AV.dead])) <| bif !toB (getV (zr [AV.ro 2 2 2 fun (i j : Nat) => ([[AV.flt .f64 q9, AV.flt .f64 wl], [AV.flt .f64 wa, AV.flt .f64 wj]].getD i []).getD j AV.dead])) then some (AV.tup [AV.agg [AV.flt .f64 (some 0), AV.flt .f64 (some 0)], AV.int .i64 2])
  else ck (bif ford .f64 wa (some 0) == some Ordering.lt || ford .f64 wa (some 0) == some Ordering.eq then true else true) <| bif bif ford .f64 wa (some 0) == some Ordering.lt || ford .f64 wa (some 0) == some Ordering.eq then ford .f64 wj (some 0) == some Ordering.gt || ford .f64 wj (some 0) == some Ordering.eq else false then some (AV.tup [AV.agg [AV.flt .f64 (some 0), AV.flt .f64 (some 0)], AV.int .i64 7])
  else let r0 : Option AV := ww [AV.agg [AV.flt .f64 q9, AV.flt .f64 wl], AV.agg [AV.flt .f64 wa, AV.flt .f64 wj], AV.fn (Fn.func 77) [] []]; ck (okX [RS.agg [LK.f .f64, LK.f .f64]] r0) <| some (AV.tup [AV.agg [AV.flt .f64 (toF ((toC ((toT (getV r0)).headD AV.dead)).headD AV.dead)), AV.flt .f64 (toF ((toC ((toT (getV r0)).headD AV.dead)).tail.headD AV.dead))], AV.int .i64 0])
theorem gspan_Div_run (zr qj : Mo) (wv ww : Mo) (fuel : Nat) (q9 wl : Option Nat) (wa wj : Option Nat) : run Pr (Gspan_Div zr qj wv ww) [((6, 56), Lspan_Div zr qj wv ww fuel)] fuel 7 56 [AV.agg [AV.flt .f64 q9, AV.flt .f64 wl], AV.agg [AV.flt .f64 wa, AV.flt .f64 wj]] = gspan_Div zr qj wv ww fuel q9 wl wa wj := by kernel_rfl
noncomputable def mspan_Div (zr qj : Mo) (wv ww : Mo) (fuel : Nat) (xs : List AV) : Option AV := match xs with
  | [AV.agg [AV.flt .f64 q9, AV.flt .f64 wl], AV.agg [AV.flt .f64 wa, AV.flt .f64 wj]] => gspan_Div zr qj wv ww fuel q9 wl wa wj
  | _ => none
abbrev Rspan_Div : List RS := [RS.agg [LK.f .f64, LK.f .f64], RS.one (LK.i .i64)]
theorem gspan_Div_sm (zr qj : Mo) (wv ww : Mo) (fuel : Nat) (hΓ : GamOk Pr (Gspan_Div zr qj wv ww)) (hP : NamesOk Pr) : SmOk Pr 56 (smM Rspan_Div (mspan_Div zr qj wv ww fuel)) := by
  refine smM_ok (fuel := fuel) hΓ hP (LamOk.of 6 56 (Lspan_Div zr qj wv ww fuel) 0 (by kernel_rfl) (fun i hi => ?_)) 7 56 Rspan_Div _ (fun xs v h => ?_)
  · match i, hi with
    | i + 0, hi => exact absurd hi (by omega)
  · unfold mspan_Div at h
    split at h
    · exact (gspan_Div_run zr qj wv ww fuel _ _ _ _).trans h
    · cases h
noncomputable def Lbars_spring (pq : Mo) (fuel : Nat) : Lam AV := []
noncomputable def Gbars_spring (pq : Mo) : Gam := [(56, smM [RS.agg [LK.f .f64, LK.f .f64], RS.one (LK.i .i64)] pq)]
noncomputable def Cbars_spring (pq : Mo) (fuel : Nat) : CallI AV := callX (Gbars_spring pq) (execFn Pr (Gbars_spring pq) [((6, 32), Lbars_spring pq fuel)] fuel 6)
noncomputable def gbars_spring (pq : Mo) (fuel : Nat) (qe6 qd5 : Int) (qd7 qdz : Int) (qd1 qd4 qdw : Int) (qgj qgh : Option Nat) (qfl qfj : Option Nat) (qi6 qhl : Option Nat) : Option AV :=
  let r0 : Option AV := pq [AV.agg [AV.flt .f64 qgj, AV.flt .f64 qgh], AV.agg [AV.flt .f64 qfl, AV.flt .f64 qfj]]; ck (okM [RS.agg [LK.f .f64, LK.f .f64], RS.one (LK.i .i64)] r0) <| some (AV.agg [AV.int .i64 0, AV.int .u8 qe6, AV.int .i64 qd5, AV.int .i64 qd7, AV.int .i64 qdz, AV.int .i64 qd1, AV.int .i64 qd4, AV.int .i64 qdw, AV.flt .f64 (toF ((toC ((toT (getV r0)).headD AV.dead)).headD AV.dead)), AV.flt .f64 (toF ((toC ((toT (getV r0)).headD AV.dead)).tail.headD AV.dead)), AV.flt .f64 (farith BinOp.quo .f64 qi6 qhl)])
theorem gbars_spring_run (pq : Mo) (fuel : Nat) (qe6 qd5 : Int) (qd7 qdz : Int) (qd1 qd4 qdw : Int) (qgj qgh : Option Nat) (qfl qfj : Option Nat) (qi6 qhl : Option Nat) : run Pr (Gbars_spring pq) [((6, 32), Lbars_spring pq fuel)] fuel 7 32 [AV.int .u8 qe6, AV.agg [AV.int .i64 qd5, AV.int .i64 qd7, AV.int .i64 qdz, AV.int .i64 qd1, AV.int .i64 qd4, AV.int .i64 qdw], AV.agg [AV.flt .f64 qgj, AV.flt .f64 qgh], AV.agg [AV.flt .f64 qfl, AV.flt .f64 qfj], AV.flt .f64 qi6, AV.flt .f64 qhl] = gbars_spring pq fuel qe6 qd5 qd7 qdz qd1 qd4 qdw qgj qgh qfl qfj qi6 qhl := by kernel_rfl
noncomputable def mbars_spring (pq : Mo) (fuel : Nat) (xs : List AV) : Option AV := match xs with
  | [AV.int .u8 qe6, AV.agg [AV.int .i64 qd5, AV.int .i64 qd7, AV.int .i64 qdz, AV.int .i64 qd1, AV.int .i64 qd4, AV.int .i64 qdw], AV.agg [AV.flt .f64 qgj, AV.flt .f64 qgh], AV.agg [AV.flt .f64 qfl, AV.flt .f64 qfj], AV.flt .f64 qi6, AV.flt .f64 qhl] => gbars_spring pq fuel qe6 qd5 qd7 qdz qd1 qd4 qdw qgj qgh qfl qfj qi6 qhl
  | _ => none
abbrev Rbars_spring : List RS := [RS.agg [LK.i .i64, LK.i .u8, LK.i .i64, LK.i .i64, LK.i .i64, LK.i .i64, LK.i .i64, LK.i .i64, LK.f .f64, LK.f .f64, LK.f .f64]]
theorem gbars_spring_sm (pq : Mo) (fuel : Nat) (hΓ : GamOk Pr (Gbars_spring pq)) (hP : NamesOk Pr) : SmOk Pr 32 (smM Rbars_spring (mbars_spring pq fuel)) := by
  refine smM_ok (fuel := fuel) hΓ hP (LamOk.of 6 32 (Lbars_spring pq fuel) 0 (by kernel_rfl) (fun i hi => ?_)) 7 32 Rbars_spring _ (fun xs v h => ?_)
  · match i, hi with
    | i + 0, hi => exact absurd hi (by omega)
  · unfold mbars_spring at h
    split at h
    · exact (gbars_spring_run pq fuel _ _ _ _ _ _ _ _ _ _ _ _ _).trans h
    · cases h
noncomputable def Lbars_stands (fuel : Nat) : Lam AV := []
noncomputable def Gbars_stands : Gam := []
noncomputable def Cbars_stands (fuel : Nat) : CallI AV := callX (Gbars_stands) (execFn Pr (Gbars_stands) [((6, 36), Lbars_stands fuel)] fuel 6)
noncomputable def gbars_stands (fuel : Nat) (qb8 : ByteArray) (qak qbv qcc : Int) (qam qa5 : Bool) (qbm qb3 qa3 : Option Nat) : Option AV :=
  ck (bif qak == 2 then true else true) <| ck (bif qak == 2 then true else true) <| some (AV.tup [AV.bool (bif qak == 2 then !qam else false), AV.bool (bif qak == 2 then !qa5 else false)])
theorem gbars_stands_run (fuel : Nat) (qb8 : ByteArray) (qak qbv qcc : Int) (qam qa5 : Bool) (qbm qb3 qa3 : Option Nat) : run Pr (Gbars_stands) [((6, 36), Lbars_stands fuel)] fuel 7 36 [AV.agg [AV.str qb8, AV.int .u8 qak, AV.int .i64 qbv, AV.int .i64 qcc, AV.bool qam, AV.bool qa5, AV.flt .f64 qbm, AV.flt .f64 qb3, AV.flt .f64 qa3]] = gbars_stands fuel qb8 qak qbv qcc qam qa5 qbm qb3 qa3 := by kernel_rfl
noncomputable def mbars_stands (fuel : Nat) (xs : List AV) : Option AV := match xs with
  | [AV.agg [AV.str qb8, AV.int .u8 qak, AV.int .i64 qbv, AV.int .i64 qcc, AV.bool qam, AV.bool qa5, AV.flt .f64 qbm, AV.flt .f64 qb3, AV.flt .f64 qa3]] => gbars_stands fuel qb8 qak qbv qcc qam qa5 qbm qb3 qa3
  | _ => none
abbrev Rbars_stands : List RS := [RS.one LK.b, RS.one LK.b]
theorem gbars_stands_sm (fuel : Nat) (hΓ : GamOk Pr (Gbars_stands)) (hP : NamesOk Pr) : SmOk Pr 36 (smM Rbars_stands (mbars_stands fuel)) := by
  refine smM_ok (fuel := fuel) hΓ hP (LamOk.of 6 36 (Lbars_stands fuel) 0 (by kernel_rfl) (fun i hi => ?_)) 7 36 Rbars_stands _ (fun xs v h => ?_)
  · match i, hi with
    | i + 0, hi => exact absurd hi (by omega)
  · unfold mbars_stands at h
    split at h
    · exact (gbars_stands_run fuel _ _ _ _ _ _ _ _ _).trans h
    · cases h
noncomputable def Lbars_springs_c1 (zz zh zd : Mo) (fuel : Nat) : Lam AV := []
noncomputable def Gbars_springs_c1 (zz zh zd : Mo) : Gam := [(34, smM [RS.agg [LK.f .f64, LK.f .f64]] zz), (33, smM [RS.agg [LK.f .f64, LK.f .f64]] zh), (32, smM [RS.agg [LK.i .i64, LK.i .u8, LK.i .i64, LK.i .i64, LK.i .i64, LK.i .i64, LK.i .i64, LK.i .i64, LK.f .f64, LK.f .f64, LK.f .f64]] zd)]
noncomputable def Cbars_springs_c1 (zz zh zd : Mo) (fuel : Nat) : CallI AV := callX (Gbars_springs_c1 zz zh zd) (execFn Pr (Gbars_springs_c1 zz zh zd) [((6, 35), Lbars_springs_c1 zz zh zd fuel)] fuel 6)
noncomputable def gbars_springs_c1 (zz zh zd : Mo) (fuel : Nat) (qe6 qd5 : Int) (qd7 qdz : Int) (qd1 qd4 qdw : Int) (f0n : Nat) (f0g : Nat → AV) (f1n : Nat) (f1g : Nat → AV) (f2n : Nat) (f2g : Nat → AV) (f3n : Nat) (f3g : Nat → AV) : Option AV :=
  let r0 : Option AV := zz [AV.flt .f64 (some 4613937818241073152)]; ck (okM [RS.agg [LK.f .f64, LK.f .f64]] r0) <| ck (Nat.blt 0 (f0n - 6)) <| ck (fitK (LK.f .f64) (f0g 6)) <| let r1 : Option AV := zz [AV.flt .f64 (toF (f0g 6))]; ck (okM [RS.agg [LK.f .f64, LK.f .f64]] r1) <| ck (Nat.blt 0 (f0n - 8)) <| ck (fitK (LK.f .f64) (f0g 8)) <| let r2 : Option AV := zz [AV.flt .f64 (toF (f0g 8))]; ck (okM [RS.agg [LK.f .f64, LK.f .f64]] r2) <| let r3 : Option AV := zh [AV.ro 2 2 2 fun (i j : Nat) => ([[AV.flt .f64 (toF ((toC (getV r1)).headD AV.dead)), AV.flt .f64 (toF ((toC (getV r1)).tail.headD AV.dead))], [AV.flt .f64 (toF ((toC (getV r2)).headD AV.dead)), AV.flt .f64 (toF ((toC (getV r2)).tail.headD AV.dead))]].getD i []).getD j AV.dead]; ck (okM [RS.agg [LK.f .f64, LK.f .f64]] r3) <| let r4 : Option AV := zh [AV.ro 2 2 2 fun (i j : Nat) => ([[AV.flt .f64 (toF ((toC (getV r0)).headD AV.dead)), AV.flt .f64 (toF ((toC (getV r0)).tail.headD AV.dead))], [AV.flt .f64 (toF ((toC (getV r3)).headD AV.dead)), AV.flt .f64 (toF ((toC (getV r3)).tail.headD AV.dead))]].getD i []).getD j AV.dead]; ck (okM [RS.agg [LK.f .f64, LK.f .f64]] r4) <| ck (Nat.blt 0 f1n) <| ck (fitK (LK.f .f64) (f1g 0)) <| let r5 : Option AV := zz [AV.flt .f64 (toF (f1g 0))]; ck (okM [RS.agg [LK.f .f64, LK.f .f64]] r5) <| ck (Nat.blt 0 f1n) <| ck (fitK (LK.f .f64) (f1g 0)) <| let r6 : Option AV := zz [AV.flt .f64 (toF (f1g 0))]; ck (okM [RS.agg [LK.f .f64, LK.f .f64]] r6) <| let r7 : Option AV := zh [AV.ro 2 2 2 fun (i j : Nat) => ([[AV.flt .f64 (toF ((toC (getV r5)).headD AV.dead)), AV.flt .f64 (toF ((toC (getV r5)).tail.headD AV.dead))], [AV.flt .f64 (toF ((toC (getV r6)).headD AV.dead)), AV.flt .f64 (toF ((toC (getV r6)).tail.headD AV.dead))]].getD i []).getD j AV.dead]; ck (okM [RS.agg [LK.f .f64, LK.f .f64]] r7) <| ck (Nat.ble 2 f2n) <| ck (fitKs [LK.f .f64, LK.f .f64] [f2g 0, f2g 1]) <| let r8 : Option AV := zh [AV.ro 2 2 2 fun (i j : Nat) => ([[AV.flt .f64 (toF ((toC (getV r7)).headD AV.dead)), AV.flt .f64 (toF ((toC (getV r7)).tail.headD AV.dead))], [AV.flt .f64 (toF (f2g 0)), AV.flt .f64 (toF (f2g 1))]].getD i []).getD j AV.dead]; ck (okM [RS.agg [LK.f .f64, LK.f .f64]] r8) <| ck (Nat.blt 0 (f0n - 6)) <| ck (fitK (LK.f .f64) (f0g 6)) <| ck (Nat.blt 0 (f0n - 8)) <| ck (fitK (LK.f .f64) (f0g 8)) <| ck (Nat.blt 0 f1n) <| ck (fitK (LK.f .f64) (f1g 0)) <| ck (Nat.blt 0 f1n) <| ck (fitK (LK.f .f64) (f1g 0)) <| ck (Nat.blt 0 f3n) <| ck (fitK (LK.f .f64) (f3g 0)) <| let r9 : Option AV := zd [AV.int .u8 qe6, AV.agg [AV.int .i64 qd5, AV.int .i64 qd7, AV.int .i64 qdz, AV.int .i64 qd1, AV.int .i64 qd4, AV.int .i64 qdw], AV.agg [AV.flt .f64 (toF ((toC (getV r4)).headD AV.dead)), AV.flt .f64 (toF ((toC (getV r4)).tail.headD AV.dead))], AV.agg [AV.flt .f64 (toF ((toC (getV r8)).headD AV.dead)), AV.flt .f64 (toF ((toC (getV r8)).tail.headD AV.dead))], AV.flt .f64 (farith BinOp.mul .f64 (some 4613937818241073152) (farith BinOp.mul .f64 (toF (f0g 6)) (toF (f0g 8)))), AV.flt .f64 (farith BinOp.mul .f64 (farith BinOp.mul .f64 (toF (f1g 0)) (toF (f1g 0))) (toF (f3g 0)))]; ck (okM [RS.agg [LK.i .i64, LK.i .u8, LK.i .i64, LK.i .i64, LK.i .i64, LK.i .i64, LK.i .i64, LK.i .i64, LK.f .f64, LK.f .f64, LK.f .f64]] r9) <| some (AV.agg [AV.int .i64 (toI ((toC (getV r9)).headD AV.dead)), AV.int .u8 (toI ((toC (getV r9)).tail.headD AV.dead)), AV.int .i64 (toI ((toC (getV r9)).tail.tail.headD AV.dead)), AV.int .i64 (toI ((toC (getV r9)).tail.tail.tail.headD AV.dead)), AV.int .i64 (toI ((toC (getV r9)).tail.tail.tail.tail.headD AV.dead)), AV.int .i64 (toI ((toC (getV r9)).tail.tail.tail.tail.tail.headD AV.dead)), AV.int .i64 (toI ((toC (getV r9)).tail.tail.tail.tail.tail.tail.headD AV.dead)), AV.int .i64 (toI ((toC (getV r9)).tail.tail.tail.tail.tail.tail.tail.headD AV.dead)), AV.flt .f64 (toF ((toC (getV r9)).tail.tail.tail.tail.tail.tail.tail.tail.headD AV.dead)), AV.flt .f64 (toF ((toC (getV r9)).tail.tail.tail.tail.tail.tail.tail.tail.tail.headD AV.dead)), AV.flt .f64 (toF ((toC (getV r9)).tail.tail.tail.tail.tail.tail.tail.tail.tail.tail.headD AV.dead))])
theorem gbars_springs_c1_run (zz zh zd : Mo) (fuel : Nat) (qe6 qd5 : Int) (qd7 qdz : Int) (qd1 qd4 qdw : Int) (f0n : Nat) (f0g : Nat → AV) (f1n : Nat) (f1g : Nat → AV) (f2n : Nat) (f2g : Nat → AV) (f3n : Nat) (f3g : Nat → AV) : run Pr (Gbars_springs_c1 zz zh zd) [((6, 35), Lbars_springs_c1 zz zh zd fuel)] fuel 7 35 [AV.int .u8 qe6, AV.agg [AV.int .i64 qd5, AV.int .i64 qd7, AV.int .i64 qdz, AV.int .i64 qd1, AV.int .i64 qd4, AV.int .i64 qdw], AV.rp f0n f0g, AV.rp f1n f1g, AV.rp f2n f2g, AV.rp f3n f3g] = gbars_springs_c1 zz zh zd fuel qe6 qd5 qd7 qdz qd1 qd4 qdw f0n f0g f1n f1g f2n f2g f3n f3g := by kernel_rfl
noncomputable def mbars_springs_c1 (zz zh zd : Mo) (fuel : Nat) (xs : List AV) : Option AV := match xs with
  | [AV.int .u8 qe6, AV.agg [AV.int .i64 qd5, AV.int .i64 qd7, AV.int .i64 qdz, AV.int .i64 qd1, AV.int .i64 qd4, AV.int .i64 qdw], AV.rp f0n f0g, AV.rp f1n f1g, AV.rp f2n f2g, AV.rp f3n f3g] => gbars_springs_c1 zz zh zd fuel qe6 qd5 qd7 qdz qd1 qd4 qdw f0n f0g f1n f1g f2n f2g f3n f3g
  | _ => none
abbrev Rbars_springs_c1 : List RS := [RS.agg [LK.i .i64, LK.i .u8, LK.i .i64, LK.i .i64, LK.i .i64, LK.i .i64, LK.i .i64, LK.i .i64, LK.f .f64, LK.f .f64, LK.f .f64]]
theorem gbars_springs_c1_sm (zz zh zd : Mo) (fuel : Nat) (hΓ : GamOk Pr (Gbars_springs_c1 zz zh zd)) (hP : NamesOk Pr) : SmOk Pr 35 (smM Rbars_springs_c1 (mbars_springs_c1 zz zh zd fuel)) := by
  refine smM_ok (fuel := fuel) hΓ hP (LamOk.of 6 35 (Lbars_springs_c1 zz zh zd fuel) 0 (by kernel_rfl) (fun i hi => ?_)) 7 35 Rbars_springs_c1 _ (fun xs v h => ?_)
  · match i, hi with
    | i + 0, hi => exact absurd hi (by omega)
  · unfold mbars_springs_c1 at h
    split at h
    · exact (gbars_springs_c1_run zz zh zd fuel _ _ _ _ _ _ _ _ _ _ _ _ _ _ _).trans h
    · cases h
noncomputable def Lbars_springs_a (za vw : Mo) (zz zh : Mo) (zd qb z3 : Mo) (fuel : Nat) : Lam AV := []
noncomputable def Gbars_springs_a (za vw : Mo) (zz zh : Mo) (zd qb z3 : Mo) : Gam := [(30, smM [RS.one (LK.i .i64), RS.one (LK.i .i64), RS.one (LK.i .i64)] za), (31, smM [RS.agg [LK.f .f64, LK.f .f64], RS.one (LK.f .f64)] vw), (34, smM [RS.agg [LK.f .f64, LK.f .f64]] zz), (33, smM [RS.agg [LK.f .f64, LK.f .f64]] zh), (32, smM [RS.agg [LK.i .i64, LK.i .u8, LK.i .i64, LK.i .i64, LK.i .i64, LK.i .i64, LK.i .i64, LK.i .i64, LK.f .f64, LK.f .f64, LK.f .f64]] zd), (36, smM [RS.one LK.b, RS.one LK.b] qb), (35, smM [RS.agg [LK.i .i64, LK.i .u8, LK.i .i64, LK.i .i64, LK.i .i64, LK.i .i64, LK.i .i64, LK.i .i64, LK.f .f64, LK.f .f64, LK.f .f64]] z3)]
noncomputable def Cbars_springs_a (za vw : Mo) (zz zh : Mo) (zd qb z3 : Mo) (fuel : Nat) : CallI AV := callX (Gbars_springs_a za vw zz zh zd qb z3) (execFn Pr (Gbars_springs_a za vw zz zh zd qb z3) [((6, 13), Lbars_springs_a za vw zz zh zd qb z3 fuel)] fuel 6)
noncomputable def gbars_springs_a (za vw : Mo) (zz zh : Mo) (zd qb z3 : Mo) (fuel zi z1 : Nat) (wq : Ge) (zv zy : Nat) (w1 : Ge) (qdm : ByteArray) (qdp pd pe : Int) (qdl qdn : Bool) (qcf qc0 qc1 : Option Nat) : Option AV :=
  ck (decide (0 ≤ pd)) <| ck (decide (pd < (↑zi : Int))) <| ck (fitKs [LK.s, LK.i .i32, LK.i .i32, LK.i .u8] [wq pd.toNat 0, wq pd.toNat 1, wq pd.toNat 2, wq pd.toNat 3]) <| ck (decide (0 ≤ pe)) <| ck (decide (pe < (↑zi : Int))) <| ck (fitKs [LK.s, LK.i .i32, LK.i .i32, LK.i .u8] [wq pe.toNat 0, wq pe.toNat 1, wq pe.toNat 2, wq pe.toNat 3]) <| let r0 : Option AV := za [AV.agg [AV.str (toS (wq pd.toNat 0)), AV.int .i32 (toI (wq pd.toNat 1)), AV.int .i32 (toI (wq pd.toNat 2)), AV.int .u8 (toI (wq pd.toNat 3))], AV.agg [AV.str (toS (wq pe.toNat 0)), AV.int .i32 (toI (wq pe.toNat 1)), AV.int .i32 (toI (wq pe.toNat 2)), AV.int .u8 (toI (wq pe.toNat 3))]]; ck (okM [RS.one (LK.i .i64), RS.one (LK.i .i64), RS.one (LK.i .i64)] r0) <| ck (decide (0 ≤ pd)) <| ck (decide (pd < (↑zi : Int))) <| ck (fitKs [LK.s, LK.i .i32, LK.i .i32, LK.i .u8] [wq pd.toNat 0, wq pd.toNat 1, wq pd.toNat 2, wq pd.toNat 3]) <| ck (decide (0 ≤ pe)) <| ck (decide (pe < (↑zi : Int))) <| ck (fitKs [LK.s, LK.i .i32, LK.i .i32, LK.i .u8] [wq pe.toNat 0, wq pe.toNat 1, wq pe.toNat 2, wq pe.toNat 3]) <| let r1 : Option AV := vw [AV.agg [AV.str (toS (wq pd.toNat 0)), AV.int .i32 (toI (wq pd.toNat 1)), AV.int .i32 (toI (wq pd.toNat 2)), AV.int .u8 (toI (wq pd.toNat 3))], AV.agg [AV.str (toS (wq pe.toNat 0)), AV.int .i32 (toI (wq pe.toNat 1)), AV.int .i32 (toI (wq pe.toNat 2)), AV.int .u8 (toI (wq pe.toNat 3))]]; ck (okM [RS.agg [LK.f .f64, LK.f .f64], RS.one (LK.f .f64)] r1) <| let r2 : Option AV := zz [AV.flt .f64 qcf]; ck (okM [RS.agg [LK.f .f64, LK.f .f64]] r2) <| let r3 : Option AV := zz [AV.flt .f64 qc0]; ck (okM [RS.agg [LK.f .f64, LK.f .f64]] r3) <| let r4 : Option AV := zh [AV.ro 2 2 2 fun (i j : Nat) => ([[AV.flt .f64 (toF ((toC (getV r2)).headD AV.dead)), AV.flt .f64 (toF ((toC (getV r2)).tail.headD AV.dead))], [AV.flt .f64 (toF ((toC (getV r3)).headD AV.dead)), AV.flt .f64 (toF ((toC (getV r3)).tail.headD AV.dead))]].getD i []).getD j AV.dead]; ck (okM [RS.agg [LK.f .f64, LK.f .f64]] r4) <| let r5 : Option AV := zz [AV.flt .f64 (some (FloatKind.f64.nearest (toI ((toT (getV r0)).tail.tail.headD AV.dead))))]; ck (okM [RS.agg [LK.f .f64, LK.f .f64]] r5) <| let r6 : Option AV := zh [AV.ro 2 2 2 fun (i j : Nat) => ([[AV.flt .f64 (toF ((toC (getV r5)).headD AV.dead)), AV.flt .f64 (toF ((toC (getV r5)).tail.headD AV.dead))], [AV.flt .f64 (toF ((toC ((toT (getV r1)).headD AV.dead)).headD AV.dead)), AV.flt .f64 (toF ((toC ((toT (getV r1)).headD AV.dead)).tail.headD AV.dead))]].getD i []).getD j AV.dead]; ck (okM [RS.agg [LK.f .f64, LK.f .f64]] r6) <| let r7 : Option AV := zd [AV.int .u8 1, AV.agg [AV.int .i64 (IntKind.i64.wrap (0 - toI ((toT (getV r0)).headD AV.dead))), AV.int .i64 (IntKind.i64.wrap (0 - toI ((toT (getV r0)).tail.headD AV.dead))), AV.int .i64 0, AV.int .i64 (toI ((toT (getV r0)).headD AV.dead)), AV.int .i64 (toI ((toT (getV r0)).tail.headD AV.dead)), AV.int .i64 0], AV.agg [AV.flt .f64 (toF ((toC (getV r4)).headD AV.dead)), AV.flt .f64 (toF ((toC (getV r4)).tail.headD AV.dead))], AV.agg [AV.flt .f64 (toF ((toC (getV r6)).headD AV.dead)), AV.flt .f64 (toF ((toC (getV r6)).tail.headD AV.dead))], AV.flt .f64 (farith BinOp.mul .f64 qcf qc0), AV.flt .f64 (farith BinOp.mul .f64 (some (FloatKind.f64.nearest (toI ((toT (getV r0)).tail.tail.headD AV.dead)))) (toF ((toT (getV r1)).tail.headD AV.dead)))]; ck (okM [RS.agg [LK.i .i64, LK.i .u8, LK.i .i64, LK.i .i64, LK.i .i64, LK.i .i64, LK.i .i64, LK.i .i64, LK.f .f64, LK.f .f64, LK.f .f64]] r7) <| let r8 : Option AV := qb [AV.agg [AV.str qdm, AV.int .u8 qdp, AV.int .i64 pd, AV.int .i64 pe, AV.bool qdl, AV.bool qdn, AV.flt .f64 qcf, AV.flt .f64 qc0, AV.flt .f64 qc1]]; ck (okM [RS.one LK.b, RS.one LK.b] r8) <| bif bif toB ((toT (getV r8)).headD AV.dead) then toB ((toT (getV r8)).tail.headD AV.dead) else false then let r9 : Option AV := zz [AV.flt .f64 qcf]; ck (okM [RS.agg [LK.f .f64, LK.f .f64]] r9) <| let r10 : Option AV := zz [AV.flt .f64 qc1]; ck (okM [RS.agg [LK.f .f64, LK.f .f64]] r10) <| let r11 : Option AV := zh [AV.ro 2 2 2 fun (i j : Nat) => ([[AV.flt .f64 (toF ((toC (getV r9)).headD AV.dead)), AV.flt .f64 (toF ((toC (getV r9)).tail.headD AV.dead))], [AV.flt .f64 (toF ((toC (getV r10)).headD AV.dead)), AV.flt .f64 (toF ((toC (getV r10)).tail.headD AV.dead))]].getD i []).getD j AV.dead]; ck (okM [RS.agg [LK.f .f64, LK.f .f64]] r11) <| let r12 : Option AV := zd [AV.int .u8 3, AV.agg [AV.int .i64 0, AV.int .i64 0, AV.int .i64 1, AV.int .i64 0, AV.int .i64 0, AV.int .i64 (-1)], AV.agg [AV.flt .f64 (toF ((toC (getV r11)).headD AV.dead)), AV.flt .f64 (toF ((toC (getV r11)).tail.headD AV.dead))], AV.agg [AV.flt .f64 (toF ((toC ((toT (getV r1)).headD AV.dead)).headD AV.dead)), AV.flt .f64 (toF ((toC ((toT (getV r1)).headD AV.dead)).tail.headD AV.dead))], AV.flt .f64 (farith BinOp.mul .f64 qcf qc1), AV.flt .f64 (toF ((toT (getV r1)).tail.headD AV.dead))]; ck (okM [RS.agg [LK.i .i64, LK.i .u8, LK.i .i64, LK.i .i64, LK.i .i64, LK.i .i64, LK.i .i64, LK.i .i64, LK.f .f64, LK.f .f64, LK.f .f64]] r12) <| let r13 : Option AV := z3 [AV.int .u8 2, AV.agg [AV.int .i64 (IntKind.i64.wrap ((-2) * toI ((toT (getV r0)).tail.headD AV.dead))), AV.int .i64 (IntKind.i64.wrap (2 * toI ((toT (getV r0)).headD AV.dead))), AV.int .i64 (toI ((toT (getV r0)).tail.tail.headD AV.dead)), AV.int .i64 (IntKind.i64.wrap (2 * toI ((toT (getV r0)).tail.headD AV.dead))), AV.int .i64 (IntKind.i64.wrap ((-2) * toI ((toT (getV r0)).headD AV.dead))), AV.int .i64 (toI ((toT (getV r0)).tail.tail.headD AV.dead))], AV.rp ([AV.str qdm, AV.int .u8 qdp, AV.int .i64 pd, AV.int .i64 pe, AV.bool qdl, AV.bool qdn, AV.flt .f64 qcf, AV.flt .f64 qc0, AV.flt .f64 qc1].length - 0) fun (j : Nat) => [AV.str qdm, AV.int .u8 qdp, AV.int .i64 pd, AV.int .i64 pe, AV.bool qdl, AV.bool qdn, AV.flt .f64 qcf, AV.flt .f64 qc0, AV.flt .f64 qc1].getD (0 + j) AV.dead, AV.rp ([AV.flt .f64 (some (FloatKind.f64.nearest (toI ((toT (getV r0)).tail.tail.headD AV.dead))))].length - 0) fun (j : Nat) => [AV.flt .f64 (some (FloatKind.f64.nearest (toI ((toT (getV r0)).tail.tail.headD AV.dead))))].getD (0 + j) AV.dead, AV.rp ([AV.flt .f64 (toF ((toC ((toT (getV r1)).headD AV.dead)).headD AV.dead)), AV.flt .f64 (toF ((toC ((toT (getV r1)).headD AV.dead)).tail.headD AV.dead))].length - 0) fun (j : Nat) => [AV.flt .f64 (toF ((toC ((toT (getV r1)).headD AV.dead)).headD AV.dead)), AV.flt .f64 (toF ((toC ((toT (getV r1)).headD AV.dead)).tail.headD AV.dead))].getD (0 + j) AV.dead, AV.rp ([AV.flt .f64 (toF ((toT (getV r1)).tail.headD AV.dead))].length - 0) fun (j : Nat) => [AV.flt .f64 (toF ((toT (getV r1)).tail.headD AV.dead))].getD (0 + j) AV.dead]; ck (okM [RS.agg [LK.i .i64, LK.i .u8, LK.i .i64, LK.i .i64, LK.i .i64, LK.i .i64, LK.i .i64, LK.i .i64, LK.f .f64, LK.f .f64, LK.f .f64]] r13) <| some (AV.tup [AV.ro 11 [[AV.int .i64 (toI ((toC (getV r7)).headD AV.dead)), AV.int .u8 (toI ((toC (getV r7)).tail.headD AV.dead)), AV.int .i64 (toI ((toC (getV r7)).tail.tail.headD AV.dead)), AV.int .i64 (toI ((toC (getV r7)).tail.tail.tail.headD AV.dead)), AV.int .i64 (toI ((toC (getV r7)).tail.tail.tail.tail.headD AV.dead)), AV.int .i64 (toI ((toC (getV r7)).tail.tail.tail.tail.tail.headD AV.dead)), AV.int .i64 (toI ((toC (getV r7)).tail.tail.tail.tail.tail.tail.headD AV.dead)), AV.int .i64 (toI ((toC (getV r7)).tail.tail.tail.tail.tail.tail.tail.headD AV.dead)), AV.flt .f64 (toF ((toC (getV r7)).tail.tail.tail.tail.tail.tail.tail.tail.headD AV.dead)), AV.flt .f64 (toF ((toC (getV r7)).tail.tail.tail.tail.tail.tail.tail.tail.tail.headD AV.dead)), AV.flt .f64 (toF ((toC (getV r7)).tail.tail.tail.tail.tail.tail.tail.tail.tail.tail.headD AV.dead))], [AV.int .i64 (toI ((toC (getV r13)).headD AV.dead)), AV.int .u8 (toI ((toC (getV r13)).tail.headD AV.dead)), AV.int .i64 (toI ((toC (getV r13)).tail.tail.headD AV.dead)), AV.int .i64 (toI ((toC (getV r13)).tail.tail.tail.headD AV.dead)), AV.int .i64 (toI ((toC (getV r13)).tail.tail.tail.tail.headD AV.dead)), AV.int .i64 (toI ((toC (getV r13)).tail.tail.tail.tail.tail.headD AV.dead)), AV.int .i64 (toI ((toC (getV r13)).tail.tail.tail.tail.tail.tail.headD AV.dead)), AV.int .i64 (toI ((toC (getV r13)).tail.tail.tail.tail.tail.tail.tail.headD AV.dead)), AV.flt .f64 (toF ((toC (getV r13)).tail.tail.tail.tail.tail.tail.tail.tail.headD AV.dead)), AV.flt .f64 (toF ((toC (getV r13)).tail.tail.tail.tail.tail.tail.tail.tail.tail.headD AV.dead)), AV.flt .f64 (toF ((toC (getV r13)).tail.tail.tail.tail.tail.tail.tail.tail.tail.tail.headD AV.dead))], [AV.int .i64 (toI ((toC (getV r12)).headD AV.dead)), AV.int .u8 (toI ((toC (getV r12)).tail.headD AV.dead)), AV.int .i64 (toI ((toC (getV r12)).tail.tail.headD AV.dead)), AV.int .i64 (toI ((toC (getV r12)).tail.tail.tail.headD AV.dead)), AV.int .i64 (toI ((toC (getV r12)).tail.tail.tail.tail.headD AV.dead)), AV.int .i64 (toI ((toC (getV r12)).tail.tail.tail.tail.tail.headD AV.dead)), AV.int .i64 (toI ((toC (getV r12)).tail.tail.tail.tail.tail.tail.headD AV.dead)), AV.int .i64 (toI ((toC (getV r12)).tail.tail.tail.tail.tail.tail.tail.headD AV.dead)), AV.flt .f64 (toF ((toC (getV r12)).tail.tail.tail.tail.tail.tail.tail.tail.headD AV.dead)), AV.flt .f64 (toF ((toC (getV r12)).tail.tail.tail.tail.tail.tail.tail.tail.tail.headD AV.dead)), AV.flt .f64 (toF ((toC (getV r12)).tail.tail.tail.tail.tail.tail.tail.tail.tail.tail.headD AV.dead))]].length [[AV.int .i64 (toI ((toC (getV r7)).headD AV.dead)), AV.int .u8 (toI ((toC (getV r7)).tail.headD AV.dead)), AV.int .i64 (toI ((toC (getV r7)).tail.tail.headD AV.dead)), AV.int .i64 (toI ((toC (getV r7)).tail.tail.tail.headD AV.dead)), AV.int .i64 (toI ((toC (getV r7)).tail.tail.tail.tail.headD AV.dead)), AV.int .i64 (toI ((toC (getV r7)).tail.tail.tail.tail.tail.headD AV.dead)), AV.int .i64 (toI ((toC (getV r7)).tail.tail.tail.tail.tail.tail.headD AV.dead)), AV.int .i64 (toI ((toC (getV r7)).tail.tail.tail.tail.tail.tail.tail.headD AV.dead)), AV.flt .f64 (toF ((toC (getV r7)).tail.tail.tail.tail.tail.tail.tail.tail.headD AV.dead)), AV.flt .f64 (toF ((toC (getV r7)).tail.tail.tail.tail.tail.tail.tail.tail.tail.headD AV.dead)), AV.flt .f64 (toF ((toC (getV r7)).tail.tail.tail.tail.tail.tail.tail.tail.tail.tail.headD AV.dead))], [AV.int .i64 (toI ((toC (getV r13)).headD AV.dead)), AV.int .u8 (toI ((toC (getV r13)).tail.headD AV.dead)), AV.int .i64 (toI ((toC (getV r13)).tail.tail.headD AV.dead)), AV.int .i64 (toI ((toC (getV r13)).tail.tail.tail.headD AV.dead)), AV.int .i64 (toI ((toC (getV r13)).tail.tail.tail.tail.headD AV.dead)), AV.int .i64 (toI ((toC (getV r13)).tail.tail.tail.tail.tail.headD AV.dead)), AV.int .i64 (toI ((toC (getV r13)).tail.tail.tail.tail.tail.tail.headD AV.dead)), AV.int .i64 (toI ((toC (getV r13)).tail.tail.tail.tail.tail.tail.tail.headD AV.dead)), AV.flt .f64 (toF ((toC (getV r13)).tail.tail.tail.tail.tail.tail.tail.tail.headD AV.dead)), AV.flt .f64 (toF ((toC (getV r13)).tail.tail.tail.tail.tail.tail.tail.tail.tail.headD AV.dead)), AV.flt .f64 (toF ((toC (getV r13)).tail.tail.tail.tail.tail.tail.tail.tail.tail.tail.headD AV.dead))], [AV.int .i64 (toI ((toC (getV r12)).headD AV.dead)), AV.int .u8 (toI ((toC (getV r12)).tail.headD AV.dead)), AV.int .i64 (toI ((toC (getV r12)).tail.tail.headD AV.dead)), AV.int .i64 (toI ((toC (getV r12)).tail.tail.tail.headD AV.dead)), AV.int .i64 (toI ((toC (getV r12)).tail.tail.tail.tail.headD AV.dead)), AV.int .i64 (toI ((toC (getV r12)).tail.tail.tail.tail.tail.headD AV.dead)), AV.int .i64 (toI ((toC (getV r12)).tail.tail.tail.tail.tail.tail.headD AV.dead)), AV.int .i64 (toI ((toC (getV r12)).tail.tail.tail.tail.tail.tail.tail.headD AV.dead)), AV.flt .f64 (toF ((toC (getV r12)).tail.tail.tail.tail.tail.tail.tail.tail.headD AV.dead)), AV.flt .f64 (toF ((toC (getV r12)).tail.tail.tail.tail.tail.tail.tail.tail.tail.headD AV.dead)), AV.flt .f64 (toF ((toC (getV r12)).tail.tail.tail.tail.tail.tail.tail.tail.tail.tail.headD AV.dead))]].length fun (i j : Nat) => ([[AV.int .i64 (toI ((toC (getV r7)).headD AV.dead)), AV.int .u8 (toI ((toC (getV r7)).tail.headD AV.dead)), AV.int .i64 (toI ((toC (getV r7)).tail.tail.headD AV.dead)), AV.int .i64 (toI ((toC (getV r7)).tail.tail.tail.headD AV.dead)), AV.int .i64 (toI ((toC (getV r7)).tail.tail.tail.tail.headD AV.dead)), AV.int .i64 (toI ((toC (getV r7)).tail.tail.tail.tail.tail.headD AV.dead)), AV.int .i64 (toI ((toC (getV r7)).tail.tail.tail.tail.tail.tail.headD AV.dead)), AV.int .i64 (toI ((toC (getV r7)).tail.tail.tail.tail.tail.tail.tail.headD AV.dead)), AV.flt .f64 (toF ((toC (getV r7)).tail.tail.tail.tail.tail.tail.tail.tail.headD AV.dead)), AV.flt .f64 (toF ((toC (getV r7)).tail.tail.tail.tail.tail.tail.tail.tail.tail.headD AV.dead)), AV.flt .f64 (toF ((toC (getV r7)).tail.tail.tail.tail.tail.tail.tail.tail.tail.tail.headD AV.dead))], [AV.int .i64 (toI ((toC (getV r13)).headD AV.dead)), AV.int .u8 (toI ((toC (getV r13)).tail.headD AV.dead)), AV.int .i64 (toI ((toC (getV r13)).tail.tail.headD AV.dead)), AV.int .i64 (toI ((toC (getV r13)).tail.tail.tail.headD AV.dead)), AV.int .i64 (toI ((toC (getV r13)).tail.tail.tail.tail.headD AV.dead)), AV.int .i64 (toI ((toC (getV r13)).tail.tail.tail.tail.tail.headD AV.dead)), AV.int .i64 (toI ((toC (getV r13)).tail.tail.tail.tail.tail.tail.headD AV.dead)), AV.int .i64 (toI ((toC (getV r13)).tail.tail.tail.tail.tail.tail.tail.headD AV.dead)), AV.flt .f64 (toF ((toC (getV r13)).tail.tail.tail.tail.tail.tail.tail.tail.headD AV.dead)), AV.flt .f64 (toF ((toC (getV r13)).tail.tail.tail.tail.tail.tail.tail.tail.tail.headD AV.dead)), AV.flt .f64 (toF ((toC (getV r13)).tail.tail.tail.tail.tail.tail.tail.tail.tail.tail.headD AV.dead))], [AV.int .i64 (toI ((toC (getV r12)).headD AV.dead)), AV.int .u8 (toI ((toC (getV r12)).tail.headD AV.dead)), AV.int .i64 (toI ((toC (getV r12)).tail.tail.headD AV.dead)), AV.int .i64 (toI ((toC (getV r12)).tail.tail.tail.headD AV.dead)), AV.int .i64 (toI ((toC (getV r12)).tail.tail.tail.tail.headD AV.dead)), AV.int .i64 (toI ((toC (getV r12)).tail.tail.tail.tail.tail.headD AV.dead)), AV.int .i64 (toI ((toC (getV r12)).tail.tail.tail.tail.tail.tail.headD AV.dead)), AV.int .i64 (toI ((toC (getV r12)).tail.tail.tail.tail.tail.tail.tail.headD AV.dead)), AV.flt .f64 (toF ((toC (getV r12)).tail.tail.tail.tail.tail.tail.tail.tail.headD AV.dead)), AV.flt .f64 (toF ((toC (getV r12)).tail.tail.tail.tail.tail.tail.tail.tail.tail.headD AV.dead)), AV.flt .f64 (toF ((toC (getV r12)).tail.tail.tail.tail.tail.tail.tail.tail.tail.tail.headD AV.dead))]].getD i []).getD j AV.dead])
  else bif toB ((toT (getV r8)).headD AV.dead) then let r14 : Option AV := z3 [AV.int .u8 4, AV.agg [AV.int .i64 (IntKind.i64.wrap (0 - toI ((toT (getV r0)).tail.headD AV.dead))), AV.int .i64 (toI ((toT (getV r0)).headD AV.dead)), AV.int .i64 (toI ((toT (getV r0)).tail.tail.headD AV.dead)), AV.int .i64 (toI ((toT (getV r0)).tail.headD AV.dead)), AV.int .i64 (IntKind.i64.wrap (0 - toI ((toT (getV r0)).headD AV.dead))), AV.int .i64 0], AV.rp ([AV.str qdm, AV.int .u8 qdp, AV.int .i64 pd, AV.int .i64 pe, AV.bool qdl, AV.bool qdn, AV.flt .f64 qcf, AV.flt .f64 qc0, AV.flt .f64 qc1].length - 0) fun (j : Nat) => [AV.str qdm, AV.int .u8 qdp, AV.int .i64 pd, AV.int .i64 pe, AV.bool qdl, AV.bool qdn, AV.flt .f64 qcf, AV.flt .f64 qc0, AV.flt .f64 qc1].getD (0 + j) AV.dead, AV.rp ([AV.flt .f64 (some (FloatKind.f64.nearest (toI ((toT (getV r0)).tail.tail.headD AV.dead))))].length - 0) fun (j : Nat) => [AV.flt .f64 (some (FloatKind.f64.nearest (toI ((toT (getV r0)).tail.tail.headD AV.dead))))].getD (0 + j) AV.dead, AV.rp ([AV.flt .f64 (toF ((toC ((toT (getV r1)).headD AV.dead)).headD AV.dead)), AV.flt .f64 (toF ((toC ((toT (getV r1)).headD AV.dead)).tail.headD AV.dead))].length - 0) fun (j : Nat) => [AV.flt .f64 (toF ((toC ((toT (getV r1)).headD AV.dead)).headD AV.dead)), AV.flt .f64 (toF ((toC ((toT (getV r1)).headD AV.dead)).tail.headD AV.dead))].getD (0 + j) AV.dead, AV.rp ([AV.flt .f64 (toF ((toT (getV r1)).tail.headD AV.dead))].length - 0) fun (j : Nat) => [AV.flt .f64 (toF ((toT (getV r1)).tail.headD AV.dead))].getD (0 + j) AV.dead]; ck (okM [RS.agg [LK.i .i64, LK.i .u8, LK.i .i64, LK.i .i64, LK.i .i64, LK.i .i64, LK.i .i64, LK.i .i64, LK.f .f64, LK.f .f64, LK.f .f64]] r14) <| some (AV.tup [AV.ro 11 [[AV.int .i64 (toI ((toC (getV r7)).headD AV.dead)), AV.int .u8 (toI ((toC (getV r7)).tail.headD AV.dead)), AV.int .i64 (toI ((toC (getV r7)).tail.tail.headD AV.dead)), AV.int .i64 (toI ((toC (getV r7)).tail.tail.tail.headD AV.dead)), AV.int .i64 (toI ((toC (getV r7)).tail.tail.tail.tail.headD AV.dead)), AV.int .i64 (toI ((toC (getV r7)).tail.tail.tail.tail.tail.headD AV.dead)), AV.int .i64 (toI ((toC (getV r7)).tail.tail.tail.tail.tail.tail.headD AV.dead)), AV.int .i64 (toI ((toC (getV r7)).tail.tail.tail.tail.tail.tail.tail.headD AV.dead)), AV.flt .f64 (toF ((toC (getV r7)).tail.tail.tail.tail.tail.tail.tail.tail.headD AV.dead)), AV.flt .f64 (toF ((toC (getV r7)).tail.tail.tail.tail.tail.tail.tail.tail.tail.headD AV.dead)), AV.flt .f64 (toF ((toC (getV r7)).tail.tail.tail.tail.tail.tail.tail.tail.tail.tail.headD AV.dead))], [AV.int .i64 (toI ((toC (getV r14)).headD AV.dead)), AV.int .u8 (toI ((toC (getV r14)).tail.headD AV.dead)), AV.int .i64 (toI ((toC (getV r14)).tail.tail.headD AV.dead)), AV.int .i64 (toI ((toC (getV r14)).tail.tail.tail.headD AV.dead)), AV.int .i64 (toI ((toC (getV r14)).tail.tail.tail.tail.headD AV.dead)), AV.int .i64 (toI ((toC (getV r14)).tail.tail.tail.tail.tail.headD AV.dead)), AV.int .i64 (toI ((toC (getV r14)).tail.tail.tail.tail.tail.tail.headD AV.dead)), AV.int .i64 (toI ((toC (getV r14)).tail.tail.tail.tail.tail.tail.tail.headD AV.dead)), AV.flt .f64 (toF ((toC (getV r14)).tail.tail.tail.tail.tail.tail.tail.tail.headD AV.dead)), AV.flt .f64 (toF ((toC (getV r14)).tail.tail.tail.tail.tail.tail.tail.tail.tail.headD AV.dead)), AV.flt .f64 (toF ((toC (getV r14)).tail.tail.tail.tail.tail.tail.tail.tail.tail.tail.headD AV.dead))]].length [[AV.int .i64 (toI ((toC (getV r7)).headD AV.dead)), AV.int .u8 (toI ((toC (getV r7)).tail.headD AV.dead)), AV.int .i64 (toI ((toC (getV r7)).tail.tail.headD AV.dead)), AV.int .i64 (toI ((toC (getV r7)).tail.tail.tail.headD AV.dead)), AV.int .i64 (toI ((toC (getV r7)).tail.tail.tail.tail.headD AV.dead)), AV.int .i64 (toI ((toC (getV r7)).tail.tail.tail.tail.tail.headD AV.dead)), AV.int .i64 (toI ((toC (getV r7)).tail.tail.tail.tail.tail.tail.headD AV.dead)), AV.int .i64 (toI ((toC (getV r7)).tail.tail.tail.tail.tail.tail.tail.headD AV.dead)), AV.flt .f64 (toF ((toC (getV r7)).tail.tail.tail.tail.tail.tail.tail.tail.headD AV.dead)), AV.flt .f64 (toF ((toC (getV r7)).tail.tail.tail.tail.tail.tail.tail.tail.tail.headD AV.dead)), AV.flt .f64 (toF ((toC (getV r7)).tail.tail.tail.tail.tail.tail.tail.tail.tail.tail.headD AV.dead))], [AV.int .i64 (toI ((toC (getV r14)).headD AV.dead)), AV.int .u8 (toI ((toC (getV r14)).tail.headD AV.dead)), AV.int .i64 (toI ((toC (getV r14)).tail.tail.headD AV.dead)), AV.int .i64 (toI ((toC (getV r14)).tail.tail.tail.headD AV.dead)), AV.int .i64 (toI ((toC (getV r14)).tail.tail.tail.tail.headD AV.dead)), AV.int .i64 (toI ((toC (getV r14)).tail.tail.tail.tail.tail.headD AV.dead)), AV.int .i64 (toI ((toC (getV r14)).tail.tail.tail.tail.tail.tail.headD AV.dead)), AV.int .i64 (toI ((toC (getV r14)).tail.tail.tail.tail.tail.tail.tail.headD AV.dead)), AV.flt .f64 (toF ((toC (getV r14)).tail.tail.tail.tail.tail.tail.tail.tail.headD AV.dead)), AV.flt .f64 (toF ((toC (getV r14)).tail.tail.tail.tail.tail.tail.tail.tail.tail.headD AV.dead)), AV.flt .f64 (toF ((toC (getV r14)).tail.tail.tail.tail.tail.tail.tail.tail.tail.tail.headD AV.dead))]].length fun (i j : Nat) => ([[AV.int .i64 (toI ((toC (getV r7)).headD AV.dead)), AV.int .u8 (toI ((toC (getV r7)).tail.headD AV.dead)), AV.int .i64 (toI ((toC (getV r7)).tail.tail.headD AV.dead)), AV.int .i64 (toI ((toC (getV r7)).tail.tail.tail.headD AV.dead)), AV.int .i64 (toI ((toC (getV r7)).tail.tail.tail.tail.headD AV.dead)), AV.int .i64 (toI ((toC (getV r7)).tail.tail.tail.tail.tail.headD AV.dead)), AV.int .i64 (toI ((toC (getV r7)).tail.tail.tail.tail.tail.tail.headD AV.dead)), AV.int .i64 (toI ((toC (getV r7)).tail.tail.tail.tail.tail.tail.tail.headD AV.dead)), AV.flt .f64 (toF ((toC (getV r7)).tail.tail.tail.tail.tail.tail.tail.tail.headD AV.dead)), AV.flt .f64 (toF ((toC (getV r7)).tail.tail.tail.tail.tail.tail.tail.tail.tail.headD AV.dead)), AV.flt .f64 (toF ((toC (getV r7)).tail.tail.tail.tail.tail.tail.tail.tail.tail.tail.headD AV.dead))], [AV.int .i64 (toI ((toC (getV r14)).headD AV.dead)), AV.int .u8 (toI ((toC (getV r14)).tail.headD AV.dead)), AV.int .i64 (toI ((toC (getV r14)).tail.tail.headD AV.dead)), AV.int .i64 (toI ((toC (getV r14)).tail.tail.tail.headD AV.dead)), AV.int .i64 (toI ((toC (getV r14)).tail.tail.tail.tail.headD AV.dead)), AV.int .i64 (toI ((toC (getV r14)).tail.tail.tail.tail.tail.headD AV.dead)), AV.int .i64 (toI ((toC (getV r14)).tail.tail.tail.tail.tail.tail.headD AV.dead)), AV.int .i64 (toI ((toC (getV r14)).tail.tail.tail.tail.tail.tail.tail.headD AV.dead)), AV.flt .f64 (toF ((toC (getV r14)).tail.tail.tail.tail.tail.tail.tail.tail.headD AV.dead)), AV.flt .f64 (toF ((toC (getV r14)).tail.tail.tail.tail.tail.tail.tail.tail.tail.headD AV.dead)), AV.flt .f64 (toF ((toC (getV r14)).tail.tail.tail.tail.tail.tail.tail.tail.tail.tail.headD AV.dead))]].getD i []).getD j AV.dead])
  else bif toB ((toT (getV r8)).tail.headD AV.dead) then let r15 : Option AV := z3 [AV.int .u8 4, AV.agg [AV.int .i64 (IntKind.i64.wrap (0 - toI ((toT (getV r0)).tail.headD AV.dead))), AV.int .i64 (toI ((toT (getV r0)).headD AV.dead)), AV.int .i64 0, AV.int .i64 (toI ((toT (getV r0)).tail.headD AV.dead)), AV.int .i64 (IntKind.i64.wrap (0 - toI ((toT (getV r0)).headD AV.dead))), AV.int .i64 (toI ((toT (getV r0)).tail.tail.headD AV.dead))], AV.rp ([AV.str qdm, AV.int .u8 qdp, AV.int .i64 pd, AV.int .i64 pe, AV.bool qdl, AV.bool qdn, AV.flt .f64 qcf, AV.flt .f64 qc0, AV.flt .f64 qc1].length - 0) fun (j : Nat) => [AV.str qdm, AV.int .u8 qdp, AV.int .i64 pd, AV.int .i64 pe, AV.bool qdl, AV.bool qdn, AV.flt .f64 qcf, AV.flt .f64 qc0, AV.flt .f64 qc1].getD (0 + j) AV.dead, AV.rp ([AV.flt .f64 (some (FloatKind.f64.nearest (toI ((toT (getV r0)).tail.tail.headD AV.dead))))].length - 0) fun (j : Nat) => [AV.flt .f64 (some (FloatKind.f64.nearest (toI ((toT (getV r0)).tail.tail.headD AV.dead))))].getD (0 + j) AV.dead, AV.rp ([AV.flt .f64 (toF ((toC ((toT (getV r1)).headD AV.dead)).headD AV.dead)), AV.flt .f64 (toF ((toC ((toT (getV r1)).headD AV.dead)).tail.headD AV.dead))].length - 0) fun (j : Nat) => [AV.flt .f64 (toF ((toC ((toT (getV r1)).headD AV.dead)).headD AV.dead)), AV.flt .f64 (toF ((toC ((toT (getV r1)).headD AV.dead)).tail.headD AV.dead))].getD (0 + j) AV.dead, AV.rp ([AV.flt .f64 (toF ((toT (getV r1)).tail.headD AV.dead))].length - 0) fun (j : Nat) => [AV.flt .f64 (toF ((toT (getV r1)).tail.headD AV.dead))].getD (0 + j) AV.dead]; ck (okM [RS.agg [LK.i .i64, LK.i .u8, LK.i .i64, LK.i .i64, LK.i .i64, LK.i .i64, LK.i .i64, LK.i .i64, LK.f .f64, LK.f .f64, LK.f .f64]] r15) <| some (AV.tup [AV.ro 11 [[AV.int .i64 (toI ((toC (getV r7)).headD AV.dead)), AV.int .u8 (toI ((toC (getV r7)).tail.headD AV.dead)), AV.int .i64 (toI ((toC (getV r7)).tail.tail.headD AV.dead)), AV.int .i64 (toI ((toC (getV r7)).tail.tail.tail.headD AV.dead)), AV.int .i64 (toI ((toC (getV r7)).tail.tail.tail.tail.headD AV.dead)), AV.int .i64 (toI ((toC (getV r7)).tail.tail.tail.tail.tail.headD AV.dead)), AV.int .i64 (toI ((toC (getV r7)).tail.tail.tail.tail.tail.tail.headD AV.dead)), AV.int .i64 (toI ((toC (getV r7)).tail.tail.tail.tail.tail.tail.tail.headD AV.dead)), AV.flt .f64 (toF ((toC (getV r7)).tail.tail.tail.tail.tail.tail.tail.tail.headD AV.dead)), AV.flt .f64 (toF ((toC (getV r7)).tail.tail.tail.tail.tail.tail.tail.tail.tail.headD AV.dead)), AV.flt .f64 (toF ((toC (getV r7)).tail.tail.tail.tail.tail.tail.tail.tail.tail.tail.headD AV.dead))], [AV.int .i64 (toI ((toC (getV r15)).headD AV.dead)), AV.int .u8 (toI ((toC (getV r15)).tail.headD AV.dead)), AV.int .i64 (toI ((toC (getV r15)).tail.tail.headD AV.dead)), AV.int .i64 (toI ((toC (getV r15)).tail.tail.tail.headD AV.dead)), AV.int .i64 (toI ((toC (getV r15)).tail.tail.tail.tail.headD AV.dead)), AV.int .i64 (toI ((toC (getV r15)).tail.tail.tail.tail.tail.headD AV.dead)), AV.int .i64 (toI ((toC (getV r15)).tail.tail.tail.tail.tail.tail.headD AV.dead)), AV.int .i64 (toI ((toC (getV r15)).tail.tail.tail.tail.tail.tail.tail.headD AV.dead)), AV.flt .f64 (toF ((toC (getV r15)).tail.tail.tail.tail.tail.tail.tail.tail.headD AV.dead)), AV.flt .f64 (toF ((toC (getV r15)).tail.tail.tail.tail.tail.tail.tail.tail.tail.headD AV.dead)), AV.flt .f64 (toF ((toC (getV r15)).tail.tail.tail.tail.tail.tail.tail.tail.tail.tail.headD AV.dead))]].length [[AV.int .i64 (toI ((toC (getV r7)).headD AV.dead)), AV.int .u8 (toI ((toC (getV r7)).tail.headD AV.dead)), AV.int .i64 (toI ((toC (getV r7)).tail.tail.headD AV.dead)), AV.int .i64 (toI ((toC (getV r7)).tail.tail.tail.headD AV.dead)), AV.int .i64 (toI ((toC (getV r7)).tail.tail.tail.tail.headD AV.dead)), AV.int .i64 (toI ((toC (getV r7)).tail.tail.tail.tail.tail.headD AV.dead)), AV.int .i64 (toI ((toC (getV r7)).tail.tail.tail.tail.tail.tail.headD AV.dead)), AV.int .i64 (toI ((toC (getV r7)).tail.tail.tail.tail.tail.tail.tail.headD AV.dead)), AV.flt .f64 (toF ((toC (getV r7)).tail.tail.tail.tail.tail.tail.tail.tail.headD AV.dead)), AV.flt .f64 (toF ((toC (getV r7)).tail.tail.tail.tail.tail.tail.tail.tail.tail.headD AV.dead)), AV.flt .f64 (toF ((toC (getV r7)).tail.tail.tail.tail.tail.tail.tail.tail.tail.tail.headD AV.dead))], [AV.int .i64 (toI ((toC (getV r15)).headD AV.dead)), AV.int .u8 (toI ((toC (getV r15)).tail.headD AV.dead)), AV.int .i64 (toI ((toC (getV r15)).tail.tail.headD AV.dead)), AV.int .i64 (toI ((toC (getV r15)).tail.tail.tail.headD AV.dead)), AV.int .i64 (toI ((toC (getV r15)).tail.tail.tail.tail.headD AV.dead)), AV.int .i64 (toI ((toC (getV r15)).tail.tail.tail.tail.tail.headD AV.dead)), AV.int .i64 (toI ((toC (getV r15)).tail.tail.tail.tail.tail.tail.headD AV.dead)), AV.int .i64 (toI ((toC (getV r15)).tail.tail.tail.tail.tail.tail.tail.headD AV.dead)), AV.flt .f64 (toF ((toC (getV r15)).tail.tail.tail.tail.tail.tail.tail.tail.headD AV.dead)), AV.flt .f64 (toF ((toC (getV r15)).tail.tail.tail.tail.tail.tail.tail.tail.tail.headD AV.dead)), AV.flt .f64 (toF ((toC (getV r15)).tail.tail.tail.tail.tail.tail.tail.tail.tail.tail.headD AV.dead))]].length fun (i j : Nat) => ([[AV.int .i64 (toI ((toC (getV r7)).headD AV.dead)), AV.int .u8 (toI ((toC (getV r7)).tail.headD AV.dead)), AV.int .i64 (toI ((toC (getV r7)).tail.tail.headD AV.dead)), AV.int .i64 (toI ((toC (getV r7)).tail.tail.tail.headD AV.dead)), AV.int .i64 (toI ((toC (getV r7)).tail.tail.tail.tail.headD AV.dead)), AV.int .i64 (toI ((toC (getV r7)).tail.tail.tail.tail.tail.headD AV.dead)), AV.int .i64 (toI ((toC (getV r7)).tail.tail.tail.tail.tail.tail.headD AV.dead)), AV.int .i64 (toI ((toC (getV r7)).tail.tail.tail.tail.tail.tail.tail.headD AV.dead)), AV.flt .f64 (toF ((toC (getV r7)).tail.tail.tail.tail.tail.tail.tail.tail.headD AV.dead)), AV.flt .f64 (toF ((toC (getV r7)).tail.tail.tail.tail.tail.tail.tail.tail.tail.headD AV.dead)), AV.flt .f64 (toF ((toC (getV r7)).tail.tail.tail.tail.tail.tail.tail.tail.tail.tail.headD AV.dead))], [AV.int .i64 (toI ((toC (getV r15)).headD AV.dead)), AV.int .u8 (toI ((toC (getV r15)).tail.headD AV.dead)), AV.int .i64 (toI ((toC (getV r15)).tail.tail.headD AV.dead)), AV.int .i64 (toI ((toC (getV r15)).tail.tail.tail.headD AV.dead)), AV.int .i64 (toI ((toC (getV r15)).tail.tail.tail.tail.headD AV.dead)), AV.int .i64 (toI ((toC (getV r15)).tail.tail.tail.tail.tail.headD AV.dead)), AV.int .i64 (toI ((toC (getV r15)).tail.tail.tail.tail.tail.tail.headD AV.dead)), AV.int .i64 (toI ((toC (getV r15)).tail.tail.tail.tail.tail.tail.tail.headD AV.dead)), AV.flt .f64 (toF ((toC (getV r15)).tail.tail.tail.tail.tail.tail.tail.tail.headD AV.dead)), AV.flt .f64 (toF ((toC (getV r15)).tail.tail.tail.tail.tail.tail.tail.tail.tail.headD AV.dead)), AV.flt .f64 (toF ((toC (getV r15)).tail.tail.tail.tail.tail.tail.tail.tail.tail.tail.headD AV.dead))]].getD i []).getD j AV.dead])
  else some (AV.tup [AV.ro 11 [[AV.int .i64 (toI ((toC (getV r7)).headD AV.dead)), AV.int .u8 (toI ((toC (getV r7)).tail.headD AV.dead)), AV.int .i64 (toI ((toC (getV r7)).tail.tail.headD AV.dead)), AV.int .i64 (toI ((toC (getV r7)).tail.tail.tail.headD AV.dead)), AV.int .i64 (toI ((toC (getV r7)).tail.tail.tail.tail.headD AV.dead)), AV.int .i64 (toI ((toC (getV r7)).tail.tail.tail.tail.tail.headD AV.dead)), AV.int .i64 (toI ((toC (getV r7)).tail.tail.tail.tail.tail.tail.headD AV.dead)), AV.int .i64 (toI ((toC (getV r7)).tail.tail.tail.tail.tail.tail.tail.headD AV.dead)), AV.flt .f64 (toF ((toC (getV r7)).tail.tail.tail.tail.tail.tail.tail.tail.headD AV.dead)), AV.flt .f64 (toF ((toC (getV r7)).tail.tail.tail.tail.tail.tail.tail.tail.tail.headD AV.dead)), AV.flt .f64 (toF ((toC (getV r7)).tail.tail.tail.tail.tail.tail.tail.tail.tail.tail.headD AV.dead))]].length [[AV.int .i64 (toI ((toC (getV r7)).headD AV.dead)), AV.int .u8 (toI ((toC (getV r7)).tail.headD AV.dead)), AV.int .i64 (toI ((toC (getV r7)).tail.tail.headD AV.dead)), AV.int .i64 (toI ((toC (getV r7)).tail.tail.tail.headD AV.dead)), AV.int .i64 (toI ((toC (getV r7)).tail.tail.tail.tail.headD AV.dead)), AV.int .i64 (toI ((toC (getV r7)).tail.tail.tail.tail.tail.headD AV.dead)), AV.int .i64 (toI ((toC (getV r7)).tail.tail.tail.tail.tail.tail.headD AV.dead)), AV.int .i64 (toI ((toC (getV r7)).tail.tail.tail.tail.tail.tail.tail.headD AV.dead)), AV.flt .f64 (toF ((toC (getV r7)).tail.tail.tail.tail.tail.tail.tail.tail.headD AV.dead)), AV.flt .f64 (toF ((toC (getV r7)).tail.tail.tail.tail.tail.tail.tail.tail.tail.headD AV.dead)), AV.flt .f64 (toF ((toC (getV r7)).tail.tail.tail.tail.tail.tail.tail.tail.tail.tail.headD AV.dead))]].length fun (i j : Nat) => ([[AV.int .i64 (toI ((toC (getV r7)).headD AV.dead)), AV.int .u8 (toI ((toC (getV r7)).tail.headD AV.dead)), AV.int .i64 (toI ((toC (getV r7)).tail.tail.headD AV.dead)), AV.int .i64 (toI ((toC (getV r7)).tail.tail.tail.headD AV.dead)), AV.int .i64 (toI ((toC (getV r7)).tail.tail.tail.tail.headD AV.dead)), AV.int .i64 (toI ((toC (getV r7)).tail.tail.tail.tail.tail.headD AV.dead)), AV.int .i64 (toI ((toC (getV r7)).tail.tail.tail.tail.tail.tail.headD AV.dead)), AV.int .i64 (toI ((toC (getV r7)).tail.tail.tail.tail.tail.tail.tail.headD AV.dead)), AV.flt .f64 (toF ((toC (getV r7)).tail.tail.tail.tail.tail.tail.tail.tail.headD AV.dead)), AV.flt .f64 (toF ((toC (getV r7)).tail.tail.tail.tail.tail.tail.tail.tail.tail.headD AV.dead)), AV.flt .f64 (toF ((toC (getV r7)).tail.tail.tail.tail.tail.tail.tail.tail.tail.tail.headD AV.dead))]].getD i []).getD j AV.dead])
theorem gbars_springs_a_run (za vw : Mo) (zz zh : Mo) (zd qb z3 : Mo) (fuel zi z1 : Nat) (wq : Ge) (zv zy : Nat) (w1 : Ge) (qdm : ByteArray) (qdp pd pe : Int) (qdl qdn : Bool) (qcf qc0 qc1 : Option Nat) : runX Pr (Gbars_springs_a za vw zz zh zd qb z3) [((6, 13), Lbars_springs_a za vw zz zh zd qb z3 fuel)] fuel 7 13 Xbars_springs_a [AV.agg [AV.ro 4 zi z1 wq, AV.ro 9 zv zy w1], AV.agg [AV.str qdm, AV.int .u8 qdp, AV.int .i64 pd, AV.int .i64 pe, AV.bool qdl, AV.bool qdn, AV.flt .f64 qcf, AV.flt .f64 qc0, AV.flt .f64 qc1]] [] = gbars_springs_a za vw zz zh zd qb z3 fuel zi z1 wq zv zy w1 qdm qdp pd pe qdl qdn qcf qc0 qc1 := by kernel_rfl
noncomputable def mbars_springs_a (za vw : Mo) (zz zh : Mo) (zd qb z3 : Mo) (fuel : Nat) (xs : List AV) : Option AV := match xs with
  | [AV.agg [AV.ro 4 zi z1 wq, AV.ro 9 zv zy w1], AV.agg [AV.str qdm, AV.int .u8 qdp, AV.int .i64 pd, AV.int .i64 pe, AV.bool qdl, AV.bool qdn, AV.flt .f64 qcf, AV.flt .f64 qc0, AV.flt .f64 qc1]] => gbars_springs_a za vw zz zh zd qb z3 fuel zi z1 wq zv zy w1 qdm qdp pd pe qdl qdn qcf qc0 qc1
  | _ => none
theorem gbars_springs_a_sm (za vw : Mo) (zz zh : Mo) (zd qb z3 : Mo) (fuel : Nat) (hΓ : GamOk Pr (Gbars_springs_a za vw zz zh zd qb z3)) (hP : NamesOk Pr) : XOk Pr 13 (smX Rbars_springs_a Xbars_springs_a (mbars_springs_a za vw zz zh zd qb z3 fuel)) Xbars_springs_a := by
  refine smX_ok (fuel := fuel) hΓ hP (LamOk.of 6 13 (Lbars_springs_a za vw zz zh zd qb z3 fuel) 0 (by kernel_rfl) (fun i hi => ?_)) 7 13 Rbars_springs_a Xbars_springs_a _ (fun xs0 ys0 v ha hb h => ?_)
  · match i, hi with
    | i + 0, hi => exact absurd hi (by omega)
  · skip
    have ha0 : xs0.length = 2 := ha
    clear ha
    obtain ⟨a0, xs1, rfl, ha1⟩ := len_cons ha0
    clear ha0
    obtain ⟨a1, xs2, rfl, ha2⟩ := len_cons ha1
    clear ha1
    obtain rfl := List.eq_nil_of_length_eq_zero ha2
    have hy0 : ys0.map List.length = [] := hb
    clear hb
    obtain rfl := map_nil' hy0
    have h : mbars_springs_a za vw zz zh zd qb z3 fuel [a0, a1] = some v := h
    generalize hx0 : [a0, a1] = zs at h
    unfold mbars_springs_a at h
    split at h
    · skip
      obtain ⟨rfl, hx1⟩ := List.cons.inj hx0
      obtain ⟨rfl, hx2⟩ := List.cons.inj hx1
      simp only [List.map_cons, List.map_nil]
      exact (gbars_springs_a_run za vw zz zh zd qb z3 fuel _ _ _ _ _ _ _ _ _ _ _ _ _ _ _).trans h
    · cases h
end Go.Proofs.Tryz
end
