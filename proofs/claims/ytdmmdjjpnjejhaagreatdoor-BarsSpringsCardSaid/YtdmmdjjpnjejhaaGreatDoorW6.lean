/- Part 6 of the proof: models of the functions, and laws on them. -/
import Derived.Test.YtdmmdjjpnjejhaaGreatDoorW5
import Derived.Laws.Bits64
import Derived.Laws.BitsLemmas
import Derived.Laws.RangeAny
import Derived.Laws.RangeString
import Derived.MapKept
section
namespace Go.Proofs.Tryz
open Go Go.Am
set_option linter.unusedVariables false
set_option maxRecDepth 1000000
noncomputable def Skit_KeptMembers_0 (va y1 : Nat) (ve : Ge) (pk p5 : Nat) (z2 : Ge) (ui6 : Int) : St := { env := [(1, AV.ro 9 va y1 ve), (5, AV.ro 9 pk p5 z2), (6, AV.int .i64 ui6)], h := [], kd := [] }
noncomputable def Xkit_KeptMembers_0_0 (qbs : Bool) : St := { env := [(4, AV.bool qbs)], h := [], kd := [] }
noncomputable def Xkit_KeptMembers_0_1 : St := { env := [], h := [], kd := [] }
noncomputable def gkit_KeptMembers_l0_step (qa qc : Mo) (fuel : Nat) (kn : Int → Option AV) (kx0 : Bool → Option AV) (kx1 : Option AV) (va y1 : Nat) (ve : Ge) (pk p5 : Nat) (z2 : Ge) (ui6 : Int) : Option AV :=
  bif decide (ui6 < (↑pk : Int)) then ck (bif decide (ui6 < (↑va : Int)) then decide (0 ≤ ui6) else true) <| ck (bif decide (ui6 < (↑va : Int)) then decide (ui6 < (↑pk : Int)) else true) <| ck (bif decide (ui6 < (↑va : Int)) then true else true) <| ck (bif decide (ui6 < (↑va : Int)) then fitKs [LK.s, LK.i .u8, LK.i .i64, LK.i .i64, LK.b, LK.b, LK.f .f64, LK.f .f64, LK.f .f64] [z2 ui6.toNat 0, z2 ui6.toNat 1, z2 ui6.toNat 2, z2 ui6.toNat 3, z2 ui6.toNat 4, z2 ui6.toNat 5, z2 ui6.toNat 6, z2 ui6.toNat 7, z2 ui6.toNat 8] else true) <| ck (bif decide (ui6 < (↑va : Int)) then decide (0 ≤ ui6) else true) <| ck (bif decide (ui6 < (↑va : Int)) then decide (ui6 < (↑va : Int)) else true) <| ck (bif decide (ui6 < (↑va : Int)) then true else true) <| ck (bif decide (ui6 < (↑va : Int)) then fitKs [LK.s, LK.i .u8, LK.i .i64, LK.i .i64, LK.b, LK.b, LK.f .f64, LK.f .f64, LK.f .f64] [ve ui6.toNat 0, ve ui6.toNat 1, ve ui6.toNat 2, ve ui6.toNat 3, ve ui6.toNat 4, ve ui6.toNat 5, ve ui6.toNat 6, ve ui6.toNat 7, ve ui6.toNat 8] else true) <| ck (bif decide (ui6 < (↑va : Int)) then okM [RS.one LK.b] (qa [AV.agg [AV.str (toS (z2 ui6.toNat 0)), AV.int .u8 (toI (z2 ui6.toNat 1)), AV.int .i64 (toI (z2 ui6.toNat 2)), AV.int .i64 (toI (z2 ui6.toNat 3)), AV.bool (toB (z2 ui6.toNat 4)), AV.bool (toB (z2 ui6.toNat 5)), AV.flt .f64 (toF (z2 ui6.toNat 6)), AV.flt .f64 (toF (z2 ui6.toNat 7)), AV.flt .f64 (toF (z2 ui6.toNat 8))], AV.agg [AV.str (toS (ve ui6.toNat 0)), AV.int .u8 (toI (ve ui6.toNat 1)), AV.int .i64 (toI (ve ui6.toNat 2)), AV.int .i64 (toI (ve ui6.toNat 3)), AV.bool (toB (ve ui6.toNat 4)), AV.bool (toB (ve ui6.toNat 5)), AV.flt .f64 (toF (ve ui6.toNat 6)), AV.flt .f64 (toF (ve ui6.toNat 7)), AV.flt .f64 (toF (ve ui6.toNat 8))]]) else true) <| ck (bif decide (ui6 ≥ (↑va : Int)) then decide (0 ≤ ui6) else true) <| ck (bif decide (ui6 ≥ (↑va : Int)) then decide (ui6 < (↑pk : Int)) else true) <| ck (bif decide (ui6 ≥ (↑va : Int)) then true else true) <| ck (bif decide (ui6 ≥ (↑va : Int)) then fitKs [LK.s, LK.i .u8, LK.i .i64, LK.i .i64, LK.b, LK.b, LK.f .f64, LK.f .f64, LK.f .f64] [z2 ui6.toNat 0, z2 ui6.toNat 1, z2 ui6.toNat 2, z2 ui6.toNat 3, z2 ui6.toNat 4, z2 ui6.toNat 5, z2 ui6.toNat 6, z2 ui6.toNat 7, z2 ui6.toNat 8] else true) <| let r0 : Option AV := qc [AV.int .i64 1, AV.int .i64 (IntKind.i64.wrap (ui6 - (↑va : Int)))]; ck (bif decide (ui6 ≥ (↑va : Int)) then okM [RS.agg [LK.s, LK.i .u8, LK.i .i64, LK.i .i64, LK.b, LK.b, LK.f .f64, LK.f .f64, LK.f .f64]] r0 else true) <| ck (bif decide (ui6 ≥ (↑va : Int)) then okM [RS.one LK.b] (qa [AV.agg [AV.str (toS (z2 ui6.toNat 0)), AV.int .u8 (toI (z2 ui6.toNat 1)), AV.int .i64 (toI (z2 ui6.toNat 2)), AV.int .i64 (toI (z2 ui6.toNat 3)), AV.bool (toB (z2 ui6.toNat 4)), AV.bool (toB (z2 ui6.toNat 5)), AV.flt .f64 (toF (z2 ui6.toNat 6)), AV.flt .f64 (toF (z2 ui6.toNat 7)), AV.flt .f64 (toF (z2 ui6.toNat 8))], AV.agg [AV.str (toS ((toC (getV r0)).headD AV.dead)), AV.int .u8 (toI ((toC (getV r0)).tail.headD AV.dead)), AV.int .i64 (toI ((toC (getV r0)).tail.tail.headD AV.dead)), AV.int .i64 (toI ((toC (getV r0)).tail.tail.tail.headD AV.dead)), AV.bool (toB ((toC (getV r0)).tail.tail.tail.tail.headD AV.dead)), AV.bool (toB ((toC (getV r0)).tail.tail.tail.tail.tail.headD AV.dead)), AV.flt .f64 (toF ((toC (getV r0)).tail.tail.tail.tail.tail.tail.headD AV.dead)), AV.flt .f64 (toF ((toC (getV r0)).tail.tail.tail.tail.tail.tail.tail.headD AV.dead)), AV.flt .f64 (toF ((toC (getV r0)).tail.tail.tail.tail.tail.tail.tail.tail.headD AV.dead))]]) else true) <| bif bif bif decide (ui6 < (↑va : Int)) then !toB (getV (qa [AV.agg [AV.str (toS (z2 ui6.toNat 0)), AV.int .u8 (toI (z2 ui6.toNat 1)), AV.int .i64 (toI (z2 ui6.toNat 2)), AV.int .i64 (toI (z2 ui6.toNat 3)), AV.bool (toB (z2 ui6.toNat 4)), AV.bool (toB (z2 ui6.toNat 5)), AV.flt .f64 (toF (z2 ui6.toNat 6)), AV.flt .f64 (toF (z2 ui6.toNat 7)), AV.flt .f64 (toF (z2 ui6.toNat 8))], AV.agg [AV.str (toS (ve ui6.toNat 0)), AV.int .u8 (toI (ve ui6.toNat 1)), AV.int .i64 (toI (ve ui6.toNat 2)), AV.int .i64 (toI (ve ui6.toNat 3)), AV.bool (toB (ve ui6.toNat 4)), AV.bool (toB (ve ui6.toNat 5)), AV.flt .f64 (toF (ve ui6.toNat 6)), AV.flt .f64 (toF (ve ui6.toNat 7)), AV.flt .f64 (toF (ve ui6.toNat 8))]])) else false then true else bif decide (ui6 ≥ (↑va : Int)) then !toB (getV (qa [AV.agg [AV.str (toS (z2 ui6.toNat 0)), AV.int .u8 (toI (z2 ui6.toNat 1)), AV.int .i64 (toI (z2 ui6.toNat 2)), AV.int .i64 (toI (z2 ui6.toNat 3)), AV.bool (toB (z2 ui6.toNat 4)), AV.bool (toB (z2 ui6.toNat 5)), AV.flt .f64 (toF (z2 ui6.toNat 6)), AV.flt .f64 (toF (z2 ui6.toNat 7)), AV.flt .f64 (toF (z2 ui6.toNat 8))], AV.agg [AV.str (toS ((toC (getV r0)).headD AV.dead)), AV.int .u8 (toI ((toC (getV r0)).tail.headD AV.dead)), AV.int .i64 (toI ((toC (getV r0)).tail.tail.headD AV.dead)), AV.int .i64 (toI ((toC (getV r0)).tail.tail.tail.headD AV.dead)), AV.bool (toB ((toC (getV r0)).tail.tail.tail.tail.headD AV.dead)), AV.bool (toB ((toC (getV r0)).tail.tail.tail.tail.tail.headD AV.dead)), AV.flt .f64 (toF ((toC (getV r0)).tail.tail.tail.tail.tail.tail.headD AV.dead)), AV.flt .f64 (toF ((toC (getV r0)).tail.tail.tail.tail.tail.tail.tail.headD AV.dead)), AV.flt .f64 (toF ((toC (getV r0)).tail.tail.tail.tail.tail.tail.tail.tail.headD AV.dead))]])) else false then kx0 (false)
    else kn (IntKind.i64.wrap (ui6 + 1))
  else kx1
noncomputable def gkit_KeptMembers_l0 (qa qc : Mo) (fuel : Nat) (kx0 : Bool → Option AV) (kx1 : Option AV) (va y1 : Nat) (ve : Ge) (pk p5 : Nat) (z2 : Ge) : Nat → Int → Option AV
  | 0, _ => none
  | n' + 1, ui6 => gkit_KeptMembers_l0_step qa qc fuel (gkit_KeptMembers_l0 qa qc fuel kx0 kx1 va y1 ve pk p5 z2 n') kx0 kx1 va y1 ve pk p5 z2 ui6
noncomputable def Tkit_KeptMembers_0 : TS' := ⟨[(1, TA.ro 9), (5, TA.ro 9), (6, TA.i .i64)], [], []⟩
noncomputable def Fkit_KeptMembers_0 (qa qc : Mo) (fuel : Nat) (ps : List Pay) (K : Ex → St → Option AV) : Option AV := match ps with
  | .n va :: .n y1 :: .g ve :: .n pk :: .n p5 :: .g z2 :: .i ui6 :: [] => gkit_KeptMembers_l0 qa qc fuel (fun qbs => K (Ex.ret) (Xkit_KeptMembers_0_0 qbs)) (K (Ex.exit 0) Xkit_KeptMembers_0_1) va y1 ve pk p5 z2 fuel ui6
  | _ => none
noncomputable def Lkit_KeptMembers (qa qc : Mo) (fuel : Nat) : Lam AV := [(288230376151580752, lam Tkit_KeptMembers_0 (Fkit_KeptMembers_0 qa qc fuel))]
noncomputable def Gkit_KeptMembers (qa qc : Mo) : Gam := [(47, smM [RS.one LK.b] qa), (27, smM [RS.agg [LK.s, LK.i .u8, LK.i .i64, LK.i .i64, LK.b, LK.b, LK.f .f64, LK.f .f64, LK.f .f64]] qc)]
noncomputable def Ckit_KeptMembers (qa qc : Mo) (fuel : Nat) : CallI AV := callX (Gkit_KeptMembers qa qc) (execFn Pr (Gkit_KeptMembers qa qc) [((6, 22), Lkit_KeptMembers qa qc fuel)] fuel 6)
theorem gkit_KeptMembers_l0_eq (qa qc : Mo) (fuel : Nat) (kn : St → Option AV) (K : Ex → St → Option AV) (va y1 : Nat) (ve : Ge) (pk p5 : Nat) (z2 : Ge) (qhk ui6 : Int) :
    exec Pr (Gkit_KeptMembers qa qc) (Lkit_KeptMembers qa qc fuel) (fnNt Pr 22) fuel (Ckit_KeptMembers qa qc fuel) (lp Pr 22 0).1 (lp Pr 22 0).2 (live (lp Pr 22 0).1 (lp Pr 22 0).2 0) (Skit_KeptMembers_0 va y1 ve pk p5 z2 ui6) (fun e s => match e with | .normal => kn (headN (live (lp Pr 22 0).1 (lp Pr 22 0).2 0) (writes (lp Pr 22 0).1) (Skit_KeptMembers_0 va y1 ve pk p5 z2 qhk) s) | e => K e s) =
    gkit_KeptMembers_l0_step qa qc fuel (fun ui6 => kn (Skit_KeptMembers_0 va y1 ve pk p5 z2 ui6)) (fun xu4 => K (Ex.ret) (Xkit_KeptMembers_0_0 xu4)) (K (Ex.exit 0) Xkit_KeptMembers_0_1) va y1 ve pk p5 z2 ui6 := by kernel_rfl
theorem gkit_KeptMembers_l0_ok (qa qc : Mo) (fuel : Nat) (K : Ex → St → Option AV) (va y1 : Nat) (ve : Ge) (pk p5 : Nat) (z2 : Ge) (qhk : Int) : ∀ (n' : Nat) (ui6 : Int),
    loopK (exec Pr (Gkit_KeptMembers qa qc) (Lkit_KeptMembers qa qc fuel) (fnNt Pr 22) fuel (Ckit_KeptMembers qa qc fuel) (lp Pr 22 0).1 (lp Pr 22 0).2 (live (lp Pr 22 0).1 (lp Pr 22 0).2 0)) (headN (live (lp Pr 22 0).1 (lp Pr 22 0).2 0) (writes (lp Pr 22 0).1) (Skit_KeptMembers_0 va y1 ve pk p5 z2 qhk)) n' (Skit_KeptMembers_0 va y1 ve pk p5 z2 ui6) K = gkit_KeptMembers_l0 qa qc fuel (fun xu4 => K (Ex.ret) (Xkit_KeptMembers_0_0 xu4)) (K (Ex.exit 0) Xkit_KeptMembers_0_1) va y1 ve pk p5 z2 n' ui6
  | 0, _ => rfl
  | n' + 1, ui6 => (gkit_KeptMembers_l0_eq qa qc fuel (fun s => loopK (exec Pr (Gkit_KeptMembers qa qc) (Lkit_KeptMembers qa qc fuel) (fnNt Pr 22) fuel (Ckit_KeptMembers qa qc fuel) (lp Pr 22 0).1 (lp Pr 22 0).2 (live (lp Pr 22 0).1 (lp Pr 22 0).2 0)) (headN (live (lp Pr 22 0).1 (lp Pr 22 0).2 0) (writes (lp Pr 22 0).1) (Skit_KeptMembers_0 va y1 ve pk p5 z2 qhk)) n' s K) K va y1 ve pk p5 z2 qhk ui6).trans
    (congrArg (fun kn => gkit_KeptMembers_l0_step qa qc fuel kn (fun xu4 => K (Ex.ret) (Xkit_KeptMembers_0_0 xu4)) (K (Ex.exit 0) Xkit_KeptMembers_0_1) va y1 ve pk p5 z2 ui6) (funext fun _ => gkit_KeptMembers_l0_ok qa qc fuel K va y1 ve pk p5 z2 qhk n' _))
theorem gkit_KeptMembers_L0 (qa qc : Mo) (fuel : Nat) : LOk Pr (Gkit_KeptMembers qa qc) (Lkit_KeptMembers qa qc fuel) (fnNt Pr 22) fuel (Ckit_KeptMembers qa qc fuel) (lp Pr 22 0) := by
  refine .of Tkit_KeptMembers_0 (Fkit_KeptMembers_0 qa qc fuel) (fun L h => ?_) (fun ps st K r he hr => ?_)
  · have e : (Lkit_KeptMembers qa qc fuel).get (writes (lp Pr 22 0).1) = some (lam Tkit_KeptMembers_0 (Fkit_KeptMembers_0 qa qc fuel)) := by kernel_rfl
    exact (Option.some.inj (e.symm.trans h)).symm
  · unfold Fkit_KeptMembers_0 at hr
    split at hr
    · obtain rfl := (Option.some.inj he).symm
      exact (gkit_KeptMembers_l0_ok qa qc fuel K _ _ _ _ _ _ _ fuel _).trans hr
    · cases hr
noncomputable def gkit_KeptMembers (qa qc : Mo) (fuel qe4 qeh : Nat) (qfh : Ge) (qew qh0 : Nat) (qhz : Ge) : Option AV :=
  bif (↑qe4 : Int) != (↑qew : Int) then some (AV.bool false)
  else ck (decide (0 ≤ IntKind.i64.wrap ((↑qew : Int) + 12))) <| ck (decide (IntKind.i64.wrap ((↑qew : Int) + 12) ≤ (↑qeh : Int))) <| gkit_KeptMembers_l0 qa qc fuel
    (fun (xu4 : Bool) => some (AV.bool xu4))
    (some (AV.bool true))
    (qew)
    (qh0)
    (qhz)
    ((IntKind.i64.wrap ((↑qew : Int) + 12)).toNat - 0)
    (qeh - 0)
    (fun (i : Nat) => qfh (0 + i)) fuel (0)
theorem gkit_KeptMembers_run (qa qc : Mo) (fuel qe4 qeh : Nat) (qfh : Ge) (qew qh0 : Nat) (qhz : Ge) : run Pr (Gkit_KeptMembers qa qc) [((6, 22), Lkit_KeptMembers qa qc fuel)] fuel 7 22 [AV.ro 9 qe4 qeh qfh, AV.ro 9 qew qh0 qhz] = gkit_KeptMembers qa qc fuel qe4 qeh qfh qew qh0 qhz := by kernel_rfl
noncomputable def mkit_KeptMembers (qa qc : Mo) (fuel : Nat) (xs : List AV) : Option AV := match xs with
  | [AV.ro 9 qe4 qeh qfh, AV.ro 9 qew qh0 qhz] => gkit_KeptMembers qa qc fuel qe4 qeh qfh qew qh0 qhz
  | _ => none
abbrev Rkit_KeptMembers : List RS := [RS.one LK.b]
theorem gkit_KeptMembers_sm (qa qc : Mo) (fuel : Nat) (hΓ : GamOk Pr (Gkit_KeptMembers qa qc)) (hP : NamesOk Pr) : SmOk Pr 22 (smM Rkit_KeptMembers (mkit_KeptMembers qa qc fuel)) := by
  refine smM_ok (fuel := fuel) hΓ hP (LamOk.of 6 22 (Lkit_KeptMembers qa qc fuel) 1 (by kernel_rfl) (fun i hi => ?_)) 7 22 Rkit_KeptMembers _ (fun xs v h => ?_)
  · match i, hi with
    | 0, _ => exact gkit_KeptMembers_L0 qa qc fuel
    | i + 1, hi => exact absurd hi (by omega)
  · unfold mkit_KeptMembers at h
    split at h
    · exact (gkit_KeptMembers_run qa qc fuel _ _ _ _ _ _).trans h
    · cases h
noncomputable def Lkit_KeptPlan (vg vb vj : Mo) (fuel : Nat) : Lam AV := []
noncomputable def Gkit_KeptPlan (vg vb vj : Mo) : Gam := [(20, smM [RS.one LK.b] vg), (21, smM [RS.one LK.b] vb), (22, smM [RS.one LK.b] vj)]
noncomputable def Ckit_KeptPlan (vg vb vj : Mo) (fuel : Nat) : CallI AV := callX (Gkit_KeptPlan vg vb vj) (execFn Pr (Gkit_KeptPlan vg vb vj) [((6, 8), Lkit_KeptPlan vg vb vj fuel)] fuel 6)
noncomputable def gkit_KeptPlan (vg vb vj : Mo) (fuel qag qai : Nat) (qaj : Ge) (qav qap : Nat) (qaw : Ge) (qb6 qb5 : Nat) (qb4 : Ge) (qcw qcz : Nat) (qcx : Ge) : Option AV :=
  ck (okM [RS.one LK.b] (vg [AV.agg [AV.ro 4 qag qai qaj, AV.ro 9 qav qap qaw], AV.agg [AV.ro 4 qb6 qb5 qb4, AV.ro 9 qcw qcz qcx]])) <| ck (bif toB (getV (vg [AV.agg [AV.ro 4 qag qai qaj, AV.ro 9 qav qap qaw], AV.agg [AV.ro 4 qb6 qb5 qb4, AV.ro 9 qcw qcz qcx]])) then true else true) <| ck (bif toB (getV (vg [AV.agg [AV.ro 4 qag qai qaj, AV.ro 9 qav qap qaw], AV.agg [AV.ro 4 qb6 qb5 qb4, AV.ro 9 qcw qcz qcx]])) then true else true) <| ck (bif toB (getV (vg [AV.agg [AV.ro 4 qag qai qaj, AV.ro 9 qav qap qaw], AV.agg [AV.ro 4 qb6 qb5 qb4, AV.ro 9 qcw qcz qcx]])) then okM [RS.one LK.b] (vb [AV.ro 4 qag qai qaj, AV.ro 4 qb6 qb5 qb4]) else true) <| ck (bif bif toB (getV (vg [AV.agg [AV.ro 4 qag qai qaj, AV.ro 9 qav qap qaw], AV.agg [AV.ro 4 qb6 qb5 qb4, AV.ro 9 qcw qcz qcx]])) then toB (getV (vb [AV.ro 4 qag qai qaj, AV.ro 4 qb6 qb5 qb4])) else false then true else true) <| ck (bif bif toB (getV (vg [AV.agg [AV.ro 4 qag qai qaj, AV.ro 9 qav qap qaw], AV.agg [AV.ro 4 qb6 qb5 qb4, AV.ro 9 qcw qcz qcx]])) then toB (getV (vb [AV.ro 4 qag qai qaj, AV.ro 4 qb6 qb5 qb4])) else false then true else true) <| ck (bif bif toB (getV (vg [AV.agg [AV.ro 4 qag qai qaj, AV.ro 9 qav qap qaw], AV.agg [AV.ro 4 qb6 qb5 qb4, AV.ro 9 qcw qcz qcx]])) then toB (getV (vb [AV.ro 4 qag qai qaj, AV.ro 4 qb6 qb5 qb4])) else false then okM [RS.one LK.b] (vj [AV.ro 9 qav qap qaw, AV.ro 9 qcw qcz qcx]) else true) <| some (AV.bool (bif bif toB (getV (vg [AV.agg [AV.ro 4 qag qai qaj, AV.ro 9 qav qap qaw], AV.agg [AV.ro 4 qb6 qb5 qb4, AV.ro 9 qcw qcz qcx]])) then toB (getV (vb [AV.ro 4 qag qai qaj, AV.ro 4 qb6 qb5 qb4])) else false then toB (getV (vj [AV.ro 9 qav qap qaw, AV.ro 9 qcw qcz qcx])) else false))
theorem gkit_KeptPlan_run (vg vb vj : Mo) (fuel qag qai : Nat) (qaj : Ge) (qav qap : Nat) (qaw : Ge) (qb6 qb5 : Nat) (qb4 : Ge) (qcw qcz : Nat) (qcx : Ge) : run Pr (Gkit_KeptPlan vg vb vj) [((6, 8), Lkit_KeptPlan vg vb vj fuel)] fuel 7 8 [AV.agg [AV.ro 4 qag qai qaj, AV.ro 9 qav qap qaw], AV.agg [AV.ro 4 qb6 qb5 qb4, AV.ro 9 qcw qcz qcx]] = gkit_KeptPlan vg vb vj fuel qag qai qaj qav qap qaw qb6 qb5 qb4 qcw qcz qcx := by kernel_rfl
noncomputable def mkit_KeptPlan (vg vb vj : Mo) (fuel : Nat) (xs : List AV) : Option AV := match xs with
  | [AV.agg [AV.ro 4 qag qai qaj, AV.ro 9 qav qap qaw], AV.agg [AV.ro 4 qb6 qb5 qb4, AV.ro 9 qcw qcz qcx]] => gkit_KeptPlan vg vb vj fuel qag qai qaj qav qap qaw qb6 qb5 qb4 qcw qcz qcx
  | _ => none
abbrev Rkit_KeptPlan : List RS := [RS.one LK.b]
theorem gkit_KeptPlan_sm (vg vb vj : Mo) (fuel : Nat) (hΓ : GamOk Pr (Gkit_KeptPlan vg vb vj)) (hP : NamesOk Pr) : SmOk Pr 8 (smM Rkit_KeptPlan (mkit_KeptPlan vg vb vj fuel)) := by
  refine smM_ok (fuel := fuel) hΓ hP (LamOk.of 6 8 (Lkit_KeptPlan vg vb vj fuel) 0 (by kernel_rfl) (fun i hi => ?_)) 7 8 Rkit_KeptPlan _ (fun xs v h => ?_)
  · match i, hi with
    | i + 0, hi => exact absurd hi (by omega)
  · unfold mkit_KeptPlan at h
    split at h
    · exact (gkit_KeptPlan_run vg vb vj fuel _ _ _ _ _ _ _ _ _ _ _ _).trans h
    · cases h
noncomputable def Llaw19_beam (fuel : Nat) : Lam AV := []
noncomputable def Glaw19_beam : Gam := []
noncomputable def Claw19_beam (fuel : Nat) : CallI AV := callX (Glaw19_beam) (execFn Pr (Glaw19_beam) [((6, 24), Llaw19_beam fuel)] fuel 6)
noncomputable def glaw19_beam (fuel : Nat) (ua0 ub1 : Bool) : Option AV :=
  some (AV.agg [AV.str { data := #[] }, AV.int .u8 2, AV.int .i64 0, AV.int .i64 0, AV.bool ua0, AV.bool ub1, AV.flt .f64 (some 0), AV.flt .f64 (some 0), AV.flt .f64 (some 4619567317775286272)])
theorem glaw19_beam_run (fuel : Nat) (ua0 ub1 : Bool) : run Pr (Glaw19_beam) [((6, 24), Llaw19_beam fuel)] fuel 7 24 [AV.bool ua0, AV.bool ub1] = glaw19_beam fuel ua0 ub1 := by kernel_rfl
noncomputable def mlaw19_beam (fuel : Nat) (xs : List AV) : Option AV := match xs with
  | [AV.bool ua0, AV.bool ub1] => glaw19_beam fuel ua0 ub1
  | _ => none
abbrev Rlaw19_beam : List RS := [RS.agg [LK.s, LK.i .u8, LK.i .i64, LK.i .i64, LK.b, LK.b, LK.f .f64, LK.f .f64, LK.f .f64]]
theorem glaw19_beam_sm (fuel : Nat) (hΓ : GamOk Pr (Glaw19_beam)) (hP : NamesOk Pr) : SmOk Pr 24 (smM Rlaw19_beam (mlaw19_beam fuel)) := by
  refine smM_ok (fuel := fuel) hΓ hP (LamOk.of 6 24 (Llaw19_beam fuel) 0 (by kernel_rfl) (fun i hi => ?_)) 7 24 Rlaw19_beam _ (fun xs v h => ?_)
  · match i, hi with
    | i + 0, hi => exact absurd hi (by omega)
  · unfold mlaw19_beam at h
    split at h
    · exact (glaw19_beam_run fuel _ _).trans h
    · cases h
noncomputable def Llaw19_three (fuel : Nat) : Lam AV := []
noncomputable def Glaw19_three : Gam := []
noncomputable def Claw19_three (fuel : Nat) : CallI AV := callX (Glaw19_three) (execFn Pr (Glaw19_three) [((6, 23), Llaw19_three fuel)] fuel 6)
noncomputable def glaw19_three (fuel : Nat) (qb8 : ByteArray) (qak qbv qcc : Int) (qam qa5 : Bool) (qbm qb3 qa3 : Option Nat) : Option AV :=
  some (AV.agg [AV.ro 4 2 2 fun (i j : Nat) => ([[AV.str { data := #[(97 : UInt8)] }, AV.int .i32 0, AV.int .i32 0, AV.int .u8 0], [AV.str { data := #[(98 : UInt8)] }, AV.int .i32 3, AV.int .i32 4, AV.int .u8 0]].getD i [AV.str { data := #[] }, AV.int .i32 0, AV.int .i32 0, AV.int .u8 0]).getD j AV.dead, AV.ro 9 [[AV.str { data := #[(109 : UInt8)] }, AV.int .u8 qak, AV.int .i64 qbv, AV.int .i64 1, AV.bool qam, AV.bool qa5, AV.flt .f64 (some 4611686018427387904), AV.flt .f64 (some 4617315517961601024), AV.flt .f64 qa3]].length [[AV.str { data := #[(109 : UInt8)] }, AV.int .u8 qak, AV.int .i64 qbv, AV.int .i64 1, AV.bool qam, AV.bool qa5, AV.flt .f64 (some 4611686018427387904), AV.flt .f64 (some 4617315517961601024), AV.flt .f64 qa3]].length fun (i j : Nat) => ([[AV.str { data := #[(109 : UInt8)] }, AV.int .u8 qak, AV.int .i64 qbv, AV.int .i64 1, AV.bool qam, AV.bool qa5, AV.flt .f64 (some 4611686018427387904), AV.flt .f64 (some 4617315517961601024), AV.flt .f64 qa3]].getD i [AV.str { data := #[] }, AV.int .u8 0, AV.int .i64 0, AV.int .i64 0, AV.bool false, AV.bool false, AV.flt .f64 (some 0), AV.flt .f64 (some 0), AV.flt .f64 (some 0)]).getD j AV.dead])
theorem glaw19_three_run (fuel : Nat) (qb8 : ByteArray) (qak qbv qcc : Int) (qam qa5 : Bool) (qbm qb3 qa3 : Option Nat) : run Pr (Glaw19_three) [((6, 23), Llaw19_three fuel)] fuel 7 23 [AV.agg [AV.str qb8, AV.int .u8 qak, AV.int .i64 qbv, AV.int .i64 qcc, AV.bool qam, AV.bool qa5, AV.flt .f64 qbm, AV.flt .f64 qb3, AV.flt .f64 qa3]] = glaw19_three fuel qb8 qak qbv qcc qam qa5 qbm qb3 qa3 := by kernel_rfl
noncomputable def mlaw19_three (fuel : Nat) (xs : List AV) : Option AV := match xs with
  | [AV.agg [AV.str qb8, AV.int .u8 qak, AV.int .i64 qbv, AV.int .i64 qcc, AV.bool qam, AV.bool qa5, AV.flt .f64 qbm, AV.flt .f64 qb3, AV.flt .f64 qa3]] => glaw19_three fuel qb8 qak qbv qcc qam qa5 qbm qb3 qa3
  | _ => none
abbrev Rlaw19_three : List RS := [RS.agg [LK.l (nat_lit 4), LK.l (nat_lit 9)]]
theorem glaw19_three_sm (fuel : Nat) (hΓ : GamOk Pr (Glaw19_three)) (hP : NamesOk Pr) : SmOk Pr 23 (smM Rlaw19_three (mlaw19_three fuel)) := by
  refine smM_ok (fuel := fuel) hΓ hP (LamOk.of 6 23 (Llaw19_three fuel) 0 (by kernel_rfl) (fun i hi => ?_)) 7 23 Rlaw19_three _ (fun xs v h => ?_)
  · match i, hi with
    | i + 0, hi => exact absurd hi (by omega)
  · unfold mlaw19_three at h
    split at h
    · exact (glaw19_three_run fuel _ _ _ _ _ _ _ _ _).trans h
    · cases h
noncomputable def Sbars_places_0 (v1 p4 : Nat) (qad qe1 qe9 : Nat) (ph : Ge) (u20 u21 : Int) (w2 w3 : Nat) (w5 : Ge) (wz w4 : Nat) (wf : Ge) (ys : Int) (h2z : List AV) (h2e : List (List AV)) (h3z : List AV) (h3e : List (List AV)) : St := { env := [(1, AV.ptr 0 0), (2, AV.ptr 1 0), (3, AV.own 2 v1 1 p4 qad), (19, AV.ro 9 qe1 qe9 ph), (20, AV.int .i64 u20), (21, AV.int .i64 u21)], h := [Blk.box [AV.ro 4 w2 w3 w5, AV.ro 9 wz w4 wf], Blk.box [AV.lst 3 3, AV.int .i64 ys], Blk.fx 1 h2z h2e, Blk.fl 3 h3z h3e], kd := [3] }
noncomputable def Xbars_places_0_0 (qhc qgz : Nat) (qg0 y2 yy : Nat) (yx : Ge) (y3 yw : Nat) (yu : Ge) (qc6 : Int) (qjv : List AV) (qkb : List (List AV)) (qkc : List AV) (qjx : List (List AV)) : St := { env := [(1, AV.ptr 0 0), (2, AV.ptr 1 0), (3, AV.own 2 qhc 1 qgz qg0)], h := [Blk.box [AV.ro 4 y2 yy yx, AV.ro 9 y3 yw yu], Blk.box [AV.lst 3 3, AV.int .i64 qc6], Blk.fx 1 qjv qkb, Blk.fl 3 qkc qjx], kd := [3] }
noncomputable def gbars_places_l0_step (qb : Mo) (fuel : Nat) (kn : Int → List (List AV) → Option AV) (kx0 : Nat → Nat → Nat → Nat → Nat → (Ge) → Nat → Nat → (Ge) → Int → List AV → List (List AV) → List AV → List (List AV) → Option AV) (v1 p4 : Nat) (qad qe1 qe9 : Nat) (ph : Ge) (u20 : Int) (w2 w3 : Nat) (w5 : Ge) (wz w4 : Nat) (wf : Ge) (ys : Int) (h2z h3z : List AV) (h3e : List (List AV)) (u21 : Int) (h2e : List (List AV)) : Option AV :=
  bif decide (u21 < u20) then ck (decide (0 ≤ u21)) <| ck (decide (u21 < (↑qe1 : Int))) <| ck (fitKs [LK.s, LK.i .u8, LK.i .i64, LK.i .i64, LK.b, LK.b, LK.f .f64, LK.f .f64, LK.f .f64] [ph u21.toNat 0, ph u21.toNat 1, ph u21.toNat 2, ph u21.toNat 3, ph u21.toNat 4, ph u21.toNat 5, ph u21.toNat 6, ph u21.toNat 7, ph u21.toNat 8]) <| let r0 : Option AV := qb [AV.agg [AV.str (toS (ph u21.toNat 0)), AV.int .u8 (toI (ph u21.toNat 1)), AV.int .i64 (toI (ph u21.toNat 2)), AV.int .i64 (toI (ph u21.toNat 3)), AV.bool (toB (ph u21.toNat 4)), AV.bool (toB (ph u21.toNat 5)), AV.flt .f64 (toF (ph u21.toNat 6)), AV.flt .f64 (toF (ph u21.toNat 7)), AV.flt .f64 (toF (ph u21.toNat 8))]]; ck (okM [RS.one LK.b, RS.one LK.b] r0) <| ck (decide (0 ≤ toI (ph u21.toNat 2))) <| ck (decide (toI (ph u21.toNat 2) < (↑p4 : Int))) <| ck (fitK LK.b ((h2e.getD (v1 + (toI (ph u21.toNat 2)).toNat) h2z).getD 0 AV.dead)) <| ck (decide (0 ≤ toI (ph u21.toNat 2))) <| ck (decide (toI (ph u21.toNat 2) < (↑p4 : Int))) <| ck (decide (0 ≤ toI (ph u21.toNat 3))) <| ck (decide (toI (ph u21.toNat 3) < (↑p4 : Int))) <| ck (fitK LK.b (((h2e.set (v1 + (toI (ph u21.toNat 2)).toNat) (AV.bool (bif toB ((h2e.getD (v1 + (toI (ph u21.toNat 2)).toNat) h2z).getD 0 AV.dead) then true else toB ((toT (getV r0)).headD AV.dead)) :: List.drop (0 + [AV.bool (bif toB ((h2e.getD (v1 + (toI (ph u21.toNat 2)).toNat) h2z).getD 0 AV.dead) then true else toB ((toT (getV r0)).headD AV.dead))].length) (h2e.getD (v1 + (toI (ph u21.toNat 2)).toNat) h2z))).getD (v1 + (toI (ph u21.toNat 3)).toNat) h2z).getD 0 AV.dead)) <| ck (decide (0 ≤ toI (ph u21.toNat 3))) <| ck (decide (toI (ph u21.toNat 3) < (↑p4 : Int))) <| kn (IntKind.i64.wrap (u21 + 1)) ((h2e.set (v1 + (toI (ph u21.toNat 2)).toNat) (AV.bool (bif toB ((h2e.getD (v1 + (toI (ph u21.toNat 2)).toNat) h2z).getD 0 AV.dead) then true else toB ((toT (getV r0)).headD AV.dead)) :: List.drop (0 + [AV.bool (bif toB ((h2e.getD (v1 + (toI (ph u21.toNat 2)).toNat) h2z).getD 0 AV.dead) then true else toB ((toT (getV r0)).headD AV.dead))].length) (h2e.getD (v1 + (toI (ph u21.toNat 2)).toNat) h2z))).set (v1 + (toI (ph u21.toNat 3)).toNat) (AV.bool (bif toB (((h2e.set (v1 + (toI (ph u21.toNat 2)).toNat) (AV.bool (bif toB ((h2e.getD (v1 + (toI (ph u21.toNat 2)).toNat) h2z).getD 0 AV.dead) then true else toB ((toT (getV r0)).headD AV.dead)) :: List.drop (0 + [AV.bool (bif toB ((h2e.getD (v1 + (toI (ph u21.toNat 2)).toNat) h2z).getD 0 AV.dead) then true else toB ((toT (getV r0)).headD AV.dead))].length) (h2e.getD (v1 + (toI (ph u21.toNat 2)).toNat) h2z))).getD (v1 + (toI (ph u21.toNat 3)).toNat) h2z).getD 0 AV.dead) then true else toB ((toT (getV r0)).tail.headD AV.dead)) :: List.drop (0 + [AV.bool (bif toB (((h2e.set (v1 + (toI (ph u21.toNat 2)).toNat) (AV.bool (bif toB ((h2e.getD (v1 + (toI (ph u21.toNat 2)).toNat) h2z).getD 0 AV.dead) then true else toB ((toT (getV r0)).headD AV.dead)) :: List.drop (0 + [AV.bool (bif toB ((h2e.getD (v1 + (toI (ph u21.toNat 2)).toNat) h2z).getD 0 AV.dead) then true else toB ((toT (getV r0)).headD AV.dead))].length) (h2e.getD (v1 + (toI (ph u21.toNat 2)).toNat) h2z))).getD (v1 + (toI (ph u21.toNat 3)).toNat) h2z).getD 0 AV.dead) then true else toB ((toT (getV r0)).tail.headD AV.dead))].length) ((h2e.set (v1 + (toI (ph u21.toNat 2)).toNat) (AV.bool (bif toB ((h2e.getD (v1 + (toI (ph u21.toNat 2)).toNat) h2z).getD 0 AV.dead) then true else toB ((toT (getV r0)).headD AV.dead)) :: List.drop (0 + [AV.bool (bif toB ((h2e.getD (v1 + (toI (ph u21.toNat 2)).toNat) h2z).getD 0 AV.dead) then true else toB ((toT (getV r0)).headD AV.dead))].length) (h2e.getD (v1 + (toI (ph u21.toNat 2)).toNat) h2z))).getD (v1 + (toI (ph u21.toNat 3)).toNat) h2z)))
  else kx0 (v1) (p4) (qad) (w2) (w3) (w5) (wz) (w4) (wf) (ys) (h2z) (h2e) (h3z) (h3e)
noncomputable def gbars_places_l0 (qb : Mo) (fuel : Nat) (kx0 : Nat → Nat → Nat → Nat → Nat → (Ge) → Nat → Nat → (Ge) → Int → List AV → List (List AV) → List AV → List (List AV) → Option AV) (v1 p4 : Nat) (qad qe1 qe9 : Nat) (ph : Ge) (u20 : Int) (w2 w3 : Nat) (w5 : Ge) (wz w4 : Nat) (wf : Ge) (ys : Int) (h2z h3z : List AV) (h3e : List (List AV)) : Nat → Int → List (List AV) → Option AV
  | 0, _, _ => none
  | n' + 1, u21, h2e => gbars_places_l0_step qb fuel (gbars_places_l0 qb fuel kx0 v1 p4 qad qe1 qe9 ph u20 w2 w3 w5 wz w4 wf ys h2z h3z h3e n') kx0 v1 p4 qad qe1 qe9 ph u20 w2 w3 w5 wz w4 wf ys h2z h3z h3e u21 h2e
noncomputable def Tbars_places_0 : TS' := ⟨[(1, TA.ptr 0 0), (2, TA.ptr 1 0), (3, TA.own 2 1), (19, TA.ro 9), (20, TA.i .i64), (21, TA.i .i64)], [TB.box [TA.ro 4, TA.ro 9], TB.box [TA.lst 3 3, TA.i .i64], TB.fx 1, TB.fl 3], [3]⟩
noncomputable def Fbars_places_0 (qb : Mo) (fuel : Nat) (ps : List Pay) (K : Ex → St → Option AV) : Option AV := match ps with
  | .n v1 :: .n p4 :: .n qad :: .n qe1 :: .n qe9 :: .g ph :: .i u20 :: .i u21 :: .n w2 :: .n w3 :: .g w5 :: .n wz :: .n w4 :: .g wf :: .i ys :: .z h2z :: .e h2e :: .z h3z :: .e h3e :: [] => gbars_places_l0 qb fuel (fun qhc qgz qg0 y2 yy yx y3 yw yu qc6 qjv qkb qkc qjx => K (Ex.exit 0) (Xbars_places_0_0 qhc qgz qg0 y2 yy yx y3 yw yu qc6 qjv qkb qkc qjx)) v1 p4 qad qe1 qe9 ph u20 w2 w3 w5 wz w4 wf ys h2z h3z h3e fuel u21 h2e
  | _ => none
noncomputable def Sbars_places_1 (yz y5 pc : Nat) (ui9 : Int) (qbi qbb : Nat) (qbc : Ge) (qcl qcj : Int) (qco qcm : Int) (qcs u65 : Int) (qaa qab : Nat) (p9 : Ge) (qaf qae : Nat) (qac : Ge) (qbj : Int) (qca : List AV) (qb9 : List (List AV)) (qcq : List AV) (qck : List (List AV)) (qah : Int) (qcn : List AV) (qcp : List (List AV)) (qey : ByteArray) (qen qeu : Int) (qek qex : Int) (qez qe3 : Int) : St := { env := [(2, AV.ptr 1 0), (3, AV.own 2 yz 1 y5 pc), (8, AV.ptr 4 0), (9, AV.int .i64 ui9), (10, AV.ptr 6 0), (11, AV.ptr 7 0), (56, AV.ro 4 qbi qbb qbc), (57, AV.int .i64 qcl), (58, AV.int .i64 qcj), (64, AV.agg [AV.int .u8 qco, AV.int .u8 qcm, AV.int .u8 qcs]), (65, AV.int .i64 u65)], h := [Blk.box [AV.ro 4 qaa qab p9, AV.ro 9 qaf qae qac], Blk.box [AV.lst 3 3, AV.int .i64 qbj], Blk.fx 1 qca qb9, Blk.fl 3 qcq qck, Blk.box [AV.lst 5 3, AV.int .i64 qah], Blk.fl 3 qcn qcp, Blk.box [AV.str qey, AV.int .i32 qen, AV.int .i32 qeu, AV.int .u8 qek], Blk.box [AV.int .i64 qex, AV.int .i64 qez, AV.int .i64 qe3]], kd := [5, 3] }
noncomputable def Xbars_places_1_0 (qgt qgv : Nat) (qgx qjl qjj : Nat) (qjn : Ge) (qjr qkh : Int) (qif qiq : Nat) (qih : Ge) (qin qig : Nat) (qip : Ge) (qja : Int) (qjw : List AV) (qkp : List (List AV)) (qks : List AV) (qj2 : List (List AV)) (qjc : Int) (qj0 : List AV) (qjt : List (List AV)) (qjk : ByteArray) (qjo qjf : Int) (qjd qjh : Int) (qjg qjb : Int) : St := { env := [(2, AV.ptr 1 0), (3, AV.own 2 qgt 1 qgv qgx), (8, AV.ptr 4 0), (11, AV.ptr 7 0), (56, AV.ro 4 qjl qjj qjn), (57, AV.int .i64 qjr), (58, AV.int .i64 qkh)], h := [Blk.box [AV.ro 4 qif qiq qih, AV.ro 9 qin qig qip], Blk.box [AV.lst 3 3, AV.int .i64 qja], Blk.fx 1 qjw qkp, Blk.fl 3 qks qj2, Blk.box [AV.lst 5 3, AV.int .i64 qjc], Blk.fl 3 qj0 qjt, Blk.box [AV.str qjk, AV.int .i32 qjo, AV.int .i32 qjf, AV.int .u8 qjd], Blk.box [AV.int .i64 qjh, AV.int .i64 qjg, AV.int .i64 qjb]], kd := [5, 3] }
noncomputable def gbars_places_l1_step (qb : Mo) (fuel : Nat) (kn : Int → Int → Int → Int → Int → Option AV) (kx0 : Nat → Nat → Nat → Nat → Nat → (Ge) → Int → Int → Nat → Nat → (Ge) → Nat → Nat → (Ge) → Int → List AV → List (List AV) → List AV → List (List AV) → Int → List AV → List (List AV) → ByteArray → Int → Int → Int → Int → Int → Int → Option AV) (yz y5 pc : Nat) (ui9 : Int) (qbi qbb : Nat) (qbc : Ge) (qcl qcj : Int) (qco qcm qcs : Int) (qaa qab : Nat) (p9 : Ge) (qaf qae : Nat) (qac : Ge) (qbj : Int) (qca : List AV) (qb9 : List (List AV)) (qcq : List AV) (qck : List (List AV)) (qcn : List AV) (qcp : List (List AV)) (qey : ByteArray) (qen qeu : Int) (qek u65 : Int) (qah qex : Int) (qez qe3 : Int) : Option AV :=
  bif decide (u65 < 3) then ck (decide (0 ≤ u65)) <| ck (decide (u65 < (↑3 : Int))) <| ck (bif !decide (u65 < 2) then decide (0 ≤ ui9) else true) <| ck (bif !decide (u65 < 2) then decide (ui9 < (↑y5 : Int)) else true) <| ck (bif !decide (u65 < 2) then fitK LK.b ((qb9.getD (yz + ui9.toNat) qca).getD 0 AV.dead) else true) <| bif bif IntKind.u8.wrap (↑(BitVec.ofInt 8 qek &&& BitVec.ofInt 8 (bif (u65.toNat * 1).beq 0 then qco else bif (u65.toNat * 1 - 1).beq 0 then qcm else qcs)).toNat : Int) == 0 then bif decide (u65 < 2) then true else toB ((qb9.getD (yz + ui9.toNat) qca).getD 0 AV.dead) else false then ck (decide (0 ≤ u65)) <| ck (decide (u65 < (↑3 : Int))) <| ck ((0 + u65.toNat * 1 + 1).ble [AV.int .i64 qex, AV.int .i64 qez, AV.int .i64 qe3].length) <| kn (IntKind.i64.wrap (u65 + 1)) (IntKind.i64.wrap (qah + 1)) (bif (0 + u65.toNat * 1).ble 0 && true then qah else qex) (bif (0 + u65.toNat * 1).ble 1 && Nat.blt 1 (0 + u65.toNat * 1 + [AV.int .i64 qah].length) then qah else qez) (bif (0 + u65.toNat * 1).ble 2 && Nat.blt 2 (0 + u65.toNat * 1 + [AV.int .i64 qah].length) then qah else qe3)
    else kn (IntKind.i64.wrap (u65 + 1)) (qah) (qex) (qez) (qe3)
  else kx0 (yz) (y5) (pc) (qbi) (qbb) (qbc) (qcl) (qcj) (qaa) (qab) (p9) (qaf) (qae) (qac) (qbj) (qca) (qb9) (qcq) (qck) (qah) (qcn) (qcp) (qey) (qen) (qeu) (qek) (qex) (qez) (qe3)
noncomputable def gbars_places_l1 (qb : Mo) (fuel : Nat) (kx0 : Nat → Nat → Nat → Nat → Nat → (Ge) → Int → Int → Nat → Nat → (Ge) → Nat → Nat → (Ge) → Int → List AV → List (List AV) → List AV → List (List AV) → Int → List AV → List (List AV) → ByteArray → Int → Int → Int → Int → Int → Int → Option AV) (yz y5 pc : Nat) (ui9 : Int) (qbi qbb : Nat) (qbc : Ge) (qcl qcj : Int) (qco qcm qcs : Int) (qaa qab : Nat) (p9 : Ge) (qaf qae : Nat) (qac : Ge) (qbj : Int) (qca : List AV) (qb9 : List (List AV)) (qcq : List AV) (qck : List (List AV)) (qcn : List AV) (qcp : List (List AV)) (qey : ByteArray) (qen qeu qek : Int) : Nat → Int → Int → Int → Int → Int → Option AV
  | 0, _, _, _, _, _ => none
  | n' + 1, u65, qah, qex, qez, qe3 => gbars_places_l1_step qb fuel (gbars_places_l1 qb fuel kx0 yz y5 pc ui9 qbi qbb qbc qcl qcj qco qcm qcs qaa qab p9 qaf qae qac qbj qca qb9 qcq qck qcn qcp qey qen qeu qek n') kx0 yz y5 pc ui9 qbi qbb qbc qcl qcj qco qcm qcs qaa qab p9 qaf qae qac qbj qca qb9 qcq qck qcn qcp qey qen qeu qek u65 qah qex qez qe3
noncomputable def Tbars_places_1 : TS' := ⟨[(2, TA.ptr 1 0), (3, TA.own 2 1), (8, TA.ptr 4 0), (9, TA.i .i64), (10, TA.ptr 6 0), (11, TA.ptr 7 0), (56, TA.ro 4), (57, TA.i .i64), (58, TA.i .i64), (64, TA.agg [TA.i .u8, TA.i .u8, TA.i .u8]), (65, TA.i .i64)], [TB.box [TA.ro 4, TA.ro 9], TB.box [TA.lst 3 3, TA.i .i64], TB.fx 1, TB.fl 3, TB.box [TA.lst 5 3, TA.i .i64], TB.fl 3, TB.box [TA.s, TA.i .i32, TA.i .i32, TA.i .u8], TB.box [TA.i .i64, TA.i .i64, TA.i .i64]], [5, 3]⟩
noncomputable def Fbars_places_1 (qb : Mo) (fuel : Nat) (ps : List Pay) (K : Ex → St → Option AV) : Option AV := match ps with
  | .n yz :: .n y5 :: .n pc :: .i ui9 :: .n qbi :: .n qbb :: .g qbc :: .i qcl :: .i qcj :: .i qco :: .i qcm :: .i qcs :: .i u65 :: .n qaa :: .n qab :: .g p9 :: .n qaf :: .n qae :: .g qac :: .i qbj :: .z qca :: .e qb9 :: .z qcq :: .e qck :: .i qah :: .z qcn :: .e qcp :: .s qey :: .i qen :: .i qeu :: .i qek :: .i qex :: .i qez :: .i qe3 :: [] => gbars_places_l1 qb fuel (fun qgt qgv qgx qjl qjj qjn qjr qkh qif qiq qih qin qig qip qja qjw qkp qks qj2 qjc qj0 qjt qjk qjo qjf qjd qjh qjg qjb => K (Ex.exit 4) (Xbars_places_1_0 qgt qgv qgx qjl qjj qjn qjr qkh qif qiq qih qin qig qip qja qjw qkp qks qj2 qjc qj0 qjt qjk qjo qjf qjd qjh qjg qjb)) yz y5 pc ui9 qbi qbb qbc qcl qcj qco qcm qcs qaa qab p9 qaf qae qac qbj qca qb9 qcq qck qcn qcp qey qen qeu qek fuel u65 qah qex qez qe3
  | _ => none
noncomputable def Sbars_places_2 (pz py : Nat) (p0 qf8 qge : Nat) (qd9 : Ge) (u57 u58 : Int) (z8 z5 : Nat) (z6 : Ge) (z4 z7 : Nat) (z9 : Ge) (qb1 : Int) (qdf : List AV) (qdb : List (List AV)) (qdj : List AV) (qdc : List (List AV)) (qf3 : Int) (h5z : List AV) (h5e : List (List AV)) : St := { env := [(2, AV.ptr 1 0), (3, AV.own 2 pz 1 py p0), (8, AV.ptr 4 0), (56, AV.ro 4 qf8 qge qd9), (57, AV.int .i64 u57), (58, AV.int .i64 u58)], h := [Blk.box [AV.ro 4 z8 z5 z6, AV.ro 9 z4 z7 z9], Blk.box [AV.lst 3 3, AV.int .i64 qb1], Blk.fx 1 qdf qdb, Blk.fl 3 qdj qdc, Blk.box [AV.lst 5 3, AV.int .i64 qf3], Blk.fl 3 h5z h5e], kd := [5, 3] }
noncomputable def Xbars_places_2_0 (qh9 qib : Nat) (qh7 : Ge) (qii qij : Nat) (qie : Ge) (qjp : Int) (qj6 : List AV) (qj1 : List (List AV)) (qkl : List AV) (qj3 : List (List AV)) (qje : Int) (qke : List AV) (qkj : List (List AV)) : St := { env := [(2, AV.ptr 1 0), (8, AV.ptr 4 0)], h := [Blk.box [AV.ro 4 qh9 qib qh7, AV.ro 9 qii qij qie], Blk.box [AV.lst 3 3, AV.int .i64 qjp], Blk.fx 1 qj6 qj1, Blk.fl 3 qkl qj3, Blk.box [AV.lst 5 3, AV.int .i64 qje], Blk.fl 3 qke qkj], kd := [5, 3] }
noncomputable def gbars_places_l2_step (qb : Mo) (fuel : Nat) (kn : Nat → Nat → Nat → Nat → Nat → (Ge) → Int → Int → Nat → Nat → (Ge) → Nat → Nat → (Ge) → Int → List AV → List (List AV) → List AV → List (List AV) → Int → List AV → List (List AV) → Option AV) (kx0 : Nat → Nat → (Ge) → Nat → Nat → (Ge) → Int → List AV → List (List AV) → List AV → List (List AV) → Int → List AV → List (List AV) → Option AV) (pz py : Nat) (p0 qf8 qge : Nat) (qd9 : Ge) (u57 u58 : Int) (z8 z5 : Nat) (z6 : Ge) (z4 z7 : Nat) (z9 : Ge) (qb1 : Int) (qdf : List AV) (qdb : List (List AV)) (qdj : List AV) (qdc : List (List AV)) (qf3 : Int) (h5z : List AV) (h5e : List (List AV)) : Option AV :=
  bif decide (u58 < u57) then ck (decide (0 ≤ u58)) <| ck (decide (u58 < (↑qf8 : Int))) <| ck (fitKs [LK.s, LK.i .i32, LK.i .i32, LK.i .u8] [qd9 u58.toNat 0, qd9 u58.toNat 1, qd9 u58.toNat 2, qd9 u58.toNat 3]) <| gbars_places_l1 qb fuel
      (fun (qjy qj4 : Nat) (qka qir qil : Nat) (qic : Ge) (qkt qkd : Int) (yb qld : Nat) (qlj : Ge) (qlg qle : Nat) (qll : Ge) (qce : Int) (qlo : List AV) (qln : List (List AV)) (qid : List AV) (qh3 : List (List AV)) (qff : Int) (qht : List AV) (qgs : List (List AV)) (_ : ByteArray) (_ _ : Int) (_ qim : Int) (qio qh8 : Int) => ck (decide ((qgs.length + 1) * 24 < 70368744177664)) <| ck (decide (qgs.length + 1 < 4611686018427387904)) <| kn (qjy) (qj4) (qka) (qir) (qil) (qic) (qkt) (IntKind.i64.wrap (qkd + 1)) (yb) (qld) (qlj) (qlg) (qle) (qll) (qce) (qlo) (qln) (qid) (qh3) (qff) (qht) (qgs ++ [[AV.int .i64 qim, AV.int .i64 qio, AV.int .i64 qh8]]))
      (pz)
      (py)
      (p0)
      (u58)
      (qf8)
      (qge)
      (qd9)
      (u57)
      (u58)
      (1)
      (2)
      (4)
      (z8)
      (z5)
      (z6)
      (z4)
      (z7)
      (z9)
      (qb1)
      (qdf)
      (qdb)
      (qdj)
      (qdc)
      (h5z)
      (h5e)
      (toS (qd9 u58.toNat 0))
      (toI (qd9 u58.toNat 1))
      (toI (qd9 u58.toNat 2))
      (toI (qd9 u58.toNat 3)) fuel (0) (qf3) ((-1)) ((-1)) ((-1))
  else kx0 (z8) (z5) (z6) (z4) (z7) (z9) (qb1) (qdf) (qdb) (qdj) (qdc) (qf3) (h5z) (h5e)
noncomputable def gbars_places_l2 (qb : Mo) (fuel : Nat) (kx0 : Nat → Nat → (Ge) → Nat → Nat → (Ge) → Int → List AV → List (List AV) → List AV → List (List AV) → Int → List AV → List (List AV) → Option AV) : Nat → Nat → Nat → Nat → Nat → Nat → (Ge) → Int → Int → Nat → Nat → (Ge) → Nat → Nat → (Ge) → Int → List AV → List (List AV) → List AV → List (List AV) → Int → List AV → List (List AV) → Option AV
  | 0, _, _, _, _, _, _, _, _, _, _, _, _, _, _, _, _, _, _, _, _, _, _ => none
  | n' + 1, pz, py, p0, qf8, qge, qd9, u57, u58, z8, z5, z6, z4, z7, z9, qb1, qdf, qdb, qdj, qdc, qf3, h5z, h5e => gbars_places_l2_step qb fuel (gbars_places_l2 qb fuel kx0 n') kx0 pz py p0 qf8 qge qd9 u57 u58 z8 z5 z6 z4 z7 z9 qb1 qdf qdb qdj qdc qf3 h5z h5e
noncomputable def Tbars_places_2 : TS' := ⟨[(2, TA.ptr 1 0), (3, TA.own 2 1), (8, TA.ptr 4 0), (56, TA.ro 4), (57, TA.i .i64), (58, TA.i .i64)], [TB.box [TA.ro 4, TA.ro 9], TB.box [TA.lst 3 3, TA.i .i64], TB.fx 1, TB.fl 3, TB.box [TA.lst 5 3, TA.i .i64], TB.fl 3], [5, 3]⟩
noncomputable def Fbars_places_2 (qb : Mo) (fuel : Nat) (ps : List Pay) (K : Ex → St → Option AV) : Option AV := match ps with
  | .n pz :: .n py :: .n p0 :: .n qf8 :: .n qge :: .g qd9 :: .i u57 :: .i u58 :: .n z8 :: .n z5 :: .g z6 :: .n z4 :: .n z7 :: .g z9 :: .i qb1 :: .z qdf :: .e qdb :: .z qdj :: .e qdc :: .i qf3 :: .z h5z :: .e h5e :: [] => gbars_places_l2 qb fuel (fun qh9 qib qh7 qii qij qie qjp qj6 qj1 qkl qj3 qje qke qkj => K (Ex.exit 2) (Xbars_places_2_0 qh9 qib qh7 qii qij qie qjp qj6 qj1 qkl qj3 qje qke qkj)) fuel pz py p0 qf8 qge qd9 u57 u58 z8 z5 z6 z4 z7 z9 qb1 qdf qdb qdj qdc qf3 h5z h5e
  | _ => none
noncomputable def Lbars_places (qb : Mo) (fuel : Nat) : Lam AV := [(36028797016867040, lam Tbars_places_0 (Fbars_places_0 qb fuel)), (9903520277389554051773902848, lam Tbars_places_1 (Fbars_places_1 qb fuel)), (1267650600227941171120551509504, lam Tbars_places_2 (Fbars_places_2 qb fuel))]
noncomputable def Gbars_places (qb : Mo) : Gam := [(36, smM [RS.one LK.b, RS.one LK.b] qb)]
noncomputable def Cbars_places (qb : Mo) (fuel : Nat) : CallI AV := callX (Gbars_places qb) (execFn Pr (Gbars_places qb) [((6, 48), Lbars_places qb fuel)] fuel 6)
theorem gbars_places_l0_eq (qb : Mo) (fuel : Nat) (kn : St → Option AV) (K : Ex → St → Option AV) (v1 p4 : Nat) (qad qe1 qe9 : Nat) (ph : Ge) (u20 : Int) (w2 w3 : Nat) (w5 : Ge) (wz w4 : Nat) (wf : Ge) (ys : Int) (h2z h3z : List AV) (h3e : List (List AV)) (qhu : Int) (qk1 : List (List AV)) (u21 : Int) (h2e : List (List AV)) :
    exec Pr (Gbars_places qb) (Lbars_places qb fuel) (fnNt Pr 48) fuel (Cbars_places qb fuel) (lp Pr 48 0).1 (lp Pr 48 0).2 (live (lp Pr 48 0).1 (lp Pr 48 0).2 0) (Sbars_places_0 v1 p4 qad qe1 qe9 ph u20 u21 w2 w3 w5 wz w4 wf ys h2z h2e h3z h3e) (fun e s => match e with | .normal => kn (headN (live (lp Pr 48 0).1 (lp Pr 48 0).2 0) (writes (lp Pr 48 0).1) (Sbars_places_0 v1 p4 qad qe1 qe9 ph u20 qhu w2 w3 w5 wz w4 wf ys h2z qk1 h3z h3e) s) | e => K e s) =
    gbars_places_l0_step qb fuel (fun u21 h2e => kn (Sbars_places_0 v1 p4 qad qe1 qe9 ph u20 u21 w2 w3 w5 wz w4 wf ys h2z h2e h3z h3e)) (fun qbr qbo qbp zk zl zm zo zn zp pa qga qft qd6 qc3 => K (Ex.exit 0) (Xbars_places_0_0 qbr qbo qbp zk zl zm zo zn zp pa qga qft qd6 qc3)) v1 p4 qad qe1 qe9 ph u20 w2 w3 w5 wz w4 wf ys h2z h3z h3e u21 h2e := by kernel_rfl
theorem gbars_places_l0_ok (qb : Mo) (fuel : Nat) (K : Ex → St → Option AV) (v1 p4 : Nat) (qad qe1 qe9 : Nat) (ph : Ge) (u20 : Int) (w2 w3 : Nat) (w5 : Ge) (wz w4 : Nat) (wf : Ge) (ys : Int) (h2z h3z : List AV) (h3e : List (List AV)) (qhu : Int) (qk1 : List (List AV)) : ∀ (n' : Nat) (u21 : Int) (h2e : List (List AV)),
    loopK (exec Pr (Gbars_places qb) (Lbars_places qb fuel) (fnNt Pr 48) fuel (Cbars_places qb fuel) (lp Pr 48 0).1 (lp Pr 48 0).2 (live (lp Pr 48 0).1 (lp Pr 48 0).2 0)) (headN (live (lp Pr 48 0).1 (lp Pr 48 0).2 0) (writes (lp Pr 48 0).1) (Sbars_places_0 v1 p4 qad qe1 qe9 ph u20 qhu w2 w3 w5 wz w4 wf ys h2z qk1 h3z h3e)) n' (Sbars_places_0 v1 p4 qad qe1 qe9 ph u20 u21 w2 w3 w5 wz w4 wf ys h2z h2e h3z h3e) K = gbars_places_l0 qb fuel (fun qbr qbo qbp zk zl zm zo zn zp pa qga qft qd6 qc3 => K (Ex.exit 0) (Xbars_places_0_0 qbr qbo qbp zk zl zm zo zn zp pa qga qft qd6 qc3)) v1 p4 qad qe1 qe9 ph u20 w2 w3 w5 wz w4 wf ys h2z h3z h3e n' u21 h2e
  | 0, _, _ => rfl
  | n' + 1, u21, h2e => (gbars_places_l0_eq qb fuel (fun s => loopK (exec Pr (Gbars_places qb) (Lbars_places qb fuel) (fnNt Pr 48) fuel (Cbars_places qb fuel) (lp Pr 48 0).1 (lp Pr 48 0).2 (live (lp Pr 48 0).1 (lp Pr 48 0).2 0)) (headN (live (lp Pr 48 0).1 (lp Pr 48 0).2 0) (writes (lp Pr 48 0).1) (Sbars_places_0 v1 p4 qad qe1 qe9 ph u20 qhu w2 w3 w5 wz w4 wf ys h2z qk1 h3z h3e)) n' s K) K v1 p4 qad qe1 qe9 ph u20 w2 w3 w5 wz w4 wf ys h2z h3z h3e qhu qk1 u21 h2e).trans
    (congrArg (fun kn => gbars_places_l0_step qb fuel kn (fun qbr qbo qbp zk zl zm zo zn zp pa qga qft qd6 qc3 => K (Ex.exit 0) (Xbars_places_0_0 qbr qbo qbp zk zl zm zo zn zp pa qga qft qd6 qc3)) v1 p4 qad qe1 qe9 ph u20 w2 w3 w5 wz w4 wf ys h2z h3z h3e u21 h2e) (funext fun _ => funext fun _ => gbars_places_l0_ok qb fuel K v1 p4 qad qe1 qe9 ph u20 w2 w3 w5 wz w4 wf ys h2z h3z h3e qhu qk1 n' _ _))
theorem gbars_places_L0 (qb : Mo) (fuel : Nat) : LOk Pr (Gbars_places qb) (Lbars_places qb fuel) (fnNt Pr 48) fuel (Cbars_places qb fuel) (lp Pr 48 0) := by
  refine .of Tbars_places_0 (Fbars_places_0 qb fuel) (fun L h => ?_) (fun ps st K r he hr => ?_)
  · have e : (Lbars_places qb fuel).get (writes (lp Pr 48 0).1) = some (lam Tbars_places_0 (Fbars_places_0 qb fuel)) := by kernel_rfl
    exact (Option.some.inj (e.symm.trans h)).symm
  · unfold Fbars_places_0 at hr
    split at hr
    · obtain rfl := (Option.some.inj he).symm
      exact (gbars_places_l0_ok qb fuel K _ _ _ _ _ _ _ _ _ _ _ _ _ _ _ _ _ _ _ fuel _ _).trans hr
    · cases hr
theorem gbars_places_l1_eq (qb : Mo) (fuel : Nat) (kn : St → Option AV) (K : Ex → St → Option AV) (yz y5 pc : Nat) (ui9 : Int) (qbi qbb : Nat) (qbc : Ge) (qcl qcj : Int) (qco qcm qcs : Int) (qaa qab : Nat) (p9 : Ge) (qaf qae : Nat) (qac : Ge) (qbj : Int) (qca : List AV) (qb9 : List (List AV)) (qcq : List AV) (qck : List (List AV)) (qcn : List AV) (qcp : List (List AV)) (qey : ByteArray) (qen qeu : Int) (qek qla : Int) (qgi qiw : Int) (qi0 qi7 : Int) (u65 qah : Int) (qex qez qe3 : Int) :
    exec Pr (Gbars_places qb) (Lbars_places qb fuel) (fnNt Pr 48) fuel (Cbars_places qb fuel) (lp Pr 48 2).1 (lp Pr 48 2).2 (live (lp Pr 48 2).1 (lp Pr 48 2).2 0) (Sbars_places_1 yz y5 pc ui9 qbi qbb qbc qcl qcj qco qcm qcs u65 qaa qab p9 qaf qae qac qbj qca qb9 qcq qck qah qcn qcp qey qen qeu qek qex qez qe3) (fun e s => match e with | .normal => kn (headN (live (lp Pr 48 2).1 (lp Pr 48 2).2 0) (writes (lp Pr 48 2).1) (Sbars_places_1 yz y5 pc ui9 qbi qbb qbc qcl qcj qco qcm qcs qla qaa qab p9 qaf qae qac qbj qca qb9 qcq qck qgi qcn qcp qey qen qeu qek qiw qi0 qi7) s) | e => K e s) =
    gbars_places_l1_step qb fuel (fun u65 qah qex qez qe3 => kn (Sbars_places_1 yz y5 pc ui9 qbi qbb qbc qcl qcj qco qcm qcs u65 qaa qab p9 qaf qae qac qbj qca qb9 qcq qck qah qcn qcp qey qen qeu qek qex qez qe3)) (fun qbr qbo qbp qir qil qic qkt qkd zk zl zm zo zn zp pa qga qft qd6 qc3 qff qht qgs xh6_0 xh6_1 xh6_2 xh6_3 qim qio qh8 => K (Ex.exit 4) (Xbars_places_1_0 qbr qbo qbp qir qil qic qkt qkd zk zl zm zo zn zp pa qga qft qd6 qc3 qff qht qgs xh6_0 xh6_1 xh6_2 xh6_3 qim qio qh8)) yz y5 pc ui9 qbi qbb qbc qcl qcj qco qcm qcs qaa qab p9 qaf qae qac qbj qca qb9 qcq qck qcn qcp qey qen qeu qek u65 qah qex qez qe3 := by kernel_rfl
theorem gbars_places_l1_ok (qb : Mo) (fuel : Nat) (K : Ex → St → Option AV) (yz y5 pc : Nat) (ui9 : Int) (qbi qbb : Nat) (qbc : Ge) (qcl qcj : Int) (qco qcm qcs : Int) (qaa qab : Nat) (p9 : Ge) (qaf qae : Nat) (qac : Ge) (qbj : Int) (qca : List AV) (qb9 : List (List AV)) (qcq : List AV) (qck : List (List AV)) (qcn : List AV) (qcp : List (List AV)) (qey : ByteArray) (qen qeu : Int) (qek qla : Int) (qgi qiw : Int) (qi0 qi7 : Int) : ∀ (n' : Nat) (u65 qah : Int) (qex qez qe3 : Int),
    loopK (exec Pr (Gbars_places qb) (Lbars_places qb fuel) (fnNt Pr 48) fuel (Cbars_places qb fuel) (lp Pr 48 2).1 (lp Pr 48 2).2 (live (lp Pr 48 2).1 (lp Pr 48 2).2 0)) (headN (live (lp Pr 48 2).1 (lp Pr 48 2).2 0) (writes (lp Pr 48 2).1) (Sbars_places_1 yz y5 pc ui9 qbi qbb qbc qcl qcj qco qcm qcs qla qaa qab p9 qaf qae qac qbj qca qb9 qcq qck qgi qcn qcp qey qen qeu qek qiw qi0 qi7)) n' (Sbars_places_1 yz y5 pc ui9 qbi qbb qbc qcl qcj qco qcm qcs u65 qaa qab p9 qaf qae qac qbj qca qb9 qcq qck qah qcn qcp qey qen qeu qek qex qez qe3) K = gbars_places_l1 qb fuel (fun qbr qbo qbp qir qil qic qkt qkd zk zl zm zo zn zp pa qga qft qd6 qc3 qff qht qgs xh6_0 xh6_1 xh6_2 xh6_3 qim qio qh8 => K (Ex.exit 4) (Xbars_places_1_0 qbr qbo qbp qir qil qic qkt qkd zk zl zm zo zn zp pa qga qft qd6 qc3 qff qht qgs xh6_0 xh6_1 xh6_2 xh6_3 qim qio qh8)) yz y5 pc ui9 qbi qbb qbc qcl qcj qco qcm qcs qaa qab p9 qaf qae qac qbj qca qb9 qcq qck qcn qcp qey qen qeu qek n' u65 qah qex qez qe3
  | 0, _, _, _, _, _ => rfl
  | n' + 1, u65, qah, qex, qez, qe3 => (gbars_places_l1_eq qb fuel (fun s => loopK (exec Pr (Gbars_places qb) (Lbars_places qb fuel) (fnNt Pr 48) fuel (Cbars_places qb fuel) (lp Pr 48 2).1 (lp Pr 48 2).2 (live (lp Pr 48 2).1 (lp Pr 48 2).2 0)) (headN (live (lp Pr 48 2).1 (lp Pr 48 2).2 0) (writes (lp Pr 48 2).1) (Sbars_places_1 yz y5 pc ui9 qbi qbb qbc qcl qcj qco qcm qcs qla qaa qab p9 qaf qae qac qbj qca qb9 qcq qck qgi qcn qcp qey qen qeu qek qiw qi0 qi7)) n' s K) K yz y5 pc ui9 qbi qbb qbc qcl qcj qco qcm qcs qaa qab p9 qaf qae qac qbj qca qb9 qcq qck qcn qcp qey qen qeu qek qla qgi qiw qi0 qi7 u65 qah qex qez qe3).trans
    (congrArg (fun kn => gbars_places_l1_step qb fuel kn (fun qbr qbo qbp qir qil qic qkt qkd zk zl zm zo zn zp pa qga qft qd6 qc3 qff qht qgs xh6_0 xh6_1 xh6_2 xh6_3 qim qio qh8 => K (Ex.exit 4) (Xbars_places_1_0 qbr qbo qbp qir qil qic qkt qkd zk zl zm zo zn zp pa qga qft qd6 qc3 qff qht qgs xh6_0 xh6_1 xh6_2 xh6_3 qim qio qh8)) yz y5 pc ui9 qbi qbb qbc qcl qcj qco qcm qcs qaa qab p9 qaf qae qac qbj qca qb9 qcq qck qcn qcp qey qen qeu qek u65 qah qex qez qe3) (funext fun _ => funext fun _ => funext fun _ => funext fun _ => funext fun _ => gbars_places_l1_ok qb fuel K yz y5 pc ui9 qbi qbb qbc qcl qcj qco qcm qcs qaa qab p9 qaf qae qac qbj qca qb9 qcq qck qcn qcp qey qen qeu qek qla qgi qiw qi0 qi7 n' _ _ _ _ _))
theorem gbars_places_L1 (qb : Mo) (fuel : Nat) : LOk Pr (Gbars_places qb) (Lbars_places qb fuel) (fnNt Pr 48) fuel (Cbars_places qb fuel) (lp Pr 48 2) := by
  refine .of Tbars_places_1 (Fbars_places_1 qb fuel) (fun L h => ?_) (fun ps st K r he hr => ?_)
  · have e : (Lbars_places qb fuel).get (writes (lp Pr 48 2).1) = some (lam Tbars_places_1 (Fbars_places_1 qb fuel)) := by kernel_rfl
    exact (Option.some.inj (e.symm.trans h)).symm
  · unfold Fbars_places_1 at hr
    split at hr
    · obtain rfl := (Option.some.inj he).symm
      exact (gbars_places_l1_ok qb fuel K _ _ _ _ _ _ _ _ _ _ _ _ _ _ _ _ _ _ _ _ _ _ _ _ _ _ _ _ _ _ _ _ _ _ fuel _ _ _ _ _).trans hr
    · cases hr
theorem gbars_places_l2_eq (qb : Mo) (fuel : Nat) (kn : St → Option AV) (K : Ex → St → Option AV) (qdq qdx : Nat) (qdu qi2 qiy : Nat) (qis : Ge) (qk3 qlc : Int) (qfn qfo : Nat) (qfc : Ge) (qfm qfd : Nat) (qfe : Ge) (qgl : Int) (qhs : List AV) (qhp : List (List AV)) (qhy : List AV) (qhx : List (List AV)) (qi3 : Int) (qlb : List AV) (qk8 : List (List AV)) (pz py : Nat) (p0 qf8 qge : Nat) (qd9 : Ge) (u57 u58 : Int) (z8 z5 : Nat) (z6 : Ge) (z4 z7 : Nat) (z9 : Ge) (qb1 : Int) (qdf : List AV) (qdb : List (List AV)) (qdj : List AV) (qdc : List (List AV)) (qf3 : Int) (h5z : List AV) (h5e : List (List AV)) :
    exec Pr (Gbars_places qb) (Lbars_places qb fuel) (fnNt Pr 48) fuel (Cbars_places qb fuel) (lp Pr 48 1).1 (lp Pr 48 1).2 (live (lp Pr 48 1).1 (lp Pr 48 1).2 0) (Sbars_places_2 pz py p0 qf8 qge qd9 u57 u58 z8 z5 z6 z4 z7 z9 qb1 qdf qdb qdj qdc qf3 h5z h5e) (fun e s => match e with | .normal => kn (headN (live (lp Pr 48 1).1 (lp Pr 48 1).2 0) (writes (lp Pr 48 1).1) (Sbars_places_2 qdq qdx qdu qi2 qiy qis qk3 qlc qfn qfo qfc qfm qfd qfe qgl qhs qhp qhy qhx qi3 qlb qk8) s) | e => K e s) =
    gbars_places_l2_step qb fuel (fun pz py p0 qf8 qge qd9 u57 u58 z8 z5 z6 z4 z7 z9 qb1 qdf qdb qdj qdc qf3 h5z h5e => kn (Sbars_places_2 pz py p0 qf8 qge qd9 u57 u58 z8 z5 z6 z4 z7 z9 qb1 qdf qdb qdj qdc qf3 h5z h5e)) (fun zk zl zm zo zn zp pa qga qft qd6 qc3 qff qht qgs => K (Ex.exit 2) (Xbars_places_2_0 zk zl zm zo zn zp pa qga qft qd6 qc3 qff qht qgs)) pz py p0 qf8 qge qd9 u57 u58 z8 z5 z6 z4 z7 z9 qb1 qdf qdb qdj qdc qf3 h5z h5e := by kernel_rfl
theorem gbars_places_l2_ok (qb : Mo) (fuel : Nat) (K : Ex → St → Option AV) (qdq qdx : Nat) (qdu qi2 qiy : Nat) (qis : Ge) (qk3 qlc : Int) (qfn qfo : Nat) (qfc : Ge) (qfm qfd : Nat) (qfe : Ge) (qgl : Int) (qhs : List AV) (qhp : List (List AV)) (qhy : List AV) (qhx : List (List AV)) (qi3 : Int) (qlb : List AV) (qk8 : List (List AV)) : ∀ (n' pz : Nat) (py p0 : Nat) (qf8 qge : Nat) (qd9 : Ge) (u57 u58 : Int) (z8 z5 : Nat) (z6 : Ge) (z4 z7 : Nat) (z9 : Ge) (qb1 : Int) (qdf : List AV) (qdb : List (List AV)) (qdj : List AV) (qdc : List (List AV)) (qf3 : Int) (h5z : List AV) (h5e : List (List AV)),
    loopK (exec Pr (Gbars_places qb) (Lbars_places qb fuel) (fnNt Pr 48) fuel (Cbars_places qb fuel) (lp Pr 48 1).1 (lp Pr 48 1).2 (live (lp Pr 48 1).1 (lp Pr 48 1).2 0)) (headN (live (lp Pr 48 1).1 (lp Pr 48 1).2 0) (writes (lp Pr 48 1).1) (Sbars_places_2 qdq qdx qdu qi2 qiy qis qk3 qlc qfn qfo qfc qfm qfd qfe qgl qhs qhp qhy qhx qi3 qlb qk8)) n' (Sbars_places_2 pz py p0 qf8 qge qd9 u57 u58 z8 z5 z6 z4 z7 z9 qb1 qdf qdb qdj qdc qf3 h5z h5e) K = gbars_places_l2 qb fuel (fun zk zl zm zo zn zp pa qga qft qd6 qc3 qff qht qgs => K (Ex.exit 2) (Xbars_places_2_0 zk zl zm zo zn zp pa qga qft qd6 qc3 qff qht qgs)) n' pz py p0 qf8 qge qd9 u57 u58 z8 z5 z6 z4 z7 z9 qb1 qdf qdb qdj qdc qf3 h5z h5e
  | 0, _, _, _, _, _, _, _, _, _, _, _, _, _, _, _, _, _, _, _, _, _, _ => rfl
  | n' + 1, pz, py, p0, qf8, qge, qd9, u57, u58, z8, z5, z6, z4, z7, z9, qb1, qdf, qdb, qdj, qdc, qf3, h5z, h5e => (gbars_places_l2_eq qb fuel (fun s => loopK (exec Pr (Gbars_places qb) (Lbars_places qb fuel) (fnNt Pr 48) fuel (Cbars_places qb fuel) (lp Pr 48 1).1 (lp Pr 48 1).2 (live (lp Pr 48 1).1 (lp Pr 48 1).2 0)) (headN (live (lp Pr 48 1).1 (lp Pr 48 1).2 0) (writes (lp Pr 48 1).1) (Sbars_places_2 qdq qdx qdu qi2 qiy qis qk3 qlc qfn qfo qfc qfm qfd qfe qgl qhs qhp qhy qhx qi3 qlb qk8)) n' s K) K qdq qdx qdu qi2 qiy qis qk3 qlc qfn qfo qfc qfm qfd qfe qgl qhs qhp qhy qhx qi3 qlb qk8 pz py p0 qf8 qge qd9 u57 u58 z8 z5 z6 z4 z7 z9 qb1 qdf qdb qdj qdc qf3 h5z h5e).trans
    (congrArg (fun kn => gbars_places_l2_step qb fuel kn (fun zk zl zm zo zn zp pa qga qft qd6 qc3 qff qht qgs => K (Ex.exit 2) (Xbars_places_2_0 zk zl zm zo zn zp pa qga qft qd6 qc3 qff qht qgs)) pz py p0 qf8 qge qd9 u57 u58 z8 z5 z6 z4 z7 z9 qb1 qdf qdb qdj qdc qf3 h5z h5e) (funext fun _ => funext fun _ => funext fun _ => funext fun _ => funext fun _ => funext fun _ => funext fun _ => funext fun _ => funext fun _ => funext fun _ => funext fun _ => funext fun _ => funext fun _ => funext fun _ => funext fun _ => funext fun _ => funext fun _ => funext fun _ => funext fun _ => funext fun _ => funext fun _ => funext fun _ => gbars_places_l2_ok qb fuel K qdq qdx qdu qi2 qiy qis qk3 qlc qfn qfo qfc qfm qfd qfe qgl qhs qhp qhy qhx qi3 qlb qk8 n' _ _ _ _ _ _ _ _ _ _ _ _ _ _ _ _ _ _ _ _ _ _))
theorem gbars_places_L2 (qb : Mo) (fuel : Nat) : LOk Pr (Gbars_places qb) (Lbars_places qb fuel) (fnNt Pr 48) fuel (Cbars_places qb fuel) (lp Pr 48 1) := by
  refine .of Tbars_places_2 (Fbars_places_2 qb fuel) (fun L h => ?_) (fun ps st K r he hr => ?_)
  · have e : (Lbars_places qb fuel).get (writes (lp Pr 48 1).1) = some (lam Tbars_places_2 (Fbars_places_2 qb fuel)) := by kernel_rfl
    exact (Option.some.inj (e.symm.trans h)).symm
  · unfold Fbars_places_2 at hr
    split at hr
    · obtain rfl := (Option.some.inj he).symm
      exact (gbars_places_l2_ok qb fuel K _ _ _ _ _ _ _ _ _ _ _ _ _ _ _ _ _ _ _ _ _ _ fuel _ _ _ _ _ _ _ _ _ _ _ _ _ _ _ _ _ _ _ _ _ _).trans hr
    · cases hr
noncomputable def gbars_places (qb : Mo) (fuel zi z1 : Nat) (wq : Ge) (zv zy : Nat) (w1 : Ge) : Option AV :=
  ck (decide (0 ≤ (↑zi : Int))) <| ck (decide ((↑zi : Int) ≤ (↑zi : Int))) <| ck ((1 * (↑zi : Int).toNat).ble 281474976710656) <| ck (((↑zi : Int).toNat + 1).ble 4611686018427387904) <| gbars_places_l0 qb fuel
    (fun (qbr qbo : Nat) (qbp zk zl : Nat) (zm : Ge) (zo zn : Nat) (zp : Ge) (pa : Int) (qga : List AV) (qft : List (List AV)) (qd6 : List AV) (qc3 : List (List AV)) => gbars_places_l2 qb fuel
        (fun (_ _ : Nat) (_ : Ge) (_ _ : Nat) (_ : Ge) (_ : Int) (_ : List AV) (_ : List (List AV)) (_ : List AV) (_ : List (List AV)) (qlm : Int) (qlp : List AV) (qkg : List (List AV)) => some (AV.agg [AV.ro 3 qkg.length qkg.length fun (i j : Nat) => (qkg.getD i qlp).getD j AV.dead, AV.int .i64 qlm])) fuel (qbr) (qbo) (qbp) (zk) (zl) (zm) ((↑zk : Int)) (0) (zk) (zl) (zm) (zo) (zn) (zp) (pa) (qga) (qft) (qd6) (qc3) (0) ([AV.int .i64 0, AV.int .i64 0, AV.int .i64 0]) ([]))
    (0)
    ((↑zi : Int).toNat)
    ((↑zi : Int).toNat)
    (zv)
    (zy)
    (w1)
    ((↑zv : Int))
    (zi)
    (z1)
    (wq)
    (zv)
    (zy)
    (w1)
    (0)
    ([AV.bool false])
    ([AV.int .i64 0, AV.int .i64 0, AV.int .i64 0])
    ([]) fuel (0) (List.replicate (↑zi : Int).toNat [AV.bool false])
theorem gbars_places_run (qb : Mo) (fuel zi z1 : Nat) (wq : Ge) (zv zy : Nat) (w1 : Ge) : run Pr (Gbars_places qb) [((6, 48), Lbars_places qb fuel)] fuel 7 48 [AV.agg [AV.ro 4 zi z1 wq, AV.ro 9 zv zy w1]] = gbars_places qb fuel zi z1 wq zv zy w1 := by kernel_rfl
noncomputable def mbars_places (qb : Mo) (fuel : Nat) (xs : List AV) : Option AV := match xs with
  | [AV.agg [AV.ro 4 zi z1 wq, AV.ro 9 zv zy w1]] => gbars_places qb fuel zi z1 wq zv zy w1
  | _ => none
abbrev Rbars_places : List RS := [RS.agg [LK.l (nat_lit 3), LK.i .i64]]
theorem gbars_places_sm (qb : Mo) (fuel : Nat) (hΓ : GamOk Pr (Gbars_places qb)) (hP : NamesOk Pr) : SmOk Pr 48 (smM Rbars_places (mbars_places qb fuel)) := by
  refine smM_ok (fuel := fuel) hΓ hP (LamOk.of 6 48 (Lbars_places qb fuel) 3 (by kernel_rfl) (fun i hi => ?_)) 7 48 Rbars_places _ (fun xs v h => ?_)
  · match i, hi with
    | 0, _ => exact gbars_places_L0 qb fuel
    | 2, _ => exact gbars_places_L1 qb fuel
    | 1, _ => exact gbars_places_L2 qb fuel
    | i + 3, hi => exact absurd hi (by omega)
  · unfold mbars_places at h
    split at h
    · exact (gbars_places_run qb fuel _ _ _ _ _ _).trans h
    · cases h
noncomputable def Lbars_Unknowns (qi yi : Mo) (fuel : Nat) : Lam AV := []
noncomputable def Gbars_Unknowns (qi yi : Mo) : Gam := [(12, smM [RS.one (LK.i .i64), RS.one (LK.i .i64)] qi), (48, smM [RS.agg [LK.l (nat_lit 3), LK.i .i64]] yi)]
noncomputable def Cbars_Unknowns (qi yi : Mo) (fuel : Nat) : CallI AV := callX (Gbars_Unknowns qi yi) (execFn Pr (Gbars_Unknowns qi yi) [((6, 25), Lbars_Unknowns qi yi fuel)] fuel 6)
noncomputable def gbars_Unknowns (qi yi : Mo) (fuel zi z1 : Nat) (wq : Ge) (zv zy : Nat) (w1 : Ge) : Option AV :=
  let r0 : Option AV := qi [AV.agg [AV.ro 4 zi z1 wq, AV.ro 9 zv zy w1]]; ck (okM [RS.one (LK.i .i64), RS.one (LK.i .i64)] r0) <| bif toI ((toT (getV r0)).headD AV.dead) != 0 then some (AV.tup [AV.agg [AV.ro 3 0 0 fun (x j : Nat) => [AV.int .i64 0, AV.int .i64 0, AV.int .i64 0].getD j AV.dead, AV.int .i64 0], AV.int .i64 (toI ((toT (getV r0)).headD AV.dead))])
  else let r1 : Option AV := yi [AV.agg [AV.ro 4 zi z1 wq, AV.ro 9 zv zy w1]]; ck (okM [RS.agg [LK.l 3, LK.i .i64]] r1) <| some (AV.tup [AV.agg [AV.ro 3 (toN ((toC (getV r1)).headD AV.dead)) (toR ((toC (getV r1)).headD AV.dead)) (toG ((toC (getV r1)).headD AV.dead)), AV.int .i64 (toI ((toC (getV r1)).tail.headD AV.dead))], AV.int .i64 0])
theorem gbars_Unknowns_run (qi yi : Mo) (fuel zi z1 : Nat) (wq : Ge) (zv zy : Nat) (w1 : Ge) : run Pr (Gbars_Unknowns qi yi) [((6, 25), Lbars_Unknowns qi yi fuel)] fuel 7 25 [AV.agg [AV.ro 4 zi z1 wq, AV.ro 9 zv zy w1]] = gbars_Unknowns qi yi fuel zi z1 wq zv zy w1 := by kernel_rfl
noncomputable def mbars_Unknowns (qi yi : Mo) (fuel : Nat) (xs : List AV) : Option AV := match xs with
  | [AV.agg [AV.ro 4 zi z1 wq, AV.ro 9 zv zy w1]] => gbars_Unknowns qi yi fuel zi z1 wq zv zy w1
  | _ => none
abbrev Rbars_Unknowns : List RS := [RS.agg [LK.l (nat_lit 3), LK.i .i64], RS.one (LK.i .i64)]
theorem gbars_Unknowns_sm (qi yi : Mo) (fuel : Nat) (hΓ : GamOk Pr (Gbars_Unknowns qi yi)) (hP : NamesOk Pr) : SmOk Pr 25 (smM Rbars_Unknowns (mbars_Unknowns qi yi fuel)) := by
  refine smM_ok (fuel := fuel) hΓ hP (LamOk.of 6 25 (Lbars_Unknowns qi yi fuel) 0 (by kernel_rfl) (fun i hi => ?_)) 7 25 Rbars_Unknowns _ (fun xs v h => ?_)
  · match i, hi with
    | i + 0, hi => exact absurd hi (by omega)
  · unfold mbars_Unknowns at h
    split at h
    · exact (gbars_Unknowns_run qi yi fuel _ _ _ _ _ _).trans h
    · cases h
noncomputable def Llaw19_awake (yl ye : Mo) (zb v2 : Mo) (fuel : Nat) : Lam AV := []
noncomputable def Glaw19_awake (yl ye : Mo) (zb v2 : Mo) : Gam := [(24, smM [RS.agg [LK.s, LK.i .u8, LK.i .i64, LK.i .i64, LK.b, LK.b, LK.f .f64, LK.f .f64, LK.f .f64]] yl), (23, smM [RS.agg [LK.l (nat_lit 4), LK.l (nat_lit 9)]] ye), (5, smM [RS.one (LK.l (nat_lit 11)), RS.one (LK.i .i64)] zb), (25, smM [RS.agg [LK.l (nat_lit 3), LK.i .i64], RS.one (LK.i .i64)] v2)]
noncomputable def Claw19_awake (yl ye : Mo) (zb v2 : Mo) (fuel : Nat) : CallI AV := callX (Glaw19_awake yl ye zb v2) (execFn Pr (Glaw19_awake yl ye zb v2) [((6, 9), Llaw19_awake yl ye zb v2 fuel)] fuel 6)
noncomputable def glaw19_awake (yl ye : Mo) (zb v2 : Mo) (fuel : Nat) : Option AV :=
  let r0 : Option AV := yl [AV.bool false, AV.bool false]; ck (okM [RS.agg [LK.s, LK.i .u8, LK.i .i64, LK.i .i64, LK.b, LK.b, LK.f .f64, LK.f .f64, LK.f .f64]] r0) <| let r1 : Option AV := ye [AV.agg [AV.str (toS ((toC (getV r0)).headD AV.dead)), AV.int .u8 (toI ((toC (getV r0)).tail.headD AV.dead)), AV.int .i64 (toI ((toC (getV r0)).tail.tail.headD AV.dead)), AV.int .i64 (toI ((toC (getV r0)).tail.tail.tail.headD AV.dead)), AV.bool (toB ((toC (getV r0)).tail.tail.tail.tail.headD AV.dead)), AV.bool (toB ((toC (getV r0)).tail.tail.tail.tail.tail.headD AV.dead)), AV.flt .f64 (toF ((toC (getV r0)).tail.tail.tail.tail.tail.tail.headD AV.dead)), AV.flt .f64 (toF ((toC (getV r0)).tail.tail.tail.tail.tail.tail.tail.headD AV.dead)), AV.flt .f64 (toF ((toC (getV r0)).tail.tail.tail.tail.tail.tail.tail.tail.headD AV.dead))]]; ck (okM [RS.agg [LK.l 4, LK.l 9]] r1) <| let r2 : Option AV := zb [AV.agg [AV.ro 4 (toN ((toC (getV r1)).headD AV.dead)) (toR ((toC (getV r1)).headD AV.dead)) (toG ((toC (getV r1)).headD AV.dead)), AV.ro 9 (toN ((toC (getV r1)).tail.headD AV.dead)) (toR ((toC (getV r1)).tail.headD AV.dead)) (toG ((toC (getV r1)).tail.headD AV.dead))]]; ck (okM [RS.one (LK.l 11), RS.one (LK.i .i64)] r2) <| let r3 : Option AV := yl [AV.bool false, AV.bool true]; ck (okM [RS.agg [LK.s, LK.i .u8, LK.i .i64, LK.i .i64, LK.b, LK.b, LK.f .f64, LK.f .f64, LK.f .f64]] r3) <| let r4 : Option AV := ye [AV.agg [AV.str (toS ((toC (getV r3)).headD AV.dead)), AV.int .u8 (toI ((toC (getV r3)).tail.headD AV.dead)), AV.int .i64 (toI ((toC (getV r3)).tail.tail.headD AV.dead)), AV.int .i64 (toI ((toC (getV r3)).tail.tail.tail.headD AV.dead)), AV.bool (toB ((toC (getV r3)).tail.tail.tail.tail.headD AV.dead)), AV.bool (toB ((toC (getV r3)).tail.tail.tail.tail.tail.headD AV.dead)), AV.flt .f64 (toF ((toC (getV r3)).tail.tail.tail.tail.tail.tail.headD AV.dead)), AV.flt .f64 (toF ((toC (getV r3)).tail.tail.tail.tail.tail.tail.tail.headD AV.dead)), AV.flt .f64 (toF ((toC (getV r3)).tail.tail.tail.tail.tail.tail.tail.tail.headD AV.dead))]]; ck (okM [RS.agg [LK.l 4, LK.l 9]] r4) <| let r5 : Option AV := v2 [AV.agg [AV.ro 4 (toN ((toC (getV r4)).headD AV.dead)) (toR ((toC (getV r4)).headD AV.dead)) (toG ((toC (getV r4)).headD AV.dead)), AV.ro 9 (toN ((toC (getV r4)).tail.headD AV.dead)) (toR ((toC (getV r4)).tail.headD AV.dead)) (toG ((toC (getV r4)).tail.headD AV.dead))]]; ck (okM [RS.agg [LK.l 3, LK.i .i64], RS.one (LK.i .i64)] r5) <| ck (bif bif bif toI ((toT (getV r2)).tail.headD AV.dead) == 0 then toI ((toT (getV r5)).tail.headD AV.dead) == 0 else false then (↑(toN ((toT (getV r2)).headD AV.dead)) : Int) == 3 else false then true else true) <| ck (bif bif bif toI ((toT (getV r2)).tail.headD AV.dead) == 0 then toI ((toT (getV r5)).tail.headD AV.dead) == 0 else false then (↑(toN ((toT (getV r2)).headD AV.dead)) : Int) == 3 else false then decide (1 < (↑(toN ((toT (getV r2)).headD AV.dead)) : Int)) else true) <| ck (bif bif bif toI ((toT (getV r2)).tail.headD AV.dead) == 0 then toI ((toT (getV r5)).tail.headD AV.dead) == 0 else false then (↑(toN ((toT (getV r2)).headD AV.dead)) : Int) == 3 else false then true else true) <| ck (bif bif bif toI ((toT (getV r2)).tail.headD AV.dead) == 0 then toI ((toT (getV r5)).tail.headD AV.dead) == 0 else false then (↑(toN ((toT (getV r2)).headD AV.dead)) : Int) == 3 else false then fitKs [LK.i .i64, LK.i .i64, LK.i .i64, LK.i .i64, LK.i .i64, LK.i .i64] [toG ((toT (getV r2)).headD AV.dead) 1 2, toG ((toT (getV r2)).headD AV.dead) 1 3, toG ((toT (getV r2)).headD AV.dead) 1 4, toG ((toT (getV r2)).headD AV.dead) 1 5, toG ((toT (getV r2)).headD AV.dead) 1 6, toG ((toT (getV r2)).headD AV.dead) 1 7] else true) <| ck (bif bif bif bif toI ((toT (getV r2)).tail.headD AV.dead) == 0 then toI ((toT (getV r5)).tail.headD AV.dead) == 0 else false then (↑(toN ((toT (getV r2)).headD AV.dead)) : Int) == 3 else false then bif toI ([toG ((toT (getV r2)).headD AV.dead) 1 2, toG ((toT (getV r2)).headD AV.dead) 1 3, toG ((toT (getV r2)).headD AV.dead) 1 4, toG ((toT (getV r2)).headD AV.dead) 1 5, toG ((toT (getV r2)).headD AV.dead) 1 6, toG ((toT (getV r2)).headD AV.dead) 1 7].getD 0 AV.dead) == (-8) then bif toI ([toG ((toT (getV r2)).headD AV.dead) 1 2, toG ((toT (getV r2)).headD AV.dead) 1 3, toG ((toT (getV r2)).headD AV.dead) 1 4, toG ((toT (getV r2)).headD AV.dead) 1 5, toG ((toT (getV r2)).headD AV.dead) 1 6, toG ((toT (getV r2)).headD AV.dead) 1 7].getD 1 AV.dead) == 6 then bif toI ([toG ((toT (getV r2)).headD AV.dead) 1 2, toG ((toT (getV r2)).headD AV.dead) 1 3, toG ((toT (getV r2)).headD AV.dead) 1 4, toG ((toT (getV r2)).headD AV.dead) 1 5, toG ((toT (getV r2)).headD AV.dead) 1 6, toG ((toT (getV r2)).headD AV.dead) 1 7].getD 2 AV.dead) == 25 then bif toI ([toG ((toT (getV r2)).headD AV.dead) 1 2, toG ((toT (getV r2)).headD AV.dead) 1 3, toG ((toT (getV r2)).headD AV.dead) 1 4, toG ((toT (getV r2)).headD AV.dead) 1 5, toG ((toT (getV r2)).headD AV.dead) 1 6, toG ((toT (getV r2)).headD AV.dead) 1 7].getD 3 AV.dead) == 8 then bif toI ([toG ((toT (getV r2)).headD AV.dead) 1 2, toG ((toT (getV r2)).headD AV.dead) 1 3, toG ((toT (getV r2)).headD AV.dead) 1 4, toG ((toT (getV r2)).headD AV.dead) 1 5, toG ((toT (getV r2)).headD AV.dead) 1 6, toG ((toT (getV r2)).headD AV.dead) 1 7].getD 4 AV.dead) == (-6) then bif toI ([toG ((toT (getV r2)).headD AV.dead) 1 2, toG ((toT (getV r2)).headD AV.dead) 1 3, toG ((toT (getV r2)).headD AV.dead) 1 4, toG ((toT (getV r2)).headD AV.dead) 1 5, toG ((toT (getV r2)).headD AV.dead) 1 6, toG ((toT (getV r2)).headD AV.dead) 1 7].getD 5 AV.dead) == 25 then true else false else false else false else false else false else false else false then true else true) <| ck (bif bif bif bif toI ((toT (getV r2)).tail.headD AV.dead) == 0 then toI ((toT (getV r5)).tail.headD AV.dead) == 0 else false then (↑(toN ((toT (getV r2)).headD AV.dead)) : Int) == 3 else false then bif toI ([toG ((toT (getV r2)).headD AV.dead) 1 2, toG ((toT (getV r2)).headD AV.dead) 1 3, toG ((toT (getV r2)).headD AV.dead) 1 4, toG ((toT (getV r2)).headD AV.dead) 1 5, toG ((toT (getV r2)).headD AV.dead) 1 6, toG ((toT (getV r2)).headD AV.dead) 1 7].getD 0 AV.dead) == (-8) then bif toI ([toG ((toT (getV r2)).headD AV.dead) 1 2, toG ((toT (getV r2)).headD AV.dead) 1 3, toG ((toT (getV r2)).headD AV.dead) 1 4, toG ((toT (getV r2)).headD AV.dead) 1 5, toG ((toT (getV r2)).headD AV.dead) 1 6, toG ((toT (getV r2)).headD AV.dead) 1 7].getD 1 AV.dead) == 6 then bif toI ([toG ((toT (getV r2)).headD AV.dead) 1 2, toG ((toT (getV r2)).headD AV.dead) 1 3, toG ((toT (getV r2)).headD AV.dead) 1 4, toG ((toT (getV r2)).headD AV.dead) 1 5, toG ((toT (getV r2)).headD AV.dead) 1 6, toG ((toT (getV r2)).headD AV.dead) 1 7].getD 2 AV.dead) == 25 then bif toI ([toG ((toT (getV r2)).headD AV.dead) 1 2, toG ((toT (getV r2)).headD AV.dead) 1 3, toG ((toT (getV r2)).headD AV.dead) 1 4, toG ((toT (getV r2)).headD AV.dead) 1 5, toG ((toT (getV r2)).headD AV.dead) 1 6, toG ((toT (getV r2)).headD AV.dead) 1 7].getD 3 AV.dead) == 8 then bif toI ([toG ((toT (getV r2)).headD AV.dead) 1 2, toG ((toT (getV r2)).headD AV.dead) 1 3, toG ((toT (getV r2)).headD AV.dead) 1 4, toG ((toT (getV r2)).headD AV.dead) 1 5, toG ((toT (getV r2)).headD AV.dead) 1 6, toG ((toT (getV r2)).headD AV.dead) 1 7].getD 4 AV.dead) == (-6) then bif toI ([toG ((toT (getV r2)).headD AV.dead) 1 2, toG ((toT (getV r2)).headD AV.dead) 1 3, toG ((toT (getV r2)).headD AV.dead) 1 4, toG ((toT (getV r2)).headD AV.dead) 1 5, toG ((toT (getV r2)).headD AV.dead) 1 6, toG ((toT (getV r2)).headD AV.dead) 1 7].getD 5 AV.dead) == 25 then true else false else false else false else false else false else false else false then decide (0 < (↑(toN ((toT (getV r2)).headD AV.dead)) : Int)) else true) <| ck (bif bif bif bif toI ((toT (getV r2)).tail.headD AV.dead) == 0 then toI ((toT (getV r5)).tail.headD AV.dead) == 0 else false then (↑(toN ((toT (getV r2)).headD AV.dead)) : Int) == 3 else false then bif toI ([toG ((toT (getV r2)).headD AV.dead) 1 2, toG ((toT (getV r2)).headD AV.dead) 1 3, toG ((toT (getV r2)).headD AV.dead) 1 4, toG ((toT (getV r2)).headD AV.dead) 1 5, toG ((toT (getV r2)).headD AV.dead) 1 6, toG ((toT (getV r2)).headD AV.dead) 1 7].getD 0 AV.dead) == (-8) then bif toI ([toG ((toT (getV r2)).headD AV.dead) 1 2, toG ((toT (getV r2)).headD AV.dead) 1 3, toG ((toT (getV r2)).headD AV.dead) 1 4, toG ((toT (getV r2)).headD AV.dead) 1 5, toG ((toT (getV r2)).headD AV.dead) 1 6, toG ((toT (getV r2)).headD AV.dead) 1 7].getD 1 AV.dead) == 6 then bif toI ([toG ((toT (getV r2)).headD AV.dead) 1 2, toG ((toT (getV r2)).headD AV.dead) 1 3, toG ((toT (getV r2)).headD AV.dead) 1 4, toG ((toT (getV r2)).headD AV.dead) 1 5, toG ((toT (getV r2)).headD AV.dead) 1 6, toG ((toT (getV r2)).headD AV.dead) 1 7].getD 2 AV.dead) == 25 then bif toI ([toG ((toT (getV r2)).headD AV.dead) 1 2, toG ((toT (getV r2)).headD AV.dead) 1 3, toG ((toT (getV r2)).headD AV.dead) 1 4, toG ((toT (getV r2)).headD AV.dead) 1 5, toG ((toT (getV r2)).headD AV.dead) 1 6, toG ((toT (getV r2)).headD AV.dead) 1 7].getD 3 AV.dead) == 8 then bif toI ([toG ((toT (getV r2)).headD AV.dead) 1 2, toG ((toT (getV r2)).headD AV.dead) 1 3, toG ((toT (getV r2)).headD AV.dead) 1 4, toG ((toT (getV r2)).headD AV.dead) 1 5, toG ((toT (getV r2)).headD AV.dead) 1 6, toG ((toT (getV r2)).headD AV.dead) 1 7].getD 4 AV.dead) == (-6) then bif toI ([toG ((toT (getV r2)).headD AV.dead) 1 2, toG ((toT (getV r2)).headD AV.dead) 1 3, toG ((toT (getV r2)).headD AV.dead) 1 4, toG ((toT (getV r2)).headD AV.dead) 1 5, toG ((toT (getV r2)).headD AV.dead) 1 6, toG ((toT (getV r2)).headD AV.dead) 1 7].getD 5 AV.dead) == 25 then true else false else false else false else false else false else false else false then true else true) <| ck (bif bif bif bif toI ((toT (getV r2)).tail.headD AV.dead) == 0 then toI ((toT (getV r5)).tail.headD AV.dead) == 0 else false then (↑(toN ((toT (getV r2)).headD AV.dead)) : Int) == 3 else false then bif toI ([toG ((toT (getV r2)).headD AV.dead) 1 2, toG ((toT (getV r2)).headD AV.dead) 1 3, toG ((toT (getV r2)).headD AV.dead) 1 4, toG ((toT (getV r2)).headD AV.dead) 1 5, toG ((toT (getV r2)).headD AV.dead) 1 6, toG ((toT (getV r2)).headD AV.dead) 1 7].getD 0 AV.dead) == (-8) then bif toI ([toG ((toT (getV r2)).headD AV.dead) 1 2, toG ((toT (getV r2)).headD AV.dead) 1 3, toG ((toT (getV r2)).headD AV.dead) 1 4, toG ((toT (getV r2)).headD AV.dead) 1 5, toG ((toT (getV r2)).headD AV.dead) 1 6, toG ((toT (getV r2)).headD AV.dead) 1 7].getD 1 AV.dead) == 6 then bif toI ([toG ((toT (getV r2)).headD AV.dead) 1 2, toG ((toT (getV r2)).headD AV.dead) 1 3, toG ((toT (getV r2)).headD AV.dead) 1 4, toG ((toT (getV r2)).headD AV.dead) 1 5, toG ((toT (getV r2)).headD AV.dead) 1 6, toG ((toT (getV r2)).headD AV.dead) 1 7].getD 2 AV.dead) == 25 then bif toI ([toG ((toT (getV r2)).headD AV.dead) 1 2, toG ((toT (getV r2)).headD AV.dead) 1 3, toG ((toT (getV r2)).headD AV.dead) 1 4, toG ((toT (getV r2)).headD AV.dead) 1 5, toG ((toT (getV r2)).headD AV.dead) 1 6, toG ((toT (getV r2)).headD AV.dead) 1 7].getD 3 AV.dead) == 8 then bif toI ([toG ((toT (getV r2)).headD AV.dead) 1 2, toG ((toT (getV r2)).headD AV.dead) 1 3, toG ((toT (getV r2)).headD AV.dead) 1 4, toG ((toT (getV r2)).headD AV.dead) 1 5, toG ((toT (getV r2)).headD AV.dead) 1 6, toG ((toT (getV r2)).headD AV.dead) 1 7].getD 4 AV.dead) == (-6) then bif toI ([toG ((toT (getV r2)).headD AV.dead) 1 2, toG ((toT (getV r2)).headD AV.dead) 1 3, toG ((toT (getV r2)).headD AV.dead) 1 4, toG ((toT (getV r2)).headD AV.dead) 1 5, toG ((toT (getV r2)).headD AV.dead) 1 6, toG ((toT (getV r2)).headD AV.dead) 1 7].getD 5 AV.dead) == 25 then true else false else false else false else false else false else false else false then fitK (LK.f .f64) (toG ((toT (getV r2)).headD AV.dead) 0 10) else true) <| ck (bif bif bif bif bif toI ((toT (getV r2)).tail.headD AV.dead) == 0 then toI ((toT (getV r5)).tail.headD AV.dead) == 0 else false then (↑(toN ((toT (getV r2)).headD AV.dead)) : Int) == 3 else false then bif toI ([toG ((toT (getV r2)).headD AV.dead) 1 2, toG ((toT (getV r2)).headD AV.dead) 1 3, toG ((toT (getV r2)).headD AV.dead) 1 4, toG ((toT (getV r2)).headD AV.dead) 1 5, toG ((toT (getV r2)).headD AV.dead) 1 6, toG ((toT (getV r2)).headD AV.dead) 1 7].getD 0 AV.dead) == (-8) then bif toI ([toG ((toT (getV r2)).headD AV.dead) 1 2, toG ((toT (getV r2)).headD AV.dead) 1 3, toG ((toT (getV r2)).headD AV.dead) 1 4, toG ((toT (getV r2)).headD AV.dead) 1 5, toG ((toT (getV r2)).headD AV.dead) 1 6, toG ((toT (getV r2)).headD AV.dead) 1 7].getD 1 AV.dead) == 6 then bif toI ([toG ((toT (getV r2)).headD AV.dead) 1 2, toG ((toT (getV r2)).headD AV.dead) 1 3, toG ((toT (getV r2)).headD AV.dead) 1 4, toG ((toT (getV r2)).headD AV.dead) 1 5, toG ((toT (getV r2)).headD AV.dead) 1 6, toG ((toT (getV r2)).headD AV.dead) 1 7].getD 2 AV.dead) == 25 then bif toI ([toG ((toT (getV r2)).headD AV.dead) 1 2, toG ((toT (getV r2)).headD AV.dead) 1 3, toG ((toT (getV r2)).headD AV.dead) 1 4, toG ((toT (getV r2)).headD AV.dead) 1 5, toG ((toT (getV r2)).headD AV.dead) 1 6, toG ((toT (getV r2)).headD AV.dead) 1 7].getD 3 AV.dead) == 8 then bif toI ([toG ((toT (getV r2)).headD AV.dead) 1 2, toG ((toT (getV r2)).headD AV.dead) 1 3, toG ((toT (getV r2)).headD AV.dead) 1 4, toG ((toT (getV r2)).headD AV.dead) 1 5, toG ((toT (getV r2)).headD AV.dead) 1 6, toG ((toT (getV r2)).headD AV.dead) 1 7].getD 4 AV.dead) == (-6) then bif toI ([toG ((toT (getV r2)).headD AV.dead) 1 2, toG ((toT (getV r2)).headD AV.dead) 1 3, toG ((toT (getV r2)).headD AV.dead) 1 4, toG ((toT (getV r2)).headD AV.dead) 1 5, toG ((toT (getV r2)).headD AV.dead) 1 6, toG ((toT (getV r2)).headD AV.dead) 1 7].getD 5 AV.dead) == 25 then true else false else false else false else false else false else false else false then ford .f64 (toF (toG ((toT (getV r2)).headD AV.dead) 0 10)) (some 4590429028186199163) == some Ordering.eq else false then true else true) <| ck (bif bif bif bif bif bif toI ((toT (getV r2)).tail.headD AV.dead) == 0 then toI ((toT (getV r5)).tail.headD AV.dead) == 0 else false then (↑(toN ((toT (getV r2)).headD AV.dead)) : Int) == 3 else false then bif toI ([toG ((toT (getV r2)).headD AV.dead) 1 2, toG ((toT (getV r2)).headD AV.dead) 1 3, toG ((toT (getV r2)).headD AV.dead) 1 4, toG ((toT (getV r2)).headD AV.dead) 1 5, toG ((toT (getV r2)).headD AV.dead) 1 6, toG ((toT (getV r2)).headD AV.dead) 1 7].getD 0 AV.dead) == (-8) then bif toI ([toG ((toT (getV r2)).headD AV.dead) 1 2, toG ((toT (getV r2)).headD AV.dead) 1 3, toG ((toT (getV r2)).headD AV.dead) 1 4, toG ((toT (getV r2)).headD AV.dead) 1 5, toG ((toT (getV r2)).headD AV.dead) 1 6, toG ((toT (getV r2)).headD AV.dead) 1 7].getD 1 AV.dead) == 6 then bif toI ([toG ((toT (getV r2)).headD AV.dead) 1 2, toG ((toT (getV r2)).headD AV.dead) 1 3, toG ((toT (getV r2)).headD AV.dead) 1 4, toG ((toT (getV r2)).headD AV.dead) 1 5, toG ((toT (getV r2)).headD AV.dead) 1 6, toG ((toT (getV r2)).headD AV.dead) 1 7].getD 2 AV.dead) == 25 then bif toI ([toG ((toT (getV r2)).headD AV.dead) 1 2, toG ((toT (getV r2)).headD AV.dead) 1 3, toG ((toT (getV r2)).headD AV.dead) 1 4, toG ((toT (getV r2)).headD AV.dead) 1 5, toG ((toT (getV r2)).headD AV.dead) 1 6, toG ((toT (getV r2)).headD AV.dead) 1 7].getD 3 AV.dead) == 8 then bif toI ([toG ((toT (getV r2)).headD AV.dead) 1 2, toG ((toT (getV r2)).headD AV.dead) 1 3, toG ((toT (getV r2)).headD AV.dead) 1 4, toG ((toT (getV r2)).headD AV.dead) 1 5, toG ((toT (getV r2)).headD AV.dead) 1 6, toG ((toT (getV r2)).headD AV.dead) 1 7].getD 4 AV.dead) == (-6) then bif toI ([toG ((toT (getV r2)).headD AV.dead) 1 2, toG ((toT (getV r2)).headD AV.dead) 1 3, toG ((toT (getV r2)).headD AV.dead) 1 4, toG ((toT (getV r2)).headD AV.dead) 1 5, toG ((toT (getV r2)).headD AV.dead) 1 6, toG ((toT (getV r2)).headD AV.dead) 1 7].getD 5 AV.dead) == 25 then true else false else false else false else false else false else false else false then ford .f64 (toF (toG ((toT (getV r2)).headD AV.dead) 0 10)) (some 4590429028186199163) == some Ordering.eq else false then toI ((toC ((toT (getV r5)).headD AV.dead)).tail.headD AV.dead) == 5 else false then true else true) <| ck (bif bif bif bif bif bif bif toI ((toT (getV r2)).tail.headD AV.dead) == 0 then toI ((toT (getV r5)).tail.headD AV.dead) == 0 else false then (↑(toN ((toT (getV r2)).headD AV.dead)) : Int) == 3 else false then bif toI ([toG ((toT (getV r2)).headD AV.dead) 1 2, toG ((toT (getV r2)).headD AV.dead) 1 3, toG ((toT (getV r2)).headD AV.dead) 1 4, toG ((toT (getV r2)).headD AV.dead) 1 5, toG ((toT (getV r2)).headD AV.dead) 1 6, toG ((toT (getV r2)).headD AV.dead) 1 7].getD 0 AV.dead) == (-8) then bif toI ([toG ((toT (getV r2)).headD AV.dead) 1 2, toG ((toT (getV r2)).headD AV.dead) 1 3, toG ((toT (getV r2)).headD AV.dead) 1 4, toG ((toT (getV r2)).headD AV.dead) 1 5, toG ((toT (getV r2)).headD AV.dead) 1 6, toG ((toT (getV r2)).headD AV.dead) 1 7].getD 1 AV.dead) == 6 then bif toI ([toG ((toT (getV r2)).headD AV.dead) 1 2, toG ((toT (getV r2)).headD AV.dead) 1 3, toG ((toT (getV r2)).headD AV.dead) 1 4, toG ((toT (getV r2)).headD AV.dead) 1 5, toG ((toT (getV r2)).headD AV.dead) 1 6, toG ((toT (getV r2)).headD AV.dead) 1 7].getD 2 AV.dead) == 25 then bif toI ([toG ((toT (getV r2)).headD AV.dead) 1 2, toG ((toT (getV r2)).headD AV.dead) 1 3, toG ((toT (getV r2)).headD AV.dead) 1 4, toG ((toT (getV r2)).headD AV.dead) 1 5, toG ((toT (getV r2)).headD AV.dead) 1 6, toG ((toT (getV r2)).headD AV.dead) 1 7].getD 3 AV.dead) == 8 then bif toI ([toG ((toT (getV r2)).headD AV.dead) 1 2, toG ((toT (getV r2)).headD AV.dead) 1 3, toG ((toT (getV r2)).headD AV.dead) 1 4, toG ((toT (getV r2)).headD AV.dead) 1 5, toG ((toT (getV r2)).headD AV.dead) 1 6, toG ((toT (getV r2)).headD AV.dead) 1 7].getD 4 AV.dead) == (-6) then bif toI ([toG ((toT (getV r2)).headD AV.dead) 1 2, toG ((toT (getV r2)).headD AV.dead) 1 3, toG ((toT (getV r2)).headD AV.dead) 1 4, toG ((toT (getV r2)).headD AV.dead) 1 5, toG ((toT (getV r2)).headD AV.dead) 1 6, toG ((toT (getV r2)).headD AV.dead) 1 7].getD 5 AV.dead) == 25 then true else false else false else false else false else false else false else false then ford .f64 (toF (toG ((toT (getV r2)).headD AV.dead) 0 10)) (some 4590429028186199163) == some Ordering.eq else false then toI ((toC ((toT (getV r5)).headD AV.dead)).tail.headD AV.dead) == 5 else false then (↑(toN ((toC ((toT (getV r5)).headD AV.dead)).headD AV.dead)) : Int) == 2 else false then true else true) <| ck (bif bif bif bif bif bif bif toI ((toT (getV r2)).tail.headD AV.dead) == 0 then toI ((toT (getV r5)).tail.headD AV.dead) == 0 else false then (↑(toN ((toT (getV r2)).headD AV.dead)) : Int) == 3 else false then bif toI ([toG ((toT (getV r2)).headD AV.dead) 1 2, toG ((toT (getV r2)).headD AV.dead) 1 3, toG ((toT (getV r2)).headD AV.dead) 1 4, toG ((toT (getV r2)).headD AV.dead) 1 5, toG ((toT (getV r2)).headD AV.dead) 1 6, toG ((toT (getV r2)).headD AV.dead) 1 7].getD 0 AV.dead) == (-8) then bif toI ([toG ((toT (getV r2)).headD AV.dead) 1 2, toG ((toT (getV r2)).headD AV.dead) 1 3, toG ((toT (getV r2)).headD AV.dead) 1 4, toG ((toT (getV r2)).headD AV.dead) 1 5, toG ((toT (getV r2)).headD AV.dead) 1 6, toG ((toT (getV r2)).headD AV.dead) 1 7].getD 1 AV.dead) == 6 then bif toI ([toG ((toT (getV r2)).headD AV.dead) 1 2, toG ((toT (getV r2)).headD AV.dead) 1 3, toG ((toT (getV r2)).headD AV.dead) 1 4, toG ((toT (getV r2)).headD AV.dead) 1 5, toG ((toT (getV r2)).headD AV.dead) 1 6, toG ((toT (getV r2)).headD AV.dead) 1 7].getD 2 AV.dead) == 25 then bif toI ([toG ((toT (getV r2)).headD AV.dead) 1 2, toG ((toT (getV r2)).headD AV.dead) 1 3, toG ((toT (getV r2)).headD AV.dead) 1 4, toG ((toT (getV r2)).headD AV.dead) 1 5, toG ((toT (getV r2)).headD AV.dead) 1 6, toG ((toT (getV r2)).headD AV.dead) 1 7].getD 3 AV.dead) == 8 then bif toI ([toG ((toT (getV r2)).headD AV.dead) 1 2, toG ((toT (getV r2)).headD AV.dead) 1 3, toG ((toT (getV r2)).headD AV.dead) 1 4, toG ((toT (getV r2)).headD AV.dead) 1 5, toG ((toT (getV r2)).headD AV.dead) 1 6, toG ((toT (getV r2)).headD AV.dead) 1 7].getD 4 AV.dead) == (-6) then bif toI ([toG ((toT (getV r2)).headD AV.dead) 1 2, toG ((toT (getV r2)).headD AV.dead) 1 3, toG ((toT (getV r2)).headD AV.dead) 1 4, toG ((toT (getV r2)).headD AV.dead) 1 5, toG ((toT (getV r2)).headD AV.dead) 1 6, toG ((toT (getV r2)).headD AV.dead) 1 7].getD 5 AV.dead) == 25 then true else false else false else false else false else false else false else false then ford .f64 (toF (toG ((toT (getV r2)).headD AV.dead) 0 10)) (some 4590429028186199163) == some Ordering.eq else false then toI ((toC ((toT (getV r5)).headD AV.dead)).tail.headD AV.dead) == 5 else false then (↑(toN ((toC ((toT (getV r5)).headD AV.dead)).headD AV.dead)) : Int) == 2 else false then true else true) <| ck (bif bif bif bif bif bif bif toI ((toT (getV r2)).tail.headD AV.dead) == 0 then toI ((toT (getV r5)).tail.headD AV.dead) == 0 else false then (↑(toN ((toT (getV r2)).headD AV.dead)) : Int) == 3 else false then bif toI ([toG ((toT (getV r2)).headD AV.dead) 1 2, toG ((toT (getV r2)).headD AV.dead) 1 3, toG ((toT (getV r2)).headD AV.dead) 1 4, toG ((toT (getV r2)).headD AV.dead) 1 5, toG ((toT (getV r2)).headD AV.dead) 1 6, toG ((toT (getV r2)).headD AV.dead) 1 7].getD 0 AV.dead) == (-8) then bif toI ([toG ((toT (getV r2)).headD AV.dead) 1 2, toG ((toT (getV r2)).headD AV.dead) 1 3, toG ((toT (getV r2)).headD AV.dead) 1 4, toG ((toT (getV r2)).headD AV.dead) 1 5, toG ((toT (getV r2)).headD AV.dead) 1 6, toG ((toT (getV r2)).headD AV.dead) 1 7].getD 1 AV.dead) == 6 then bif toI ([toG ((toT (getV r2)).headD AV.dead) 1 2, toG ((toT (getV r2)).headD AV.dead) 1 3, toG ((toT (getV r2)).headD AV.dead) 1 4, toG ((toT (getV r2)).headD AV.dead) 1 5, toG ((toT (getV r2)).headD AV.dead) 1 6, toG ((toT (getV r2)).headD AV.dead) 1 7].getD 2 AV.dead) == 25 then bif toI ([toG ((toT (getV r2)).headD AV.dead) 1 2, toG ((toT (getV r2)).headD AV.dead) 1 3, toG ((toT (getV r2)).headD AV.dead) 1 4, toG ((toT (getV r2)).headD AV.dead) 1 5, toG ((toT (getV r2)).headD AV.dead) 1 6, toG ((toT (getV r2)).headD AV.dead) 1 7].getD 3 AV.dead) == 8 then bif toI ([toG ((toT (getV r2)).headD AV.dead) 1 2, toG ((toT (getV r2)).headD AV.dead) 1 3, toG ((toT (getV r2)).headD AV.dead) 1 4, toG ((toT (getV r2)).headD AV.dead) 1 5, toG ((toT (getV r2)).headD AV.dead) 1 6, toG ((toT (getV r2)).headD AV.dead) 1 7].getD 4 AV.dead) == (-6) then bif toI ([toG ((toT (getV r2)).headD AV.dead) 1 2, toG ((toT (getV r2)).headD AV.dead) 1 3, toG ((toT (getV r2)).headD AV.dead) 1 4, toG ((toT (getV r2)).headD AV.dead) 1 5, toG ((toT (getV r2)).headD AV.dead) 1 6, toG ((toT (getV r2)).headD AV.dead) 1 7].getD 5 AV.dead) == 25 then true else false else false else false else false else false else false else false then ford .f64 (toF (toG ((toT (getV r2)).headD AV.dead) 0 10)) (some 4590429028186199163) == some Ordering.eq else false then toI ((toC ((toT (getV r5)).headD AV.dead)).tail.headD AV.dead) == 5 else false then (↑(toN ((toC ((toT (getV r5)).headD AV.dead)).headD AV.dead)) : Int) == 2 else false then decide (1 < (↑(toN ((toC ((toT (getV r5)).headD AV.dead)).headD AV.dead)) : Int)) else true) <| ck (bif bif bif bif bif bif bif toI ((toT (getV r2)).tail.headD AV.dead) == 0 then toI ((toT (getV r5)).tail.headD AV.dead) == 0 else false then (↑(toN ((toT (getV r2)).headD AV.dead)) : Int) == 3 else false then bif toI ([toG ((toT (getV r2)).headD AV.dead) 1 2, toG ((toT (getV r2)).headD AV.dead) 1 3, toG ((toT (getV r2)).headD AV.dead) 1 4, toG ((toT (getV r2)).headD AV.dead) 1 5, toG ((toT (getV r2)).headD AV.dead) 1 6, toG ((toT (getV r2)).headD AV.dead) 1 7].getD 0 AV.dead) == (-8) then bif toI ([toG ((toT (getV r2)).headD AV.dead) 1 2, toG ((toT (getV r2)).headD AV.dead) 1 3, toG ((toT (getV r2)).headD AV.dead) 1 4, toG ((toT (getV r2)).headD AV.dead) 1 5, toG ((toT (getV r2)).headD AV.dead) 1 6, toG ((toT (getV r2)).headD AV.dead) 1 7].getD 1 AV.dead) == 6 then bif toI ([toG ((toT (getV r2)).headD AV.dead) 1 2, toG ((toT (getV r2)).headD AV.dead) 1 3, toG ((toT (getV r2)).headD AV.dead) 1 4, toG ((toT (getV r2)).headD AV.dead) 1 5, toG ((toT (getV r2)).headD AV.dead) 1 6, toG ((toT (getV r2)).headD AV.dead) 1 7].getD 2 AV.dead) == 25 then bif toI ([toG ((toT (getV r2)).headD AV.dead) 1 2, toG ((toT (getV r2)).headD AV.dead) 1 3, toG ((toT (getV r2)).headD AV.dead) 1 4, toG ((toT (getV r2)).headD AV.dead) 1 5, toG ((toT (getV r2)).headD AV.dead) 1 6, toG ((toT (getV r2)).headD AV.dead) 1 7].getD 3 AV.dead) == 8 then bif toI ([toG ((toT (getV r2)).headD AV.dead) 1 2, toG ((toT (getV r2)).headD AV.dead) 1 3, toG ((toT (getV r2)).headD AV.dead) 1 4, toG ((toT (getV r2)).headD AV.dead) 1 5, toG ((toT (getV r2)).headD AV.dead) 1 6, toG ((toT (getV r2)).headD AV.dead) 1 7].getD 4 AV.dead) == (-6) then bif toI ([toG ((toT (getV r2)).headD AV.dead) 1 2, toG ((toT (getV r2)).headD AV.dead) 1 3, toG ((toT (getV r2)).headD AV.dead) 1 4, toG ((toT (getV r2)).headD AV.dead) 1 5, toG ((toT (getV r2)).headD AV.dead) 1 6, toG ((toT (getV r2)).headD AV.dead) 1 7].getD 5 AV.dead) == 25 then true else false else false else false else false else false else false else false then ford .f64 (toF (toG ((toT (getV r2)).headD AV.dead) 0 10)) (some 4590429028186199163) == some Ordering.eq else false then toI ((toC ((toT (getV r5)).headD AV.dead)).tail.headD AV.dead) == 5 else false then (↑(toN ((toC ((toT (getV r5)).headD AV.dead)).headD AV.dead)) : Int) == 2 else false then true else true) <| ck (bif bif bif bif bif bif bif toI ((toT (getV r2)).tail.headD AV.dead) == 0 then toI ((toT (getV r5)).tail.headD AV.dead) == 0 else false then (↑(toN ((toT (getV r2)).headD AV.dead)) : Int) == 3 else false then bif toI ([toG ((toT (getV r2)).headD AV.dead) 1 2, toG ((toT (getV r2)).headD AV.dead) 1 3, toG ((toT (getV r2)).headD AV.dead) 1 4, toG ((toT (getV r2)).headD AV.dead) 1 5, toG ((toT (getV r2)).headD AV.dead) 1 6, toG ((toT (getV r2)).headD AV.dead) 1 7].getD 0 AV.dead) == (-8) then bif toI ([toG ((toT (getV r2)).headD AV.dead) 1 2, toG ((toT (getV r2)).headD AV.dead) 1 3, toG ((toT (getV r2)).headD AV.dead) 1 4, toG ((toT (getV r2)).headD AV.dead) 1 5, toG ((toT (getV r2)).headD AV.dead) 1 6, toG ((toT (getV r2)).headD AV.dead) 1 7].getD 1 AV.dead) == 6 then bif toI ([toG ((toT (getV r2)).headD AV.dead) 1 2, toG ((toT (getV r2)).headD AV.dead) 1 3, toG ((toT (getV r2)).headD AV.dead) 1 4, toG ((toT (getV r2)).headD AV.dead) 1 5, toG ((toT (getV r2)).headD AV.dead) 1 6, toG ((toT (getV r2)).headD AV.dead) 1 7].getD 2 AV.dead) == 25 then bif toI ([toG ((toT (getV r2)).headD AV.dead) 1 2, toG ((toT (getV r2)).headD AV.dead) 1 3, toG ((toT (getV r2)).headD AV.dead) 1 4, toG ((toT (getV r2)).headD AV.dead) 1 5, toG ((toT (getV r2)).headD AV.dead) 1 6, toG ((toT (getV r2)).headD AV.dead) 1 7].getD 3 AV.dead) == 8 then bif toI ([toG ((toT (getV r2)).headD AV.dead) 1 2, toG ((toT (getV r2)).headD AV.dead) 1 3, toG ((toT (getV r2)).headD AV.dead) 1 4, toG ((toT (getV r2)).headD AV.dead) 1 5, toG ((toT (getV r2)).headD AV.dead) 1 6, toG ((toT (getV r2)).headD AV.dead) 1 7].getD 4 AV.dead) == (-6) then bif toI ([toG ((toT (getV r2)).headD AV.dead) 1 2, toG ((toT (getV r2)).headD AV.dead) 1 3, toG ((toT (getV r2)).headD AV.dead) 1 4, toG ((toT (getV r2)).headD AV.dead) 1 5, toG ((toT (getV r2)).headD AV.dead) 1 6, toG ((toT (getV r2)).headD AV.dead) 1 7].getD 5 AV.dead) == 25 then true else false else false else false else false else false else false else false then ford .f64 (toF (toG ((toT (getV r2)).headD AV.dead) 0 10)) (some 4590429028186199163) == some Ordering.eq else false then toI ((toC ((toT (getV r5)).headD AV.dead)).tail.headD AV.dead) == 5 else false then (↑(toN ((toC ((toT (getV r5)).headD AV.dead)).headD AV.dead)) : Int) == 2 else false then fitKs [LK.i .i64, LK.i .i64, LK.i .i64] [toG ((toC ((toT (getV r5)).headD AV.dead)).headD AV.dead) 1 0, toG ((toC ((toT (getV r5)).headD AV.dead)).headD AV.dead) 1 1, toG ((toC ((toT (getV r5)).headD AV.dead)).headD AV.dead) 1 2] else true) <| some (AV.bool (bif bif bif bif bif bif bif toI ((toT (getV r2)).tail.headD AV.dead) == 0 then toI ((toT (getV r5)).tail.headD AV.dead) == 0 else false then (↑(toN ((toT (getV r2)).headD AV.dead)) : Int) == 3 else false then bif toI ([toG ((toT (getV r2)).headD AV.dead) 1 2, toG ((toT (getV r2)).headD AV.dead) 1 3, toG ((toT (getV r2)).headD AV.dead) 1 4, toG ((toT (getV r2)).headD AV.dead) 1 5, toG ((toT (getV r2)).headD AV.dead) 1 6, toG ((toT (getV r2)).headD AV.dead) 1 7].getD 0 AV.dead) == (-8) then bif toI ([toG ((toT (getV r2)).headD AV.dead) 1 2, toG ((toT (getV r2)).headD AV.dead) 1 3, toG ((toT (getV r2)).headD AV.dead) 1 4, toG ((toT (getV r2)).headD AV.dead) 1 5, toG ((toT (getV r2)).headD AV.dead) 1 6, toG ((toT (getV r2)).headD AV.dead) 1 7].getD 1 AV.dead) == 6 then bif toI ([toG ((toT (getV r2)).headD AV.dead) 1 2, toG ((toT (getV r2)).headD AV.dead) 1 3, toG ((toT (getV r2)).headD AV.dead) 1 4, toG ((toT (getV r2)).headD AV.dead) 1 5, toG ((toT (getV r2)).headD AV.dead) 1 6, toG ((toT (getV r2)).headD AV.dead) 1 7].getD 2 AV.dead) == 25 then bif toI ([toG ((toT (getV r2)).headD AV.dead) 1 2, toG ((toT (getV r2)).headD AV.dead) 1 3, toG ((toT (getV r2)).headD AV.dead) 1 4, toG ((toT (getV r2)).headD AV.dead) 1 5, toG ((toT (getV r2)).headD AV.dead) 1 6, toG ((toT (getV r2)).headD AV.dead) 1 7].getD 3 AV.dead) == 8 then bif toI ([toG ((toT (getV r2)).headD AV.dead) 1 2, toG ((toT (getV r2)).headD AV.dead) 1 3, toG ((toT (getV r2)).headD AV.dead) 1 4, toG ((toT (getV r2)).headD AV.dead) 1 5, toG ((toT (getV r2)).headD AV.dead) 1 6, toG ((toT (getV r2)).headD AV.dead) 1 7].getD 4 AV.dead) == (-6) then bif toI ([toG ((toT (getV r2)).headD AV.dead) 1 2, toG ((toT (getV r2)).headD AV.dead) 1 3, toG ((toT (getV r2)).headD AV.dead) 1 4, toG ((toT (getV r2)).headD AV.dead) 1 5, toG ((toT (getV r2)).headD AV.dead) 1 6, toG ((toT (getV r2)).headD AV.dead) 1 7].getD 5 AV.dead) == 25 then true else false else false else false else false else false else false else false then ford .f64 (toF (toG ((toT (getV r2)).headD AV.dead) 0 10)) (some 4590429028186199163) == some Ordering.eq else false then toI ((toC ((toT (getV r5)).headD AV.dead)).tail.headD AV.dead) == 5 else false then (↑(toN ((toC ((toT (getV r5)).headD AV.dead)).headD AV.dead)) : Int) == 2 else false then bif toI ([toG ((toC ((toT (getV r5)).headD AV.dead)).headD AV.dead) 1 0, toG ((toC ((toT (getV r5)).headD AV.dead)).headD AV.dead) 1 1, toG ((toC ((toT (getV r5)).headD AV.dead)).headD AV.dead) 1 2].getD 0 AV.dead) == 3 then bif toI ([toG ((toC ((toT (getV r5)).headD AV.dead)).headD AV.dead) 1 0, toG ((toC ((toT (getV r5)).headD AV.dead)).headD AV.dead) 1 1, toG ((toC ((toT (getV r5)).headD AV.dead)).headD AV.dead) 1 2].getD 1 AV.dead) == 4 then bif toI ([toG ((toC ((toT (getV r5)).headD AV.dead)).headD AV.dead) 1 0, toG ((toC ((toT (getV r5)).headD AV.dead)).headD AV.dead) 1 1, toG ((toC ((toT (getV r5)).headD AV.dead)).headD AV.dead) 1 2].getD 2 AV.dead) == (-1) then true else false else false else false else false))
theorem glaw19_awake_run (yl ye : Mo) (zb v2 : Mo) (fuel : Nat) : run Pr (Glaw19_awake yl ye zb v2) [((6, 9), Llaw19_awake yl ye zb v2 fuel)] fuel 7 9 [] = glaw19_awake yl ye zb v2 fuel := by kernel_rfl
noncomputable def mlaw19_awake (yl ye : Mo) (zb v2 : Mo) (fuel : Nat) (xs : List AV) : Option AV := match xs with
  | [] => glaw19_awake yl ye zb v2 fuel
  | _ => none
abbrev Rlaw19_awake : List RS := [RS.one LK.b]
theorem glaw19_awake_sm (yl ye : Mo) (zb v2 : Mo) (fuel : Nat) (hΓ : GamOk Pr (Glaw19_awake yl ye zb v2)) (hP : NamesOk Pr) : SmOk Pr 9 (smM Rlaw19_awake (mlaw19_awake yl ye zb v2 fuel)) := by
  refine smM_ok (fuel := fuel) hΓ hP (LamOk.of 6 9 (Llaw19_awake yl ye zb v2 fuel) 0 (by kernel_rfl) (fun i hi => ?_)) 7 9 Rlaw19_awake _ (fun xs v h => ?_)
  · match i, hi with
    | i + 0, hi => exact absurd hi (by omega)
  · unfold mlaw19_awake at h
    split at h
    · exact (glaw19_awake_run yl ye zb v2 fuel).trans h
    · cases h
noncomputable def Llaw19_BarsSprings (v9 zb : Mo) (v3 zx : Mo) (v0 yf : Mo) (fuel : Nat) : Lam AV := []
noncomputable def Glaw19_BarsSprings (v9 zb : Mo) (v3 zx : Mo) (v0 yf : Mo) : Gam := [(4, smM [RS.agg [LK.l (nat_lit 4), LK.l (nat_lit 9)]] v9), (5, smM [RS.one (LK.l (nat_lit 11)), RS.one (LK.i .i64)] zb), (6, smM [RS.one (LK.l (nat_lit 11)), RS.one (LK.i .i64)] v3), (7, smM [RS.one LK.b] zx), (8, smM [RS.one LK.b] v0), (9, smM [RS.one LK.b] yf)]
noncomputable def Claw19_BarsSprings (v9 zb : Mo) (v3 zx : Mo) (v0 yf : Mo) (fuel : Nat) : CallI AV := callX (Glaw19_BarsSprings v9 zb v3 zx v0 yf) (execFn Pr (Glaw19_BarsSprings v9 zb v3 zx v0 yf) [((6, 3), Llaw19_BarsSprings v9 zb v3 zx v0 yf fuel)] fuel 6)
noncomputable def glaw19_BarsSprings (v9 zb : Mo) (v3 zx : Mo) (v0 yf : Mo) (fuel zi z1 : Nat) (wq : Ge) (zv zy : Nat) (w1 : Ge) : Option AV :=
  let r0 : Option AV := v9 [AV.agg [AV.ro 4 zi z1 wq, AV.ro 9 zv zy w1]]; ck (okM [RS.agg [LK.l 4, LK.l 9]] r0) <| let r1 : Option AV := zb [AV.agg [AV.ro 4 (toN ((toC (getV r0)).headD AV.dead)) (toR ((toC (getV r0)).headD AV.dead)) (toG ((toC (getV r0)).headD AV.dead)), AV.ro 9 (toN ((toC (getV r0)).tail.headD AV.dead)) (toR ((toC (getV r0)).tail.headD AV.dead)) (toG ((toC (getV r0)).tail.headD AV.dead))]]; ck (okM [RS.one (LK.l 11), RS.one (LK.i .i64)] r1) <| let r2 : Option AV := v3 [AV.agg [AV.ro 4 zi z1 wq, AV.ro 9 zv zy w1]]; ck (okM [RS.one (LK.l 11), RS.one (LK.i .i64)] r2) <| ck (bif toI ((toT (getV r1)).tail.headD AV.dead) == toI ((toT (getV r2)).tail.headD AV.dead) then okM [RS.one LK.b] (zx [AV.ro 11 (toN ((toT (getV r1)).headD AV.dead)) (toR ((toT (getV r1)).headD AV.dead)) (toG ((toT (getV r1)).headD AV.dead)), AV.ro 11 (toN ((toT (getV r2)).headD AV.dead)) (toR ((toT (getV r2)).headD AV.dead)) (toG ((toT (getV r2)).headD AV.dead))]) else true) <| ck (bif bif toI ((toT (getV r1)).tail.headD AV.dead) == toI ((toT (getV r2)).tail.headD AV.dead) then toB (getV (zx [AV.ro 11 (toN ((toT (getV r1)).headD AV.dead)) (toR ((toT (getV r1)).headD AV.dead)) (toG ((toT (getV r1)).headD AV.dead)), AV.ro 11 (toN ((toT (getV r2)).headD AV.dead)) (toR ((toT (getV r2)).headD AV.dead)) (toG ((toT (getV r2)).headD AV.dead))])) else false then true else true) <| ck (bif bif toI ((toT (getV r1)).tail.headD AV.dead) == toI ((toT (getV r2)).tail.headD AV.dead) then toB (getV (zx [AV.ro 11 (toN ((toT (getV r1)).headD AV.dead)) (toR ((toT (getV r1)).headD AV.dead)) (toG ((toT (getV r1)).headD AV.dead)), AV.ro 11 (toN ((toT (getV r2)).headD AV.dead)) (toR ((toT (getV r2)).headD AV.dead)) (toG ((toT (getV r2)).headD AV.dead))])) else false then true else true) <| ck (bif bif toI ((toT (getV r1)).tail.headD AV.dead) == toI ((toT (getV r2)).tail.headD AV.dead) then toB (getV (zx [AV.ro 11 (toN ((toT (getV r1)).headD AV.dead)) (toR ((toT (getV r1)).headD AV.dead)) (toG ((toT (getV r1)).headD AV.dead)), AV.ro 11 (toN ((toT (getV r2)).headD AV.dead)) (toR ((toT (getV r2)).headD AV.dead)) (toG ((toT (getV r2)).headD AV.dead))])) else false then okM [RS.one LK.b] (v0 [AV.agg [AV.ro 4 (toN ((toC (getV r0)).headD AV.dead)) (toR ((toC (getV r0)).headD AV.dead)) (toG ((toC (getV r0)).headD AV.dead)), AV.ro 9 (toN ((toC (getV r0)).tail.headD AV.dead)) (toR ((toC (getV r0)).tail.headD AV.dead)) (toG ((toC (getV r0)).tail.headD AV.dead))], AV.agg [AV.ro 4 zi z1 wq, AV.ro 9 zv zy w1]]) else true) <| ck (bif bif bif toI ((toT (getV r1)).tail.headD AV.dead) == toI ((toT (getV r2)).tail.headD AV.dead) then toB (getV (zx [AV.ro 11 (toN ((toT (getV r1)).headD AV.dead)) (toR ((toT (getV r1)).headD AV.dead)) (toG ((toT (getV r1)).headD AV.dead)), AV.ro 11 (toN ((toT (getV r2)).headD AV.dead)) (toR ((toT (getV r2)).headD AV.dead)) (toG ((toT (getV r2)).headD AV.dead))])) else false then toB (getV (v0 [AV.agg [AV.ro 4 (toN ((toC (getV r0)).headD AV.dead)) (toR ((toC (getV r0)).headD AV.dead)) (toG ((toC (getV r0)).headD AV.dead)), AV.ro 9 (toN ((toC (getV r0)).tail.headD AV.dead)) (toR ((toC (getV r0)).tail.headD AV.dead)) (toG ((toC (getV r0)).tail.headD AV.dead))], AV.agg [AV.ro 4 zi z1 wq, AV.ro 9 zv zy w1]])) else false then okM [RS.one LK.b] (yf []) else true) <| some (AV.bool (bif bif bif toI ((toT (getV r1)).tail.headD AV.dead) == toI ((toT (getV r2)).tail.headD AV.dead) then toB (getV (zx [AV.ro 11 (toN ((toT (getV r1)).headD AV.dead)) (toR ((toT (getV r1)).headD AV.dead)) (toG ((toT (getV r1)).headD AV.dead)), AV.ro 11 (toN ((toT (getV r2)).headD AV.dead)) (toR ((toT (getV r2)).headD AV.dead)) (toG ((toT (getV r2)).headD AV.dead))])) else false then toB (getV (v0 [AV.agg [AV.ro 4 (toN ((toC (getV r0)).headD AV.dead)) (toR ((toC (getV r0)).headD AV.dead)) (toG ((toC (getV r0)).headD AV.dead)), AV.ro 9 (toN ((toC (getV r0)).tail.headD AV.dead)) (toR ((toC (getV r0)).tail.headD AV.dead)) (toG ((toC (getV r0)).tail.headD AV.dead))], AV.agg [AV.ro 4 zi z1 wq, AV.ro 9 zv zy w1]])) else false then toB (getV (yf [])) else false))
theorem glaw19_BarsSprings_run (v9 zb : Mo) (v3 zx : Mo) (v0 yf : Mo) (fuel zi z1 : Nat) (wq : Ge) (zv zy : Nat) (w1 : Ge) : run Pr (Glaw19_BarsSprings v9 zb v3 zx v0 yf) [((6, 3), Llaw19_BarsSprings v9 zb v3 zx v0 yf fuel)] fuel 7 3 [AV.agg [AV.ro 4 zi z1 wq, AV.ro 9 zv zy w1]] = glaw19_BarsSprings v9 zb v3 zx v0 yf fuel zi z1 wq zv zy w1 := by kernel_rfl
noncomputable def mlaw19_BarsSprings (v9 zb : Mo) (v3 zx : Mo) (v0 yf : Mo) (fuel : Nat) (xs : List AV) : Option AV := match xs with
  | [AV.agg [AV.ro 4 zi z1 wq, AV.ro 9 zv zy w1]] => glaw19_BarsSprings v9 zb v3 zx v0 yf fuel zi z1 wq zv zy w1
  | _ => none
abbrev Rlaw19_BarsSprings : List RS := [RS.one LK.b]
theorem glaw19_BarsSprings_sm (v9 zb : Mo) (v3 zx : Mo) (v0 yf : Mo) (fuel : Nat) (hΓ : GamOk Pr (Glaw19_BarsSprings v9 zb v3 zx v0 yf)) (hP : NamesOk Pr) : SmOk Pr 3 (smM Rlaw19_BarsSprings (mlaw19_BarsSprings v9 zb v3 zx v0 yf fuel)) := by
  refine smM_ok (fuel := fuel) hΓ hP (LamOk.of 6 3 (Llaw19_BarsSprings v9 zb v3 zx v0 yf fuel) 0 (by kernel_rfl) (fun i hi => ?_)) 7 3 Rlaw19_BarsSprings _ (fun xs v h => ?_)
  · match i, hi with
    | i + 0, hi => exact absurd hi (by omega)
  · unfold mlaw19_BarsSprings at h
    split at h
    · exact (glaw19_BarsSprings_run v9 zb v3 zx v0 yf fuel _ _ _ _ _ _).trans h
    · cases h
end Go.Proofs.Tryz
end
section
namespace Go.Proofs.Tryz
open Go Go.Am
set_option maxRecDepth 1000000
def NN : Nat := 1125899906842624
def namesB (P : Program) : Bool := P.funcs.toList.all fun fn => !(fn.body.isSome) || !(fn.name == "runtime.NumGoroutine")
theorem names_of {P : Program} (h : namesB P = true) : NamesOk P := by
  intro f fn hf hb
  have := List.all_eq_true.1 h fn (by
    have : P.funcs.toList[f]? = some fn := by simpa using hf
    exact List.mem_of_getElem? this)
  simp only [hb, Bool.not_true, Bool.false_or, Bool.not_eq_true'] at this
  exact this
theorem namesA : NamesOk Pr := names_of (by decide +kernel)
theorem stub_ok (f : Nat) (rs : List RS) : SmOk Pr f (smM rs fun _ => none) :=
  ⟨fun args vs w S _ _ _ _ h => (by cases h), fun _ args h => (by cases h)⟩
theorem ext54 : SmOk Pr 54 sBits := bits_ok (fn := f54) (by kernel_rfl) (by kernel_rfl) (by kernel_rfl) (by kernel_rfl) (by kernel_rfl)
theorem ext71 : SmOk Pr 71 sFma := fma_ok (fn := f71) (by kernel_rfl) (by kernel_rfl) (by kernel_rfl) (by kernel_rfl) (by kernel_rfl)
theorem ext95 : SmOk Pr 95 sSqrt := sqrt_ok (fn := f95) (by kernel_rfl) (by kernel_rfl) (by kernel_rfl) (by kernel_rfl) (by kernel_rfl)
theorem ext118 : SmOk Pr 118 sFrom := from_ok (fn := f118) (by kernel_rfl) (by kernel_rfl) (by kernel_rfl) (by kernel_rfl) (by kernel_rfl)
def kround_cmp : Mo := fun _ => none
def kround_of : Mo := fun _ => none
def kround_times : Mo := fun _ => none
def kref00_Compare : Mo := fun _ => none
def kref03_Exact : Mo := fun _ => none
def kref00_Times : Mo := fun _ => none
noncomputable def kkit_markText : Mo := mkit_markText  NN
theorem okkit_markText : SmOk Pr 49 (smM Rkit_markText kkit_markText) := gkit_markText_sm  NN (show GamOk Pr (Gkit_markText ) from GamOk.nil) namesA
noncomputable def kkit_markJoint : Mo := mkit_markJoint kkit_markText NN
theorem okkit_markJoint : SmOk Pr 26 (smM Rkit_markJoint kkit_markJoint) := gkit_markJoint_sm kkit_markText NN (show GamOk Pr (Gkit_markJoint kkit_markText) from (.cons (okkit_markText) rfl GamOk.nil)) namesA
noncomputable def kkit_LentJoints : Mo := mkit_LentJoints kkit_markJoint NN
theorem okkit_LentJoints : SmOk Pr 10 (smM Rkit_LentJoints kkit_LentJoints) := gkit_LentJoints_sm kkit_markJoint NN (show GamOk Pr (Gkit_LentJoints kkit_markJoint) from (.cons (okkit_markJoint) rfl GamOk.nil)) namesA
noncomputable def kkit_markMember : Mo := mkit_markMember kkit_markText NN
theorem okkit_markMember : SmOk Pr 27 (smM Rkit_markMember kkit_markMember) := gkit_markMember_sm kkit_markText NN (show GamOk Pr (Gkit_markMember kkit_markText) from (.cons (okkit_markText) rfl GamOk.nil)) namesA
noncomputable def kkit_LentMembers : Mo := mkit_LentMembers kkit_markMember NN
theorem okkit_LentMembers : SmOk Pr 11 (smM Rkit_LentMembers kkit_LentMembers) := gkit_LentMembers_sm kkit_markMember NN (show GamOk Pr (Gkit_LentMembers kkit_markMember) from (.cons (okkit_markMember) rfl GamOk.nil)) namesA
noncomputable def kkit_LentPlan : Mo := mkit_LentPlan kkit_LentJoints kkit_LentMembers NN
theorem okkit_LentPlan : SmOk Pr 4 (smM Rkit_LentPlan kkit_LentPlan) := gkit_LentPlan_sm kkit_LentJoints kkit_LentMembers NN (show GamOk Pr (Gkit_LentPlan kkit_LentJoints kkit_LentMembers) from (.cons (okkit_LentJoints) rfl (.cons (okkit_LentMembers) rfl GamOk.nil))) namesA
noncomputable def kjoints_named : Mo := mjoints_named  NN
theorem okjoints_named : SmOk Pr 50 (smM Rjoints_named kjoints_named) := gjoints_named_sm  NN (show GamOk Pr (Gjoints_named ) from GamOk.nil) namesA
noncomputable def kjoints_near : Mo := mjoints_near  NN
theorem okjoints_near : SmOk Pr 51 (smM Rjoints_near kjoints_near) := gjoints_near_sm  NN (show GamOk Pr (Gjoints_near ) from GamOk.nil) namesA
noncomputable def kjoints_Check : Mo := mjoints_Check kjoints_named kjoints_near NN
theorem okjoints_Check : SmOk Pr 28 (smM Rjoints_Check kjoints_Check) := gjoints_Check_sm kjoints_named kjoints_near NN (show GamOk Pr (Gjoints_Check kjoints_named kjoints_near) from (.cons (okjoints_named) rfl (.cons (okjoints_near) rfl GamOk.nil))) namesA
noncomputable def kbars_named : Mo := mbars_named  NN
theorem okbars_named : SmOk Pr 52 (smM Rbars_named kbars_named) := gbars_named_sm  NN (show GamOk Pr (Gbars_named ) from GamOk.nil) namesA
noncomputable def kbars_number : Mo := mbars_number  NN
theorem okbars_number : SmOk Pr 53 (smM Rbars_number kbars_number) := gbars_number_sm  NN (show GamOk Pr (Gbars_number ) from GamOk.nil) namesA
noncomputable def kbars_may : Mo := mbars_may kbars_named kbars_number NN
theorem okbars_may : SmOk Pr 29 (smM Rbars_may kbars_may) := gbars_may_sm kbars_named kbars_number NN (show GamOk Pr (Gbars_may kbars_named kbars_number) from (.cons (okbars_named) rfl (.cons (okbars_number) rfl (.cons ext54 rfl GamOk.nil)))) namesA
noncomputable def kbars_Check : Mo := mbars_Check kjoints_Check kbars_may NN
theorem okbars_Check : SmOk Pr 12 (smM Rbars_Check kbars_Check) := gbars_Check_sm kjoints_Check kbars_may NN (show GamOk Pr (Gbars_Check kjoints_Check kbars_may) from (.cons (okjoints_Check) rfl (.cons (okbars_may) rfl GamOk.nil))) namesA
noncomputable def kjoints_Apart : Mo := mjoints_Apart kjoints_near NN
theorem okjoints_Apart : SmOk Pr 30 (smM Rjoints_Apart kjoints_Apart) := gjoints_Apart_sm kjoints_near NN (show GamOk Pr (Gjoints_Apart kjoints_near) from (.cons (okjoints_near) rfl GamOk.nil)) namesA
noncomputable def kround_way : Mo := mround_way  NN
theorem okround_way : SmOk Pr 65 (smM Rround_way kround_way) := ground_way_sm  NN (show GamOk Pr (Ground_way ) from GamOk.nil) namesA
noncomputable def kmath_Sqrt : Mo := mmath_Sqrt  NN
theorem okmath_Sqrt : SmOk Pr 66 (smM Rmath_Sqrt kmath_Sqrt) := gmath_Sqrt_sm  NN (show GamOk Pr (Gmath_Sqrt ) from (.cons ext95 rfl GamOk.nil)) namesA
noncomputable def kmath_IsNaN : Mo := mmath_IsNaN  NN
theorem okmath_IsNaN : SmOk Pr 96 (smM Rmath_IsNaN kmath_IsNaN) := gmath_IsNaN_sm  NN (show GamOk Pr (Gmath_IsNaN ) from GamOk.nil) namesA
noncomputable def kmath_Abs : Mo := mmath_Abs  NN
theorem okmath_Abs : SmOk Pr 106 (smM Rmath_Abs kmath_Abs) := gmath_Abs_sm  NN (show GamOk Pr (Gmath_Abs ) from (.cons ext54 rfl (.cons ext118 rfl GamOk.nil))) namesA
noncomputable def kmath_IsInf : Mo := mmath_IsInf kmath_Abs NN
theorem okmath_IsInf : SmOk Pr 97 (smM Rmath_IsInf kmath_IsInf) := gmath_IsInf_sm kmath_Abs NN (show GamOk Pr (Gmath_IsInf kmath_Abs) from (.cons (okmath_Abs) rfl GamOk.nil)) namesA
noncomputable def kround_finite : Mo := mround_finite kmath_IsNaN kmath_IsInf NN
theorem okround_finite : SmOk Pr 67 (smM Rround_finite kround_finite) := ground_finite_sm kmath_IsNaN kmath_IsInf NN (show GamOk Pr (Ground_finite kmath_IsNaN kmath_IsInf) from (.cons (okmath_IsNaN) rfl (.cons (okmath_IsInf) rfl GamOk.nil))) namesA
noncomputable def kround_plain : Mo := mround_plain  NN
theorem okround_plain : SmOk Pr 68 (smM Rround_plain kround_plain) := ground_plain_sm  NN (show GamOk Pr (Ground_plain ) from (.cons ext54 rfl GamOk.nil)) namesA
noncomputable def kround_sign : Mo := mround_sign  NN
theorem okround_sign : SmOk Pr 70 (smM Rround_sign kround_sign) := ground_sign_sm  NN (show GamOk Pr (Ground_sign ) from GamOk.nil) namesA
noncomputable def kmath_Signbit : Mo := mmath_Signbit  NN
theorem okmath_Signbit : SmOk Pr 61 (smM Rmath_Signbit kmath_Signbit) := gmath_Signbit_sm  NN (show GamOk Pr (Gmath_Signbit ) from (.cons ext54 rfl GamOk.nil)) namesA
noncomputable def kmath_Copysign : Mo := mmath_Copysign  NN
theorem okmath_Copysign : SmOk Pr 98 (smM Rmath_Copysign kmath_Copysign) := gmath_Copysign_sm  NN (show GamOk Pr (Gmath_Copysign ) from (.cons ext54 rfl (.cons ext118 rfl GamOk.nil))) namesA
noncomputable def kround_step : Mo := mround_step  NN
theorem okround_step : SmOk Pr 99 (smM Rround_step kround_step) := ground_step_sm  NN (show GamOk Pr (Ground_step ) from (.cons ext54 rfl (.cons ext118 rfl GamOk.nil))) namesA
noncomputable def kround_settle : Mo := mround_settle kmath_Signbit kmath_IsInf kmath_Copysign kround_step NN
theorem okround_settle : SmOk Pr 69 (smM Rround_settle kround_settle) := ground_settle_sm kmath_Signbit kmath_IsInf kmath_Copysign kround_step NN (show GamOk Pr (Ground_settle kmath_Signbit kmath_IsInf kmath_Copysign kround_step) from (.cons (okmath_Signbit) rfl (.cons (okmath_IsInf) rfl (.cons (okmath_Copysign) rfl (.cons (okround_step) rfl GamOk.nil))))) namesA
noncomputable def kround_Sqrt : Mo := mround_Sqrt kround_way kmath_Sqrt kround_finite kround_plain kround_sign kround_settle kround_of kround_times kround_cmp NN
theorem okround_Sqrt : SmOk Pr 55 (smM Rround_Sqrt kround_Sqrt) := ground_Sqrt_sm kround_way kmath_Sqrt kround_finite kround_plain kround_sign kround_settle kround_of kround_times kround_cmp NN (show GamOk Pr (Ground_Sqrt kround_way kmath_Sqrt kround_finite kround_plain kround_sign kround_settle kround_of kround_times kround_cmp) from (.cons (okround_way) rfl (.cons (okmath_Sqrt) rfl (.cons (okround_finite) rfl (.cons (okround_plain) rfl (.cons (okround_sign) rfl (.cons (okround_settle) rfl (.cons (stub_ok _ _) rfl (.cons (stub_ok _ _) rfl (.cons (stub_ok _ _) rfl (.cons ext71 rfl GamOk.nil))))))))))) namesA
noncomputable def kjoints_Length : Mo := mjoints_Length kjoints_Apart kround_Sqrt NN
theorem okjoints_Length : SmOk Pr 31 (smM Rjoints_Length kjoints_Length) := gjoints_Length_sm kjoints_Apart kround_Sqrt NN (show GamOk Pr (Gjoints_Length kjoints_Apart kround_Sqrt) from (.cons (okjoints_Apart) rfl (.cons (okround_Sqrt) rfl GamOk.nil))) namesA
noncomputable def kbars_one : Mo := mbars_one  NN
theorem okbars_one : SmOk Pr 34 (smM Rbars_one kbars_one) := gbars_one_sm  NN (show GamOk Pr (Gbars_one ) from GamOk.nil) namesA
noncomputable def kmath_Inf : Mo := mmath_Inf  NN
theorem okmath_Inf : SmOk Pr 128 (smM Rmath_Inf kmath_Inf) := gmath_Inf_sm  NN (show GamOk Pr (Gmath_Inf ) from (.cons ext118 rfl GamOk.nil)) namesA
noncomputable def kspan_Right : Mo := mspan_Right kmath_Inf NN
theorem okspan_Right : SmOk Pr 103 (smM Rspan_Right kspan_Right) := gspan_Right_sm kmath_Inf NN (show GamOk Pr (Gspan_Right kmath_Inf) from (.cons (okmath_Inf) rfl GamOk.nil)) namesA
noncomputable def kspan_right : Mo := mspan_right kspan_Right NN
theorem okspan_right : SmOk Pr 75 (smM Rspan_right kspan_right) := gspan_right_sm kspan_Right NN (show GamOk Pr (Gspan_right kspan_Right) from (.cons (okspan_Right) rfl GamOk.nil)) namesA
noncomputable def kbits_Place : Mo := mbits_Place kmath_Abs NN
theorem okbits_Place : SmOk Pr 190 (smM Rbits_Place kbits_Place) := gbits_Place_sm kmath_Abs NN (show GamOk Pr (Gbits_Place kmath_Abs) from (.cons (okmath_Abs) rfl (.cons ext54 rfl GamOk.nil))) namesA
noncomputable def kbits_rank : Mo := mbits_rank kbits_Place kmath_Signbit NN
theorem okbits_rank : SmOk Pr 163 (smM Rbits_rank kbits_rank) := gbits_rank_sm kbits_Place kmath_Signbit NN (show GamOk Pr (Gbits_rank kbits_Place kmath_Signbit) from (.cons (okbits_Place) rfl (.cons (okmath_Signbit) rfl GamOk.nil))) namesA
noncomputable def kcmp_isNaN_int64 : Mo := mcmp_isNaN_int64  NN
theorem okcmp_isNaN_int64 : SmOk Pr 191 (smM Rcmp_isNaN_int64 kcmp_isNaN_int64) := gcmp_isNaN_int64_sm  NN (show GamOk Pr (Gcmp_isNaN_int64 ) from GamOk.nil) namesA
noncomputable def kcmp_Compare_int64 : Mo := mcmp_Compare_int64 kcmp_isNaN_int64 NN
theorem okcmp_Compare_int64 : SmOk Pr 165 (smM Rcmp_Compare_int64 kcmp_Compare_int64) := gcmp_Compare_int64_sm kcmp_isNaN_int64 NN (show GamOk Pr (Gcmp_Compare_int64 kcmp_isNaN_int64) from (.cons (okcmp_isNaN_int64) rfl GamOk.nil)) namesA
noncomputable def kcmp_isNaN_int : Mo := mcmp_isNaN_int  NN
theorem okcmp_isNaN_int : SmOk Pr 192 (smM Rcmp_isNaN_int kcmp_isNaN_int) := gcmp_isNaN_int_sm  NN (show GamOk Pr (Gcmp_isNaN_int ) from GamOk.nil) namesA
noncomputable def kcmp_Compare_int : Mo := mcmp_Compare_int kcmp_isNaN_int NN
theorem okcmp_Compare_int : SmOk Pr 166 (smM Rcmp_Compare_int kcmp_Compare_int) := gcmp_Compare_int_sm kcmp_isNaN_int NN (show GamOk Pr (Gcmp_Compare_int kcmp_isNaN_int) from (.cons (okcmp_isNaN_int) rfl GamOk.nil)) namesA
noncomputable def kcmp_Or_int : Mo := mcmp_Or_int  NN
theorem okcmp_Or_int : SmOk Pr 164 (smM Rcmp_Or_int kcmp_Or_int) := gcmp_Or_int_sm  NN (show GamOk Pr (Gcmp_Or_int ) from GamOk.nil) namesA
noncomputable def kbits_Order : Mo := mbits_Order kbits_rank kcmp_Compare_int64 kcmp_Compare_int kcmp_Or_int NN
theorem okbits_Order : SmOk Pr 129 (smM Rbits_Order kbits_Order) := gbits_Order_sm kbits_rank kcmp_Compare_int64 kcmp_Compare_int kcmp_Or_int NN (show GamOk Pr (Gbits_Order kbits_rank kcmp_Compare_int64 kcmp_Compare_int kcmp_Or_int) from (.cons (okbits_rank) rfl (.cons (okcmp_Compare_int64) rfl (.cons (okcmp_Compare_int) rfl (.cons (okcmp_Or_int) rfl GamOk.nil))))) namesA
noncomputable def kspan_lesser : Mo := mspan_lesser kbits_Order NN
theorem okspan_lesser : SmOk Pr 104 (smM Rspan_lesser kspan_lesser) := gspan_lesser_sm kbits_Order NN (show GamOk Pr (Gspan_lesser kbits_Order) from (.cons (okbits_Order) rfl GamOk.nil)) namesA
noncomputable def kspan_greater : Mo := mspan_greater kbits_Order NN
theorem okspan_greater : SmOk Pr 105 (smM Rspan_greater kspan_greater) := gspan_greater_sm kbits_Order NN (show GamOk Pr (Gspan_greater kbits_Order) from (.cons (okbits_Order) rfl GamOk.nil)) namesA
noncomputable def kround_Mul : Mo := mround_Mul kround_way kround_finite kround_plain kround_sign kround_settle kmath_IsInf kround_of kround_times kround_cmp NN
theorem okround_Mul : SmOk Pr 80 (smM Rround_Mul kround_Mul) := ground_Mul_sm kround_way kround_finite kround_plain kround_sign kround_settle kmath_IsInf kround_of kround_times kround_cmp NN (show GamOk Pr (Ground_Mul kround_way kround_finite kround_plain kround_sign kround_settle kmath_IsInf kround_of kround_times kround_cmp) from (.cons (okround_way) rfl (.cons (okround_finite) rfl (.cons (okround_plain) rfl (.cons (okround_sign) rfl (.cons (okround_settle) rfl (.cons (okmath_IsInf) rfl (.cons (stub_ok _ _) rfl (.cons (stub_ok _ _) rfl (.cons (stub_ok _ _) rfl (.cons ext71 rfl GamOk.nil))))))))))) namesA
noncomputable def kspan_Mul_c1 : Mo := mspan_Mul_c1 kround_Mul NN
theorem okspan_Mul_c1 : SmOk Pr 79 (smM Rspan_Mul_c1 kspan_Mul_c1) := gspan_Mul_c1_sm kround_Mul NN (show GamOk Pr (Gspan_Mul_c1 kround_Mul) from (.cons (okround_Mul) rfl GamOk.nil)) namesA
noncomputable def kround_Div : Mo := mround_Div kround_way kround_finite kround_plain kround_sign kround_settle kmath_IsInf kround_of kround_times kround_cmp NN
theorem okround_Div : SmOk Pr 78 (smM Rround_Div kround_Div) := ground_Div_sm kround_way kround_finite kround_plain kround_sign kround_settle kmath_IsInf kround_of kround_times kround_cmp NN (show GamOk Pr (Ground_Div kround_way kround_finite kround_plain kround_sign kround_settle kmath_IsInf kround_of kround_times kround_cmp) from (.cons (okround_way) rfl (.cons (okround_finite) rfl (.cons (okround_plain) rfl (.cons (okround_sign) rfl (.cons (okround_settle) rfl (.cons (okmath_IsInf) rfl (.cons (stub_ok _ _) rfl (.cons (stub_ok _ _) rfl (.cons (stub_ok _ _) rfl (.cons ext71 rfl GamOk.nil))))))))))) namesA
noncomputable def kspan_Div_c1 : Mo := mspan_Div_c1 kround_Div NN
theorem okspan_Div_c1 : SmOk Pr 77 (smM Rspan_Div_c1 kspan_Div_c1) := gspan_Div_c1_sm kround_Div NN (show GamOk Pr (Gspan_Div_c1 kround_Div) from (.cons (okround_Div) rfl GamOk.nil)) namesA
noncomputable def kspan_corners_a : Mo := mspan_corners_a kspan_lesser kspan_greater kspan_Mul_c1 kspan_Div_c1 NN
theorem okspan_corners_a : XOk Pr 76 (smX Rspan_corners_a Xspan_corners_a kspan_corners_a) Xspan_corners_a := gspan_corners_a_sm kspan_lesser kspan_greater kspan_Mul_c1 kspan_Div_c1 NN (show GamOk Pr (Gspan_corners_a kspan_lesser kspan_greater kspan_Mul_c1 kspan_Div_c1) from (.cons (okspan_lesser) rfl (.cons (okspan_greater) rfl (.cons (okspan_Mul_c1) rfl (.cons (okspan_Div_c1) rfl GamOk.nil))))) namesA
noncomputable def kspan_corners_b : Mo := mspan_corners_b kspan_lesser kspan_greater kspan_Mul_c1 kspan_Div_c1 NN
theorem okspan_corners_b : XOk Pr 76 (smX Rspan_corners_b Xspan_corners_b kspan_corners_b) Xspan_corners_b := gspan_corners_b_sm kspan_lesser kspan_greater kspan_Mul_c1 kspan_Div_c1 NN (show GamOk Pr (Gspan_corners_b kspan_lesser kspan_greater kspan_Mul_c1 kspan_Div_c1) from (.cons (okspan_lesser) rfl (.cons (okspan_greater) rfl (.cons (okspan_Mul_c1) rfl (.cons (okspan_Div_c1) rfl GamOk.nil))))) namesA
noncomputable def kspan_Mul : Mo := mspan_Mul kspan_right kspan_Mul_c1 kspan_corners_a kspan_corners_b NN
theorem okspan_Mul : SmOk Pr 57 (smM Rspan_Mul kspan_Mul) := gspan_Mul_sm kspan_right kspan_Mul_c1 kspan_corners_a kspan_corners_b NN (show GamOk Pr (Gspan_Mul kspan_right kspan_Mul_c1 kspan_corners_a kspan_corners_b) from (.cons (okspan_right) rfl (.cons (okspan_Mul_c1) rfl (.consX rfl okspan_corners_a (.consX rfl okspan_corners_b GamOk.nil))))) namesA
noncomputable def kbars_times : Mo := mbars_times kspan_Mul NN
theorem okbars_times : SmOk Pr 33 (smM Rbars_times kbars_times) := gbars_times_sm kspan_Mul NN (show GamOk Pr (Gbars_times kspan_Mul) from (.cons (okspan_Mul) rfl GamOk.nil)) namesA
noncomputable def kspan_Div : Mo := mspan_Div kspan_right kspan_Div_c1 kspan_corners_a kspan_corners_b NN
theorem okspan_Div : SmOk Pr 56 (smM Rspan_Div kspan_Div) := gspan_Div_sm kspan_right kspan_Div_c1 kspan_corners_a kspan_corners_b NN (show GamOk Pr (Gspan_Div kspan_right kspan_Div_c1 kspan_corners_a kspan_corners_b) from (.cons (okspan_right) rfl (.cons (okspan_Div_c1) rfl (.consX rfl okspan_corners_a (.consX rfl okspan_corners_b GamOk.nil))))) namesA
noncomputable def kbars_spring : Mo := mbars_spring kspan_Div NN
theorem okbars_spring : SmOk Pr 32 (smM Rbars_spring kbars_spring) := gbars_spring_sm kspan_Div NN (show GamOk Pr (Gbars_spring kspan_Div) from (.cons (okspan_Div) rfl GamOk.nil)) namesA
noncomputable def kbars_stands : Mo := mbars_stands  NN
theorem okbars_stands : SmOk Pr 36 (smM Rbars_stands kbars_stands) := gbars_stands_sm  NN (show GamOk Pr (Gbars_stands ) from GamOk.nil) namesA
noncomputable def kbars_springs_c1 : Mo := mbars_springs_c1 kbars_one kbars_times kbars_spring NN
theorem okbars_springs_c1 : SmOk Pr 35 (smM Rbars_springs_c1 kbars_springs_c1) := gbars_springs_c1_sm kbars_one kbars_times kbars_spring NN (show GamOk Pr (Gbars_springs_c1 kbars_one kbars_times kbars_spring) from (.cons (okbars_one) rfl (.cons (okbars_times) rfl (.cons (okbars_spring) rfl GamOk.nil)))) namesA
noncomputable def kbars_springs_a : Mo := mbars_springs_a kjoints_Apart kjoints_Length kbars_one kbars_times kbars_spring kbars_stands kbars_springs_c1 NN
theorem okbars_springs_a : XOk Pr 13 (smX Rbars_springs_a Xbars_springs_a kbars_springs_a) Xbars_springs_a := gbars_springs_a_sm kjoints_Apart kjoints_Length kbars_one kbars_times kbars_spring kbars_stands kbars_springs_c1 NN (show GamOk Pr (Gbars_springs_a kjoints_Apart kjoints_Length kbars_one kbars_times kbars_spring kbars_stands kbars_springs_c1) from (.cons (okjoints_Apart) rfl (.cons (okjoints_Length) rfl (.cons (okbars_one) rfl (.cons (okbars_times) rfl (.cons (okbars_spring) rfl (.cons (okbars_stands) rfl (.cons (okbars_springs_c1) rfl GamOk.nil)))))))) namesA
noncomputable def kbars_Springs : Mo := mbars_Springs kbars_Check kbars_springs_a NN
theorem okbars_Springs : SmOk Pr 5 (smM Rbars_Springs kbars_Springs) := gbars_Springs_sm kbars_Check kbars_springs_a NN (show GamOk Pr (Gbars_Springs kbars_Check kbars_springs_a) from (.cons (okbars_Check) rfl (.consX rfl okbars_springs_a GamOk.nil))) namesA
noncomputable def kref18_Name : Mo := mref18_Name  NN
theorem okref18_Name : SmOk Pr 81 (smM Rref18_Name kref18_Name) := gref18_Name_sm  NN (show GamOk Pr (Gref18_Name ) from GamOk.nil) namesA
noncomputable def kref18_near : Mo := mref18_near  NN
theorem okref18_near : SmOk Pr 82 (smM Rref18_near kref18_near) := gref18_near_sm  NN (show GamOk Pr (Gref18_near ) from GamOk.nil) namesA
noncomputable def kref18_May : Mo := mref18_May kref18_Name kref18_near NN
theorem okref18_May : SmOk Pr 58 (smM Rref18_May kref18_May) := gref18_May_sm kref18_Name kref18_near NN (show GamOk Pr (Gref18_May kref18_Name kref18_near) from (.cons (okref18_Name) rfl (.cons (okref18_near) rfl GamOk.nil))) namesA
noncomputable def kref18_Check : Mo := mref18_Check kref18_May NN
theorem okref18_Check : SmOk Pr 37 (smM Rref18_Check kref18_Check) := gref18_Check_sm kref18_May NN (show GamOk Pr (Gref18_Check kref18_May) from (.cons (okref18_May) rfl GamOk.nil)) namesA
noncomputable def kref19_Named : Mo := mref19_Named  NN
theorem okref19_Named : SmOk Pr 59 (smM Rref19_Named kref19_Named) := gref19_Named_sm  NN (show GamOk Pr (Gref19_Named ) from GamOk.nil) namesA
noncomputable def kref19_Number : Mo := mref19_Number  NN
theorem okref19_Number : SmOk Pr 60 (smM Rref19_Number kref19_Number) := gref19_Number_sm  NN (show GamOk Pr (Gref19_Number ) from GamOk.nil) namesA
noncomputable def kref19_may : Mo := mref19_may kref19_Named kref19_Number kmath_Signbit NN
theorem okref19_may : SmOk Pr 38 (smM Rref19_may kref19_may) := gref19_may_sm kref19_Named kref19_Number kmath_Signbit NN (show GamOk Pr (Gref19_may kref19_Named kref19_Number kmath_Signbit) from (.cons (okref19_Named) rfl (.cons (okref19_Number) rfl (.cons (okmath_Signbit) rfl GamOk.nil)))) namesA
noncomputable def kref19_Check : Mo := mref19_Check kref18_Check kref19_may NN
theorem okref19_Check : SmOk Pr 14 (smM Rref19_Check kref19_Check) := gref19_Check_sm kref18_Check kref19_may NN (show GamOk Pr (Gref19_Check kref18_Check kref19_may) from (.cons (okref18_Check) rfl (.cons (okref19_may) rfl GamOk.nil))) namesA
noncomputable def kref19_Apart : Mo := mref19_Apart  NN
theorem okref19_Apart : SmOk Pr 15 (smM Rref19_Apart kref19_Apart) := gref19_Apart_sm  NN (show GamOk Pr (Gref19_Apart ) from GamOk.nil) namesA
noncomputable def kref19_kinds : Mo := mref19_kinds  NN
theorem okref19_kinds : SmOk Pr 16 (smM Rref19_kinds kref19_kinds) := gref19_kinds_sm  NN (show GamOk Pr (Gref19_kinds ) from GamOk.nil) namesA
noncomputable def kref03_Finite : Mo := mref03_Finite  NN
theorem okref03_Finite : SmOk Pr 83 (smM Rref03_Finite kref03_Finite) := gref03_Finite_sm  NN (show GamOk Pr (Gref03_Finite ) from GamOk.nil) namesA
noncomputable def kref03_middle : Mo := mref03_middle kmath_Abs NN
theorem okref03_middle : SmOk Pr 84 (smM Rref03_middle kref03_middle) := gref03_middle_sm kmath_Abs NN (show GamOk Pr (Gref03_middle kmath_Abs) from (.cons (okmath_Abs) rfl GamOk.nil)) namesA
noncomputable def kref03_sign : Mo := mref03_sign  NN
theorem okref03_sign : SmOk Pr 86 (smM Rref03_sign kref03_sign) := gref03_sign_sm  NN (show GamOk Pr (Gref03_sign ) from GamOk.nil) namesA
noncomputable def kref03_further : Mo := mref03_further  NN
theorem okref03_further : SmOk Pr 130 (smM Rref03_further kref03_further) := gref03_further_sm  NN (show GamOk Pr (Gref03_further ) from (.cons ext54 rfl (.cons ext118 rfl GamOk.nil))) namesA
noncomputable def kref03_nearer : Mo := mref03_nearer  NN
theorem okref03_nearer : SmOk Pr 131 (smM Rref03_nearer kref03_nearer) := gref03_nearer_sm  NN (show GamOk Pr (Gref03_nearer ) from (.cons ext54 rfl (.cons ext118 rfl GamOk.nil))) namesA
noncomputable def kref03_up : Mo := mref03_up kref03_further kref03_nearer NN
theorem okref03_up : SmOk Pr 108 (smM Rref03_up kref03_up) := gref03_up_sm kref03_further kref03_nearer NN (show GamOk Pr (Gref03_up kref03_further kref03_nearer) from (.cons (okref03_further) rfl (.cons (okref03_nearer) rfl (.cons ext118 rfl GamOk.nil)))) namesA
noncomputable def kref03_down : Mo := mref03_down kref03_up NN
theorem okref03_down : SmOk Pr 107 (smM Rref03_down kref03_down) := gref03_down_sm kref03_up NN (show GamOk Pr (Gref03_down kref03_up) from (.cons (okref03_up) rfl GamOk.nil)) namesA
noncomputable def kref03_side : Mo := mref03_side kmath_Signbit kref03_down kref03_up NN
theorem okref03_side : SmOk Pr 85 (smM Rref03_side kref03_side) := gref03_side_sm kmath_Signbit kref03_down kref03_up NN (show GamOk Pr (Gref03_side kmath_Signbit kref03_down kref03_up) from (.cons (okmath_Signbit) rfl (.cons (okref03_down) rfl (.cons (okref03_up) rfl GamOk.nil)))) namesA
noncomputable def kref03_Sqrt : Mo := mref03_Sqrt kmath_Sqrt kref03_Finite kref03_middle kref03_sign kref03_side kref03_Exact kref00_Times kref00_Compare NN
theorem okref03_Sqrt : SmOk Pr 62 (smM Rref03_Sqrt kref03_Sqrt) := gref03_Sqrt_sm kmath_Sqrt kref03_Finite kref03_middle kref03_sign kref03_side kref03_Exact kref00_Times kref00_Compare NN (show GamOk Pr (Gref03_Sqrt kmath_Sqrt kref03_Finite kref03_middle kref03_sign kref03_side kref03_Exact kref00_Times kref00_Compare) from (.cons (okmath_Sqrt) rfl (.cons (okref03_Finite) rfl (.cons (okref03_middle) rfl (.cons (okref03_sign) rfl (.cons (okref03_side) rfl (.cons (stub_ok _ _) rfl (.cons (stub_ok _ _) rfl (.cons (stub_ok _ _) rfl (.cons ext71 rfl GamOk.nil)))))))))) namesA
noncomputable def kref19_Length : Mo := mref19_Length kref03_Sqrt NN
theorem okref19_Length : SmOk Pr 39 (smM Rref19_Length kref19_Length) := gref19_Length_sm kref03_Sqrt NN (show GamOk Pr (Gref19_Length kref03_Sqrt) from (.cons (okref03_Sqrt) rfl GamOk.nil)) namesA
noncomputable def kref19_one : Mo := mref19_one  NN
theorem okref19_one : SmOk Pr 40 (smM Rref19_one kref19_one) := gref19_one_sm  NN (show GamOk Pr (Gref19_one ) from GamOk.nil) namesA
noncomputable def kref05_finite : Mo := mref05_finite  NN
theorem okref05_finite : SmOk Pr 114 (smM Rref05_finite kref05_finite) := gref05_finite_sm  NN (show GamOk Pr (Gref05_finite ) from GamOk.nil) namesA
noncomputable def kref05_Right : Mo := mref05_Right kref05_finite NN
theorem okref05_Right : SmOk Pr 90 (smM Rref05_Right kref05_Right) := gref05_Right_sm kref05_finite NN (show GamOk Pr (Gref05_Right kref05_finite) from (.cons (okref05_finite) rfl GamOk.nil)) namesA
noncomputable def kref03_great : Mo := mref03_great kmath_Copysign NN
theorem okref03_great : SmOk Pr 143 (smM Rref03_great kref03_great) := gref03_great_sm kmath_Copysign NN (show GamOk Pr (Gref03_great kmath_Copysign) from (.cons (okmath_Copysign) rfl GamOk.nil)) namesA
noncomputable def kref03_Mul : Mo := mref03_Mul kref03_Finite kref03_great kref03_middle kref03_sign kref03_side kref03_Exact kref00_Times kref00_Compare NN
theorem okref03_Mul : SmOk Pr 117 (smM Rref03_Mul kref03_Mul) := gref03_Mul_sm kref03_Finite kref03_great kref03_middle kref03_sign kref03_side kref03_Exact kref00_Times kref00_Compare NN (show GamOk Pr (Gref03_Mul kref03_Finite kref03_great kref03_middle kref03_sign kref03_side kref03_Exact kref00_Times kref00_Compare) from (.cons (okref03_Finite) rfl (.cons (okref03_great) rfl (.cons (okref03_middle) rfl (.cons (okref03_sign) rfl (.cons (okref03_side) rfl (.cons (stub_ok _ _) rfl (.cons (stub_ok _ _) rfl (.cons (stub_ok _ _) rfl (.cons ext71 rfl GamOk.nil)))))))))) namesA
noncomputable def kref05_times : Mo := mref05_times kref05_finite kref03_Mul NN
theorem okref05_times : SmOk Pr 94 (smM Rref05_times kref05_times) := gref05_times_sm kref05_finite kref03_Mul NN (show GamOk Pr (Gref05_times kref05_finite kref03_Mul) from (.cons (okref05_finite) rfl (.cons (okref03_Mul) rfl GamOk.nil))) namesA
noncomputable def kref01_fields : Mo := mref01_fields  NN
theorem okref01_fields : SmOk Pr 142 (smM Rref01_fields kref01_fields) := gref01_fields_sm  NN (show GamOk Pr (Gref01_fields ) from (.cons ext54 rfl GamOk.nil)) namesA
noncomputable def kref01_Kind : Mo := mref01_Kind kref01_fields NN
theorem okref01_Kind : SmOk Pr 173 (smM Rref01_Kind kref01_Kind) := gref01_Kind_sm kref01_fields NN (show GamOk Pr (Gref01_Kind kref01_fields) from (.cons (okref01_fields) rfl GamOk.nil)) namesA
noncomputable def kref01_Nan : Mo := mref01_Nan kref01_Kind NN
theorem okref01_Nan : SmOk Pr 140 (smM Rref01_Nan kref01_Nan) := gref01_Nan_sm kref01_Kind NN (show GamOk Pr (Gref01_Nan kref01_Kind) from (.cons (okref01_Kind) rfl GamOk.nil)) namesA
noncomputable def kref01_Place : Mo := mref01_Place kref01_Nan kref01_fields NN
theorem okref01_Place : SmOk Pr 141 (smM Rref01_Place kref01_Place) := gref01_Place_sm kref01_Nan kref01_fields NN (show GamOk Pr (Gref01_Place kref01_Nan kref01_fields) from (.cons (okref01_Nan) rfl (.cons (okref01_fields) rfl GamOk.nil))) namesA
noncomputable def kref01_Order : Mo := mref01_Order kref01_Nan kref01_Place kref01_fields NN
theorem okref01_Order : SmOk Pr 115 (smM Rref01_Order kref01_Order) := gref01_Order_sm kref01_Nan kref01_Place kref01_fields NN (show GamOk Pr (Gref01_Order kref01_Nan kref01_Place kref01_fields) from (.cons (okref01_Nan) rfl (.cons (okref01_Place) rfl (.cons (okref01_fields) rfl GamOk.nil)))) namesA
noncomputable def kref05_lesser : Mo := mref05_lesser kref01_Order NN
theorem okref05_lesser : SmOk Pr 91 (smM Rref05_lesser kref05_lesser) := gref05_lesser_sm kref01_Order NN (show GamOk Pr (Gref05_lesser kref01_Order) from (.cons (okref01_Order) rfl GamOk.nil)) namesA
noncomputable def kref05_greater : Mo := mref05_greater kref01_Order NN
theorem okref05_greater : SmOk Pr 93 (smM Rref05_greater kref05_greater) := gref05_greater_sm kref01_Order NN (show GamOk Pr (Gref05_greater kref01_Order) from (.cons (okref01_Order) rfl GamOk.nil)) namesA
noncomputable def kref05_Mul : Mo := mref05_Mul kref05_Right kref05_times kref05_lesser kref05_greater NN
theorem okref05_Mul : SmOk Pr 64 (smM Rref05_Mul kref05_Mul) := gref05_Mul_sm kref05_Right kref05_times kref05_lesser kref05_greater NN (show GamOk Pr (Gref05_Mul kref05_Right kref05_times kref05_lesser kref05_greater) from (.cons (okref05_Right) rfl (.cons (okref05_times) rfl (.cons (okref05_lesser) rfl (.cons (okref05_greater) rfl GamOk.nil))))) namesA
noncomputable def kref19_mul : Mo := mref19_mul kref05_Mul NN
theorem okref19_mul : SmOk Pr 42 (smM Rref19_mul kref19_mul) := gref19_mul_sm kref05_Mul NN (show GamOk Pr (Gref19_mul kref05_Mul) from (.cons (okref05_Mul) rfl GamOk.nil)) namesA
noncomputable def kref03_Div : Mo := mref03_Div kref03_Finite kref03_great kref03_middle kref03_sign kref03_side kref03_Exact kref00_Times kref00_Compare NN
theorem okref03_Div : SmOk Pr 116 (smM Rref03_Div kref03_Div) := gref03_Div_sm kref03_Finite kref03_great kref03_middle kref03_sign kref03_side kref03_Exact kref00_Times kref00_Compare NN (show GamOk Pr (Gref03_Div kref03_Finite kref03_great kref03_middle kref03_sign kref03_side kref03_Exact kref00_Times kref00_Compare) from (.cons (okref03_Finite) rfl (.cons (okref03_great) rfl (.cons (okref03_middle) rfl (.cons (okref03_sign) rfl (.cons (okref03_side) rfl (.cons (stub_ok _ _) rfl (.cons (stub_ok _ _) rfl (.cons (stub_ok _ _) rfl (.cons ext71 rfl GamOk.nil)))))))))) namesA
noncomputable def kref05_over : Mo := mref05_over kref05_finite kref03_Div NN
theorem okref05_over : SmOk Pr 92 (smM Rref05_over kref05_over) := gref05_over_sm kref05_finite kref03_Div NN (show GamOk Pr (Gref05_over kref05_finite kref03_Div) from (.cons (okref05_finite) rfl (.cons (okref03_Div) rfl GamOk.nil))) namesA
noncomputable def kref05_Div : Mo := mref05_Div kref05_Right kref05_over kref05_lesser kref05_greater NN
theorem okref05_Div : SmOk Pr 63 (smM Rref05_Div kref05_Div) := gref05_Div_sm kref05_Right kref05_over kref05_lesser kref05_greater NN (show GamOk Pr (Gref05_Div kref05_Right kref05_over kref05_lesser kref05_greater) from (.cons (okref05_Right) rfl (.cons (okref05_over) rfl (.cons (okref05_lesser) rfl (.cons (okref05_greater) rfl GamOk.nil))))) namesA
noncomputable def kref19_div : Mo := mref19_div kref05_Div NN
theorem okref19_div : SmOk Pr 41 (smM Rref19_div kref19_div) := gref19_div_sm kref05_Div NN (show GamOk Pr (Gref19_div kref05_Div) from (.cons (okref05_Div) rfl GamOk.nil)) namesA
noncomputable def kref19_stiff : Mo := mref19_stiff kref19_Length kref19_one kref19_mul kref19_div NN
theorem okref19_stiff : SmOk Pr 17 (smM Rref19_stiff kref19_stiff) := gref19_stiff_sm kref19_Length kref19_one kref19_mul kref19_div NN (show GamOk Pr (Gref19_stiff kref19_Length kref19_one kref19_mul kref19_div) from (.cons (okref19_Length) rfl (.cons (okref19_one) rfl (.cons (okref19_mul) rfl (.cons (okref19_div) rfl GamOk.nil))))) namesA
noncomputable def kref19_row : Mo := mref19_row  NN
theorem okref19_row : SmOk Pr 18 (smM Rref19_row kref19_row) := gref19_row_sm  NN (show GamOk Pr (Gref19_row ) from GamOk.nil) namesA
noncomputable def kref19_Springs : Mo := mref19_Springs kref19_Check kref19_Apart kref19_kinds kref19_stiff kref19_row NN
theorem okref19_Springs : SmOk Pr 6 (smM Rref19_Springs kref19_Springs) := gref19_Springs_sm kref19_Check kref19_Apart kref19_kinds kref19_stiff kref19_row NN (show GamOk Pr (Gref19_Springs kref19_Check kref19_Apart kref19_kinds kref19_stiff kref19_row) from (.cons (okref19_Check) rfl (.cons (okref19_Apart) rfl (.cons (okref19_kinds) rfl (.cons (okref19_stiff) rfl (.cons (okref19_row) rfl GamOk.nil)))))) namesA
noncomputable def kkit_SameFloat : Mo := mkit_SameFloat  NN
theorem okkit_SameFloat : SmOk Pr 44 (smM Rkit_SameFloat kkit_SameFloat) := gkit_SameFloat_sm  NN (show GamOk Pr (Gkit_SameFloat ) from (.cons ext54 rfl GamOk.nil)) namesA
noncomputable def kkit_SameSpan : Mo := mkit_SameSpan kkit_SameFloat NN
theorem okkit_SameSpan : SmOk Pr 43 (smM Rkit_SameSpan kkit_SameSpan) := gkit_SameSpan_sm kkit_SameFloat NN (show GamOk Pr (Gkit_SameSpan kkit_SameFloat) from (.cons (okkit_SameFloat) rfl GamOk.nil)) namesA
noncomputable def kkit_SameSpring : Mo := mkit_SameSpring kkit_SameSpan kkit_SameFloat NN
theorem okkit_SameSpring : SmOk Pr 19 (smM Rkit_SameSpring kkit_SameSpring) := gkit_SameSpring_sm kkit_SameSpan kkit_SameFloat NN (show GamOk Pr (Gkit_SameSpring kkit_SameSpan kkit_SameFloat) from (.cons (okkit_SameSpan) rfl (.cons (okkit_SameFloat) rfl GamOk.nil))) namesA
noncomputable def kkit_SameSprings : Mo := mkit_SameSprings kkit_SameSpring NN
theorem okkit_SameSprings : SmOk Pr 7 (smM Rkit_SameSprings kkit_SameSprings) := gkit_SameSprings_sm kkit_SameSpring NN (show GamOk Pr (Gkit_SameSprings kkit_SameSpring) from (.cons (okkit_SameSpring) rfl GamOk.nil)) namesA
noncomputable def kkit_SameJoints : Mo := mkit_SameJoints  NN
theorem okkit_SameJoints : SmOk Pr 45 (smM Rkit_SameJoints kkit_SameJoints) := gkit_SameJoints_sm  NN (show GamOk Pr (Gkit_SameJoints ) from GamOk.nil) namesA
noncomputable def kkit_SameMember : Mo := mkit_SameMember kkit_SameFloat NN
theorem okkit_SameMember : SmOk Pr 47 (smM Rkit_SameMember kkit_SameMember) := gkit_SameMember_sm kkit_SameFloat NN (show GamOk Pr (Gkit_SameMember kkit_SameFloat) from (.cons (okkit_SameFloat) rfl GamOk.nil)) namesA
noncomputable def kkit_SameMembers : Mo := mkit_SameMembers kkit_SameMember NN
theorem okkit_SameMembers : SmOk Pr 46 (smM Rkit_SameMembers kkit_SameMembers) := gkit_SameMembers_sm kkit_SameMember NN (show GamOk Pr (Gkit_SameMembers kkit_SameMember) from (.cons (okkit_SameMember) rfl GamOk.nil)) namesA
noncomputable def kkit_SamePlan : Mo := mkit_SamePlan kkit_SameJoints kkit_SameMembers NN
theorem okkit_SamePlan : SmOk Pr 20 (smM Rkit_SamePlan kkit_SamePlan) := gkit_SamePlan_sm kkit_SameJoints kkit_SameMembers NN (show GamOk Pr (Gkit_SamePlan kkit_SameJoints kkit_SameMembers) from (.cons (okkit_SameJoints) rfl (.cons (okkit_SameMembers) rfl GamOk.nil))) namesA
noncomputable def kkit_KeptJoints : Mo := mkit_KeptJoints kkit_markJoint NN
theorem okkit_KeptJoints : SmOk Pr 21 (smM Rkit_KeptJoints kkit_KeptJoints) := gkit_KeptJoints_sm kkit_markJoint NN (show GamOk Pr (Gkit_KeptJoints kkit_markJoint) from (.cons (okkit_markJoint) rfl GamOk.nil)) namesA
noncomputable def kkit_KeptMembers : Mo := mkit_KeptMembers kkit_SameMember kkit_markMember NN
theorem okkit_KeptMembers : SmOk Pr 22 (smM Rkit_KeptMembers kkit_KeptMembers) := gkit_KeptMembers_sm kkit_SameMember kkit_markMember NN (show GamOk Pr (Gkit_KeptMembers kkit_SameMember kkit_markMember) from (.cons (okkit_SameMember) rfl (.cons (okkit_markMember) rfl GamOk.nil))) namesA
noncomputable def kkit_KeptPlan : Mo := mkit_KeptPlan kkit_SamePlan kkit_KeptJoints kkit_KeptMembers NN
theorem okkit_KeptPlan : SmOk Pr 8 (smM Rkit_KeptPlan kkit_KeptPlan) := gkit_KeptPlan_sm kkit_SamePlan kkit_KeptJoints kkit_KeptMembers NN (show GamOk Pr (Gkit_KeptPlan kkit_SamePlan kkit_KeptJoints kkit_KeptMembers) from (.cons (okkit_SamePlan) rfl (.cons (okkit_KeptJoints) rfl (.cons (okkit_KeptMembers) rfl GamOk.nil)))) namesA
noncomputable def klaw19_beam : Mo := mlaw19_beam  NN
theorem oklaw19_beam : SmOk Pr 24 (smM Rlaw19_beam klaw19_beam) := glaw19_beam_sm  NN (show GamOk Pr (Glaw19_beam ) from GamOk.nil) namesA
noncomputable def klaw19_three : Mo := mlaw19_three  NN
theorem oklaw19_three : SmOk Pr 23 (smM Rlaw19_three klaw19_three) := glaw19_three_sm  NN (show GamOk Pr (Glaw19_three ) from GamOk.nil) namesA
noncomputable def kbars_places : Mo := mbars_places kbars_stands NN
theorem okbars_places : SmOk Pr 48 (smM Rbars_places kbars_places) := gbars_places_sm kbars_stands NN (show GamOk Pr (Gbars_places kbars_stands) from (.cons (okbars_stands) rfl GamOk.nil)) namesA
noncomputable def kbars_Unknowns : Mo := mbars_Unknowns kbars_Check kbars_places NN
theorem okbars_Unknowns : SmOk Pr 25 (smM Rbars_Unknowns kbars_Unknowns) := gbars_Unknowns_sm kbars_Check kbars_places NN (show GamOk Pr (Gbars_Unknowns kbars_Check kbars_places) from (.cons (okbars_Check) rfl (.cons (okbars_places) rfl GamOk.nil))) namesA
noncomputable def klaw19_awake : Mo := mlaw19_awake klaw19_beam klaw19_three kbars_Springs kbars_Unknowns NN
theorem oklaw19_awake : SmOk Pr 9 (smM Rlaw19_awake klaw19_awake) := glaw19_awake_sm klaw19_beam klaw19_three kbars_Springs kbars_Unknowns NN (show GamOk Pr (Glaw19_awake klaw19_beam klaw19_three kbars_Springs kbars_Unknowns) from (.cons (oklaw19_beam) rfl (.cons (oklaw19_three) rfl (.cons (okbars_Springs) rfl (.cons (okbars_Unknowns) rfl GamOk.nil))))) namesA
noncomputable def klaw19_BarsSprings : Mo := mlaw19_BarsSprings kkit_LentPlan kbars_Springs kref19_Springs kkit_SameSprings kkit_KeptPlan klaw19_awake NN
theorem oklaw19_BarsSprings : SmOk Pr 3 (smM Rlaw19_BarsSprings klaw19_BarsSprings) := glaw19_BarsSprings_sm kkit_LentPlan kbars_Springs kref19_Springs kkit_SameSprings kkit_KeptPlan klaw19_awake NN (show GamOk Pr (Glaw19_BarsSprings kkit_LentPlan kbars_Springs kref19_Springs kkit_SameSprings kkit_KeptPlan klaw19_awake) from (.cons (okkit_LentPlan) rfl (.cons (okbars_Springs) rfl (.cons (okref19_Springs) rfl (.cons (okkit_SameSprings) rfl (.cons (okkit_KeptPlan) rfl (.cons (oklaw19_awake) rfl GamOk.nil))))))) namesA
end Go.Proofs.Tryz
end
section
namespace Go.Proofs.Tryz
open Go Go.Am Ieee.Pos
set_option maxRecDepth 100000

abbrev F (x : Nat) : AV := .flt .f64 (some x)
/-- A positive normal word whose exponent field lies from lo to hi. -/
def In (lo hi x : Nat) : Prop := Norm x ∧ lo ≤ ex x ∧ ex x ≤ hi
theorem In.mono {a b c d x : Nat} (h : In a b x) (h1 : c ≤ a) (h2 : b ≤ d) : In c d x := ⟨h.1, Nat.le_trans h1 h.2.1, Nat.le_trans h.2.2 h2⟩

theorem ford_d (x y : Nat) : ford .f64 (some x) (some y) = Ieee.double.order x y := rfl
theorem ford_n {x y : Nat} (hx : Norm x) (hy : Norm y) : ford .f64 (some x) (some y) = some (compare x y) := order_norm hx hy
theorem ford_0 {x : Nat} (hx : Norm x) : ford .f64 (some x) (some 0) = some .gt := order_0 hx
theorem ford_s {x : Nat} (hx : Norm x) : ford .f64 (some x) (some x) = some .eq := by rw [ford_n hx hx, cmp_eq]
theorem fsub {x : Nat} (hx : Norm x) : farith .sub .f64 (some x) (some x) = some 0 := sub_self hx
theorem c_lt (a b : Nat) : (some (compare a b) == some Ordering.lt) = decide (a < b) := by
  rcases Nat.lt_trichotomy a b with h | h | h
  · rw [cmp_lt h, decide_eq_true h]; rfl
  · subst h; rw [cmp_eq, decide_eq_false (by omega)]; rfl
  · rw [cmp_gt h, decide_eq_false (by omega)]; rfl
theorem c_gt (a b : Nat) : (some (compare a b) == some Ordering.gt) = decide (b < a) := by
  rcases Nat.lt_trichotomy a b with h | h | h
  · rw [cmp_lt h, decide_eq_false (by omega)]; rfl
  · subst h; rw [cmp_eq, decide_eq_false (by omega)]; rfl
  · rw [cmp_gt h, decide_eq_true h]; rfl
theorem c_eq (a b : Nat) : (some (compare a b) == some Ordering.eq) = decide (a = b) := by
  rcases Nat.lt_trichotomy a b with h | h | h
  · rw [cmp_lt h, decide_eq_false (by omega)]; rfl
  · subst h; rw [cmp_eq, decide_eq_true rfl]; rfl
  · rw [cmp_gt h, decide_eq_false (by omega)]; rfl

theorem wrapu {n : Nat} (h : n < 18446744073709551616) : IntKind.u64.wrap ((n : Nat) : Int) = n := by
  rw [IntKind.wrap_u64]; omega
theorem wrapi {n : Int} (h1 : -9223372036854775808 ≤ n) (h2 : n < 9223372036854775808) : IntKind.i64.wrap n = n := by
  rw [IntKind.wrap_i64]; omega

theorem okF (o : Option Nat) : okM [RS.one (LK.f .f64)] (some (.flt .f64 o)) = true := rfl
theorem okQ (b : Bool) : okM [RS.one LK.b] (some (.bool b)) = true := rfl
theorem okI (n : Int) : okM [RS.one (LK.i .i64)] (some (.int .i64 n)) = true := rfl
theorem okI8 (n : Int) : okM [RS.one (LK.i .i8)] (some (.int .i8 n)) = true := rfl
theorem okIB (n : Int) (b : Bool) : okM [RS.one (LK.i .i64), RS.one LK.b] (some (.tup [.int .i64 n, .bool b])) = true := rfl
theorem okII (n m : Int) : okM [RS.one (LK.i .i64), RS.one (LK.i .i64)] (some (.tup [.int .i64 n, .int .i64 m])) = true := rfl
theorem okFF (o p : Option Nat) : okM [RS.agg [LK.f .f64, LK.f .f64]] (some (.agg [.flt .f64 o, .flt .f64 p])) = true := rfl
theorem okFFI (o p : Option Nat) (n : Int) : okM [RS.agg [LK.f .f64, LK.f .f64], RS.one (LK.i .i64)] (some (.tup [.agg [.flt .f64 o, .flt .f64 p], .int .i64 n])) = true := rfl
theorem gV (v : AV) : getV (some v) = v := rfl
theorem tF (k : FloatKind) (x : Option Nat) : toF (.flt k x) = x := rfl
theorem tB (b : Bool) : toB (.bool b) = b := rfl
theorem tI (k : IntKind) (n : Int) : toI (.int k n) = n := rfl
theorem tC (l : List AV) : toC (.agg l) = l := rfl
theorem tT (l : List AV) : toT (.tup l) = l := rfl
theorem hD (a : AV) (l : List AV) : (a :: l).headD .dead = a := rfl
theorem fF (x : Nat) : fitK (LK.f .f64) (F x) = true := rfl
theorem okBits (x : Nat) : sBits.ok [F x] = true := rfl
theorem okFrom (n : Int) : sFrom.ok [.int .u64 n] = true := rfl
theorem okFma (a b c : Option Nat) : sFma.ok [.flt .f64 a, .flt .f64 b, .flt .f64 c] = true := rfl

section
variable {x : Nat} (hx : Norm x)
include hx
theorem k_abs : kmath_Abs [F x] = some (F x) := by
  show gmath_Abs NN (some x) = _
  unfold gmath_Abs
  rw [okBits, ck_true, okFrom, ck_true, Option.getD_some, abs_word hx.1, wrapu (by have := hx.1; omega)]
  rfl
omit hx in
theorem norm_max : Norm 9218868437227405311 := by unfold Norm ex; omega
theorem k_nan : kmath_IsNaN [F x] = some (.bool false) := by
  show some (AV.bool (ford .f64 (some x) (some x) != some Ordering.eq)) = _
  rw [ford_s hx]; rfl
theorem k_inf0 : kmath_IsInf [F x, .int .i64 0] = some (.bool false) := by
  show gmath_IsInf kmath_Abs NN (some x) 0 = _
  unfold gmath_IsInf
  rw [k_abs hx, okF, ck_true, gV, tF, ford_n hx norm_max, c_gt, decide_eq_false (by have := hx.2.2; unfold ex at this; omega)]
  rfl
theorem k_signbit : kmath_Signbit [F x] = some (.bool false) := by
  show some (AV.bool (decide (IntKind.i64.wrap ((x : Nat) : Int) < 0))) = _
  rw [wrapi (by omega) (by have := hx.1; omega), decide_eq_false (by omega)]
theorem k_Finite : kref03_Finite [F x] = some (.bool true) := by
  show some (AV.bool (ford .f64 (farith .sub .f64 (some x) (some x)) (some 0) == some Ordering.eq)) = _
  rw [fsub hx]; rfl
theorem k_finite5 : kref05_finite [F x] = some (.bool true) := by
  show some (AV.bool (ford .f64 (farith .sub .f64 (some x) (some x)) (some 0) == some Ordering.eq)) = _
  rw [fsub hx]; rfl
end

theorem wrap_s {i : Nat} (h : i < 4611686018427387904) : IntKind.i64.wrap ((i : Int) + 1) = ((i + 1 : Nat) : Int) := by
  rw [wrapi] <;> omega

theorem finite_all (n r : Nat) (hn : n < 4611686018427387904) (g : Ge) (w : Nat → Nat) (hg : ∀ i, i < n → g i 0 = F (w i)) (hw : ∀ i, i < n → Norm (w i)) (kx0 : Bool → Option AV) (kx1 : Option AV) :
    ∀ (m q i : Nat), i + m = n → ground_finite_l0 kmath_IsNaN kmath_IsInf NN kx0 kx1 n r g n (q + m + 1) i = kx1
  | 0, q, i, h => by
    obtain rfl : i = n := by omega
    show ground_finite_l0_step kmath_IsNaN kmath_IsInf NN _ kx0 kx1 i r g i i = _
    unfold ground_finite_l0_step
    rw [decide_eq_false (by omega), cond_false]
  | m + 1, q, i, h => by
    have ih := finite_all n r hn g w hg hw kx0 kx1 m q (i + 1) (by omega)
    show ground_finite_l0_step kmath_IsNaN kmath_IsInf NN (ground_finite_l0 kmath_IsNaN kmath_IsInf NN kx0 kx1 n r g n (q + m + 1)) kx0 kx1 n r g n i = _
    unfold ground_finite_l0_step
    rw [decide_eq_true (show (i : Int) < n by omega), decide_eq_true (show (0 : Int) ≤ i by omega), wrap_s (by omega), Int.toNat_natCast, hg i (by omega), fF, tF, k_nan (hw i (by omega)), k_inf0 (hw i (by omega)), ih]
    rfl
theorem k_finite (n r : Nat) (hn : n < 1000) (g : Ge) (w : Nat → Nat) (hg : ∀ i, i < n → g i 0 = F (w i)) (hw : ∀ i, i < n → Norm (w i)) : kround_finite [.ro 1 n r g] = some (.bool true) := by
  show ground_finite kmath_IsNaN kmath_IsInf NN n r g = _
  unfold ground_finite
  have e := finite_all n r (by omega) g w hg hw (fun b => some (AV.bool b)) (some (AV.bool true)) n (NN - n - 1) 0 (by omega)
  rw [show NN - n - 1 + n + 1 = NN by unfold NN; omega] at e
  exact e

theorem plain_all (n r : Nat) (hn : n < 4611686018427387904) (g : Ge) (w : Nat → Nat) (hg : ∀ i, i < n → g i 0 = F (w i)) (hw : ∀ i, i < n → In 200 1900 (w i)) (kx0 : Bool → Option AV) (kx1 : Option AV) :
    ∀ (m q i : Nat), i + m = n → ground_plain_l0 NN kx0 kx1 n r g n (q + m + 1) i = kx1
  | 0, q, i, h => by
    obtain rfl : i = n := by omega
    show ground_plain_l0_step NN _ kx0 kx1 i r g i i = _
    unfold ground_plain_l0_step
    rw [decide_eq_false (by omega), cond_false]
  | m + 1, q, i, h => by
    have ih := plain_all n r hn g w hg hw kx0 kx1 m q (i + 1) (by omega)
    show ground_plain_l0_step NN (ground_plain_l0 NN kx0 kx1 n r g n (q + m + 1)) kx0 kx1 n r g n i = _
    unfold ground_plain_l0_step
    obtain ⟨h1, h2, h3⟩ := hw i (by omega)
    have h4 := h1.1
    rw [decide_eq_true (show (i : Int) < n by omega), decide_eq_true (show (0 : Int) ≤ i by omega), wrap_s (by omega), Int.toNat_natCast, hg i (by omega), fF, tF, okBits, Option.getD_some, field_word h1.1, wrapu (by unfold ex at h3; unfold ex; omega), decide_eq_false (show ¬ ((ex (w i) : Nat) : Int) < 200 by omega), decide_eq_false (show ¬ ((ex (w i) : Nat) : Int) > 1900 by omega), ih]
    rfl
theorem k_plain (n r : Nat) (hn : n < 1000) (g : Ge) (w : Nat → Nat) (hg : ∀ i, i < n → g i 0 = F (w i)) (hw : ∀ i, i < n → In 200 1900 (w i)) : kround_plain [.ro 1 n r g] = some (.bool true) := by
  show ground_plain NN n r g = _
  unfold ground_plain
  have e := plain_all n r (by omega) g w hg hw (fun b => some (AV.bool b)) (some (AV.bool true)) n (NN - n - 1) 0 (by omega)
  rw [show NN - n - 1 + n + 1 = NN by unfold NN; omega] at e
  exact e

/-- The sign of a float: 1, -1, or 0. -/
def sg (o : Option Nat) : Int := bif ford .f64 o (some 0) == some Ordering.gt then 1 else bif ford .f64 o (some 0) == some Ordering.lt then -1 else 0
theorem k_sign (o : Option Nat) : kround_sign [.flt .f64 o] = some (.int .i64 (sg o)) := by
  show ground_sign NN o = _
  unfold ground_sign sg
  generalize ford .f64 o (some 0) = c
  rcases c with _ | c
  · rfl
  · cases c <;> rfl
theorem k_sign3 (o : Option Nat) : kref03_sign [.flt .f64 o] = some (.int .i64 (sg o)) := by
  show gref03_sign NN o = _
  unfold gref03_sign sg
  generalize ford .f64 o (some 0) = c
  rcases c with _ | c
  · rfl
  · cases c <;> rfl
theorem sg_pos {x : Nat} (hx : Norm x) : sg (some x) = 1 := by unfold sg; rw [ford_0 hx]; rfl
theorem sg_wrap (o : Option Nat) {x : Nat} (hx : Norm x) : IntKind.i64.wrap (sg o * sg (some x)) = sg o := by
  rw [sg_pos hx, Int.mul_one]
  unfold sg
  cases ford .f64 o (some 0) == some Ordering.gt <;> cases ford .f64 o (some 0) == some Ordering.lt <;> rfl

/-- The three ways of rounding that are used. -/
def Way (m : Int) : Prop := m = 0 ∨ m = 1 ∨ m = 2
theorem k_way {m : Int} (h : Way m) : kround_way [.int .i8 m] = some (.int .i8 m) := by
  rcases h with rfl | rfl | rfl <;> rfl

theorem k_step {p : Nat} (hp : Norm p) (up : Bool) : kround_step [F p, .bool up] = some (F (bif up then p + 1 else p - 1)) := by
  have h1 := hp.1
  have h2 : 1 ≤ p := by have := hp.2.1; unfold ex at this; omega
  show ground_step NN (some p) up = _
  unfold ground_step
  rw [okBits, ck_true, ford_0 hp, okFrom, okFrom, Option.getD_some, show ((p : Nat) : Int) + 1 = ((p + 1 : Nat) : Int) by omega, show ((p : Nat) : Int) - 1 = ((p - 1 : Nat) : Int) by omega, wrapu (by omega), wrapu (by omega)]
  cases up <;> rfl
theorem k_settle {p : Nat} (hp : Norm p) (off m : Int) (hm : Way m) : kround_settle [F p, .int .i64 off, .int .i8 m] = some (F (adj p off m)) := by
  show ground_settle kmath_Signbit kmath_IsInf kmath_Copysign kround_step NN (some p) off m = _
  unfold ground_settle adj
  rw [k_signbit hp, k_inf0 hp, k_step hp]
  rcases hm with rfl | rfl | rfl
  · cases decide (off < 0) <;> cases decide (off > 0) <;> rfl
  · by_cases h : off < 0
    · rw [decide_eq_true h, decide_eq_false (show ¬ off > 0 by omega)]; rfl
    · rw [decide_eq_false h]; cases decide (off > 0) <;> rfl
  · by_cases h : off < 0
    · rw [decide_eq_true h, decide_eq_false (show ¬ off > 0 by omega)]; rfl
    · rw [decide_eq_false h]; cases decide (off > 0) <;> rfl

theorem neg_w {p : Nat} (hp : p < 9223372036854775808) : Op.negFloat .f64 p = p + 9223372036854775808 := xor_sign hp
theorem neg_b {p : Nat} (hp : p < 9223372036854775808) : Op.negFloat .f64 (p + 9223372036854775808) = p := xor_back hp
theorem k_up3 {p : Nat} (hp : Norm p) : kref03_up [F p] = some (F (p + 1)) := by
  have h1 := hp.1
  show gref03_up kref03_further kref03_nearer NN (some p) = _
  unfold gref03_up
  have e : kref03_further [F p] = some (F (p + 1)) := by
    show gref03_further NN (some p) = _
    unfold gref03_further
    rw [okBits, okFrom, Option.getD_some, show ((p : Nat) : Int) + 1 = ((p + 1 : Nat) : Int) by omega, wrapu (by omega)]
    rfl
  rw [ford_0 hp, e]
  rfl
theorem k_down3 {p : Nat} (hp : Norm p) : kref03_down [F p] = some (F (p - 1)) := by
  have h1 := hp.1
  have h2 : 1 ≤ p := by have := hp.2.1; unfold ex at this; omega
  show gref03_down kref03_up NN (some p) = _
  unfold gref03_down
  have e0 : kref03_nearer [F (p + 9223372036854775808)] = some (F (p - 1 + 9223372036854775808)) := by
    show gref03_nearer NN (some (p + 9223372036854775808)) = _
    unfold gref03_nearer
    rw [okBits, okFrom, Option.getD_some, show ((p + 9223372036854775808 : Nat) : Int) - 1 = ((p - 1 + 9223372036854775808 : Nat) : Int) by omega, wrapu (by omega)]
    rfl
  have e : kref03_up [F (p + 9223372036854775808)] = some (F (p - 1 + 9223372036854775808)) := by
    show gref03_up kref03_further kref03_nearer NN (some (p + 9223372036854775808)) = _
    unfold gref03_up
    rw [ford_d, order_neg0 hp, e0]
    rfl
  rw [Option.map_some, neg_w h1, e, okF, ck_true, gV, tF, Option.map_some, neg_b (by omega)]
theorem k_side {p : Nat} (hp : Norm p) (off m : Int) (hm : Way m) : kref03_side [F p, .int .i64 off, .int .i8 m] = some (F (adj p off m)) := by
  show gref03_side kmath_Signbit kref03_down kref03_up NN (some p) off m = _
  unfold gref03_side adj
  rw [k_signbit hp, k_up3 hp, k_down3 hp, ford_0 hp]
  rcases hm with rfl | rfl | rfl
  · cases decide (off < 0) <;> cases decide (off > 0) <;> rfl
  · by_cases h : off < 0
    · rw [decide_eq_true h, decide_eq_false (show ¬ off > 0 by omega)]; rfl
    · rw [decide_eq_false h]; cases decide (off > 0) <;> rfl
  · by_cases h : off < 0
    · rw [decide_eq_true h, decide_eq_false (show ¬ off > 0 by omega)]; rfl
    · rw [decide_eq_false h]; cases decide (off > 0) <;> rfl
theorem k_middle {x : Nat} (hx : In 200 1900 x) : kref03_middle [F x] = some (.bool true) := by
  obtain ⟨h1, h2, h3⟩ := hx
  show gref03_middle kmath_Abs NN (some x) = _
  unfold gref03_middle
  have n1 : Norm 553942754166571008 := by unfold Norm ex; omega
  have n2 : Norm 8660422083433463808 := by unfold Norm ex; omega
  rw [k_abs h1, okF, ck_true, gV, tF, ford_n h1 n1, ford_n h1 n2, c_gt, c_lt, decide_eq_true (show 553942754166571008 < x by unfold ex at h2; omega), decide_eq_true (show x < 8660422083433463808 by unfold ex at h3; omega)]
  rfl
end Go.Proofs.Tryz
end
section
namespace Go.Proofs.Tryz
open Go Go.Am Ieee.Pos
set_option maxRecDepth 100000

def adjM (p : Nat) (m : Int) (a b : Nat) : Nat := adj p (sg (Ieee.double.fma a b (Op.negFloat .f64 p))) m
def adjD (q : Nat) (m : Int) (a b : Nat) : Nat := adj q (sg (Ieee.double.fma (Op.negFloat .f64 q) b a)) m
def adjR (r : Nat) (m : Int) (a : Nat) : Nat := adj r (sg (Ieee.double.fma (Op.negFloat .f64 r) r a)) m
/-- Products, quotients, roots, rounded in one of three ways. -/
def mulV (m : Int) (a b : Nat) : Nat := adjM ((Ieee.double.mul a b).getD 0) m a b
def divV (m : Int) (a b : Nat) : Nat := adjD ((Ieee.double.div a b).getD 0) m a b
def rootV (m : Int) (a : Nat) : Nat := adjR ((Ieee.double.sqrt a).getD 0) m a

theorem two {x y : Nat} {P : Nat → Prop} (hx : P x) (hy : P y) : ∀ i, i < 2 → P ([x, y].getD i 0) := fun i hi => by
  have : i = 0 ∨ i = 1 := by omega
  rcases this with rfl | rfl
  · exact hx
  · exact hy
theorem three {x y z : Nat} {P : Nat → Prop} (hx : P x) (hy : P y) (hz : P z) : ∀ i, i < 3 → P ([x, y, z].getD i 0) := fun i hi => by
  have : i = 0 ∨ i = 1 ∨ i = 2 := by omega
  rcases this with rfl | rfl | rfl
  · exact hx
  · exact hy
  · exact hz
theorem one' {x : Nat} {P : Nat → Prop} (hx : P x) : ∀ i, i < 1 → P ([x].getD i 0) := fun i hi => by
  obtain rfl : i = 0 := by omega
  exact hx
theorem l2 (x y : Nat) : ∀ i, i < 2 → (([[F x], [F y]].getD i []).getD 0 AV.dead) = F ([x, y].getD i 0) := fun i hi => by
  have : i = 0 ∨ i = 1 := by omega
  rcases this with rfl | rfl <;> rfl
theorem l3 (x y z : Nat) : ∀ i, i < 3 → (([[F x], [F y], [F z]].getD i []).getD 0 AV.dead) = F ([x, y, z].getD i 0) := fun i hi => by
  have : i = 0 ∨ i = 1 ∨ i = 2 := by omega
  rcases this with rfl | rfl | rfl <;> rfl
theorem l1 (x : Nat) : ∀ i, i < 1 → (([[F x]].getD i []).getD 0 AV.dead) = F ([x].getD i 0) := fun i hi => by
  obtain rfl : i = 0 := by omega
  rfl
theorem gt_eq : (some Ordering.gt == some Ordering.eq) = false := rfl
theorem gt_lt : (some Ordering.gt == some Ordering.lt) = false := rfl

section
variable {a b p : Nat} (ha : In 200 1900 a) (hb : In 200 1900 b)
include ha hb
theorem k_fin2 : kround_finite [.ro 1 2 2 fun i j => ([[F a], [F b]].getD i []).getD j .dead] = some (.bool true) :=
  k_finite 2 2 (by omega) _ (fun i => [a, b].getD i 0) (l2 a b) (two ha.1 hb.1)
theorem k_pl3 (hp : In 200 1900 p) : kround_plain [.ro 1 3 3 fun i j => ([[F a], [F b], [F p]].getD i []).getD j .dead] = some (.bool true) :=
  k_plain 3 3 (by omega) _ (fun i => [a, b, p].getD i 0) (l3 a b p) (three ha hb hp)

theorem k_mul' (e : Ieee.double.mul a b = some p) (hp : In 200 1900 p) {m : Int} (hm : Way m) : kround_Mul [F a, F b, .int .i8 m] = some (F (adjM p m a b)) := by
  have e1 : farith .mul .f64 (some a) (some b) = some p := e
  show ground_Mul kround_way kround_finite kround_plain kround_sign kround_settle kmath_IsInf kround_of kround_times kround_cmp NN (some a) (some b) m = _
  unfold ground_Mul
  rw [e1, k_way hm, okI8, ck_true, k_fin2 ha hb, okQ, ck_true, gV, tB, ford_0 ha.1, ford_0 hb.1, gt_eq, Bool.not_true, cond_false, cond_false, cond_false, k_pl3 ha hb hp, okQ, ck_true, gV, tB, cond_true, okFma, ck_true, k_sign, okI, ck_true, gV, tI, gV, tI, k_settle hp.1 _ _ hm, okF, ck_true, gV, tF]
  rfl
theorem k_mul3' (e : Ieee.double.mul a b = some p) (hp : In 200 1900 p) {m : Int} (hm : Way m) : kref03_Mul [F a, F b, .int .i8 m] = some (F (adjM p m a b)) := by
  have e1 : farith .mul .f64 (some a) (some b) = some p := e
  show gref03_Mul kref03_Finite kref03_great kref03_middle kref03_sign kref03_side kref03_Exact kref00_Times kref00_Compare NN (some a) (some b) m = _
  unfold gref03_Mul
  rw [e1, k_Finite ha.1, k_Finite hb.1, k_Finite hp.1, okQ, ck_true, gV, tB, ford_0 ha.1, ford_0 hb.1, gt_eq, Bool.not_true, Bool.not_false, cond_true, ck_true, cond_false, cond_false, cond_false, cond_false, ck_true, cond_false, k_middle hp, okQ, ck_true, gV, tB, cond_true, okFma, ck_true, k_sign3, okI, ck_true, gV, tI, k_side hp.1 _ _ hm, okF, ck_true, gV, tF]
  rfl
theorem k_div' (e : Ieee.double.div a b = some p) (hp : In 200 1900 p) {m : Int} (hm : Way m) : kround_Div [F a, F b, .int .i8 m] = some (F (adjD p m a b)) := by
  have e1 : farith .quo .f64 (some a) (some b) = some p := e
  show ground_Div kround_way kround_finite kround_plain kround_sign kround_settle kmath_IsInf kround_of kround_times kround_cmp NN (some a) (some b) m = _
  unfold ground_Div
  rw [e1, k_way hm, okI8, ck_true, k_fin2 ha hb, okQ, ck_true, gV, tB, ford_0 ha.1, ford_0 hb.1, gt_eq, Bool.not_true, cond_false, cond_false, cond_false, k_pl3 ha hb hp, okQ, ck_true, gV, tB, cond_true, okFma, ck_true, k_sign, okI, ck_true, k_sign, okI, ck_true, gV, tI, gV, tI, gV, tI, sg_wrap _ hb.1, k_settle hp.1 _ _ hm, okF, ck_true, gV, tF]
  rfl
theorem k_div3' (e : Ieee.double.div a b = some p) (hp : In 200 1900 p) {m : Int} (hm : Way m) : kref03_Div [F a, F b, .int .i8 m] = some (F (adjD p m a b)) := by
  have e1 : farith .quo .f64 (some a) (some b) = some p := e
  show gref03_Div kref03_Finite kref03_great kref03_middle kref03_sign kref03_side kref03_Exact kref00_Times kref00_Compare NN (some a) (some b) m = _
  unfold gref03_Div
  rw [e1, k_Finite ha.1, k_Finite hb.1, k_Finite hp.1, okQ, ck_true, gV, tB, ford_0 ha.1, ford_0 hb.1, gt_eq, Bool.not_true, Bool.not_false, cond_true, ck_true, cond_false, cond_false, cond_false, cond_false, ck_true, cond_false, k_middle ha, k_middle hb, k_middle hp, okQ, ck_true, gV, tB]
  simp only [cond_true, ck_true]
  rw [okFma, ck_true, k_sign3, okI, ck_true, k_sign3, okI, ck_true, gV, tI, gV, tI, sg_wrap _ hb.1, k_side hp.1 _ _ hm, okF, ck_true, gV, tF]
  rfl
end
theorem k_sqrt (a : Nat) : kmath_Sqrt [F a] = some (.flt .f64 (Ieee.double.sqrt a)) := rfl
theorem k_root' {a r : Nat} (ha : In 200 1900 a) (e : Ieee.double.sqrt a = some r) (hr : Norm r) {m : Int} (hm : Way m) : kround_Sqrt [F a, .int .i8 m] = some (F (adjR r m a)) := by
  show ground_Sqrt kround_way kmath_Sqrt kround_finite kround_plain kround_sign kround_settle kround_of kround_times kround_cmp NN (some a) m = _
  unfold ground_Sqrt
  have f1 : kround_finite [.ro 1 1 1 fun i j => ([[F a]].getD i []).getD j .dead] = some (.bool true) := k_finite 1 1 (by omega) _ (fun i => [a].getD i 0) (l1 a) (one' ha.1)
  have f2 : kround_plain [.ro 1 1 1 fun i j => ([[F a]].getD i []).getD j .dead] = some (.bool true) := k_plain 1 1 (by omega) _ (fun i => [a].getD i 0) (l1 a) (one' ha)
  rw [k_way hm, okI8, ck_true, k_sqrt, e, okF, ck_true, f1, okQ, ck_true, gV, tB, ford_0 ha.1, gt_eq, gt_lt, Bool.not_true, Bool.or_false, cond_false, cond_false, f2, okQ, ck_true, gV, tB, cond_true, gV, tF, okFma, ck_true, k_sign, okI, ck_true, gV, tI, gV, tI, k_settle hr _ _ hm, okF, ck_true, gV, tF]
  rfl
theorem k_root3' {a r : Nat} (ha : In 200 1900 a) (e : Ieee.double.sqrt a = some r) (hr : Norm r) {m : Int} (hm : Way m) : kref03_Sqrt [F a, .int .i8 m] = some (F (adjR r m a)) := by
  show gref03_Sqrt kmath_Sqrt kref03_Finite kref03_middle kref03_sign kref03_side kref03_Exact kref00_Times kref00_Compare NN (some a) m = _
  unfold gref03_Sqrt
  rw [k_sqrt, e, okF, ck_true, k_Finite ha.1, okQ, ck_true, gV, tB, ford_0 ha.1, gt_eq, gt_lt, Bool.not_true, Bool.or_false, cond_false, cond_false, k_middle ha, okQ, ck_true, gV, tB, cond_true, gV, tF, okFma, ck_true, k_sign3, okI, ck_true, gV, tI, k_side hr _ _ hm, okF, ck_true, gV, tF]
  rfl

/-- Where factors lie so, the product is told by both in the same way. -/
theorem mul_all {l1 h1 l2 h2 lo hi a b : Nat} (ha : In l1 h1 a) (hb : In l2 h2 b) (hl : lo + 1024 ≤ l1 + l2) (hh : h1 + h2 ≤ hi + 1020) (c1 : 200 ≤ l1) (c2 : h1 ≤ 1900) (c3 : 200 ≤ l2) (c4 : h2 ≤ 1900) (c5 : 200 ≤ lo) (c6 : hi ≤ 1900) {m : Int} (hm : Way m) :
    kround_Mul [F a, F b, .int .i8 m] = some (F (mulV m a b)) ∧ kref03_Mul [F a, F b, .int .i8 m] = some (F (mulV m a b)) ∧ In lo hi (mulV m a b) := by
  obtain ⟨na, a1, a2⟩ := ha
  obtain ⟨nb, b1, b2⟩ := hb
  obtain ⟨p, e, np, p1, p2⟩ := mul_ex na nb (by omega) (by omega)
  have e2 : mulV m a b = adjM p m a b := by unfold mulV; rw [e]; rfl
  obtain ⟨q0, q1, q2⟩ := adj_ex np (by omega) (by omega) (sg (Ieee.double.fma a b (Op.negFloat .f64 p))) m
  rw [e2]
  refine ⟨k_mul' ⟨na, by omega, by omega⟩ ⟨nb, by omega, by omega⟩ e ⟨np, by omega, by omega⟩ hm, k_mul3' ⟨na, by omega, by omega⟩ ⟨nb, by omega, by omega⟩ e ⟨np, by omega, by omega⟩ hm, q0, ?_, ?_⟩ <;> unfold adjM <;> omega
theorem div_all {l1 h1 l2 h2 lo hi a b : Nat} (ha : In l1 h1 a) (hb : In l2 h2 b) (hl : lo + h2 ≤ l1 + 1021) (hh : h1 + 1025 ≤ hi + l2) (c1 : 200 ≤ l1) (c2 : h1 ≤ 1900) (c3 : 200 ≤ l2) (c4 : h2 ≤ 1900) (c5 : 200 ≤ lo) (c6 : hi ≤ 1900) {m : Int} (hm : Way m) :
    kround_Div [F a, F b, .int .i8 m] = some (F (divV m a b)) ∧ kref03_Div [F a, F b, .int .i8 m] = some (F (divV m a b)) ∧ In lo hi (divV m a b) := by
  obtain ⟨na, a1, a2⟩ := ha
  obtain ⟨nb, b1, b2⟩ := hb
  obtain ⟨p, e, np, p1, p2⟩ := div_ex na nb (by omega) (by omega)
  have e2 : divV m a b = adjD p m a b := by unfold divV; rw [e]; rfl
  obtain ⟨q0, q1, q2⟩ := adj_ex np (by omega) (by omega) (sg (Ieee.double.fma (Op.negFloat .f64 p) b a)) m
  rw [e2]
  refine ⟨k_div' ⟨na, by omega, by omega⟩ ⟨nb, by omega, by omega⟩ e ⟨np, by omega, by omega⟩ hm, k_div3' ⟨na, by omega, by omega⟩ ⟨nb, by omega, by omega⟩ e ⟨np, by omega, by omega⟩ hm, q0, ?_, ?_⟩ <;> unfold adjD <;> omega
theorem root_all {a : Nat} (ha : In 1023 1066 a) {m : Int} (hm : Way m) :
    kround_Sqrt [F a, .int .i8 m] = some (F (rootV m a)) ∧ kref03_Sqrt [F a, .int .i8 m] = some (F (rootV m a)) ∧ In 1022 1046 (rootV m a) := by
  obtain ⟨na, a1, a2⟩ := ha
  obtain ⟨p, e, np, p1, p2⟩ := sqrt_ex na
  have e2 : rootV m a = adjR p m a := by unfold rootV; rw [e]; rfl
  obtain ⟨q0, q1, q2⟩ := adj_ex np (by omega) (by omega) (sg (Ieee.double.fma (Op.negFloat .f64 p) p a)) m
  rw [e2]
  refine ⟨k_root' ⟨na, by omega, by omega⟩ e np hm, k_root3' ⟨na, by omega, by omega⟩ e np hm, q0, ?_, ?_⟩ <;> unfold adjR <;> omega
end Go.Proofs.Tryz
end
section
namespace Go.Proofs.Tryz
open Go Go.Am Ieee.Pos
set_option maxRecDepth 100000

def ordI (a b : Nat) : Int := bif decide (a < b) then -1 else bif decide (b < a) then 1 else 0
theorem okBI (q : Bool) (n m : Int) : okM [RS.one LK.b, RS.one (LK.i .i64), RS.one (LK.i .u64)] (some (.tup [.bool q, .int .i64 n, .int .u64 m])) = true := rfl
theorem tl (a : AV) (l : List AV) : (a :: l).tail = l := rfl

section
variable {x : Nat} (hx : Norm x)
include hx
theorem k_place : kbits_Place [F x] = some (.tup [.int .i64 x, .bool true]) := by
  show gbits_Place kmath_Abs NN (some x) = _
  unfold gbits_Place
  rw [ford_s hx, k_abs hx, okF, ck_true, gV, tF, okBits, ck_true, ford_0 hx, Option.getD_some, wrapi (n := ((x : Nat) : Int)) (by omega) (by have := hx.1; omega)]
  rfl
theorem pos_x : 0 < x := by have := hx.2.1; unfold ex at this; omega
theorem k_rank : kbits_rank [F x] = some (.tup [.int .i64 x, .int .i64 0]) := by
  have h0 : (((x : Nat) : Int) == 0) = false := by
    have := pos_x hx
    have h : ¬ ((x : Nat) : Int) = 0 := by omega
    simpa using h
  show gbits_rank kbits_Place kmath_Signbit NN (some x) = _
  unfold gbits_rank
  rw [k_place hx]
  dsimp only
  rw [okIB, ck_true, gV, tT, hD, tl, hD, tI, tB, h0]
  rfl
theorem k_fields : kref01_fields [F x] = some (.tup [.bool false, .int .i64 (ex x : Nat), .int .u64 (x % 4503599627370496 : Nat)]) := by
  have hx1 := hx.1
  have hx3 := hx.2.2
  have e1 : ((x : Nat) : Int).fdiv (2 ^ 63) = 0 := by
    rw [Int.fdiv_eq_ediv_of_nonneg _ (by decide)]
    exact Int.ediv_eq_zero_of_lt (by omega) (by omega)
  have e2 : ((x : Nat) : Int).tdiv 4503599627370496 = ((ex x : Nat) : Int) := by
    unfold ex
    rw [Int.tdiv_eq_ediv_of_nonneg (by omega)]
    omega
  have e3 : ((ex x : Nat) : Int).tmod 2048 = ((ex x : Nat) : Int) := by
    rw [Int.tmod_eq_emod_of_nonneg (by omega)]
    omega
  have e4 : ((x : Nat) : Int).tmod 4503599627370496 = ((x % 4503599627370496 : Nat) : Int) := by
    rw [Int.tmod_eq_emod_of_nonneg (by omega)]
    omega
  show gref01_fields NN (some x) = _
  unfold gref01_fields
  rw [okBits, ck_true, Option.getD_some, e1, e2, wrapu (by omega), e3, wrapi (by omega) (by omega), e4]
  rfl
theorem k_Nan : kref01_Nan [F x] = some (.bool false) := by
  have hx2 := hx.2.1
  have hx3 := hx.2.2
  have e1 : (((ex x : Nat) : Int) == 2047) = false := by
    have h : ¬ ((ex x : Nat) : Int) = 2047 := by omega
    simpa using h
  have e : kref01_Kind [F x] = some (.int .i64 2) := by
    show gref01_Kind kref01_fields NN (some x) = _
    unfold gref01_Kind
    rw [k_fields hx]
    dsimp only
    rw [okBI, ck_true, gV, tT, tl, hD, tI, e1, decide_eq_true (show ((ex x : Nat) : Int) > 0 by omega)]
    rfl
  show gref01_Nan kref01_Kind NN (some x) = _
  unfold gref01_Nan
  rw [e]
  rfl
theorem k_place1 : kref01_Place [F x] = some (.tup [.int .i64 x, .bool true]) := by
  have hx1 := hx.1
  have hx3 := hx.2.2
  show gref01_Place kref01_Nan kref01_fields NN (some x) = _
  unfold gref01_Place
  rw [k_Nan hx, okQ, ck_true, gV, tB, cond_false, k_fields hx]
  dsimp only
  rw [okBI, ck_true, gV, tT, tl, hD, hD, tI, tl, hD, tI, tB, cond_false]
  have e : IntKind.i64.wrap (IntKind.i64.wrap (((ex x : Nat) : Int) * 2 ^ 52) + IntKind.i64.wrap ((x % 4503599627370496 : Nat) : Int)) = x := by
    rw [wrapi (n := ((ex x : Nat) : Int) * 2 ^ 52) (by omega) (by omega), wrapi (n := ((x % 4503599627370496 : Nat) : Int)) (by omega) (by omega), wrapi]
    · unfold ex; omega
    · omega
    · unfold ex; omega
  rw [e]
end

theorem k_cmp (a b : Nat) : kcmp_Compare_int64 [.int .i64 a, .int .i64 b] = some (.int .i64 (ordI a b)) := by
  have e : ∀ n : Int, kcmp_isNaN_int64 [.int .i64 n] = some (.bool false) := fun n => by
    show some (AV.bool (n != n)) = _
    rw [bne_self_eq_false]
  show gcmp_Compare_int64 kcmp_isNaN_int64 NN a b = _
  unfold gcmp_Compare_int64 ordI
  rw [e, e, okQ, ck_true, ck_true, gV, tB, cond_false, cond_false]
  have e1 : decide (((a : Nat) : Int) < ((b : Nat) : Int)) = decide (a < b) := decide_eq_decide.2 (by omega)
  have e2 : decide (((a : Nat) : Int) > ((b : Nat) : Int)) = decide (b < a) := decide_eq_decide.2 (by omega)
  rw [e1, e2]
  cases decide (a < b) <;> cases decide (b < a) <;> rfl
theorem k_cmp0 : kcmp_Compare_int [.int .i64 0, .int .i64 0] = some (.int .i64 0) := rfl
theorem or_spec (f : Nat) (c : Int) : gcmp_Or_int (f + 3) 2 2 (fun i j => ([[AV.int .i64 c], [AV.int .i64 0]].getD i []).getD j .dead) = some (.int .i64 c) := by
  unfold gcmp_Or_int
  show gcmp_Or_int_l0_step _ (gcmp_Or_int_l0 _ _ _ 0 2 2 _ 2 (f + 2)) _ _ 0 2 2 _ 2 0 = _
  unfold gcmp_Or_int_l0_step
  by_cases h : c = 0
  · subst h; rfl
  · have h1 : (c != 0) = true := by simpa using h
    show (bif c != 0 then some (AV.int .i64 c) else _) = _
    rw [h1, cond_true]
theorem k_or (c : Int) : kcmp_Or_int [.ro 1 2 2 fun i j => ([[AV.int .i64 c], [AV.int .i64 0]].getD i []).getD j .dead] = some (.int .i64 c) := by
  show gcmp_Or_int NN 2 2 (fun i j => ([[AV.int .i64 c], [AV.int .i64 0]].getD i []).getD j .dead) = _
  have e : NN = 1125899906842621 + 3 := by unfold NN; omega
  rw [e]
  exact or_spec _ c

section
variable {a b : Nat} (ha : Norm a) (hb : Norm b)
include ha hb
theorem k_order : kbits_Order [F a, F b] = some (.int .i64 (ordI a b)) := by
  show gbits_Order kbits_rank kcmp_Compare_int64 kcmp_Compare_int kcmp_Or_int NN (some a) (some b) = _
  unfold gbits_Order
  rw [k_rank ha, k_rank hb]
  dsimp only
  simp only [okII, ck_true, gV, tT, tl, hD, tI, k_cmp, k_cmp0, okI, k_or]
theorem k_order1 : kref01_Order [F a, F b] = some (.int .i64 (ordI a b)) := by
  have e1 : (((a : Nat) : Int) != ((b : Nat) : Int)) = decide (a ≠ b) := by
    by_cases h : a = b
    · subst h; simp
    · have h' : ¬ ((a : Nat) : Int) = ((b : Nat) : Int) := by omega
      rw [decide_eq_true h]; simpa using h'
  have e2 : decide (((a : Nat) : Int) < ((b : Nat) : Int)) = decide (a < b) := decide_eq_decide.2 (by omega)
  show gref01_Order kref01_Nan kref01_Place kref01_fields NN (some a) (some b) = _
  unfold gref01_Order ordI
  rw [k_Nan ha, k_Nan hb, k_place1 ha, k_place1 hb, k_fields ha, k_fields hb]
  dsimp only
  rw [okQ, ck_true, gV, tB, Bool.not_false, cond_true, ck_true, cond_false, cond_false, okIB, ck_true, okIB, ck_true, gV, tT, hD, tI, gV, tT, hD, tI, e1, e2]
  rcases Nat.lt_trichotomy a b with h | h | h
  · rw [decide_eq_true (show a ≠ b by omega), decide_eq_true h]; rfl
  · subst h; rw [decide_eq_false (show ¬ a ≠ a by omega), decide_eq_false (show ¬ a < a by omega)]; rfl
  · rw [decide_eq_true (show a ≠ b by omega), decide_eq_false (show ¬ a < b by omega), decide_eq_true h]; rfl
end
theorem ord_lt (a b : Nat) : decide (ordI b a < 0) = decide (b < a) := by
  unfold ordI
  rcases Nat.lt_trichotomy b a with h | h | h
  · rw [decide_eq_true h]; rfl
  · subst h; rw [decide_eq_false (Nat.lt_irrefl b)]; rfl
  · rw [decide_eq_false (show ¬ b < a by omega), decide_eq_true h]; rfl
theorem ord_gt (a b : Nat) : decide (ordI b a > 0) = decide (a < b) := by
  unfold ordI
  rcases Nat.lt_trichotomy b a with h | h | h
  · rw [decide_eq_true h, decide_eq_false (show ¬ a < b by omega)]; rfl
  · subst h; rw [decide_eq_false (Nat.lt_irrefl b)]; rfl
  · rw [decide_eq_false (show ¬ b < a by omega), decide_eq_true h]; rfl
theorem min_b (a b : Nat) : (bif decide (b < a) then some (F b) else some (F a)) = some (F (min a b)) := by
  by_cases h : b < a
  · rw [decide_eq_true h, Nat.min_eq_right (by omega)]; rfl
  · rw [decide_eq_false h, Nat.min_eq_left (by omega)]; rfl
theorem max_b (a b : Nat) : (bif decide (a < b) then some (F b) else some (F a)) = some (F (max a b)) := by
  by_cases h : a < b
  · rw [decide_eq_true h, Nat.max_eq_right (by omega)]; rfl
  · rw [decide_eq_false h, Nat.max_eq_left (by omega)]; rfl
section
variable {a b : Nat} (ha : Norm a) (hb : Norm b)
include ha hb
theorem k_lesser : kspan_lesser [F a, F b] = some (F (min a b)) := by
  show gspan_lesser kbits_Order NN (some a) (some b) = _
  unfold gspan_lesser
  rw [k_order hb ha, okI, ck_true, gV, tI, ord_lt, min_b]
theorem k_greater : kspan_greater [F a, F b] = some (F (max a b)) := by
  show gspan_greater kbits_Order NN (some a) (some b) = _
  unfold gspan_greater
  rw [k_order hb ha, okI, ck_true, gV, tI, ord_gt, max_b]
theorem k_lesser5 : kref05_lesser [F a, F b] = some (F (min a b)) := by
  show gref05_lesser kref01_Order NN (some a) (some b) = _
  unfold gref05_lesser
  rw [k_order1 hb ha, okI, ck_true, gV, tI, ord_lt, min_b]
theorem k_greater5 : kref05_greater [F a, F b] = some (F (max a b)) := by
  show gref05_greater kref01_Order NN (some a) (some b) = _
  unfold gref05_greater
  rw [k_order1 hb ha, okI, ck_true, gV, tI, ord_gt, max_b]
theorem k_Right (h : a ≤ b) : kspan_Right [.agg [F a, F b]] = some (.bool true) := by
  have i1 : ∀ o, ford .f64 o (some 9218868437227405312) = ford .f64 o (some 9218868437227405312) := fun _ => rfl
  have e1 : kmath_Inf [.int .i64 1] = some (F 9218868437227405312) := rfl
  have e2 : kmath_Inf [.int .i64 (-1)] = some (F 18442240474082181120) := rfl
  show gspan_Right kmath_Inf NN (some a) (some b) = _
  unfold gspan_Right
  rw [e1, e2, okF, okF, gV, gV, tF, tF, ford_n ha hb, ford_d a, order_inf ha, ford_d b, order_minf hb, c_lt, c_eq]
  by_cases h1 : a < b
  · rw [decide_eq_true h1]; rfl
  · rw [decide_eq_false h1, decide_eq_true (show a = b by omega)]; rfl
theorem k_Right5 (h : a ≤ b) : kref05_Right [.agg [F a, F b]] = some (.bool true) := by
  show gref05_Right kref05_finite NN (some a) (some b) = _
  unfold gref05_Right
  rw [k_finite5 ha, k_finite5 hb, ford_s ha, ford_s hb, ford_n ha hb, c_gt, decide_eq_false (by omega)]
  rfl
end
end Go.Proofs.Tryz
end
section
namespace Go.Proofs.Tryz
open Go Go.Am Ieee.Pos
set_option maxRecDepth 100000

/-- A span of positive normal words. -/
def SIn (l h : Nat) (s : Nat × Nat) : Prop := In l h s.1 ∧ In l h s.2 ∧ s.1 ≤ s.2
abbrev SA (s : Nat × Nat) : AV := .agg [F s.1, F s.2]
def corn (f : Int → Nat → Nat → Nat) (s t : Nat × Nat) : Nat × Nat :=
  (min (min (f 1 s.1 t.1) (f 1 s.1 t.2)) (min (f 1 s.2 t.1) (f 1 s.2 t.2)), max (max (f 2 s.1 t.1) (f 2 s.1 t.2)) (max (f 2 s.2 t.1) (f 2 s.2 t.2)))
def mulS : Nat × Nat → Nat × Nat → Nat × Nat := corn mulV
def divS : Nat × Nat → Nat × Nat → Nat × Nat := corn divV
theorem In.min {l h a b : Nat} (ha : In l h a) (hb : In l h b) : In l h (min a b) := by
  rcases Nat.le_total a b with h | h
  · rw [Nat.min_eq_left h]; exact ha
  · rw [Nat.min_eq_right h]; exact hb
theorem In.max {l h a b : Nat} (ha : In l h a) (hb : In l h b) : In l h (max a b) := by
  rcases Nat.le_total a b with h | h
  · rw [Nat.max_eq_right h]; exact hb
  · rw [Nat.max_eq_left h]; exact ha
theorem adj_le (p : Nat) (off : Int) : adj p off 1 ≤ adj p off 2 := by
  unfold adj
  cases decide (off < 0) <;> cases decide (off > 0) <;> simp <;> omega
theorem mulV_le (a b : Nat) : mulV 1 a b ≤ mulV 2 a b := adj_le _ _
theorem divV_le (a b : Nat) : divV 1 a b ≤ divV 2 a b := adj_le _ _
theorem corn_le {f : Int → Nat → Nat → Nat} (h : ∀ a b, f 1 a b ≤ f 2 a b) (s t : Nat × Nat) : (corn f s t).1 ≤ (corn f s t).2 :=
  Nat.le_trans (Nat.le_trans (Nat.min_le_left _ _) (Nat.min_le_left _ _)) (Nat.le_trans (h _ _) (Nat.le_trans (Nat.le_max_left _ _) (Nat.le_max_left _ _)))
theorem w1 : Way 1 := Or.inr (Or.inl rfl)
theorem w2 : Way 2 := Or.inr (Or.inr rfl)
theorem w0 : Way 0 := Or.inl rfl
theorem bne_eq' : (some Ordering.eq != some Ordering.eq) = false := rfl

theorem k_right {a b c d : Nat} (ha : Norm a) (hb : Norm b) (hc : Norm c) (hd : Norm d) (h1 : a ≤ b) (h2 : c ≤ d) :
    kspan_right [.ro 2 2 2 fun i j => ([[F a, F b], [F c, F d]].getD i []).getD j .dead] = some (.bool true) := by
  have e : NN = 1125899906842621 + 3 := by unfold NN; omega
  have hs : ∀ f, gspan_right kspan_Right (f + 3) 2 2 (fun i j => ([[F a, F b], [F c, F d]].getD i []).getD j .dead) = some (.bool true) := fun f => by
    unfold gspan_right
    show gspan_right_l0_step kspan_Right _ (gspan_right_l0 kspan_Right _ _ _ 2 2 _ 2 (f + 2)) _ _ 2 2 _ 2 0 = _
    unfold gspan_right_l0_step
    show ck (okM [RS.one LK.b] (kspan_Right [.agg [F a, F b]])) (bif !toB (getV (kspan_Right [.agg [F a, F b]])) then _ else gspan_right_l0 kspan_Right _ _ _ 2 2 _ 2 (f + 2) 1) = _
    rw [k_Right ha hb h1, okQ, ck_true, gV, tB, Bool.not_true, cond_false]
    show gspan_right_l0_step kspan_Right _ (gspan_right_l0 kspan_Right _ _ _ 2 2 _ 2 (f + 1)) _ _ 2 2 _ 2 1 = _
    unfold gspan_right_l0_step
    show ck (okM [RS.one LK.b] (kspan_Right [.agg [F c, F d]])) (bif !toB (getV (kspan_Right [.agg [F c, F d]])) then _ else gspan_right_l0 kspan_Right _ _ _ 2 2 _ 2 (f + 1) 2) = _
    rw [k_Right hc hd h2]
    rfl
  show gspan_right kspan_Right NN 2 2 (fun i j => ([[F a, F b], [F c, F d]].getD i []).getD j .dead) = _
  rw [e]
  exact hs _
theorem okXS (o p : Option Nat) : okX [RS.agg [LK.f .f64, LK.f .f64]] (some (.tup [.agg [.flt .f64 o, .flt .f64 p]])) = true := rfl

/-! ### Mul -/
theorem k_mulc {a b l1 h1 l2 h2 lo hi : Nat} (ha : In l1 h1 a) (hb : In l2 h2 b) (hl : lo + 1024 ≤ l1 + l2) (hh : h1 + h2 ≤ hi + 1020) (c1 : 200 ≤ l1) (c2 : h1 ≤ 1900) (c3 : 200 ≤ l2) (c4 : h2 ≤ 1900) (c5 : 200 ≤ lo) (c6 : hi ≤ 1900) {m : Int} (hm : Way m) :
    kspan_Mul_c1 [F a, F b, .int .i8 m] = some (F (mulV m a b)) ∧ kref05_times [F a, F b, .int .i8 m] = some (F (mulV m a b)) ∧ In lo hi (mulV m a b) := by
  obtain ⟨e1, e2, e3⟩ := mul_all ha hb hl hh c1 c2 c3 c4 c5 c6 hm
  refine ⟨?_, ?_, e3⟩
  · show gspan_Mul_c1 kround_Mul NN (some a) (some b) m = _
    unfold gspan_Mul_c1
    rw [e1, okF, ck_true, gV, tF, ford_s e3.1]
    rfl
  · show gref05_times kref05_finite kref03_Mul NN (some a) (some b) m = _
    unfold gref05_times
    rw [ford_0 ha.1, ford_0 hb.1, gt_eq, cond_false, ck_true, cond_false, ck_true, cond_false, cond_false, cond_false, e2, okF, ck_true, gV, tF]
    rfl

theorem mulS_all {s t : Nat × Nat} {l1 h1 l2 h2 lo hi : Nat} (hs : SIn l1 h1 s) (ht : SIn l2 h2 t) (hl : lo + 1024 ≤ l1 + l2) (hh : h1 + h2 ≤ hi + 1020) (c1 : 200 ≤ l1) (c2 : h1 ≤ 1900) (c3 : 200 ≤ l2) (c4 : h2 ≤ 1900) (c5 : 200 ≤ lo) (c6 : hi ≤ 1900) :
    kspan_Mul [SA s, SA t] = some (.tup [SA (mulS s t), .int .i64 0]) ∧ kref19_mul [SA s, SA t] = some (SA (mulS s t)) ∧ SIn lo hi (mulS s t) := by
  obtain ⟨s1, s2, sl⟩ := hs
  obtain ⟨t1, t2, tl'⟩ := ht
  obtain ⟨a1, b1, i1⟩ := k_mulc s1 t1 hl hh c1 c2 c3 c4 c5 c6 w1
  obtain ⟨a2, b2, i2⟩ := k_mulc s1 t2 hl hh c1 c2 c3 c4 c5 c6 w1
  obtain ⟨a3, b3, i3⟩ := k_mulc s2 t1 hl hh c1 c2 c3 c4 c5 c6 w1
  obtain ⟨a4, b4, i4⟩ := k_mulc s2 t2 hl hh c1 c2 c3 c4 c5 c6 w1
  obtain ⟨a5, b5, i5⟩ := k_mulc s1 t1 hl hh c1 c2 c3 c4 c5 c6 w2
  obtain ⟨a6, b6, i6⟩ := k_mulc s1 t2 hl hh c1 c2 c3 c4 c5 c6 w2
  obtain ⟨a7, b7, i7⟩ := k_mulc s2 t1 hl hh c1 c2 c3 c4 c5 c6 w2
  obtain ⟨a8, b8, i8⟩ := k_mulc s2 t2 hl hh c1 c2 c3 c4 c5 c6 w2
  have hin : SIn lo hi (mulS s t) := ⟨(i1.min i2).min (i3.min i4), (i5.max i6).max (i7.max i8), corn_le mulV_le s t⟩
  refine ⟨?_, ?_, hin⟩
  · have e : kspan_corners_a [SA s, SA t, .fn (Fn.func 79) [] []] = some (.tup [SA (mulS s t)]) := by
      show gspan_corners_a kspan_lesser kspan_greater kspan_Mul_c1 kspan_Div_c1 NN (some s.1) (some s.2) (some t.1) (some t.2) = _
      unfold gspan_corners_a
      simp only [a1, a2, a3, a4, a5, a6, a7, a8, okF, gV, tF, ck_true, k_lesser i1.1 i2.1, k_lesser (i1.min i2).1 i3.1, k_lesser ((i1.min i2).min i3).1 i4.1, k_greater i5.1 i6.1, k_greater (i5.max i6).1 i7.1, k_greater ((i5.max i6).max i7).1 i8.1]
      unfold mulS corn SA
      simp only [Nat.min_assoc, Nat.max_assoc]
    show gspan_Mul kspan_right kspan_Mul_c1 kspan_corners_a kspan_corners_b NN (some s.1) (some s.2) (some t.1) (some t.2) = _
    unfold gspan_Mul
    rw [k_right s1.1 s2.1 t1.1 t2.1 sl tl', okQ, ck_true, gV, tB, Bool.not_true, cond_false]
    rw [e]
    rfl
  · have e : kref05_Mul [SA s, SA t] = some (.tup [SA (mulS s t), .int .i64 0]) := by
      show gref05_Mul kref05_Right kref05_times kref05_lesser kref05_greater NN (some s.1) (some s.2) (some t.1) (some t.2) = _
      unfold gref05_Mul
      rw [k_Right5 s1.1 s2.1 sl, k_Right5 t1.1 t2.1 tl', okQ, ck_true, gV, tB, Bool.not_true, Bool.not_false, cond_true, ck_true, ck_true, cond_false, cond_false]
      simp only [b1, b2, b3, b4, b5, b6, b7, b8, okF, gV, tF, ck_true, k_lesser5 i1.1 i2.1, k_lesser5 i3.1 i4.1, k_lesser5 (i1.min i2).1 (i3.min i4).1, k_greater5 i5.1 i6.1, k_greater5 i7.1 i8.1, k_greater5 (i5.max i6).1 (i7.max i8).1]
      rfl
    show gref19_mul kref05_Mul NN (some s.1) (some s.2) (some t.1) (some t.2) = _
    unfold gref19_mul
    rw [e]
    rfl

/-! ### Div -/
theorem k_divc {a b l1 h1 l2 h2 lo hi : Nat} (ha : In l1 h1 a) (hb : In l2 h2 b) (hl : lo + h2 ≤ l1 + 1021) (hh : h1 + 1025 ≤ hi + l2) (c1 : 200 ≤ l1) (c2 : h1 ≤ 1900) (c3 : 200 ≤ l2) (c4 : h2 ≤ 1900) (c5 : 200 ≤ lo) (c6 : hi ≤ 1900) {m : Int} (hm : Way m) :
    kspan_Div_c1 [F a, F b, .int .i8 m] = some (F (divV m a b)) ∧ kref05_over [F a, F b, .int .i8 m] = some (F (divV m a b)) ∧ In lo hi (divV m a b) := by
  obtain ⟨e1, e2, e3⟩ := div_all ha hb hl hh c1 c2 c3 c4 c5 c6 hm
  refine ⟨?_, ?_, e3⟩
  · show gspan_Div_c1 kround_Div NN (some a) (some b) m = _
    unfold gspan_Div_c1
    rw [e1, okF, ck_true, gV, tF, ford_s e3.1]
    rfl
  · show gref05_over kref05_finite kref03_Div NN (some a) (some b) m = _
    unfold gref05_over
    rw [k_finite5 ha.1, okQ, ck_true, gV, tB, Bool.not_true, cond_false, ck_true, cond_false, cond_false, e2, okF, ck_true, gV, tF]

theorem divS_all {s t : Nat × Nat} {l1 h1 l2 h2 lo hi : Nat} (hs : SIn l1 h1 s) (ht : SIn l2 h2 t) (hl : lo + h2 ≤ l1 + 1021) (hh : h1 + 1025 ≤ hi + l2) (c1 : 200 ≤ l1) (c2 : h1 ≤ 1900) (c3 : 200 ≤ l2) (c4 : h2 ≤ 1900) (c5 : 200 ≤ lo) (c6 : hi ≤ 1900) :
    kspan_Div [SA s, SA t] = some (.tup [SA (divS s t), .int .i64 0]) ∧ kref19_div [SA s, SA t] = some (SA (divS s t)) ∧ SIn lo hi (divS s t) := by
  obtain ⟨s1, s2, sl⟩ := hs
  obtain ⟨t1, t2, tl'⟩ := ht
  obtain ⟨a1, b1, i1⟩ := k_divc s1 t1 hl hh c1 c2 c3 c4 c5 c6 w1
  obtain ⟨a2, b2, i2⟩ := k_divc s1 t2 hl hh c1 c2 c3 c4 c5 c6 w1
  obtain ⟨a3, b3, i3⟩ := k_divc s2 t1 hl hh c1 c2 c3 c4 c5 c6 w1
  obtain ⟨a4, b4, i4⟩ := k_divc s2 t2 hl hh c1 c2 c3 c4 c5 c6 w1
  obtain ⟨a5, b5, i5⟩ := k_divc s1 t1 hl hh c1 c2 c3 c4 c5 c6 w2
  obtain ⟨a6, b6, i6⟩ := k_divc s1 t2 hl hh c1 c2 c3 c4 c5 c6 w2
  obtain ⟨a7, b7, i7⟩ := k_divc s2 t1 hl hh c1 c2 c3 c4 c5 c6 w2
  obtain ⟨a8, b8, i8⟩ := k_divc s2 t2 hl hh c1 c2 c3 c4 c5 c6 w2
  have hin : SIn lo hi (divS s t) := ⟨(i1.min i2).min (i3.min i4), (i5.max i6).max (i7.max i8), corn_le divV_le s t⟩
  refine ⟨?_, ?_, hin⟩
  · have e : kspan_corners_b [SA s, SA t, .fn (Fn.func 77) [] []] = some (.tup [SA (divS s t)]) := by
      show gspan_corners_b kspan_lesser kspan_greater kspan_Mul_c1 kspan_Div_c1 NN (some s.1) (some s.2) (some t.1) (some t.2) = _
      unfold gspan_corners_b
      simp only [a1, a2, a3, a4, a5, a6, a7, a8, okF, gV, tF, ck_true, k_lesser i1.1 i2.1, k_lesser (i1.min i2).1 i3.1, k_lesser ((i1.min i2).min i3).1 i4.1, k_greater i5.1 i6.1, k_greater (i5.max i6).1 i7.1, k_greater ((i5.max i6).max i7).1 i8.1]
      unfold divS corn SA
      simp only [Nat.min_assoc, Nat.max_assoc]
    show gspan_Div kspan_right kspan_Div_c1 kspan_corners_a kspan_corners_b NN (some s.1) (some s.2) (some t.1) (some t.2) = _
    unfold gspan_Div
    rw [k_right s1.1 s2.1 t1.1 t2.1 sl tl', okQ, ck_true, gV, tB, Bool.not_true, cond_false]
    rw [ford_0 t1.1, ford_0 t2.1, gt_lt, gt_eq, Bool.or_false, cond_false, ck_true, cond_false, cond_false]
    rw [e]
    rfl
  · have e : kref05_Div [SA s, SA t] = some (.tup [SA (divS s t), .int .i64 0]) := by
      show gref05_Div kref05_Right kref05_over kref05_lesser kref05_greater NN (some s.1) (some s.2) (some t.1) (some t.2) = _
      unfold gref05_Div
      rw [k_Right5 s1.1 s2.1 sl, k_Right5 t1.1 t2.1 tl', okQ, ck_true, gV, tB, Bool.not_true, Bool.not_false, cond_true, ck_true, ck_true, cond_false, cond_false]
      rw [ford_0 t1.1, ford_0 t2.1, gt_lt, gt_eq, Bool.or_false, cond_false, ck_true, cond_false, cond_false]
      simp only [b1, b2, b3, b4, b5, b6, b7, b8, okF, gV, tF, ck_true, k_lesser5 i1.1 i2.1, k_lesser5 i3.1 i4.1, k_lesser5 (i1.min i2).1 (i3.min i4).1, k_greater5 i5.1 i6.1, k_greater5 i7.1 i8.1, k_greater5 (i5.max i6).1 (i7.max i8).1]
      rfl
    show gref19_div kref05_Div NN (some s.1) (some s.2) (some t.1) (some t.2) = _
    unfold gref19_div
    rw [e]
    rfl
end Go.Proofs.Tryz
end
section
namespace Go.Proofs.Tryz
open Go Go.Am

theorem wrap_id {n : Int} (h1 : -9223372036854775808 ≤ n) (h2 : n < 9223372036854775808) : IntKind.i64.wrap n = n := by
  rw [IntKind.wrap_i64]; omega
theorem wrap_succ {i : Nat} (h : i < 4611686018427387904) : IntKind.i64.wrap ((i : Int) + 1) = ((i + 1 : Nat) : Int) := by
  rw [wrap_id] <;> omega
theorem fit_i {k : IntKind} {n : Int} : fitK (.i k) (.int k n) = true := by simp [fitK]
theorem cond_or {b c : Bool} : (bif b then true else c) = (b || c) := by cases b <;> rfl
theorem cond_and {b c : Bool} : (bif b then c else false) = (b && c) := by cases b <;> rfl

def farB (a : Int) : Bool := decide (a < -1048576) || decide (a > 1048576)

theorem near_step (f k : Nat) (kx0 : Bool → Option AV) (kx1 : Option AV) (n r : Nat) (g : Nat → Nat → AV) (i : Nat) (a : Int) (hi : i < n) (hn : n < 4611686018427387904) (hg : g i 0 = .int .i32 a) :
    gjoints_near_l0 f kx0 kx1 n r g n (k + 1) i = bif farB a then kx0 false else gjoints_near_l0 f kx0 kx1 n r g n k ((i + 1 : Nat) : Int) := by
  have h1 : (i : Int) < n := by omega
  show gjoints_near_l0_step f _ kx0 kx1 n r g n i = _
  unfold gjoints_near_l0_step
  try unfold ck
  have hg' : g (Int.toNat (i : Int)) 0 = .int .i32 a := by simpa using hg
  rw [decide_eq_true h1, decide_eq_true (show (0 : Int) ≤ i by omega), cond_true, cond_true, cond_true, hg', fit_i, cond_true, wrap_succ (by omega), cond_or]
  rfl

theorem near_end (f k : Nat) (kx0 : Bool → Option AV) (kx1 : Option AV) (n r : Nat) (g : Nat → Nat → AV) : gjoints_near_l0 f kx0 kx1 n r g n (k + 1) n = kx1 := by
  show gjoints_near_l0_step f _ kx0 kx1 n r g n n = _
  unfold gjoints_near_l0_step
  try unfold ck
  rw [decide_eq_false (by omega), cond_false]

theorem near_spec (f : Nat) (r : Nat) (a b : Int) (g : Nat → Nat → AV) (h0 : g 0 0 = .int .i32 a) (h1 : g 1 0 = .int .i32 b) : gjoints_near (f + 3) 2 r g = some (.bool (!farB a && !farB b)) := by
  unfold gjoints_near
  try unfold ck
  have e0 := near_step (f + 3) (f + 2) (fun b => some (AV.bool b)) (some (.bool true)) 2 r g 0 a (by omega) (by omega) h0
  have e1 := near_step (f + 3) (f + 1) (fun b => some (AV.bool b)) (some (.bool true)) 2 r g 1 b (by omega) (by omega) h1
  have e2 := near_end (f + 3) f (fun b => some (AV.bool b)) (some (.bool true)) 2 r g
  refine e0.trans ?_
  cases ha : farB a
  · rw [cond_false]
    refine e1.trans ?_
    cases hb : farB b
    · rw [cond_false]; exact e2
    · rfl
  · rfl
end Go.Proofs.Tryz
end
section
namespace Go.Proofs.Tryz
open Go Go.Am

def letB (b : Int) : Bool := decide (b ≥ 97) && decide (b ≤ 122)
def digB (b : Int) : Bool := decide (b ≥ 48) && decide (b ≤ 57)
def okB (s : ByteArray) (i : Nat) : Bool := letB (sbyte s i) || (digB (sbyte s i) && decide (0 < i))
def allB (s : ByteArray) : Nat → Nat → Bool
  | 0, _ => true
  | k + 1, i => okB s i && allB s k (i + 1)
def nameB (s : ByteArray) : Bool := decide (1 ≤ s.size) && decide (s.size ≤ 8) && allB s s.size 0

theorem beq_zero {i : Nat} : ((i : Int) == 0) = !decide (0 < i) := by
  cases i with
  | zero => rfl
  | succ k =>
    rw [decide_eq_true (by omega)]
    have : ¬ ((k + 1 : Nat) : Int) = 0 := by omega
    simpa using this

/-- The test, as the program has it, of a byte. -/
theorem test_a (b : Int) (i : Nat) (q : Bool) : (bif bif !bif decide (b ≥ 97) then decide (b ≤ 122) else false then bif !bif decide (b ≥ 48) then decide (b ≤ 57) else false then true else q else false then true else false) =
    !(letB b || (digB b && !q)) := by
  unfold letB digB
  cases decide (b ≥ 97) <;> cases decide (b ≤ 122) <;> cases decide (b ≥ 48) <;> cases decide (b ≤ 57) <;> cases q <;> rfl

theorem gref18_Name_step (f k : Nat) (kx0 : Bool → Option AV) (kx1 : Option AV) (s : ByteArray) (i : Nat) (hi : i < s.size) (hn : s.size < 4611686018427387904) :
    gref18_Name_l0 f kx0 kx1 s (k + 1) i = bif okB s i then gref18_Name_l0 f kx0 kx1 s k ((i + 1 : Nat) : Int) else kx0 false := by
  have h1 : (i : Int) < s.size := by omega
  show gref18_Name_l0_step f _ kx0 kx1 s i = _
  unfold gref18_Name_l0_step
  try unfold ck
  rw [decide_eq_true h1, decide_eq_true (show (0 : Int) ≤ i by omega), wrap_succ (by omega), beq_zero, Int.toNat_natCast]
  unfold okB letB digB
  generalize sbyte s i = b
  cases decide (b ≥ 97) <;> cases decide (b ≤ 122) <;> cases decide (b ≥ 48) <;> cases decide (b ≤ 57) <;> cases decide (0 < i) <;> rfl

theorem gref18_Name_end (f k : Nat) (kx0 : Bool → Option AV) (kx1 : Option AV) (s : ByteArray) : gref18_Name_l0 f kx0 kx1 s (k + 1) s.size = kx1 := by
  show gref18_Name_l0_step f _ kx0 kx1 s s.size = _
  unfold gref18_Name_l0_step
  try unfold ck
  rw [decide_eq_false (by omega), cond_false]

theorem gref18_Name_all (f : Nat) (kx0 : Bool → Option AV) (kx1 : Option AV) (s : ByteArray) (hn : s.size < 4611686018427387904) : ∀ (r k i : Nat), i + r = s.size → gref18_Name_l0 f kx0 kx1 s (k + r + 1) i = bif allB s r i then kx1 else kx0 false
  | 0, k, i, h => by
    obtain rfl : i = s.size := by omega
    exact gref18_Name_end f k kx0 kx1 s
  | r + 1, k, i, h => by
    rw [show k + (r + 1) + 1 = (k + r + 1) + 1 by omega, gref18_Name_step f _ kx0 kx1 s i (by omega) hn, gref18_Name_all f kx0 kx1 s hn r k (i + 1) (by omega)]
    simp only [allB]
    cases okB s i <;> rfl

theorem name43 (f : Nat) (s : ByteArray) (hf : s.size < f) (hn : s.size < 4611686018427387904) : gref18_Name f s = some (.bool (nameB s)) := by
  unfold gref18_Name nameB
  try unfold ck
  by_cases h1 : s.size < 1
  · rw [decide_eq_true (show (s.size : Int) < 1 by omega), decide_eq_false (show ¬ 1 ≤ s.size by omega)]
    rfl
  · rw [decide_eq_false (show ¬ (s.size : Int) < 1 by omega), decide_eq_true (show 1 ≤ s.size by omega)]
    by_cases h2 : s.size ≤ 8
    · rw [decide_eq_false (show ¬ (s.size : Int) > 8 by omega), decide_eq_true h2]
      simp only [cond_true, cond_false, Bool.true_and]
      have := gref18_Name_all f (fun b => some (AV.bool b)) (some (.bool true)) s hn s.size (f - s.size - 1) 0 (by omega)
      rw [show f - s.size - 1 + s.size + 1 = f by omega] at this
      refine this.trans ?_
      cases allB s s.size 0 <;> rfl
    · rw [decide_eq_true (show (s.size : Int) > 8 by omega), decide_eq_false h2]
      rfl

theorem gbars_named_step (f k : Nat) (kx0 : Bool → Option AV) (kx1 : ByteArray → Option AV) (s : ByteArray) (i : Nat) (hi : i < s.size) (hn : s.size < 4611686018427387904) :
    gbars_named_l0 f kx0 kx1 s s.size (k + 1) i = bif okB s i then gbars_named_l0 f kx0 kx1 s s.size k ((i + 1 : Nat) : Int) else kx0 false := by
  have h1 : (i : Int) < s.size := by omega
  show gbars_named_l0_step f _ kx0 kx1 s s.size i = _
  unfold gbars_named_l0_step
  try unfold ck
  rw [decide_eq_true h1, decide_eq_true (show (0 : Int) ≤ i by omega), wrap_succ (by omega), beq_zero, Int.toNat_natCast]
  unfold okB letB digB
  generalize sbyte s i = b
  cases decide (b ≥ 97) <;> cases decide (b ≤ 122) <;> cases decide (b ≥ 48) <;> cases decide (b ≤ 57) <;> cases decide (0 < i) <;> rfl

theorem gbars_named_all (f : Nat) (kx0 : Bool → Option AV) (kx1 : ByteArray → Option AV) (s : ByteArray) (hn : s.size < 4611686018427387904) : ∀ (r k i : Nat), i + r = s.size → gbars_named_l0 f kx0 kx1 s s.size (k + r + 1) i = bif allB s r i then kx1 s else kx0 false
  | 0, k, i, h => by
    obtain rfl : i = s.size := by omega
    show gbars_named_l0_step f _ kx0 kx1 s s.size s.size = _
    unfold gbars_named_l0_step
    try unfold ck
    rw [decide_eq_false (by omega), cond_false]
    rfl
  | r + 1, k, i, h => by
    rw [show k + (r + 1) + 1 = (k + r + 1) + 1 by omega, gbars_named_step f _ kx0 kx1 s i (by omega) hn, gbars_named_all f kx0 kx1 s hn r k (i + 1) (by omega)]
    simp only [allB]
    cases okB s i <;> rfl

theorem name30 (f : Nat) (s : ByteArray) (hf : s.size < f) (hn : s.size < 4611686018427387904) : gbars_named f s = some (.bool (nameB s)) := by
  unfold gbars_named nameB
  try unfold ck
  have := gbars_named_all f (fun b => some (AV.bool b)) (fun s => some (AV.bool (bif decide ((s.size : Int) ≥ 1) then decide ((s.size : Int) ≤ 8) else false))) s hn s.size (f - s.size - 1) 0 (by omega)
  rw [show f - s.size - 1 + s.size + 1 = f by omega] at this
  refine this.trans ?_
  have e1 : decide ((s.size : Int) ≥ 1) = decide (1 ≤ s.size) := decide_eq_decide.2 (by omega)
  have e2 : decide ((s.size : Int) ≤ 8) = decide (s.size ≤ 8) := decide_eq_decide.2 (by omega)
  rw [e1, e2]
  cases allB s s.size 0 <;> cases decide (1 ≤ s.size) <;> cases decide (s.size ≤ 8) <;> rfl

theorem sbyte_get {s : ByteArray} {i : Nat} (h : i < s.size) : sbyte s i = ((s[i]'h).toNat : Int) := by
  unfold sbyte
  have : s.data[i]? = some (s[i]'h) := by
    rw [Array.getElem?_eq_getElem h]; rfl
  rw [this]; rfl

theorem gjoints_named_all (f : Nat) (kx0 : Bool → ByteArray → Nat → Option AV) (kx1 : ByteArray → Nat → Option AV) (s : ByteArray) : ∀ (r k i : Nat), i + r = s.size → ∃ p, gjoints_named_l0 f kx0 kx1 s (k + r + 1) i = bif allB s r i then kx1 s s.size else kx0 false s p
  | 0, k, i, h => by
    obtain rfl : i = s.size := by omega
    refine ⟨0, ?_⟩
    show gjoints_named_l0_step f _ kx0 kx1 s s.size = _
    unfold gjoints_named_l0_step
    try unfold ck
    have : Nat.blt s.size s.size = false := by
      cases hb : Nat.blt s.size s.size with
      | false => rfl
      | true => rw [Nat.blt_eq] at hb; omega
    rw [this]; rfl
  | r + 1, k, i, h => by
    have hi : i < s.size := by omega
    obtain ⟨p, ih⟩ := gjoints_named_all f kx0 kx1 s r k (i + 1) (by omega)
    have hb : Nat.blt i s.size = true := by simpa using hi
    have hst : gjoints_named_l0 f kx0 kx1 s (k + (r + 1) + 1) i = gjoints_named_l0_step f (gjoints_named_l0 f kx0 kx1 s (k + r + 1)) kx0 kx1 s i := rfl
    rw [hst]
    unfold gjoints_named_l0_step
    try unfold ck
    rw [hb, cond_true]
    have hsb := sbyte_get hi
    simp only [allB, okB]
    rw [hsb]
    by_cases hlo : (s[i]'hi).toNat < 128
    · rw [decode_ascii s i hi hlo]
      simp only
      have e1 : decide ((i : Int) > 0) = decide (0 < i) := decide_eq_decide.2 (by omega)
      rw [e1]
      refine ⟨if letB ((s[i]'hi).toNat : Int) || (digB ((s[i]'hi).toNat : Int) && decide (0 < i)) then p else i + 1, ?_⟩
      rw [ih]
      unfold letB digB
      generalize ((s[i]'hi).toNat : Int) = b
      cases decide (b ≥ 97) <;> cases decide (b ≤ 122) <;> cases decide (b ≥ 48) <;> cases decide (b ≤ 57) <;> cases decide (0 < i) <;> cases allB s r (i + 1) <;> rfl
    · have hd := decode_high s i hi (by omega)
      refine ⟨i + (Utf8.decode s i).2, ?_⟩
      have e1 : letB ((s[i]'hi).toNat : Int) = false := by
        unfold letB
        rw [decide_eq_false (show ¬ ((s[i]'hi).toNat : Int) ≤ 122 by omega), Bool.and_false]
      have e2 : digB ((s[i]'hi).toNat : Int) = false := by
        unfold digB
        rw [decide_eq_false (show ¬ ((s[i]'hi).toNat : Int) ≤ 57 by omega), Bool.and_false]
      rw [e1, e2, decide_eq_false (show ¬ (((Utf8.decode s i).1 : Nat) : Int) ≤ 122 by have := hd.1; omega), decide_eq_false (show ¬ (((Utf8.decode s i).1 : Nat) : Int) ≤ 57 by have := hd.1; omega)]
      cases decide ((((Utf8.decode s i).1 : Nat) : Int) ≥ 97) <;> cases decide ((((Utf8.decode s i).1 : Nat) : Int) ≥ 48) <;> rfl
end Go.Proofs.Tryz
end
section
namespace Go.Proofs.Tryz
open Go Go.Am

theorem strEq_iff (a b : ByteArray) : strEq a b = true ↔ a = b := by
  unfold strEq
  rw [← beq_toListBytes]
  exact MapKept.bytes_beq a b
theorem strEq_comm (a b : ByteArray) : strEq a b = strEq b a := by
  apply Bool.eq_iff_iff.2
  rw [strEq_iff, strEq_iff]
  exact eq_comm
theorem strEq_nil (s : ByteArray) : strEq s { data := #[] } = !decide (1 ≤ s.size) := by
  apply Bool.eq_iff_iff.2
  rw [strEq_iff]
  constructor
  · rintro rfl; rfl
  · intro h
    have h0 : s.size = 0 := by
      have : ¬ 1 ≤ s.size := by simpa using h
      omega
    exact ByteArray.size_eq_zero_iff.1 h0

theorem name28 (f : Nat) (s : ByteArray) (hf : s.size < f) : gjoints_named f s = some (.bool (nameB s)) := by
  unfold gjoints_named nameB
  try unfold ck
  rw [strEq_nil]
  have e2 : decide ((s.size : Int) > 8) = !decide (s.size ≤ 8) := by
    by_cases h : s.size ≤ 8
    · rw [decide_eq_true h, decide_eq_false (by omega)]; rfl
    · rw [decide_eq_false h, decide_eq_true (by omega)]; rfl
  rw [e2]
  cases decide (1 ≤ s.size)
  · rfl
  cases decide (s.size ≤ 8)
  · rfl
  obtain ⟨p, hp⟩ := gjoints_named_all f (fun b _ _ => some (AV.bool b)) (fun _ _ => some (.bool true)) s s.size (f - s.size - 1) 0 (by omega)
  rw [show f - s.size - 1 + s.size + 1 = f by omega] at hp
  refine hp.trans ?_
  cases allB s s.size 0 <;> rfl

def okL (s : ByteArray) (i : Nat) : Bool := letB (sbyte s i) || digB (sbyte s i)
def allL (s : ByteArray) : Nat → Nat → Bool
  | 0, _ => true
  | k + 1, i => okL s i && allL s k (i + 1)

theorem lt_ge (b c : Int) : decide (b < c) = !decide (b ≥ c) := by
  by_cases h : b < c
  · rw [decide_eq_true h, decide_eq_false (by omega)]; rfl
  · rw [decide_eq_false h, decide_eq_true (by omega)]; rfl
theorem gt_le (b c : Int) : decide (b > c) = !decide (b ≤ c) := by
  by_cases h : b > c
  · rw [decide_eq_true h, decide_eq_false (by omega)]; rfl
  · rw [decide_eq_false h, decide_eq_true (by omega)]; rfl

theorem gref19_Named_step (f k : Nat) (kx0 : Bool → Option AV) (kx1 : Option AV) (s : ByteArray) (i : Nat) (hi : i < s.size) (hn : s.size < 4611686018427387904) :
    gref19_Named_l0 f kx0 kx1 s (k + 1) i = bif okL s i then gref19_Named_l0 f kx0 kx1 s k ((i + 1 : Nat) : Int) else kx0 false := by
  have h1 : (i : Int) < s.size := by omega
  show gref19_Named_l0_step f _ kx0 kx1 s i = _
  unfold gref19_Named_l0_step
  try unfold ck
  rw [decide_eq_true h1, decide_eq_true (show (0 : Int) ≤ i by omega), wrap_succ (by omega), Int.toNat_natCast]
  unfold okL letB digB
  generalize sbyte s i = b
  rw [lt_ge b 97, gt_le b 122, lt_ge b 48, gt_le b 57]
  cases decide (b ≥ 97) <;> cases decide (b ≤ 122) <;> cases decide (b ≥ 48) <;> cases decide (b ≤ 57) <;> rfl

theorem gref19_Named_all (f : Nat) (kx0 : Bool → Option AV) (kx1 : Option AV) (s : ByteArray) (hn : s.size < 4611686018427387904) : ∀ (r k i : Nat), i + r = s.size → gref19_Named_l0 f kx0 kx1 s (k + r + 1) i = bif allL s r i then kx1 else kx0 false
  | 0, k, i, h => by
    obtain rfl : i = s.size := by omega
    show gref19_Named_l0_step f _ kx0 kx1 s s.size = _
    unfold gref19_Named_l0_step
    try unfold ck
    rw [decide_eq_false (by omega), cond_false]
    rfl
  | r + 1, k, i, h => by
    rw [show k + (r + 1) + 1 = (k + r + 1) + 1 by omega, gref19_Named_step f _ kx0 kx1 s i (by omega) hn, gref19_Named_all f kx0 kx1 s hn r k (i + 1) (by omega)]
    simp only [allL]
    cases okL s i <;> rfl

theorem allL_eq (s : ByteArray) : ∀ (r i : Nat), 0 < i → allL s r i = allB s r i
  | 0, _, _ => rfl
  | r + 1, i, h => by
    simp only [allL, allB, okL, okB, decide_eq_true h, Bool.and_true, allL_eq s r (i + 1) (by omega)]

theorem name34 (f : Nat) (s : ByteArray) (hf : s.size < f) (hn : s.size < 4611686018427387904) : gref19_Named f s = some (.bool (nameB s)) := by
  unfold gref19_Named nameB
  try unfold ck
  rw [strEq_nil, gt_le (s.size : Int) 8, show decide ((s.size : Int) ≤ 8) = decide (s.size ≤ 8) from decide_eq_decide.2 (by omega), show decide ((0 : Int) < (s.size : Int)) = decide (1 ≤ s.size) from decide_eq_decide.2 (by omega), lt_ge, gt_le]
  have hl := gref19_Named_all f (fun b => some (AV.bool b)) (some (.bool true)) s hn s.size (f - s.size - 1) 0 (by omega)
  rw [show f - s.size - 1 + s.size + 1 = f by omega] at hl
  by_cases h1 : 1 ≤ s.size
  · rw [decide_eq_true h1]
    have e : allB s s.size 0 = (letB (sbyte s 0) && allL s s.size 0) := by
      obtain ⟨n, hn'⟩ : ∃ n, s.size = n + 1 := ⟨s.size - 1, by omega⟩
      rw [hn']
      simp only [allB, allL, okB, okL, allL_eq s n 1 (by omega), Nat.lt_irrefl, decide_false, Bool.and_false, Bool.or_false]
      cases letB (sbyte s 0) <;> simp
    rw [e]
    have hl' : gref19_Named_l0 f (fun b => some (AV.bool b)) (some (.bool true)) s f 0 = bif allL s s.size 0 then some (.bool true) else some (.bool false) := hl
    rw [hl']
    unfold letB
    cases decide (s.size ≤ 8) <;> cases decide (sbyte s 0 ≥ 97) <;> cases decide (sbyte s 0 ≤ 122) <;> cases allL s s.size 0 <;> rfl
  · rw [decide_eq_false h1]
    cases decide (s.size ≤ 8) <;> cases decide (sbyte s 0 ≥ 97) <;> cases decide (sbyte s 0 ≤ 122) <;> rfl
end Go.Proofs.Tryz
end
section
namespace Go.Proofs.Tryz
open Go Go.Am
set_option maxRecDepth 100000

/-- Joints, as the program reads them. -/
structure JS where
  n : Nat
  nm : Nat → ByteArray
  x : Nat → Int
  y : Nat → Int
  fx : Nat → Int
def JS.Ok (J : JS) (g : Nat → Nat → AV) : Prop := ∀ i, i < J.n → g i 0 = .str (J.nm i) ∧ g i 1 = .int .i32 (J.x i) ∧ g i 2 = .int .i32 (J.y i) ∧ g i 3 = .int .u8 (J.fx i)

def anyLt (p : Nat → Bool) : Nat → Bool
  | 0 => false
  | k + 1 => anyLt p k || p k
def JS.bad (J : JS) (i : Nat) : Bool :=
  anyLt (fun k => strEq (J.nm i) (J.nm k)) i || anyLt (fun k => J.x i == J.x k && J.y i == J.y k) i || !nameB (J.nm i) || (farB (J.x i) || farB (J.y i)) || decide (J.fx i > 7)
def first (p : Nat → Bool) : Nat → Nat → Option Nat
  | 0, _ => none
  | r + 1, i => bif p i then some i else first p r (i + 1)
def JS.check (J : JS) : Int × Int := bif decide (J.n > 16) then (3, 0) else match first J.bad J.n 0 with
  | some i => (280, (i : Int))
  | none => (0, 0)

theorem okM_b (q : Bool) : okM [RS.one LK.b] (some (.bool q)) = true := rfl
theorem getV_b (q : Bool) : toB (getV (some (.bool q))) = q := rfl

theorem key9 (a b : ByteArray) : keyEq prog 9 (.str a) (.str b) = some (strEq a b) := by kernel_rfl
theorem key91 (a b c d : Int) : keyEq prog 91 (.agg [.int .i32 a, .int .i32 b]) (.agg [.int .i32 c, .int .i32 d]) = some (bif a == c then (bif b == d then true else false) else false) := by kernel_rfl
theorem fit3 (k : Int) : fit1 prog 3 (.int .i64 k) = true := by kernel_rfl

theorem findM_append (P : Program) (kt : Nat) (k : AV) (p : AV × AV) : ∀ l : List (AV × AV), (findM P kt k (l ++ [p])).isSome = ((findM P kt k l).isSome || isT (keyEq P kt k p.1))
  | [] => by simp only [List.nil_append, findM]; cases isT (keyEq P kt k p.1) <;> rfl
  | q :: l => by
    simp only [List.cons_append, findM]
    cases isT (keyEq P kt k q.1)
    · exact findM_append P kt k p l
    · rfl

def IntVals (l : List (AV × AV)) : Prop := ∀ p ∈ l, ∃ n, p.2 = .int .i64 n
theorem findM_fit (kt : Nat) (k : AV) : ∀ (l : List (AV × AV)), IntVals l → fit1 prog 3 ((findM prog kt k l).getD (.int .i64 0)) = true
  | [], _ => fit3 0
  | q :: l, h => by
    simp only [findM]
    cases isT (keyEq prog kt k q.1)
    · exact findM_fit kt k l (fun p hp => h p (List.mem_cons_of_mem _ hp))
    · obtain ⟨n, hn⟩ := h q (List.mem_cons_self ..)
      show fit1 prog 3 q.2 = true
      rw [hn]; exact fit3 n

section
variable (J : JS)
def JS.nl : Nat → List (AV × AV)
  | 0 => []
  | i + 1 => JS.nl i ++ [(.str (J.nm i), .int .i64 i)]
def JS.pl : Nat → List (AV × AV)
  | 0 => []
  | i + 1 => JS.pl i ++ [(.agg [.int .i32 (J.x i), .int .i32 (J.y i)], .int .i64 i)]
theorem nl_vals : ∀ i, IntVals (J.nl i)
  | 0 => by intro p hp; simp [JS.nl] at hp
  | i + 1 => by
    intro p hp
    simp only [JS.nl, List.mem_append, List.mem_singleton] at hp
    rcases hp with hp | rfl
    · exact nl_vals i p hp
    · exact ⟨_, rfl⟩
theorem pl_vals : ∀ i, IntVals (J.pl i)
  | 0 => by intro p hp; simp [JS.pl] at hp
  | i + 1 => by
    intro p hp
    simp only [JS.pl, List.mem_append, List.mem_singleton] at hp
    rcases hp with hp | rfl
    · exact pl_vals i p hp
    · exact ⟨_, rfl⟩
theorem nl_fit (s : ByteArray) : ∀ i, mapFit prog 9 (.str s) (J.nl i) = true
  | 0 => rfl
  | i + 1 => by
    have := nl_fit s i
    unfold mapFit at this ⊢
    simp only [JS.nl, List.all_append, this, List.all_cons, List.all_nil, key9, Option.isSome_some, Bool.and_self]
theorem pl_fit (a b : Int) : ∀ i, mapFit prog 91 (.agg [.int .i32 a, .int .i32 b]) (J.pl i) = true
  | 0 => rfl
  | i + 1 => by
    have := pl_fit a b i
    unfold mapFit at this ⊢
    simp only [JS.pl, List.all_append, this, List.all_cons, List.all_nil, key91, Option.isSome_some, Bool.and_self]
theorem nl_find (s : ByteArray) : ∀ i, (findM prog 9 (.str s) (J.nl i)).isSome = anyLt (fun k => strEq s (J.nm k)) i
  | 0 => rfl
  | i + 1 => by
    simp only [JS.nl, findM_append, key9, isT, anyLt, nl_find s i]
theorem pl_find (a b : Int) : ∀ i, (findM prog 91 (.agg [.int .i32 a, .int .i32 b]) (J.pl i)).isSome = anyLt (fun k => a == J.x k && b == J.y k) i
  | 0 => rfl
  | i + 1 => by
    simp only [JS.pl, findM_append, key91, isT, anyLt, pl_find a b i]
    cases a == J.x i <;> cases b == J.y i <;> rfl
end

structure Sp28 (M : List AV → Option AV) (B : Nat) : Prop where
  sp : ∀ s : ByteArray, s.size ≤ B → M [.str s] = some (.bool (nameB s))
structure Sp29 (M : List AV → Option AV) : Prop where
  sp : ∀ (r : Nat) (a b : Int) (g : Nat → Nat → AV), g 0 0 = .int .i32 a → g 1 0 = .int .i32 b → M [.ro 1 2 r g] = some (.bool (!farB a && !farB b))

theorem gjoints_Check_step {M28 M29 : List AV → Option AV} {B : Nat} (h28 : Sp28 M28 B) (h29 : Sp29 M29) (J : JS) (hJ : J.n < 4611686018427387904) (f k : Nat)
    (kx0 : Int → Int → List (AV × AV) → List (AV × AV) → ByteArray → Int → Int → Int → Option AV) (kx1 : List (AV × AV) → List (AV × AV) → Option AV) (r : Nat) (g : Nat → Nat → AV) (hg : J.Ok g) (i : Nat) (hi : i < J.n) (hB : (J.nm i).size ≤ B) :
    gjoints_Check_l0 M28 M29 f kx0 kx1 J.n r g J.n (k + 1) i (J.nl i) (J.pl i) = bif J.bad i then kx0 280 i (J.nl i) (J.pl i) (J.nm i) (J.x i) (J.y i) (J.fx i) else
      gjoints_Check_l0 M28 M29 f kx0 kx1 J.n r g J.n k ((i + 1 : Nat) : Int) (J.nl (i + 1)) (J.pl (i + 1)) := by
  have h1 : (i : Int) < J.n := by omega
  obtain ⟨g0, g1, g2, g3⟩ := hg i hi
  show gjoints_Check_l0_step M28 M29 f _ kx0 kx1 J.n r g J.n i (J.nl i) (J.pl i) = _
  unfold gjoints_Check_l0_step
  try unfold ck
  rw [decide_eq_true h1, decide_eq_true (show (0 : Int) ≤ i by omega), wrap_succ (by omega), Int.toNat_natCast, g0, g1, g2, g3]
  simp only [toS, toI]
  have e28 := h28.sp (J.nm i) hB
  have e29 := h29.sp 2 (J.x i) (J.y i) (fun i_1 j => ([[AV.int IntKind.i32 (J.x i)], [AV.int IntKind.i32 (J.y i)]].getD i_1 []).getD j AV.dead) rfl rfl
  have ef : fitKs [LK.s, LK.i IntKind.i32, LK.i IntKind.i32, LK.i IntKind.u8] [.str (J.nm i), .int .i32 (J.x i), .int .i32 (J.y i), .int .u8 (J.fx i)] = true := rfl
  rw [ef, nl_fit, findM_fit _ _ _ (nl_vals J i), pl_fit, findM_fit _ _ _ (pl_vals J i), nl_find, pl_find, e28, e29, okM_b, okM_b, getV_b, getV_b]
  unfold JS.bad
  by_cases h7 : J.fx i > 7 <;> simp only [h7, decide_true, decide_false] <;>
  cases anyLt (fun k => strEq (J.nm i) (J.nm k)) i <;> cases anyLt (fun k => J.x i == J.x k && J.y i == J.y k) i <;> cases nameB (J.nm i) <;> cases farB (J.x i) <;> cases farB (J.y i) <;> rfl

theorem gjoints_Check_all {M28 M29 : List AV → Option AV} {B : Nat} (h28 : Sp28 M28 B) (h29 : Sp29 M29) (J : JS) (hJ : J.n < 4611686018427387904) (f : Nat)
    (kx0 : Int → Int → List (AV × AV) → List (AV × AV) → ByteArray → Int → Int → Int → Option AV) (kx1 : List (AV × AV) → List (AV × AV) → Option AV) (r : Nat) (g : Nat → Nat → AV) (hg : J.Ok g) (hB : ∀ i, i < J.n → (J.nm i).size ≤ B) :
    ∀ (q k i : Nat), i + q = J.n → ∃ a b s x y z, gjoints_Check_l0 M28 M29 f kx0 kx1 J.n r g J.n (k + q + 1) i (J.nl i) (J.pl i) = match first J.bad q i with
      | some j => kx0 280 j a b s x y z
      | none => kx1 a b
  | 0, k, i, h => by
    obtain rfl : i = J.n := by omega
    refine ⟨J.nl J.n, J.pl J.n, ⟨#[]⟩, 0, 0, 0, ?_⟩
    show gjoints_Check_l0_step M28 M29 f _ kx0 kx1 J.n r g J.n J.n _ _ = kx1 (J.nl J.n) (J.pl J.n)
    unfold gjoints_Check_l0_step
    try unfold ck
    rw [decide_eq_false (by omega), cond_false]
  | q + 1, k, i, h => by
    rw [show k + (q + 1) + 1 = (k + q + 1) + 1 by omega, gjoints_Check_step h28 h29 J hJ f _ kx0 kx1 r g hg i (by omega) (hB i (by omega))]
    simp only [first]
    cases J.bad i
    · exact gjoints_Check_all h28 h29 J hJ f kx0 kx1 r g hg hB q k (i + 1) (by omega)
    · exact ⟨J.nl i, J.pl i, J.nm i, J.x i, J.y i, J.fx i, rfl⟩

theorem check14 {M28 M29 : List AV → Option AV} {B : Nat} (h28 : Sp28 M28 B) (h29 : Sp29 M29) (J : JS) (f : Nat) (hf : J.n < f) (hJ : J.n < 4611686018427387904) (r : Nat) (g : Nat → Nat → AV) (hg : J.Ok g) (hB : ∀ i, i < J.n → (J.nm i).size ≤ B) :
    gjoints_Check M28 M29 f J.n r g = some (.tup [.int .i64 J.check.1, .int .i64 J.check.2]) := by
  unfold gjoints_Check JS.check
  try unfold ck
  by_cases h : J.n > 16
  · rw [decide_eq_true (show (J.n : Int) > 16 by omega), decide_eq_true h]; rfl
  · rw [decide_eq_false (show ¬ (J.n : Int) > 16 by omega), decide_eq_false h, cond_false, cond_false]
    obtain ⟨a, b, s, x, y, z, e⟩ := gjoints_Check_all h28 h29 J hJ f (fun xu2 xu3 _ _ _ _ _ _ => some (.tup [.int .i64 xu2, .int .i64 xu3])) (fun _ _ => some (.tup [.int .i64 0, .int .i64 0])) r g hg hB J.n (f - J.n - 1) 0 (by omega)
    rw [show f - J.n - 1 + J.n + 1 = f by omega] at e
    refine e.trans ?_
    cases first J.bad J.n 0 <;> rfl
end Go.Proofs.Tryz
end
section
namespace Go.Proofs.Tryz
open Go Go.Am
set_option maxRecDepth 100000

theorem near44 (f : Nat) (a : Int) : gref18_near f a = some (.bool (!farB a)) := by
  unfold gref18_near farB
  try unfold ck
  rw [lt_ge, gt_le]
  cases decide (a ≥ -1048576) <;> cases decide (a ≤ 1048576) <;> rfl

def mayJ (s : ByteArray) (x y fx : Int) : Bool := nameB s && !farB x && !farB y && decide (fx ≤ 7)

theorem may33 {M43 M44 : List AV → Option AV} {B : Nat} (h43 : Sp28 M43 B) (h44 : ∀ a, M44 [.int .i32 a] = some (.bool (!farB a))) (f : Nat) (s : ByteArray) (x y fx : Int) (hB : s.size ≤ B) :
    gref18_May M43 M44 f s x y fx = some (.bool (mayJ s x y fx)) := by
  unfold gref18_May mayJ
  try unfold ck
  rw [h43.sp s hB, h44, h44, okM_b, okM_b, okM_b, getV_b, getV_b, getV_b]
  cases nameB s <;> cases farB x <;> cases farB y <;> cases decide (fx ≤ 7) <;> rfl

def anyFrom (p : Nat → Bool) : Nat → Nat → Bool
  | 0, _ => false
  | r + 1, k => p k || anyFrom p r (k + 1)
theorem anyFrom_lt (p : Nat → Bool) : ∀ (r k : Nat), anyLt p (k + r) = (anyLt p k || anyFrom p r k)
  | 0, k => by simp [anyFrom]
  | r + 1, k => by
    rw [show k + (r + 1) = (k + 1) + r by omega, anyFrom_lt p r (k + 1)]
    simp only [anyLt, anyFrom, Bool.or_assoc]
theorem anyLt_or (p q : Nat → Bool) : ∀ i, anyLt (fun k => p k || q k) i = (anyLt p i || anyLt q i)
  | 0 => rfl
  | i + 1 => by
    simp only [anyLt, anyLt_or p q i]
    cases anyLt p i <;> cases anyLt q i <;> cases p i <;> cases q i <;> rfl
theorem anyLt_congr {p q : Nat → Bool} (h : ∀ k, p k = q k) : ∀ i, anyLt p i = anyLt q i
  | 0 => rfl
  | i + 1 => by simp only [anyLt, h, anyLt_congr h i]

section
variable (J : JS)
def JS.dup (i k : Nat) : Bool := strEq (J.nm k) (J.nm i) || (J.x k == J.x i && J.y k == J.y i)

theorem gref18_Check_step0 {M33 : List AV → Option AV} (hJ : J.n < 4611686018427387904) (f q : Nat) (kx0 : Int → Int → Option AV) (kx1 : Nat → Nat → (Nat → Nat → AV) → Int → Option AV) (r : Nat) (g : Nat → Nat → AV) (hg : J.Ok g) (i k : Nat) (hi : i < J.n) (hk : k < i) :
    gref18_Check_l0 M33 f kx0 kx1 J.n r g i (q + 1) k = bif J.dup i k then kx0 280 i else gref18_Check_l0 M33 f kx0 kx1 J.n r g i q ((k + 1 : Nat) : Int) := by
  obtain ⟨g0, g1, g2, g3⟩ := hg i hi
  obtain ⟨k0, k1, k2, k3⟩ := hg k (by omega)
  show gref18_Check_l0_step M33 f _ kx0 kx1 J.n r g i k = _
  unfold gref18_Check_l0_step
  try unfold ck
  rw [decide_eq_true (show (k : Int) < i by omega), decide_eq_true (show (k : Int) < J.n by omega), decide_eq_true (show (i : Int) < J.n by omega), decide_eq_true (show (0 : Int) ≤ k by omega), decide_eq_true (show (0 : Int) ≤ i by omega), wrap_succ (by omega), Int.toNat_natCast, Int.toNat_natCast, g0, g1, g2, k0, k1, k2]
  simp only [toS, toI]
  have e1 : ∀ s, fitK LK.s (.str s) = true := fun _ => rfl
  have e2 : ∀ n, fitK (LK.i IntKind.i32) (.int .i32 n) = true := fun _ => rfl
  simp only [e1, e2]
  unfold JS.dup
  cases strEq (J.nm k) (J.nm i) <;> cases J.x k == J.x i <;> cases J.y k == J.y i <;> rfl

theorem gref18_Check_all0 {M33 : List AV → Option AV} (hJ : J.n < 4611686018427387904) (f : Nat) (kx0 : Int → Int → Option AV) (kx1 : Nat → Nat → (Nat → Nat → AV) → Int → Option AV) (r : Nat) (g : Nat → Nat → AV) (hg : J.Ok g) (i : Nat) (hi : i < J.n) :
    ∀ (m q k : Nat), k + m = i → gref18_Check_l0 M33 f kx0 kx1 J.n r g i (q + m + 1) k = bif anyFrom (J.dup i) m k then kx0 280 i else kx1 J.n r g i
  | 0, q, k, h => by
    obtain rfl : k = i := by omega
    show gref18_Check_l0_step M33 f _ kx0 kx1 J.n r g k k = _
    unfold gref18_Check_l0_step
    try unfold ck
    rw [decide_eq_false (by omega), cond_false]
    rfl
  | m + 1, q, k, h => by
    rw [show q + (m + 1) + 1 = (q + m + 1) + 1 by omega, gref18_Check_step0 J hJ f _ kx0 kx1 r g hg i k hi (by omega), gref18_Check_all0 hJ f kx0 kx1 r g hg i hi m q (k + 1) (by omega)]
    simp only [anyFrom]
    cases J.dup i k <;> rfl

theorem bad_eq (i : Nat) : J.bad i = (!mayJ (J.nm i) (J.x i) (J.y i) (J.fx i) || anyFrom (J.dup i) i 0) := by
  have e := anyFrom_lt (J.dup i) i 0
  rw [Nat.zero_add] at e
  simp only [anyLt, Bool.false_or] at e
  rw [← e]
  unfold JS.dup JS.bad mayJ
  rw [anyLt_or, gt_le]
  rw [anyLt_congr (p := fun k => strEq (J.nm k) (J.nm i)) (q := fun k => strEq (J.nm i) (J.nm k)) (fun k => strEq_comm _ _)]
  rw [anyLt_congr (p := fun k => J.x k == J.x i && J.y k == J.y i) (q := fun k => J.x i == J.x k && J.y i == J.y k) (fun k => by
    rw [show (J.x k == J.x i) = (J.x i == J.x k) from Bool.beq_comm, show (J.y k == J.y i) = (J.y i == J.y k) from Bool.beq_comm])]
  cases anyLt (fun k => strEq (J.nm i) (J.nm k)) i <;> cases anyLt (fun k => J.x i == J.x k && J.y i == J.y k) i <;> cases nameB (J.nm i) <;> cases farB (J.x i) <;> cases farB (J.y i) <;> cases decide (J.fx i ≤ 7) <;> rfl

theorem gref18_Check_all {M33 : List AV → Option AV} {B : Nat} (h33 : ∀ s x y fx, s.size ≤ B → M33 [.agg [.str s, .int .i32 x, .int .i32 y, .int .u8 fx]] = some (.bool (mayJ s x y fx))) (hJ : J.n < 4611686018427387904) (f : Nat) (hf : J.n < f)
    (kx0 : Int → Int → Option AV) (kx1 : Option AV) (r : Nat) (g : Nat → Nat → AV) (hg : J.Ok g) (hB : ∀ i, i < J.n → (J.nm i).size ≤ B) :
    ∀ (m q i : Nat), i + m = J.n → gref18_Check_l1 M33 f kx0 kx1 (q + m + 1) J.n r g i = match first J.bad m i with
      | some j => kx0 280 j
      | none => kx1
  | 0, q, i, h => by
    obtain rfl : i = J.n := by omega
    show gref18_Check_l1_step M33 f _ kx0 kx1 J.n r g J.n = _
    unfold gref18_Check_l1_step
    try unfold ck
    rw [decide_eq_false (by omega), cond_false]
    rfl
  | m + 1, q, i, h => by
    have hi : i < J.n := by omega
    obtain ⟨g0, g1, g2, g3⟩ := hg i hi
    have ih := gref18_Check_all h33 hJ f hf kx0 kx1 r g hg hB m q (i + 1) (by omega)
    show gref18_Check_l1_step M33 f (gref18_Check_l1 M33 f kx0 kx1 (q + m + 1)) kx0 kx1 J.n r g i = _
    unfold gref18_Check_l1_step
    try unfold ck
    rw [decide_eq_true (show (i : Int) < J.n by omega), decide_eq_true (show (0 : Int) ≤ i by omega), Int.toNat_natCast, g0, g1, g2, g3]
    simp only [toS, toI]
    have ef : fitKs [LK.s, LK.i IntKind.i32, LK.i IntKind.i32, LK.i IntKind.u8] [.str (J.nm i), .int .i32 (J.x i), .int .i32 (J.y i), .int .u8 (J.fx i)] = true := rfl
    have h0 := gref18_Check_all0 (M33 := M33) J hJ f (fun a b => kx0 a b) (fun n r g i => gref18_Check_l1 M33 f kx0 kx1 (q + m + 1) n r g (IntKind.i64.wrap (i + 1))) r g hg i hi i (f - i - 1) 0 (by omega)
    rw [show f - i - 1 + i + 1 = f by omega] at h0
    rw [ef, h33 _ _ _ _ (hB i hi), okM_b, getV_b]
    simp only [first, bad_eq]
    cases mayJ (J.nm i) (J.x i) (J.y i) (J.fx i)
    · rfl
    · simp only [Bool.not_true, cond_true, cond_false, Bool.false_or]
      refine h0.trans ?_
      rw [wrap_succ (by omega), ih]
      cases anyFrom (J.dup i) i 0 <;> rfl

theorem check16 {M33 : List AV → Option AV} {B : Nat} (h33 : ∀ s x y fx, s.size ≤ B → M33 [.agg [.str s, .int .i32 x, .int .i32 y, .int .u8 fx]] = some (.bool (mayJ s x y fx))) (hJ : J.n < 4611686018427387904) (f : Nat) (hf : J.n < f)
    (r : Nat) (g : Nat → Nat → AV) (hg : J.Ok g) (hB : ∀ i, i < J.n → (J.nm i).size ≤ B) :
    gref18_Check M33 f J.n r g = some (.tup [.int .i64 J.check.1, .int .i64 J.check.2]) := by
  unfold gref18_Check JS.check
  try unfold ck
  by_cases h : J.n > 16
  · rw [decide_eq_true (show (J.n : Int) > 16 by omega), decide_eq_true h]; rfl
  · rw [decide_eq_false (show ¬ (J.n : Int) > 16 by omega), decide_eq_false h, cond_false, cond_false]
    have e := gref18_Check_all J h33 hJ f hf (fun xu2 xu3 => some (.tup [.int .i64 xu2, .int .i64 xu3])) (some (.tup [.int .i64 0, .int .i64 0])) r g hg hB J.n (f - J.n - 1) 0 (by omega)
    rw [show f - J.n - 1 + J.n + 1 = f by omega] at e
    refine e.trans ?_
    cases first J.bad J.n 0 <;> rfl
end
end Go.Proofs.Tryz
end
section
namespace Go.Proofs.Tryz
open Go Go.Am
set_option maxRecDepth 100000

/-- Members, as the program reads them. -/
structure MS where
  n : Nat
  nm : Nat → ByteArray
  kd : Nat → Int
  a : Nat → Int
  b : Nat → Int
  ha : Nat → Bool
  hb : Nat → Bool
  e : Nat → Nat
  ar : Nat → Nat
  iv : Nat → Nat
def MS.Ok (M : MS) (g : Nat → Nat → AV) : Prop := ∀ i, i < M.n → g i 0 = .str (M.nm i) ∧ g i 1 = .int .u8 (M.kd i) ∧ g i 2 = .int .i64 (M.a i) ∧ g i 3 = .int .i64 (M.b i) ∧ g i 4 = .bool (M.ha i) ∧ g i 5 = .bool (M.hb i) ∧
  g i 6 = .flt .f64 (some (M.e i)) ∧ g i 7 = .flt .f64 (some (M.ar i)) ∧ g i 8 = .flt .f64 (some (M.iv i))

def numB (x : Option Nat) : Bool :=
  bif ford FloatKind.f64 x (some 4336966441157787648) == some Ordering.gt || ford FloatKind.f64 x (some 4336966441157787648) == some Ordering.eq then ford FloatKind.f64 x (some 4877398396442247168) == some Ordering.lt || ford FloatKind.f64 x (some 4877398396442247168) == some Ordering.eq else false
theorem num31 (f : Nat) (x : Option Nat) : gbars_number f x = some (.bool (numB x)) := rfl
theorem num35 (f : Nat) (x : Option Nat) : gref19_Number f x = some (.bool (numB x)) := rfl
theorem sign36 (f : Nat) (b : Nat) : gmath_Signbit f (some b) = some (.bool (decide (IntKind.i64.wrap ((b : Nat) : Int) < 0))) := rfl

theorem toS_str (s : ByteArray) : toS (.str s) = s := rfl
theorem toI_int (k : IntKind) (n : Int) : toI (.int k n) = n := rfl
theorem toB_bool (b : Bool) : toB (.bool b) = b := rfl
theorem toF_flt (k : FloatKind) (x : Option Nat) : toF (.flt k x) = x := rfl

section
variable (M : MS)
def MS.core (nj i : Nat) : Bool :=
  bif nameB (M.nm i) then bif decide (M.a i < 0) then false else bif decide (M.a i ≥ nj) then false else bif decide (M.b i < 0) then false else bif decide (M.b i ≥ nj) then false else
    bif M.a i == M.b i then false else bif numB (some (M.e i)) then numB (some (M.ar i)) else false
  else false
def MS.may (nj i : Nat) : Bool := bif anyFrom (fun k => strEq (M.nm k) (M.nm i)) i 0 then false else bif M.core nj i then
    (bif M.kd i == 1 then (bif M.ha i then false else bif M.hb i then false else ((M.iv i : Nat) : Int) == 0) else bif M.kd i == 2 then numB (some (M.iv i)) else false)
  else false

structure SpN (N : List AV → Option AV) : Prop where
  sp : ∀ x, N [.flt .f64 x] = some (.bool (numB x))

theorem fitM (s : ByteArray) (k a b : Int) (p q : Bool) (x y z : Option Nat) :
    fitKs [LK.s, LK.i IntKind.u8, LK.i IntKind.i64, LK.i IntKind.i64, LK.b, LK.b, LK.f FloatKind.f64, LK.f FloatKind.f64, LK.f FloatKind.f64] [.str s, .int .u8 k, .int .i64 a, .int .i64 b, .bool p, .bool q, .flt .f64 x, .flt .f64 y, .flt .f64 z] = true := rfl

theorem gbars_may_all {M30 M31 : List AV → Option AV} (hM : M.n < 4611686018427387904) (f : Nat) (kx1 : Nat → Nat → (Nat → Nat → AV) → Nat → Nat → (Nat → Nat → AV) → ByteArray → Int → Int → Int → Bool → Bool → Option Nat → Option Nat → Option Nat → Option AV)
    (r : Nat) (g : Nat → Nat → AV) (hg : M.Ok g) (a1 a2 : Nat) (a3 : Nat → Nat → AV) (a4 a5 : Nat) (a6 : Nat → Nat → AV) (c1 c2 c3 : Int) (d1 d2 : Bool) (o1 o2 o3 : Option Nat) (i : Nat) (hi : i < M.n) :
    ∀ (m q k : Nat), k + m = i → gbars_may_l0 M30 M31 f (fun b _ _ _ _ _ _ _ _ _ _ _ _ _ _ _ _ _ _ _ _ _ _ _ _ => some (.bool b)) kx1 i r g i a1 a2 a3 a4 a5 a6 (M.nm i) c1 c2 c3 d1 d2 o1 o2 o3 (q + m + 1) k =
      bif anyFrom (fun k => strEq (M.nm k) (M.nm i)) m k then some (.bool false) else kx1 a1 a2 a3 a4 a5 a6 (M.nm i) c1 c2 c3 d1 d2 o1 o2 o3
  | 0, q, k, h => by
    obtain rfl : k = i := by omega
    show gbars_may_l0_step M30 M31 f _ _ kx1 k r g k a1 a2 a3 a4 a5 a6 (M.nm k) c1 c2 c3 d1 d2 o1 o2 o3 k = _
    unfold gbars_may_l0_step
    try unfold ck
    rw [decide_eq_false (by omega), cond_false]
    rfl
  | m + 1, q, k, h => by
    have ih := gbars_may_all (M30 := M30) (M31 := M31) hM f kx1 r g hg a1 a2 a3 a4 a5 a6 c1 c2 c3 d1 d2 o1 o2 o3 i hi m q (k + 1) (by omega)
    obtain ⟨k0, k1, k2, k3, k4, k5, k6, k7, k8⟩ := hg k (by omega)
    show gbars_may_l0_step M30 M31 f (gbars_may_l0 M30 M31 f _ kx1 i r g i a1 a2 a3 a4 a5 a6 (M.nm i) c1 c2 c3 d1 d2 o1 o2 o3 (q + m + 1)) _ kx1 i r g i a1 a2 a3 a4 a5 a6 (M.nm i) c1 c2 c3 d1 d2 o1 o2 o3 k = _
    unfold gbars_may_l0_step
    try unfold ck
    rw [decide_eq_true (show (k : Int) < i by omega), decide_eq_true (show (0 : Int) ≤ k by omega), wrap_succ (by omega), Int.toNat_natCast, k0, k1, k2, k3, k4, k5, k6, k7, k8, fitM, ih]
    simp only [anyFrom, toS]
    cases strEq (M.nm k) (M.nm i) <;> rfl

theorem may15 {M30 M31 : List AV → Option AV} {B : Nat} (h30 : Sp28 M30 B) (h31 : SpN M31) (hM : M.n < 4611686018427387904) (f : Nat) (hf : M.n < f) (jn jr : Nat) (jg : Nat → Nat → AV) (r : Nat) (hr : M.n ≤ r) (g : Nat → Nat → AV) (hg : M.Ok g)
    (i : Nat) (hi : i < M.n) (hB : (M.nm i).size ≤ B) : gbars_may M30 M31 f jn jr jg M.n r g i = some (.bool (M.may jn i)) := by
  obtain ⟨g0, g1, g2, g3, g4, g5, g6, g7, g8⟩ := hg i hi
  unfold gbars_may
  try unfold ck
  rw [decide_eq_true (show (i : Int) < M.n by omega), decide_eq_true (show (0 : Int) ≤ i by omega), decide_eq_true (show (i : Int) ≤ r by omega), Int.toNat_natCast, g0, g1, g2, g3, g4, g5, g6, g7, g8, fitM, Nat.sub_zero, Nat.sub_zero]
  have eg : (fun (i : Nat) => g (0 + i)) = g := by funext i; rw [Nat.zero_add]
  rw [eg]
  simp only [toS_str, toI_int, toB_bool, toF_flt, cond_true]
  refine (show gbars_may_l0 M30 M31 f _ _ i r g i _ _ _ _ _ _ (M.nm i) _ _ _ _ _ _ _ _ f ((0 : Nat) : Int) = _ from ?_)
  have ha := fun kx1 => gbars_may_all M (M30 := M30) (M31 := M31) hM f kx1 r g hg jn jr jg M.n r g (M.kd i) (M.a i) (M.b i) (M.ha i) (M.hb i) (some (M.e i)) (some (M.ar i)) (some (M.iv i)) i hi i (f - i - 1) 0 (by omega)
  rw [show f - i - 1 + i + 1 = f by omega] at ha
  refine (ha _).trans ?_
  unfold MS.may
  cases anyFrom (fun k => strEq (M.nm k) (M.nm i)) i 0
  case true => rfl
  simp only [cond_false]
  have e30 := h30.sp (M.nm i) hB
  have es : sBits.ok [AV.flt FloatKind.f64 (some (M.iv i))] = true := rfl
  rw [e30, h31.sp, h31.sp, h31.sp, okM_b, okM_b, okM_b, okM_b, getV_b, getV_b, getV_b, getV_b, es]
  unfold MS.core
  cases nameB (M.nm i)
  · rfl
  cases decide (M.a i < 0)
  case true => rfl
  cases decide (M.a i ≥ jn)
  case true => rfl
  cases decide (M.b i < 0)
  case true => rfl
  cases decide (M.b i ≥ jn)
  case true => rfl
  cases M.a i == M.b i
  case true => rfl
  cases numB (some (M.e i))
  · rfl
  cases numB (some (M.ar i))
  · rfl
  cases M.kd i == 1
  · cases M.kd i == 2 <;> rfl
  · cases M.ha i
    · cases M.hb i <;> rfl
    · rfl
end
end Go.Proofs.Tryz
end
section
namespace Go.Proofs.Tryz
open Go Go.Am
set_option maxRecDepth 100000

theorem cmp_pos {m k k' : Nat} (h : 0 < m) : (some (compare (Ieee.signed false m k) (Ieee.signed false 0 k')) == some Ordering.eq) = false := by
  have h1 : Ieee.signed false m k ≠ Ieee.signed false 0 k' := by
    simp only [Ieee.signed, Bool.false_eq_true, if_false, Nat.shiftLeft_eq, Nat.zero_mul]
    have : 0 < m * 2 ^ k := Nat.mul_pos h (Nat.two_pow_pos k)
    omega
  cases hc : compare (Ieee.signed false m k) (Ieee.signed false 0 k')
  · rfl
  · exact absurd (Std.LawfulEqOrd.eq_of_compare hc) h1
  · rfl

theorem order_zero (b : Nat) (hb : b < 9223372036854775808) : (FloatKind.f64.format.order b 0 == some Ordering.eq) = decide (b = 0) := by
  have e1 : FloatKind.f64.format.signWeight = 9223372036854775808 := rfl
  have e2 : FloatKind.f64.format.binade = 4503599627370496 := rfl
  have r0 : FloatKind.f64.format.read 0 = .number false 0 FloatKind.f64.format.leastPlace := rfl
  unfold Ieee.Format.order
  rw [r0]
  unfold Ieee.Format.read
  rw [e1, Nat.mod_eq_of_lt hb, Nat.div_eq_of_lt hb]
  simp only [Nat.zero_mod]
  have hneg : ((0 : Nat) == 1) = false := rfl
  rw [hneg]
  by_cases h0 : b = 0
  · subst h0; rfl
  · rw [decide_eq_false h0]
    split
    · exact cmp_pos (Nat.pos_of_ne_zero h0)
    · split
      · exact cmp_pos (by rw [e2]; omega)
      · split
        · rfl
        · rfl

theorem zeroB (b : Nat) (hb : b < 18446744073709551616) : (bif ford FloatKind.f64 (some b) (some 0) == some Ordering.eq then !decide (IntKind.i64.wrap ((b : Nat) : Int) < 0) else false) = (((b : Nat) : Int) == 0) := by
  have hf : ford FloatKind.f64 (some b) (some 0) = FloatKind.f64.format.order b 0 := rfl
  rw [hf]
  by_cases h : b < 9223372036854775808
  · rw [order_zero b h, wrap_id (by omega) (by omega), decide_eq_false (show ¬ ((b : Nat) : Int) < 0 by omega)]
    by_cases h0 : b = 0
    · subst h0; rfl
    · rw [decide_eq_false h0]
      have : ¬ ((b : Nat) : Int) = 0 := by omega
      simpa using this
  · have hw : IntKind.i64.wrap ((b : Nat) : Int) < 0 := by rw [IntKind.wrap_i64]; omega
    rw [decide_eq_true hw]
    have : ((((b : Nat) : Int)) == 0) = false := by
      have : ¬ ((b : Nat) : Int) = 0 := by omega
      simpa using this
    rw [this]
    cases (FloatKind.f64.format.order b 0 == some Ordering.eq) <;> rfl

section
variable (M : MS)
theorem gref19_may_all {M34 M35 M36 : List AV → Option AV} (hM : M.n < 4611686018427387904) (f : Nat) (kx1 : Nat → Nat → (Nat → Nat → AV) → Nat → Nat → (Nat → Nat → AV) → ByteArray → Int → Int → Int → Bool → Bool → Option Nat → Option Nat → Option Nat → Option AV)
    (r : Nat) (g : Nat → Nat → AV) (hg : M.Ok g) (a1 a2 : Nat) (a3 : Nat → Nat → AV) (c1 c2 c3 : Int) (d1 d2 : Bool) (o1 o2 o3 : Option Nat) (i : Nat) (hi : i < M.n) :
    ∀ (m q k : Nat), k + m = i → gref19_may_l0 M34 M35 M36 f (fun b _ _ _ _ _ _ _ _ _ _ _ _ _ _ _ => some (.bool b)) kx1 i a1 a2 a3 M.n r g (M.nm i) c1 c2 c3 d1 d2 o1 o2 o3 (q + m + 1) k =
      bif anyFrom (fun k => strEq (M.nm k) (M.nm i)) m k then some (.bool false) else kx1 a1 a2 a3 M.n r g (M.nm i) c1 c2 c3 d1 d2 o1 o2 o3
  | 0, q, k, h => by
    obtain rfl : k = i := by omega
    show gref19_may_l0_step M34 M35 M36 f _ _ kx1 k a1 a2 a3 M.n r g (M.nm k) c1 c2 c3 d1 d2 o1 o2 o3 k = _
    unfold gref19_may_l0_step
    try unfold ck
    rw [decide_eq_false (by omega), cond_false]
    rfl
  | m + 1, q, k, h => by
    have ih := gref19_may_all (M34 := M34) (M35 := M35) (M36 := M36) hM f kx1 r g hg a1 a2 a3 c1 c2 c3 d1 d2 o1 o2 o3 i hi m q (k + 1) (by omega)
    obtain ⟨k0, _⟩ := hg k (by omega)
    show gref19_may_l0_step M34 M35 M36 f (gref19_may_l0 M34 M35 M36 f _ kx1 i a1 a2 a3 M.n r g (M.nm i) c1 c2 c3 d1 d2 o1 o2 o3 (q + m + 1)) _ kx1 i a1 a2 a3 M.n r g (M.nm i) c1 c2 c3 d1 d2 o1 o2 o3 k = _
    unfold gref19_may_l0_step
    try unfold ck
    have e1 : ∀ s, fitK LK.s (.str s) = true := fun _ => rfl
    rw [decide_eq_true (show (k : Int) < i by omega), decide_eq_true (show (0 : Int) ≤ k by omega), decide_eq_true (show (k : Int) < M.n by omega), wrap_succ (by omega), Int.toNat_natCast, k0, e1, ih]
    simp only [anyFrom, toS_str]
    cases strEq (M.nm k) (M.nm i) <;> rfl

theorem may17 {M34 M35 M36 : List AV → Option AV} {B : Nat} (h34 : Sp28 M34 B) (h35 : SpN M35) (h36 : ∀ b, M36 [.flt .f64 (some b)] = some (.bool (decide (IntKind.i64.wrap ((b : Nat) : Int) < 0)))) (hM : M.n < 4611686018427387904) (f : Nat) (hf : M.n < f)
    (jn jr : Nat) (jg : Nat → Nat → AV) (r : Nat) (g : Nat → Nat → AV) (hg : M.Ok g) (i : Nat) (hi : i < M.n) (hB : (M.nm i).size ≤ B) (hb : M.iv i < 18446744073709551616) : gref19_may M34 M35 M36 f jn jr jg M.n r g i = some (.bool (M.may jn i)) := by
  obtain ⟨g0, g1, g2, g3, g4, g5, g6, g7, g8⟩ := hg i hi
  unfold gref19_may
  try unfold ck
  rw [decide_eq_true (show (i : Int) < M.n by omega), decide_eq_true (show (0 : Int) ≤ i by omega), Int.toNat_natCast, g0, g1, g2, g3, g4, g5, g6, g7, g8, fitM]
  simp only [toS_str, toI_int, toB_bool, toF_flt, cond_true]
  refine (show gref19_may_l0 M34 M35 M36 f _ _ i _ _ _ M.n r g (M.nm i) _ _ _ _ _ _ _ _ f ((0 : Nat) : Int) = _ from ?_)
  have ha := fun kx1 => gref19_may_all M (M34 := M34) (M35 := M35) (M36 := M36) hM f kx1 r g hg jn jr jg (M.kd i) (M.a i) (M.b i) (M.ha i) (M.hb i) (some (M.e i)) (some (M.ar i)) (some (M.iv i)) i hi i (f - i - 1) 0 (by omega)
  rw [show f - i - 1 + i + 1 = f by omega] at ha
  refine (ha _).trans ?_
  unfold MS.may
  cases anyFrom (fun k => strEq (M.nm k) (M.nm i)) i 0
  case true => rfl
  simp only [cond_false]
  have e30 := h34.sp (M.nm i) hB
  have hz := zeroB (M.iv i) hb
  rw [e30, h35.sp, h35.sp, h35.sp, h36, okM_b, okM_b, okM_b, okM_b, okM_b, getV_b, getV_b, getV_b, getV_b, getV_b, ← hz]
  unfold MS.core
  cases nameB (M.nm i)
  · rfl
  cases decide (M.a i < 0)
  case true => rfl
  cases decide (M.a i ≥ jn)
  case true => rfl
  cases decide (M.b i < 0)
  case true => rfl
  cases decide (M.b i ≥ jn)
  case true => rfl
  cases M.a i == M.b i
  case true => rfl
  cases numB (some (M.e i))
  · rfl
  cases numB (some (M.ar i))
  · rfl
  cases M.kd i == 1
  · cases M.kd i == 2 <;> rfl
  · cases M.ha i
    · cases M.hb i
      · cases ford FloatKind.f64 (some (M.iv i)) (some 0) == some Ordering.eq <;> rfl
      · rfl
    · rfl
end
end Go.Proofs.Tryz
end
section
namespace Go.Proofs.Tryz
open Go Go.Am
set_option maxRecDepth 100000

def planCheck (J : JS) (M : MS) : Int × Int := bif J.check.1 != 0 then J.check else bif decide (M.n > 48) then (3, 0) else match first (fun i => !M.may J.n i) M.n 0 with
  | some i => (290, (i : Int))
  | none => (0, 0)
def pair (p : Int × Int) : AV := .tup [.int .i64 p.1, .int .i64 p.2]

theorem okM_p (p : Int × Int) : okM [RS.one (LK.i IntKind.i64), RS.one (LK.i IntKind.i64)] (some (pair p)) = true := rfl
theorem getP1 (p : Int × Int) : toI ((toT (getV (some (pair p)))).headD .dead) = p.1 := rfl
theorem getP2 (p : Int × Int) : toI ((toT (getV (some (pair p)))).tail.headD .dead) = p.2 := rfl

theorem gbars_Check_all {M14 M15 : List AV → Option AV} (J : JS) (M : MS) (jr r : Nat) (jg g : Nat → Nat → AV) (h15 : ∀ i : Nat, i < M.n → M15 [.agg [.ro 4 J.n jr jg, .ro 9 M.n r g], .int .i64 i] = some (.bool (M.may J.n i))) (hM : M.n < 4611686018427387904) (f : Nat)
    (kx0 : Int → Int → Nat → Nat → (Nat → Nat → AV) → Nat → Nat → (Nat → Nat → AV) → Option AV) (kx1 : Nat → Nat → (Nat → Nat → AV) → Nat → Nat → (Nat → Nat → AV) → Option AV) :
    ∀ (m q i : Nat), i + m = M.n → gbars_Check_l0 M14 M15 f kx0 kx1 M.n J.n jr jg M.n r g (q + m + 1) i = match first (fun i => !M.may J.n i) m i with
      | some j => kx0 290 j J.n jr jg M.n r g
      | none => kx1 J.n jr jg M.n r g
  | 0, q, i, h => by
    obtain rfl : i = M.n := by omega
    show gbars_Check_l0_step M14 M15 f _ kx0 kx1 M.n J.n jr jg M.n r g M.n = _
    unfold gbars_Check_l0_step
    try unfold ck
    rw [decide_eq_false (by omega), cond_false]
    rfl
  | m + 1, q, i, h => by
    have hi : i < M.n := by omega
    have ih := gbars_Check_all (M14 := M14) J M jr r jg g h15 hM f kx0 kx1 m q (i + 1) (by omega)
    show gbars_Check_l0_step M14 M15 f (gbars_Check_l0 M14 M15 f kx0 kx1 M.n J.n jr jg M.n r g (q + m + 1)) kx0 kx1 M.n J.n jr jg M.n r g i = _
    unfold gbars_Check_l0_step
    try unfold ck
    rw [decide_eq_true (show (i : Int) < M.n by omega), h15 i hi, okM_b, getV_b, wrap_succ (by omega), ih]
    simp only [first]
    cases M.may J.n i <;> rfl

theorem check5 {M14 M15 : List AV → Option AV} (J : JS) (M : MS) (jr r : Nat) (jg g : Nat → Nat → AV) (h14 : M14 [.ro 4 J.n jr jg] = some (pair J.check))
    (h15 : ∀ i : Nat, i < M.n → M15 [.agg [.ro 4 J.n jr jg, .ro 9 M.n r g], .int .i64 i] = some (.bool (M.may J.n i))) (hM : M.n < 4611686018427387904) (f : Nat) (hf : M.n < f) :
    gbars_Check M14 M15 f J.n jr jg M.n r g = some (pair (planCheck J M)) := by
  unfold gbars_Check planCheck
  try unfold ck
  rw [h14]
  dsimp only
  rw [okM_p, getP1, getP2, cond_true]
  cases J.check.1 != 0
  case true => rfl
  rw [cond_false, cond_false]
  by_cases h : M.n > 48
  · rw [decide_eq_true (show (M.n : Int) > 48 by omega), decide_eq_true h]; rfl
  · rw [decide_eq_false (show ¬ (M.n : Int) > 48 by omega), decide_eq_false h, cond_false, cond_false]
    have e := gbars_Check_all (M14 := M14) J M jr r jg g h15 hM f (fun xu2 xu3 _ _ _ _ _ _ => some (.tup [.int .i64 xu2, .int .i64 xu3])) (fun _ _ _ _ _ _ => some (.tup [.int .i64 0, .int .i64 0])) M.n (f - M.n - 1) 0 (by omega)
    rw [show f - M.n - 1 + M.n + 1 = f by omega] at e
    refine e.trans ?_
    cases first (fun i => !M.may J.n i) M.n 0 <;> rfl

theorem gref19_Check_all {M16 M17 : List AV → Option AV} (J : JS) (M : MS) (jr r : Nat) (jg g : Nat → Nat → AV) (h17 : ∀ i : Nat, i < M.n → M17 [.agg [.ro 4 J.n jr jg, .ro 9 M.n r g], .int .i64 i] = some (.bool (M.may J.n i))) (hM : M.n < 4611686018427387904) (f : Nat)
    (kx0 : Int → Int → Nat → Nat → (Nat → Nat → AV) → Nat → Nat → (Nat → Nat → AV) → Option AV) (kx1 : Nat → Nat → (Nat → Nat → AV) → Nat → Nat → (Nat → Nat → AV) → Option AV) :
    ∀ (m q i : Nat), i + m = M.n → gref19_Check_l0 M16 M17 f kx0 kx1 J.n jr jg M.n r g (q + m + 1) i = match first (fun i => !M.may J.n i) m i with
      | some j => kx0 290 j J.n jr jg M.n r g
      | none => kx1 J.n jr jg M.n r g
  | 0, q, i, h => by
    obtain rfl : i = M.n := by omega
    show gref19_Check_l0_step M16 M17 f _ kx0 kx1 J.n jr jg M.n r g M.n = _
    unfold gref19_Check_l0_step
    try unfold ck
    rw [decide_eq_false (by omega), cond_false]
    rfl
  | m + 1, q, i, h => by
    have hi : i < M.n := by omega
    have ih := gref19_Check_all (M16 := M16) J M jr r jg g h17 hM f kx0 kx1 m q (i + 1) (by omega)
    show gref19_Check_l0_step M16 M17 f (gref19_Check_l0 M16 M17 f kx0 kx1 J.n jr jg M.n r g (q + m + 1)) kx0 kx1 J.n jr jg M.n r g i = _
    unfold gref19_Check_l0_step
    try unfold ck
    rw [decide_eq_true (show (i : Int) < M.n by omega), h17 i hi, okM_b, getV_b, wrap_succ (by omega), ih]
    simp only [first]
    cases M.may J.n i <;> rfl

theorem check6 {M16 M17 : List AV → Option AV} (J : JS) (M : MS) (jr r : Nat) (jg g : Nat → Nat → AV) (h16 : M16 [.ro 4 J.n jr jg] = some (pair J.check))
    (h17 : ∀ i : Nat, i < M.n → M17 [.agg [.ro 4 J.n jr jg, .ro 9 M.n r g], .int .i64 i] = some (.bool (M.may J.n i))) (hM : M.n < 4611686018427387904) (f : Nat) (hf : M.n < f) :
    gref19_Check M16 M17 f J.n jr jg M.n r g = some (pair (planCheck J M)) := by
  unfold gref19_Check planCheck
  try unfold ck
  rw [h16]
  dsimp only
  rw [okM_p, getP1, getP2, cond_true]
  cases J.check.1 != 0
  case true => rfl
  rw [cond_false, cond_false]
  by_cases h : M.n > 48
  · rw [decide_eq_true (show (M.n : Int) > 48 by omega), decide_eq_true h]; rfl
  · rw [decide_eq_false (show ¬ (M.n : Int) > 48 by omega), decide_eq_false h, cond_false, cond_false]
    have e := gref19_Check_all (M16 := M16) J M jr r jg g h17 hM f (fun xu2 xu3 _ _ _ _ _ _ => some (.tup [.int .i64 xu2, .int .i64 xu3])) (fun _ _ _ _ _ _ => some (.tup [.int .i64 0, .int .i64 0])) M.n (f - M.n - 1) 0 (by omega)
    rw [show f - M.n - 1 + M.n + 1 = f by omega] at e
    refine e.trans ?_
    cases first (fun i => !M.may J.n i) M.n 0 <;> rfl
end Go.Proofs.Tryz
end
section
namespace Go.Proofs.Tryz
open Go Go.Am
set_option maxRecDepth 100000

def MS.In (M : MS) (jn : Nat) : Prop := ∀ k, k < M.n → ∃ a b : Nat, M.a k = (a : Int) ∧ M.b k = (b : Int) ∧ a < jn ∧ b < jn
theorem first_none {p : Nat → Bool} : ∀ {r i : Nat}, first p r i = none → ∀ k, i ≤ k → k < i + r → p k = false
  | 0, i, _, k, h1, h2 => by omega
  | r + 1, i, h, k, h1, h2 => by
    simp only [first] at h
    cases hp : p i <;> rw [hp] at h
    · by_cases e : k = i
      · subst e; exact hp
      · exact first_none h k (by omega) (by omega)
    · cases h

theorem planCheck_ok {J : JS} {M : MS} (h : ((planCheck J M).1 != 0) = false) : (∀ i, i < J.n → J.fx i ≤ 7) ∧ M.In J.n ∧ J.n ≤ 16 ∧ M.n ≤ 48 := by
  unfold planCheck at h
  cases hc : J.check.1 != 0
  case true => rw [hc] at h; simp only [cond_true] at h; rw [hc] at h; cases h
  rw [hc] at h
  simp only [cond_false] at h
  by_cases h48 : M.n > 48
  · rw [decide_eq_true h48] at h; cases h
  rw [decide_eq_false h48] at h
  simp only [cond_false] at h
  have hm : first (fun i => !M.may J.n i) M.n 0 = none := by
    cases hf : first (fun i => !M.may J.n i) M.n 0 with
    | none => rfl
    | some i => rw [hf] at h; cases h
  unfold JS.check at hc
  by_cases h16 : J.n > 16
  · rw [decide_eq_true h16] at hc; cases hc
  rw [decide_eq_false h16] at hc
  simp only [cond_false] at hc
  have hj : first J.bad J.n 0 = none := by
    cases hf : first J.bad J.n 0 with
    | none => rfl
    | some i => rw [hf] at hc; cases hc
  refine ⟨fun i hi => ?_, fun k hk => ?_, by omega, by omega⟩
  · have := first_none hj i (by omega) (by omega)
    unfold JS.bad at this
    simp only [Bool.or_eq_false_iff, decide_eq_false_iff_not] at this
    omega
  · have := first_none hm k (by omega) (by omega)
    simp only [Bool.not_eq_false'] at this
    unfold MS.may at this
    cases ha : anyFrom (fun k_1 => strEq (M.nm k_1) (M.nm k)) k 0 <;> rw [ha] at this
    case true => cases this
    cases hcore : M.core J.n k <;> rw [hcore] at this
    · cases this
    unfold MS.core at hcore
    cases hn : nameB (M.nm k) <;> rw [hn] at hcore
    · cases hcore
    simp only [cond_true] at hcore
    by_cases a0 : M.a k < 0
    · rw [decide_eq_true a0] at hcore; cases hcore
    rw [decide_eq_false a0] at hcore
    simp only [cond_false] at hcore
    by_cases a1 : M.a k ≥ (J.n : Int)
    · rw [decide_eq_true a1] at hcore; cases hcore
    rw [decide_eq_false a1] at hcore
    simp only [cond_false] at hcore
    by_cases b0 : M.b k < 0
    · rw [decide_eq_true b0] at hcore; cases hcore
    rw [decide_eq_false b0] at hcore
    simp only [cond_false] at hcore
    by_cases b1 : M.b k ≥ (J.n : Int)
    · rw [decide_eq_true b1] at hcore; cases hcore
    exact ⟨(M.a k).toNat, (M.b k).toNat, by omega, by omega, by omega, by omega⟩

end Go.Proofs.Tryz
end
section
namespace Go.Proofs.Tryz
open Go Go.Am
set_option maxRecDepth 100000

theorem bne_self (c : Int) : (c != c) = false := by simp
theorem beq_self (c : Int) : (c == c) = true := by simp
theorem strEq_self (s : ByteArray) : strEq s s = true := (strEq_iff s s).2 rfl

theorem fitJ (s : ByteArray) (x y fx : Int) : fitKs [LK.s, LK.i IntKind.i32, LK.i IntKind.i32, LK.i IntKind.u8] [.str s, .int .i32 x, .int .i32 y, .int .u8 fx] = true := rfl

theorem gkit_SameJoints_all (J : JS) (hJ : J.n < 4611686018427387904) (f r1 r2 : Nat) (g1 g2 : Nat → Nat → AV) (h1 : J.Ok g1) (h2 : J.Ok g2) (kx0 : Bool → Option AV) (kx1 : Option AV) :
    ∀ (m q i : Nat), i + m = J.n → gkit_SameJoints_l0 f kx0 kx1 J.n r1 g1 J.n r2 g2 (q + m + 1) i = kx1
  | 0, q, i, h => by
    obtain rfl : i = J.n := by omega
    show gkit_SameJoints_l0_step f _ kx0 kx1 J.n r1 g1 J.n r2 g2 J.n = _
    unfold gkit_SameJoints_l0_step
    try unfold ck
    rw [decide_eq_false (by omega), cond_false]
  | m + 1, q, i, h => by
    have ih := gkit_SameJoints_all J hJ f r1 r2 g1 g2 h1 h2 kx0 kx1 m q (i + 1) (by omega)
    obtain ⟨a0, a1, a2, a3⟩ := h1 i (by omega)
    obtain ⟨b0, b1, b2, b3⟩ := h2 i (by omega)
    show gkit_SameJoints_l0_step f (gkit_SameJoints_l0 f kx0 kx1 J.n r1 g1 J.n r2 g2 (q + m + 1)) kx0 kx1 J.n r1 g1 J.n r2 g2 i = _
    unfold gkit_SameJoints_l0_step
    try unfold ck
    rw [decide_eq_true (show (i : Int) < J.n by omega), decide_eq_true (show (0 : Int) ≤ i by omega), Int.toNat_natCast, a0, a1, a2, a3, b0, b1, b2, b3, fitJ, wrap_succ (by omega), ih]
    simp only [toS_str, toI_int, strEq_self, beq_self]
    rfl

theorem same38 (J : JS) (hJ : J.n < 4611686018427387904) (f r1 r2 : Nat) (hf : J.n < f) (g1 g2 : Nat → Nat → AV) (h1 : J.Ok g1) (h2 : J.Ok g2) : gkit_SameJoints f J.n r1 g1 J.n r2 g2 = some (.bool true) := by
  unfold gkit_SameJoints
  try unfold ck
  rw [bne_self]
  have e := gkit_SameJoints_all J hJ f r1 r2 g1 g2 h1 h2 (fun xu4 => some (.bool xu4)) (some (.bool true)) J.n (f - J.n - 1) 0 (by omega)
  rw [show f - J.n - 1 + J.n + 1 = f by omega] at e
  exact e

theorem float45 (f b : Nat) : gkit_SameFloat f (some b) (some b) = some (.bool true) := by
  unfold gkit_SameFloat
  try unfold ck
  have : (((some b : Option Nat).getD 0 : Nat) : Int) == (((some b : Option Nat).getD 0 : Nat) : Int) := by simp
  rw [this]
  rfl

theorem member40 {M45 : List AV → Option AV} (h45 : ∀ b, M45 [.flt .f64 (some b), .flt .f64 (some b)] = some (.bool true)) (f : Nat) (s : ByteArray) (kd a b : Int) (ha hb : Bool) (x y z : Nat) :
    gkit_SameMember M45 f s kd a b ha hb (some x) (some y) (some z) s kd a b ha hb (some x) (some y) (some z) = some (.bool true) := by
  unfold gkit_SameMember
  try unfold ck
  rw [strEq_self, h45, h45, h45, okM_b, getV_b]
  simp only [beq_self]
  cases ha <;> cases hb <;> rfl

theorem gkit_SameMembers_all {M40 : List AV → Option AV} (h40 : ∀ s kd a b ha hb x y z, M40 [.agg [.str s, .int .u8 kd, .int .i64 a, .int .i64 b, .bool ha, .bool hb, .flt .f64 (some x), .flt .f64 (some y), .flt .f64 (some z)], .agg [.str s, .int .u8 kd, .int .i64 a, .int .i64 b, .bool ha, .bool hb, .flt .f64 (some x), .flt .f64 (some y), .flt .f64 (some z)]] = some (.bool true))
    (M : MS) (hM : M.n < 4611686018427387904) (f r1 r2 : Nat) (g1 g2 : Nat → Nat → AV) (h1 : M.Ok g1) (h2 : M.Ok g2) (kx0 : Bool → Option AV) (kx1 : Option AV) :
    ∀ (m q i : Nat), i + m = M.n → gkit_SameMembers_l0 M40 f kx0 kx1 M.n r1 g1 M.n r2 g2 (q + m + 1) i = kx1
  | 0, q, i, h => by
    obtain rfl : i = M.n := by omega
    show gkit_SameMembers_l0_step M40 f _ kx0 kx1 M.n r1 g1 M.n r2 g2 M.n = _
    unfold gkit_SameMembers_l0_step
    try unfold ck
    rw [decide_eq_false (by omega), cond_false]
  | m + 1, q, i, h => by
    have ih := gkit_SameMembers_all h40 M hM f r1 r2 g1 g2 h1 h2 kx0 kx1 m q (i + 1) (by omega)
    obtain ⟨a0, a1, a2, a3, a4, a5, a6, a7, a8⟩ := h1 i (by omega)
    obtain ⟨b0, b1, b2, b3, b4, b5, b6, b7, b8⟩ := h2 i (by omega)
    show gkit_SameMembers_l0_step M40 f (gkit_SameMembers_l0 M40 f kx0 kx1 M.n r1 g1 M.n r2 g2 (q + m + 1)) kx0 kx1 M.n r1 g1 M.n r2 g2 i = _
    unfold gkit_SameMembers_l0_step
    try unfold ck
    rw [decide_eq_true (show (i : Int) < M.n by omega), decide_eq_true (show (0 : Int) ≤ i by omega), Int.toNat_natCast, a0, a1, a2, a3, a4, a5, a6, a7, a8, b0, b1, b2, b3, b4, b5, b6, b7, b8, fitM, wrap_succ (by omega), ih]
    simp only [toS_str, toI_int, toB_bool, toF_flt]
    rw [h40, okM_b, getV_b]
    rfl

theorem same39 {M40 : List AV → Option AV} (h40 : ∀ s kd a b ha hb x y z, M40 [.agg [.str s, .int .u8 kd, .int .i64 a, .int .i64 b, .bool ha, .bool hb, .flt .f64 (some x), .flt .f64 (some y), .flt .f64 (some z)], .agg [.str s, .int .u8 kd, .int .i64 a, .int .i64 b, .bool ha, .bool hb, .flt .f64 (some x), .flt .f64 (some y), .flt .f64 (some z)]] = some (.bool true))
    (M : MS) (hM : M.n < 4611686018427387904) (f r1 r2 : Nat) (hf : M.n < f) (g1 g2 : Nat → Nat → AV) (h1 : M.Ok g1) (h2 : M.Ok g2) : gkit_SameMembers M40 f M.n r1 g1 M.n r2 g2 = some (.bool true) := by
  unfold gkit_SameMembers
  try unfold ck
  rw [bne_self]
  have e := gkit_SameMembers_all h40 M hM f r1 r2 g1 g2 h1 h2 (fun xu4 => some (.bool xu4)) (some (.bool true)) M.n (f - M.n - 1) 0 (by omega)
  rw [show f - M.n - 1 + M.n + 1 = f by omega] at e
  exact e

theorem same20 {M38 M39 : List AV → Option AV} (f jn jr1 jr2 : Nat) (jg1 jg2 : Nat → Nat → AV) (mn r1 r2 : Nat) (g1 g2 : Nat → Nat → AV) (h38 : M38 [.ro 4 jn jr1 jg1, .ro 4 jn jr2 jg2] = some (.bool true)) (h39 : M39 [.ro 9 mn r1 g1, .ro 9 mn r2 g2] = some (.bool true)) :
    gkit_SamePlan M38 M39 f jn jr1 jg1 mn r1 g1 jn jr2 jg2 mn r2 g2 = some (.bool true) := by
  unfold gkit_SamePlan
  try unfold ck
  rw [h38, h39, okM_b, getV_b]
  rfl

theorem kept10 {M20 M21 M22 : List AV → Option AV} (f jn jr1 jr2 : Nat) (jg1 jg2 : Nat → Nat → AV) (mn r1 r2 : Nat) (g1 g2 : Nat → Nat → AV) (h20 : M20 [.agg [.ro 4 jn jr1 jg1, .ro 9 mn r1 g1], .agg [.ro 4 jn jr2 jg2, .ro 9 mn r2 g2]] = some (.bool true))
    (h21 : M21 [.ro 4 jn jr1 jg1, .ro 4 jn jr2 jg2] = some (.bool true)) (h22 : M22 [.ro 9 mn r1 g1, .ro 9 mn r2 g2] = some (.bool true)) : gkit_KeptPlan M20 M21 M22 f jn jr1 jg1 mn r1 g1 jn jr2 jg2 mn r2 g2 = some (.bool true) := by
  unfold gkit_KeptPlan
  try unfold ck
  rw [h20, h21, h22, okM_b, getV_b]
  rfl
end Go.Proofs.Tryz
end
section
namespace Go.Proofs.Tryz
open Go Go.Am
set_option maxRecDepth 100000

/-- The joints with marks behind them. -/
def JS.ext (J : JS) (mk : Int → ByteArray) : JS :=
  ⟨J.n + 12, fun i => if i < J.n then J.nm i else mk ((i : Int) - J.n), fun i => if i < J.n then J.x i else 0, fun i => if i < J.n then J.y i else 0, fun i => if i < J.n then J.fx i else 0⟩
def JS.row (J : JS) (i : Nat) : List AV := [.str (J.nm i), .int .i32 (J.x i), .int .i32 (J.y i), .int .u8 (J.fx i)]

theorem ext_lt (J : JS) (mk : Int → ByteArray) {i : Nat} (h : i < J.n) : (J.ext mk).row i = J.row i := by
  simp [JS.row, JS.ext, h]
theorem ext_ge (J : JS) (mk : Int → ByteArray) (k : Nat) : (J.ext mk).row (J.n + k) = [.str (mk k), .int .i32 0, .int .i32 0, .int .u8 0] := by
  have h : ¬ J.n + k < J.n := by omega
  have e : ((J.n + k : Nat) : Int) - J.n = k := by omega
  simp only [JS.row, JS.ext, if_neg h, e]

def Inv {α : Type} (n c k : Nat) (r : Nat → α) (e : List α) : Prop := e.length = c ∧ ∀ i, i < n + k → e[i]? = some (r i)
theorem Inv.step {α : Type} {n c k : Nat} {r : Nat → α} {e : List α} (h : Inv n c k r e) (hk : n + k < c) : Inv n c (k + 1) r (List.take (n + k) e ++ [r (n + k)] ++ List.drop (n + k + 1) e) := by
  obtain ⟨h1, h2⟩ := h
  refine ⟨by simp; omega, fun i hi => ?_⟩
  have hl : (List.take (n + k) e).length = n + k := by simp; omega
  by_cases hik : i < n + k
  · rw [List.append_assoc, List.getElem?_append_left (by omega), List.getElem?_take_of_lt hik]
    exact h2 i hik
  · obtain rfl : i = n + k := by omega
    rw [List.append_assoc, List.getElem?_append_right (by omega), hl, Nat.sub_self]
    rfl

theorem okM_J (s : ByteArray) (x y fx : Int) : okM [RS.agg [LK.s, LK.i IntKind.i32, LK.i IntKind.i32, LK.i IntKind.u8]] (some (.agg [.str s, .int .i32 x, .int .i32 y, .int .u8 fx])) = true := rfl

theorem gkit_LentJoints_all {M26 : List AV → Option AV} (mk : Int → ByteArray) (h26 : ∀ k : Int, M26 [.int .i64 1, .int .i64 k] = some (.agg [.str (mk k), .int .i32 0, .int .i32 0, .int .u8 0])) (J : JS) (hJ : J.n < 4398046511200) (f : Nat)
    (kx0 : Nat → Nat → (Nat → Nat → AV) → Nat → Nat → Nat → List AV → List (List AV) → Option AV) (r : Nat) (g : Nat → Nat → AV) (z : List AV) :
    ∀ (m q k : Nat) (e : List (List AV)), k + m = 12 → Inv J.n (J.n + 12) k (J.ext mk).row e → ∃ e', Inv J.n (J.n + 12) 12 (J.ext mk).row e' ∧
      gkit_LentJoints_l0 M26 f kx0 J.n r g 0 (J.n + 12) z (q + m + 1) (J.n + k) k e = kx0 J.n r g 0 (J.n + 12) (J.n + 12) z e'
  | 0, q, k, e, h, hI => by
    obtain rfl : k = 12 := by omega
    exact ⟨e, hI, rfl⟩
  | m + 1, q, k, e, h, hI => by
    have hk : J.n + k < J.n + 12 := by omega
    have hI' := hI.step hk
    rw [ext_ge] at hI'
    obtain ⟨e', h1, h2⟩ := gkit_LentJoints_all mk h26 J hJ f kx0 r g z m q (k + 1) _ (by omega) hI'
    refine ⟨e', h1, ?_⟩
    rw [← h2]
    show gkit_LentJoints_l0_step M26 f (gkit_LentJoints_l0 M26 f kx0 J.n r g 0 (J.n + 12) z (q + m + 1)) kx0 J.n r g 0 (J.n + 12) z (J.n + k) k e = _
    unfold gkit_LentJoints_l0_step
    try unfold ck
    rw [decide_eq_true (show (k : Int) < 12 by omega), h26]
    dsimp only
    rw [okM_J, decide_eq_true (show J.n + k + 1 ≤ J.n + 12 by omega), wrap_succ (by omega), Nat.zero_add]
    rfl

theorem rows_get (sz n : Nat) (g : Nat → Nat → AV) {i : Nat} (h : i < n) : (rows sz n g)[i]? = some ((List.range sz).map (g i)) := by
  unfold rows
  simp [h]
theorem rows_len (sz n : Nat) (g : Nat → Nat → AV) : (rows sz n g).length = n := by unfold rows; simp

theorem lent12 {M26 : List AV → Option AV} (mk : Int → ByteArray) (h26 : ∀ k : Int, M26 [.int .i64 1, .int .i64 k] = some (.agg [.str (mk k), .int .i32 0, .int .i32 0, .int .u8 0])) (J : JS) (hJ : J.n < 4398046511200) (f : Nat) (hf : 13 ≤ f) (r : Nat) (g : Nat → Nat → AV) (hg : J.Ok g) :
    ∃ g', (J.ext mk).Ok g' ∧ gkit_LentJoints M26 f J.n r g = some (.ro 4 J.n (J.n + 12) g') := by
  unfold gkit_LentJoints
  try unfold ck
  have hw : IntKind.i64.wrap ((J.n : Int) + 12) = ((J.n + 12 : Nat) : Int) := by rw [wrap_id] <;> omega
  rw [hw, Int.toNat_natCast, decide_eq_true (show (0 : Int) ≤ ((J.n + 12 : Nat) : Int) by omega), Nat.ble_eq_true_of_le (show 32 * (J.n + 12) ≤ 281474976710656 by omega), Nat.ble_eq_true_of_le (show J.n + 12 + 1 ≤ 4611686018427387904 by omega), decide_eq_true (show 0 + J.n ≤ J.n + 12 by omega), cond_true, cond_true, cond_true, cond_true]
  have hI : Inv J.n (J.n + 12) 0 (J.ext mk).row ([] ++ rows 4 J.n g ++ List.drop (0 + J.n) (List.replicate (J.n + 12) [AV.str { data := #[] }, AV.int IntKind.i32 0, AV.int IntKind.i32 0, AV.int IntKind.u8 0])) := by
    refine ⟨by simp [rows_len], fun i hi => ?_⟩
    have hi' : i < J.n := by omega
    rw [List.nil_append, List.getElem?_append_left (by rw [rows_len]; exact hi'), rows_get _ _ _ hi', ext_lt J mk hi']
    obtain ⟨g0, g1, g2, g3⟩ := hg i hi'
    show some [g i 0, g i 1, g i 2, g i 3] = _
    rw [g0, g1, g2, g3]; rfl
  obtain ⟨e', h1, h2⟩ := gkit_LentJoints_all mk h26 J hJ f (fun xul0n _ _ xout3o _ xout3c xh0z xh0e => bif decide (0 < xout3c) then bif decide ((xul0n : Int) ≤ (xout3c : Int)) then some (.ro 4 ((xul0n : Int).toNat - 0) (xout3c - 0) fun (i j : Nat) => (xh0e.getD (xout3o + 0 + i) xh0z).getD j .dead) else none else none)
    r g [AV.str { data := #[] }, AV.int IntKind.i32 0, AV.int IntKind.i32 0, AV.int IntKind.u8 0] 12 (f - 13) 0 _ rfl hI
  rw [show f - 13 + 12 + 1 = f by omega] at h2
  refine ⟨fun i j => (e'.getD (0 + 0 + i) [AV.str { data := #[] }, AV.int IntKind.i32 0, AV.int IntKind.i32 0, AV.int IntKind.u8 0]).getD j .dead, fun i hi => ?_, ?_⟩
  · have hi' : i < J.n + 12 := hi
    have := h1.2 i hi'
    have hr : e'.getD (0 + 0 + i) [AV.str { data := #[] }, AV.int IntKind.i32 0, AV.int IntKind.i32 0, AV.int IntKind.u8 0] = (J.ext mk).row i := by
      rw [show 0 + 0 + i = i by omega]
      simp [List.getD, this]
    simp only [hr]
    exact ⟨rfl, rfl, rfl, rfl⟩
  · rw [Nat.zero_add] at h2 ⊢
    refine h2.trans ?_
    rw [decide_eq_true (show 0 < J.n + 12 by omega), decide_eq_true (show (J.n : Int) ≤ ((J.n + 12 : Nat) : Int) by omega), Int.toNat_natCast]
    rfl

theorem gkit_KeptJoints_all {M26 : List AV → Option AV} (mk : Int → ByteArray) (h26 : ∀ k : Int, M26 [.int .i64 1, .int .i64 k] = some (.agg [.str (mk k), .int .i32 0, .int .i32 0, .int .u8 0])) (J : JS) (hJ : J.n < 4398046511200) (f : Nat) (kx0 : Bool → Option AV) (kx1 : Option AV)
    (r1 r2 : Nat) (g1 g2 : Nat → Nat → AV) (h1 : J.Ok g1) (h2 : (J.ext mk).Ok g2) :
    ∀ (m q i : Nat), i + m = J.n + 12 → gkit_KeptJoints_l0 M26 f kx0 kx1 J.n r1 g1 (J.n + 12) r2 g2 (q + m + 1) i = kx1
  | 0, q, i, h => by
    obtain rfl : i = J.n + 12 := by omega
    show gkit_KeptJoints_l0_step M26 f _ kx0 kx1 J.n r1 g1 (J.n + 12) r2 g2 (J.n + 12 : Nat) = _
    unfold gkit_KeptJoints_l0_step
    try unfold ck
    rw [decide_eq_false (by omega), cond_false]
  | m + 1, q, i, h => by
    have ih := gkit_KeptJoints_all mk h26 J hJ f kx0 kx1 r1 r2 g1 g2 h1 h2 m q (i + 1) (by omega)
    obtain ⟨b0, b1, b2, b3⟩ := h2 i (by show i < J.n + 12; omega)
    show gkit_KeptJoints_l0_step M26 f (gkit_KeptJoints_l0 M26 f kx0 kx1 J.n r1 g1 (J.n + 12) r2 g2 (q + m + 1)) kx0 kx1 J.n r1 g1 (J.n + 12) r2 g2 i = _
    unfold gkit_KeptJoints_l0_step
    try unfold ck
    rw [decide_eq_true (show (i : Int) < ((J.n + 12 : Nat) : Int) by omega), decide_eq_true (show (0 : Int) ≤ i by omega), Int.toNat_natCast, b0, b1, b2, b3, fitJ, wrap_succ (show i < 4611686018427387904 by omega), ih]
    by_cases hi : i < J.n
    · obtain ⟨a0, a1, a2, a3⟩ := h1 i hi
      rw [decide_eq_true (show (i : Int) < (J.n : Int) by omega), decide_eq_false (show ¬ (i : Int) ≥ (J.n : Int) by omega), a0, a1, a2, a3, fitJ]
      simp only [JS.ext, if_pos hi, toS_str, toI_int, strEq_self, beq_self]
      rfl
    · rw [decide_eq_false (show ¬ (i : Int) < (J.n : Int) by omega), decide_eq_true (show (i : Int) ≥ (J.n : Int) by omega), wrap_id (n := (i : Int) - J.n) (by omega) (by omega), h26]
      dsimp only
      rw [okM_J]
      simp only [JS.ext, if_neg hi, toS_str, toI_int]
      have t1 : toS ((toC (getV (some (AV.agg [.str (mk ((i : Int) - J.n)), .int .i32 0, .int .i32 0, .int .u8 0])))).headD .dead) = mk ((i : Int) - J.n) := rfl
      rw [t1, strEq_self]
      rfl

theorem kept21 {M26 : List AV → Option AV} (mk : Int → ByteArray) (h26 : ∀ k : Int, M26 [.int .i64 1, .int .i64 k] = some (.agg [.str (mk k), .int .i32 0, .int .i32 0, .int .u8 0])) (J : JS) (hJ : J.n < 4398046511200) (f : Nat) (hf : J.n + 12 < f)
    (r1 : Nat) (g1 g2 : Nat → Nat → AV) (h1 : J.Ok g1) (h2 : (J.ext mk).Ok g2) : gkit_KeptJoints M26 f J.n (J.n + 12) g2 J.n r1 g1 = some (.bool true) := by
  unfold gkit_KeptJoints
  try unfold ck
  have hw : IntKind.i64.wrap ((J.n : Int) + 12) = ((J.n + 12 : Nat) : Int) := by rw [wrap_id] <;> omega
  have eg : (fun (i : Nat) => g2 (0 + i)) = g2 := by funext i; rw [Nat.zero_add]
  rw [bne_self, hw, Int.toNat_natCast, decide_eq_true (show (0 : Int) ≤ ((J.n + 12 : Nat) : Int) by omega), decide_eq_true (Int.le_refl _), eg, Nat.sub_zero, cond_false, cond_true, cond_true]
  have e := gkit_KeptJoints_all mk h26 J hJ f (fun xu4 => some (.bool xu4)) (some (.bool true)) r1 (J.n + 12) g1 g2 h1 h2 (J.n + 12) (f - (J.n + 12) - 1) 0 (by omega)
  rw [show f - (J.n + 12) - 1 + (J.n + 12) + 1 = f by omega] at e
  exact e
end Go.Proofs.Tryz
end
section
namespace Go.Proofs.Tryz
open Go Go.Am
set_option maxRecDepth 100000

def MS.ext (M : MS) (mk : Int → ByteArray) : MS :=
  ⟨M.n + 12, fun i => if i < M.n then M.nm i else mk ((i : Int) - M.n), fun i => if i < M.n then M.kd i else 0, fun i => if i < M.n then M.a i else 0, fun i => if i < M.n then M.b i else 0,
    fun i => if i < M.n then M.ha i else false, fun i => if i < M.n then M.hb i else false, fun i => if i < M.n then M.e i else 0, fun i => if i < M.n then M.ar i else 0, fun i => if i < M.n then M.iv i else 0⟩
def MS.row (M : MS) (i : Nat) : List AV := [.str (M.nm i), .int .u8 (M.kd i), .int .i64 (M.a i), .int .i64 (M.b i), .bool (M.ha i), .bool (M.hb i), .flt .f64 (some (M.e i)), .flt .f64 (some (M.ar i)), .flt .f64 (some (M.iv i))]
def zM : List AV := [.str { data := #[] }, .int .u8 0, .int .i64 0, .int .i64 0, .bool false, .bool false, .flt .f64 (some 0), .flt .f64 (some 0), .flt .f64 (some 0)]
def mM (s : ByteArray) : List AV := [.str s, .int .u8 0, .int .i64 0, .int .i64 0, .bool false, .bool false, .flt .f64 (some 0), .flt .f64 (some 0), .flt .f64 (some 0)]

theorem extM_lt (M : MS) (mk : Int → ByteArray) {i : Nat} (h : i < M.n) : (M.ext mk).row i = M.row i := by
  simp [MS.row, MS.ext, h]
theorem extM_ge (M : MS) (mk : Int → ByteArray) (k : Nat) : (M.ext mk).row (M.n + k) = mM (mk k) := by
  have h : ¬ M.n + k < M.n := by omega
  have e : ((M.n + k : Nat) : Int) - M.n = k := by omega
  simp only [MS.row, MS.ext, if_neg h, e]
  rfl

theorem okM_M (s : ByteArray) : okM [RS.agg [LK.s, LK.i IntKind.u8, LK.i IntKind.i64, LK.i IntKind.i64, LK.b, LK.b, LK.f FloatKind.f64, LK.f FloatKind.f64, LK.f FloatKind.f64]] (some (.agg (mM s))) = true := rfl

theorem gkit_LentMembers_all {M27 : List AV → Option AV} (mk : Int → ByteArray) (h27 : ∀ k : Int, M27 [.int .i64 1, .int .i64 k] = some (.agg (mM (mk k)))) (M : MS) (hM : M.n < 3000000000000) (f : Nat)
    (kx0 : Nat → Nat → (Nat → Nat → AV) → Nat → Nat → Nat → List AV → List (List AV) → Option AV) (r : Nat) (g : Nat → Nat → AV) (z : List AV) :
    ∀ (m q k : Nat) (e : List (List AV)), k + m = 12 → Inv M.n (M.n + 12) k (M.ext mk).row e → ∃ e', Inv M.n (M.n + 12) 12 (M.ext mk).row e' ∧
      gkit_LentMembers_l0 M27 f kx0 M.n r g 0 (M.n + 12) z (q + m + 1) (M.n + k) k e = kx0 M.n r g 0 (M.n + 12) (M.n + 12) z e'
  | 0, q, k, e, h, hI => by
    obtain rfl : k = 12 := by omega
    exact ⟨e, hI, rfl⟩
  | m + 1, q, k, e, h, hI => by
    have hk : M.n + k < M.n + 12 := by omega
    have hI' := hI.step hk
    rw [extM_ge] at hI'
    obtain ⟨e', h1, h2⟩ := gkit_LentMembers_all mk h27 M hM f kx0 r g z m q (k + 1) _ (by omega) hI'
    refine ⟨e', h1, ?_⟩
    rw [← h2]
    show gkit_LentMembers_l0_step M27 f (gkit_LentMembers_l0 M27 f kx0 M.n r g 0 (M.n + 12) z (q + m + 1)) kx0 M.n r g 0 (M.n + 12) z (M.n + k) k e = _
    unfold gkit_LentMembers_l0_step
    try unfold ck
    rw [decide_eq_true (show (k : Int) < 12 by omega), h27]
    dsimp only
    rw [okM_M, decide_eq_true (show M.n + k + 1 ≤ M.n + 12 by omega), wrap_succ (by omega), Nat.zero_add]
    rfl

theorem lent13 {M27 : List AV → Option AV} (mk : Int → ByteArray) (h27 : ∀ k : Int, M27 [.int .i64 1, .int .i64 k] = some (.agg (mM (mk k)))) (M : MS) (hM : M.n < 3000000000000) (f : Nat) (hf : 13 ≤ f) (r : Nat) (g : Nat → Nat → AV) (hg : M.Ok g) :
    ∃ g', (M.ext mk).Ok g' ∧ gkit_LentMembers M27 f M.n r g = some (.ro 9 M.n (M.n + 12) g') := by
  unfold gkit_LentMembers
  try unfold ck
  have hw : IntKind.i64.wrap ((M.n : Int) + 12) = ((M.n + 12 : Nat) : Int) := by rw [wrap_id] <;> omega
  rw [hw, Int.toNat_natCast, decide_eq_true (show (0 : Int) ≤ ((M.n + 12 : Nat) : Int) by omega), Nat.ble_eq_true_of_le (show 72 * (M.n + 12) ≤ 281474976710656 by omega), Nat.ble_eq_true_of_le (show M.n + 12 + 1 ≤ 4611686018427387904 by omega), decide_eq_true (show 0 + M.n ≤ M.n + 12 by omega), cond_true, cond_true, cond_true, cond_true]
  have hI : Inv M.n (M.n + 12) 0 (M.ext mk).row ([] ++ rows 9 M.n g ++ List.drop (0 + M.n) (List.replicate (M.n + 12) zM)) := by
    refine ⟨by simp [rows_len], fun i hi => ?_⟩
    have hi' : i < M.n := by omega
    rw [List.nil_append, List.getElem?_append_left (by rw [rows_len]; exact hi'), rows_get _ _ _ hi', extM_lt M mk hi']
    obtain ⟨g0, g1, g2, g3, g4, g5, g6, g7, g8⟩ := hg i hi'
    show some [g i 0, g i 1, g i 2, g i 3, g i 4, g i 5, g i 6, g i 7, g i 8] = _
    rw [g0, g1, g2, g3, g4, g5, g6, g7, g8]; rfl
  obtain ⟨e', h1, h2⟩ := gkit_LentMembers_all mk h27 M hM f (fun xul0n _ _ xout3o _ xout3c xh0z xh0e => bif decide (0 < xout3c) then bif decide ((xul0n : Int) ≤ (xout3c : Int)) then some (.ro 9 ((xul0n : Int).toNat - 0) (xout3c - 0) fun (i j : Nat) => (xh0e.getD (xout3o + 0 + i) xh0z).getD j .dead) else none else none)
    r g zM 12 (f - 13) 0 _ rfl hI
  rw [show f - 13 + 12 + 1 = f by omega] at h2
  refine ⟨fun i j => (e'.getD (0 + 0 + i) zM).getD j .dead, fun i hi => ?_, ?_⟩
  · have hi' : i < M.n + 12 := hi
    have := h1.2 i hi'
    have hr : e'.getD (0 + 0 + i) zM = (M.ext mk).row i := by
      rw [show 0 + 0 + i = i by omega]
      simp [List.getD, this]
    simp only [hr]
    exact ⟨rfl, rfl, rfl, rfl, rfl, rfl, rfl, rfl, rfl⟩
  · rw [Nat.zero_add] at h2 ⊢
    refine h2.trans ?_
    rw [decide_eq_true (show 0 < M.n + 12 by omega), decide_eq_true (show (M.n : Int) ≤ ((M.n + 12 : Nat) : Int) by omega), Int.toNat_natCast]
    rfl

theorem gkit_KeptMembers_all {M27 M40 : List AV → Option AV} (mk : Int → ByteArray) (h27 : ∀ k : Int, M27 [.int .i64 1, .int .i64 k] = some (.agg (mM (mk k))))
    (h40 : ∀ s kd a b ha hb x y z, M40 [.agg [.str s, .int .u8 kd, .int .i64 a, .int .i64 b, .bool ha, .bool hb, .flt .f64 (some x), .flt .f64 (some y), .flt .f64 (some z)], .agg [.str s, .int .u8 kd, .int .i64 a, .int .i64 b, .bool ha, .bool hb, .flt .f64 (some x), .flt .f64 (some y), .flt .f64 (some z)]] = some (.bool true))
    (M : MS) (hM : M.n < 3000000000000) (f : Nat) (kx0 : Bool → Option AV) (kx1 : Option AV) (r1 r2 : Nat) (g1 g2 : Nat → Nat → AV) (h1 : M.Ok g1) (h2 : (M.ext mk).Ok g2) :
    ∀ (m q i : Nat), i + m = M.n + 12 → gkit_KeptMembers_l0 M40 M27 f kx0 kx1 M.n r1 g1 (M.n + 12) r2 g2 (q + m + 1) i = kx1
  | 0, q, i, h => by
    obtain rfl : i = M.n + 12 := by omega
    show gkit_KeptMembers_l0_step M40 M27 f _ kx0 kx1 M.n r1 g1 (M.n + 12) r2 g2 (M.n + 12 : Nat) = _
    unfold gkit_KeptMembers_l0_step
    try unfold ck
    rw [decide_eq_false (by omega), cond_false]
  | m + 1, q, i, h => by
    have ih := gkit_KeptMembers_all mk h27 h40 M hM f kx0 kx1 r1 r2 g1 g2 h1 h2 m q (i + 1) (by omega)
    obtain ⟨b0, b1, b2, b3, b4, b5, b6, b7, b8⟩ := h2 i (by show i < M.n + 12; omega)
    show gkit_KeptMembers_l0_step M40 M27 f (gkit_KeptMembers_l0 M40 M27 f kx0 kx1 M.n r1 g1 (M.n + 12) r2 g2 (q + m + 1)) kx0 kx1 M.n r1 g1 (M.n + 12) r2 g2 i = _
    unfold gkit_KeptMembers_l0_step
    try unfold ck
    rw [decide_eq_true (show (i : Int) < ((M.n + 12 : Nat) : Int) by omega), decide_eq_true (show (0 : Int) ≤ i by omega), Int.toNat_natCast, b0, b1, b2, b3, b4, b5, b6, b7, b8, fitM, wrap_succ (show i < 4611686018427387904 by omega), ih]
    by_cases hi : i < M.n
    · obtain ⟨a0, a1, a2, a3, a4, a5, a6, a7, a8⟩ := h1 i hi
      rw [decide_eq_true (show (i : Int) < (M.n : Int) by omega), decide_eq_false (show ¬ (i : Int) ≥ (M.n : Int) by omega), a0, a1, a2, a3, a4, a5, a6, a7, a8, fitM]
      simp only [MS.ext, if_pos hi, toS_str, toI_int, toB_bool, toF_flt, h40, okM_b, getV_b]
      rfl
    · rw [decide_eq_false (show ¬ (i : Int) < (M.n : Int) by omega), decide_eq_true (show (i : Int) ≥ (M.n : Int) by omega), wrap_id (n := (i : Int) - M.n) (by omega) (by omega), h27]
      dsimp only
      rw [okM_M]
      simp only [MS.ext, if_neg hi, toS_str, toI_int, toB_bool, toF_flt]
      have e40 := h40 (mk ((i : Int) - M.n)) 0 0 0 false false 0 0 0
      have t0 : toS ((toC (getV (some (AV.agg (mM (mk ((i : Int) - M.n))))))).headD .dead) = mk ((i : Int) - M.n) := rfl
      have t1 : toI ((toC (getV (some (AV.agg (mM (mk ((i : Int) - M.n))))))).tail.headD .dead) = 0 := rfl
      have t2 : toI ((toC (getV (some (AV.agg (mM (mk ((i : Int) - M.n))))))).tail.tail.headD .dead) = 0 := rfl
      have t3 : toI ((toC (getV (some (AV.agg (mM (mk ((i : Int) - M.n))))))).tail.tail.tail.headD .dead) = 0 := rfl
      have t4 : toB ((toC (getV (some (AV.agg (mM (mk ((i : Int) - M.n))))))).tail.tail.tail.tail.headD .dead) = false := rfl
      have t5 : toB ((toC (getV (some (AV.agg (mM (mk ((i : Int) - M.n))))))).tail.tail.tail.tail.tail.headD .dead) = false := rfl
      have t6 : toF ((toC (getV (some (AV.agg (mM (mk ((i : Int) - M.n))))))).tail.tail.tail.tail.tail.tail.headD .dead) = some 0 := rfl
      have t7 : toF ((toC (getV (some (AV.agg (mM (mk ((i : Int) - M.n))))))).tail.tail.tail.tail.tail.tail.tail.headD .dead) = some 0 := rfl
      have t8 : toF ((toC (getV (some (AV.agg (mM (mk ((i : Int) - M.n))))))).tail.tail.tail.tail.tail.tail.tail.tail.headD .dead) = some 0 := rfl
      rw [t0, t1, t2, t3, t4, t5, t6, t7, t8, e40, okM_b, getV_b]
      rfl

theorem kept22 {M27 M40 : List AV → Option AV} (mk : Int → ByteArray) (h27 : ∀ k : Int, M27 [.int .i64 1, .int .i64 k] = some (.agg (mM (mk k))))
    (h40 : ∀ s kd a b ha hb x y z, M40 [.agg [.str s, .int .u8 kd, .int .i64 a, .int .i64 b, .bool ha, .bool hb, .flt .f64 (some x), .flt .f64 (some y), .flt .f64 (some z)], .agg [.str s, .int .u8 kd, .int .i64 a, .int .i64 b, .bool ha, .bool hb, .flt .f64 (some x), .flt .f64 (some y), .flt .f64 (some z)]] = some (.bool true))
    (M : MS) (hM : M.n < 3000000000000) (f : Nat) (hf : M.n + 12 < f) (r1 : Nat) (g1 g2 : Nat → Nat → AV) (h1 : M.Ok g1) (h2 : (M.ext mk).Ok g2) : gkit_KeptMembers M40 M27 f M.n (M.n + 12) g2 M.n r1 g1 = some (.bool true) := by
  unfold gkit_KeptMembers
  try unfold ck
  have hw : IntKind.i64.wrap ((M.n : Int) + 12) = ((M.n + 12 : Nat) : Int) := by rw [wrap_id] <;> omega
  have eg : (fun (i : Nat) => g2 (0 + i)) = g2 := by funext i; rw [Nat.zero_add]
  rw [bne_self, hw, Int.toNat_natCast, decide_eq_true (show (0 : Int) ≤ ((M.n + 12 : Nat) : Int) by omega), decide_eq_true (Int.le_refl _), eg, Nat.sub_zero, cond_false, cond_true, cond_true]
  have e := gkit_KeptMembers_all mk h27 h40 M hM f (fun xu4 => some (.bool xu4)) (some (.bool true)) r1 (M.n + 12) g1 g2 h1 h2 (M.n + 12) (f - (M.n + 12) - 1) 0 (by omega)
  rw [show f - (M.n + 12) - 1 + (M.n + 12) + 1 = f by omega] at e
  exact e

theorem okM_l (sz n r : Nat) (g : Nat → Nat → AV) : okM [RS.one (LK.l sz)] (some (.ro sz n r g)) = true := by
  simp [okM, fitRS, fitK]
theorem lent4 {M12 M13 : List AV → Option AV} (f jn jr r : Nat) (jg g : Nat → Nat → AV) (mn : Nat) (jr' r' : Nat) (jg' g' : Nat → Nat → AV) (h12 : M12 [.ro 4 jn jr jg] = some (.ro 4 jn jr' jg')) (h13 : M13 [.ro 9 mn r g] = some (.ro 9 mn r' g')) :
    gkit_LentPlan M12 M13 f jn jr jg mn r g = some (.agg [.ro 4 jn jr' jg', .ro 9 mn r' g']) := by
  unfold gkit_LentPlan
  try unfold ck
  rw [h12, h13]
  rfl
end Go.Proofs.Tryz
end
section
namespace Go.Proofs.Tryz
open Go Go.Am Ieee.Pos
set_option maxRecDepth 100000

theorem num_in {w : Nat} (hw : w < 18446744073709551616) (h : numB (some w) = true) : In 963 1083 w := by
  unfold numB at h
  rw [ford_d, ford_d] at h
  have h' : (Ieee.double.order w 4336966441157787648 = some .gt ∨ Ieee.double.order w 4336966441157787648 = some .eq) ∧ (Ieee.double.order w 4877398396442247168 = some .lt ∨ Ieee.double.order w 4877398396442247168 = some .eq) := by
    generalize Ieee.double.order w 4336966441157787648 = a at h
    generalize Ieee.double.order w 4877398396442247168 = b at h
    rcases a with _ | a
    · cases h
    · rcases b with _ | b
      · cases a <;> cases h
      · cases a <;> cases b <;> simp_all
  obtain ⟨a, b, c⟩ := within hw h'.1 h'.2
  exact ⟨a, b, c⟩

theorem near4 (f : Nat) (r : Nat) (a b c d : Int) (g : Ge) (h0 : g 0 0 = .int .i32 a) (h1 : g 1 0 = .int .i32 b) (h2 : g 2 0 = .int .i32 c) (h3 : g 3 0 = .int .i32 d)
    (na : farB a = false) (nb : farB b = false) (nc : farB c = false) (nd : farB d = false) : gjoints_near (f + 5) 4 r g = some (.bool true) := by
  unfold gjoints_near
  have e0 := near_step (f + 5) (f + 4) (fun b => some (AV.bool b)) (some (.bool true)) 4 r g 0 a (by omega) (by omega) h0
  have e1 := near_step (f + 5) (f + 3) (fun b => some (AV.bool b)) (some (.bool true)) 4 r g 1 b (by omega) (by omega) h1
  have e2 := near_step (f + 5) (f + 2) (fun b => some (AV.bool b)) (some (.bool true)) 4 r g 2 c (by omega) (by omega) h2
  have e3 := near_step (f + 5) (f + 1) (fun b => some (AV.bool b)) (some (.bool true)) 4 r g 3 d (by omega) (by omega) h3
  have e4 := near_end (f + 5) f (fun b => some (AV.bool b)) (some (.bool true)) 4 r g
  rw [na, cond_false] at e0
  rw [nb, cond_false] at e1
  rw [nc, cond_false] at e2
  rw [nd, cond_false] at e3
  exact e0.trans (e1.trans (e2.trans (e3.trans e4)))

theorem far_b {a : Int} (h : farB a = false) : -1048576 ≤ a ∧ a ≤ 1048576 := by
  unfold farB at h
  simp only [Bool.or_eq_false_iff, decide_eq_false_iff_not] at h
  omega
theorem wrap32 {n : Int} (h1 : -2147483648 ≤ n) (h2 : n < 2147483648) : IntKind.i32.wrap n = n := by
  simp only [IntKind.wrap, IntKind.bits, IntKind.signed]
  simp
  omega
theorem sq_nn (d : Int) : 0 ≤ d * d := by
  rcases Int.le_total 0 d with h | h
  · exact Int.mul_nonneg h h
  · have := Int.mul_nonneg (show 0 ≤ -d by omega) (show 0 ≤ -d by omega)
    rwa [Int.neg_mul_neg] at this
theorem sq_b {d : Int} (h : -2097152 ≤ d ∧ d ≤ 2097152) : 0 ≤ d * d ∧ d * d ≤ 4398046511104 := by
  constructor
  · exact sq_nn d
  · have h1 : (2097152 - d) * (2097152 + d) ≥ 0 := Int.mul_nonneg (by omega) (by omega)
    have h2 : (2097152 - d) * (2097152 + d) = 4398046511104 - d * d := by
      rw [Int.sub_mul, Int.mul_add, Int.mul_add, Int.mul_comm d 2097152]; omega
    omega
theorem okIII (a b c : Int) : okM [RS.one (LK.i .i64), RS.one (LK.i .i64), RS.one (LK.i .i64)] (some (.tup [.int .i64 a, .int .i64 b, .int .i64 c])) = true := rfl

abbrev JA (s : ByteArray) (x y f : Int) : AV := .agg [.str s, .int .i32 x, .int .i32 y, .int .u8 f]
section
variable {xa ya xb yb : Int} (na : farB xa = false) (nb : farB ya = false) (nc : farB xb = false) (nd : farB yb = false)
include na nb nc nd
theorem k_near4 : kjoints_near [.ro 1 4 4 fun i j => ([[AV.int .i32 xa], [AV.int .i32 ya], [AV.int .i32 xb], [AV.int .i32 yb]].getD i []).getD j .dead] = some (.bool true) := by
  show gjoints_near NN 4 4 (fun i j => ([[AV.int .i32 xa], [AV.int .i32 ya], [AV.int .i32 xb], [AV.int .i32 yb]].getD i []).getD j .dead) = _
  have e : NN = 1125899906842619 + 5 := by unfold NN; omega
  rw [e]
  exact near4 _ 4 xa ya xb yb _ rfl rfl rfl rfl na nb nc nd
theorem k_apart (s t : ByteArray) (f g : Int) : kjoints_Apart [JA s xa ya f, JA t xb yb g] = some (.tup [.int .i64 (xb - xa), .int .i64 (yb - ya), .int .i64 ((xb - xa) * (xb - xa) + (yb - ya) * (yb - ya))]) := by
  have h1 := far_b na
  have h2 := far_b nb
  have h3 := far_b nc
  have h4 := far_b nd
  have q1 := sq_b (d := xb - xa) (by omega)
  have q2 := sq_b (d := yb - ya) (by omega)
  show gjoints_Apart kjoints_near NN s xa ya f t xb yb g = _
  unfold gjoints_Apart
  rw [k_near4 na nb nc nd, okQ, ck_true, gV, tB, Bool.not_true, cond_false, wrap32 (n := xb - xa) (by omega) (by omega), wrap32 (n := yb - ya) (by omega) (by omega), wrapi (n := xb - xa) (by omega) (by omega), wrapi (n := yb - ya) (by omega) (by omega)]
  generalize (xb - xa) * (xb - xa) = p at *
  generalize (yb - ya) * (yb - ya) = q at *
  rw [wrapi (n := p) (by omega) (by omega), wrapi (n := q) (by omega) (by omega), wrapi (n := p + q) (by omega) (by omega)]
end

/-- The float of a length's square. -/
def xw (n : Int) : Nat := FloatKind.f64.nearest n
theorem xw_in {n : Int} (h1 : 1 ≤ n) (h2 : n ≤ 8796093022208) : In 1023 1066 (xw n) := by
  obtain ⟨m, rfl⟩ : ∃ m : Nat, n = m := ⟨n.toNat, by omega⟩
  have hl : m.log2 ≤ 43 := by
    have : m.log2 < 44 := (Nat.log2_lt (by omega)).2 (by omega)
    omega
  obtain ⟨a, b⟩ := int_ex (n := m) (by omega) (by omega)
  have e : xw (m : Int) = Ieee.double.nearest false m 0 := by
    show Ieee.double.nearest (decide (((m : Nat) : Int) < 0)) ((m : Nat) : Int).natAbs 0 = _
    rw [decide_eq_false (by omega), Int.natAbs_natCast]
  rw [e]
  exact ⟨a, by omega, by omega⟩

/-- A length, as a span, and as a float. -/
def lS (x : Nat) : Nat × Nat := (rootV 1 x, rootV 2 x)
def lN (x : Nat) : Nat := rootV 0 x
theorem lS_in {x : Nat} (hx : In 1023 1066 x) : SIn 1022 1046 (lS x) := ⟨(root_all hx w1).2.2, (root_all hx w2).2.2, adj_le _ _⟩
theorem k_length {xa ya xb yb : Int} (na : farB xa = false) (nb : farB ya = false) (nc : farB xb = false) (nd : farB yb = false) (s t : ByteArray) (f g : Int) {n : Int} (hn : n = (xb - xa) * (xb - xa) + (yb - ya) * (yb - ya)) (hx : In 1023 1066 (xw n)) :
    kjoints_Length [JA s xa ya f, JA t xb yb g] = some (.tup [SA (lS (xw n)), F (lN (xw n))]) := by
  show gjoints_Length kjoints_Apart kround_Sqrt NN s xa ya f t xb yb g = _
  unfold gjoints_Length
  rw [k_apart na nb nc nd, ← hn]
  dsimp only
  rw [okIII, ck_true, gV, tT, tl, tl, hD, tI, show FloatKind.f64.nearest n = xw n from rfl, (root_all hx w1).1, (root_all hx w2).1, (root_all hx w0).1]
  rfl
theorem k_length19 {n : Int} (hx : In 1023 1066 (xw n)) : kref19_Length [.int .i64 n] = some (.tup [SA (lS (xw n)), F (lN (xw n))]) := by
  show gref19_Length kref03_Sqrt NN n = _
  unfold gref19_Length
  rw [show FloatKind.f64.nearest n = xw n from rfl, (root_all hx w1).2.1, (root_all hx w2).2.1, (root_all hx w0).2.1]
  rfl

theorem k_one (x : Nat) : kbars_one [F x] = some (SA (x, x)) := rfl
theorem k_one19 (x : Nat) : kref19_one [F x] = some (SA (x, x)) := rfl
theorem times_sp {s t r : Nat × Nat} (h : kspan_Mul [SA s, SA t] = some (.tup [SA r, .int .i64 0])) (f : Nat) : gbars_times kspan_Mul (f + 3) 2 2 (fun i j => ([[F s.1, F s.2], [F t.1, F t.2]].getD i []).getD j .dead) = some (SA r) := by
  unfold gbars_times
  rw [decide_eq_true (show (0 : Int) < ((2 : Nat) : Int) by omega), ck_true, decide_eq_true (show (1 : Int) ≤ ((2 : Nat) : Int) by omega), ck_true]
  show gbars_times_l0 kspan_Mul _ _ 1 1 _ 1 _ _ (f + 3) 0 (some s.1) (some s.2) = _
  show gbars_times_l0_step kspan_Mul _ (gbars_times_l0 kspan_Mul _ _ 1 1 _ 1 _ _ (f + 2)) _ 1 1 _ 1 _ _ 0 (some s.1) (some s.2) = _
  unfold gbars_times_l0_step
  show ck (okM [RS.agg [LK.f .f64, LK.f .f64], RS.one (LK.i .i64)] (kspan_Mul [SA s, SA t])) (gbars_times_l0 kspan_Mul _ _ 1 1 _ 1 _ _ (f + 2) 1 (toF ((toC ((toT (getV (kspan_Mul [SA s, SA t]))).headD .dead)).headD .dead)) (toF ((toC ((toT (getV (kspan_Mul [SA s, SA t]))).headD .dead)).tail.headD .dead))) = _
  rw [h]
  rfl
theorem k_times {s t r : Nat × Nat} (h : kspan_Mul [SA s, SA t] = some (.tup [SA r, .int .i64 0])) : kbars_times [.ro 2 2 2 fun i j => ([[F s.1, F s.2], [F t.1, F t.2]].getD i []).getD j .dead] = some (SA r) := by
  show gbars_times kspan_Mul NN 2 2 (fun i j => ([[F s.1, F s.2], [F t.1, F t.2]].getD i []).getD j .dead) = _
  have e : NN = 1125899906842621 + 3 := by unfold NN; omega
  rw [e]
  exact times_sp h _
theorem k_spring {o u d : Nat × Nat} (h : kspan_Div [SA o, SA u] = some (.tup [SA d, .int .i64 0])) (k a b c e f g : Int) (p q : Option Nat) :
    kbars_spring [.int .u8 k, .agg [.int .i64 a, .int .i64 b, .int .i64 c, .int .i64 e, .int .i64 f, .int .i64 g], SA o, SA u, .flt .f64 p, .flt .f64 q] =
      some (.agg [.int .i64 0, .int .u8 k, .int .i64 a, .int .i64 b, .int .i64 c, .int .i64 e, .int .i64 f, .int .i64 g, F d.1, F d.2, .flt .f64 (farith .quo .f64 p q)]) := by
  show gbars_spring kspan_Div NN k a b c e f g (some o.1) (some o.2) (some u.1) (some u.2) p q = _
  unfold gbars_spring
  rw [h]
  rfl
end Go.Proofs.Tryz
end
section
namespace Go.Proofs.Tryz
open Go Go.Am Ieee.Pos
set_option maxRecDepth 100000

abbrev c3 : Nat := 4613937818241073152
theorem c3_in : In 1024 1024 c3 := by
  show In 1024 1024 4613937818241073152
  unfold In Norm ex; omega
abbrev MulF (s t : Nat × Nat) (lo hi : Nat) : Prop := kspan_Mul [SA s, SA t] = some (.tup [SA (mulS s t), .int .i64 0]) ∧ kref19_mul [SA s, SA t] = some (SA (mulS s t)) ∧ SIn lo hi (mulS s t)
abbrev DivF (s t : Nat × Nat) (lo hi : Nat) : Prop := kspan_Div [SA s, SA t] = some (.tup [SA (divS s t), .int .i64 0]) ∧ kref19_div [SA s, SA t] = some (SA (divS s t)) ∧ SIn lo hi (divS s t)

/-- How stiff a spring of a kind is: as a span; as a float. -/
def stS (E A I x : Nat) (k : Int) : Nat × Nat :=
  bif k == 1 then divS (mulS (E, E) (A, A)) (mulS (x, x) (lS x)) else bif k == 3 then divS (mulS (E, E) (I, I)) (lS x)
  else divS (mulS (c3, c3) (mulS (E, E) (I, I))) (mulS (mulS (x, x) (x, x)) (lS x))
abbrev fm (a b : Option Nat) : Option Nat := farith .mul .f64 a b
abbrev fq (a b : Option Nat) : Option Nat := farith .quo .f64 a b
def stN (E A I x : Nat) (k : Int) : Option Nat :=
  bif k == 1 then fq (fm (some E) (some A)) (fm (some x) (some (lN x))) else bif k == 3 then fq (fm (some E) (some I)) (some (lN x))
  else fq (fm (some c3) (fm (some E) (some I))) (fm (fm (some x) (some x)) (some (lN x)))

theorem SIn.one {l h x : Nat} (hx : In l h x) : SIn l h (x, x) := ⟨hx, hx, Nat.le_refl _⟩
section
variable {E A x : Nat} (hE : In 963 1083 E) (hA : In 963 1083 A) (hx : In 1023 1066 x)
include hE hA in
theorem fEA : MulF (E, E) (A, A) 902 1146 := mulS_all (SIn.one hE) (SIn.one hA) (by omega) (by omega) (by omega) (by omega) (by omega) (by omega) (by omega) (by omega)
include hx in
theorem fXL : MulF (x, x) (lS x) 1021 1092 := mulS_all (SIn.one hx) (lS_in hx) (by omega) (by omega) (by omega) (by omega) (by omega) (by omega) (by omega) (by omega)
include hE hA hx in
theorem fAx : DivF (mulS (E, E) (A, A)) (mulS (x, x) (lS x)) 831 1150 := divS_all (fEA hE hA).2.2 (fXL hx).2.2 (by omega) (by omega) (by omega) (by omega) (by omega) (by omega) (by omega) (by omega)
include hE hA hx in
theorem fEnd : DivF (mulS (E, E) (A, A)) (lS x) 877 1149 := divS_all (fEA hE hA).2.2 (lS_in hx) (by omega) (by omega) (by omega) (by omega) (by omega) (by omega) (by omega) (by omega)
include hE hA in
theorem fTh : MulF (c3, c3) (mulS (E, E) (A, A)) 902 1150 := mulS_all (SIn.one c3_in) (fEA hE hA).2.2 (by omega) (by omega) (by omega) (by omega) (by omega) (by omega) (by omega) (by omega)
include hx in
theorem fXX : MulF (x, x) (x, x) 1022 1112 := mulS_all (SIn.one hx) (SIn.one hx) (by omega) (by omega) (by omega) (by omega) (by omega) (by omega) (by omega) (by omega)
include hx in
theorem fXXL : MulF (mulS (x, x) (x, x)) (lS x) 1020 1138 := mulS_all (fXX hx).2.2 (lS_in hx) (by omega) (by omega) (by omega) (by omega) (by omega) (by omega) (by omega) (by omega)
include hE hA hx in
theorem fBow : DivF (mulS (c3, c3) (mulS (E, E) (A, A))) (mulS (mulS (x, x) (x, x)) (lS x)) 785 1155 := divS_all (fTh hE hA).2.2 (fXXL hx).2.2 (by omega) (by omega) (by omega) (by omega) (by omega) (by omega) (by omega) (by omega)
end

abbrev MA (s : ByteArray) (kd a b : Int) (ha hb : Bool) (E A I : Nat) : AV := .agg [.str s, .int .u8 kd, .int .i64 a, .int .i64 b, .bool ha, .bool hb, F E, F A, F I]
theorem okSF (o p q : Option Nat) : okM [RS.agg [LK.f .f64, LK.f .f64], RS.one (LK.f .f64)] (some (.tup [.agg [.flt .f64 o, .flt .f64 p], .flt .f64 q])) = true := rfl

section
variable {E A I x : Nat} (hE : In 963 1083 E) {n : Int} (hn : xw n = x) (hx : In 1023 1066 x) (s : ByteArray) (kd a b : Int) (ha hb : Bool)
include hE hn hx
theorem k_stiff1 (hA : In 963 1083 A) : kref19_stiff [MA s kd a b ha hb E A I, .int .i64 n, .int .u8 1] = some (.tup [SA (stS E A I x 1), .flt .f64 (stN E A I x 1)]) := by
  subst hn
  have t1 : kref19_mul [.agg [F E, F E], .agg [F A, F A]] = some (SA (mulS (E, E) (A, A))) := (fEA hE hA).2.1
  have t2 : kref19_mul [.agg [F (xw n), F (xw n)], SA (lS (xw n))] = some (SA (mulS (xw n, xw n) (lS (xw n)))) := (fXL hx).2.1
  have t3 := (fAx hE hA hx).2.1
  have t0 := k_length19 hx
  have o1 : ∀ w, kref19_one [F w] = some (.agg [F w, F w]) := fun _ => rfl
  have hw : FloatKind.f64.nearest n = xw n := rfl
  show gref19_stiff kref19_Length kref19_one kref19_mul kref19_div NN s kd a b ha hb (some E) (some A) (some I) n 1 = _
  unfold gref19_stiff
  simp only [t0, o1, hw, okSF, okFF, ck_true, gV, tT, tC, hD, tl, tF, t1, t2, t3]
  rfl
theorem k_stiff3 (hI : In 963 1083 I) : kref19_stiff [MA s kd a b ha hb E A I, .int .i64 n, .int .u8 3] = some (.tup [SA (stS E A I x 3), .flt .f64 (stN E A I x 3)]) := by
  subst hn
  have t1 : kref19_mul [.agg [F E, F E], .agg [F I, F I]] = some (SA (mulS (E, E) (I, I))) := (fEA hE hI).2.1
  have t3 := (fEnd hE hI hx).2.1
  have t0 := k_length19 hx
  have o1 : ∀ w, kref19_one [F w] = some (.agg [F w, F w]) := fun _ => rfl
  have hw : FloatKind.f64.nearest n = xw n := rfl
  show gref19_stiff kref19_Length kref19_one kref19_mul kref19_div NN s kd a b ha hb (some E) (some A) (some I) n 3 = _
  unfold gref19_stiff
  simp only [t0, o1, hw, okSF, okFF, ck_true, gV, tT, tC, hD, tl, tF, t1, t3]
  rfl
theorem k_stiff2 (hI : In 963 1083 I) {k : Int} (hk : k = 2 ∨ k = 4) : kref19_stiff [MA s kd a b ha hb E A I, .int .i64 n, .int .u8 k] = some (.tup [SA (stS E A I x k), .flt .f64 (stN E A I x k)]) := by
  subst hn
  have t1 : kref19_mul [.agg [F E, F E], .agg [F I, F I]] = some (SA (mulS (E, E) (I, I))) := (fEA hE hI).2.1
  have t2 : kref19_mul [.agg [F c3, F c3], SA (mulS (E, E) (I, I))] = some (SA (mulS (c3, c3) (mulS (E, E) (I, I)))) := (fTh hE hI).2.1
  have t3 : kref19_mul [.agg [F (xw n), F (xw n)], .agg [F (xw n), F (xw n)]] = some (SA (mulS (xw n, xw n) (xw n, xw n))) := (fXX hx).2.1
  have t4 := (fXXL hx).2.1
  have t5 := (fBow hE hI hx).2.1
  have t0 := k_length19 hx
  have o1 : ∀ w, kref19_one [F w] = some (.agg [F w, F w]) := fun _ => rfl
  have hw : FloatKind.f64.nearest n = xw n := rfl
  show gref19_stiff kref19_Length kref19_one kref19_mul kref19_div NN s kd a b ha hb (some E) (some A) (some I) n k = _
  unfold gref19_stiff
  rcases hk with rfl | rfl
  · simp only [t0, o1, hw, okSF, okFF, ck_true, gV, tT, tC, hD, tl, tF, t1, t2, t3, t4, t5]
    rfl
  · simp only [t0, o1, hw, okSF, okFF, ck_true, gV, tT, tC, hD, tl, tF, t1, t2, t3, t4, t5]
    rfl
end

/-- The row of a spring. -/
def r6 (dx dy n : Int) (k : Int) (back : Bool) : List AV :=
  bif k == 1 then [.int .i64 (IntKind.i64.wrap (0 - dx)), .int .i64 (IntKind.i64.wrap (0 - dy)), .int .i64 0, .int .i64 dx, .int .i64 dy, .int .i64 0]
  else bif k == 2 then [.int .i64 (IntKind.i64.wrap (-2 * dy)), .int .i64 (IntKind.i64.wrap (2 * dx)), .int .i64 n, .int .i64 (IntKind.i64.wrap (2 * dy)), .int .i64 (IntKind.i64.wrap (-2 * dx)), .int .i64 n]
  else bif k == 3 then [.int .i64 0, .int .i64 0, .int .i64 1, .int .i64 0, .int .i64 0, .int .i64 (-1)]
  else bif back then [.int .i64 (IntKind.i64.wrap (0 - dy)), .int .i64 dx, .int .i64 0, .int .i64 dy, .int .i64 (IntKind.i64.wrap (0 - dx)), .int .i64 n]
  else [.int .i64 (IntKind.i64.wrap (0 - dy)), .int .i64 dx, .int .i64 n, .int .i64 dy, .int .i64 (IntKind.i64.wrap (0 - dx)), .int .i64 0]
theorem k_row (dx dy n k : Int) (back : Bool) : kref19_row [.int .i64 dx, .int .i64 dy, .int .i64 n, .int .u8 k, .bool back] = some (.agg (r6 dx dy n k back)) := by
  show gref19_row NN dx dy n k back = _
  unfold gref19_row r6
  cases k == 1
  · cases k == 2
    · cases k == 3
      · cases back <;> rfl
      · rfl
    · rfl
  · rfl
/-- A spring of a member. -/
def spr (at' : Int) (dx dy n : Int) (E A I : Nat) (back : Bool) (k : Int) : List AV :=
  [.int .i64 at', .int .u8 k] ++ r6 dx dy n k back ++ [F (stS E A I (xw n) k).1, F (stS E A I (xw n) k).2, .flt .f64 (stN E A I (xw n) k)]
/-- The kinds of its springs. -/
def ksOf (kd : Int) (ha hb : Bool) : List Int := bif kd == 1 || (ha && hb) then [1] else bif ha || hb then [1, 4] else [1, 2, 3]
def kAV (l : List Int) : AV := .ro 1 l.length l.length fun i j => ((l.map fun k => [AV.int .u8 k]).getD i [.int .u8 0]).getD j .dead
theorem k_kinds (s : ByteArray) (kd a b : Int) (ha hb : Bool) (E A I : Nat) : kref19_kinds [MA s kd a b ha hb E A I] = some (kAV (ksOf kd ha hb)) := by
  show gref19_kinds NN s kd a b ha hb (some E) (some A) (some I) = _
  unfold gref19_kinds ksOf
  cases kd == 1 <;> cases ha <;> cases hb <;> rfl

theorem okSp (a b c d e f g h : Int) (o p q : Option Nat) : okM [RS.agg [LK.i .i64, LK.i .u8, LK.i .i64, LK.i .i64, LK.i .i64, LK.i .i64, LK.i .i64, LK.i .i64, LK.f .f64, LK.f .f64, LK.f .f64]]
    (some (.agg [.int .i64 a, .int .u8 b, .int .i64 c, .int .i64 d, .int .i64 e, .int .i64 f, .int .i64 g, .int .i64 h, .flt .f64 o, .flt .f64 p, .flt .f64 q])) = true := rfl
theorem k_bow {E I x : Nat} (hE : In 963 1083 E) (hI : In 963 1083 I) (hx : In 1023 1066 x) (k a b c d e f : Int) {n0 n1 n2 n3 : Nat} {g0 g1 g2 g3 : Nat → AV}
    (h0 : n0 = 9) (h1 : n1 = 1) (h2 : n2 = 2) (h3 : n3 = 1) (e6 : g0 6 = F E) (e8 : g0 8 = F I) (ex' : g1 0 = F x) (l0 : g2 0 = F (lS x).1) (l1 : g2 1 = F (lS x).2) (ln : g3 0 = F (lN x)) :
    kbars_springs_c1 [.int .u8 k, .agg [.int .i64 a, .int .i64 b, .int .i64 c, .int .i64 d, .int .i64 e, .int .i64 f], .rp n0 g0, .rp n1 g1, .rp n2 g2, .rp n3 g3] =
      some (.agg [.int .i64 0, .int .u8 k, .int .i64 a, .int .i64 b, .int .i64 c, .int .i64 d, .int .i64 e, .int .i64 f, F (divS (mulS (c3, c3) (mulS (E, E) (I, I))) (mulS (mulS (x, x) (x, x)) (lS x))).1, F (divS (mulS (c3, c3) (mulS (E, E) (I, I))) (mulS (mulS (x, x) (x, x)) (lS x))).2,
        .flt .f64 (fq (fm (some c3) (fm (some E) (some I))) (fm (fm (some x) (some x)) (some (lN x))))]) := by
  subst h0 h1 h2 h3
  have t1 : kbars_times [.ro 2 2 2 fun i j => ([[F E, F E], [F I, F I]].getD i []).getD j .dead] = some (SA (mulS (E, E) (I, I))) := k_times (s := (E, E)) (t := (I, I)) (fEA hE hI).1
  have t2 : kbars_times [.ro 2 2 2 fun i j => ([[F c3, F c3], [F (mulS (E, E) (I, I)).1, F (mulS (E, E) (I, I)).2]].getD i []).getD j .dead] = some (SA (mulS (c3, c3) (mulS (E, E) (I, I)))) := k_times (s := (c3, c3)) (t := mulS (E, E) (I, I)) (fTh hE hI).1
  have t3 : kbars_times [.ro 2 2 2 fun i j => ([[F x, F x], [F x, F x]].getD i []).getD j .dead] = some (SA (mulS (x, x) (x, x))) := k_times (s := (x, x)) (t := (x, x)) (fXX hx).1
  have t4 : kbars_times [.ro 2 2 2 fun i j => ([[F (mulS (x, x) (x, x)).1, F (mulS (x, x) (x, x)).2], [F (lS x).1, F (lS x).2]].getD i []).getD j .dead] = some (SA (mulS (mulS (x, x) (x, x)) (lS x))) := k_times (s := mulS (x, x) (x, x)) (t := lS x) (fXXL hx).1
  have t5 := fun k a b c d e f p q => k_spring (fBow hE hI hx).1 k a b c d e f p q
  have o1 : ∀ w, kbars_one [F w] = some (.agg [F w, F w]) := fun _ => rfl
  show gbars_springs_c1 kbars_one kbars_times kbars_spring NN k a b c d e f 9 g0 1 g1 2 g2 1 g3 = _
  unfold gbars_springs_c1
  have b1 : Nat.blt 0 (9 - 6) = true := rfl
  have b2 : Nat.blt 0 (9 - 8) = true := rfl
  have b3 : Nat.blt 0 1 = true := rfl
  have b4 : Nat.ble 2 2 = true := rfl
  have ff : fitKs [LK.f .f64, LK.f .f64] [F (lS x).1, F (lS x).2] = true := rfl
  simp only [e6, e8, ex', l0, l1, ln, b1, b2, b3, b4, ff, fF, o1, okFF, ck_true, gV, tT, tC, hD, tl, tF, tI, t1, t2, t3, t4, t5, okSp]
end Go.Proofs.Tryz
end
