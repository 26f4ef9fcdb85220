/- Part 3 of the proof: models of the functions, and laws on them. -/
import Derived.Test.YtendagcpfgpcaaaGreatDoorW2
import Derived.Test.YtendagcpfgpcaaaGreatDoorProg
import Derived.KernelRfl
section
namespace Go.Proofs.Tryz
open Go Go.Am
set_option linter.unusedVariables false
set_option maxRecDepth 1000000
noncomputable abbrev Pr : Program := prog
/-! ### function 42 -/
noncomputable def L42 (fuel : Nat) : Lam AV := []
noncomputable def G42 : Gam := []
noncomputable def g42 (fuel : Nat) (uk0 : Int) (ui1 : Int) : Option AV :=
  some (AV.str (bytesOf [[AV.int IntKind.u8 (35 : Int)], [AV.int IntKind.u8 (IntKind.u8.wrap uk0)], [AV.int IntKind.u8 (IntKind.u8.wrap (uk0.fdiv ((2 : Int) ^ (8 : Nat))))], [AV.int IntKind.u8 (IntKind.u8.wrap (uk0.fdiv ((2 : Int) ^ (16 : Nat))))], [AV.int IntKind.u8 (47 : Int)], [AV.int IntKind.u8 (IntKind.u8.wrap ui1)], [AV.int IntKind.u8 (IntKind.u8.wrap (ui1.fdiv ((2 : Int) ^ (8 : Nat))))], [AV.int IntKind.u8 (IntKind.u8.wrap (ui1.fdiv ((2 : Int) ^ (16 : Nat))))]]))
theorem g42_run (fuel : Nat) (uk0 : Int) (ui1 : Int) : run Pr (G42) [((0, 42), L42 fuel)] fuel 1 42 [AV.int IntKind.i64 uk0, AV.int IntKind.i64 ui1] = g42 fuel uk0 ui1 := by kernel_rfl
noncomputable def m42 (fuel : Nat) (xs : List AV) : Option AV := match xs with
  | [AV.int IntKind.i64 uk0, AV.int IntKind.i64 ui1] => g42 fuel uk0 ui1
  | _ => none
abbrev R42 : List RS := [RS.one LK.s]
theorem g42_sm (fuel : Nat) (hΓ : ∀ f s, (G42).get f = some s → SmOk Pr f s) (hP : NamesOk Pr) : SmOk Pr 42 (smM R42 (m42 fuel)) := by
  refine smM_ok (fuel := fuel) hΓ hP (LamOk.of 42 (L42 fuel) 0 (by kernel_rfl) (fun i hi => ?_)) 1 42 R42 _ (fun xs v h => ?_)
  · match i, hi with
    | i + 0, hi => exact absurd hi (by omega)
  · unfold m42 at h
    split at h
    · exact (g42_run fuel _ _).trans h
    · cases h

/-! ### function 26 -/
noncomputable def L26 (M42 : List AV → Option AV) (fuel : Nat) : Lam AV := []
noncomputable def G26 (M42 : List AV → Option AV) : Gam := [(42, smM [RS.one LK.s] M42)]
noncomputable def g26 (M42 : List AV → Option AV) (fuel : Nat) (uk0 : Int) (ui1 : Int) : Option AV :=
  bif okM [RS.one LK.s] (M42 [AV.int IntKind.i64 uk0, AV.int IntKind.i64 ui1]) then some (AV.agg [AV.str (toS (getV (M42 [AV.int IntKind.i64 uk0, AV.int IntKind.i64 ui1]))), AV.int IntKind.i32 (0 : Int), AV.int IntKind.i32 (0 : Int), AV.int IntKind.u8 (0 : Int)])
  else none
theorem g26_run (M42 : List AV → Option AV) (fuel : Nat) (uk0 : Int) (ui1 : Int) : run Pr (G26 M42) [((0, 26), L26 M42 fuel)] fuel 1 26 [AV.int IntKind.i64 uk0, AV.int IntKind.i64 ui1] = g26 M42 fuel uk0 ui1 := by kernel_rfl
noncomputable def m26 (M42 : List AV → Option AV) (fuel : Nat) (xs : List AV) : Option AV := match xs with
  | [AV.int IntKind.i64 uk0, AV.int IntKind.i64 ui1] => g26 M42 fuel uk0 ui1
  | _ => none
abbrev R26 : List RS := [RS.agg [LK.s, LK.i IntKind.i32, LK.i IntKind.i32, LK.i IntKind.u8]]
theorem g26_sm (M42 : List AV → Option AV) (fuel : Nat) (hΓ : ∀ f s, (G26 M42).get f = some s → SmOk Pr f s) (hP : NamesOk Pr) : SmOk Pr 26 (smM R26 (m26 M42 fuel)) := by
  refine smM_ok (fuel := fuel) hΓ hP (LamOk.of 26 (L26 M42 fuel) 0 (by kernel_rfl) (fun i hi => ?_)) 1 26 R26 _ (fun xs v h => ?_)
  · match i, hi with
    | i + 0, hi => exact absurd hi (by omega)
  · unfold m26 at h
    split at h
    · exact (g26_run M42 fuel _ _).trans h
    · cases h

/-! ### function 27 -/
noncomputable def L27 (M42 : List AV → Option AV) (fuel : Nat) : Lam AV := []
noncomputable def G27 (M42 : List AV → Option AV) : Gam := [(42, smM [RS.one LK.s] M42)]
noncomputable def g27 (M42 : List AV → Option AV) (fuel : Nat) (uk0 : Int) (ui1 : Int) : Option AV :=
  bif okM [RS.one LK.s] (M42 [AV.int IntKind.i64 uk0, AV.int IntKind.i64 ui1]) then some (AV.agg [AV.str (toS (getV (M42 [AV.int IntKind.i64 uk0, AV.int IntKind.i64 ui1]))), AV.int IntKind.u8 (0 : Int), AV.int IntKind.i64 (0 : Int), AV.int IntKind.i64 (0 : Int), AV.bool false, AV.bool false, AV.flt FloatKind.f64 (some (0 : Nat)), AV.flt FloatKind.f64 (some (0 : Nat)), AV.flt FloatKind.f64 (some (0 : Nat))])
  else none
theorem g27_run (M42 : List AV → Option AV) (fuel : Nat) (uk0 : Int) (ui1 : Int) : run Pr (G27 M42) [((0, 27), L27 M42 fuel)] fuel 1 27 [AV.int IntKind.i64 uk0, AV.int IntKind.i64 ui1] = g27 M42 fuel uk0 ui1 := by kernel_rfl
noncomputable def m27 (M42 : List AV → Option AV) (fuel : Nat) (xs : List AV) : Option AV := match xs with
  | [AV.int IntKind.i64 uk0, AV.int IntKind.i64 ui1] => g27 M42 fuel uk0 ui1
  | _ => none
abbrev R27 : List RS := [RS.agg [LK.s, LK.i IntKind.u8, LK.i IntKind.i64, LK.i IntKind.i64, LK.b, LK.b, LK.f FloatKind.f64, LK.f FloatKind.f64, LK.f FloatKind.f64]]
theorem g27_sm (M42 : List AV → Option AV) (fuel : Nat) (hΓ : ∀ f s, (G27 M42).get f = some s → SmOk Pr f s) (hP : NamesOk Pr) : SmOk Pr 27 (smM R27 (m27 M42 fuel)) := by
  refine smM_ok (fuel := fuel) hΓ hP (LamOk.of 27 (L27 M42 fuel) 0 (by kernel_rfl) (fun i hi => ?_)) 1 27 R27 _ (fun xs v h => ?_)
  · match i, hi with
    | i + 0, hi => exact absurd hi (by omega)
  · unfold m27 at h
    split at h
    · exact (g27_run M42 fuel _ _).trans h
    · cases h

/-! ### function 12 -/
noncomputable def S12_0 (ul0n_1 : Nat) (ul0r_1 : Nat) (ul0g_1 : Nat → Nat → AV) (out3o : Nat) (out3n : Nat) (out3c : Nat) (ui4 : Int) (h0z : List AV) (h0e : List (List AV)) : St := { env := [((0 : Nat), AV.ro (4 : Nat) ul0n_1 ul0r_1 ul0g_1), ((3 : Nat), AV.own (0 : Nat) out3o (4 : Nat) out3n out3c), ((4 : Nat), AV.int IntKind.i64 ui4)], h := [Blk.fx (4 : Nat) h0z h0e], kd := [] }
noncomputable def X12_0_0 (xul0n_1 : Nat) (xul0r_1 : Nat) (xul0g_1 : Nat → Nat → AV) (xout3o_1 : Nat) (xout3n_1 : Nat) (xout3c_1 : Nat) (xh0z_1 : List AV) (xh0e_1 : List (List AV)) : St := { env := [((0 : Nat), AV.ro (4 : Nat) xul0n_1 xul0r_1 xul0g_1), ((3 : Nat), AV.own (0 : Nat) xout3o_1 (4 : Nat) xout3n_1 xout3c_1)], h := [Blk.fx (4 : Nat) xh0z_1 xh0e_1], kd := [] }
noncomputable def g12_l0_step (M26 : List AV → Option AV) (fuel : Nat) (kn : Nat → Int → List (List AV) → Option AV) (kx0 : Nat → Nat → (Nat → Nat → AV) → Nat → Nat → Nat → List AV → List (List AV) → Option AV) (ul0n_1 : Nat) (ul0r_1 : Nat) (ul0g_1 : Nat → Nat → AV) (out3o : Nat) (out3c : Nat) (h0z : List AV) (out3n : Nat) (ui4 : Int) (h0e : List (List AV)) : Option AV :=
  bif decide (ui4 < (12 : Int)) then bif okM [RS.agg [LK.s, LK.i IntKind.i32, LK.i IntKind.i32, LK.i IntKind.u8]] (M26 [AV.int IntKind.i64 (1 : Int), AV.int IntKind.i64 ui4]) then bif decide (out3n + (1 : Nat) ≤ out3c) then kn (out3n + (1 : Nat)) (IntKind.i64.wrap (ui4 + (1 : Int))) (List.take (out3o + out3n) h0e ++ [[AV.str (toS ((toC (getV (M26 [AV.int IntKind.i64 (1 : Int), AV.int IntKind.i64 ui4]))).headD AV.dead)), AV.int IntKind.i32 (toI ((toC (getV (M26 [AV.int IntKind.i64 (1 : Int), AV.int IntKind.i64 ui4]))).tail.headD AV.dead)), AV.int IntKind.i32 (toI ((toC (getV (M26 [AV.int IntKind.i64 (1 : Int), AV.int IntKind.i64 ui4]))).tail.tail.headD AV.dead)), AV.int IntKind.u8 (toI ((toC (getV (M26 [AV.int IntKind.i64 (1 : Int), AV.int IntKind.i64 ui4]))).tail.tail.tail.headD AV.dead))]] ++ List.drop (out3o + out3n + (1 : Nat)) h0e)
      else none
    else none
  else kx0 (ul0n_1) (ul0r_1) (ul0g_1) (out3o) (out3n) (out3c) (h0z) (h0e)
noncomputable def g12_l0 (M26 : List AV → Option AV) (fuel : Nat) (kx0 : Nat → Nat → (Nat → Nat → AV) → Nat → Nat → Nat → List AV → List (List AV) → Option AV) (ul0n_1 : Nat) (ul0r_1 : Nat) (ul0g_1 : Nat → Nat → AV) (out3o : Nat) (out3c : Nat) (h0z : List AV) : Nat → Nat → Int → List (List AV) → Option AV
  | 0, _, _, _ => none
  | n' + 1, out3n, ui4, h0e => g12_l0_step M26 fuel (g12_l0 M26 fuel kx0 ul0n_1 ul0r_1 ul0g_1 out3o out3c h0z n') kx0 ul0n_1 ul0r_1 ul0g_1 out3o out3c h0z out3n ui4 h0e
noncomputable def T12_0 : TS' := ⟨[(0, TA.ro 4), (3, TA.own 0 4), (4, TA.i IntKind.i64)], [TB.fx 4], []⟩
noncomputable def F12_0 (M26 : List AV → Option AV) (fuel : Nat) (ps : List Pay) (K : Ex → St → Option AV) : Option AV := match ps with
  | .n ul0n_1 :: .n ul0r_1 :: .g ul0g_1 :: .n out3o :: .n out3n :: .n out3c :: .i ui4 :: .z h0z :: .e h0e :: [] => g12_l0 M26 fuel (fun xul0n_1 xul0r_1 xul0g_1 xout3o_1 xout3n_1 xout3c_1 xh0z_1 xh0e_1 => K (Ex.exit (0 : Nat)) (X12_0_0 xul0n_1 xul0r_1 xul0g_1 xout3o_1 xout3n_1 xout3c_1 xh0z_1 xh0e_1)) ul0n_1 ul0r_1 ul0g_1 out3o out3c h0z fuel out3n ui4 h0e
  | _ => none
noncomputable def L12 (M26 : List AV → Option AV) (fuel : Nat) : Lam AV := [(2093080, lam T12_0 (F12_0 M26 fuel))]
noncomputable def G12 (M26 : List AV → Option AV) : Gam := [(26, smM [RS.agg [LK.s, LK.i IntKind.i32, LK.i IntKind.i32, LK.i IntKind.u8]] M26)]
theorem g12_l0_eq (M26 : List AV → Option AV) (fuel : Nat) (call : CallI AV) (kn : St → Option AV) (K : Ex → St → Option AV) (ul0n_1 : Nat) (ul0r_1 : Nat) (ul0g_1 : Nat → Nat → AV) (out3o : Nat) (out3c : Nat) (h0z : List AV) (out3n0 : Nat) (ui40 : Int) (h0e0 : List (List AV)) (out3n : Nat) (ui4 : Int) (h0e : List (List AV)) :
    exec Pr (G12 M26) (L12 M26 fuel) (fnNt Pr 12) fuel call (lp Pr 12 0).1 (lp Pr 12 0).2 (live (lp Pr 12 0).1 (lp Pr 12 0).2 0) (S12_0 ul0n_1 ul0r_1 ul0g_1 out3o out3n out3c ui4 h0z h0e) (fun e s => match e with | .normal => kn (headN (live (lp Pr 12 0).1 (lp Pr 12 0).2 0) (writes (lp Pr 12 0).1) (S12_0 ul0n_1 ul0r_1 ul0g_1 out3o out3n0 out3c ui40 h0z h0e0) s) | e => K e s) =
    g12_l0_step M26 fuel (fun out3n ui4 h0e => kn (S12_0 ul0n_1 ul0r_1 ul0g_1 out3o out3n out3c ui4 h0z h0e)) (fun xul0n xul0r xul0g xout3o xout3n xout3c xh0z xh0e => K (Ex.exit (0 : Nat)) (X12_0_0 xul0n xul0r xul0g xout3o xout3n xout3c xh0z xh0e)) ul0n_1 ul0r_1 ul0g_1 out3o out3c h0z out3n ui4 h0e := by kernel_rfl
theorem g12_l0_ok (M26 : List AV → Option AV) (fuel : Nat) (call : CallI AV) (K : Ex → St → Option AV) (ul0n_1 : Nat) (ul0r_1 : Nat) (ul0g_1 : Nat → Nat → AV) (out3o : Nat) (out3c : Nat) (h0z : List AV) (out3n0 : Nat) (ui40 : Int) (h0e0 : List (List AV)) : ∀ (n' : Nat) (out3n : Nat) (ui4 : Int) (h0e : List (List AV)),
    loopK (exec Pr (G12 M26) (L12 M26 fuel) (fnNt Pr 12) fuel call (lp Pr 12 0).1 (lp Pr 12 0).2 (live (lp Pr 12 0).1 (lp Pr 12 0).2 0)) (headN (live (lp Pr 12 0).1 (lp Pr 12 0).2 0) (writes (lp Pr 12 0).1) (S12_0 ul0n_1 ul0r_1 ul0g_1 out3o out3n0 out3c ui40 h0z h0e0)) n' (S12_0 ul0n_1 ul0r_1 ul0g_1 out3o out3n out3c ui4 h0z h0e) K = g12_l0 M26 fuel (fun xul0n xul0r xul0g xout3o xout3n xout3c xh0z xh0e => K (Ex.exit (0 : Nat)) (X12_0_0 xul0n xul0r xul0g xout3o xout3n xout3c xh0z xh0e)) ul0n_1 ul0r_1 ul0g_1 out3o out3c h0z n' out3n ui4 h0e
  | 0, _, _, _ => rfl
  | n' + 1, out3n, ui4, h0e => (g12_l0_eq M26 fuel call (fun s => loopK (exec Pr (G12 M26) (L12 M26 fuel) (fnNt Pr 12) fuel call (lp Pr 12 0).1 (lp Pr 12 0).2 (live (lp Pr 12 0).1 (lp Pr 12 0).2 0)) (headN (live (lp Pr 12 0).1 (lp Pr 12 0).2 0) (writes (lp Pr 12 0).1) (S12_0 ul0n_1 ul0r_1 ul0g_1 out3o out3n0 out3c ui40 h0z h0e0)) n' s K) K ul0n_1 ul0r_1 ul0g_1 out3o out3c h0z out3n0 ui40 h0e0 out3n ui4 h0e).trans
    (congrArg (fun kn => g12_l0_step M26 fuel kn (fun xul0n xul0r xul0g xout3o xout3n xout3c xh0z xh0e => K (Ex.exit (0 : Nat)) (X12_0_0 xul0n xul0r xul0g xout3o xout3n xout3c xh0z xh0e)) ul0n_1 ul0r_1 ul0g_1 out3o out3c h0z out3n ui4 h0e) (funext fun _ => funext fun _ => funext fun _ => g12_l0_ok M26 fuel call K ul0n_1 ul0r_1 ul0g_1 out3o out3c h0z out3n0 ui40 h0e0 n' _ _ _))
theorem g12_L0 (M26 : List AV → Option AV) (fuel : Nat) (call : CallI AV) : LOk Pr (G12 M26) (L12 M26 fuel) (fnNt Pr 12) fuel call (lp Pr 12 0) := by
  refine .of T12_0 (F12_0 M26 fuel) (fun L h => ?_) (fun ps st K r he hr => ?_)
  · have e : (L12 M26 fuel).get (writes (lp Pr 12 0).1) = some (lam T12_0 (F12_0 M26 fuel)) := by kernel_rfl
    exact (Option.some.inj (e.symm.trans h)).symm
  · unfold F12_0 at hr
    split at hr
    · obtain rfl := (Option.some.inj he).symm
      exact (g12_l0_ok M26 fuel call K _ _ _ _ _ _ _ _ _ fuel _ _ _).trans hr
    · cases hr
noncomputable def g12 (M26 : List AV → Option AV) (fuel : Nat) (ul0n : Nat) (ul0r : Nat) (ul0g : Nat → Nat → AV) : Option AV :=
  bif decide ((0 : Int) ≤ IntKind.i64.wrap ((↑ul0n : Int) + (12 : Int))) then bif ((32 : Nat) * (IntKind.i64.wrap ((↑ul0n : Int) + (12 : Int))).toNat).ble (281474976710656 : Nat) then bif ((IntKind.i64.wrap ((↑ul0n : Int) + (12 : Int))).toNat + (1 : Nat)).ble (4611686018427387904 : Nat) then bif decide ((0 : Nat) + ul0n ≤ (IntKind.i64.wrap ((↑ul0n : Int) + (12 : Int))).toNat) then g12_l0 M26 fuel
            (fun (xul0n : Nat) (_ : Nat) (_ : Nat → Nat → AV) (xout3o : Nat) (_ : Nat) (xout3c : Nat) (xh0z : List AV) (xh0e : List (List AV)) => bif decide ((0 : Nat) < xout3c) then bif decide ((↑xul0n : Int) ≤ (↑xout3c : Int)) then some (AV.ro (4 : Nat) ((↑xul0n : Int).toNat - (0 : Nat)) (xout3c - (0 : Nat)) fun (i j : Nat) => (xh0e.getD (xout3o + (0 : Nat) + i) xh0z).getD j AV.dead)
                else none
              else none)
            (ul0n)
            (ul0r)
            (ul0g)
            ((0 : Nat))
            ((IntKind.i64.wrap ((↑ul0n : Int) + (12 : Int))).toNat)
            ([AV.str { data := #[] }, AV.int IntKind.i32 (0 : Int), AV.int IntKind.i32 (0 : Int), AV.int IntKind.u8 (0 : Int)]) fuel ((0 : Nat) + ul0n) ((0 : Int)) ([] ++ rows (4 : Nat) ul0n ul0g ++ List.drop ((0 : Nat) + ul0n) (List.replicate (IntKind.i64.wrap ((↑ul0n : Int) + (12 : Int))).toNat [AV.str { data := #[] }, AV.int IntKind.i32 (0 : Int), AV.int IntKind.i32 (0 : Int), AV.int IntKind.u8 (0 : Int)]))
        else none
      else none
    else none
  else none
theorem g12_run (M26 : List AV → Option AV) (fuel : Nat) (ul0n : Nat) (ul0r : Nat) (ul0g : Nat → Nat → AV) : run Pr (G12 M26) [((0, 12), L12 M26 fuel)] fuel 1 12 [AV.ro (4 : Nat) ul0n ul0r ul0g] = g12 M26 fuel ul0n ul0r ul0g := by kernel_rfl
noncomputable def m12 (M26 : List AV → Option AV) (fuel : Nat) (xs : List AV) : Option AV := match xs with
  | [AV.ro (4 : Nat) ul0n ul0r ul0g] => g12 M26 fuel ul0n ul0r ul0g
  | _ => none
abbrev R12 : List RS := [RS.one (LK.l (nat_lit 4))]
theorem g12_sm (M26 : List AV → Option AV) (fuel : Nat) (hΓ : ∀ f s, (G12 M26).get f = some s → SmOk Pr f s) (hP : NamesOk Pr) : SmOk Pr 12 (smM R12 (m12 M26 fuel)) := by
  refine smM_ok (fuel := fuel) hΓ hP (LamOk.of 12 (L12 M26 fuel) 1 (by kernel_rfl) (fun i hi => ?_)) 1 12 R12 _ (fun xs v h => ?_)
  · match i, hi with
    | 0, _ => exact g12_L0 M26 fuel _
    | i + 1, hi => exact absurd hi (by omega)
  · unfold m12 at h
    split at h
    · exact (g12_run M26 fuel _ _ _).trans h
    · cases h

/-! ### function 13 -/
noncomputable def S13_0 (ul0n_1 : Nat) (ul0r_1 : Nat) (ul0g_1 : Nat → Nat → AV) (out3o : Nat) (out3n : Nat) (out3c : Nat) (ui4 : Int) (h0z : List AV) (h0e : List (List AV)) : St := { env := [((0 : Nat), AV.ro (9 : Nat) ul0n_1 ul0r_1 ul0g_1), ((3 : Nat), AV.own (0 : Nat) out3o (9 : Nat) out3n out3c), ((4 : Nat), AV.int IntKind.i64 ui4)], h := [Blk.fx (9 : Nat) h0z h0e], kd := [] }
noncomputable def X13_0_0 (xul0n_1 : Nat) (xul0r_1 : Nat) (xul0g_1 : Nat → Nat → AV) (xout3o_1 : Nat) (xout3n_1 : Nat) (xout3c_1 : Nat) (xh0z_1 : List AV) (xh0e_1 : List (List AV)) : St := { env := [((0 : Nat), AV.ro (9 : Nat) xul0n_1 xul0r_1 xul0g_1), ((3 : Nat), AV.own (0 : Nat) xout3o_1 (9 : Nat) xout3n_1 xout3c_1)], h := [Blk.fx (9 : Nat) xh0z_1 xh0e_1], kd := [] }
noncomputable def g13_l0_step (M27 : List AV → Option AV) (fuel : Nat) (kn : Nat → Int → List (List AV) → Option AV) (kx0 : Nat → Nat → (Nat → Nat → AV) → Nat → Nat → Nat → List AV → List (List AV) → Option AV) (ul0n_1 : Nat) (ul0r_1 : Nat) (ul0g_1 : Nat → Nat → AV) (out3o : Nat) (out3c : Nat) (h0z : List AV) (out3n : Nat) (ui4 : Int) (h0e : List (List AV)) : Option AV :=
  bif decide (ui4 < (12 : Int)) then bif okM [RS.agg [LK.s, LK.i IntKind.u8, LK.i IntKind.i64, LK.i IntKind.i64, LK.b, LK.b, LK.f FloatKind.f64, LK.f FloatKind.f64, LK.f FloatKind.f64]] (M27 [AV.int IntKind.i64 (1 : Int), AV.int IntKind.i64 ui4]) then bif decide (out3n + (1 : Nat) ≤ out3c) then kn (out3n + (1 : Nat)) (IntKind.i64.wrap (ui4 + (1 : Int))) (List.take (out3o + out3n) h0e ++ [[AV.str (toS ((toC (getV (M27 [AV.int IntKind.i64 (1 : Int), AV.int IntKind.i64 ui4]))).headD AV.dead)), AV.int IntKind.u8 (toI ((toC (getV (M27 [AV.int IntKind.i64 (1 : Int), AV.int IntKind.i64 ui4]))).tail.headD AV.dead)), AV.int IntKind.i64 (toI ((toC (getV (M27 [AV.int IntKind.i64 (1 : Int), AV.int IntKind.i64 ui4]))).tail.tail.headD AV.dead)), AV.int IntKind.i64 (toI ((toC (getV (M27 [AV.int IntKind.i64 (1 : Int), AV.int IntKind.i64 ui4]))).tail.tail.tail.headD AV.dead)), AV.bool (toB ((toC (getV (M27 [AV.int IntKind.i64 (1 : Int), AV.int IntKind.i64 ui4]))).tail.tail.tail.tail.headD AV.dead)), AV.bool (toB ((toC (getV (M27 [AV.int IntKind.i64 (1 : Int), AV.int IntKind.i64 ui4]))).tail.tail.tail.tail.tail.headD AV.dead)), AV.flt FloatKind.f64 (toF ((toC (getV (M27 [AV.int IntKind.i64 (1 : Int), AV.int IntKind.i64 ui4]))).tail.tail.tail.tail.tail.tail.headD AV.dead)), AV.flt FloatKind.f64 (toF ((toC (getV (M27 [AV.int IntKind.i64 (1 : Int), AV.int IntKind.i64 ui4]))).tail.tail.tail.tail.tail.tail.tail.headD AV.dead)), AV.flt FloatKind.f64 (toF ((toC (getV (M27 [AV.int IntKind.i64 (1 : Int), AV.int IntKind.i64 ui4]))).tail.tail.tail.tail.tail.tail.tail.tail.headD AV.dead))]] ++ List.drop (out3o + out3n + (1 : Nat)) h0e)
      else none
    else none
  else kx0 (ul0n_1) (ul0r_1) (ul0g_1) (out3o) (out3n) (out3c) (h0z) (h0e)
noncomputable def g13_l0 (M27 : List AV → Option AV) (fuel : Nat) (kx0 : Nat → Nat → (Nat → Nat → AV) → Nat → Nat → Nat → List AV → List (List AV) → Option AV) (ul0n_1 : Nat) (ul0r_1 : Nat) (ul0g_1 : Nat → Nat → AV) (out3o : Nat) (out3c : Nat) (h0z : List AV) : Nat → Nat → Int → List (List AV) → Option AV
  | 0, _, _, _ => none
  | n' + 1, out3n, ui4, h0e => g13_l0_step M27 fuel (g13_l0 M27 fuel kx0 ul0n_1 ul0r_1 ul0g_1 out3o out3c h0z n') kx0 ul0n_1 ul0r_1 ul0g_1 out3o out3c h0z out3n ui4 h0e
noncomputable def T13_0 : TS' := ⟨[(0, TA.ro 9), (3, TA.own 0 9), (4, TA.i IntKind.i64)], [TB.fx 9], []⟩
noncomputable def F13_0 (M27 : List AV → Option AV) (fuel : Nat) (ps : List Pay) (K : Ex → St → Option AV) : Option AV := match ps with
  | .n ul0n_1 :: .n ul0r_1 :: .g ul0g_1 :: .n out3o :: .n out3n :: .n out3c :: .i ui4 :: .z h0z :: .e h0e :: [] => g13_l0 M27 fuel (fun xul0n_1 xul0r_1 xul0g_1 xout3o_1 xout3n_1 xout3c_1 xh0z_1 xh0e_1 => K (Ex.exit (0 : Nat)) (X13_0_0 xul0n_1 xul0r_1 xul0g_1 xout3o_1 xout3n_1 xout3c_1 xh0z_1 xh0e_1)) ul0n_1 ul0r_1 ul0g_1 out3o out3c h0z fuel out3n ui4 h0e
  | _ => none
noncomputable def L13 (M27 : List AV → Option AV) (fuel : Nat) : Lam AV := [(2093080, lam T13_0 (F13_0 M27 fuel))]
noncomputable def G13 (M27 : List AV → Option AV) : Gam := [(27, smM [RS.agg [LK.s, LK.i IntKind.u8, LK.i IntKind.i64, LK.i IntKind.i64, LK.b, LK.b, LK.f FloatKind.f64, LK.f FloatKind.f64, LK.f FloatKind.f64]] M27)]
theorem g13_l0_eq (M27 : List AV → Option AV) (fuel : Nat) (call : CallI AV) (kn : St → Option AV) (K : Ex → St → Option AV) (ul0n_1 : Nat) (ul0r_1 : Nat) (ul0g_1 : Nat → Nat → AV) (out3o : Nat) (out3c : Nat) (h0z : List AV) (out3n0 : Nat) (ui40 : Int) (h0e0 : List (List AV)) (out3n : Nat) (ui4 : Int) (h0e : List (List AV)) :
    exec Pr (G13 M27) (L13 M27 fuel) (fnNt Pr 13) fuel call (lp Pr 13 0).1 (lp Pr 13 0).2 (live (lp Pr 13 0).1 (lp Pr 13 0).2 0) (S13_0 ul0n_1 ul0r_1 ul0g_1 out3o out3n out3c ui4 h0z h0e) (fun e s => match e with | .normal => kn (headN (live (lp Pr 13 0).1 (lp Pr 13 0).2 0) (writes (lp Pr 13 0).1) (S13_0 ul0n_1 ul0r_1 ul0g_1 out3o out3n0 out3c ui40 h0z h0e0) s) | e => K e s) =
    g13_l0_step M27 fuel (fun out3n ui4 h0e => kn (S13_0 ul0n_1 ul0r_1 ul0g_1 out3o out3n out3c ui4 h0z h0e)) (fun xul0n xul0r xul0g xout3o xout3n xout3c xh0z xh0e => K (Ex.exit (0 : Nat)) (X13_0_0 xul0n xul0r xul0g xout3o xout3n xout3c xh0z xh0e)) ul0n_1 ul0r_1 ul0g_1 out3o out3c h0z out3n ui4 h0e := by kernel_rfl
theorem g13_l0_ok (M27 : List AV → Option AV) (fuel : Nat) (call : CallI AV) (K : Ex → St → Option AV) (ul0n_1 : Nat) (ul0r_1 : Nat) (ul0g_1 : Nat → Nat → AV) (out3o : Nat) (out3c : Nat) (h0z : List AV) (out3n0 : Nat) (ui40 : Int) (h0e0 : List (List AV)) : ∀ (n' : Nat) (out3n : Nat) (ui4 : Int) (h0e : List (List AV)),
    loopK (exec Pr (G13 M27) (L13 M27 fuel) (fnNt Pr 13) fuel call (lp Pr 13 0).1 (lp Pr 13 0).2 (live (lp Pr 13 0).1 (lp Pr 13 0).2 0)) (headN (live (lp Pr 13 0).1 (lp Pr 13 0).2 0) (writes (lp Pr 13 0).1) (S13_0 ul0n_1 ul0r_1 ul0g_1 out3o out3n0 out3c ui40 h0z h0e0)) n' (S13_0 ul0n_1 ul0r_1 ul0g_1 out3o out3n out3c ui4 h0z h0e) K = g13_l0 M27 fuel (fun xul0n xul0r xul0g xout3o xout3n xout3c xh0z xh0e => K (Ex.exit (0 : Nat)) (X13_0_0 xul0n xul0r xul0g xout3o xout3n xout3c xh0z xh0e)) ul0n_1 ul0r_1 ul0g_1 out3o out3c h0z n' out3n ui4 h0e
  | 0, _, _, _ => rfl
  | n' + 1, out3n, ui4, h0e => (g13_l0_eq M27 fuel call (fun s => loopK (exec Pr (G13 M27) (L13 M27 fuel) (fnNt Pr 13) fuel call (lp Pr 13 0).1 (lp Pr 13 0).2 (live (lp Pr 13 0).1 (lp Pr 13 0).2 0)) (headN (live (lp Pr 13 0).1 (lp Pr 13 0).2 0) (writes (lp Pr 13 0).1) (S13_0 ul0n_1 ul0r_1 ul0g_1 out3o out3n0 out3c ui40 h0z h0e0)) n' s K) K ul0n_1 ul0r_1 ul0g_1 out3o out3c h0z out3n0 ui40 h0e0 out3n ui4 h0e).trans
    (congrArg (fun kn => g13_l0_step M27 fuel kn (fun xul0n xul0r xul0g xout3o xout3n xout3c xh0z xh0e => K (Ex.exit (0 : Nat)) (X13_0_0 xul0n xul0r xul0g xout3o xout3n xout3c xh0z xh0e)) ul0n_1 ul0r_1 ul0g_1 out3o out3c h0z out3n ui4 h0e) (funext fun _ => funext fun _ => funext fun _ => g13_l0_ok M27 fuel call K ul0n_1 ul0r_1 ul0g_1 out3o out3c h0z out3n0 ui40 h0e0 n' _ _ _))
theorem g13_L0 (M27 : List AV → Option AV) (fuel : Nat) (call : CallI AV) : LOk Pr (G13 M27) (L13 M27 fuel) (fnNt Pr 13) fuel call (lp Pr 13 0) := by
  refine .of T13_0 (F13_0 M27 fuel) (fun L h => ?_) (fun ps st K r he hr => ?_)
  · have e : (L13 M27 fuel).get (writes (lp Pr 13 0).1) = some (lam T13_0 (F13_0 M27 fuel)) := by kernel_rfl
    exact (Option.some.inj (e.symm.trans h)).symm
  · unfold F13_0 at hr
    split at hr
    · obtain rfl := (Option.some.inj he).symm
      exact (g13_l0_ok M27 fuel call K _ _ _ _ _ _ _ _ _ fuel _ _ _).trans hr
    · cases hr
noncomputable def g13 (M27 : List AV → Option AV) (fuel : Nat) (ul0n : Nat) (ul0r : Nat) (ul0g : Nat → Nat → AV) : Option AV :=
  bif decide ((0 : Int) ≤ IntKind.i64.wrap ((↑ul0n : Int) + (12 : Int))) then bif ((72 : Nat) * (IntKind.i64.wrap ((↑ul0n : Int) + (12 : Int))).toNat).ble (281474976710656 : Nat) then bif ((IntKind.i64.wrap ((↑ul0n : Int) + (12 : Int))).toNat + (1 : Nat)).ble (4611686018427387904 : Nat) then bif decide ((0 : Nat) + ul0n ≤ (IntKind.i64.wrap ((↑ul0n : Int) + (12 : Int))).toNat) then g13_l0 M27 fuel
            (fun (xul0n : Nat) (_ : Nat) (_ : Nat → Nat → AV) (xout3o : Nat) (_ : Nat) (xout3c : Nat) (xh0z : List AV) (xh0e : List (List AV)) => bif decide ((0 : Nat) < xout3c) then bif decide ((↑xul0n : Int) ≤ (↑xout3c : Int)) then some (AV.ro (9 : Nat) ((↑xul0n : Int).toNat - (0 : Nat)) (xout3c - (0 : Nat)) fun (i j : Nat) => (xh0e.getD (xout3o + (0 : Nat) + i) xh0z).getD j AV.dead)
                else none
              else none)
            (ul0n)
            (ul0r)
            (ul0g)
            ((0 : Nat))
            ((IntKind.i64.wrap ((↑ul0n : Int) + (12 : Int))).toNat)
            ([AV.str { data := #[] }, AV.int IntKind.u8 (0 : Int), AV.int IntKind.i64 (0 : Int), AV.int IntKind.i64 (0 : Int), AV.bool false, AV.bool false, AV.flt FloatKind.f64 (some (0 : Nat)), AV.flt FloatKind.f64 (some (0 : Nat)), AV.flt FloatKind.f64 (some (0 : Nat))]) fuel ((0 : Nat) + ul0n) ((0 : Int)) ([] ++ rows (9 : Nat) ul0n ul0g ++ List.drop ((0 : Nat) + ul0n) (List.replicate (IntKind.i64.wrap ((↑ul0n : Int) + (12 : Int))).toNat [AV.str { data := #[] }, AV.int IntKind.u8 (0 : Int), AV.int IntKind.i64 (0 : Int), AV.int IntKind.i64 (0 : Int), AV.bool false, AV.bool false, AV.flt FloatKind.f64 (some (0 : Nat)), AV.flt FloatKind.f64 (some (0 : Nat)), AV.flt FloatKind.f64 (some (0 : Nat))]))
        else none
      else none
    else none
  else none
theorem g13_run (M27 : List AV → Option AV) (fuel : Nat) (ul0n : Nat) (ul0r : Nat) (ul0g : Nat → Nat → AV) : run Pr (G13 M27) [((0, 13), L13 M27 fuel)] fuel 1 13 [AV.ro (9 : Nat) ul0n ul0r ul0g] = g13 M27 fuel ul0n ul0r ul0g := by kernel_rfl
noncomputable def m13 (M27 : List AV → Option AV) (fuel : Nat) (xs : List AV) : Option AV := match xs with
  | [AV.ro (9 : Nat) ul0n ul0r ul0g] => g13 M27 fuel ul0n ul0r ul0g
  | _ => none
abbrev R13 : List RS := [RS.one (LK.l (nat_lit 9))]
theorem g13_sm (M27 : List AV → Option AV) (fuel : Nat) (hΓ : ∀ f s, (G13 M27).get f = some s → SmOk Pr f s) (hP : NamesOk Pr) : SmOk Pr 13 (smM R13 (m13 M27 fuel)) := by
  refine smM_ok (fuel := fuel) hΓ hP (LamOk.of 13 (L13 M27 fuel) 1 (by kernel_rfl) (fun i hi => ?_)) 1 13 R13 _ (fun xs v h => ?_)
  · match i, hi with
    | 0, _ => exact g13_L0 M27 fuel _
    | i + 1, hi => exact absurd hi (by omega)
  · unfold m13 at h
    split at h
    · exact (g13_run M27 fuel _ _ _).trans h
    · cases h

/-! ### function 4 -/
noncomputable def L4 (M12 : List AV → Option AV) (M13 : List AV → Option AV) (fuel : Nat) : Lam AV := []
noncomputable def G4 (M12 : List AV → Option AV) (M13 : List AV → Option AV) : Gam := [(12, smM [RS.one (LK.l (nat_lit 4))] M12), (13, smM [RS.one (LK.l (nat_lit 9))] M13)]
noncomputable def g4 (M12 : List AV → Option AV) (M13 : List AV → Option AV) (fuel : Nat) (ux0_0n : Nat) (ux0_0r : Nat) (ux0_0g : Nat → Nat → AV) (ux0_1n : Nat) (ux0_1r : Nat) (ux0_1g : Nat → Nat → AV) : Option AV :=
  bif okM [RS.one (LK.l (nat_lit 4))] (M12 [AV.ro (4 : Nat) ux0_0n ux0_0r ux0_0g]) then bif okM [RS.one (LK.l (nat_lit 9))] (M13 [AV.ro (9 : Nat) ux0_1n ux0_1r ux0_1g]) then some (AV.agg [AV.ro (4 : Nat) (toN (getV (M12 [AV.ro (4 : Nat) ux0_0n ux0_0r ux0_0g]))) (toR (getV (M12 [AV.ro (4 : Nat) ux0_0n ux0_0r ux0_0g]))) (toG (getV (M12 [AV.ro (4 : Nat) ux0_0n ux0_0r ux0_0g]))), AV.ro (9 : Nat) (toN (getV (M13 [AV.ro (9 : Nat) ux0_1n ux0_1r ux0_1g]))) (toR (getV (M13 [AV.ro (9 : Nat) ux0_1n ux0_1r ux0_1g]))) (toG (getV (M13 [AV.ro (9 : Nat) ux0_1n ux0_1r ux0_1g])))])
    else none
  else none
theorem g4_run (M12 : List AV → Option AV) (M13 : List AV → Option AV) (fuel : Nat) (ux0_0n : Nat) (ux0_0r : Nat) (ux0_0g : Nat → Nat → AV) (ux0_1n : Nat) (ux0_1r : Nat) (ux0_1g : Nat → Nat → AV) : run Pr (G4 M12 M13) [((0, 4), L4 M12 M13 fuel)] fuel 1 4 [AV.agg [AV.ro (4 : Nat) ux0_0n ux0_0r ux0_0g, AV.ro (9 : Nat) ux0_1n ux0_1r ux0_1g]] = g4 M12 M13 fuel ux0_0n ux0_0r ux0_0g ux0_1n ux0_1r ux0_1g := by kernel_rfl
noncomputable def m4 (M12 : List AV → Option AV) (M13 : List AV → Option AV) (fuel : Nat) (xs : List AV) : Option AV := match xs with
  | [AV.agg [AV.ro (4 : Nat) ux0_0n ux0_0r ux0_0g, AV.ro (9 : Nat) ux0_1n ux0_1r ux0_1g]] => g4 M12 M13 fuel ux0_0n ux0_0r ux0_0g ux0_1n ux0_1r ux0_1g
  | _ => none
abbrev R4 : List RS := [RS.agg [LK.l (nat_lit 4), LK.l (nat_lit 9)]]
theorem g4_sm (M12 : List AV → Option AV) (M13 : List AV → Option AV) (fuel : Nat) (hΓ : ∀ f s, (G4 M12 M13).get f = some s → SmOk Pr f s) (hP : NamesOk Pr) : SmOk Pr 4 (smM R4 (m4 M12 M13 fuel)) := by
  refine smM_ok (fuel := fuel) hΓ hP (LamOk.of 4 (L4 M12 M13 fuel) 0 (by kernel_rfl) (fun i hi => ?_)) 1 4 R4 _ (fun xs v h => ?_)
  · match i, hi with
    | i + 0, hi => exact absurd hi (by omega)
  · unfold m4 at h
    split at h
    · exact (g4_run M12 M13 fuel _ _ _ _ _ _).trans h
    · cases h

/-! ### function 28 -/
noncomputable def S28_0 (h0s : ByteArray) (h0p : Nat) : St := { env := [((13 : Nat), AV.ptr (0 : Nat) (0 : Nat))], h := [Blk.it h0s h0p], kd := [] }
noncomputable def X28_0_0 (xu2_1 : Bool) (xh0s_2 : ByteArray) (xh0p_2 : Nat) : St := { env := [((2 : Nat), AV.bool xu2_1)], h := [Blk.it xh0s_2 xh0p_2], kd := [] }
noncomputable def X28_0_1 (xh0s_3 : ByteArray) (xh0p_3 : Nat) : St := { env := [], h := [Blk.it xh0s_3 xh0p_3], kd := [] }
noncomputable def g28_l0_step (fuel : Nat) (kn : Nat → Option AV) (kx0 : Bool → ByteArray → Nat → Option AV) (kx1 : ByteArray → Nat → Option AV) (h0s : ByteArray) (h0p : Nat) : Option AV :=
  bif h0p.blt h0s.size then bif bif decide ((↑(Utf8.decode h0s h0p).fst : Int) ≥ (97 : Int)) then decide ((↑(Utf8.decode h0s h0p).fst : Int) ≤ (122 : Int)) else false then kn (h0p + (Utf8.decode h0s h0p).snd)
    else bif bif bif decide ((↑(Utf8.decode h0s h0p).fst : Int) ≥ (48 : Int)) then decide ((↑(Utf8.decode h0s h0p).fst : Int) ≤ (57 : Int)) else false then decide ((↑h0p : Int) > (0 : Int)) else false then kn (h0p + (Utf8.decode h0s h0p).snd)
    else kx0 (false) (h0s) (h0p + (Utf8.decode h0s h0p).snd)
  else kx1 (h0s) (h0p)
noncomputable def g28_l0 (fuel : Nat) (kx0 : Bool → ByteArray → Nat → Option AV) (kx1 : ByteArray → Nat → Option AV) (h0s : ByteArray) : Nat → Nat → Option AV
  | 0, _ => none
  | n' + 1, h0p => g28_l0_step fuel (g28_l0 fuel kx0 kx1 h0s n') kx0 kx1 h0s h0p
noncomputable def T28_0 : TS' := ⟨[(13, TA.ptr 0 0)], [TB.it], []⟩
noncomputable def F28_0 (fuel : Nat) (ps : List Pay) (K : Ex → St → Option AV) : Option AV := match ps with
  | .s h0s :: .n h0p :: [] => g28_l0 fuel (fun xu2_1 xh0s_2 xh0p_2 => K (Ex.ret) (X28_0_0 xu2_1 xh0s_2 xh0p_2)) (fun xh0s_3 xh0p_3 => K (Ex.exit (0 : Nat)) (X28_0_1 xh0s_3 xh0p_3)) h0s fuel h0p
  | _ => none
noncomputable def L28 (fuel : Nat) : Lam AV := [(68719460380, lam T28_0 (F28_0 fuel))]
noncomputable def G28 : Gam := []
theorem g28_l0_eq (fuel : Nat) (call : CallI AV) (kn : St → Option AV) (K : Ex → St → Option AV) (h0s : ByteArray) (h0p0 : Nat) (h0p : Nat) :
    exec Pr (G28) (L28 fuel) (fnNt Pr 28) fuel call (lp Pr 28 0).1 (lp Pr 28 0).2 (live (lp Pr 28 0).1 (lp Pr 28 0).2 0) (S28_0 h0s h0p) (fun e s => match e with | .normal => kn (headN (live (lp Pr 28 0).1 (lp Pr 28 0).2 0) (writes (lp Pr 28 0).1) (S28_0 h0s h0p0) s) | e => K e s) =
    g28_l0_step fuel (fun h0p => kn (S28_0 h0s h0p)) (fun xu2 xh0s xh0p => K (Ex.ret) (X28_0_0 xu2 xh0s xh0p)) (fun xh0s xh0p => K (Ex.exit (0 : Nat)) (X28_0_1 xh0s xh0p)) h0s h0p := by kernel_rfl
theorem g28_l0_ok (fuel : Nat) (call : CallI AV) (K : Ex → St → Option AV) (h0s : ByteArray) (h0p0 : Nat) : ∀ (n' : Nat) (h0p : Nat),
    loopK (exec Pr (G28) (L28 fuel) (fnNt Pr 28) fuel call (lp Pr 28 0).1 (lp Pr 28 0).2 (live (lp Pr 28 0).1 (lp Pr 28 0).2 0)) (headN (live (lp Pr 28 0).1 (lp Pr 28 0).2 0) (writes (lp Pr 28 0).1) (S28_0 h0s h0p0)) n' (S28_0 h0s h0p) K = g28_l0 fuel (fun xu2 xh0s xh0p => K (Ex.ret) (X28_0_0 xu2 xh0s xh0p)) (fun xh0s xh0p => K (Ex.exit (0 : Nat)) (X28_0_1 xh0s xh0p)) h0s n' h0p
  | 0, _ => rfl
  | n' + 1, h0p => (g28_l0_eq fuel call (fun s => loopK (exec Pr (G28) (L28 fuel) (fnNt Pr 28) fuel call (lp Pr 28 0).1 (lp Pr 28 0).2 (live (lp Pr 28 0).1 (lp Pr 28 0).2 0)) (headN (live (lp Pr 28 0).1 (lp Pr 28 0).2 0) (writes (lp Pr 28 0).1) (S28_0 h0s h0p0)) n' s K) K h0s h0p0 h0p).trans
    (congrArg (fun kn => g28_l0_step fuel kn (fun xu2 xh0s xh0p => K (Ex.ret) (X28_0_0 xu2 xh0s xh0p)) (fun xh0s xh0p => K (Ex.exit (0 : Nat)) (X28_0_1 xh0s xh0p)) h0s h0p) (funext fun _ => g28_l0_ok fuel call K h0s h0p0 n' _))
theorem g28_L0 (fuel : Nat) (call : CallI AV) : LOk Pr (G28) (L28 fuel) (fnNt Pr 28) fuel call (lp Pr 28 0) := by
  refine .of T28_0 (F28_0 fuel) (fun L h => ?_) (fun ps st K r he hr => ?_)
  · have e : (L28 fuel).get (writes (lp Pr 28 0).1) = some (lam T28_0 (F28_0 fuel)) := by kernel_rfl
    exact (Option.some.inj (e.symm.trans h)).symm
  · unfold F28_0 at hr
    split at hr
    · obtain rfl := (Option.some.inj he).symm
      exact (g28_l0_ok fuel call K _ _ fuel _).trans hr
    · cases hr
noncomputable def g28 (fuel : Nat) (us0 : ByteArray) : Option AV :=
  bif bif strEq us0 { data := #[] } then true else decide ((↑us0.size : Int) > (8 : Int)) then some (AV.bool false)
  else g28_l0 fuel
    (fun (xu2 : Bool) (_ : ByteArray) (_ : Nat) => some (AV.bool xu2))
    (fun (_ : ByteArray) (_ : Nat) => some (AV.bool true))
    (us0) fuel ((0 : Nat))
theorem g28_run (fuel : Nat) (us0 : ByteArray) : run Pr (G28) [((0, 28), L28 fuel)] fuel 1 28 [AV.str us0] = g28 fuel us0 := by kernel_rfl
noncomputable def m28 (fuel : Nat) (xs : List AV) : Option AV := match xs with
  | [AV.str us0] => g28 fuel us0
  | _ => none
abbrev R28 : List RS := [RS.one LK.b]
theorem g28_sm (fuel : Nat) (hΓ : ∀ f s, (G28).get f = some s → SmOk Pr f s) (hP : NamesOk Pr) : SmOk Pr 28 (smM R28 (m28 fuel)) := by
  refine smM_ok (fuel := fuel) hΓ hP (LamOk.of 28 (L28 fuel) 1 (by kernel_rfl) (fun i hi => ?_)) 1 28 R28 _ (fun xs v h => ?_)
  · match i, hi with
    | 0, _ => exact g28_L0 fuel _
    | i + 1, hi => exact absurd hi (by omega)
  · unfold m28 at h
    split at h
    · exact (g28_run fuel _).trans h
    · cases h

/-! ### function 29 -/
noncomputable def S29_0 (u5n : Nat) (u5r : Nat) (u5g : Nat → Nat → AV) (u6 : Int) (u7 : Int) : St := { env := [((5 : Nat), AV.ro (1 : Nat) u5n u5r u5g), ((6 : Nat), AV.int IntKind.i64 u6), ((7 : Nat), AV.int IntKind.i64 u7)], h := [], kd := [] }
noncomputable def X29_0_0 (xu2_1 : Bool) : St := { env := [((2 : Nat), AV.bool xu2_1)], h := [], kd := [] }
noncomputable def X29_0_1 : St := { env := [], h := [], kd := [] }
noncomputable def g29_l0_step (fuel : Nat) (kn : Int → Option AV) (kx0 : Bool → Option AV) (kx1 : Option AV) (u5n : Nat) (u5r : Nat) (u5g : Nat → Nat → AV) (u6 : Int) (u7 : Int) : Option AV :=
  bif decide (u7 < u6) then bif decide ((0 : Int) ≤ u7) then bif decide (u7 < (↑u5n : Int)) then bif fitK (LK.i IntKind.i32) (u5g u7.toNat (0 : Nat)) then bif bif decide (toI (u5g u7.toNat (0 : Nat)) < (-1048576 : Int)) then true else decide (toI (u5g u7.toNat (0 : Nat)) > (1048576 : Int)) then kx0 (false)
          else kn (IntKind.i64.wrap (u7 + (1 : Int)))
        else none
      else none
    else none
  else kx1
noncomputable def g29_l0 (fuel : Nat) (kx0 : Bool → Option AV) (kx1 : Option AV) (u5n : Nat) (u5r : Nat) (u5g : Nat → Nat → AV) (u6 : Int) : Nat → Int → Option AV
  | 0, _ => none
  | n' + 1, u7 => g29_l0_step fuel (g29_l0 fuel kx0 kx1 u5n u5r u5g u6 n') kx0 kx1 u5n u5r u5g u6 u7
noncomputable def T29_0 : TS' := ⟨[(5, TA.ro 1), (6, TA.i IntKind.i64), (7, TA.i IntKind.i64)], [], []⟩
noncomputable def F29_0 (fuel : Nat) (ps : List Pay) (K : Ex → St → Option AV) : Option AV := match ps with
  | .n u5n :: .n u5r :: .g u5g :: .i u6 :: .i u7 :: [] => g29_l0 fuel (fun xu2_1 => K (Ex.ret) (X29_0_0 xu2_1)) (K (Ex.exit (0 : Nat)) X29_0_1) u5n u5r u5g u6 fuel u7
  | _ => none
noncomputable def L29 (fuel : Nat) : Lam AV := [(262036, lam T29_0 (F29_0 fuel))]
noncomputable def G29 : Gam := []
theorem g29_l0_eq (fuel : Nat) (call : CallI AV) (kn : St → Option AV) (K : Ex → St → Option AV) (u5n : Nat) (u5r : Nat) (u5g : Nat → Nat → AV) (u6 : Int) (u70 : Int) (u7 : Int) :
    exec Pr (G29) (L29 fuel) (fnNt Pr 29) fuel call (lp Pr 29 0).1 (lp Pr 29 0).2 (live (lp Pr 29 0).1 (lp Pr 29 0).2 0) (S29_0 u5n u5r u5g u6 u7) (fun e s => match e with | .normal => kn (headN (live (lp Pr 29 0).1 (lp Pr 29 0).2 0) (writes (lp Pr 29 0).1) (S29_0 u5n u5r u5g u6 u70) s) | e => K e s) =
    g29_l0_step fuel (fun u7 => kn (S29_0 u5n u5r u5g u6 u7)) (fun xu2 => K (Ex.ret) (X29_0_0 xu2)) (K (Ex.exit (0 : Nat)) X29_0_1) u5n u5r u5g u6 u7 := by kernel_rfl
theorem g29_l0_ok (fuel : Nat) (call : CallI AV) (K : Ex → St → Option AV) (u5n : Nat) (u5r : Nat) (u5g : Nat → Nat → AV) (u6 : Int) (u70 : Int) : ∀ (n' : Nat) (u7 : Int),
    loopK (exec Pr (G29) (L29 fuel) (fnNt Pr 29) fuel call (lp Pr 29 0).1 (lp Pr 29 0).2 (live (lp Pr 29 0).1 (lp Pr 29 0).2 0)) (headN (live (lp Pr 29 0).1 (lp Pr 29 0).2 0) (writes (lp Pr 29 0).1) (S29_0 u5n u5r u5g u6 u70)) n' (S29_0 u5n u5r u5g u6 u7) K = g29_l0 fuel (fun xu2 => K (Ex.ret) (X29_0_0 xu2)) (K (Ex.exit (0 : Nat)) X29_0_1) u5n u5r u5g u6 n' u7
  | 0, _ => rfl
  | n' + 1, u7 => (g29_l0_eq fuel call (fun s => loopK (exec Pr (G29) (L29 fuel) (fnNt Pr 29) fuel call (lp Pr 29 0).1 (lp Pr 29 0).2 (live (lp Pr 29 0).1 (lp Pr 29 0).2 0)) (headN (live (lp Pr 29 0).1 (lp Pr 29 0).2 0) (writes (lp Pr 29 0).1) (S29_0 u5n u5r u5g u6 u70)) n' s K) K u5n u5r u5g u6 u70 u7).trans
    (congrArg (fun kn => g29_l0_step fuel kn (fun xu2 => K (Ex.ret) (X29_0_0 xu2)) (K (Ex.exit (0 : Nat)) X29_0_1) u5n u5r u5g u6 u7) (funext fun _ => g29_l0_ok fuel call K u5n u5r u5g u6 u70 n' _))
theorem g29_L0 (fuel : Nat) (call : CallI AV) : LOk Pr (G29) (L29 fuel) (fnNt Pr 29) fuel call (lp Pr 29 0) := by
  refine .of T29_0 (F29_0 fuel) (fun L h => ?_) (fun ps st K r he hr => ?_)
  · have e : (L29 fuel).get (writes (lp Pr 29 0).1) = some (lam T29_0 (F29_0 fuel)) := by kernel_rfl
    exact (Option.some.inj (e.symm.trans h)).symm
  · unfold F29_0 at hr
    split at hr
    · obtain rfl := (Option.some.inj he).symm
      exact (g29_l0_ok fuel call K _ _ _ _ _ fuel _).trans hr
    · cases hr
noncomputable def g29 (fuel : Nat) (ul0n : Nat) (ul0r : Nat) (ul0g : Nat → Nat → AV) : Option AV :=
  g29_l0 fuel
    (fun (xu2 : Bool) => some (AV.bool xu2))
    (some (AV.bool true))
    (ul0n)
    (ul0r)
    (ul0g)
    ((↑ul0n : Int)) fuel ((0 : Int))
theorem g29_run (fuel : Nat) (ul0n : Nat) (ul0r : Nat) (ul0g : Nat → Nat → AV) : run Pr (G29) [((0, 29), L29 fuel)] fuel 1 29 [AV.ro (1 : Nat) ul0n ul0r ul0g] = g29 fuel ul0n ul0r ul0g := by kernel_rfl
noncomputable def m29 (fuel : Nat) (xs : List AV) : Option AV := match xs with
  | [AV.ro (1 : Nat) ul0n ul0r ul0g] => g29 fuel ul0n ul0r ul0g
  | _ => none
abbrev R29 : List RS := [RS.one LK.b]
theorem g29_sm (fuel : Nat) (hΓ : ∀ f s, (G29).get f = some s → SmOk Pr f s) (hP : NamesOk Pr) : SmOk Pr 29 (smM R29 (m29 fuel)) := by
  refine smM_ok (fuel := fuel) hΓ hP (LamOk.of 29 (L29 fuel) 1 (by kernel_rfl) (fun i hi => ?_)) 1 29 R29 _ (fun xs v h => ?_)
  · match i, hi with
    | 0, _ => exact g29_L0 fuel _
    | i + 1, hi => exact absurd hi (by omega)
  · unfold m29 at h
    split at h
    · exact (g29_run fuel _ _ _).trans h
    · cases h

/-! ### function 14 -/
noncomputable def S14_0 (u17n : Nat) (u17r : Nat) (u17g : Nat → Nat → AV) (u18 : Int) (u19 : Int) (h0m : List (AV × AV)) (h1m : List (AV × AV)) : St := { env := [((4 : Nat), AV.mp (0 : Nat)), ((5 : Nat), AV.mp (1 : Nat)), ((17 : Nat), AV.ro (4 : Nat) u17n u17r u17g), ((18 : Nat), AV.int IntKind.i64 u18), ((19 : Nat), AV.int IntKind.i64 u19)], h := [Blk.mp h0m, Blk.mp h1m], kd := [] }
noncomputable def X14_0_0 (xu2_1 : Int) (xu3_1 : Int) (xh0m_2 : List (AV × AV)) (xh1m_2 : List (AV × AV)) (xh2_0_1 : ByteArray) (xh2_1_1 : Int) (xh2_2_1 : Int) (xh2_3_1 : Int) : St := { env := [((2 : Nat), AV.int IntKind.i64 xu2_1), ((3 : Nat), AV.int IntKind.i64 xu3_1)], h := [Blk.mp xh0m_2, Blk.mp xh1m_2, Blk.box [AV.str xh2_0_1, AV.int IntKind.i32 xh2_1_1, AV.int IntKind.i32 xh2_2_1, AV.int IntKind.u8 xh2_3_1]], kd := [] }
noncomputable def X14_0_1 (xh0m_3 : List (AV × AV)) (xh1m_3 : List (AV × AV)) : St := { env := [], h := [Blk.mp xh0m_3, Blk.mp xh1m_3], kd := [] }
noncomputable def g14_l0_step (M28 : List AV → Option AV) (M29 : List AV → Option AV) (fuel : Nat) (kn : Int → List (AV × AV) → List (AV × AV) → Option AV) (kx0 : Int → Int → List (AV × AV) → List (AV × AV) → ByteArray → Int → Int → Int → Option AV) (kx1 : List (AV × AV) → List (AV × AV) → Option AV) (u17n : Nat) (u17r : Nat) (u17g : Nat → Nat → AV) (u18 : Int) (u19 : Int) (h0m : List (AV × AV)) (h1m : List (AV × AV)) : Option AV :=
  bif decide (u19 < u18) then bif decide ((0 : Int) ≤ u19) then bif decide (u19 < (↑u17n : Int)) then bif fitKs [LK.s, LK.i IntKind.i32, LK.i IntKind.i32, LK.i IntKind.u8] [u17g u19.toNat (0 : Nat), u17g u19.toNat (1 : Nat), u17g u19.toNat (2 : Nat), u17g u19.toNat (3 : Nat)] then bif mapFit Tryz.prog (9 : Nat) (AV.str (toS (u17g u19.toNat (0 : Nat)))) h0m then bif fit1 Tryz.prog (3 : Nat) ((findM Tryz.prog (9 : Nat) (AV.str (toS (u17g u19.toNat (0 : Nat)))) h0m).getD (AV.int IntKind.i64 (0 : Int))) then bif mapFit Tryz.prog (68 : Nat) (AV.agg [AV.int IntKind.i32 (toI (u17g u19.toNat (1 : Nat))), AV.int IntKind.i32 (toI (u17g u19.toNat (2 : Nat)))]) h1m then bif fit1 Tryz.prog (3 : Nat) ((findM Tryz.prog (68 : Nat) (AV.agg [AV.int IntKind.i32 (toI (u17g u19.toNat (1 : Nat))), AV.int IntKind.i32 (toI (u17g u19.toNat (2 : Nat)))]) h1m).getD (AV.int IntKind.i64 (0 : Int))) then bif bif !bif (findM Tryz.prog (9 : Nat) (AV.str (toS (u17g u19.toNat (0 : Nat)))) h0m).isSome then true else (findM Tryz.prog (68 : Nat) (AV.agg [AV.int IntKind.i32 (toI (u17g u19.toNat (1 : Nat))), AV.int IntKind.i32 (toI (u17g u19.toNat (2 : Nat)))]) h1m).isSome then true else true then bif bif !bif (findM Tryz.prog (9 : Nat) (AV.str (toS (u17g u19.toNat (0 : Nat)))) h0m).isSome then true else (findM Tryz.prog (68 : Nat) (AV.agg [AV.int IntKind.i32 (toI (u17g u19.toNat (1 : Nat))), AV.int IntKind.i32 (toI (u17g u19.toNat (2 : Nat)))]) h1m).isSome then okM [RS.one LK.b] (M28 [AV.str (toS (u17g u19.toNat (0 : Nat)))]) else true then bif bif !bif bif (findM Tryz.prog (9 : Nat) (AV.str (toS (u17g u19.toNat (0 : Nat)))) h0m).isSome then true else (findM Tryz.prog (68 : Nat) (AV.agg [AV.int IntKind.i32 (toI (u17g u19.toNat (1 : Nat))), AV.int IntKind.i32 (toI (u17g u19.toNat (2 : Nat)))]) h1m).isSome then true else !toB (getV (M28 [AV.str (toS (u17g u19.toNat (0 : Nat)))])) then true else true then bif bif !bif bif (findM Tryz.prog (9 : Nat) (AV.str (toS (u17g u19.toNat (0 : Nat)))) h0m).isSome then true else (findM Tryz.prog (68 : Nat) (AV.agg [AV.int IntKind.i32 (toI (u17g u19.toNat (1 : Nat))), AV.int IntKind.i32 (toI (u17g u19.toNat (2 : Nat)))]) h1m).isSome then true else !toB (getV (M28 [AV.str (toS (u17g u19.toNat (0 : Nat)))])) then true else true then bif bif !bif bif (findM Tryz.prog (9 : Nat) (AV.str (toS (u17g u19.toNat (0 : Nat)))) h0m).isSome then true else (findM Tryz.prog (68 : Nat) (AV.agg [AV.int IntKind.i32 (toI (u17g u19.toNat (1 : Nat))), AV.int IntKind.i32 (toI (u17g u19.toNat (2 : Nat)))]) h1m).isSome then true else !toB (getV (M28 [AV.str (toS (u17g u19.toNat (0 : Nat)))])) then okM [RS.one LK.b] (M29 [AV.ro (1 : Nat) (2 : Nat) (2 : Nat) fun (i j : Nat) => ([[AV.int IntKind.i32 (toI (u17g u19.toNat (1 : Nat)))], [AV.int IntKind.i32 (toI (u17g u19.toNat (2 : Nat)))]].getD i []).getD j AV.dead]) else true then bif bif !bif bif bif (findM Tryz.prog (9 : Nat) (AV.str (toS (u17g u19.toNat (0 : Nat)))) h0m).isSome then true else (findM Tryz.prog (68 : Nat) (AV.agg [AV.int IntKind.i32 (toI (u17g u19.toNat (1 : Nat))), AV.int IntKind.i32 (toI (u17g u19.toNat (2 : Nat)))]) h1m).isSome then true else !toB (getV (M28 [AV.str (toS (u17g u19.toNat (0 : Nat)))])) then true else !toB (getV (M29 [AV.ro (1 : Nat) (2 : Nat) (2 : Nat) fun (i j : Nat) => ([[AV.int IntKind.i32 (toI (u17g u19.toNat (1 : Nat)))], [AV.int IntKind.i32 (toI (u17g u19.toNat (2 : Nat)))]].getD i []).getD j AV.dead])) then true else true then bif bif bif bif bif (findM Tryz.prog (9 : Nat) (AV.str (toS (u17g u19.toNat (0 : Nat)))) h0m).isSome then true else (findM Tryz.prog (68 : Nat) (AV.agg [AV.int IntKind.i32 (toI (u17g u19.toNat (1 : Nat))), AV.int IntKind.i32 (toI (u17g u19.toNat (2 : Nat)))]) h1m).isSome then true else !toB (getV (M28 [AV.str (toS (u17g u19.toNat (0 : Nat)))])) then true else !toB (getV (M29 [AV.ro (1 : Nat) (2 : Nat) (2 : Nat) fun (i j : Nat) => ([[AV.int IntKind.i32 (toI (u17g u19.toNat (1 : Nat)))], [AV.int IntKind.i32 (toI (u17g u19.toNat (2 : Nat)))]].getD i []).getD j AV.dead])) then true else decide (toI (u17g u19.toNat (3 : Nat)) > (7 : Int)) then kx0 ((280 : Int)) (u19) (h0m) (h1m) (toS (u17g u19.toNat (0 : Nat))) (toI (u17g u19.toNat (1 : Nat))) (toI (u17g u19.toNat (2 : Nat))) (toI (u17g u19.toNat (3 : Nat)))
                              else bif mapFit Tryz.prog (9 : Nat) (AV.str (toS (u17g u19.toNat (0 : Nat)))) h0m then bif !(findM Tryz.prog (9 : Nat) (AV.str (toS (u17g u19.toNat (0 : Nat)))) h0m).isSome then bif mapFit Tryz.prog (68 : Nat) (AV.agg [AV.int IntKind.i32 (toI (u17g u19.toNat (1 : Nat))), AV.int IntKind.i32 (toI (u17g u19.toNat (2 : Nat)))]) h1m then bif !(findM Tryz.prog (68 : Nat) (AV.agg [AV.int IntKind.i32 (toI (u17g u19.toNat (1 : Nat))), AV.int IntKind.i32 (toI (u17g u19.toNat (2 : Nat)))]) h1m).isSome then kn (IntKind.i64.wrap (u19 + (1 : Int))) (h0m ++ [(AV.str (toS (u17g u19.toNat (0 : Nat))), AV.int IntKind.i64 u19)]) (h1m ++ [(AV.agg [AV.int IntKind.i32 (toI (u17g u19.toNat (1 : Nat))), AV.int IntKind.i32 (toI (u17g u19.toNat (2 : Nat)))], AV.int IntKind.i64 u19)])
                                    else none
                                  else none
                                else none
                              else none
                            else none
                          else none
                        else none
                      else none
                    else none
                  else none
                else none
              else none
            else none
          else none
        else none
      else none
    else none
  else kx1 (h0m) (h1m)
noncomputable def g14_l0 (M28 : List AV → Option AV) (M29 : List AV → Option AV) (fuel : Nat) (kx0 : Int → Int → List (AV × AV) → List (AV × AV) → ByteArray → Int → Int → Int → Option AV) (kx1 : List (AV × AV) → List (AV × AV) → Option AV) (u17n : Nat) (u17r : Nat) (u17g : Nat → Nat → AV) (u18 : Int) : Nat → Int → List (AV × AV) → List (AV × AV) → Option AV
  | 0, _, _, _ => none
  | n' + 1, u19, h0m, h1m => g14_l0_step M28 M29 fuel (g14_l0 M28 M29 fuel kx0 kx1 u17n u17r u17g u18 n') kx0 kx1 u17n u17r u17g u18 u19 h0m h1m
noncomputable def T14_0 : TS' := ⟨[(4, TA.mp 0), (5, TA.mp 1), (17, TA.ro 4), (18, TA.i IntKind.i64), (19, TA.i IntKind.i64)], [TB.mp, TB.mp], []⟩
noncomputable def F14_0 (M28 : List AV → Option AV) (M29 : List AV → Option AV) (fuel : Nat) (ps : List Pay) (K : Ex → St → Option AV) : Option AV := match ps with
  | .n u17n :: .n u17r :: .g u17g :: .i u18 :: .i u19 :: .m h0m :: .m h1m :: [] => g14_l0 M28 M29 fuel (fun xu2_1 xu3_1 xh0m_2 xh1m_2 xh2_0_1 xh2_1_1 xh2_2_1 xh2_3_1 => K (Ex.ret) (X14_0_0 xu2_1 xu3_1 xh0m_2 xh1m_2 xh2_0_1 xh2_1_1 xh2_2_1 xh2_3_1)) (fun xh0m_3 xh1m_3 => K (Ex.exit (0 : Nat)) (X14_0_1 xh0m_3 xh1m_3)) u17n u17r u17g u18 fuel u19 h0m h1m
  | _ => none
noncomputable def L14 (M28 : List AV → Option AV) (M29 : List AV → Option AV) (fuel : Nat) : Lam AV := [(302231454903657293156300, lam T14_0 (F14_0 M28 M29 fuel))]
noncomputable def G14 (M28 : List AV → Option AV) (M29 : List AV → Option AV) : Gam := [(28, smM [RS.one LK.b] M28), (29, smM [RS.one LK.b] M29)]
theorem g14_l0_eq (M28 : List AV → Option AV) (M29 : List AV → Option AV) (fuel : Nat) (call : CallI AV) (kn : St → Option AV) (K : Ex → St → Option AV) (u17n : Nat) (u17r : Nat) (u17g : Nat → Nat → AV) (u18 : Int) (u190 : Int) (h0m0 : List (AV × AV)) (h1m0 : List (AV × AV)) (u19 : Int) (h0m : List (AV × AV)) (h1m : List (AV × AV)) :
    exec Pr (G14 M28 M29) (L14 M28 M29 fuel) (fnNt Pr 14) fuel call (lp Pr 14 0).1 (lp Pr 14 0).2 (live (lp Pr 14 0).1 (lp Pr 14 0).2 0) (S14_0 u17n u17r u17g u18 u19 h0m h1m) (fun e s => match e with | .normal => kn (headN (live (lp Pr 14 0).1 (lp Pr 14 0).2 0) (writes (lp Pr 14 0).1) (S14_0 u17n u17r u17g u18 u190 h0m0 h1m0) s) | e => K e s) =
    g14_l0_step M28 M29 fuel (fun u19 h0m h1m => kn (S14_0 u17n u17r u17g u18 u19 h0m h1m)) (fun xu2 xu3 xh0m xh1m xh2_0 xh2_1 xh2_2 xh2_3 => K (Ex.ret) (X14_0_0 xu2 xu3 xh0m xh1m xh2_0 xh2_1 xh2_2 xh2_3)) (fun xh0m xh1m => K (Ex.exit (0 : Nat)) (X14_0_1 xh0m xh1m)) u17n u17r u17g u18 u19 h0m h1m := by kernel_rfl
theorem g14_l0_ok (M28 : List AV → Option AV) (M29 : List AV → Option AV) (fuel : Nat) (call : CallI AV) (K : Ex → St → Option AV) (u17n : Nat) (u17r : Nat) (u17g : Nat → Nat → AV) (u18 : Int) (u190 : Int) (h0m0 : List (AV × AV)) (h1m0 : List (AV × AV)) : ∀ (n' : Nat) (u19 : Int) (h0m : List (AV × AV)) (h1m : List (AV × AV)),
    loopK (exec Pr (G14 M28 M29) (L14 M28 M29 fuel) (fnNt Pr 14) fuel call (lp Pr 14 0).1 (lp Pr 14 0).2 (live (lp Pr 14 0).1 (lp Pr 14 0).2 0)) (headN (live (lp Pr 14 0).1 (lp Pr 14 0).2 0) (writes (lp Pr 14 0).1) (S14_0 u17n u17r u17g u18 u190 h0m0 h1m0)) n' (S14_0 u17n u17r u17g u18 u19 h0m h1m) K = g14_l0 M28 M29 fuel (fun xu2 xu3 xh0m xh1m xh2_0 xh2_1 xh2_2 xh2_3 => K (Ex.ret) (X14_0_0 xu2 xu3 xh0m xh1m xh2_0 xh2_1 xh2_2 xh2_3)) (fun xh0m xh1m => K (Ex.exit (0 : Nat)) (X14_0_1 xh0m xh1m)) u17n u17r u17g u18 n' u19 h0m h1m
  | 0, _, _, _ => rfl
  | n' + 1, u19, h0m, h1m => (g14_l0_eq M28 M29 fuel call (fun s => loopK (exec Pr (G14 M28 M29) (L14 M28 M29 fuel) (fnNt Pr 14) fuel call (lp Pr 14 0).1 (lp Pr 14 0).2 (live (lp Pr 14 0).1 (lp Pr 14 0).2 0)) (headN (live (lp Pr 14 0).1 (lp Pr 14 0).2 0) (writes (lp Pr 14 0).1) (S14_0 u17n u17r u17g u18 u190 h0m0 h1m0)) n' s K) K u17n u17r u17g u18 u190 h0m0 h1m0 u19 h0m h1m).trans
    (congrArg (fun kn => g14_l0_step M28 M29 fuel kn (fun xu2 xu3 xh0m xh1m xh2_0 xh2_1 xh2_2 xh2_3 => K (Ex.ret) (X14_0_0 xu2 xu3 xh0m xh1m xh2_0 xh2_1 xh2_2 xh2_3)) (fun xh0m xh1m => K (Ex.exit (0 : Nat)) (X14_0_1 xh0m xh1m)) u17n u17r u17g u18 u19 h0m h1m) (funext fun _ => funext fun _ => funext fun _ => g14_l0_ok M28 M29 fuel call K u17n u17r u17g u18 u190 h0m0 h1m0 n' _ _ _))
theorem g14_L0 (M28 : List AV → Option AV) (M29 : List AV → Option AV) (fuel : Nat) (call : CallI AV) : LOk Pr (G14 M28 M29) (L14 M28 M29 fuel) (fnNt Pr 14) fuel call (lp Pr 14 0) := by
  refine .of T14_0 (F14_0 M28 M29 fuel) (fun L h => ?_) (fun ps st K r he hr => ?_)
  · have e : (L14 M28 M29 fuel).get (writes (lp Pr 14 0).1) = some (lam T14_0 (F14_0 M28 M29 fuel)) := by kernel_rfl
    exact (Option.some.inj (e.symm.trans h)).symm
  · unfold F14_0 at hr
    split at hr
    · obtain rfl := (Option.some.inj he).symm
      exact (g14_l0_ok M28 M29 fuel call K _ _ _ _ _ _ _ fuel _ _ _).trans hr
    · cases hr
noncomputable def g14 (M28 : List AV → Option AV) (M29 : List AV → Option AV) (fuel : Nat) (ul0n : Nat) (ul0r : Nat) (ul0g : Nat → Nat → AV) : Option AV :=
  bif decide ((↑ul0n : Int) > (16 : Int)) then some (AV.tup [AV.int IntKind.i64 (3 : Int), AV.int IntKind.i64 (0 : Int)])
  else g14_l0 M28 M29 fuel
    (fun (xu2 : Int) (xu3 : Int) (_ : List (AV × AV)) (_ : List (AV × AV)) (_ : ByteArray) (_ : Int) (_ : Int) (_ : Int) => some (AV.tup [AV.int IntKind.i64 xu2, AV.int IntKind.i64 xu3]))
    (fun (_ : List (AV × AV)) (_ : List (AV × AV)) => some (AV.tup [AV.int IntKind.i64 (0 : Int), AV.int IntKind.i64 (0 : Int)]))
    (ul0n)
    (ul0r)
    (ul0g)
    ((↑ul0n : Int)) fuel ((0 : Int)) ([]) ([])
theorem g14_run (M28 : List AV → Option AV) (M29 : List AV → Option AV) (fuel : Nat) (ul0n : Nat) (ul0r : Nat) (ul0g : Nat → Nat → AV) : run Pr (G14 M28 M29) [((0, 14), L14 M28 M29 fuel)] fuel 1 14 [AV.ro (4 : Nat) ul0n ul0r ul0g] = g14 M28 M29 fuel ul0n ul0r ul0g := by kernel_rfl
noncomputable def m14 (M28 : List AV → Option AV) (M29 : List AV → Option AV) (fuel : Nat) (xs : List AV) : Option AV := match xs with
  | [AV.ro (4 : Nat) ul0n ul0r ul0g] => g14 M28 M29 fuel ul0n ul0r ul0g
  | _ => none
abbrev R14 : List RS := [RS.one (LK.i IntKind.i64), RS.one (LK.i IntKind.i64)]
theorem g14_sm (M28 : List AV → Option AV) (M29 : List AV → Option AV) (fuel : Nat) (hΓ : ∀ f s, (G14 M28 M29).get f = some s → SmOk Pr f s) (hP : NamesOk Pr) : SmOk Pr 14 (smM R14 (m14 M28 M29 fuel)) := by
  refine smM_ok (fuel := fuel) hΓ hP (LamOk.of 14 (L14 M28 M29 fuel) 1 (by kernel_rfl) (fun i hi => ?_)) 1 14 R14 _ (fun xs v h => ?_)
  · match i, hi with
    | 0, _ => exact g14_L0 M28 M29 fuel _
    | i + 1, hi => exact absurd hi (by omega)
  · unfold m14 at h
    split at h
    · exact (g14_run M28 M29 fuel _ _ _).trans h
    · cases h

/-! ### function 30 -/
noncomputable def S30_0 (us0_1 : ByteArray) (u7 : Int) (u8 : Int) : St := { env := [((0 : Nat), AV.str us0_1), ((7 : Nat), AV.int IntKind.i64 u7), ((8 : Nat), AV.int IntKind.i64 u8)], h := [], kd := [] }
noncomputable def X30_0_0 (xu2_1 : Bool) : St := { env := [((2 : Nat), AV.bool xu2_1)], h := [], kd := [] }
noncomputable def X30_0_1 (xus0_1 : ByteArray) : St := { env := [((0 : Nat), AV.str xus0_1)], h := [], kd := [] }
noncomputable def g30_l0_step (fuel : Nat) (kn : Int → Option AV) (kx0 : Bool → Option AV) (kx1 : ByteArray → Option AV) (us0_1 : ByteArray) (u7 : Int) (u8 : Int) : Option AV :=
  bif decide (u8 < u7) then bif decide ((0 : Int) ≤ u8) then bif decide (u8 < (↑us0_1.size : Int)) then bif bif decide (sbyte us0_1 u8.toNat ≥ (97 : Int)) then decide ((0 : Int) ≤ u8) else true then bif bif decide (sbyte us0_1 u8.toNat ≥ (97 : Int)) then decide (u8 < (↑us0_1.size : Int)) else true then bif decide ((0 : Int) ≤ u8) then bif decide (u8 < (↑us0_1.size : Int)) then bif bif decide (sbyte us0_1 u8.toNat ≥ (48 : Int)) then decide ((0 : Int) ≤ u8) else true then bif bif decide (sbyte us0_1 u8.toNat ≥ (48 : Int)) then decide (u8 < (↑us0_1.size : Int)) else true then bif bif !bif decide (sbyte us0_1 u8.toNat ≥ (97 : Int)) then decide (sbyte us0_1 u8.toNat ≤ (122 : Int)) else false then bif !bif decide (sbyte us0_1 u8.toNat ≥ (48 : Int)) then decide (sbyte us0_1 u8.toNat ≤ (57 : Int)) else false then true else u8 == (0 : Int) else false then kx0 (false)
                    else kn (IntKind.i64.wrap (u8 + (1 : Int)))
                  else none
                else none
              else none
            else none
          else none
        else none
      else none
    else none
  else kx1 (us0_1)
noncomputable def g30_l0 (fuel : Nat) (kx0 : Bool → Option AV) (kx1 : ByteArray → Option AV) (us0_1 : ByteArray) (u7 : Int) : Nat → Int → Option AV
  | 0, _ => none
  | n' + 1, u8 => g30_l0_step fuel (g30_l0 fuel kx0 kx1 us0_1 u7 n') kx0 kx1 us0_1 u7 u8
noncomputable def T30_0 : TS' := ⟨[(0, TA.s), (7, TA.i IntKind.i64), (8, TA.i IntKind.i64)], [], []⟩
noncomputable def F30_0 (fuel : Nat) (ps : List Pay) (K : Ex → St → Option AV) : Option AV := match ps with
  | .s us0_1 :: .i u7 :: .i u8 :: [] => g30_l0 fuel (fun xu2_1 => K (Ex.ret) (X30_0_0 xu2_1)) (fun xus0_1 => K (Ex.exit (0 : Nat)) (X30_0_1 xus0_1)) us0_1 u7 fuel u8
  | _ => none
noncomputable def L30 (fuel : Nat) : Lam AV := [(4398046510908, lam T30_0 (F30_0 fuel))]
noncomputable def G30 : Gam := []
theorem g30_l0_eq (fuel : Nat) (call : CallI AV) (kn : St → Option AV) (K : Ex → St → Option AV) (us0_1 : ByteArray) (u7 : Int) (u80 : Int) (u8 : Int) :
    exec Pr (G30) (L30 fuel) (fnNt Pr 30) fuel call (lp Pr 30 0).1 (lp Pr 30 0).2 (live (lp Pr 30 0).1 (lp Pr 30 0).2 0) (S30_0 us0_1 u7 u8) (fun e s => match e with | .normal => kn (headN (live (lp Pr 30 0).1 (lp Pr 30 0).2 0) (writes (lp Pr 30 0).1) (S30_0 us0_1 u7 u80) s) | e => K e s) =
    g30_l0_step fuel (fun u8 => kn (S30_0 us0_1 u7 u8)) (fun xu2 => K (Ex.ret) (X30_0_0 xu2)) (fun xus0 => K (Ex.exit (0 : Nat)) (X30_0_1 xus0)) us0_1 u7 u8 := by kernel_rfl
theorem g30_l0_ok (fuel : Nat) (call : CallI AV) (K : Ex → St → Option AV) (us0_1 : ByteArray) (u7 : Int) (u80 : Int) : ∀ (n' : Nat) (u8 : Int),
    loopK (exec Pr (G30) (L30 fuel) (fnNt Pr 30) fuel call (lp Pr 30 0).1 (lp Pr 30 0).2 (live (lp Pr 30 0).1 (lp Pr 30 0).2 0)) (headN (live (lp Pr 30 0).1 (lp Pr 30 0).2 0) (writes (lp Pr 30 0).1) (S30_0 us0_1 u7 u80)) n' (S30_0 us0_1 u7 u8) K = g30_l0 fuel (fun xu2 => K (Ex.ret) (X30_0_0 xu2)) (fun xus0 => K (Ex.exit (0 : Nat)) (X30_0_1 xus0)) us0_1 u7 n' u8
  | 0, _ => rfl
  | n' + 1, u8 => (g30_l0_eq fuel call (fun s => loopK (exec Pr (G30) (L30 fuel) (fnNt Pr 30) fuel call (lp Pr 30 0).1 (lp Pr 30 0).2 (live (lp Pr 30 0).1 (lp Pr 30 0).2 0)) (headN (live (lp Pr 30 0).1 (lp Pr 30 0).2 0) (writes (lp Pr 30 0).1) (S30_0 us0_1 u7 u80)) n' s K) K us0_1 u7 u80 u8).trans
    (congrArg (fun kn => g30_l0_step fuel kn (fun xu2 => K (Ex.ret) (X30_0_0 xu2)) (fun xus0 => K (Ex.exit (0 : Nat)) (X30_0_1 xus0)) us0_1 u7 u8) (funext fun _ => g30_l0_ok fuel call K us0_1 u7 u80 n' _))
theorem g30_L0 (fuel : Nat) (call : CallI AV) : LOk Pr (G30) (L30 fuel) (fnNt Pr 30) fuel call (lp Pr 30 0) := by
  refine .of T30_0 (F30_0 fuel) (fun L h => ?_) (fun ps st K r he hr => ?_)
  · have e : (L30 fuel).get (writes (lp Pr 30 0).1) = some (lam T30_0 (F30_0 fuel)) := by kernel_rfl
    exact (Option.some.inj (e.symm.trans h)).symm
  · unfold F30_0 at hr
    split at hr
    · obtain rfl := (Option.some.inj he).symm
      exact (g30_l0_ok fuel call K _ _ _ fuel _).trans hr
    · cases hr
noncomputable def g30 (fuel : Nat) (us0 : ByteArray) : Option AV :=
  g30_l0 fuel
    (fun (xu2 : Bool) => some (AV.bool xu2))
    (fun (xus0 : ByteArray) => some (AV.bool (bif decide ((↑xus0.size : Int) ≥ (1 : Int)) then decide ((↑xus0.size : Int) ≤ (8 : Int)) else false)))
    (us0)
    ((↑us0.size : Int)) fuel ((0 : Int))
theorem g30_run (fuel : Nat) (us0 : ByteArray) : run Pr (G30) [((0, 30), L30 fuel)] fuel 1 30 [AV.str us0] = g30 fuel us0 := by kernel_rfl
noncomputable def m30 (fuel : Nat) (xs : List AV) : Option AV := match xs with
  | [AV.str us0] => g30 fuel us0
  | _ => none
abbrev R30 : List RS := [RS.one LK.b]
theorem g30_sm (fuel : Nat) (hΓ : ∀ f s, (G30).get f = some s → SmOk Pr f s) (hP : NamesOk Pr) : SmOk Pr 30 (smM R30 (m30 fuel)) := by
  refine smM_ok (fuel := fuel) hΓ hP (LamOk.of 30 (L30 fuel) 1 (by kernel_rfl) (fun i hi => ?_)) 1 30 R30 _ (fun xs v h => ?_)
  · match i, hi with
    | 0, _ => exact g30_L0 fuel _
    | i + 1, hi => exact absurd hi (by omega)
  · unfold m30 at h
    split at h
    · exact (g30_run fuel _).trans h
    · cases h

/-! ### function 31 -/
noncomputable def L31 (fuel : Nat) : Lam AV := []
noncomputable def G31 : Gam := []
noncomputable def g31 (fuel : Nat) (ux0 : Option Nat) : Option AV :=
  some (AV.bool (bif ford FloatKind.f64 ux0 (some (4336966441157787648 : Nat)) == some Ordering.gt || ford FloatKind.f64 ux0 (some (4336966441157787648 : Nat)) == some Ordering.eq then ford FloatKind.f64 ux0 (some (4877398396442247168 : Nat)) == some Ordering.lt || ford FloatKind.f64 ux0 (some (4877398396442247168 : Nat)) == some Ordering.eq else false))
theorem g31_run (fuel : Nat) (ux0 : Option Nat) : run Pr (G31) [((0, 31), L31 fuel)] fuel 1 31 [AV.flt FloatKind.f64 ux0] = g31 fuel ux0 := by kernel_rfl
noncomputable def m31 (fuel : Nat) (xs : List AV) : Option AV := match xs with
  | [AV.flt FloatKind.f64 ux0] => g31 fuel ux0
  | _ => none
abbrev R31 : List RS := [RS.one LK.b]
theorem g31_sm (fuel : Nat) (hΓ : ∀ f s, (G31).get f = some s → SmOk Pr f s) (hP : NamesOk Pr) : SmOk Pr 31 (smM R31 (m31 fuel)) := by
  refine smM_ok (fuel := fuel) hΓ hP (LamOk.of 31 (L31 fuel) 0 (by kernel_rfl) (fun i hi => ?_)) 1 31 R31 _ (fun xs v h => ?_)
  · match i, hi with
    | i + 0, hi => exact absurd hi (by omega)
  · unfold m31 at h
    split at h
    · exact (g31_run fuel _).trans h
    · cases h

/-! ### function 15 -/
noncomputable def S15_0 (u17n : Nat) (u17r : Nat) (u17g : Nat → Nat → AV) (u18 : Int) (u19 : Int) (h0_0n : Nat) (h0_0r : Nat) (h0_0g : Nat → Nat → AV) (h0_1n : Nat) (h0_1r : Nat) (h0_1g : Nat → Nat → AV) (h1_0 : ByteArray) (h1_1 : Int) (h1_2 : Int) (h1_3 : Int) (h1_4 : Bool) (h1_5 : Bool) (h1_6 : Option Nat) (h1_7 : Option Nat) (h1_8 : Option Nat) : St := { env := [((2 : Nat), AV.ptr (0 : Nat) (0 : Nat)), ((5 : Nat), AV.ptr (1 : Nat) (0 : Nat)), ((17 : Nat), AV.ro (9 : Nat) u17n u17r u17g), ((18 : Nat), AV.int IntKind.i64 u18), ((19 : Nat), AV.int IntKind.i64 u19)], h := [Blk.box [AV.ro (4 : Nat) h0_0n h0_0r h0_0g, AV.ro (9 : Nat) h0_1n h0_1r h0_1g], Blk.box [AV.str h1_0, AV.int IntKind.u8 h1_1, AV.int IntKind.i64 h1_2, AV.int IntKind.i64 h1_3, AV.bool h1_4, AV.bool h1_5, AV.flt FloatKind.f64 h1_6, AV.flt FloatKind.f64 h1_7, AV.flt FloatKind.f64 h1_8]], kd := [] }
noncomputable def X15_0_0 (xu4_1 : Bool) (xh0_0n_2 : Nat) (xh0_0r_2 : Nat) (xh0_0g_2 : Nat → Nat → AV) (xh0_1n_2 : Nat) (xh0_1r_2 : Nat) (xh0_1g_2 : Nat → Nat → AV) (xh1_0_2 : ByteArray) (xh1_1_2 : Int) (xh1_2_2 : Int) (xh1_3_2 : Int) (xh1_4_2 : Bool) (xh1_5_2 : Bool) (xh1_6_2 : Option Nat) (xh1_7_2 : Option Nat) (xh1_8_2 : Option Nat) (xh2_0_1 : ByteArray) (xh2_1_1 : Int) (xh2_2_1 : Int) (xh2_3_1 : Int) (xh2_4_1 : Bool) (xh2_5_1 : Bool) (xh2_6_1 : Option Nat) (xh2_7_1 : Option Nat) (xh2_8_1 : Option Nat) : St := { env := [((4 : Nat), AV.bool xu4_1)], h := [Blk.box [AV.ro (4 : Nat) xh0_0n_2 xh0_0r_2 xh0_0g_2, AV.ro (9 : Nat) xh0_1n_2 xh0_1r_2 xh0_1g_2], Blk.box [AV.str xh1_0_2, AV.int IntKind.u8 xh1_1_2, AV.int IntKind.i64 xh1_2_2, AV.int IntKind.i64 xh1_3_2, AV.bool xh1_4_2, AV.bool xh1_5_2, AV.flt FloatKind.f64 xh1_6_2, AV.flt FloatKind.f64 xh1_7_2, AV.flt FloatKind.f64 xh1_8_2], Blk.box [AV.str xh2_0_1, AV.int IntKind.u8 xh2_1_1, AV.int IntKind.i64 xh2_2_1, AV.int IntKind.i64 xh2_3_1, AV.bool xh2_4_1, AV.bool xh2_5_1, AV.flt FloatKind.f64 xh2_6_1, AV.flt FloatKind.f64 xh2_7_1, AV.flt FloatKind.f64 xh2_8_1]], kd := [] }
noncomputable def X15_0_1 (xh0_0n_3 : Nat) (xh0_0r_3 : Nat) (xh0_0g_3 : Nat → Nat → AV) (xh0_1n_3 : Nat) (xh0_1r_3 : Nat) (xh0_1g_3 : Nat → Nat → AV) (xh1_0_3 : ByteArray) (xh1_1_3 : Int) (xh1_2_3 : Int) (xh1_3_3 : Int) (xh1_4_3 : Bool) (xh1_5_3 : Bool) (xh1_6_3 : Option Nat) (xh1_7_3 : Option Nat) (xh1_8_3 : Option Nat) : St := { env := [((2 : Nat), AV.ptr (0 : Nat) (0 : Nat)), ((5 : Nat), AV.ptr (1 : Nat) (0 : Nat))], h := [Blk.box [AV.ro (4 : Nat) xh0_0n_3 xh0_0r_3 xh0_0g_3, AV.ro (9 : Nat) xh0_1n_3 xh0_1r_3 xh0_1g_3], Blk.box [AV.str xh1_0_3, AV.int IntKind.u8 xh1_1_3, AV.int IntKind.i64 xh1_2_3, AV.int IntKind.i64 xh1_3_3, AV.bool xh1_4_3, AV.bool xh1_5_3, AV.flt FloatKind.f64 xh1_6_3, AV.flt FloatKind.f64 xh1_7_3, AV.flt FloatKind.f64 xh1_8_3]], kd := [] }
noncomputable def g15_l0_step (M30 : List AV → Option AV) (M31 : List AV → Option AV) (fuel : Nat) (kn : Int → Option AV) (kx0 : Bool → Nat → Nat → (Nat → Nat → AV) → Nat → Nat → (Nat → Nat → AV) → ByteArray → Int → Int → Int → Bool → Bool → Option Nat → Option Nat → Option Nat → ByteArray → Int → Int → Int → Bool → Bool → Option Nat → Option Nat → Option Nat → Option AV) (kx1 : Nat → Nat → (Nat → Nat → AV) → Nat → Nat → (Nat → Nat → AV) → ByteArray → Int → Int → Int → Bool → Bool → Option Nat → Option Nat → Option Nat → Option AV) (u17n : Nat) (u17r : Nat) (u17g : Nat → Nat → AV) (u18 : Int) (h0_0n : Nat) (h0_0r : Nat) (h0_0g : Nat → Nat → AV) (h0_1n : Nat) (h0_1r : Nat) (h0_1g : Nat → Nat → AV) (h1_0 : ByteArray) (h1_1 : Int) (h1_2 : Int) (h1_3 : Int) (h1_4 : Bool) (h1_5 : Bool) (h1_6 : Option Nat) (h1_7 : Option Nat) (h1_8 : Option Nat) (u19 : Int) : Option AV :=
  bif decide (u19 < u18) then bif decide ((0 : Int) ≤ u19) then bif decide (u19 < (↑u17n : Int)) then bif fitKs [LK.s, LK.i IntKind.u8, LK.i IntKind.i64, LK.i IntKind.i64, LK.b, LK.b, LK.f FloatKind.f64, LK.f FloatKind.f64, LK.f FloatKind.f64] [u17g u19.toNat (0 : Nat), u17g u19.toNat (1 : Nat), u17g u19.toNat (2 : Nat), u17g u19.toNat (3 : Nat), u17g u19.toNat (4 : Nat), u17g u19.toNat (5 : Nat), u17g u19.toNat (6 : Nat), u17g u19.toNat (7 : Nat), u17g u19.toNat (8 : Nat)] then bif strEq (toS (u17g u19.toNat (0 : Nat))) h1_0 then kx0 (false) (h0_0n) (h0_0r) (h0_0g) (h0_1n) (h0_1r) (h0_1g) (h1_0) (h1_1) (h1_2) (h1_3) (h1_4) (h1_5) (h1_6) (h1_7) (h1_8) (toS (u17g u19.toNat (0 : Nat))) (toI (u17g u19.toNat (1 : Nat))) (toI (u17g u19.toNat (2 : Nat))) (toI (u17g u19.toNat (3 : Nat))) (toB (u17g u19.toNat (4 : Nat))) (toB (u17g u19.toNat (5 : Nat))) (toF (u17g u19.toNat (6 : Nat))) (toF (u17g u19.toNat (7 : Nat))) (toF (u17g u19.toNat (8 : Nat)))
          else kn (IntKind.i64.wrap (u19 + (1 : Int)))
        else none
      else none
    else none
  else kx1 (h0_0n) (h0_0r) (h0_0g) (h0_1n) (h0_1r) (h0_1g) (h1_0) (h1_1) (h1_2) (h1_3) (h1_4) (h1_5) (h1_6) (h1_7) (h1_8)
noncomputable def g15_l0 (M30 : List AV → Option AV) (M31 : List AV → Option AV) (fuel : Nat) (kx0 : Bool → Nat → Nat → (Nat → Nat → AV) → Nat → Nat → (Nat → Nat → AV) → ByteArray → Int → Int → Int → Bool → Bool → Option Nat → Option Nat → Option Nat → ByteArray → Int → Int → Int → Bool → Bool → Option Nat → Option Nat → Option Nat → Option AV) (kx1 : Nat → Nat → (Nat → Nat → AV) → Nat → Nat → (Nat → Nat → AV) → ByteArray → Int → Int → Int → Bool → Bool → Option Nat → Option Nat → Option Nat → Option AV) (u17n : Nat) (u17r : Nat) (u17g : Nat → Nat → AV) (u18 : Int) (h0_0n : Nat) (h0_0r : Nat) (h0_0g : Nat → Nat → AV) (h0_1n : Nat) (h0_1r : Nat) (h0_1g : Nat → Nat → AV) (h1_0 : ByteArray) (h1_1 : Int) (h1_2 : Int) (h1_3 : Int) (h1_4 : Bool) (h1_5 : Bool) (h1_6 : Option Nat) (h1_7 : Option Nat) (h1_8 : Option Nat) : Nat → Int → Option AV
  | 0, _ => none
  | n' + 1, u19 => g15_l0_step M30 M31 fuel (g15_l0 M30 M31 fuel kx0 kx1 u17n u17r u17g u18 h0_0n h0_0r h0_0g h0_1n h0_1r h0_1g h1_0 h1_1 h1_2 h1_3 h1_4 h1_5 h1_6 h1_7 h1_8 n') kx0 kx1 u17n u17r u17g u18 h0_0n h0_0r h0_0g h0_1n h0_1r h0_1g h1_0 h1_1 h1_2 h1_3 h1_4 h1_5 h1_6 h1_7 h1_8 u19
noncomputable def T15_0 : TS' := ⟨[(2, TA.ptr 0 0), (5, TA.ptr 1 0), (17, TA.ro 9), (18, TA.i IntKind.i64), (19, TA.i IntKind.i64)], [TB.box [TA.ro 4, TA.ro 9], TB.box [TA.s, TA.i IntKind.u8, TA.i IntKind.i64, TA.i IntKind.i64, TA.b, TA.b, TA.f FloatKind.f64, TA.f FloatKind.f64, TA.f FloatKind.f64]], []⟩
noncomputable def F15_0 (M30 : List AV → Option AV) (M31 : List AV → Option AV) (fuel : Nat) (ps : List Pay) (K : Ex → St → Option AV) : Option AV := match ps with
  | .n u17n :: .n u17r :: .g u17g :: .i u18 :: .i u19 :: .n h0_0n :: .n h0_0r :: .g h0_0g :: .n h0_1n :: .n h0_1r :: .g h0_1g :: .s h1_0 :: .i h1_1 :: .i h1_2 :: .i h1_3 :: .b h1_4 :: .b h1_5 :: .o h1_6 :: .o h1_7 :: .o h1_8 :: [] => g15_l0 M30 M31 fuel (fun xu4_1 xh0_0n_2 xh0_0r_2 xh0_0g_2 xh0_1n_2 xh0_1r_2 xh0_1g_2 xh1_0_2 xh1_1_2 xh1_2_2 xh1_3_2 xh1_4_2 xh1_5_2 xh1_6_2 xh1_7_2 xh1_8_2 xh2_0_1 xh2_1_1 xh2_2_1 xh2_3_1 xh2_4_1 xh2_5_1 xh2_6_1 xh2_7_1 xh2_8_1 => K (Ex.ret) (X15_0_0 xu4_1 xh0_0n_2 xh0_0r_2 xh0_0g_2 xh0_1n_2 xh0_1r_2 xh0_1g_2 xh1_0_2 xh1_1_2 xh1_2_2 xh1_3_2 xh1_4_2 xh1_5_2 xh1_6_2 xh1_7_2 xh1_8_2 xh2_0_1 xh2_1_1 xh2_2_1 xh2_3_1 xh2_4_1 xh2_5_1 xh2_6_1 xh2_7_1 xh2_8_1)) (fun xh0_0n_3 xh0_0r_3 xh0_0g_3 xh0_1n_3 xh0_1r_3 xh0_1g_3 xh1_0_3 xh1_1_3 xh1_2_3 xh1_3_3 xh1_4_3 xh1_5_3 xh1_6_3 xh1_7_3 xh1_8_3 => K (Ex.exit (0 : Nat)) (X15_0_1 xh0_0n_3 xh0_0r_3 xh0_0g_3 xh0_1n_3 xh0_1r_3 xh0_1g_3 xh1_0_3 xh1_1_3 xh1_2_3 xh1_3_3 xh1_4_3 xh1_5_3 xh1_6_3 xh1_7_3 xh1_8_3)) u17n u17r u17g u18 h0_0n h0_0r h0_0g h0_1n h0_1r h0_1g h1_0 h1_1 h1_2 h1_3 h1_4 h1_5 h1_6 h1_7 h1_8 fuel u19
  | _ => none
noncomputable def L15 (M30 : List AV → Option AV) (M31 : List AV → Option AV) (fuel : Nat) : Lam AV := [(536346768, lam T15_0 (F15_0 M30 M31 fuel))]
noncomputable def G15 (M30 : List AV → Option AV) (M31 : List AV → Option AV) : Gam := [(30, smM [RS.one LK.b] M30), (31, smM [RS.one LK.b] M31), (32, Go.Am.sBits)]
theorem g15_l0_eq (M30 : List AV → Option AV) (M31 : List AV → Option AV) (fuel : Nat) (call : CallI AV) (kn : St → Option AV) (K : Ex → St → Option AV) (u17n : Nat) (u17r : Nat) (u17g : Nat → Nat → AV) (u18 : Int) (h0_0n : Nat) (h0_0r : Nat) (h0_0g : Nat → Nat → AV) (h0_1n : Nat) (h0_1r : Nat) (h0_1g : Nat → Nat → AV) (h1_0 : ByteArray) (h1_1 : Int) (h1_2 : Int) (h1_3 : Int) (h1_4 : Bool) (h1_5 : Bool) (h1_6 : Option Nat) (h1_7 : Option Nat) (h1_8 : Option Nat) (u190 : Int) (u19 : Int) :
    exec Pr (G15 M30 M31) (L15 M30 M31 fuel) (fnNt Pr 15) fuel call (lp Pr 15 0).1 (lp Pr 15 0).2 (live (lp Pr 15 0).1 (lp Pr 15 0).2 0) (S15_0 u17n u17r u17g u18 u19 h0_0n h0_0r h0_0g h0_1n h0_1r h0_1g h1_0 h1_1 h1_2 h1_3 h1_4 h1_5 h1_6 h1_7 h1_8) (fun e s => match e with | .normal => kn (headN (live (lp Pr 15 0).1 (lp Pr 15 0).2 0) (writes (lp Pr 15 0).1) (S15_0 u17n u17r u17g u18 u190 h0_0n h0_0r h0_0g h0_1n h0_1r h0_1g h1_0 h1_1 h1_2 h1_3 h1_4 h1_5 h1_6 h1_7 h1_8) s) | e => K e s) =
    g15_l0_step M30 M31 fuel (fun u19 => kn (S15_0 u17n u17r u17g u18 u19 h0_0n h0_0r h0_0g h0_1n h0_1r h0_1g h1_0 h1_1 h1_2 h1_3 h1_4 h1_5 h1_6 h1_7 h1_8)) (fun xu4 xh0_0n xh0_0r xh0_0g xh0_1n xh0_1r xh0_1g xh1_0 xh1_1 xh1_2 xh1_3 xh1_4 xh1_5 xh1_6 xh1_7 xh1_8 xh2_0 xh2_1 xh2_2 xh2_3 xh2_4 xh2_5 xh2_6 xh2_7 xh2_8 => K (Ex.ret) (X15_0_0 xu4 xh0_0n xh0_0r xh0_0g xh0_1n xh0_1r xh0_1g xh1_0 xh1_1 xh1_2 xh1_3 xh1_4 xh1_5 xh1_6 xh1_7 xh1_8 xh2_0 xh2_1 xh2_2 xh2_3 xh2_4 xh2_5 xh2_6 xh2_7 xh2_8)) (fun xh0_0n xh0_0r xh0_0g xh0_1n xh0_1r xh0_1g xh1_0 xh1_1 xh1_2 xh1_3 xh1_4 xh1_5 xh1_6 xh1_7 xh1_8 => K (Ex.exit (0 : Nat)) (X15_0_1 xh0_0n xh0_0r xh0_0g xh0_1n xh0_1r xh0_1g xh1_0 xh1_1 xh1_2 xh1_3 xh1_4 xh1_5 xh1_6 xh1_7 xh1_8)) u17n u17r u17g u18 h0_0n h0_0r h0_0g h0_1n h0_1r h0_1g h1_0 h1_1 h1_2 h1_3 h1_4 h1_5 h1_6 h1_7 h1_8 u19 := by kernel_rfl
theorem g15_l0_ok (M30 : List AV → Option AV) (M31 : List AV → Option AV) (fuel : Nat) (call : CallI AV) (K : Ex → St → Option AV) (u17n : Nat) (u17r : Nat) (u17g : Nat → Nat → AV) (u18 : Int) (h0_0n : Nat) (h0_0r : Nat) (h0_0g : Nat → Nat → AV) (h0_1n : Nat) (h0_1r : Nat) (h0_1g : Nat → Nat → AV) (h1_0 : ByteArray) (h1_1 : Int) (h1_2 : Int) (h1_3 : Int) (h1_4 : Bool) (h1_5 : Bool) (h1_6 : Option Nat) (h1_7 : Option Nat) (h1_8 : Option Nat) (u190 : Int) : ∀ (n' : Nat) (u19 : Int),
    loopK (exec Pr (G15 M30 M31) (L15 M30 M31 fuel) (fnNt Pr 15) fuel call (lp Pr 15 0).1 (lp Pr 15 0).2 (live (lp Pr 15 0).1 (lp Pr 15 0).2 0)) (headN (live (lp Pr 15 0).1 (lp Pr 15 0).2 0) (writes (lp Pr 15 0).1) (S15_0 u17n u17r u17g u18 u190 h0_0n h0_0r h0_0g h0_1n h0_1r h0_1g h1_0 h1_1 h1_2 h1_3 h1_4 h1_5 h1_6 h1_7 h1_8)) n' (S15_0 u17n u17r u17g u18 u19 h0_0n h0_0r h0_0g h0_1n h0_1r h0_1g h1_0 h1_1 h1_2 h1_3 h1_4 h1_5 h1_6 h1_7 h1_8) K = g15_l0 M30 M31 fuel (fun xu4 xh0_0n xh0_0r xh0_0g xh0_1n xh0_1r xh0_1g xh1_0 xh1_1 xh1_2 xh1_3 xh1_4 xh1_5 xh1_6 xh1_7 xh1_8 xh2_0 xh2_1 xh2_2 xh2_3 xh2_4 xh2_5 xh2_6 xh2_7 xh2_8 => K (Ex.ret) (X15_0_0 xu4 xh0_0n xh0_0r xh0_0g xh0_1n xh0_1r xh0_1g xh1_0 xh1_1 xh1_2 xh1_3 xh1_4 xh1_5 xh1_6 xh1_7 xh1_8 xh2_0 xh2_1 xh2_2 xh2_3 xh2_4 xh2_5 xh2_6 xh2_7 xh2_8)) (fun xh0_0n xh0_0r xh0_0g xh0_1n xh0_1r xh0_1g xh1_0 xh1_1 xh1_2 xh1_3 xh1_4 xh1_5 xh1_6 xh1_7 xh1_8 => K (Ex.exit (0 : Nat)) (X15_0_1 xh0_0n xh0_0r xh0_0g xh0_1n xh0_1r xh0_1g xh1_0 xh1_1 xh1_2 xh1_3 xh1_4 xh1_5 xh1_6 xh1_7 xh1_8)) u17n u17r u17g u18 h0_0n h0_0r h0_0g h0_1n h0_1r h0_1g h1_0 h1_1 h1_2 h1_3 h1_4 h1_5 h1_6 h1_7 h1_8 n' u19
  | 0, _ => rfl
  | n' + 1, u19 => (g15_l0_eq M30 M31 fuel call (fun s => loopK (exec Pr (G15 M30 M31) (L15 M30 M31 fuel) (fnNt Pr 15) fuel call (lp Pr 15 0).1 (lp Pr 15 0).2 (live (lp Pr 15 0).1 (lp Pr 15 0).2 0)) (headN (live (lp Pr 15 0).1 (lp Pr 15 0).2 0) (writes (lp Pr 15 0).1) (S15_0 u17n u17r u17g u18 u190 h0_0n h0_0r h0_0g h0_1n h0_1r h0_1g h1_0 h1_1 h1_2 h1_3 h1_4 h1_5 h1_6 h1_7 h1_8)) n' s K) K u17n u17r u17g u18 h0_0n h0_0r h0_0g h0_1n h0_1r h0_1g h1_0 h1_1 h1_2 h1_3 h1_4 h1_5 h1_6 h1_7 h1_8 u190 u19).trans
    (congrArg (fun kn => g15_l0_step M30 M31 fuel kn (fun xu4 xh0_0n xh0_0r xh0_0g xh0_1n xh0_1r xh0_1g xh1_0 xh1_1 xh1_2 xh1_3 xh1_4 xh1_5 xh1_6 xh1_7 xh1_8 xh2_0 xh2_1 xh2_2 xh2_3 xh2_4 xh2_5 xh2_6 xh2_7 xh2_8 => K (Ex.ret) (X15_0_0 xu4 xh0_0n xh0_0r xh0_0g xh0_1n xh0_1r xh0_1g xh1_0 xh1_1 xh1_2 xh1_3 xh1_4 xh1_5 xh1_6 xh1_7 xh1_8 xh2_0 xh2_1 xh2_2 xh2_3 xh2_4 xh2_5 xh2_6 xh2_7 xh2_8)) (fun xh0_0n xh0_0r xh0_0g xh0_1n xh0_1r xh0_1g xh1_0 xh1_1 xh1_2 xh1_3 xh1_4 xh1_5 xh1_6 xh1_7 xh1_8 => K (Ex.exit (0 : Nat)) (X15_0_1 xh0_0n xh0_0r xh0_0g xh0_1n xh0_1r xh0_1g xh1_0 xh1_1 xh1_2 xh1_3 xh1_4 xh1_5 xh1_6 xh1_7 xh1_8)) u17n u17r u17g u18 h0_0n h0_0r h0_0g h0_1n h0_1r h0_1g h1_0 h1_1 h1_2 h1_3 h1_4 h1_5 h1_6 h1_7 h1_8 u19) (funext fun _ => g15_l0_ok M30 M31 fuel call K u17n u17r u17g u18 h0_0n h0_0r h0_0g h0_1n h0_1r h0_1g h1_0 h1_1 h1_2 h1_3 h1_4 h1_5 h1_6 h1_7 h1_8 u190 n' _))
theorem g15_L0 (M30 : List AV → Option AV) (M31 : List AV → Option AV) (fuel : Nat) (call : CallI AV) : LOk Pr (G15 M30 M31) (L15 M30 M31 fuel) (fnNt Pr 15) fuel call (lp Pr 15 0) := by
  refine .of T15_0 (F15_0 M30 M31 fuel) (fun L h => ?_) (fun ps st K r he hr => ?_)
  · have e : (L15 M30 M31 fuel).get (writes (lp Pr 15 0).1) = some (lam T15_0 (F15_0 M30 M31 fuel)) := by kernel_rfl
    exact (Option.some.inj (e.symm.trans h)).symm
  · unfold F15_0 at hr
    split at hr
    · obtain rfl := (Option.some.inj he).symm
      exact (g15_l0_ok M30 M31 fuel call K _ _ _ _ _ _ _ _ _ _ _ _ _ _ _ _ _ _ _ _ fuel _).trans hr
    · cases hr
noncomputable def g15 (M30 : List AV → Option AV) (M31 : List AV → Option AV) (fuel : Nat) (up0_0n : Nat) (up0_0r : Nat) (up0_0g : Nat → Nat → AV) (up0_1n : Nat) (up0_1r : Nat) (up0_1g : Nat → Nat → AV) (at1 : Int) : Option AV :=
  bif decide ((0 : Int) ≤ at1) then bif decide (at1 < (↑up0_1n : Int)) then bif fitKs [LK.s, LK.i IntKind.u8, LK.i IntKind.i64, LK.i IntKind.i64, LK.b, LK.b, LK.f FloatKind.f64, LK.f FloatKind.f64, LK.f FloatKind.f64] [up0_1g at1.toNat (0 : Nat), up0_1g at1.toNat (1 : Nat), up0_1g at1.toNat (2 : Nat), up0_1g at1.toNat (3 : Nat), up0_1g at1.toNat (4 : Nat), up0_1g at1.toNat (5 : Nat), up0_1g at1.toNat (6 : Nat), up0_1g at1.toNat (7 : Nat), up0_1g at1.toNat (8 : Nat)] then bif decide ((0 : Int) ≤ at1) then bif decide (at1 ≤ (↑up0_1r : Int)) then g15_l0 M30 M31 fuel
              (fun (xu4 : Bool) (_ : Nat) (_ : Nat) (_ : Nat → Nat → AV) (_ : Nat) (_ : Nat) (_ : Nat → Nat → AV) (_ : ByteArray) (_ : Int) (_ : Int) (_ : Int) (_ : Bool) (_ : Bool) (_ : Option Nat) (_ : Option Nat) (_ : Option Nat) (_ : ByteArray) (_ : Int) (_ : Int) (_ : Int) (_ : Bool) (_ : Bool) (_ : Option Nat) (_ : Option Nat) (_ : Option Nat) => some (AV.bool xu4))
              (fun (xh0_0n_1 : Nat) (_ : Nat) (_ : Nat → Nat → AV) (_ : Nat) (_ : Nat) (_ : Nat → Nat → AV) (xh1_0_1 : ByteArray) (xh1_1_1 : Int) (xh1_2_1 : Int) (xh1_3_1 : Int) (xh1_4_1 : Bool) (xh1_5_1 : Bool) (xh1_6_1 : Option Nat) (xh1_7_1 : Option Nat) (xh1_8_1 : Option Nat) => bif okM [RS.one LK.b] (M30 [AV.str xh1_0_1]) then bif bif !!toB (getV (M30 [AV.str xh1_0_1])) then true else true then bif bif !bif !toB (getV (M30 [AV.str xh1_0_1])) then true else decide (xh1_2_1 < (0 : Int)) then true else true then bif bif !bif bif !toB (getV (M30 [AV.str xh1_0_1])) then true else decide (xh1_2_1 < (0 : Int)) then true else decide (xh1_2_1 ≥ (↑xh0_0n_1 : Int)) then true else true then bif bif !bif bif bif !toB (getV (M30 [AV.str xh1_0_1])) then true else decide (xh1_2_1 < (0 : Int)) then true else decide (xh1_2_1 ≥ (↑xh0_0n_1 : Int)) then true else decide (xh1_3_1 < (0 : Int)) then true else true then bif bif !bif bif bif bif !toB (getV (M30 [AV.str xh1_0_1])) then true else decide (xh1_2_1 < (0 : Int)) then true else decide (xh1_2_1 ≥ (↑xh0_0n_1 : Int)) then true else decide (xh1_3_1 < (0 : Int)) then true else decide (xh1_3_1 ≥ (↑xh0_0n_1 : Int)) then true else true then bif bif !bif bif bif bif !toB (getV (M30 [AV.str xh1_0_1])) then true else decide (xh1_2_1 < (0 : Int)) then true else decide (xh1_2_1 ≥ (↑xh0_0n_1 : Int)) then true else decide (xh1_3_1 < (0 : Int)) then true else decide (xh1_3_1 ≥ (↑xh0_0n_1 : Int)) then true else true then bif bif !bif bif bif bif bif !toB (getV (M30 [AV.str xh1_0_1])) then true else decide (xh1_2_1 < (0 : Int)) then true else decide (xh1_2_1 ≥ (↑xh0_0n_1 : Int)) then true else decide (xh1_3_1 < (0 : Int)) then true else decide (xh1_3_1 ≥ (↑xh0_0n_1 : Int)) then true else xh1_2_1 == xh1_3_1 then true else true then bif bif !bif bif bif bif bif !toB (getV (M30 [AV.str xh1_0_1])) then true else decide (xh1_2_1 < (0 : Int)) then true else decide (xh1_2_1 ≥ (↑xh0_0n_1 : Int)) then true else decide (xh1_3_1 < (0 : Int)) then true else decide (xh1_3_1 ≥ (↑xh0_0n_1 : Int)) then true else xh1_2_1 == xh1_3_1 then okM [RS.one LK.b] (M31 [AV.flt FloatKind.f64 xh1_6_1]) else true then bif bif !bif bif bif bif bif bif !toB (getV (M30 [AV.str xh1_0_1])) then true else decide (xh1_2_1 < (0 : Int)) then true else decide (xh1_2_1 ≥ (↑xh0_0n_1 : Int)) then true else decide (xh1_3_1 < (0 : Int)) then true else decide (xh1_3_1 ≥ (↑xh0_0n_1 : Int)) then true else xh1_2_1 == xh1_3_1 then true else !toB (getV (M31 [AV.flt FloatKind.f64 xh1_6_1])) then true else true then bif bif !bif bif bif bif bif bif !toB (getV (M30 [AV.str xh1_0_1])) then true else decide (xh1_2_1 < (0 : Int)) then true else decide (xh1_2_1 ≥ (↑xh0_0n_1 : Int)) then true else decide (xh1_3_1 < (0 : Int)) then true else decide (xh1_3_1 ≥ (↑xh0_0n_1 : Int)) then true else xh1_2_1 == xh1_3_1 then true else !toB (getV (M31 [AV.flt FloatKind.f64 xh1_6_1])) then okM [RS.one LK.b] (M31 [AV.flt FloatKind.f64 xh1_7_1]) else true then bif bif bif bif bif bif bif bif !toB (getV (M30 [AV.str xh1_0_1])) then true else decide (xh1_2_1 < (0 : Int)) then true else decide (xh1_2_1 ≥ (↑xh0_0n_1 : Int)) then true else decide (xh1_3_1 < (0 : Int)) then true else decide (xh1_3_1 ≥ (↑xh0_0n_1 : Int)) then true else xh1_2_1 == xh1_3_1 then true else !toB (getV (M31 [AV.flt FloatKind.f64 xh1_6_1])) then true else !toB (getV (M31 [AV.flt FloatKind.f64 xh1_7_1])) then some (AV.bool false)
                                      else bif xh1_1_1 == (1 : Int) then bif bif !xh1_4_1 then true else true then bif bif bif !xh1_4_1 then !xh1_5_1 else false then true else true then bif bif bif !xh1_4_1 then !xh1_5_1 else false then sBits.ok [AV.flt FloatKind.f64 xh1_8_1] else true then some (AV.bool (bif bif !xh1_4_1 then !xh1_5_1 else false then (↑(xh1_8_1.getD (0 : Nat)) : Int) == (0 : Int) else false))
                                            else none
                                          else none
                                        else none
                                      else bif xh1_1_1 == (2 : Int) then bif okM [RS.one LK.b] (M31 [AV.flt FloatKind.f64 xh1_8_1]) then some (AV.bool (toB (getV (M31 [AV.flt FloatKind.f64 xh1_8_1]))))
                                        else none
                                      else some (AV.bool false)
                                    else none
                                  else none
                                else none
                              else none
                            else none
                          else none
                        else none
                      else none
                    else none
                  else none
                else none)
              (at1.toNat - (0 : Nat))
              (up0_1r - (0 : Nat))
              (fun (i : Nat) => up0_1g ((0 : Nat) + i))
              ((↑(at1.toNat - (0 : Nat)) : Int))
              (up0_0n)
              (up0_0r)
              (up0_0g)
              (up0_1n)
              (up0_1r)
              (up0_1g)
              (toS (up0_1g at1.toNat (0 : Nat)))
              (toI (up0_1g at1.toNat (1 : Nat)))
              (toI (up0_1g at1.toNat (2 : Nat)))
              (toI (up0_1g at1.toNat (3 : Nat)))
              (toB (up0_1g at1.toNat (4 : Nat)))
              (toB (up0_1g at1.toNat (5 : Nat)))
              (toF (up0_1g at1.toNat (6 : Nat)))
              (toF (up0_1g at1.toNat (7 : Nat)))
              (toF (up0_1g at1.toNat (8 : Nat))) fuel ((0 : Int))
          else none
        else none
      else none
    else none
  else none
theorem g15_run (M30 : List AV → Option AV) (M31 : List AV → Option AV) (fuel : Nat) (up0_0n : Nat) (up0_0r : Nat) (up0_0g : Nat → Nat → AV) (up0_1n : Nat) (up0_1r : Nat) (up0_1g : Nat → Nat → AV) (at1 : Int) : run Pr (G15 M30 M31) [((0, 15), L15 M30 M31 fuel)] fuel 1 15 [AV.agg [AV.ro (4 : Nat) up0_0n up0_0r up0_0g, AV.ro (9 : Nat) up0_1n up0_1r up0_1g], AV.int IntKind.i64 at1] = g15 M30 M31 fuel up0_0n up0_0r up0_0g up0_1n up0_1r up0_1g at1 := by kernel_rfl
noncomputable def m15 (M30 : List AV → Option AV) (M31 : List AV → Option AV) (fuel : Nat) (xs : List AV) : Option AV := match xs with
  | [AV.agg [AV.ro (4 : Nat) up0_0n up0_0r up0_0g, AV.ro (9 : Nat) up0_1n up0_1r up0_1g], AV.int IntKind.i64 at1] => g15 M30 M31 fuel up0_0n up0_0r up0_0g up0_1n up0_1r up0_1g at1
  | _ => none
abbrev R15 : List RS := [RS.one LK.b]
theorem g15_sm (M30 : List AV → Option AV) (M31 : List AV → Option AV) (fuel : Nat) (hΓ : ∀ f s, (G15 M30 M31).get f = some s → SmOk Pr f s) (hP : NamesOk Pr) : SmOk Pr 15 (smM R15 (m15 M30 M31 fuel)) := by
  refine smM_ok (fuel := fuel) hΓ hP (LamOk.of 15 (L15 M30 M31 fuel) 1 (by kernel_rfl) (fun i hi => ?_)) 1 15 R15 _ (fun xs v h => ?_)
  · match i, hi with
    | 0, _ => exact g15_L0 M30 M31 fuel _
    | i + 1, hi => exact absurd hi (by omega)
  · unfold m15 at h
    split at h
    · exact (g15_run M30 M31 fuel _ _ _ _ _ _ _).trans h
    · cases h

/-! ### function 5 -/
noncomputable def S5_0 (u25 : Int) (u26 : Int) (h0_0n : Nat) (h0_0r : Nat) (h0_0g : Nat → Nat → AV) (h0_1n : Nat) (h0_1r : Nat) (h0_1g : Nat → Nat → AV) : St := { env := [((1 : Nat), AV.ptr (0 : Nat) (0 : Nat)), ((25 : Nat), AV.int IntKind.i64 u25), ((26 : Nat), AV.int IntKind.i64 u26)], h := [Blk.box [AV.ro (4 : Nat) h0_0n h0_0r h0_0g, AV.ro (9 : Nat) h0_1n h0_1r h0_1g]], kd := [] }
noncomputable def X5_0_0 (xu2_1 : Int) (xu3_1 : Int) (xh0_0n_2 : Nat) (xh0_0r_2 : Nat) (xh0_0g_2 : Nat → Nat → AV) (xh0_1n_2 : Nat) (xh0_1r_2 : Nat) (xh0_1g_2 : Nat → Nat → AV) : St := { env := [((2 : Nat), AV.int IntKind.i64 xu2_1), ((3 : Nat), AV.int IntKind.i64 xu3_1)], h := [Blk.box [AV.ro (4 : Nat) xh0_0n_2 xh0_0r_2 xh0_0g_2, AV.ro (9 : Nat) xh0_1n_2 xh0_1r_2 xh0_1g_2]], kd := [] }
noncomputable def X5_0_1 (xh0_0n_3 : Nat) (xh0_0r_3 : Nat) (xh0_0g_3 : Nat → Nat → AV) (xh0_1n_3 : Nat) (xh0_1r_3 : Nat) (xh0_1g_3 : Nat → Nat → AV) : St := { env := [], h := [Blk.box [AV.ro (4 : Nat) xh0_0n_3 xh0_0r_3 xh0_0g_3, AV.ro (9 : Nat) xh0_1n_3 xh0_1r_3 xh0_1g_3]], kd := [] }
noncomputable def g5_l0_step (M14 : List AV → Option AV) (M15 : List AV → Option AV) (fuel : Nat) (kn : Int → Option AV) (kx0 : Int → Int → Nat → Nat → (Nat → Nat → AV) → Nat → Nat → (Nat → Nat → AV) → Option AV) (kx1 : Nat → Nat → (Nat → Nat → AV) → Nat → Nat → (Nat → Nat → AV) → Option AV) (u25 : Int) (h0_0n : Nat) (h0_0r : Nat) (h0_0g : Nat → Nat → AV) (h0_1n : Nat) (h0_1r : Nat) (h0_1g : Nat → Nat → AV) (u26 : Int) : Option AV :=
  bif decide (u26 < u25) then bif okM [RS.one LK.b] (M15 [AV.agg [AV.ro (4 : Nat) h0_0n h0_0r h0_0g, AV.ro (9 : Nat) h0_1n h0_1r h0_1g], AV.int IntKind.i64 u26]) then bif !toB (getV (M15 [AV.agg [AV.ro (4 : Nat) h0_0n h0_0r h0_0g, AV.ro (9 : Nat) h0_1n h0_1r h0_1g], AV.int IntKind.i64 u26])) then kx0 ((290 : Int)) (u26) (h0_0n) (h0_0r) (h0_0g) (h0_1n) (h0_1r) (h0_1g)
      else kn (IntKind.i64.wrap (u26 + (1 : Int)))
    else none
  else kx1 (h0_0n) (h0_0r) (h0_0g) (h0_1n) (h0_1r) (h0_1g)
noncomputable def g5_l0 (M14 : List AV → Option AV) (M15 : List AV → Option AV) (fuel : Nat) (kx0 : Int → Int → Nat → Nat → (Nat → Nat → AV) → Nat → Nat → (Nat → Nat → AV) → Option AV) (kx1 : Nat → Nat → (Nat → Nat → AV) → Nat → Nat → (Nat → Nat → AV) → Option AV) (u25 : Int) (h0_0n : Nat) (h0_0r : Nat) (h0_0g : Nat → Nat → AV) (h0_1n : Nat) (h0_1r : Nat) (h0_1g : Nat → Nat → AV) : Nat → Int → Option AV
  | 0, _ => none
  | n' + 1, u26 => g5_l0_step M14 M15 fuel (g5_l0 M14 M15 fuel kx0 kx1 u25 h0_0n h0_0r h0_0g h0_1n h0_1r h0_1g n') kx0 kx1 u25 h0_0n h0_0r h0_0g h0_1n h0_1r h0_1g u26
noncomputable def T5_0 : TS' := ⟨[(1, TA.ptr 0 0), (25, TA.i IntKind.i64), (26, TA.i IntKind.i64)], [TB.box [TA.ro 4, TA.ro 9]], []⟩
noncomputable def F5_0 (M14 : List AV → Option AV) (M15 : List AV → Option AV) (fuel : Nat) (ps : List Pay) (K : Ex → St → Option AV) : Option AV := match ps with
  | .i u25 :: .i u26 :: .n h0_0n :: .n h0_0r :: .g h0_0g :: .n h0_1n :: .n h0_1r :: .g h0_1g :: [] => g5_l0 M14 M15 fuel (fun xu2_1 xu3_1 xh0_0n_2 xh0_0r_2 xh0_0g_2 xh0_1n_2 xh0_1r_2 xh0_1g_2 => K (Ex.ret) (X5_0_0 xu2_1 xu3_1 xh0_0n_2 xh0_0r_2 xh0_0g_2 xh0_1n_2 xh0_1r_2 xh0_1g_2)) (fun xh0_0n_3 xh0_0r_3 xh0_0g_3 xh0_1n_3 xh0_1r_3 xh0_1g_3 => K (Ex.exit (1 : Nat)) (X5_0_1 xh0_0n_3 xh0_0r_3 xh0_0g_3 xh0_1n_3 xh0_1r_3 xh0_1g_3)) u25 h0_0n h0_0r h0_0g h0_1n h0_1r h0_1g fuel u26
  | _ => none
noncomputable def L5 (M14 : List AV → Option AV) (M15 : List AV → Option AV) (fuel : Nat) : Lam AV := [(34292629580, lam T5_0 (F5_0 M14 M15 fuel))]
noncomputable def G5 (M14 : List AV → Option AV) (M15 : List AV → Option AV) : Gam := [(14, smM [RS.one (LK.i IntKind.i64), RS.one (LK.i IntKind.i64)] M14), (15, smM [RS.one LK.b] M15)]
theorem g5_l0_eq (M14 : List AV → Option AV) (M15 : List AV → Option AV) (fuel : Nat) (call : CallI AV) (kn : St → Option AV) (K : Ex → St → Option AV) (u25 : Int) (h0_0n : Nat) (h0_0r : Nat) (h0_0g : Nat → Nat → AV) (h0_1n : Nat) (h0_1r : Nat) (h0_1g : Nat → Nat → AV) (u260 : Int) (u26 : Int) :
    exec Pr (G5 M14 M15) (L5 M14 M15 fuel) (fnNt Pr 5) fuel call (lp Pr 5 0).1 (lp Pr 5 0).2 (live (lp Pr 5 0).1 (lp Pr 5 0).2 0) (S5_0 u25 u26 h0_0n h0_0r h0_0g h0_1n h0_1r h0_1g) (fun e s => match e with | .normal => kn (headN (live (lp Pr 5 0).1 (lp Pr 5 0).2 0) (writes (lp Pr 5 0).1) (S5_0 u25 u260 h0_0n h0_0r h0_0g h0_1n h0_1r h0_1g) s) | e => K e s) =
    g5_l0_step M14 M15 fuel (fun u26 => kn (S5_0 u25 u26 h0_0n h0_0r h0_0g h0_1n h0_1r h0_1g)) (fun xu2 xu3 xh0_0n xh0_0r xh0_0g xh0_1n xh0_1r xh0_1g => K (Ex.ret) (X5_0_0 xu2 xu3 xh0_0n xh0_0r xh0_0g xh0_1n xh0_1r xh0_1g)) (fun xh0_0n xh0_0r xh0_0g xh0_1n xh0_1r xh0_1g => K (Ex.exit (1 : Nat)) (X5_0_1 xh0_0n xh0_0r xh0_0g xh0_1n xh0_1r xh0_1g)) u25 h0_0n h0_0r h0_0g h0_1n h0_1r h0_1g u26 := by kernel_rfl
theorem g5_l0_ok (M14 : List AV → Option AV) (M15 : List AV → Option AV) (fuel : Nat) (call : CallI AV) (K : Ex → St → Option AV) (u25 : Int) (h0_0n : Nat) (h0_0r : Nat) (h0_0g : Nat → Nat → AV) (h0_1n : Nat) (h0_1r : Nat) (h0_1g : Nat → Nat → AV) (u260 : Int) : ∀ (n' : Nat) (u26 : Int),
    loopK (exec Pr (G5 M14 M15) (L5 M14 M15 fuel) (fnNt Pr 5) fuel call (lp Pr 5 0).1 (lp Pr 5 0).2 (live (lp Pr 5 0).1 (lp Pr 5 0).2 0)) (headN (live (lp Pr 5 0).1 (lp Pr 5 0).2 0) (writes (lp Pr 5 0).1) (S5_0 u25 u260 h0_0n h0_0r h0_0g h0_1n h0_1r h0_1g)) n' (S5_0 u25 u26 h0_0n h0_0r h0_0g h0_1n h0_1r h0_1g) K = g5_l0 M14 M15 fuel (fun xu2 xu3 xh0_0n xh0_0r xh0_0g xh0_1n xh0_1r xh0_1g => K (Ex.ret) (X5_0_0 xu2 xu3 xh0_0n xh0_0r xh0_0g xh0_1n xh0_1r xh0_1g)) (fun xh0_0n xh0_0r xh0_0g xh0_1n xh0_1r xh0_1g => K (Ex.exit (1 : Nat)) (X5_0_1 xh0_0n xh0_0r xh0_0g xh0_1n xh0_1r xh0_1g)) u25 h0_0n h0_0r h0_0g h0_1n h0_1r h0_1g n' u26
  | 0, _ => rfl
  | n' + 1, u26 => (g5_l0_eq M14 M15 fuel call (fun s => loopK (exec Pr (G5 M14 M15) (L5 M14 M15 fuel) (fnNt Pr 5) fuel call (lp Pr 5 0).1 (lp Pr 5 0).2 (live (lp Pr 5 0).1 (lp Pr 5 0).2 0)) (headN (live (lp Pr 5 0).1 (lp Pr 5 0).2 0) (writes (lp Pr 5 0).1) (S5_0 u25 u260 h0_0n h0_0r h0_0g h0_1n h0_1r h0_1g)) n' s K) K u25 h0_0n h0_0r h0_0g h0_1n h0_1r h0_1g u260 u26).trans
    (congrArg (fun kn => g5_l0_step M14 M15 fuel kn (fun xu2 xu3 xh0_0n xh0_0r xh0_0g xh0_1n xh0_1r xh0_1g => K (Ex.ret) (X5_0_0 xu2 xu3 xh0_0n xh0_0r xh0_0g xh0_1n xh0_1r xh0_1g)) (fun xh0_0n xh0_0r xh0_0g xh0_1n xh0_1r xh0_1g => K (Ex.exit (1 : Nat)) (X5_0_1 xh0_0n xh0_0r xh0_0g xh0_1n xh0_1r xh0_1g)) u25 h0_0n h0_0r h0_0g h0_1n h0_1r h0_1g u26) (funext fun _ => g5_l0_ok M14 M15 fuel call K u25 h0_0n h0_0r h0_0g h0_1n h0_1r h0_1g u260 n' _))
theorem g5_L0 (M14 : List AV → Option AV) (M15 : List AV → Option AV) (fuel : Nat) (call : CallI AV) : LOk Pr (G5 M14 M15) (L5 M14 M15 fuel) (fnNt Pr 5) fuel call (lp Pr 5 0) := by
  refine .of T5_0 (F5_0 M14 M15 fuel) (fun L h => ?_) (fun ps st K r he hr => ?_)
  · have e : (L5 M14 M15 fuel).get (writes (lp Pr 5 0).1) = some (lam T5_0 (F5_0 M14 M15 fuel)) := by kernel_rfl
    exact (Option.some.inj (e.symm.trans h)).symm
  · unfold F5_0 at hr
    split at hr
    · obtain rfl := (Option.some.inj he).symm
      exact (g5_l0_ok M14 M15 fuel call K _ _ _ _ _ _ _ _ fuel _).trans hr
    · cases hr
noncomputable def g5 (M14 : List AV → Option AV) (M15 : List AV → Option AV) (fuel : Nat) (up0_0n : Nat) (up0_0r : Nat) (up0_0g : Nat → Nat → AV) (up0_1n : Nat) (up0_1r : Nat) (up0_1g : Nat → Nat → AV) : Option AV :=
  bif okM [RS.one (LK.i IntKind.i64), RS.one (LK.i IntKind.i64)] (M14 [AV.ro (4 : Nat) up0_0n up0_0r up0_0g]) then bif toI ((toT (getV (M14 [AV.ro (4 : Nat) up0_0n up0_0r up0_0g]))).headD AV.dead) != (0 : Int) then some (AV.tup [AV.int IntKind.i64 (toI ((toT (getV (M14 [AV.ro (4 : Nat) up0_0n up0_0r up0_0g]))).headD AV.dead)), AV.int IntKind.i64 (toI ((toT (getV (M14 [AV.ro (4 : Nat) up0_0n up0_0r up0_0g]))).tail.headD AV.dead))])
    else bif decide ((↑up0_1n : Int) > (48 : Int)) then some (AV.tup [AV.int IntKind.i64 (3 : Int), AV.int IntKind.i64 (0 : Int)])
    else g5_l0 M14 M15 fuel
      (fun (xu2 : Int) (xu3 : Int) (_ : Nat) (_ : Nat) (_ : Nat → Nat → AV) (_ : Nat) (_ : Nat) (_ : Nat → Nat → AV) => some (AV.tup [AV.int IntKind.i64 xu2, AV.int IntKind.i64 xu3]))
      (fun (_ : Nat) (_ : Nat) (_ : Nat → Nat → AV) (_ : Nat) (_ : Nat) (_ : Nat → Nat → AV) => some (AV.tup [AV.int IntKind.i64 (0 : Int), AV.int IntKind.i64 (0 : Int)]))
      ((↑up0_1n : Int))
      (up0_0n)
      (up0_0r)
      (up0_0g)
      (up0_1n)
      (up0_1r)
      (up0_1g) fuel ((0 : Int))
  else none
theorem g5_run (M14 : List AV → Option AV) (M15 : List AV → Option AV) (fuel : Nat) (up0_0n : Nat) (up0_0r : Nat) (up0_0g : Nat → Nat → AV) (up0_1n : Nat) (up0_1r : Nat) (up0_1g : Nat → Nat → AV) : run Pr (G5 M14 M15) [((0, 5), L5 M14 M15 fuel)] fuel 1 5 [AV.agg [AV.ro (4 : Nat) up0_0n up0_0r up0_0g, AV.ro (9 : Nat) up0_1n up0_1r up0_1g]] = g5 M14 M15 fuel up0_0n up0_0r up0_0g up0_1n up0_1r up0_1g := by kernel_rfl
noncomputable def m5 (M14 : List AV → Option AV) (M15 : List AV → Option AV) (fuel : Nat) (xs : List AV) : Option AV := match xs with
  | [AV.agg [AV.ro (4 : Nat) up0_0n up0_0r up0_0g, AV.ro (9 : Nat) up0_1n up0_1r up0_1g]] => g5 M14 M15 fuel up0_0n up0_0r up0_0g up0_1n up0_1r up0_1g
  | _ => none
abbrev R5 : List RS := [RS.one (LK.i IntKind.i64), RS.one (LK.i IntKind.i64)]
theorem g5_sm (M14 : List AV → Option AV) (M15 : List AV → Option AV) (fuel : Nat) (hΓ : ∀ f s, (G5 M14 M15).get f = some s → SmOk Pr f s) (hP : NamesOk Pr) : SmOk Pr 5 (smM R5 (m5 M14 M15 fuel)) := by
  refine smM_ok (fuel := fuel) hΓ hP (LamOk.of 5 (L5 M14 M15 fuel) 1 (by kernel_rfl) (fun i hi => ?_)) 1 5 R5 _ (fun xs v h => ?_)
  · match i, hi with
    | 0, _ => exact g5_L0 M14 M15 fuel _
    | i + 1, hi => exact absurd hi (by omega)
  · unfold m5 at h
    split at h
    · exact (g5_run M14 M15 fuel _ _ _ _ _ _).trans h
    · cases h

/-! ### function 43 -/
noncomputable def S43_0 (us0_1 : ByteArray) (ui3 : Int) : St := { env := [((0 : Nat), AV.str us0_1), ((3 : Nat), AV.int IntKind.i64 ui3)], h := [], kd := [] }
noncomputable def X43_0_0 (xu2_1 : Bool) : St := { env := [((2 : Nat), AV.bool xu2_1)], h := [], kd := [] }
noncomputable def X43_0_1 : St := { env := [], h := [], kd := [] }
noncomputable def g43_l0_step (fuel : Nat) (kn : Int → Option AV) (kx0 : Bool → Option AV) (kx1 : Option AV) (us0_1 : ByteArray) (ui3 : Int) : Option AV :=
  bif decide (ui3 < (↑us0_1.size : Int)) then bif decide ((0 : Int) ≤ ui3) then bif decide (ui3 < (↑us0_1.size : Int)) then bif bif decide (sbyte us0_1 ui3.toNat ≥ (97 : Int)) then decide ((0 : Int) ≤ ui3) else true then bif bif decide (sbyte us0_1 ui3.toNat ≥ (97 : Int)) then decide (ui3 < (↑us0_1.size : Int)) else true then bif decide ((0 : Int) ≤ ui3) then bif decide (ui3 < (↑us0_1.size : Int)) then bif bif decide (sbyte us0_1 ui3.toNat ≥ (48 : Int)) then decide ((0 : Int) ≤ ui3) else true then bif bif decide (sbyte us0_1 ui3.toNat ≥ (48 : Int)) then decide (ui3 < (↑us0_1.size : Int)) else true then bif bif !bif decide (sbyte us0_1 ui3.toNat ≥ (97 : Int)) then decide (sbyte us0_1 ui3.toNat ≤ (122 : Int)) else false then bif !bif decide (sbyte us0_1 ui3.toNat ≥ (48 : Int)) then decide (sbyte us0_1 ui3.toNat ≤ (57 : Int)) else false then true else ui3 == (0 : Int) else false then kx0 (false)
                    else kn (IntKind.i64.wrap (ui3 + (1 : Int)))
                  else none
                else none
              else none
            else none
          else none
        else none
      else none
    else none
  else kx1
noncomputable def g43_l0 (fuel : Nat) (kx0 : Bool → Option AV) (kx1 : Option AV) (us0_1 : ByteArray) : Nat → Int → Option AV
  | 0, _ => none
  | n' + 1, ui3 => g43_l0_step fuel (g43_l0 fuel kx0 kx1 us0_1 n') kx0 kx1 us0_1 ui3
noncomputable def T43_0 : TS' := ⟨[(0, TA.s), (3, TA.i IntKind.i64)], [], []⟩
noncomputable def F43_0 (fuel : Nat) (ps : List Pay) (K : Ex → St → Option AV) : Option AV := match ps with
  | .s us0_1 :: .i ui3 :: [] => g43_l0 fuel (fun xu2_1 => K (Ex.ret) (X43_0_0 xu2_1)) (K (Ex.exit (0 : Nat)) X43_0_1) us0_1 fuel ui3
  | _ => none
noncomputable def L43 (fuel : Nat) : Lam AV := [(1125899906826300, lam T43_0 (F43_0 fuel))]
noncomputable def G43 : Gam := []
theorem g43_l0_eq (fuel : Nat) (call : CallI AV) (kn : St → Option AV) (K : Ex → St → Option AV) (us0_1 : ByteArray) (ui30 : Int) (ui3 : Int) :
    exec Pr (G43) (L43 fuel) (fnNt Pr 43) fuel call (lp Pr 43 0).1 (lp Pr 43 0).2 (live (lp Pr 43 0).1 (lp Pr 43 0).2 0) (S43_0 us0_1 ui3) (fun e s => match e with | .normal => kn (headN (live (lp Pr 43 0).1 (lp Pr 43 0).2 0) (writes (lp Pr 43 0).1) (S43_0 us0_1 ui30) s) | e => K e s) =
    g43_l0_step fuel (fun ui3 => kn (S43_0 us0_1 ui3)) (fun xu2 => K (Ex.ret) (X43_0_0 xu2)) (K (Ex.exit (0 : Nat)) X43_0_1) us0_1 ui3 := by kernel_rfl
theorem g43_l0_ok (fuel : Nat) (call : CallI AV) (K : Ex → St → Option AV) (us0_1 : ByteArray) (ui30 : Int) : ∀ (n' : Nat) (ui3 : Int),
    loopK (exec Pr (G43) (L43 fuel) (fnNt Pr 43) fuel call (lp Pr 43 0).1 (lp Pr 43 0).2 (live (lp Pr 43 0).1 (lp Pr 43 0).2 0)) (headN (live (lp Pr 43 0).1 (lp Pr 43 0).2 0) (writes (lp Pr 43 0).1) (S43_0 us0_1 ui30)) n' (S43_0 us0_1 ui3) K = g43_l0 fuel (fun xu2 => K (Ex.ret) (X43_0_0 xu2)) (K (Ex.exit (0 : Nat)) X43_0_1) us0_1 n' ui3
  | 0, _ => rfl
  | n' + 1, ui3 => (g43_l0_eq fuel call (fun s => loopK (exec Pr (G43) (L43 fuel) (fnNt Pr 43) fuel call (lp Pr 43 0).1 (lp Pr 43 0).2 (live (lp Pr 43 0).1 (lp Pr 43 0).2 0)) (headN (live (lp Pr 43 0).1 (lp Pr 43 0).2 0) (writes (lp Pr 43 0).1) (S43_0 us0_1 ui30)) n' s K) K us0_1 ui30 ui3).trans
    (congrArg (fun kn => g43_l0_step fuel kn (fun xu2 => K (Ex.ret) (X43_0_0 xu2)) (K (Ex.exit (0 : Nat)) X43_0_1) us0_1 ui3) (funext fun _ => g43_l0_ok fuel call K us0_1 ui30 n' _))
theorem g43_L0 (fuel : Nat) (call : CallI AV) : LOk Pr (G43) (L43 fuel) (fnNt Pr 43) fuel call (lp Pr 43 0) := by
  refine .of T43_0 (F43_0 fuel) (fun L h => ?_) (fun ps st K r he hr => ?_)
  · have e : (L43 fuel).get (writes (lp Pr 43 0).1) = some (lam T43_0 (F43_0 fuel)) := by kernel_rfl
    exact (Option.some.inj (e.symm.trans h)).symm
  · unfold F43_0 at hr
    split at hr
    · obtain rfl := (Option.some.inj he).symm
      exact (g43_l0_ok fuel call K _ _ fuel _).trans hr
    · cases hr
noncomputable def g43 (fuel : Nat) (us0 : ByteArray) : Option AV :=
  bif bif decide ((↑us0.size : Int) < (1 : Int)) then true else decide ((↑us0.size : Int) > (8 : Int)) then some (AV.bool false)
  else g43_l0 fuel
    (fun (xu2 : Bool) => some (AV.bool xu2))
    (some (AV.bool true))
    (us0) fuel ((0 : Int))
theorem g43_run (fuel : Nat) (us0 : ByteArray) : run Pr (G43) [((0, 43), L43 fuel)] fuel 1 43 [AV.str us0] = g43 fuel us0 := by kernel_rfl
noncomputable def m43 (fuel : Nat) (xs : List AV) : Option AV := match xs with
  | [AV.str us0] => g43 fuel us0
  | _ => none
abbrev R43 : List RS := [RS.one LK.b]
theorem g43_sm (fuel : Nat) (hΓ : ∀ f s, (G43).get f = some s → SmOk Pr f s) (hP : NamesOk Pr) : SmOk Pr 43 (smM R43 (m43 fuel)) := by
  refine smM_ok (fuel := fuel) hΓ hP (LamOk.of 43 (L43 fuel) 1 (by kernel_rfl) (fun i hi => ?_)) 1 43 R43 _ (fun xs v h => ?_)
  · match i, hi with
    | 0, _ => exact g43_L0 fuel _
    | i + 1, hi => exact absurd hi (by omega)
  · unfold m43 at h
    split at h
    · exact (g43_run fuel _).trans h
    · cases h

/-! ### function 44 -/
noncomputable def L44 (fuel : Nat) : Lam AV := []
noncomputable def G44 : Gam := []
noncomputable def g44 (fuel : Nat) (un0 : Int) : Option AV :=
  some (AV.bool (bif decide (un0 ≥ (-1048576 : Int)) then decide (un0 ≤ (1048576 : Int)) else false))
theorem g44_run (fuel : Nat) (un0 : Int) : run Pr (G44) [((0, 44), L44 fuel)] fuel 1 44 [AV.int IntKind.i32 un0] = g44 fuel un0 := by kernel_rfl
noncomputable def m44 (fuel : Nat) (xs : List AV) : Option AV := match xs with
  | [AV.int IntKind.i32 un0] => g44 fuel un0
  | _ => none
abbrev R44 : List RS := [RS.one LK.b]
theorem g44_sm (fuel : Nat) (hΓ : ∀ f s, (G44).get f = some s → SmOk Pr f s) (hP : NamesOk Pr) : SmOk Pr 44 (smM R44 (m44 fuel)) := by
  refine smM_ok (fuel := fuel) hΓ hP (LamOk.of 44 (L44 fuel) 0 (by kernel_rfl) (fun i hi => ?_)) 1 44 R44 _ (fun xs v h => ?_)
  · match i, hi with
    | i + 0, hi => exact absurd hi (by omega)
  · unfold m44 at h
    split at h
    · exact (g44_run fuel _).trans h
    · cases h

/-! ### function 33 -/
noncomputable def L33 (M43 : List AV → Option AV) (M44 : List AV → Option AV) (fuel : Nat) : Lam AV := []
noncomputable def G33 (M43 : List AV → Option AV) (M44 : List AV → Option AV) : Gam := [(43, smM [RS.one LK.b] M43), (44, smM [RS.one LK.b] M44)]
noncomputable def g33 (M43 : List AV → Option AV) (M44 : List AV → Option AV) (fuel : Nat) (uj0_0 : ByteArray) (uj0_1 : Int) (uj0_2 : Int) (uj0_3 : Int) : Option AV :=
  bif okM [RS.one LK.b] (M43 [AV.str uj0_0]) then bif bif toB (getV (M43 [AV.str uj0_0])) then true else true then bif bif toB (getV (M43 [AV.str uj0_0])) then okM [RS.one LK.b] (M44 [AV.int IntKind.i32 uj0_1]) else true then bif bif bif toB (getV (M43 [AV.str uj0_0])) then toB (getV (M44 [AV.int IntKind.i32 uj0_1])) else false then true else true then bif bif bif toB (getV (M43 [AV.str uj0_0])) then toB (getV (M44 [AV.int IntKind.i32 uj0_1])) else false then okM [RS.one LK.b] (M44 [AV.int IntKind.i32 uj0_2]) else true then bif bif bif bif toB (getV (M43 [AV.str uj0_0])) then toB (getV (M44 [AV.int IntKind.i32 uj0_1])) else false then toB (getV (M44 [AV.int IntKind.i32 uj0_2])) else false then true else true then some (AV.bool (bif bif bif toB (getV (M43 [AV.str uj0_0])) then toB (getV (M44 [AV.int IntKind.i32 uj0_1])) else false then toB (getV (M44 [AV.int IntKind.i32 uj0_2])) else false then decide (uj0_3 ≤ (7 : Int)) else false))
            else none
          else none
        else none
      else none
    else none
  else none
theorem g33_run (M43 : List AV → Option AV) (M44 : List AV → Option AV) (fuel : Nat) (uj0_0 : ByteArray) (uj0_1 : Int) (uj0_2 : Int) (uj0_3 : Int) : run Pr (G33 M43 M44) [((0, 33), L33 M43 M44 fuel)] fuel 1 33 [AV.agg [AV.str uj0_0, AV.int IntKind.i32 uj0_1, AV.int IntKind.i32 uj0_2, AV.int IntKind.u8 uj0_3]] = g33 M43 M44 fuel uj0_0 uj0_1 uj0_2 uj0_3 := by kernel_rfl
noncomputable def m33 (M43 : List AV → Option AV) (M44 : List AV → Option AV) (fuel : Nat) (xs : List AV) : Option AV := match xs with
  | [AV.agg [AV.str uj0_0, AV.int IntKind.i32 uj0_1, AV.int IntKind.i32 uj0_2, AV.int IntKind.u8 uj0_3]] => g33 M43 M44 fuel uj0_0 uj0_1 uj0_2 uj0_3
  | _ => none
abbrev R33 : List RS := [RS.one LK.b]
theorem g33_sm (M43 : List AV → Option AV) (M44 : List AV → Option AV) (fuel : Nat) (hΓ : ∀ f s, (G33 M43 M44).get f = some s → SmOk Pr f s) (hP : NamesOk Pr) : SmOk Pr 33 (smM R33 (m33 M43 M44 fuel)) := by
  refine smM_ok (fuel := fuel) hΓ hP (LamOk.of 33 (L33 M43 M44 fuel) 0 (by kernel_rfl) (fun i hi => ?_)) 1 33 R33 _ (fun xs v h => ?_)
  · match i, hi with
    | i + 0, hi => exact absurd hi (by omega)
  · unfold m33 at h
    split at h
    · exact (g33_run M43 M44 fuel _ _ _ _).trans h
    · cases h

/-! ### function 16 -/
noncomputable def S16_0 (ul0n_2 : Nat) (ul0r_2 : Nat) (ul0g_2 : Nat → Nat → AV) (ui4_1 : Int) (uk5 : Int) : St := { env := [((0 : Nat), AV.ro (4 : Nat) ul0n_2 ul0r_2 ul0g_2), ((4 : Nat), AV.int IntKind.i64 ui4_1), ((5 : Nat), AV.int IntKind.i64 uk5)], h := [], kd := [] }
noncomputable def X16_0_0 (xu2_2 : Int) (xu3_2 : Int) : St := { env := [((2 : Nat), AV.int IntKind.i64 xu2_2), ((3 : Nat), AV.int IntKind.i64 xu3_2)], h := [], kd := [] }
noncomputable def X16_0_1 (xul0n_1 : Nat) (xul0r_1 : Nat) (xul0g_1 : Nat → Nat → AV) (xui4_1 : Int) : St := { env := [((0 : Nat), AV.ro (4 : Nat) xul0n_1 xul0r_1 xul0g_1), ((4 : Nat), AV.int IntKind.i64 xui4_1)], h := [], kd := [] }
noncomputable def g16_l0_step (M33 : List AV → Option AV) (fuel : Nat) (kn : Int → Option AV) (kx0 : Int → Int → Option AV) (kx1 : Nat → Nat → (Nat → Nat → AV) → Int → Option AV) (ul0n_2 : Nat) (ul0r_2 : Nat) (ul0g_2 : Nat → Nat → AV) (ui4_1 : Int) (uk5 : Int) : Option AV :=
  bif decide (uk5 < ui4_1) then bif decide ((0 : Int) ≤ uk5) then bif decide (uk5 < (↑ul0n_2 : Int)) then bif fitK LK.s (ul0g_2 uk5.toNat (0 : Nat)) then bif decide ((0 : Int) ≤ ui4_1) then bif decide (ui4_1 < (↑ul0n_2 : Int)) then bif fitK LK.s (ul0g_2 ui4_1.toNat (0 : Nat)) then bif bif !strEq (toS (ul0g_2 uk5.toNat (0 : Nat))) (toS (ul0g_2 ui4_1.toNat (0 : Nat))) then decide ((0 : Int) ≤ uk5) else true then bif bif !strEq (toS (ul0g_2 uk5.toNat (0 : Nat))) (toS (ul0g_2 ui4_1.toNat (0 : Nat))) then decide (uk5 < (↑ul0n_2 : Int)) else true then bif bif !strEq (toS (ul0g_2 uk5.toNat (0 : Nat))) (toS (ul0g_2 ui4_1.toNat (0 : Nat))) then true else true then bif bif !strEq (toS (ul0g_2 uk5.toNat (0 : Nat))) (toS (ul0g_2 ui4_1.toNat (0 : Nat))) then fitK (LK.i IntKind.i32) (ul0g_2 uk5.toNat (1 : Nat)) else true then bif bif !strEq (toS (ul0g_2 uk5.toNat (0 : Nat))) (toS (ul0g_2 ui4_1.toNat (0 : Nat))) then decide ((0 : Int) ≤ ui4_1) else true then bif bif !strEq (toS (ul0g_2 uk5.toNat (0 : Nat))) (toS (ul0g_2 ui4_1.toNat (0 : Nat))) then decide (ui4_1 < (↑ul0n_2 : Int)) else true then bif bif !strEq (toS (ul0g_2 uk5.toNat (0 : Nat))) (toS (ul0g_2 ui4_1.toNat (0 : Nat))) then true else true then bif bif !strEq (toS (ul0g_2 uk5.toNat (0 : Nat))) (toS (ul0g_2 ui4_1.toNat (0 : Nat))) then fitK (LK.i IntKind.i32) (ul0g_2 ui4_1.toNat (1 : Nat)) else true then bif bif toI (ul0g_2 uk5.toNat (1 : Nat)) == toI (ul0g_2 ui4_1.toNat (1 : Nat)) then decide ((0 : Int) ≤ uk5) else true then bif bif toI (ul0g_2 uk5.toNat (1 : Nat)) == toI (ul0g_2 ui4_1.toNat (1 : Nat)) then decide (uk5 < (↑ul0n_2 : Int)) else true then bif bif toI (ul0g_2 uk5.toNat (1 : Nat)) == toI (ul0g_2 ui4_1.toNat (1 : Nat)) then true else true then bif bif toI (ul0g_2 uk5.toNat (1 : Nat)) == toI (ul0g_2 ui4_1.toNat (1 : Nat)) then fitK (LK.i IntKind.i32) (ul0g_2 uk5.toNat (2 : Nat)) else true then bif bif toI (ul0g_2 uk5.toNat (1 : Nat)) == toI (ul0g_2 ui4_1.toNat (1 : Nat)) then decide ((0 : Int) ≤ ui4_1) else true then bif bif toI (ul0g_2 uk5.toNat (1 : Nat)) == toI (ul0g_2 ui4_1.toNat (1 : Nat)) then decide (ui4_1 < (↑ul0n_2 : Int)) else true then bif bif toI (ul0g_2 uk5.toNat (1 : Nat)) == toI (ul0g_2 ui4_1.toNat (1 : Nat)) then true else true then bif bif toI (ul0g_2 uk5.toNat (1 : Nat)) == toI (ul0g_2 ui4_1.toNat (1 : Nat)) then fitK (LK.i IntKind.i32) (ul0g_2 ui4_1.toNat (2 : Nat)) else true then bif bif strEq (toS (ul0g_2 uk5.toNat (0 : Nat))) (toS (ul0g_2 ui4_1.toNat (0 : Nat))) then true else bif toI (ul0g_2 uk5.toNat (1 : Nat)) == toI (ul0g_2 ui4_1.toNat (1 : Nat)) then toI (ul0g_2 uk5.toNat (2 : Nat)) == toI (ul0g_2 ui4_1.toNat (2 : Nat)) else false then kx0 ((280 : Int)) (ui4_1)
                                                else kn (IntKind.i64.wrap (uk5 + (1 : Int)))
                                              else none
                                            else none
                                          else none
                                        else none
                                      else none
                                    else none
                                  else none
                                else none
                              else none
                            else none
                          else none
                        else none
                      else none
                    else none
                  else none
                else none
              else none
            else none
          else none
        else none
      else none
    else none
  else kx1 (ul0n_2) (ul0r_2) (ul0g_2) (ui4_1)
noncomputable def g16_l0 (M33 : List AV → Option AV) (fuel : Nat) (kx0 : Int → Int → Option AV) (kx1 : Nat → Nat → (Nat → Nat → AV) → Int → Option AV) (ul0n_2 : Nat) (ul0r_2 : Nat) (ul0g_2 : Nat → Nat → AV) (ui4_1 : Int) : Nat → Int → Option AV
  | 0, _ => none
  | n' + 1, uk5 => g16_l0_step M33 fuel (g16_l0 M33 fuel kx0 kx1 ul0n_2 ul0r_2 ul0g_2 ui4_1 n') kx0 kx1 ul0n_2 ul0r_2 ul0g_2 ui4_1 uk5
noncomputable def T16_0 : TS' := ⟨[(0, TA.ro 4), (4, TA.i IntKind.i64), (5, TA.i IntKind.i64)], [], []⟩
noncomputable def F16_0 (M33 : List AV → Option AV) (fuel : Nat) (ps : List Pay) (K : Ex → St → Option AV) : Option AV := match ps with
  | .n ul0n_2 :: .n ul0r_2 :: .g ul0g_2 :: .i ui4_1 :: .i uk5 :: [] => g16_l0 M33 fuel (fun xu2_2 xu3_2 => K (Ex.ret) (X16_0_0 xu2_2 xu3_2)) (fun xul0n_1 xul0r_1 xul0g_1 xui4_1 => K (Ex.exit (2 : Nat)) (X16_0_1 xul0n_1 xul0r_1 xul0g_1 xui4_1)) ul0n_2 ul0r_2 ul0g_2 ui4_1 fuel uk5
  | _ => none
noncomputable def S16_1 (ul0n_1 : Nat) (ul0r_1 : Nat) (ul0g_1 : Nat → Nat → AV) (ui4 : Int) : St := { env := [((0 : Nat), AV.ro (4 : Nat) ul0n_1 ul0r_1 ul0g_1), ((4 : Nat), AV.int IntKind.i64 ui4)], h := [], kd := [] }
noncomputable def X16_1_0 (xu2_3 : Int) (xu3_3 : Int) : St := { env := [((2 : Nat), AV.int IntKind.i64 xu2_3), ((3 : Nat), AV.int IntKind.i64 xu3_3)], h := [], kd := [] }
noncomputable def X16_1_1 : St := { env := [], h := [], kd := [] }
noncomputable def g16_l1_step (M33 : List AV → Option AV) (fuel : Nat) (kn : Nat → Nat → (Nat → Nat → AV) → Int → Option AV) (kx0 : Int → Int → Option AV) (kx1 : Option AV) (ul0n_1 : Nat) (ul0r_1 : Nat) (ul0g_1 : Nat → Nat → AV) (ui4 : Int) : Option AV :=
  bif decide (ui4 < (↑ul0n_1 : Int)) then bif decide ((0 : Int) ≤ ui4) then bif decide (ui4 < (↑ul0n_1 : Int)) then bif fitKs [LK.s, LK.i IntKind.i32, LK.i IntKind.i32, LK.i IntKind.u8] [ul0g_1 ui4.toNat (0 : Nat), ul0g_1 ui4.toNat (1 : Nat), ul0g_1 ui4.toNat (2 : Nat), ul0g_1 ui4.toNat (3 : Nat)] then bif okM [RS.one LK.b] (M33 [AV.agg [AV.str (toS (ul0g_1 ui4.toNat (0 : Nat))), AV.int IntKind.i32 (toI (ul0g_1 ui4.toNat (1 : Nat))), AV.int IntKind.i32 (toI (ul0g_1 ui4.toNat (2 : Nat))), AV.int IntKind.u8 (toI (ul0g_1 ui4.toNat (3 : Nat)))]]) then bif !toB (getV (M33 [AV.agg [AV.str (toS (ul0g_1 ui4.toNat (0 : Nat))), AV.int IntKind.i32 (toI (ul0g_1 ui4.toNat (1 : Nat))), AV.int IntKind.i32 (toI (ul0g_1 ui4.toNat (2 : Nat))), AV.int IntKind.u8 (toI (ul0g_1 ui4.toNat (3 : Nat)))]])) then kx0 ((280 : Int)) (ui4)
            else g16_l0 M33 fuel
              (fun (xu2 : Int) (xu3 : Int) => kx0 (xu2) (xu3))
              (fun (xul0n : Nat) (xul0r : Nat) (xul0g : Nat → Nat → AV) (xui4 : Int) => kn (xul0n) (xul0r) (xul0g) (IntKind.i64.wrap (xui4 + (1 : Int))))
              (ul0n_1)
              (ul0r_1)
              (ul0g_1)
              (ui4) fuel ((0 : Int))
          else none
        else none
      else none
    else none
  else kx1
noncomputable def g16_l1 (M33 : List AV → Option AV) (fuel : Nat) (kx0 : Int → Int → Option AV) (kx1 : Option AV) : Nat → Nat → Nat → (Nat → Nat → AV) → Int → Option AV
  | 0, _, _, _, _ => none
  | n' + 1, ul0n_1, ul0r_1, ul0g_1, ui4 => g16_l1_step M33 fuel (g16_l1 M33 fuel kx0 kx1 n') kx0 kx1 ul0n_1 ul0r_1 ul0g_1 ui4
noncomputable def T16_1 : TS' := ⟨[(0, TA.ro 4), (4, TA.i IntKind.i64)], [], []⟩
noncomputable def F16_1 (M33 : List AV → Option AV) (fuel : Nat) (ps : List Pay) (K : Ex → St → Option AV) : Option AV := match ps with
  | .n ul0n_1 :: .n ul0r_1 :: .g ul0g_1 :: .i ui4 :: [] => g16_l1 M33 fuel (fun xu2_3 xu3_3 => K (Ex.ret) (X16_1_0 xu2_3 xu3_3)) (K (Ex.exit (0 : Nat)) X16_1_1) fuel ul0n_1 ul0r_1 ul0g_1 ui4
  | _ => none
noncomputable def L16 (M33 : List AV → Option AV) (fuel : Nat) : Lam AV := [(36893488147414908972, lam T16_0 (F16_0 M33 fuel)), (36893488147419102780, lam T16_1 (F16_1 M33 fuel))]
noncomputable def G16 (M33 : List AV → Option AV) : Gam := [(33, smM [RS.one LK.b] M33)]
theorem g16_l0_eq (M33 : List AV → Option AV) (fuel : Nat) (call : CallI AV) (kn : St → Option AV) (K : Ex → St → Option AV) (ul0n_2 : Nat) (ul0r_2 : Nat) (ul0g_2 : Nat → Nat → AV) (ui4_1 : Int) (uk50 : Int) (uk5 : Int) :
    exec Pr (G16 M33) (L16 M33 fuel) (fnNt Pr 16) fuel call (lp Pr 16 1).1 (lp Pr 16 1).2 (live (lp Pr 16 1).1 (lp Pr 16 1).2 0) (S16_0 ul0n_2 ul0r_2 ul0g_2 ui4_1 uk5) (fun e s => match e with | .normal => kn (headN (live (lp Pr 16 1).1 (lp Pr 16 1).2 0) (writes (lp Pr 16 1).1) (S16_0 ul0n_2 ul0r_2 ul0g_2 ui4_1 uk50) s) | e => K e s) =
    g16_l0_step M33 fuel (fun uk5 => kn (S16_0 ul0n_2 ul0r_2 ul0g_2 ui4_1 uk5)) (fun xu2 xu3 => K (Ex.ret) (X16_0_0 xu2 xu3)) (fun xul0n xul0r xul0g xui4 => K (Ex.exit (2 : Nat)) (X16_0_1 xul0n xul0r xul0g xui4)) ul0n_2 ul0r_2 ul0g_2 ui4_1 uk5 := by kernel_rfl
theorem g16_l0_ok (M33 : List AV → Option AV) (fuel : Nat) (call : CallI AV) (K : Ex → St → Option AV) (ul0n_2 : Nat) (ul0r_2 : Nat) (ul0g_2 : Nat → Nat → AV) (ui4_1 : Int) (uk50 : Int) : ∀ (n' : Nat) (uk5 : Int),
    loopK (exec Pr (G16 M33) (L16 M33 fuel) (fnNt Pr 16) fuel call (lp Pr 16 1).1 (lp Pr 16 1).2 (live (lp Pr 16 1).1 (lp Pr 16 1).2 0)) (headN (live (lp Pr 16 1).1 (lp Pr 16 1).2 0) (writes (lp Pr 16 1).1) (S16_0 ul0n_2 ul0r_2 ul0g_2 ui4_1 uk50)) n' (S16_0 ul0n_2 ul0r_2 ul0g_2 ui4_1 uk5) K = g16_l0 M33 fuel (fun xu2 xu3 => K (Ex.ret) (X16_0_0 xu2 xu3)) (fun xul0n xul0r xul0g xui4 => K (Ex.exit (2 : Nat)) (X16_0_1 xul0n xul0r xul0g xui4)) ul0n_2 ul0r_2 ul0g_2 ui4_1 n' uk5
  | 0, _ => rfl
  | n' + 1, uk5 => (g16_l0_eq M33 fuel call (fun s => loopK (exec Pr (G16 M33) (L16 M33 fuel) (fnNt Pr 16) fuel call (lp Pr 16 1).1 (lp Pr 16 1).2 (live (lp Pr 16 1).1 (lp Pr 16 1).2 0)) (headN (live (lp Pr 16 1).1 (lp Pr 16 1).2 0) (writes (lp Pr 16 1).1) (S16_0 ul0n_2 ul0r_2 ul0g_2 ui4_1 uk50)) n' s K) K ul0n_2 ul0r_2 ul0g_2 ui4_1 uk50 uk5).trans
    (congrArg (fun kn => g16_l0_step M33 fuel kn (fun xu2 xu3 => K (Ex.ret) (X16_0_0 xu2 xu3)) (fun xul0n xul0r xul0g xui4 => K (Ex.exit (2 : Nat)) (X16_0_1 xul0n xul0r xul0g xui4)) ul0n_2 ul0r_2 ul0g_2 ui4_1 uk5) (funext fun _ => g16_l0_ok M33 fuel call K ul0n_2 ul0r_2 ul0g_2 ui4_1 uk50 n' _))
theorem g16_L0 (M33 : List AV → Option AV) (fuel : Nat) (call : CallI AV) : LOk Pr (G16 M33) (L16 M33 fuel) (fnNt Pr 16) fuel call (lp Pr 16 1) := by
  refine .of T16_0 (F16_0 M33 fuel) (fun L h => ?_) (fun ps st K r he hr => ?_)
  · have e : (L16 M33 fuel).get (writes (lp Pr 16 1).1) = some (lam T16_0 (F16_0 M33 fuel)) := by kernel_rfl
    exact (Option.some.inj (e.symm.trans h)).symm
  · unfold F16_0 at hr
    split at hr
    · obtain rfl := (Option.some.inj he).symm
      exact (g16_l0_ok M33 fuel call K _ _ _ _ _ fuel _).trans hr
    · cases hr
theorem g16_l1_eq (M33 : List AV → Option AV) (fuel : Nat) (call : CallI AV) (kn : St → Option AV) (K : Ex → St → Option AV) (ul0n_10 : Nat) (ul0r_10 : Nat) (ul0g_10 : Nat → Nat → AV) (ui40 : Int) (ul0n_1 : Nat) (ul0r_1 : Nat) (ul0g_1 : Nat → Nat → AV) (ui4 : Int) :
    exec Pr (G16 M33) (L16 M33 fuel) (fnNt Pr 16) fuel call (lp Pr 16 0).1 (lp Pr 16 0).2 (live (lp Pr 16 0).1 (lp Pr 16 0).2 0) (S16_1 ul0n_1 ul0r_1 ul0g_1 ui4) (fun e s => match e with | .normal => kn (headN (live (lp Pr 16 0).1 (lp Pr 16 0).2 0) (writes (lp Pr 16 0).1) (S16_1 ul0n_10 ul0r_10 ul0g_10 ui40) s) | e => K e s) =
    g16_l1_step M33 fuel (fun ul0n_1 ul0r_1 ul0g_1 ui4 => kn (S16_1 ul0n_1 ul0r_1 ul0g_1 ui4)) (fun xu2 xu3 => K (Ex.ret) (X16_1_0 xu2 xu3)) (K (Ex.exit (0 : Nat)) X16_1_1) ul0n_1 ul0r_1 ul0g_1 ui4 := by kernel_rfl
theorem g16_l1_ok (M33 : List AV → Option AV) (fuel : Nat) (call : CallI AV) (K : Ex → St → Option AV) (ul0n_10 : Nat) (ul0r_10 : Nat) (ul0g_10 : Nat → Nat → AV) (ui40 : Int) : ∀ (n' : Nat) (ul0n_1 : Nat) (ul0r_1 : Nat) (ul0g_1 : Nat → Nat → AV) (ui4 : Int),
    loopK (exec Pr (G16 M33) (L16 M33 fuel) (fnNt Pr 16) fuel call (lp Pr 16 0).1 (lp Pr 16 0).2 (live (lp Pr 16 0).1 (lp Pr 16 0).2 0)) (headN (live (lp Pr 16 0).1 (lp Pr 16 0).2 0) (writes (lp Pr 16 0).1) (S16_1 ul0n_10 ul0r_10 ul0g_10 ui40)) n' (S16_1 ul0n_1 ul0r_1 ul0g_1 ui4) K = g16_l1 M33 fuel (fun xu2 xu3 => K (Ex.ret) (X16_1_0 xu2 xu3)) (K (Ex.exit (0 : Nat)) X16_1_1) n' ul0n_1 ul0r_1 ul0g_1 ui4
  | 0, _, _, _, _ => rfl
  | n' + 1, ul0n_1, ul0r_1, ul0g_1, ui4 => (g16_l1_eq M33 fuel call (fun s => loopK (exec Pr (G16 M33) (L16 M33 fuel) (fnNt Pr 16) fuel call (lp Pr 16 0).1 (lp Pr 16 0).2 (live (lp Pr 16 0).1 (lp Pr 16 0).2 0)) (headN (live (lp Pr 16 0).1 (lp Pr 16 0).2 0) (writes (lp Pr 16 0).1) (S16_1 ul0n_10 ul0r_10 ul0g_10 ui40)) n' s K) K ul0n_10 ul0r_10 ul0g_10 ui40 ul0n_1 ul0r_1 ul0g_1 ui4).trans
    (congrArg (fun kn => g16_l1_step M33 fuel kn (fun xu2 xu3 => K (Ex.ret) (X16_1_0 xu2 xu3)) (K (Ex.exit (0 : Nat)) X16_1_1) ul0n_1 ul0r_1 ul0g_1 ui4) (funext fun _ => funext fun _ => funext fun _ => funext fun _ => g16_l1_ok M33 fuel call K ul0n_10 ul0r_10 ul0g_10 ui40 n' _ _ _ _))
theorem g16_L1 (M33 : List AV → Option AV) (fuel : Nat) (call : CallI AV) : LOk Pr (G16 M33) (L16 M33 fuel) (fnNt Pr 16) fuel call (lp Pr 16 0) := by
  refine .of T16_1 (F16_1 M33 fuel) (fun L h => ?_) (fun ps st K r he hr => ?_)
  · have e : (L16 M33 fuel).get (writes (lp Pr 16 0).1) = some (lam T16_1 (F16_1 M33 fuel)) := by kernel_rfl
    exact (Option.some.inj (e.symm.trans h)).symm
  · unfold F16_1 at hr
    split at hr
    · obtain rfl := (Option.some.inj he).symm
      exact (g16_l1_ok M33 fuel call K _ _ _ _ fuel _ _ _ _).trans hr
    · cases hr
noncomputable def g16 (M33 : List AV → Option AV) (fuel : Nat) (ul0n : Nat) (ul0r : Nat) (ul0g : Nat → Nat → AV) : Option AV :=
  bif decide ((↑ul0n : Int) > (16 : Int)) then some (AV.tup [AV.int IntKind.i64 (3 : Int), AV.int IntKind.i64 (0 : Int)])
  else g16_l1 M33 fuel
    (fun (xu2_1 : Int) (xu3_1 : Int) => some (AV.tup [AV.int IntKind.i64 xu2_1, AV.int IntKind.i64 xu3_1]))
    (some (AV.tup [AV.int IntKind.i64 (0 : Int), AV.int IntKind.i64 (0 : Int)])) fuel (ul0n) (ul0r) (ul0g) ((0 : Int))
theorem g16_run (M33 : List AV → Option AV) (fuel : Nat) (ul0n : Nat) (ul0r : Nat) (ul0g : Nat → Nat → AV) : run Pr (G16 M33) [((0, 16), L16 M33 fuel)] fuel 1 16 [AV.ro (4 : Nat) ul0n ul0r ul0g] = g16 M33 fuel ul0n ul0r ul0g := by kernel_rfl
noncomputable def m16 (M33 : List AV → Option AV) (fuel : Nat) (xs : List AV) : Option AV := match xs with
  | [AV.ro (4 : Nat) ul0n ul0r ul0g] => g16 M33 fuel ul0n ul0r ul0g
  | _ => none
abbrev R16 : List RS := [RS.one (LK.i IntKind.i64), RS.one (LK.i IntKind.i64)]
theorem g16_sm (M33 : List AV → Option AV) (fuel : Nat) (hΓ : ∀ f s, (G16 M33).get f = some s → SmOk Pr f s) (hP : NamesOk Pr) : SmOk Pr 16 (smM R16 (m16 M33 fuel)) := by
  refine smM_ok (fuel := fuel) hΓ hP (LamOk.of 16 (L16 M33 fuel) 2 (by kernel_rfl) (fun i hi => ?_)) 1 16 R16 _ (fun xs v h => ?_)
  · match i, hi with
    | 1, _ => exact g16_L0 M33 fuel _
    | 0, _ => exact g16_L1 M33 fuel _
    | i + 2, hi => exact absurd hi (by omega)
  · unfold m16 at h
    split at h
    · exact (g16_run M33 fuel _ _ _).trans h
    · cases h

end Go.Proofs.Tryz
end
section
namespace Go.Proofs.Tryz
open Go Go.Am
set_option linter.unusedVariables false
set_option maxRecDepth 1000000
/-! ### function 34 -/
noncomputable def S34_0 (us0_1 : ByteArray) (ui3 : Int) : St := { env := [((0 : Nat), AV.str us0_1), ((3 : Nat), AV.int IntKind.i64 ui3)], h := [], kd := [] }
noncomputable def X34_0_0 (xu2_1 : Bool) : St := { env := [((2 : Nat), AV.bool xu2_1)], h := [], kd := [] }
noncomputable def X34_0_1 : St := { env := [], h := [], kd := [] }
noncomputable def g34_l0_step (fuel : Nat) (kn : Int → Option AV) (kx0 : Bool → Option AV) (kx1 : Option AV) (us0_1 : ByteArray) (ui3 : Int) : Option AV :=
  bif decide (ui3 < (↑us0_1.size : Int)) then bif decide ((0 : Int) ≤ ui3) then bif decide (ui3 < (↑us0_1.size : Int)) then bif bif !decide (sbyte us0_1 ui3.toNat < (97 : Int)) then decide ((0 : Int) ≤ ui3) else true then bif bif !decide (sbyte us0_1 ui3.toNat < (97 : Int)) then decide (ui3 < (↑us0_1.size : Int)) else true then bif bif bif decide (sbyte us0_1 ui3.toNat < (97 : Int)) then true else decide (sbyte us0_1 ui3.toNat > (122 : Int)) then decide ((0 : Int) ≤ ui3) else true then bif bif bif decide (sbyte us0_1 ui3.toNat < (97 : Int)) then true else decide (sbyte us0_1 ui3.toNat > (122 : Int)) then decide (ui3 < (↑us0_1.size : Int)) else true then bif bif !decide (sbyte us0_1 ui3.toNat < (48 : Int)) then decide ((0 : Int) ≤ ui3) else true then bif bif !decide (sbyte us0_1 ui3.toNat < (48 : Int)) then decide (ui3 < (↑us0_1.size : Int)) else true then bif bif bif decide (sbyte us0_1 ui3.toNat < (97 : Int)) then true else decide (sbyte us0_1 ui3.toNat > (122 : Int)) then bif decide (sbyte us0_1 ui3.toNat < (48 : Int)) then true else decide (sbyte us0_1 ui3.toNat > (57 : Int)) else false then kx0 (false)
                    else kn (IntKind.i64.wrap (ui3 + (1 : Int)))
                  else none
                else none
              else none
            else none
          else none
        else none
      else none
    else none
  else kx1
noncomputable def g34_l0 (fuel : Nat) (kx0 : Bool → Option AV) (kx1 : Option AV) (us0_1 : ByteArray) : Nat → Int → Option AV
  | 0, _ => none
  | n' + 1, ui3 => g34_l0_step fuel (g34_l0 fuel kx0 kx1 us0_1 n') kx0 kx1 us0_1 ui3
noncomputable def T34_0 : TS' := ⟨[(0, TA.s), (3, TA.i IntKind.i64)], [], []⟩
noncomputable def F34_0 (fuel : Nat) (ps : List Pay) (K : Ex → St → Option AV) : Option AV := match ps with
  | .s us0_1 :: .i ui3 :: [] => g34_l0 fuel (fun xu2_1 => K (Ex.ret) (X34_0_0 xu2_1)) (K (Ex.exit (0 : Nat)) X34_0_1) us0_1 fuel ui3
  | _ => none
noncomputable def L34 (fuel : Nat) : Lam AV := [(562949951324172, lam T34_0 (F34_0 fuel))]
noncomputable def G34 : Gam := []
theorem g34_l0_eq (fuel : Nat) (call : CallI AV) (kn : St → Option AV) (K : Ex → St → Option AV) (us0_1 : ByteArray) (ui30 : Int) (ui3 : Int) :
    exec Pr (G34) (L34 fuel) (fnNt Pr 34) fuel call (lp Pr 34 0).1 (lp Pr 34 0).2 (live (lp Pr 34 0).1 (lp Pr 34 0).2 0) (S34_0 us0_1 ui3) (fun e s => match e with | .normal => kn (headN (live (lp Pr 34 0).1 (lp Pr 34 0).2 0) (writes (lp Pr 34 0).1) (S34_0 us0_1 ui30) s) | e => K e s) =
    g34_l0_step fuel (fun ui3 => kn (S34_0 us0_1 ui3)) (fun xu2 => K (Ex.ret) (X34_0_0 xu2)) (K (Ex.exit (0 : Nat)) X34_0_1) us0_1 ui3 := by kernel_rfl
theorem g34_l0_ok (fuel : Nat) (call : CallI AV) (K : Ex → St → Option AV) (us0_1 : ByteArray) (ui30 : Int) : ∀ (n' : Nat) (ui3 : Int),
    loopK (exec Pr (G34) (L34 fuel) (fnNt Pr 34) fuel call (lp Pr 34 0).1 (lp Pr 34 0).2 (live (lp Pr 34 0).1 (lp Pr 34 0).2 0)) (headN (live (lp Pr 34 0).1 (lp Pr 34 0).2 0) (writes (lp Pr 34 0).1) (S34_0 us0_1 ui30)) n' (S34_0 us0_1 ui3) K = g34_l0 fuel (fun xu2 => K (Ex.ret) (X34_0_0 xu2)) (K (Ex.exit (0 : Nat)) X34_0_1) us0_1 n' ui3
  | 0, _ => rfl
  | n' + 1, ui3 => (g34_l0_eq fuel call (fun s => loopK (exec Pr (G34) (L34 fuel) (fnNt Pr 34) fuel call (lp Pr 34 0).1 (lp Pr 34 0).2 (live (lp Pr 34 0).1 (lp Pr 34 0).2 0)) (headN (live (lp Pr 34 0).1 (lp Pr 34 0).2 0) (writes (lp Pr 34 0).1) (S34_0 us0_1 ui30)) n' s K) K us0_1 ui30 ui3).trans
    (congrArg (fun kn => g34_l0_step fuel kn (fun xu2 => K (Ex.ret) (X34_0_0 xu2)) (K (Ex.exit (0 : Nat)) X34_0_1) us0_1 ui3) (funext fun _ => g34_l0_ok fuel call K us0_1 ui30 n' _))
theorem g34_L0 (fuel : Nat) (call : CallI AV) : LOk Pr (G34) (L34 fuel) (fnNt Pr 34) fuel call (lp Pr 34 0) := by
  refine .of T34_0 (F34_0 fuel) (fun L h => ?_) (fun ps st K r he hr => ?_)
  · have e : (L34 fuel).get (writes (lp Pr 34 0).1) = some (lam T34_0 (F34_0 fuel)) := by kernel_rfl
    exact (Option.some.inj (e.symm.trans h)).symm
  · unfold F34_0 at hr
    split at hr
    · obtain rfl := (Option.some.inj he).symm
      exact (g34_l0_ok fuel call K _ _ fuel _).trans hr
    · cases hr
noncomputable def g34 (fuel : Nat) (us0 : ByteArray) : Option AV :=
  bif bif !bif strEq us0 { data := #[] } then true else decide ((↑us0.size : Int) > (8 : Int)) then true else true then bif bif !bif strEq us0 { data := #[] } then true else decide ((↑us0.size : Int) > (8 : Int)) then decide ((0 : Int) < (↑us0.size : Int)) else true then bif bif !bif bif strEq us0 { data := #[] } then true else decide ((↑us0.size : Int) > (8 : Int)) then true else decide (sbyte us0 (0 : Nat) < (97 : Int)) then true else true then bif bif !bif bif strEq us0 { data := #[] } then true else decide ((↑us0.size : Int) > (8 : Int)) then true else decide (sbyte us0 (0 : Nat) < (97 : Int)) then decide ((0 : Int) < (↑us0.size : Int)) else true then bif bif bif bif strEq us0 { data := #[] } then true else decide ((↑us0.size : Int) > (8 : Int)) then true else decide (sbyte us0 (0 : Nat) < (97 : Int)) then true else decide (sbyte us0 (0 : Nat) > (122 : Int)) then some (AV.bool false)
          else g34_l0 fuel
            (fun (xu2 : Bool) => some (AV.bool xu2))
            (some (AV.bool true))
            (us0) fuel ((0 : Int))
        else none
      else none
    else none
  else none
theorem g34_run (fuel : Nat) (us0 : ByteArray) : run Pr (G34) [((0, 34), L34 fuel)] fuel 1 34 [AV.str us0] = g34 fuel us0 := by kernel_rfl
noncomputable def m34 (fuel : Nat) (xs : List AV) : Option AV := match xs with
  | [AV.str us0] => g34 fuel us0
  | _ => none
abbrev R34 : List RS := [RS.one LK.b]
theorem g34_sm (fuel : Nat) (hΓ : ∀ f s, (G34).get f = some s → SmOk Pr f s) (hP : NamesOk Pr) : SmOk Pr 34 (smM R34 (m34 fuel)) := by
  refine smM_ok (fuel := fuel) hΓ hP (LamOk.of 34 (L34 fuel) 1 (by kernel_rfl) (fun i hi => ?_)) 1 34 R34 _ (fun xs v h => ?_)
  · match i, hi with
    | 0, _ => exact g34_L0 fuel _
    | i + 1, hi => exact absurd hi (by omega)
  · unfold m34 at h
    split at h
    · exact (g34_run fuel _).trans h
    · cases h

/-! ### function 35 -/
noncomputable def L35 (fuel : Nat) : Lam AV := []
noncomputable def G35 : Gam := []
noncomputable def g35 (fuel : Nat) (ux0 : Option Nat) : Option AV :=
  some (AV.bool (bif ford FloatKind.f64 ux0 (some (4336966441157787648 : Nat)) == some Ordering.gt || ford FloatKind.f64 ux0 (some (4336966441157787648 : Nat)) == some Ordering.eq then ford FloatKind.f64 ux0 (some (4877398396442247168 : Nat)) == some Ordering.lt || ford FloatKind.f64 ux0 (some (4877398396442247168 : Nat)) == some Ordering.eq else false))
theorem g35_run (fuel : Nat) (ux0 : Option Nat) : run Pr (G35) [((0, 35), L35 fuel)] fuel 1 35 [AV.flt FloatKind.f64 ux0] = g35 fuel ux0 := by kernel_rfl
noncomputable def m35 (fuel : Nat) (xs : List AV) : Option AV := match xs with
  | [AV.flt FloatKind.f64 ux0] => g35 fuel ux0
  | _ => none
abbrev R35 : List RS := [RS.one LK.b]
theorem g35_sm (fuel : Nat) (hΓ : ∀ f s, (G35).get f = some s → SmOk Pr f s) (hP : NamesOk Pr) : SmOk Pr 35 (smM R35 (m35 fuel)) := by
  refine smM_ok (fuel := fuel) hΓ hP (LamOk.of 35 (L35 fuel) 0 (by kernel_rfl) (fun i hi => ?_)) 1 35 R35 _ (fun xs v h => ?_)
  · match i, hi with
    | i + 0, hi => exact absurd hi (by omega)
  · unfold m35 at h
    split at h
    · exact (g35_run fuel _).trans h
    · cases h

/-! ### function 36 -/
noncomputable def L36 (fuel : Nat) : Lam AV := []
noncomputable def G36 : Gam := [(32, Go.Am.sBits)]
noncomputable def g36 (fuel : Nat) (ux0 : Option Nat) : Option AV :=
  bif sBits.ok [AV.flt FloatKind.f64 ux0] then some (AV.bool (decide (IntKind.i64.wrap (↑(ux0.getD (0 : Nat)) : Int) < (0 : Int))))
  else none
theorem g36_run (fuel : Nat) (ux0 : Option Nat) : run Pr (G36) [((0, 36), L36 fuel)] fuel 1 36 [AV.flt FloatKind.f64 ux0] = g36 fuel ux0 := by kernel_rfl
noncomputable def m36 (fuel : Nat) (xs : List AV) : Option AV := match xs with
  | [AV.flt FloatKind.f64 ux0] => g36 fuel ux0
  | _ => none
abbrev R36 : List RS := [RS.one LK.b]
theorem g36_sm (fuel : Nat) (hΓ : ∀ f s, (G36).get f = some s → SmOk Pr f s) (hP : NamesOk Pr) : SmOk Pr 36 (smM R36 (m36 fuel)) := by
  refine smM_ok (fuel := fuel) hΓ hP (LamOk.of 36 (L36 fuel) 0 (by kernel_rfl) (fun i hi => ?_)) 1 36 R36 _ (fun xs v h => ?_)
  · match i, hi with
    | i + 0, hi => exact absurd hi (by omega)
  · unfold m36 at h
    split at h
    · exact (g36_run fuel _).trans h
    · cases h

/-! ### function 17 -/
noncomputable def S17_0 (at1_1 : Int) (uk6 : Int) (h0_0n : Nat) (h0_0r : Nat) (h0_0g : Nat → Nat → AV) (h0_1n : Nat) (h0_1r : Nat) (h0_1g : Nat → Nat → AV) (h1_0 : ByteArray) (h1_1 : Int) (h1_2 : Int) (h1_3 : Int) (h1_4 : Bool) (h1_5 : Bool) (h1_6 : Option Nat) (h1_7 : Option Nat) (h1_8 : Option Nat) : St := { env := [((1 : Nat), AV.int IntKind.i64 at1_1), ((2 : Nat), AV.ptr (0 : Nat) (0 : Nat)), ((5 : Nat), AV.ptr (1 : Nat) (0 : Nat)), ((6 : Nat), AV.int IntKind.i64 uk6)], h := [Blk.box [AV.ro (4 : Nat) h0_0n h0_0r h0_0g, AV.ro (9 : Nat) h0_1n h0_1r h0_1g], Blk.box [AV.str h1_0, AV.int IntKind.u8 h1_1, AV.int IntKind.i64 h1_2, AV.int IntKind.i64 h1_3, AV.bool h1_4, AV.bool h1_5, AV.flt FloatKind.f64 h1_6, AV.flt FloatKind.f64 h1_7, AV.flt FloatKind.f64 h1_8]], kd := [] }
noncomputable def X17_0_0 (xu4_1 : Bool) (xh0_0n_2 : Nat) (xh0_0r_2 : Nat) (xh0_0g_2 : Nat → Nat → AV) (xh0_1n_2 : Nat) (xh0_1r_2 : Nat) (xh0_1g_2 : Nat → Nat → AV) (xh1_0_2 : ByteArray) (xh1_1_2 : Int) (xh1_2_2 : Int) (xh1_3_2 : Int) (xh1_4_2 : Bool) (xh1_5_2 : Bool) (xh1_6_2 : Option Nat) (xh1_7_2 : Option Nat) (xh1_8_2 : Option Nat) : St := { env := [((4 : Nat), AV.bool xu4_1)], h := [Blk.box [AV.ro (4 : Nat) xh0_0n_2 xh0_0r_2 xh0_0g_2, AV.ro (9 : Nat) xh0_1n_2 xh0_1r_2 xh0_1g_2], Blk.box [AV.str xh1_0_2, AV.int IntKind.u8 xh1_1_2, AV.int IntKind.i64 xh1_2_2, AV.int IntKind.i64 xh1_3_2, AV.bool xh1_4_2, AV.bool xh1_5_2, AV.flt FloatKind.f64 xh1_6_2, AV.flt FloatKind.f64 xh1_7_2, AV.flt FloatKind.f64 xh1_8_2]], kd := [] }
noncomputable def X17_0_1 (xh0_0n_3 : Nat) (xh0_0r_3 : Nat) (xh0_0g_3 : Nat → Nat → AV) (xh0_1n_3 : Nat) (xh0_1r_3 : Nat) (xh0_1g_3 : Nat → Nat → AV) (xh1_0_3 : ByteArray) (xh1_1_3 : Int) (xh1_2_3 : Int) (xh1_3_3 : Int) (xh1_4_3 : Bool) (xh1_5_3 : Bool) (xh1_6_3 : Option Nat) (xh1_7_3 : Option Nat) (xh1_8_3 : Option Nat) : St := { env := [((2 : Nat), AV.ptr (0 : Nat) (0 : Nat)), ((5 : Nat), AV.ptr (1 : Nat) (0 : Nat))], h := [Blk.box [AV.ro (4 : Nat) xh0_0n_3 xh0_0r_3 xh0_0g_3, AV.ro (9 : Nat) xh0_1n_3 xh0_1r_3 xh0_1g_3], Blk.box [AV.str xh1_0_3, AV.int IntKind.u8 xh1_1_3, AV.int IntKind.i64 xh1_2_3, AV.int IntKind.i64 xh1_3_3, AV.bool xh1_4_3, AV.bool xh1_5_3, AV.flt FloatKind.f64 xh1_6_3, AV.flt FloatKind.f64 xh1_7_3, AV.flt FloatKind.f64 xh1_8_3]], kd := [] }
noncomputable def g17_l0_step (M34 : List AV → Option AV) (M35 : List AV → Option AV) (M36 : List AV → Option AV) (fuel : Nat) (kn : Int → Option AV) (kx0 : Bool → Nat → Nat → (Nat → Nat → AV) → Nat → Nat → (Nat → Nat → AV) → ByteArray → Int → Int → Int → Bool → Bool → Option Nat → Option Nat → Option Nat → Option AV) (kx1 : Nat → Nat → (Nat → Nat → AV) → Nat → Nat → (Nat → Nat → AV) → ByteArray → Int → Int → Int → Bool → Bool → Option Nat → Option Nat → Option Nat → Option AV) (at1_1 : Int) (h0_0n : Nat) (h0_0r : Nat) (h0_0g : Nat → Nat → AV) (h0_1n : Nat) (h0_1r : Nat) (h0_1g : Nat → Nat → AV) (h1_0 : ByteArray) (h1_1 : Int) (h1_2 : Int) (h1_3 : Int) (h1_4 : Bool) (h1_5 : Bool) (h1_6 : Option Nat) (h1_7 : Option Nat) (h1_8 : Option Nat) (uk6 : Int) : Option AV :=
  bif decide (uk6 < at1_1) then bif decide ((0 : Int) ≤ uk6) then bif decide (uk6 < (↑h0_1n : Int)) then bif fitK LK.s (h0_1g uk6.toNat (0 : Nat)) then bif strEq (toS (h0_1g uk6.toNat (0 : Nat))) h1_0 then kx0 (false) (h0_0n) (h0_0r) (h0_0g) (h0_1n) (h0_1r) (h0_1g) (h1_0) (h1_1) (h1_2) (h1_3) (h1_4) (h1_5) (h1_6) (h1_7) (h1_8)
          else kn (IntKind.i64.wrap (uk6 + (1 : Int)))
        else none
      else none
    else none
  else kx1 (h0_0n) (h0_0r) (h0_0g) (h0_1n) (h0_1r) (h0_1g) (h1_0) (h1_1) (h1_2) (h1_3) (h1_4) (h1_5) (h1_6) (h1_7) (h1_8)
noncomputable def g17_l0 (M34 : List AV → Option AV) (M35 : List AV → Option AV) (M36 : List AV → Option AV) (fuel : Nat) (kx0 : Bool → Nat → Nat → (Nat → Nat → AV) → Nat → Nat → (Nat → Nat → AV) → ByteArray → Int → Int → Int → Bool → Bool → Option Nat → Option Nat → Option Nat → Option AV) (kx1 : Nat → Nat → (Nat → Nat → AV) → Nat → Nat → (Nat → Nat → AV) → ByteArray → Int → Int → Int → Bool → Bool → Option Nat → Option Nat → Option Nat → Option AV) (at1_1 : Int) (h0_0n : Nat) (h0_0r : Nat) (h0_0g : Nat → Nat → AV) (h0_1n : Nat) (h0_1r : Nat) (h0_1g : Nat → Nat → AV) (h1_0 : ByteArray) (h1_1 : Int) (h1_2 : Int) (h1_3 : Int) (h1_4 : Bool) (h1_5 : Bool) (h1_6 : Option Nat) (h1_7 : Option Nat) (h1_8 : Option Nat) : Nat → Int → Option AV
  | 0, _ => none
  | n' + 1, uk6 => g17_l0_step M34 M35 M36 fuel (g17_l0 M34 M35 M36 fuel kx0 kx1 at1_1 h0_0n h0_0r h0_0g h0_1n h0_1r h0_1g h1_0 h1_1 h1_2 h1_3 h1_4 h1_5 h1_6 h1_7 h1_8 n') kx0 kx1 at1_1 h0_0n h0_0r h0_0g h0_1n h0_1r h0_1g h1_0 h1_1 h1_2 h1_3 h1_4 h1_5 h1_6 h1_7 h1_8 uk6
noncomputable def T17_0 : TS' := ⟨[(1, TA.i IntKind.i64), (2, TA.ptr 0 0), (5, TA.ptr 1 0), (6, TA.i IntKind.i64)], [TB.box [TA.ro 4, TA.ro 9], TB.box [TA.s, TA.i IntKind.u8, TA.i IntKind.i64, TA.i IntKind.i64, TA.b, TA.b, TA.f FloatKind.f64, TA.f FloatKind.f64, TA.f FloatKind.f64]], []⟩
noncomputable def F17_0 (M34 : List AV → Option AV) (M35 : List AV → Option AV) (M36 : List AV → Option AV) (fuel : Nat) (ps : List Pay) (K : Ex → St → Option AV) : Option AV := match ps with
  | .i at1_1 :: .i uk6 :: .n h0_0n :: .n h0_0r :: .g h0_0g :: .n h0_1n :: .n h0_1r :: .g h0_1g :: .s h1_0 :: .i h1_1 :: .i h1_2 :: .i h1_3 :: .b h1_4 :: .b h1_5 :: .o h1_6 :: .o h1_7 :: .o h1_8 :: [] => g17_l0 M34 M35 M36 fuel (fun xu4_1 xh0_0n_2 xh0_0r_2 xh0_0g_2 xh0_1n_2 xh0_1r_2 xh0_1g_2 xh1_0_2 xh1_1_2 xh1_2_2 xh1_3_2 xh1_4_2 xh1_5_2 xh1_6_2 xh1_7_2 xh1_8_2 => K (Ex.ret) (X17_0_0 xu4_1 xh0_0n_2 xh0_0r_2 xh0_0g_2 xh0_1n_2 xh0_1r_2 xh0_1g_2 xh1_0_2 xh1_1_2 xh1_2_2 xh1_3_2 xh1_4_2 xh1_5_2 xh1_6_2 xh1_7_2 xh1_8_2)) (fun xh0_0n_3 xh0_0r_3 xh0_0g_3 xh0_1n_3 xh0_1r_3 xh0_1g_3 xh1_0_3 xh1_1_3 xh1_2_3 xh1_3_3 xh1_4_3 xh1_5_3 xh1_6_3 xh1_7_3 xh1_8_3 => K (Ex.exit (0 : Nat)) (X17_0_1 xh0_0n_3 xh0_0r_3 xh0_0g_3 xh0_1n_3 xh0_1r_3 xh0_1g_3 xh1_0_3 xh1_1_3 xh1_2_3 xh1_3_3 xh1_4_3 xh1_5_3 xh1_6_3 xh1_7_3 xh1_8_3)) at1_1 h0_0n h0_0r h0_0g h0_1n h0_1r h0_1g h1_0 h1_1 h1_2 h1_3 h1_4 h1_5 h1_6 h1_7 h1_8 fuel uk6
  | _ => none
noncomputable def L17 (M34 : List AV → Option AV) (M35 : List AV → Option AV) (M36 : List AV → Option AV) (fuel : Nat) : Lam AV := [(134209616, lam T17_0 (F17_0 M34 M35 M36 fuel))]
noncomputable def G17 (M34 : List AV → Option AV) (M35 : List AV → Option AV) (M36 : List AV → Option AV) : Gam := [(34, smM [RS.one LK.b] M34), (35, smM [RS.one LK.b] M35), (36, smM [RS.one LK.b] M36)]
theorem g17_l0_eq (M34 : List AV → Option AV) (M35 : List AV → Option AV) (M36 : List AV → Option AV) (fuel : Nat) (call : CallI AV) (kn : St → Option AV) (K : Ex → St → Option AV) (at1_1 : Int) (h0_0n : Nat) (h0_0r : Nat) (h0_0g : Nat → Nat → AV) (h0_1n : Nat) (h0_1r : Nat) (h0_1g : Nat → Nat → AV) (h1_0 : ByteArray) (h1_1 : Int) (h1_2 : Int) (h1_3 : Int) (h1_4 : Bool) (h1_5 : Bool) (h1_6 : Option Nat) (h1_7 : Option Nat) (h1_8 : Option Nat) (uk60 : Int) (uk6 : Int) :
    exec Pr (G17 M34 M35 M36) (L17 M34 M35 M36 fuel) (fnNt Pr 17) fuel call (lp Pr 17 0).1 (lp Pr 17 0).2 (live (lp Pr 17 0).1 (lp Pr 17 0).2 0) (S17_0 at1_1 uk6 h0_0n h0_0r h0_0g h0_1n h0_1r h0_1g h1_0 h1_1 h1_2 h1_3 h1_4 h1_5 h1_6 h1_7 h1_8) (fun e s => match e with | .normal => kn (headN (live (lp Pr 17 0).1 (lp Pr 17 0).2 0) (writes (lp Pr 17 0).1) (S17_0 at1_1 uk60 h0_0n h0_0r h0_0g h0_1n h0_1r h0_1g h1_0 h1_1 h1_2 h1_3 h1_4 h1_5 h1_6 h1_7 h1_8) s) | e => K e s) =
    g17_l0_step M34 M35 M36 fuel (fun uk6 => kn (S17_0 at1_1 uk6 h0_0n h0_0r h0_0g h0_1n h0_1r h0_1g h1_0 h1_1 h1_2 h1_3 h1_4 h1_5 h1_6 h1_7 h1_8)) (fun xu4 xh0_0n xh0_0r xh0_0g xh0_1n xh0_1r xh0_1g xh1_0 xh1_1 xh1_2 xh1_3 xh1_4 xh1_5 xh1_6 xh1_7 xh1_8 => K (Ex.ret) (X17_0_0 xu4 xh0_0n xh0_0r xh0_0g xh0_1n xh0_1r xh0_1g xh1_0 xh1_1 xh1_2 xh1_3 xh1_4 xh1_5 xh1_6 xh1_7 xh1_8)) (fun xh0_0n xh0_0r xh0_0g xh0_1n xh0_1r xh0_1g xh1_0 xh1_1 xh1_2 xh1_3 xh1_4 xh1_5 xh1_6 xh1_7 xh1_8 => K (Ex.exit (0 : Nat)) (X17_0_1 xh0_0n xh0_0r xh0_0g xh0_1n xh0_1r xh0_1g xh1_0 xh1_1 xh1_2 xh1_3 xh1_4 xh1_5 xh1_6 xh1_7 xh1_8)) at1_1 h0_0n h0_0r h0_0g h0_1n h0_1r h0_1g h1_0 h1_1 h1_2 h1_3 h1_4 h1_5 h1_6 h1_7 h1_8 uk6 := by kernel_rfl
theorem g17_l0_ok (M34 : List AV → Option AV) (M35 : List AV → Option AV) (M36 : List AV → Option AV) (fuel : Nat) (call : CallI AV) (K : Ex → St → Option AV) (at1_1 : Int) (h0_0n : Nat) (h0_0r : Nat) (h0_0g : Nat → Nat → AV) (h0_1n : Nat) (h0_1r : Nat) (h0_1g : Nat → Nat → AV) (h1_0 : ByteArray) (h1_1 : Int) (h1_2 : Int) (h1_3 : Int) (h1_4 : Bool) (h1_5 : Bool) (h1_6 : Option Nat) (h1_7 : Option Nat) (h1_8 : Option Nat) (uk60 : Int) : ∀ (n' : Nat) (uk6 : Int),
    loopK (exec Pr (G17 M34 M35 M36) (L17 M34 M35 M36 fuel) (fnNt Pr 17) fuel call (lp Pr 17 0).1 (lp Pr 17 0).2 (live (lp Pr 17 0).1 (lp Pr 17 0).2 0)) (headN (live (lp Pr 17 0).1 (lp Pr 17 0).2 0) (writes (lp Pr 17 0).1) (S17_0 at1_1 uk60 h0_0n h0_0r h0_0g h0_1n h0_1r h0_1g h1_0 h1_1 h1_2 h1_3 h1_4 h1_5 h1_6 h1_7 h1_8)) n' (S17_0 at1_1 uk6 h0_0n h0_0r h0_0g h0_1n h0_1r h0_1g h1_0 h1_1 h1_2 h1_3 h1_4 h1_5 h1_6 h1_7 h1_8) K = g17_l0 M34 M35 M36 fuel (fun xu4 xh0_0n xh0_0r xh0_0g xh0_1n xh0_1r xh0_1g xh1_0 xh1_1 xh1_2 xh1_3 xh1_4 xh1_5 xh1_6 xh1_7 xh1_8 => K (Ex.ret) (X17_0_0 xu4 xh0_0n xh0_0r xh0_0g xh0_1n xh0_1r xh0_1g xh1_0 xh1_1 xh1_2 xh1_3 xh1_4 xh1_5 xh1_6 xh1_7 xh1_8)) (fun xh0_0n xh0_0r xh0_0g xh0_1n xh0_1r xh0_1g xh1_0 xh1_1 xh1_2 xh1_3 xh1_4 xh1_5 xh1_6 xh1_7 xh1_8 => K (Ex.exit (0 : Nat)) (X17_0_1 xh0_0n xh0_0r xh0_0g xh0_1n xh0_1r xh0_1g xh1_0 xh1_1 xh1_2 xh1_3 xh1_4 xh1_5 xh1_6 xh1_7 xh1_8)) at1_1 h0_0n h0_0r h0_0g h0_1n h0_1r h0_1g h1_0 h1_1 h1_2 h1_3 h1_4 h1_5 h1_6 h1_7 h1_8 n' uk6
  | 0, _ => rfl
  | n' + 1, uk6 => (g17_l0_eq M34 M35 M36 fuel call (fun s => loopK (exec Pr (G17 M34 M35 M36) (L17 M34 M35 M36 fuel) (fnNt Pr 17) fuel call (lp Pr 17 0).1 (lp Pr 17 0).2 (live (lp Pr 17 0).1 (lp Pr 17 0).2 0)) (headN (live (lp Pr 17 0).1 (lp Pr 17 0).2 0) (writes (lp Pr 17 0).1) (S17_0 at1_1 uk60 h0_0n h0_0r h0_0g h0_1n h0_1r h0_1g h1_0 h1_1 h1_2 h1_3 h1_4 h1_5 h1_6 h1_7 h1_8)) n' s K) K at1_1 h0_0n h0_0r h0_0g h0_1n h0_1r h0_1g h1_0 h1_1 h1_2 h1_3 h1_4 h1_5 h1_6 h1_7 h1_8 uk60 uk6).trans
    (congrArg (fun kn => g17_l0_step M34 M35 M36 fuel kn (fun xu4 xh0_0n xh0_0r xh0_0g xh0_1n xh0_1r xh0_1g xh1_0 xh1_1 xh1_2 xh1_3 xh1_4 xh1_5 xh1_6 xh1_7 xh1_8 => K (Ex.ret) (X17_0_0 xu4 xh0_0n xh0_0r xh0_0g xh0_1n xh0_1r xh0_1g xh1_0 xh1_1 xh1_2 xh1_3 xh1_4 xh1_5 xh1_6 xh1_7 xh1_8)) (fun xh0_0n xh0_0r xh0_0g xh0_1n xh0_1r xh0_1g xh1_0 xh1_1 xh1_2 xh1_3 xh1_4 xh1_5 xh1_6 xh1_7 xh1_8 => K (Ex.exit (0 : Nat)) (X17_0_1 xh0_0n xh0_0r xh0_0g xh0_1n xh0_1r xh0_1g xh1_0 xh1_1 xh1_2 xh1_3 xh1_4 xh1_5 xh1_6 xh1_7 xh1_8)) at1_1 h0_0n h0_0r h0_0g h0_1n h0_1r h0_1g h1_0 h1_1 h1_2 h1_3 h1_4 h1_5 h1_6 h1_7 h1_8 uk6) (funext fun _ => g17_l0_ok M34 M35 M36 fuel call K at1_1 h0_0n h0_0r h0_0g h0_1n h0_1r h0_1g h1_0 h1_1 h1_2 h1_3 h1_4 h1_5 h1_6 h1_7 h1_8 uk60 n' _))
theorem g17_L0 (M34 : List AV → Option AV) (M35 : List AV → Option AV) (M36 : List AV → Option AV) (fuel : Nat) (call : CallI AV) : LOk Pr (G17 M34 M35 M36) (L17 M34 M35 M36 fuel) (fnNt Pr 17) fuel call (lp Pr 17 0) := by
  refine .of T17_0 (F17_0 M34 M35 M36 fuel) (fun L h => ?_) (fun ps st K r he hr => ?_)
  · have e : (L17 M34 M35 M36 fuel).get (writes (lp Pr 17 0).1) = some (lam T17_0 (F17_0 M34 M35 M36 fuel)) := by kernel_rfl
    exact (Option.some.inj (e.symm.trans h)).symm
  · unfold F17_0 at hr
    split at hr
    · obtain rfl := (Option.some.inj he).symm
      exact (g17_l0_ok M34 M35 M36 fuel call K _ _ _ _ _ _ _ _ _ _ _ _ _ _ _ _ _ fuel _).trans hr
    · cases hr
noncomputable def g17 (M34 : List AV → Option AV) (M35 : List AV → Option AV) (M36 : List AV → Option AV) (fuel : Nat) (up0_0n : Nat) (up0_0r : Nat) (up0_0g : Nat → Nat → AV) (up0_1n : Nat) (up0_1r : Nat) (up0_1g : Nat → Nat → AV) (at1 : Int) : Option AV :=
  bif decide ((0 : Int) ≤ at1) then bif decide (at1 < (↑up0_1n : Int)) then bif fitKs [LK.s, LK.i IntKind.u8, LK.i IntKind.i64, LK.i IntKind.i64, LK.b, LK.b, LK.f FloatKind.f64, LK.f FloatKind.f64, LK.f FloatKind.f64] [up0_1g at1.toNat (0 : Nat), up0_1g at1.toNat (1 : Nat), up0_1g at1.toNat (2 : Nat), up0_1g at1.toNat (3 : Nat), up0_1g at1.toNat (4 : Nat), up0_1g at1.toNat (5 : Nat), up0_1g at1.toNat (6 : Nat), up0_1g at1.toNat (7 : Nat), up0_1g at1.toNat (8 : Nat)] then g17_l0 M34 M35 M36 fuel
          (fun (xu4 : Bool) (_ : Nat) (_ : Nat) (_ : Nat → Nat → AV) (_ : Nat) (_ : Nat) (_ : Nat → Nat → AV) (_ : ByteArray) (_ : Int) (_ : Int) (_ : Int) (_ : Bool) (_ : Bool) (_ : Option Nat) (_ : Option Nat) (_ : Option Nat) => some (AV.bool xu4))
          (fun (xh0_0n_1 : Nat) (_ : Nat) (_ : Nat → Nat → AV) (_ : Nat) (_ : Nat) (_ : Nat → Nat → AV) (xh1_0_1 : ByteArray) (xh1_1_1 : Int) (xh1_2_1 : Int) (xh1_3_1 : Int) (xh1_4_1 : Bool) (xh1_5_1 : Bool) (xh1_6_1 : Option Nat) (xh1_7_1 : Option Nat) (xh1_8_1 : Option Nat) => bif okM [RS.one LK.b] (M34 [AV.str xh1_0_1]) then bif bif !!toB (getV (M34 [AV.str xh1_0_1])) then true else true then bif bif !bif !toB (getV (M34 [AV.str xh1_0_1])) then true else decide (xh1_2_1 < (0 : Int)) then true else true then bif bif !bif bif !toB (getV (M34 [AV.str xh1_0_1])) then true else decide (xh1_2_1 < (0 : Int)) then true else decide (xh1_2_1 ≥ (↑xh0_0n_1 : Int)) then true else true then bif bif !bif bif bif !toB (getV (M34 [AV.str xh1_0_1])) then true else decide (xh1_2_1 < (0 : Int)) then true else decide (xh1_2_1 ≥ (↑xh0_0n_1 : Int)) then true else decide (xh1_3_1 < (0 : Int)) then true else true then bif bif !bif bif bif bif !toB (getV (M34 [AV.str xh1_0_1])) then true else decide (xh1_2_1 < (0 : Int)) then true else decide (xh1_2_1 ≥ (↑xh0_0n_1 : Int)) then true else decide (xh1_3_1 < (0 : Int)) then true else decide (xh1_3_1 ≥ (↑xh0_0n_1 : Int)) then true else true then bif bif !bif bif bif bif !toB (getV (M34 [AV.str xh1_0_1])) then true else decide (xh1_2_1 < (0 : Int)) then true else decide (xh1_2_1 ≥ (↑xh0_0n_1 : Int)) then true else decide (xh1_3_1 < (0 : Int)) then true else decide (xh1_3_1 ≥ (↑xh0_0n_1 : Int)) then true else true then bif bif !bif bif bif bif bif !toB (getV (M34 [AV.str xh1_0_1])) then true else decide (xh1_2_1 < (0 : Int)) then true else decide (xh1_2_1 ≥ (↑xh0_0n_1 : Int)) then true else decide (xh1_3_1 < (0 : Int)) then true else decide (xh1_3_1 ≥ (↑xh0_0n_1 : Int)) then true else xh1_2_1 == xh1_3_1 then true else true then bif bif !bif bif bif bif bif !toB (getV (M34 [AV.str xh1_0_1])) then true else decide (xh1_2_1 < (0 : Int)) then true else decide (xh1_2_1 ≥ (↑xh0_0n_1 : Int)) then true else decide (xh1_3_1 < (0 : Int)) then true else decide (xh1_3_1 ≥ (↑xh0_0n_1 : Int)) then true else xh1_2_1 == xh1_3_1 then okM [RS.one LK.b] (M35 [AV.flt FloatKind.f64 xh1_6_1]) else true then bif bif !bif bif bif bif bif bif !toB (getV (M34 [AV.str xh1_0_1])) then true else decide (xh1_2_1 < (0 : Int)) then true else decide (xh1_2_1 ≥ (↑xh0_0n_1 : Int)) then true else decide (xh1_3_1 < (0 : Int)) then true else decide (xh1_3_1 ≥ (↑xh0_0n_1 : Int)) then true else xh1_2_1 == xh1_3_1 then true else !toB (getV (M35 [AV.flt FloatKind.f64 xh1_6_1])) then true else true then bif bif !bif bif bif bif bif bif !toB (getV (M34 [AV.str xh1_0_1])) then true else decide (xh1_2_1 < (0 : Int)) then true else decide (xh1_2_1 ≥ (↑xh0_0n_1 : Int)) then true else decide (xh1_3_1 < (0 : Int)) then true else decide (xh1_3_1 ≥ (↑xh0_0n_1 : Int)) then true else xh1_2_1 == xh1_3_1 then true else !toB (getV (M35 [AV.flt FloatKind.f64 xh1_6_1])) then okM [RS.one LK.b] (M35 [AV.flt FloatKind.f64 xh1_7_1]) else true then bif bif bif bif bif bif bif bif !toB (getV (M34 [AV.str xh1_0_1])) then true else decide (xh1_2_1 < (0 : Int)) then true else decide (xh1_2_1 ≥ (↑xh0_0n_1 : Int)) then true else decide (xh1_3_1 < (0 : Int)) then true else decide (xh1_3_1 ≥ (↑xh0_0n_1 : Int)) then true else xh1_2_1 == xh1_3_1 then true else !toB (getV (M35 [AV.flt FloatKind.f64 xh1_6_1])) then true else !toB (getV (M35 [AV.flt FloatKind.f64 xh1_7_1])) then some (AV.bool false)
                                  else bif xh1_1_1 == (1 : Int) then bif bif !xh1_4_1 then true else true then bif bif bif !xh1_4_1 then !xh1_5_1 else false then true else true then bif bif bif bif !xh1_4_1 then !xh1_5_1 else false then ford FloatKind.f64 xh1_8_1 (some (0 : Nat)) == some Ordering.eq else false then true else true then bif bif bif bif !xh1_4_1 then !xh1_5_1 else false then ford FloatKind.f64 xh1_8_1 (some (0 : Nat)) == some Ordering.eq else false then okM [RS.one LK.b] (M36 [AV.flt FloatKind.f64 xh1_8_1]) else true then some (AV.bool (bif bif bif !xh1_4_1 then !xh1_5_1 else false then ford FloatKind.f64 xh1_8_1 (some (0 : Nat)) == some Ordering.eq else false then !toB (getV (M36 [AV.flt FloatKind.f64 xh1_8_1])) else false))
                                          else none
                                        else none
                                      else none
                                    else none
                                  else bif bif xh1_1_1 == (2 : Int) then true else true then bif bif xh1_1_1 == (2 : Int) then okM [RS.one LK.b] (M35 [AV.flt FloatKind.f64 xh1_8_1]) else true then some (AV.bool (bif xh1_1_1 == (2 : Int) then toB (getV (M35 [AV.flt FloatKind.f64 xh1_8_1])) else false))
                                    else none
                                  else none
                                else none
                              else none
                            else none
                          else none
                        else none
                      else none
                    else none
                  else none
                else none
              else none
            else none)
          (at1)
          (up0_0n)
          (up0_0r)
          (up0_0g)
          (up0_1n)
          (up0_1r)
          (up0_1g)
          (toS (up0_1g at1.toNat (0 : Nat)))
          (toI (up0_1g at1.toNat (1 : Nat)))
          (toI (up0_1g at1.toNat (2 : Nat)))
          (toI (up0_1g at1.toNat (3 : Nat)))
          (toB (up0_1g at1.toNat (4 : Nat)))
          (toB (up0_1g at1.toNat (5 : Nat)))
          (toF (up0_1g at1.toNat (6 : Nat)))
          (toF (up0_1g at1.toNat (7 : Nat)))
          (toF (up0_1g at1.toNat (8 : Nat))) fuel ((0 : Int))
      else none
    else none
  else none
theorem g17_run (M34 : List AV → Option AV) (M35 : List AV → Option AV) (M36 : List AV → Option AV) (fuel : Nat) (up0_0n : Nat) (up0_0r : Nat) (up0_0g : Nat → Nat → AV) (up0_1n : Nat) (up0_1r : Nat) (up0_1g : Nat → Nat → AV) (at1 : Int) : run Pr (G17 M34 M35 M36) [((0, 17), L17 M34 M35 M36 fuel)] fuel 1 17 [AV.agg [AV.ro (4 : Nat) up0_0n up0_0r up0_0g, AV.ro (9 : Nat) up0_1n up0_1r up0_1g], AV.int IntKind.i64 at1] = g17 M34 M35 M36 fuel up0_0n up0_0r up0_0g up0_1n up0_1r up0_1g at1 := by kernel_rfl
noncomputable def m17 (M34 : List AV → Option AV) (M35 : List AV → Option AV) (M36 : List AV → Option AV) (fuel : Nat) (xs : List AV) : Option AV := match xs with
  | [AV.agg [AV.ro (4 : Nat) up0_0n up0_0r up0_0g, AV.ro (9 : Nat) up0_1n up0_1r up0_1g], AV.int IntKind.i64 at1] => g17 M34 M35 M36 fuel up0_0n up0_0r up0_0g up0_1n up0_1r up0_1g at1
  | _ => none
abbrev R17 : List RS := [RS.one LK.b]
theorem g17_sm (M34 : List AV → Option AV) (M35 : List AV → Option AV) (M36 : List AV → Option AV) (fuel : Nat) (hΓ : ∀ f s, (G17 M34 M35 M36).get f = some s → SmOk Pr f s) (hP : NamesOk Pr) : SmOk Pr 17 (smM R17 (m17 M34 M35 M36 fuel)) := by
  refine smM_ok (fuel := fuel) hΓ hP (LamOk.of 17 (L17 M34 M35 M36 fuel) 1 (by kernel_rfl) (fun i hi => ?_)) 1 17 R17 _ (fun xs v h => ?_)
  · match i, hi with
    | 0, _ => exact g17_L0 M34 M35 M36 fuel _
    | i + 1, hi => exact absurd hi (by omega)
  · unfold m17 at h
    split at h
    · exact (g17_run M34 M35 M36 fuel _ _ _ _ _ _ _).trans h
    · cases h

/-! ### function 6 -/
noncomputable def S6_0 (uk6 : Int) (h0_0n : Nat) (h0_0r : Nat) (h0_0g : Nat → Nat → AV) (h0_1n : Nat) (h0_1r : Nat) (h0_1g : Nat → Nat → AV) : St := { env := [((1 : Nat), AV.ptr (0 : Nat) (0 : Nat)), ((6 : Nat), AV.int IntKind.i64 uk6)], h := [Blk.box [AV.ro (4 : Nat) h0_0n h0_0r h0_0g, AV.ro (9 : Nat) h0_1n h0_1r h0_1g]], kd := [] }
noncomputable def X6_0_0 (xu2_1 : Int) (xu3_1 : Int) (xh0_0n_2 : Nat) (xh0_0r_2 : Nat) (xh0_0g_2 : Nat → Nat → AV) (xh0_1n_2 : Nat) (xh0_1r_2 : Nat) (xh0_1g_2 : Nat → Nat → AV) : St := { env := [((2 : Nat), AV.int IntKind.i64 xu2_1), ((3 : Nat), AV.int IntKind.i64 xu3_1)], h := [Blk.box [AV.ro (4 : Nat) xh0_0n_2 xh0_0r_2 xh0_0g_2, AV.ro (9 : Nat) xh0_1n_2 xh0_1r_2 xh0_1g_2]], kd := [] }
noncomputable def X6_0_1 (xh0_0n_3 : Nat) (xh0_0r_3 : Nat) (xh0_0g_3 : Nat → Nat → AV) (xh0_1n_3 : Nat) (xh0_1r_3 : Nat) (xh0_1g_3 : Nat → Nat → AV) : St := { env := [], h := [Blk.box [AV.ro (4 : Nat) xh0_0n_3 xh0_0r_3 xh0_0g_3, AV.ro (9 : Nat) xh0_1n_3 xh0_1r_3 xh0_1g_3]], kd := [] }
noncomputable def g6_l0_step (M16 : List AV → Option AV) (M17 : List AV → Option AV) (fuel : Nat) (kn : Int → Option AV) (kx0 : Int → Int → Nat → Nat → (Nat → Nat → AV) → Nat → Nat → (Nat → Nat → AV) → Option AV) (kx1 : Nat → Nat → (Nat → Nat → AV) → Nat → Nat → (Nat → Nat → AV) → Option AV) (h0_0n : Nat) (h0_0r : Nat) (h0_0g : Nat → Nat → AV) (h0_1n : Nat) (h0_1r : Nat) (h0_1g : Nat → Nat → AV) (uk6 : Int) : Option AV :=
  bif decide (uk6 < (↑h0_1n : Int)) then bif okM [RS.one LK.b] (M17 [AV.agg [AV.ro (4 : Nat) h0_0n h0_0r h0_0g, AV.ro (9 : Nat) h0_1n h0_1r h0_1g], AV.int IntKind.i64 uk6]) then bif !toB (getV (M17 [AV.agg [AV.ro (4 : Nat) h0_0n h0_0r h0_0g, AV.ro (9 : Nat) h0_1n h0_1r h0_1g], AV.int IntKind.i64 uk6])) then kx0 ((290 : Int)) (uk6) (h0_0n) (h0_0r) (h0_0g) (h0_1n) (h0_1r) (h0_1g)
      else kn (IntKind.i64.wrap (uk6 + (1 : Int)))
    else none
  else kx1 (h0_0n) (h0_0r) (h0_0g) (h0_1n) (h0_1r) (h0_1g)
noncomputable def g6_l0 (M16 : List AV → Option AV) (M17 : List AV → Option AV) (fuel : Nat) (kx0 : Int → Int → Nat → Nat → (Nat → Nat → AV) → Nat → Nat → (Nat → Nat → AV) → Option AV) (kx1 : Nat → Nat → (Nat → Nat → AV) → Nat → Nat → (Nat → Nat → AV) → Option AV) (h0_0n : Nat) (h0_0r : Nat) (h0_0g : Nat → Nat → AV) (h0_1n : Nat) (h0_1r : Nat) (h0_1g : Nat → Nat → AV) : Nat → Int → Option AV
  | 0, _ => none
  | n' + 1, uk6 => g6_l0_step M16 M17 fuel (g6_l0 M16 M17 fuel kx0 kx1 h0_0n h0_0r h0_0g h0_1n h0_1r h0_1g n') kx0 kx1 h0_0n h0_0r h0_0g h0_1n h0_1r h0_1g uk6
noncomputable def T6_0 : TS' := ⟨[(1, TA.ptr 0 0), (6, TA.i IntKind.i64)], [TB.box [TA.ro 4, TA.ro 9]], []⟩
noncomputable def F6_0 (M16 : List AV → Option AV) (M17 : List AV → Option AV) (fuel : Nat) (ps : List Pay) (K : Ex → St → Option AV) : Option AV := match ps with
  | .i uk6 :: .n h0_0n :: .n h0_0r :: .g h0_0g :: .n h0_1n :: .n h0_1r :: .g h0_1g :: [] => g6_l0 M16 M17 fuel (fun xu2_1 xu3_1 xh0_0n_2 xh0_0r_2 xh0_0g_2 xh0_1n_2 xh0_1r_2 xh0_1g_2 => K (Ex.ret) (X6_0_0 xu2_1 xu3_1 xh0_0n_2 xh0_0r_2 xh0_0g_2 xh0_1n_2 xh0_1r_2 xh0_1g_2)) (fun xh0_0n_3 xh0_0r_3 xh0_0g_3 xh0_1n_3 xh0_1r_3 xh0_1g_3 => K (Ex.exit (0 : Nat)) (X6_0_1 xh0_0n_3 xh0_0r_3 xh0_0g_3 xh0_1n_3 xh0_1r_3 xh0_1g_3)) h0_0n h0_0r h0_0g h0_1n h0_1r h0_1g fuel uk6
  | _ => none
noncomputable def L6 (M16 : List AV → Option AV) (M17 : List AV → Option AV) (fuel : Nat) : Lam AV := [(8587837516, lam T6_0 (F6_0 M16 M17 fuel))]
noncomputable def G6 (M16 : List AV → Option AV) (M17 : List AV → Option AV) : Gam := [(16, smM [RS.one (LK.i IntKind.i64), RS.one (LK.i IntKind.i64)] M16), (17, smM [RS.one LK.b] M17)]
theorem g6_l0_eq (M16 : List AV → Option AV) (M17 : List AV → Option AV) (fuel : Nat) (call : CallI AV) (kn : St → Option AV) (K : Ex → St → Option AV) (h0_0n : Nat) (h0_0r : Nat) (h0_0g : Nat → Nat → AV) (h0_1n : Nat) (h0_1r : Nat) (h0_1g : Nat → Nat → AV) (uk60 : Int) (uk6 : Int) :
    exec Pr (G6 M16 M17) (L6 M16 M17 fuel) (fnNt Pr 6) fuel call (lp Pr 6 0).1 (lp Pr 6 0).2 (live (lp Pr 6 0).1 (lp Pr 6 0).2 0) (S6_0 uk6 h0_0n h0_0r h0_0g h0_1n h0_1r h0_1g) (fun e s => match e with | .normal => kn (headN (live (lp Pr 6 0).1 (lp Pr 6 0).2 0) (writes (lp Pr 6 0).1) (S6_0 uk60 h0_0n h0_0r h0_0g h0_1n h0_1r h0_1g) s) | e => K e s) =
    g6_l0_step M16 M17 fuel (fun uk6 => kn (S6_0 uk6 h0_0n h0_0r h0_0g h0_1n h0_1r h0_1g)) (fun xu2 xu3 xh0_0n xh0_0r xh0_0g xh0_1n xh0_1r xh0_1g => K (Ex.ret) (X6_0_0 xu2 xu3 xh0_0n xh0_0r xh0_0g xh0_1n xh0_1r xh0_1g)) (fun xh0_0n xh0_0r xh0_0g xh0_1n xh0_1r xh0_1g => K (Ex.exit (0 : Nat)) (X6_0_1 xh0_0n xh0_0r xh0_0g xh0_1n xh0_1r xh0_1g)) h0_0n h0_0r h0_0g h0_1n h0_1r h0_1g uk6 := by kernel_rfl
theorem g6_l0_ok (M16 : List AV → Option AV) (M17 : List AV → Option AV) (fuel : Nat) (call : CallI AV) (K : Ex → St → Option AV) (h0_0n : Nat) (h0_0r : Nat) (h0_0g : Nat → Nat → AV) (h0_1n : Nat) (h0_1r : Nat) (h0_1g : Nat → Nat → AV) (uk60 : Int) : ∀ (n' : Nat) (uk6 : Int),
    loopK (exec Pr (G6 M16 M17) (L6 M16 M17 fuel) (fnNt Pr 6) fuel call (lp Pr 6 0).1 (lp Pr 6 0).2 (live (lp Pr 6 0).1 (lp Pr 6 0).2 0)) (headN (live (lp Pr 6 0).1 (lp Pr 6 0).2 0) (writes (lp Pr 6 0).1) (S6_0 uk60 h0_0n h0_0r h0_0g h0_1n h0_1r h0_1g)) n' (S6_0 uk6 h0_0n h0_0r h0_0g h0_1n h0_1r h0_1g) K = g6_l0 M16 M17 fuel (fun xu2 xu3 xh0_0n xh0_0r xh0_0g xh0_1n xh0_1r xh0_1g => K (Ex.ret) (X6_0_0 xu2 xu3 xh0_0n xh0_0r xh0_0g xh0_1n xh0_1r xh0_1g)) (fun xh0_0n xh0_0r xh0_0g xh0_1n xh0_1r xh0_1g => K (Ex.exit (0 : Nat)) (X6_0_1 xh0_0n xh0_0r xh0_0g xh0_1n xh0_1r xh0_1g)) h0_0n h0_0r h0_0g h0_1n h0_1r h0_1g n' uk6
  | 0, _ => rfl
  | n' + 1, uk6 => (g6_l0_eq M16 M17 fuel call (fun s => loopK (exec Pr (G6 M16 M17) (L6 M16 M17 fuel) (fnNt Pr 6) fuel call (lp Pr 6 0).1 (lp Pr 6 0).2 (live (lp Pr 6 0).1 (lp Pr 6 0).2 0)) (headN (live (lp Pr 6 0).1 (lp Pr 6 0).2 0) (writes (lp Pr 6 0).1) (S6_0 uk60 h0_0n h0_0r h0_0g h0_1n h0_1r h0_1g)) n' s K) K h0_0n h0_0r h0_0g h0_1n h0_1r h0_1g uk60 uk6).trans
    (congrArg (fun kn => g6_l0_step M16 M17 fuel kn (fun xu2 xu3 xh0_0n xh0_0r xh0_0g xh0_1n xh0_1r xh0_1g => K (Ex.ret) (X6_0_0 xu2 xu3 xh0_0n xh0_0r xh0_0g xh0_1n xh0_1r xh0_1g)) (fun xh0_0n xh0_0r xh0_0g xh0_1n xh0_1r xh0_1g => K (Ex.exit (0 : Nat)) (X6_0_1 xh0_0n xh0_0r xh0_0g xh0_1n xh0_1r xh0_1g)) h0_0n h0_0r h0_0g h0_1n h0_1r h0_1g uk6) (funext fun _ => g6_l0_ok M16 M17 fuel call K h0_0n h0_0r h0_0g h0_1n h0_1r h0_1g uk60 n' _))
theorem g6_L0 (M16 : List AV → Option AV) (M17 : List AV → Option AV) (fuel : Nat) (call : CallI AV) : LOk Pr (G6 M16 M17) (L6 M16 M17 fuel) (fnNt Pr 6) fuel call (lp Pr 6 0) := by
  refine .of T6_0 (F6_0 M16 M17 fuel) (fun L h => ?_) (fun ps st K r he hr => ?_)
  · have e : (L6 M16 M17 fuel).get (writes (lp Pr 6 0).1) = some (lam T6_0 (F6_0 M16 M17 fuel)) := by kernel_rfl
    exact (Option.some.inj (e.symm.trans h)).symm
  · unfold F6_0 at hr
    split at hr
    · obtain rfl := (Option.some.inj he).symm
      exact (g6_l0_ok M16 M17 fuel call K _ _ _ _ _ _ _ fuel _).trans hr
    · cases hr
noncomputable def g6 (M16 : List AV → Option AV) (M17 : List AV → Option AV) (fuel : Nat) (up0_0n : Nat) (up0_0r : Nat) (up0_0g : Nat → Nat → AV) (up0_1n : Nat) (up0_1r : Nat) (up0_1g : Nat → Nat → AV) : Option AV :=
  bif okM [RS.one (LK.i IntKind.i64), RS.one (LK.i IntKind.i64)] (M16 [AV.ro (4 : Nat) up0_0n up0_0r up0_0g]) then bif toI ((toT (getV (M16 [AV.ro (4 : Nat) up0_0n up0_0r up0_0g]))).headD AV.dead) != (0 : Int) then some (AV.tup [AV.int IntKind.i64 (toI ((toT (getV (M16 [AV.ro (4 : Nat) up0_0n up0_0r up0_0g]))).headD AV.dead)), AV.int IntKind.i64 (toI ((toT (getV (M16 [AV.ro (4 : Nat) up0_0n up0_0r up0_0g]))).tail.headD AV.dead))])
    else bif decide ((↑up0_1n : Int) > (48 : Int)) then some (AV.tup [AV.int IntKind.i64 (3 : Int), AV.int IntKind.i64 (0 : Int)])
    else g6_l0 M16 M17 fuel
      (fun (xu2 : Int) (xu3 : Int) (_ : Nat) (_ : Nat) (_ : Nat → Nat → AV) (_ : Nat) (_ : Nat) (_ : Nat → Nat → AV) => some (AV.tup [AV.int IntKind.i64 xu2, AV.int IntKind.i64 xu3]))
      (fun (_ : Nat) (_ : Nat) (_ : Nat → Nat → AV) (_ : Nat) (_ : Nat) (_ : Nat → Nat → AV) => some (AV.tup [AV.int IntKind.i64 (0 : Int), AV.int IntKind.i64 (0 : Int)]))
      (up0_0n)
      (up0_0r)
      (up0_0g)
      (up0_1n)
      (up0_1r)
      (up0_1g) fuel ((0 : Int))
  else none
theorem g6_run (M16 : List AV → Option AV) (M17 : List AV → Option AV) (fuel : Nat) (up0_0n : Nat) (up0_0r : Nat) (up0_0g : Nat → Nat → AV) (up0_1n : Nat) (up0_1r : Nat) (up0_1g : Nat → Nat → AV) : run Pr (G6 M16 M17) [((0, 6), L6 M16 M17 fuel)] fuel 1 6 [AV.agg [AV.ro (4 : Nat) up0_0n up0_0r up0_0g, AV.ro (9 : Nat) up0_1n up0_1r up0_1g]] = g6 M16 M17 fuel up0_0n up0_0r up0_0g up0_1n up0_1r up0_1g := by kernel_rfl
noncomputable def m6 (M16 : List AV → Option AV) (M17 : List AV → Option AV) (fuel : Nat) (xs : List AV) : Option AV := match xs with
  | [AV.agg [AV.ro (4 : Nat) up0_0n up0_0r up0_0g, AV.ro (9 : Nat) up0_1n up0_1r up0_1g]] => g6 M16 M17 fuel up0_0n up0_0r up0_0g up0_1n up0_1r up0_1g
  | _ => none
abbrev R6 : List RS := [RS.one (LK.i IntKind.i64), RS.one (LK.i IntKind.i64)]
theorem g6_sm (M16 : List AV → Option AV) (M17 : List AV → Option AV) (fuel : Nat) (hΓ : ∀ f s, (G6 M16 M17).get f = some s → SmOk Pr f s) (hP : NamesOk Pr) : SmOk Pr 6 (smM R6 (m6 M16 M17 fuel)) := by
  refine smM_ok (fuel := fuel) hΓ hP (LamOk.of 6 (L6 M16 M17 fuel) 1 (by kernel_rfl) (fun i hi => ?_)) 1 6 R6 _ (fun xs v h => ?_)
  · match i, hi with
    | 0, _ => exact g6_L0 M16 M17 fuel _
    | i + 1, hi => exact absurd hi (by omega)
  · unfold m6 at h
    split at h
    · exact (g6_run M16 M17 fuel _ _ _ _ _ _).trans h
    · cases h

/-! ### function 37 -/
noncomputable def L37 (fuel : Nat) : Lam AV := []
noncomputable def G37 : Gam := []
noncomputable def g37 (fuel : Nat) (um0_0 : ByteArray) (um0_1 : Int) (um0_2 : Int) (um0_3 : Int) (um0_4 : Bool) (um0_5 : Bool) (um0_6 : Option Nat) (um0_7 : Option Nat) (um0_8 : Option Nat) : Option AV :=
  bif bif um0_1 == (2 : Int) then true else true then bif bif um0_1 == (2 : Int) then true else true then some (AV.tup [AV.bool (bif um0_1 == (2 : Int) then !um0_4 else false), AV.bool (bif um0_1 == (2 : Int) then !um0_5 else false)])
    else none
  else none
theorem g37_run (fuel : Nat) (um0_0 : ByteArray) (um0_1 : Int) (um0_2 : Int) (um0_3 : Int) (um0_4 : Bool) (um0_5 : Bool) (um0_6 : Option Nat) (um0_7 : Option Nat) (um0_8 : Option Nat) : run Pr (G37) [((0, 37), L37 fuel)] fuel 1 37 [AV.agg [AV.str um0_0, AV.int IntKind.u8 um0_1, AV.int IntKind.i64 um0_2, AV.int IntKind.i64 um0_3, AV.bool um0_4, AV.bool um0_5, AV.flt FloatKind.f64 um0_6, AV.flt FloatKind.f64 um0_7, AV.flt FloatKind.f64 um0_8]] = g37 fuel um0_0 um0_1 um0_2 um0_3 um0_4 um0_5 um0_6 um0_7 um0_8 := by kernel_rfl
noncomputable def m37 (fuel : Nat) (xs : List AV) : Option AV := match xs with
  | [AV.agg [AV.str um0_0, AV.int IntKind.u8 um0_1, AV.int IntKind.i64 um0_2, AV.int IntKind.i64 um0_3, AV.bool um0_4, AV.bool um0_5, AV.flt FloatKind.f64 um0_6, AV.flt FloatKind.f64 um0_7, AV.flt FloatKind.f64 um0_8]] => g37 fuel um0_0 um0_1 um0_2 um0_3 um0_4 um0_5 um0_6 um0_7 um0_8
  | _ => none
abbrev R37 : List RS := [RS.one LK.b, RS.one LK.b]
theorem g37_sm (fuel : Nat) (hΓ : ∀ f s, (G37).get f = some s → SmOk Pr f s) (hP : NamesOk Pr) : SmOk Pr 37 (smM R37 (m37 fuel)) := by
  refine smM_ok (fuel := fuel) hΓ hP (LamOk.of 37 (L37 fuel) 0 (by kernel_rfl) (fun i hi => ?_)) 1 37 R37 _ (fun xs v h => ?_)
  · match i, hi with
    | i + 0, hi => exact absurd hi (by omega)
  · unfold m37 at h
    split at h
    · exact (g37_run fuel _ _ _ _ _ _ _ _ _).trans h
    · cases h

/-! ### function 18 -/
noncomputable def S18_0 (turns3o : Nat) (turns3n : Nat) (turns3c : Nat) (u19n : Nat) (u19r : Nat) (u19g : Nat → Nat → AV) (u20 : Int) (u21 : Int) (h0_0n : Nat) (h0_0r : Nat) (h0_0g : Nat → Nat → AV) (h0_1n : Nat) (h0_1r : Nat) (h0_1g : Nat → Nat → AV) (h1_1 : Int) (h2z : List AV) (h2e : List (List AV)) (h3z : List AV) (h3e : List (List AV)) : St := { env := [((1 : Nat), AV.ptr (0 : Nat) (0 : Nat)), ((2 : Nat), AV.ptr (1 : Nat) (0 : Nat)), ((3 : Nat), AV.own (2 : Nat) turns3o (1 : Nat) turns3n turns3c), ((19 : Nat), AV.ro (9 : Nat) u19n u19r u19g), ((20 : Nat), AV.int IntKind.i64 u20), ((21 : Nat), AV.int IntKind.i64 u21)], h := [Blk.box [AV.ro (4 : Nat) h0_0n h0_0r h0_0g, AV.ro (9 : Nat) h0_1n h0_1r h0_1g], Blk.box [AV.lst (3 : Nat) (3 : Nat), AV.int IntKind.i64 h1_1], Blk.fx (1 : Nat) h2z h2e, Blk.fl (3 : Nat) h3z h3e], kd := [(3 : Nat)] }
noncomputable def X18_0_0 (xturns3o_2 : Nat) (xturns3n_2 : Nat) (xturns3c_2 : Nat) (xh0_0n_3 : Nat) (xh0_0r_3 : Nat) (xh0_0g_3 : Nat → Nat → AV) (xh0_1n_3 : Nat) (xh0_1r_3 : Nat) (xh0_1g_3 : Nat → Nat → AV) (xh1_1_3 : Int) (xh2z_3 : List AV) (xh2e_3 : List (List AV)) (xh3z_3 : List AV) (xh3e_3 : List (List AV)) : St := { env := [((1 : Nat), AV.ptr (0 : Nat) (0 : Nat)), ((2 : Nat), AV.ptr (1 : Nat) (0 : Nat)), ((3 : Nat), AV.own (2 : Nat) xturns3o_2 (1 : Nat) xturns3n_2 xturns3c_2)], h := [Blk.box [AV.ro (4 : Nat) xh0_0n_3 xh0_0r_3 xh0_0g_3, AV.ro (9 : Nat) xh0_1n_3 xh0_1r_3 xh0_1g_3], Blk.box [AV.lst (3 : Nat) (3 : Nat), AV.int IntKind.i64 xh1_1_3], Blk.fx (1 : Nat) xh2z_3 xh2e_3, Blk.fl (3 : Nat) xh3z_3 xh3e_3], kd := [(3 : Nat)] }
noncomputable def g18_l0_step (M37 : List AV → Option AV) (fuel : Nat) (kn : Int → List (List AV) → Option AV) (kx0 : Nat → Nat → Nat → Nat → Nat → (Nat → Nat → AV) → Nat → Nat → (Nat → Nat → AV) → Int → List AV → List (List AV) → List AV → List (List AV) → Option AV) (turns3o : Nat) (turns3n : Nat) (turns3c : Nat) (u19n : Nat) (u19r : Nat) (u19g : Nat → Nat → AV) (u20 : Int) (h0_0n : Nat) (h0_0r : Nat) (h0_0g : Nat → Nat → AV) (h0_1n : Nat) (h0_1r : Nat) (h0_1g : Nat → Nat → AV) (h1_1 : Int) (h2z : List AV) (h3z : List AV) (h3e : List (List AV)) (u21 : Int) (h2e : List (List AV)) : Option AV :=
  bif decide (u21 < u20) then bif decide ((0 : Int) ≤ u21) then bif decide (u21 < (↑u19n : Int)) then bif fitKs [LK.s, LK.i IntKind.u8, LK.i IntKind.i64, LK.i IntKind.i64, LK.b, LK.b, LK.f FloatKind.f64, LK.f FloatKind.f64, LK.f FloatKind.f64] [u19g u21.toNat (0 : Nat), u19g u21.toNat (1 : Nat), u19g u21.toNat (2 : Nat), u19g u21.toNat (3 : Nat), u19g u21.toNat (4 : Nat), u19g u21.toNat (5 : Nat), u19g u21.toNat (6 : Nat), u19g u21.toNat (7 : Nat), u19g u21.toNat (8 : Nat)] then bif okM [RS.one LK.b, RS.one LK.b] (M37 [AV.agg [AV.str (toS (u19g u21.toNat (0 : Nat))), AV.int IntKind.u8 (toI (u19g u21.toNat (1 : Nat))), AV.int IntKind.i64 (toI (u19g u21.toNat (2 : Nat))), AV.int IntKind.i64 (toI (u19g u21.toNat (3 : Nat))), AV.bool (toB (u19g u21.toNat (4 : Nat))), AV.bool (toB (u19g u21.toNat (5 : Nat))), AV.flt FloatKind.f64 (toF (u19g u21.toNat (6 : Nat))), AV.flt FloatKind.f64 (toF (u19g u21.toNat (7 : Nat))), AV.flt FloatKind.f64 (toF (u19g u21.toNat (8 : Nat)))]]) then bif decide ((0 : Int) ≤ toI (u19g u21.toNat (2 : Nat))) then bif decide (toI (u19g u21.toNat (2 : Nat)) < (↑turns3n : Int)) then bif fitK LK.b ((h2e.getD (turns3o + (toI (u19g u21.toNat (2 : Nat))).toNat) h2z).getD (0 : Nat) AV.dead) then bif decide ((0 : Int) ≤ toI (u19g u21.toNat (2 : Nat))) then bif decide (toI (u19g u21.toNat (2 : Nat)) < (↑turns3n : Int)) then bif decide ((0 : Int) ≤ toI (u19g u21.toNat (3 : Nat))) then bif decide (toI (u19g u21.toNat (3 : Nat)) < (↑turns3n : Int)) then bif fitK LK.b (((h2e.set (turns3o + (toI (u19g u21.toNat (2 : Nat))).toNat) (AV.bool (bif toB ((h2e.getD (turns3o + (toI (u19g u21.toNat (2 : Nat))).toNat) h2z).getD (0 : Nat) AV.dead) then true else toB ((toT (getV (M37 [AV.agg [AV.str (toS (u19g u21.toNat (0 : Nat))), AV.int IntKind.u8 (toI (u19g u21.toNat (1 : Nat))), AV.int IntKind.i64 (toI (u19g u21.toNat (2 : Nat))), AV.int IntKind.i64 (toI (u19g u21.toNat (3 : Nat))), AV.bool (toB (u19g u21.toNat (4 : Nat))), AV.bool (toB (u19g u21.toNat (5 : Nat))), AV.flt FloatKind.f64 (toF (u19g u21.toNat (6 : Nat))), AV.flt FloatKind.f64 (toF (u19g u21.toNat (7 : Nat))), AV.flt FloatKind.f64 (toF (u19g u21.toNat (8 : Nat)))]]))).headD AV.dead)) :: List.drop ((0 : Nat) + [AV.bool (bif toB ((h2e.getD (turns3o + (toI (u19g u21.toNat (2 : Nat))).toNat) h2z).getD (0 : Nat) AV.dead) then true else toB ((toT (getV (M37 [AV.agg [AV.str (toS (u19g u21.toNat (0 : Nat))), AV.int IntKind.u8 (toI (u19g u21.toNat (1 : Nat))), AV.int IntKind.i64 (toI (u19g u21.toNat (2 : Nat))), AV.int IntKind.i64 (toI (u19g u21.toNat (3 : Nat))), AV.bool (toB (u19g u21.toNat (4 : Nat))), AV.bool (toB (u19g u21.toNat (5 : Nat))), AV.flt FloatKind.f64 (toF (u19g u21.toNat (6 : Nat))), AV.flt FloatKind.f64 (toF (u19g u21.toNat (7 : Nat))), AV.flt FloatKind.f64 (toF (u19g u21.toNat (8 : Nat)))]]))).headD AV.dead))].length) (h2e.getD (turns3o + (toI (u19g u21.toNat (2 : Nat))).toNat) h2z))).getD (turns3o + (toI (u19g u21.toNat (3 : Nat))).toNat) h2z).getD (0 : Nat) AV.dead) then bif decide ((0 : Int) ≤ toI (u19g u21.toNat (3 : Nat))) then bif decide (toI (u19g u21.toNat (3 : Nat)) < (↑turns3n : Int)) then kn (IntKind.i64.wrap (u21 + (1 : Int))) ((h2e.set (turns3o + (toI (u19g u21.toNat (2 : Nat))).toNat) (AV.bool (bif toB ((h2e.getD (turns3o + (toI (u19g u21.toNat (2 : Nat))).toNat) h2z).getD (0 : Nat) AV.dead) then true else toB ((toT (getV (M37 [AV.agg [AV.str (toS (u19g u21.toNat (0 : Nat))), AV.int IntKind.u8 (toI (u19g u21.toNat (1 : Nat))), AV.int IntKind.i64 (toI (u19g u21.toNat (2 : Nat))), AV.int IntKind.i64 (toI (u19g u21.toNat (3 : Nat))), AV.bool (toB (u19g u21.toNat (4 : Nat))), AV.bool (toB (u19g u21.toNat (5 : Nat))), AV.flt FloatKind.f64 (toF (u19g u21.toNat (6 : Nat))), AV.flt FloatKind.f64 (toF (u19g u21.toNat (7 : Nat))), AV.flt FloatKind.f64 (toF (u19g u21.toNat (8 : Nat)))]]))).headD AV.dead)) :: List.drop ((0 : Nat) + [AV.bool (bif toB ((h2e.getD (turns3o + (toI (u19g u21.toNat (2 : Nat))).toNat) h2z).getD (0 : Nat) AV.dead) then true else toB ((toT (getV (M37 [AV.agg [AV.str (toS (u19g u21.toNat (0 : Nat))), AV.int IntKind.u8 (toI (u19g u21.toNat (1 : Nat))), AV.int IntKind.i64 (toI (u19g u21.toNat (2 : Nat))), AV.int IntKind.i64 (toI (u19g u21.toNat (3 : Nat))), AV.bool (toB (u19g u21.toNat (4 : Nat))), AV.bool (toB (u19g u21.toNat (5 : Nat))), AV.flt FloatKind.f64 (toF (u19g u21.toNat (6 : Nat))), AV.flt FloatKind.f64 (toF (u19g u21.toNat (7 : Nat))), AV.flt FloatKind.f64 (toF (u19g u21.toNat (8 : Nat)))]]))).headD AV.dead))].length) (h2e.getD (turns3o + (toI (u19g u21.toNat (2 : Nat))).toNat) h2z))).set (turns3o + (toI (u19g u21.toNat (3 : Nat))).toNat) (AV.bool (bif toB (((h2e.set (turns3o + (toI (u19g u21.toNat (2 : Nat))).toNat) (AV.bool (bif toB ((h2e.getD (turns3o + (toI (u19g u21.toNat (2 : Nat))).toNat) h2z).getD (0 : Nat) AV.dead) then true else toB ((toT (getV (M37 [AV.agg [AV.str (toS (u19g u21.toNat (0 : Nat))), AV.int IntKind.u8 (toI (u19g u21.toNat (1 : Nat))), AV.int IntKind.i64 (toI (u19g u21.toNat (2 : Nat))), AV.int IntKind.i64 (toI (u19g u21.toNat (3 : Nat))), AV.bool (toB (u19g u21.toNat (4 : Nat))), AV.bool (toB (u19g u21.toNat (5 : Nat))), AV.flt FloatKind.f64 (toF (u19g u21.toNat (6 : Nat))), AV.flt FloatKind.f64 (toF (u19g u21.toNat (7 : Nat))), AV.flt FloatKind.f64 (toF (u19g u21.toNat (8 : Nat)))]]))).headD AV.dead)) :: List.drop ((0 : Nat) + [AV.bool (bif toB ((h2e.getD (turns3o + (toI (u19g u21.toNat (2 : Nat))).toNat) h2z).getD (0 : Nat) AV.dead) then true else toB ((toT (getV (M37 [AV.agg [AV.str (toS (u19g u21.toNat (0 : Nat))), AV.int IntKind.u8 (toI (u19g u21.toNat (1 : Nat))), AV.int IntKind.i64 (toI (u19g u21.toNat (2 : Nat))), AV.int IntKind.i64 (toI (u19g u21.toNat (3 : Nat))), AV.bool (toB (u19g u21.toNat (4 : Nat))), AV.bool (toB (u19g u21.toNat (5 : Nat))), AV.flt FloatKind.f64 (toF (u19g u21.toNat (6 : Nat))), AV.flt FloatKind.f64 (toF (u19g u21.toNat (7 : Nat))), AV.flt FloatKind.f64 (toF (u19g u21.toNat (8 : Nat)))]]))).headD AV.dead))].length) (h2e.getD (turns3o + (toI (u19g u21.toNat (2 : Nat))).toNat) h2z))).getD (turns3o + (toI (u19g u21.toNat (3 : Nat))).toNat) h2z).getD (0 : Nat) AV.dead) then true else toB ((toT (getV (M37 [AV.agg [AV.str (toS (u19g u21.toNat (0 : Nat))), AV.int IntKind.u8 (toI (u19g u21.toNat (1 : Nat))), AV.int IntKind.i64 (toI (u19g u21.toNat (2 : Nat))), AV.int IntKind.i64 (toI (u19g u21.toNat (3 : Nat))), AV.bool (toB (u19g u21.toNat (4 : Nat))), AV.bool (toB (u19g u21.toNat (5 : Nat))), AV.flt FloatKind.f64 (toF (u19g u21.toNat (6 : Nat))), AV.flt FloatKind.f64 (toF (u19g u21.toNat (7 : Nat))), AV.flt FloatKind.f64 (toF (u19g u21.toNat (8 : Nat)))]]))).tail.headD AV.dead)) :: List.drop ((0 : Nat) + [AV.bool (bif toB (((h2e.set (turns3o + (toI (u19g u21.toNat (2 : Nat))).toNat) (AV.bool (bif toB ((h2e.getD (turns3o + (toI (u19g u21.toNat (2 : Nat))).toNat) h2z).getD (0 : Nat) AV.dead) then true else toB ((toT (getV (M37 [AV.agg [AV.str (toS (u19g u21.toNat (0 : Nat))), AV.int IntKind.u8 (toI (u19g u21.toNat (1 : Nat))), AV.int IntKind.i64 (toI (u19g u21.toNat (2 : Nat))), AV.int IntKind.i64 (toI (u19g u21.toNat (3 : Nat))), AV.bool (toB (u19g u21.toNat (4 : Nat))), AV.bool (toB (u19g u21.toNat (5 : Nat))), AV.flt FloatKind.f64 (toF (u19g u21.toNat (6 : Nat))), AV.flt FloatKind.f64 (toF (u19g u21.toNat (7 : Nat))), AV.flt FloatKind.f64 (toF (u19g u21.toNat (8 : Nat)))]]))).headD AV.dead)) :: List.drop ((0 : Nat) + [AV.bool (bif toB ((h2e.getD (turns3o + (toI (u19g u21.toNat (2 : Nat))).toNat) h2z).getD (0 : Nat) AV.dead) then true else toB ((toT (getV (M37 [AV.agg [AV.str (toS (u19g u21.toNat (0 : Nat))), AV.int IntKind.u8 (toI (u19g u21.toNat (1 : Nat))), AV.int IntKind.i64 (toI (u19g u21.toNat (2 : Nat))), AV.int IntKind.i64 (toI (u19g u21.toNat (3 : Nat))), AV.bool (toB (u19g u21.toNat (4 : Nat))), AV.bool (toB (u19g u21.toNat (5 : Nat))), AV.flt FloatKind.f64 (toF (u19g u21.toNat (6 : Nat))), AV.flt FloatKind.f64 (toF (u19g u21.toNat (7 : Nat))), AV.flt FloatKind.f64 (toF (u19g u21.toNat (8 : Nat)))]]))).headD AV.dead))].length) (h2e.getD (turns3o + (toI (u19g u21.toNat (2 : Nat))).toNat) h2z))).getD (turns3o + (toI (u19g u21.toNat (3 : Nat))).toNat) h2z).getD (0 : Nat) AV.dead) then true else toB ((toT (getV (M37 [AV.agg [AV.str (toS (u19g u21.toNat (0 : Nat))), AV.int IntKind.u8 (toI (u19g u21.toNat (1 : Nat))), AV.int IntKind.i64 (toI (u19g u21.toNat (2 : Nat))), AV.int IntKind.i64 (toI (u19g u21.toNat (3 : Nat))), AV.bool (toB (u19g u21.toNat (4 : Nat))), AV.bool (toB (u19g u21.toNat (5 : Nat))), AV.flt FloatKind.f64 (toF (u19g u21.toNat (6 : Nat))), AV.flt FloatKind.f64 (toF (u19g u21.toNat (7 : Nat))), AV.flt FloatKind.f64 (toF (u19g u21.toNat (8 : Nat)))]]))).tail.headD AV.dead))].length) ((h2e.set (turns3o + (toI (u19g u21.toNat (2 : Nat))).toNat) (AV.bool (bif toB ((h2e.getD (turns3o + (toI (u19g u21.toNat (2 : Nat))).toNat) h2z).getD (0 : Nat) AV.dead) then true else toB ((toT (getV (M37 [AV.agg [AV.str (toS (u19g u21.toNat (0 : Nat))), AV.int IntKind.u8 (toI (u19g u21.toNat (1 : Nat))), AV.int IntKind.i64 (toI (u19g u21.toNat (2 : Nat))), AV.int IntKind.i64 (toI (u19g u21.toNat (3 : Nat))), AV.bool (toB (u19g u21.toNat (4 : Nat))), AV.bool (toB (u19g u21.toNat (5 : Nat))), AV.flt FloatKind.f64 (toF (u19g u21.toNat (6 : Nat))), AV.flt FloatKind.f64 (toF (u19g u21.toNat (7 : Nat))), AV.flt FloatKind.f64 (toF (u19g u21.toNat (8 : Nat)))]]))).headD AV.dead)) :: List.drop ((0 : Nat) + [AV.bool (bif toB ((h2e.getD (turns3o + (toI (u19g u21.toNat (2 : Nat))).toNat) h2z).getD (0 : Nat) AV.dead) then true else toB ((toT (getV (M37 [AV.agg [AV.str (toS (u19g u21.toNat (0 : Nat))), AV.int IntKind.u8 (toI (u19g u21.toNat (1 : Nat))), AV.int IntKind.i64 (toI (u19g u21.toNat (2 : Nat))), AV.int IntKind.i64 (toI (u19g u21.toNat (3 : Nat))), AV.bool (toB (u19g u21.toNat (4 : Nat))), AV.bool (toB (u19g u21.toNat (5 : Nat))), AV.flt FloatKind.f64 (toF (u19g u21.toNat (6 : Nat))), AV.flt FloatKind.f64 (toF (u19g u21.toNat (7 : Nat))), AV.flt FloatKind.f64 (toF (u19g u21.toNat (8 : Nat)))]]))).headD AV.dead))].length) (h2e.getD (turns3o + (toI (u19g u21.toNat (2 : Nat))).toNat) h2z))).getD (turns3o + (toI (u19g u21.toNat (3 : Nat))).toNat) h2z)))
                              else none
                            else none
                          else none
                        else none
                      else none
                    else none
                  else none
                else none
              else none
            else none
          else none
        else none
      else none
    else none
  else kx0 (turns3o) (turns3n) (turns3c) (h0_0n) (h0_0r) (h0_0g) (h0_1n) (h0_1r) (h0_1g) (h1_1) (h2z) (h2e) (h3z) (h3e)
noncomputable def g18_l0 (M37 : List AV → Option AV) (fuel : Nat) (kx0 : Nat → Nat → Nat → Nat → Nat → (Nat → Nat → AV) → Nat → Nat → (Nat → Nat → AV) → Int → List AV → List (List AV) → List AV → List (List AV) → Option AV) (turns3o : Nat) (turns3n : Nat) (turns3c : Nat) (u19n : Nat) (u19r : Nat) (u19g : Nat → Nat → AV) (u20 : Int) (h0_0n : Nat) (h0_0r : Nat) (h0_0g : Nat → Nat → AV) (h0_1n : Nat) (h0_1r : Nat) (h0_1g : Nat → Nat → AV) (h1_1 : Int) (h2z : List AV) (h3z : List AV) (h3e : List (List AV)) : Nat → Int → List (List AV) → Option AV
  | 0, _, _ => none
  | n' + 1, u21, h2e => g18_l0_step M37 fuel (g18_l0 M37 fuel kx0 turns3o turns3n turns3c u19n u19r u19g u20 h0_0n h0_0r h0_0g h0_1n h0_1r h0_1g h1_1 h2z h3z h3e n') kx0 turns3o turns3n turns3c u19n u19r u19g u20 h0_0n h0_0r h0_0g h0_1n h0_1r h0_1g h1_1 h2z h3z h3e u21 h2e
noncomputable def T18_0 : TS' := ⟨[(1, TA.ptr 0 0), (2, TA.ptr 1 0), (3, TA.own 2 1), (19, TA.ro 9), (20, TA.i IntKind.i64), (21, TA.i IntKind.i64)], [TB.box [TA.ro 4, TA.ro 9], TB.box [TA.lst 3 3, TA.i IntKind.i64], TB.fx 1, TB.fl 3], [3]⟩
noncomputable def F18_0 (M37 : List AV → Option AV) (fuel : Nat) (ps : List Pay) (K : Ex → St → Option AV) : Option AV := match ps with
  | .n turns3o :: .n turns3n :: .n turns3c :: .n u19n :: .n u19r :: .g u19g :: .i u20 :: .i u21 :: .n h0_0n :: .n h0_0r :: .g h0_0g :: .n h0_1n :: .n h0_1r :: .g h0_1g :: .i h1_1 :: .z h2z :: .e h2e :: .z h3z :: .e h3e :: [] => g18_l0 M37 fuel (fun xturns3o_2 xturns3n_2 xturns3c_2 xh0_0n_3 xh0_0r_3 xh0_0g_3 xh0_1n_3 xh0_1r_3 xh0_1g_3 xh1_1_3 xh2z_3 xh2e_3 xh3z_3 xh3e_3 => K (Ex.exit (0 : Nat)) (X18_0_0 xturns3o_2 xturns3n_2 xturns3c_2 xh0_0n_3 xh0_0r_3 xh0_0g_3 xh0_1n_3 xh0_1r_3 xh0_1g_3 xh1_1_3 xh2z_3 xh2e_3 xh3z_3 xh3e_3)) turns3o turns3n turns3c u19n u19r u19g u20 h0_0n h0_0r h0_0g h0_1n h0_1r h0_1g h1_1 h2z h3z h3e fuel u21 h2e
  | _ => none
noncomputable def S18_1 (turns3o_2 : Nat) (turns3n_2 : Nat) (turns3c_2 : Nat) (ui9 : Int) (u56n_1 : Nat) (u56r_1 : Nat) (u56g_1 : Nat → Nat → AV) (u57_1 : Int) (u58_1 : Int) (u64_0 : Int) (u64_1 : Int) (u64_2 : Int) (u65 : Int) (h0_0n_2 : Nat) (h0_0r_2 : Nat) (h0_0g_2 : Nat → Nat → AV) (h0_1n_2 : Nat) (h0_1r_2 : Nat) (h0_1g_2 : Nat → Nat → AV) (h1_1_2 : Int) (h2z_2 : List AV) (h2e_2 : List (List AV)) (h3z_2 : List AV) (h3e_2 : List (List AV)) (h4_1_1 : Int) (h5z_1 : List AV) (h5e_1 : List (List AV)) (h6_0 : ByteArray) (h6_1 : Int) (h6_2 : Int) (h6_3 : Int) (h7_0 : Int) (h7_1 : Int) (h7_2 : Int) : St := { env := [((2 : Nat), AV.ptr (1 : Nat) (0 : Nat)), ((3 : Nat), AV.own (2 : Nat) turns3o_2 (1 : Nat) turns3n_2 turns3c_2), ((8 : Nat), AV.ptr (4 : Nat) (0 : Nat)), ((9 : Nat), AV.int IntKind.i64 ui9), ((10 : Nat), AV.ptr (6 : Nat) (0 : Nat)), ((11 : Nat), AV.ptr (7 : Nat) (0 : Nat)), ((56 : Nat), AV.ro (4 : Nat) u56n_1 u56r_1 u56g_1), ((57 : Nat), AV.int IntKind.i64 u57_1), ((58 : Nat), AV.int IntKind.i64 u58_1), ((64 : Nat), AV.agg [AV.int IntKind.u8 u64_0, AV.int IntKind.u8 u64_1, AV.int IntKind.u8 u64_2]), ((65 : Nat), AV.int IntKind.i64 u65)], h := [Blk.box [AV.ro (4 : Nat) h0_0n_2 h0_0r_2 h0_0g_2, AV.ro (9 : Nat) h0_1n_2 h0_1r_2 h0_1g_2], Blk.box [AV.lst (3 : Nat) (3 : Nat), AV.int IntKind.i64 h1_1_2], Blk.fx (1 : Nat) h2z_2 h2e_2, Blk.fl (3 : Nat) h3z_2 h3e_2, Blk.box [AV.lst (5 : Nat) (3 : Nat), AV.int IntKind.i64 h4_1_1], Blk.fl (3 : Nat) h5z_1 h5e_1, Blk.box [AV.str h6_0, AV.int IntKind.i32 h6_1, AV.int IntKind.i32 h6_2, AV.int IntKind.u8 h6_3], Blk.box [AV.int IntKind.i64 h7_0, AV.int IntKind.i64 h7_1, AV.int IntKind.i64 h7_2]], kd := [(5 : Nat), (3 : Nat)] }
noncomputable def X18_1_0 (xturns3o_3 : Nat) (xturns3n_3 : Nat) (xturns3c_3 : Nat) (xu56n_1 : Nat) (xu56r_1 : Nat) (xu56g_1 : Nat → Nat → AV) (xu57_1 : Int) (xu58_1 : Int) (xh0_0n_4 : Nat) (xh0_0r_4 : Nat) (xh0_0g_4 : Nat → Nat → AV) (xh0_1n_4 : Nat) (xh0_1r_4 : Nat) (xh0_1g_4 : Nat → Nat → AV) (xh1_1_4 : Int) (xh2z_4 : List AV) (xh2e_4 : List (List AV)) (xh3z_4 : List AV) (xh3e_4 : List (List AV)) (xh4_1_2 : Int) (xh5z_2 : List AV) (xh5e_2 : List (List AV)) (xh6_0_1 : ByteArray) (xh6_1_1 : Int) (xh6_2_1 : Int) (xh6_3_1 : Int) (xh7_0_1 : Int) (xh7_1_1 : Int) (xh7_2_1 : Int) : St := { env := [((2 : Nat), AV.ptr (1 : Nat) (0 : Nat)), ((3 : Nat), AV.own (2 : Nat) xturns3o_3 (1 : Nat) xturns3n_3 xturns3c_3), ((8 : Nat), AV.ptr (4 : Nat) (0 : Nat)), ((11 : Nat), AV.ptr (7 : Nat) (0 : Nat)), ((56 : Nat), AV.ro (4 : Nat) xu56n_1 xu56r_1 xu56g_1), ((57 : Nat), AV.int IntKind.i64 xu57_1), ((58 : Nat), AV.int IntKind.i64 xu58_1)], h := [Blk.box [AV.ro (4 : Nat) xh0_0n_4 xh0_0r_4 xh0_0g_4, AV.ro (9 : Nat) xh0_1n_4 xh0_1r_4 xh0_1g_4], Blk.box [AV.lst (3 : Nat) (3 : Nat), AV.int IntKind.i64 xh1_1_4], Blk.fx (1 : Nat) xh2z_4 xh2e_4, Blk.fl (3 : Nat) xh3z_4 xh3e_4, Blk.box [AV.lst (5 : Nat) (3 : Nat), AV.int IntKind.i64 xh4_1_2], Blk.fl (3 : Nat) xh5z_2 xh5e_2, Blk.box [AV.str xh6_0_1, AV.int IntKind.i32 xh6_1_1, AV.int IntKind.i32 xh6_2_1, AV.int IntKind.u8 xh6_3_1], Blk.box [AV.int IntKind.i64 xh7_0_1, AV.int IntKind.i64 xh7_1_1, AV.int IntKind.i64 xh7_2_1]], kd := [(5 : Nat), (3 : Nat)] }
noncomputable def g18_l1_step (M37 : List AV → Option AV) (fuel : Nat) (kn : Int → Int → Int → Int → Int → Option AV) (kx0 : Nat → Nat → Nat → Nat → Nat → (Nat → Nat → AV) → Int → Int → Nat → Nat → (Nat → Nat → AV) → Nat → Nat → (Nat → Nat → AV) → Int → List AV → List (List AV) → List AV → List (List AV) → Int → List AV → List (List AV) → ByteArray → Int → Int → Int → Int → Int → Int → Option AV) (turns3o_2 : Nat) (turns3n_2 : Nat) (turns3c_2 : Nat) (ui9 : Int) (u56n_1 : Nat) (u56r_1 : Nat) (u56g_1 : Nat → Nat → AV) (u57_1 : Int) (u58_1 : Int) (u64_0 : Int) (u64_1 : Int) (u64_2 : Int) (h0_0n_2 : Nat) (h0_0r_2 : Nat) (h0_0g_2 : Nat → Nat → AV) (h0_1n_2 : Nat) (h0_1r_2 : Nat) (h0_1g_2 : Nat → Nat → AV) (h1_1_2 : Int) (h2z_2 : List AV) (h2e_2 : List (List AV)) (h3z_2 : List AV) (h3e_2 : List (List AV)) (h5z_1 : List AV) (h5e_1 : List (List AV)) (h6_0 : ByteArray) (h6_1 : Int) (h6_2 : Int) (h6_3 : Int) (u65 : Int) (h4_1_1 : Int) (h7_0 : Int) (h7_1 : Int) (h7_2 : Int) : Option AV :=
  bif decide (u65 < (3 : Int)) then bif decide ((0 : Int) ≤ u65) then bif decide (u65 < (↑(3 : Nat) : Int)) then bif bif !decide (u65 < (2 : Int)) then decide ((0 : Int) ≤ ui9) else true then bif bif !decide (u65 < (2 : Int)) then decide (ui9 < (↑turns3n_2 : Int)) else true then bif bif !decide (u65 < (2 : Int)) then fitK LK.b ((h2e_2.getD (turns3o_2 + ui9.toNat) h2z_2).getD (0 : Nat) AV.dead) else true then bif bif IntKind.u8.wrap (↑(BitVec.ofInt (8 : Nat) h6_3 &&& BitVec.ofInt (8 : Nat) (bif (u65.toNat * (1 : Nat)).beq (0 : Nat) then u64_0 else bif (u65.toNat * (1 : Nat) - (1 : Nat)).beq (0 : Nat) then u64_1 else u64_2)).toNat : Int) == (0 : Int) then bif decide (u65 < (2 : Int)) then true else toB ((h2e_2.getD (turns3o_2 + ui9.toNat) h2z_2).getD (0 : Nat) AV.dead) else false then bif decide ((0 : Int) ≤ u65) then bif decide (u65 < (↑(3 : Nat) : Int)) then bif ((0 : Nat) + u65.toNat * (1 : Nat) + (1 : Nat)).ble [AV.int IntKind.i64 h7_0, AV.int IntKind.i64 h7_1, AV.int IntKind.i64 h7_2].length then kn (IntKind.i64.wrap (u65 + (1 : Int))) (IntKind.i64.wrap (h4_1_1 + (1 : Int))) (bif ((0 : Nat) + u65.toNat * (1 : Nat)).ble (0 : Nat) && true then h4_1_1 else h7_0) (bif ((0 : Nat) + u65.toNat * (1 : Nat)).ble (1 : Nat) && Nat.blt (1 : Nat) ((0 : Nat) + u65.toNat * (1 : Nat) + [AV.int IntKind.i64 h4_1_1].length) then h4_1_1 else h7_1) (bif ((0 : Nat) + u65.toNat * (1 : Nat)).ble (2 : Nat) && Nat.blt (2 : Nat) ((0 : Nat) + u65.toNat * (1 : Nat) + [AV.int IntKind.i64 h4_1_1].length) then h4_1_1 else h7_2)
                    else none
                  else none
                else none
              else kn (IntKind.i64.wrap (u65 + (1 : Int))) (h4_1_1) (h7_0) (h7_1) (h7_2)
            else none
          else none
        else none
      else none
    else none
  else kx0 (turns3o_2) (turns3n_2) (turns3c_2) (u56n_1) (u56r_1) (u56g_1) (u57_1) (u58_1) (h0_0n_2) (h0_0r_2) (h0_0g_2) (h0_1n_2) (h0_1r_2) (h0_1g_2) (h1_1_2) (h2z_2) (h2e_2) (h3z_2) (h3e_2) (h4_1_1) (h5z_1) (h5e_1) (h6_0) (h6_1) (h6_2) (h6_3) (h7_0) (h7_1) (h7_2)
noncomputable def g18_l1 (M37 : List AV → Option AV) (fuel : Nat) (kx0 : Nat → Nat → Nat → Nat → Nat → (Nat → Nat → AV) → Int → Int → Nat → Nat → (Nat → Nat → AV) → Nat → Nat → (Nat → Nat → AV) → Int → List AV → List (List AV) → List AV → List (List AV) → Int → List AV → List (List AV) → ByteArray → Int → Int → Int → Int → Int → Int → Option AV) (turns3o_2 : Nat) (turns3n_2 : Nat) (turns3c_2 : Nat) (ui9 : Int) (u56n_1 : Nat) (u56r_1 : Nat) (u56g_1 : Nat → Nat → AV) (u57_1 : Int) (u58_1 : Int) (u64_0 : Int) (u64_1 : Int) (u64_2 : Int) (h0_0n_2 : Nat) (h0_0r_2 : Nat) (h0_0g_2 : Nat → Nat → AV) (h0_1n_2 : Nat) (h0_1r_2 : Nat) (h0_1g_2 : Nat → Nat → AV) (h1_1_2 : Int) (h2z_2 : List AV) (h2e_2 : List (List AV)) (h3z_2 : List AV) (h3e_2 : List (List AV)) (h5z_1 : List AV) (h5e_1 : List (List AV)) (h6_0 : ByteArray) (h6_1 : Int) (h6_2 : Int) (h6_3 : Int) : Nat → Int → Int → Int → Int → Int → Option AV
  | 0, _, _, _, _, _ => none
  | n' + 1, u65, h4_1_1, h7_0, h7_1, h7_2 => g18_l1_step M37 fuel (g18_l1 M37 fuel kx0 turns3o_2 turns3n_2 turns3c_2 ui9 u56n_1 u56r_1 u56g_1 u57_1 u58_1 u64_0 u64_1 u64_2 h0_0n_2 h0_0r_2 h0_0g_2 h0_1n_2 h0_1r_2 h0_1g_2 h1_1_2 h2z_2 h2e_2 h3z_2 h3e_2 h5z_1 h5e_1 h6_0 h6_1 h6_2 h6_3 n') kx0 turns3o_2 turns3n_2 turns3c_2 ui9 u56n_1 u56r_1 u56g_1 u57_1 u58_1 u64_0 u64_1 u64_2 h0_0n_2 h0_0r_2 h0_0g_2 h0_1n_2 h0_1r_2 h0_1g_2 h1_1_2 h2z_2 h2e_2 h3z_2 h3e_2 h5z_1 h5e_1 h6_0 h6_1 h6_2 h6_3 u65 h4_1_1 h7_0 h7_1 h7_2
noncomputable def T18_1 : TS' := ⟨[(2, TA.ptr 1 0), (3, TA.own 2 1), (8, TA.ptr 4 0), (9, TA.i IntKind.i64), (10, TA.ptr 6 0), (11, TA.ptr 7 0), (56, TA.ro 4), (57, TA.i IntKind.i64), (58, TA.i IntKind.i64), (64, TA.agg [TA.i IntKind.u8, TA.i IntKind.u8, TA.i IntKind.u8]), (65, TA.i IntKind.i64)], [TB.box [TA.ro 4, TA.ro 9], TB.box [TA.lst 3 3, TA.i IntKind.i64], TB.fx 1, TB.fl 3, TB.box [TA.lst 5 3, TA.i IntKind.i64], TB.fl 3, TB.box [TA.s, TA.i IntKind.i32, TA.i IntKind.i32, TA.i IntKind.u8], TB.box [TA.i IntKind.i64, TA.i IntKind.i64, TA.i IntKind.i64]], [5, 3]⟩
noncomputable def F18_1 (M37 : List AV → Option AV) (fuel : Nat) (ps : List Pay) (K : Ex → St → Option AV) : Option AV := match ps with
  | .n turns3o_2 :: .n turns3n_2 :: .n turns3c_2 :: .i ui9 :: .n u56n_1 :: .n u56r_1 :: .g u56g_1 :: .i u57_1 :: .i u58_1 :: .i u64_0 :: .i u64_1 :: .i u64_2 :: .i u65 :: .n h0_0n_2 :: .n h0_0r_2 :: .g h0_0g_2 :: .n h0_1n_2 :: .n h0_1r_2 :: .g h0_1g_2 :: .i h1_1_2 :: .z h2z_2 :: .e h2e_2 :: .z h3z_2 :: .e h3e_2 :: .i h4_1_1 :: .z h5z_1 :: .e h5e_1 :: .s h6_0 :: .i h6_1 :: .i h6_2 :: .i h6_3 :: .i h7_0 :: .i h7_1 :: .i h7_2 :: [] => g18_l1 M37 fuel (fun xturns3o_3 xturns3n_3 xturns3c_3 xu56n_1 xu56r_1 xu56g_1 xu57_1 xu58_1 xh0_0n_4 xh0_0r_4 xh0_0g_4 xh0_1n_4 xh0_1r_4 xh0_1g_4 xh1_1_4 xh2z_4 xh2e_4 xh3z_4 xh3e_4 xh4_1_2 xh5z_2 xh5e_2 xh6_0_1 xh6_1_1 xh6_2_1 xh6_3_1 xh7_0_1 xh7_1_1 xh7_2_1 => K (Ex.exit (4 : Nat)) (X18_1_0 xturns3o_3 xturns3n_3 xturns3c_3 xu56n_1 xu56r_1 xu56g_1 xu57_1 xu58_1 xh0_0n_4 xh0_0r_4 xh0_0g_4 xh0_1n_4 xh0_1r_4 xh0_1g_4 xh1_1_4 xh2z_4 xh2e_4 xh3z_4 xh3e_4 xh4_1_2 xh5z_2 xh5e_2 xh6_0_1 xh6_1_1 xh6_2_1 xh6_3_1 xh7_0_1 xh7_1_1 xh7_2_1)) turns3o_2 turns3n_2 turns3c_2 ui9 u56n_1 u56r_1 u56g_1 u57_1 u58_1 u64_0 u64_1 u64_2 h0_0n_2 h0_0r_2 h0_0g_2 h0_1n_2 h0_1r_2 h0_1g_2 h1_1_2 h2z_2 h2e_2 h3z_2 h3e_2 h5z_1 h5e_1 h6_0 h6_1 h6_2 h6_3 fuel u65 h4_1_1 h7_0 h7_1 h7_2
  | _ => none
noncomputable def S18_2 (turns3o_1 : Nat) (turns3n_1 : Nat) (turns3c_1 : Nat) (u56n : Nat) (u56r : Nat) (u56g : Nat → Nat → AV) (u57 : Int) (u58 : Int) (h0_0n_1 : Nat) (h0_0r_1 : Nat) (h0_0g_1 : Nat → Nat → AV) (h0_1n_1 : Nat) (h0_1r_1 : Nat) (h0_1g_1 : Nat → Nat → AV) (h1_1_1 : Int) (h2z_1 : List AV) (h2e_1 : List (List AV)) (h3z_1 : List AV) (h3e_1 : List (List AV)) (h4_1 : Int) (h5z : List AV) (h5e : List (List AV)) : St := { env := [((2 : Nat), AV.ptr (1 : Nat) (0 : Nat)), ((3 : Nat), AV.own (2 : Nat) turns3o_1 (1 : Nat) turns3n_1 turns3c_1), ((8 : Nat), AV.ptr (4 : Nat) (0 : Nat)), ((56 : Nat), AV.ro (4 : Nat) u56n u56r u56g), ((57 : Nat), AV.int IntKind.i64 u57), ((58 : Nat), AV.int IntKind.i64 u58)], h := [Blk.box [AV.ro (4 : Nat) h0_0n_1 h0_0r_1 h0_0g_1, AV.ro (9 : Nat) h0_1n_1 h0_1r_1 h0_1g_1], Blk.box [AV.lst (3 : Nat) (3 : Nat), AV.int IntKind.i64 h1_1_1], Blk.fx (1 : Nat) h2z_1 h2e_1, Blk.fl (3 : Nat) h3z_1 h3e_1, Blk.box [AV.lst (5 : Nat) (3 : Nat), AV.int IntKind.i64 h4_1], Blk.fl (3 : Nat) h5z h5e], kd := [(5 : Nat), (3 : Nat)] }
noncomputable def X18_2_0 (xh0_0n_5 : Nat) (xh0_0r_5 : Nat) (xh0_0g_5 : Nat → Nat → AV) (xh0_1n_5 : Nat) (xh0_1r_5 : Nat) (xh0_1g_5 : Nat → Nat → AV) (xh1_1_5 : Int) (xh2z_5 : List AV) (xh2e_5 : List (List AV)) (xh3z_5 : List AV) (xh3e_5 : List (List AV)) (xh4_1_3 : Int) (xh5z_3 : List AV) (xh5e_3 : List (List AV)) : St := { env := [((2 : Nat), AV.ptr (1 : Nat) (0 : Nat)), ((8 : Nat), AV.ptr (4 : Nat) (0 : Nat))], h := [Blk.box [AV.ro (4 : Nat) xh0_0n_5 xh0_0r_5 xh0_0g_5, AV.ro (9 : Nat) xh0_1n_5 xh0_1r_5 xh0_1g_5], Blk.box [AV.lst (3 : Nat) (3 : Nat), AV.int IntKind.i64 xh1_1_5], Blk.fx (1 : Nat) xh2z_5 xh2e_5, Blk.fl (3 : Nat) xh3z_5 xh3e_5, Blk.box [AV.lst (5 : Nat) (3 : Nat), AV.int IntKind.i64 xh4_1_3], Blk.fl (3 : Nat) xh5z_3 xh5e_3], kd := [(5 : Nat), (3 : Nat)] }
noncomputable def g18_l2_step (M37 : List AV → Option AV) (fuel : Nat) (kn : Nat → Nat → Nat → Nat → Nat → (Nat → Nat → AV) → Int → Int → Nat → Nat → (Nat → Nat → AV) → Nat → Nat → (Nat → Nat → AV) → Int → List AV → List (List AV) → List AV → List (List AV) → Int → List AV → List (List AV) → Option AV) (kx0 : Nat → Nat → (Nat → Nat → AV) → Nat → Nat → (Nat → Nat → AV) → Int → List AV → List (List AV) → List AV → List (List AV) → Int → List AV → List (List AV) → Option AV) (turns3o_1 : Nat) (turns3n_1 : Nat) (turns3c_1 : Nat) (u56n : Nat) (u56r : Nat) (u56g : Nat → Nat → AV) (u57 : Int) (u58 : Int) (h0_0n_1 : Nat) (h0_0r_1 : Nat) (h0_0g_1 : Nat → Nat → AV) (h0_1n_1 : Nat) (h0_1r_1 : Nat) (h0_1g_1 : Nat → Nat → AV) (h1_1_1 : Int) (h2z_1 : List AV) (h2e_1 : List (List AV)) (h3z_1 : List AV) (h3e_1 : List (List AV)) (h4_1 : Int) (h5z : List AV) (h5e : List (List AV)) : Option AV :=
  bif decide (u58 < u57) then bif decide ((0 : Int) ≤ u58) then bif decide (u58 < (↑u56n : Int)) then bif fitKs [LK.s, LK.i IntKind.i32, LK.i IntKind.i32, LK.i IntKind.u8] [u56g u58.toNat (0 : Nat), u56g u58.toNat (1 : Nat), u56g u58.toNat (2 : Nat), u56g u58.toNat (3 : Nat)] then g18_l1 M37 fuel
            (fun (xturns3o_1 : Nat) (xturns3n_1 : Nat) (xturns3c_1 : Nat) (xu56n : Nat) (xu56r : Nat) (xu56g : Nat → Nat → AV) (xu57 : Int) (xu58 : Int) (xh0_0n_1 : Nat) (xh0_0r_1 : Nat) (xh0_0g_1 : Nat → Nat → AV) (xh0_1n_1 : Nat) (xh0_1r_1 : Nat) (xh0_1g_1 : Nat → Nat → AV) (xh1_1_1 : Int) (xh2z_1 : List AV) (xh2e_1 : List (List AV)) (xh3z_1 : List AV) (xh3e_1 : List (List AV)) (xh4_1 : Int) (xh5z : List AV) (xh5e : List (List AV)) (_ : ByteArray) (_ : Int) (_ : Int) (_ : Int) (xh7_0 : Int) (xh7_1 : Int) (xh7_2 : Int) => bif decide ((xh5e.length + (1 : Nat)) * (24 : Nat) < (70368744177664 : Nat)) then bif decide (xh5e.length + (1 : Nat) < (4611686018427387904 : Nat)) then kn (xturns3o_1) (xturns3n_1) (xturns3c_1) (xu56n) (xu56r) (xu56g) (xu57) (IntKind.i64.wrap (xu58 + (1 : Int))) (xh0_0n_1) (xh0_0r_1) (xh0_0g_1) (xh0_1n_1) (xh0_1r_1) (xh0_1g_1) (xh1_1_1) (xh2z_1) (xh2e_1) (xh3z_1) (xh3e_1) (xh4_1) (xh5z) (xh5e ++ [[AV.int IntKind.i64 xh7_0, AV.int IntKind.i64 xh7_1, AV.int IntKind.i64 xh7_2]])
                else none
              else none)
            (turns3o_1)
            (turns3n_1)
            (turns3c_1)
            (u58)
            (u56n)
            (u56r)
            (u56g)
            (u57)
            (u58)
            ((1 : Int))
            ((2 : Int))
            ((4 : Int))
            (h0_0n_1)
            (h0_0r_1)
            (h0_0g_1)
            (h0_1n_1)
            (h0_1r_1)
            (h0_1g_1)
            (h1_1_1)
            (h2z_1)
            (h2e_1)
            (h3z_1)
            (h3e_1)
            (h5z)
            (h5e)
            (toS (u56g u58.toNat (0 : Nat)))
            (toI (u56g u58.toNat (1 : Nat)))
            (toI (u56g u58.toNat (2 : Nat)))
            (toI (u56g u58.toNat (3 : Nat))) fuel ((0 : Int)) (h4_1) ((-1 : Int)) ((-1 : Int)) ((-1 : Int))
        else none
      else none
    else none
  else kx0 (h0_0n_1) (h0_0r_1) (h0_0g_1) (h0_1n_1) (h0_1r_1) (h0_1g_1) (h1_1_1) (h2z_1) (h2e_1) (h3z_1) (h3e_1) (h4_1) (h5z) (h5e)
noncomputable def g18_l2 (M37 : List AV → Option AV) (fuel : Nat) (kx0 : Nat → Nat → (Nat → Nat → AV) → Nat → Nat → (Nat → Nat → AV) → Int → List AV → List (List AV) → List AV → List (List AV) → Int → List AV → List (List AV) → Option AV) : Nat → Nat → Nat → Nat → Nat → Nat → (Nat → Nat → AV) → Int → Int → Nat → Nat → (Nat → Nat → AV) → Nat → Nat → (Nat → Nat → AV) → Int → List AV → List (List AV) → List AV → List (List AV) → Int → List AV → List (List AV) → Option AV
  | 0, _, _, _, _, _, _, _, _, _, _, _, _, _, _, _, _, _, _, _, _, _, _ => none
  | n' + 1, turns3o_1, turns3n_1, turns3c_1, u56n, u56r, u56g, u57, u58, h0_0n_1, h0_0r_1, h0_0g_1, h0_1n_1, h0_1r_1, h0_1g_1, h1_1_1, h2z_1, h2e_1, h3z_1, h3e_1, h4_1, h5z, h5e => g18_l2_step M37 fuel (g18_l2 M37 fuel kx0 n') kx0 turns3o_1 turns3n_1 turns3c_1 u56n u56r u56g u57 u58 h0_0n_1 h0_0r_1 h0_0g_1 h0_1n_1 h0_1r_1 h0_1g_1 h1_1_1 h2z_1 h2e_1 h3z_1 h3e_1 h4_1 h5z h5e
noncomputable def T18_2 : TS' := ⟨[(2, TA.ptr 1 0), (3, TA.own 2 1), (8, TA.ptr 4 0), (56, TA.ro 4), (57, TA.i IntKind.i64), (58, TA.i IntKind.i64)], [TB.box [TA.ro 4, TA.ro 9], TB.box [TA.lst 3 3, TA.i IntKind.i64], TB.fx 1, TB.fl 3, TB.box [TA.lst 5 3, TA.i IntKind.i64], TB.fl 3], [5, 3]⟩
noncomputable def F18_2 (M37 : List AV → Option AV) (fuel : Nat) (ps : List Pay) (K : Ex → St → Option AV) : Option AV := match ps with
  | .n turns3o_1 :: .n turns3n_1 :: .n turns3c_1 :: .n u56n :: .n u56r :: .g u56g :: .i u57 :: .i u58 :: .n h0_0n_1 :: .n h0_0r_1 :: .g h0_0g_1 :: .n h0_1n_1 :: .n h0_1r_1 :: .g h0_1g_1 :: .i h1_1_1 :: .z h2z_1 :: .e h2e_1 :: .z h3z_1 :: .e h3e_1 :: .i h4_1 :: .z h5z :: .e h5e :: [] => g18_l2 M37 fuel (fun xh0_0n_5 xh0_0r_5 xh0_0g_5 xh0_1n_5 xh0_1r_5 xh0_1g_5 xh1_1_5 xh2z_5 xh2e_5 xh3z_5 xh3e_5 xh4_1_3 xh5z_3 xh5e_3 => K (Ex.exit (2 : Nat)) (X18_2_0 xh0_0n_5 xh0_0r_5 xh0_0g_5 xh0_1n_5 xh0_1r_5 xh0_1g_5 xh1_1_5 xh2z_5 xh2e_5 xh3z_5 xh3e_5 xh4_1_3 xh5z_3 xh5e_3)) fuel turns3o_1 turns3n_1 turns3c_1 u56n u56r u56g u57 u58 h0_0n_1 h0_0r_1 h0_0g_1 h0_1n_1 h0_1r_1 h0_1g_1 h1_1_1 h2z_1 h2e_1 h3z_1 h3e_1 h4_1 h5z h5e
  | _ => none
noncomputable def L18 (M37 : List AV → Option AV) (fuel : Nat) : Lam AV := [(36028797016867040, lam T18_0 (F18_0 M37 fuel)), (9903520277389554051773902848, lam T18_1 (F18_1 M37 fuel)), (1267650600227941171120551509504, lam T18_2 (F18_2 M37 fuel))]
noncomputable def G18 (M37 : List AV → Option AV) : Gam := [(37, smM [RS.one LK.b, RS.one LK.b] M37)]
theorem g18_l0_eq (M37 : List AV → Option AV) (fuel : Nat) (call : CallI AV) (kn : St → Option AV) (K : Ex → St → Option AV) (turns3o : Nat) (turns3n : Nat) (turns3c : Nat) (u19n : Nat) (u19r : Nat) (u19g : Nat → Nat → AV) (u20 : Int) (h0_0n : Nat) (h0_0r : Nat) (h0_0g : Nat → Nat → AV) (h0_1n : Nat) (h0_1r : Nat) (h0_1g : Nat → Nat → AV) (h1_1 : Int) (h2z : List AV) (h3z : List AV) (h3e : List (List AV)) (u210 : Int) (h2e0 : List (List AV)) (u21 : Int) (h2e : List (List AV)) :
    exec Pr (G18 M37) (L18 M37 fuel) (fnNt Pr 18) fuel call (lp Pr 18 0).1 (lp Pr 18 0).2 (live (lp Pr 18 0).1 (lp Pr 18 0).2 0) (S18_0 turns3o turns3n turns3c u19n u19r u19g u20 u21 h0_0n h0_0r h0_0g h0_1n h0_1r h0_1g h1_1 h2z h2e h3z h3e) (fun e s => match e with | .normal => kn (headN (live (lp Pr 18 0).1 (lp Pr 18 0).2 0) (writes (lp Pr 18 0).1) (S18_0 turns3o turns3n turns3c u19n u19r u19g u20 u210 h0_0n h0_0r h0_0g h0_1n h0_1r h0_1g h1_1 h2z h2e0 h3z h3e) s) | e => K e s) =
    g18_l0_step M37 fuel (fun u21 h2e => kn (S18_0 turns3o turns3n turns3c u19n u19r u19g u20 u21 h0_0n h0_0r h0_0g h0_1n h0_1r h0_1g h1_1 h2z h2e h3z h3e)) (fun xturns3o xturns3n xturns3c xh0_0n xh0_0r xh0_0g xh0_1n xh0_1r xh0_1g xh1_1 xh2z xh2e xh3z xh3e => K (Ex.exit (0 : Nat)) (X18_0_0 xturns3o xturns3n xturns3c xh0_0n xh0_0r xh0_0g xh0_1n xh0_1r xh0_1g xh1_1 xh2z xh2e xh3z xh3e)) turns3o turns3n turns3c u19n u19r u19g u20 h0_0n h0_0r h0_0g h0_1n h0_1r h0_1g h1_1 h2z h3z h3e u21 h2e := by kernel_rfl
theorem g18_l0_ok (M37 : List AV → Option AV) (fuel : Nat) (call : CallI AV) (K : Ex → St → Option AV) (turns3o : Nat) (turns3n : Nat) (turns3c : Nat) (u19n : Nat) (u19r : Nat) (u19g : Nat → Nat → AV) (u20 : Int) (h0_0n : Nat) (h0_0r : Nat) (h0_0g : Nat → Nat → AV) (h0_1n : Nat) (h0_1r : Nat) (h0_1g : Nat → Nat → AV) (h1_1 : Int) (h2z : List AV) (h3z : List AV) (h3e : List (List AV)) (u210 : Int) (h2e0 : List (List AV)) : ∀ (n' : Nat) (u21 : Int) (h2e : List (List AV)),
    loopK (exec Pr (G18 M37) (L18 M37 fuel) (fnNt Pr 18) fuel call (lp Pr 18 0).1 (lp Pr 18 0).2 (live (lp Pr 18 0).1 (lp Pr 18 0).2 0)) (headN (live (lp Pr 18 0).1 (lp Pr 18 0).2 0) (writes (lp Pr 18 0).1) (S18_0 turns3o turns3n turns3c u19n u19r u19g u20 u210 h0_0n h0_0r h0_0g h0_1n h0_1r h0_1g h1_1 h2z h2e0 h3z h3e)) n' (S18_0 turns3o turns3n turns3c u19n u19r u19g u20 u21 h0_0n h0_0r h0_0g h0_1n h0_1r h0_1g h1_1 h2z h2e h3z h3e) K = g18_l0 M37 fuel (fun xturns3o xturns3n xturns3c xh0_0n xh0_0r xh0_0g xh0_1n xh0_1r xh0_1g xh1_1 xh2z xh2e xh3z xh3e => K (Ex.exit (0 : Nat)) (X18_0_0 xturns3o xturns3n xturns3c xh0_0n xh0_0r xh0_0g xh0_1n xh0_1r xh0_1g xh1_1 xh2z xh2e xh3z xh3e)) turns3o turns3n turns3c u19n u19r u19g u20 h0_0n h0_0r h0_0g h0_1n h0_1r h0_1g h1_1 h2z h3z h3e n' u21 h2e
  | 0, _, _ => rfl
  | n' + 1, u21, h2e => (g18_l0_eq M37 fuel call (fun s => loopK (exec Pr (G18 M37) (L18 M37 fuel) (fnNt Pr 18) fuel call (lp Pr 18 0).1 (lp Pr 18 0).2 (live (lp Pr 18 0).1 (lp Pr 18 0).2 0)) (headN (live (lp Pr 18 0).1 (lp Pr 18 0).2 0) (writes (lp Pr 18 0).1) (S18_0 turns3o turns3n turns3c u19n u19r u19g u20 u210 h0_0n h0_0r h0_0g h0_1n h0_1r h0_1g h1_1 h2z h2e0 h3z h3e)) n' s K) K turns3o turns3n turns3c u19n u19r u19g u20 h0_0n h0_0r h0_0g h0_1n h0_1r h0_1g h1_1 h2z h3z h3e u210 h2e0 u21 h2e).trans
    (congrArg (fun kn => g18_l0_step M37 fuel kn (fun xturns3o xturns3n xturns3c xh0_0n xh0_0r xh0_0g xh0_1n xh0_1r xh0_1g xh1_1 xh2z xh2e xh3z xh3e => K (Ex.exit (0 : Nat)) (X18_0_0 xturns3o xturns3n xturns3c xh0_0n xh0_0r xh0_0g xh0_1n xh0_1r xh0_1g xh1_1 xh2z xh2e xh3z xh3e)) turns3o turns3n turns3c u19n u19r u19g u20 h0_0n h0_0r h0_0g h0_1n h0_1r h0_1g h1_1 h2z h3z h3e u21 h2e) (funext fun _ => funext fun _ => g18_l0_ok M37 fuel call K turns3o turns3n turns3c u19n u19r u19g u20 h0_0n h0_0r h0_0g h0_1n h0_1r h0_1g h1_1 h2z h3z h3e u210 h2e0 n' _ _))
theorem g18_L0 (M37 : List AV → Option AV) (fuel : Nat) (call : CallI AV) : LOk Pr (G18 M37) (L18 M37 fuel) (fnNt Pr 18) fuel call (lp Pr 18 0) := by
  refine .of T18_0 (F18_0 M37 fuel) (fun L h => ?_) (fun ps st K r he hr => ?_)
  · have e : (L18 M37 fuel).get (writes (lp Pr 18 0).1) = some (lam T18_0 (F18_0 M37 fuel)) := by kernel_rfl
    exact (Option.some.inj (e.symm.trans h)).symm
  · unfold F18_0 at hr
    split at hr
    · obtain rfl := (Option.some.inj he).symm
      exact (g18_l0_ok M37 fuel call K _ _ _ _ _ _ _ _ _ _ _ _ _ _ _ _ _ _ _ fuel _ _).trans hr
    · cases hr
theorem g18_l1_eq (M37 : List AV → Option AV) (fuel : Nat) (call : CallI AV) (kn : St → Option AV) (K : Ex → St → Option AV) (turns3o_2 : Nat) (turns3n_2 : Nat) (turns3c_2 : Nat) (ui9 : Int) (u56n_1 : Nat) (u56r_1 : Nat) (u56g_1 : Nat → Nat → AV) (u57_1 : Int) (u58_1 : Int) (u64_0 : Int) (u64_1 : Int) (u64_2 : Int) (h0_0n_2 : Nat) (h0_0r_2 : Nat) (h0_0g_2 : Nat → Nat → AV) (h0_1n_2 : Nat) (h0_1r_2 : Nat) (h0_1g_2 : Nat → Nat → AV) (h1_1_2 : Int) (h2z_2 : List AV) (h2e_2 : List (List AV)) (h3z_2 : List AV) (h3e_2 : List (List AV)) (h5z_1 : List AV) (h5e_1 : List (List AV)) (h6_0 : ByteArray) (h6_1 : Int) (h6_2 : Int) (h6_3 : Int) (u650 : Int) (h4_1_10 : Int) (h7_00 : Int) (h7_10 : Int) (h7_20 : Int) (u65 : Int) (h4_1_1 : Int) (h7_0 : Int) (h7_1 : Int) (h7_2 : Int) :
    exec Pr (G18 M37) (L18 M37 fuel) (fnNt Pr 18) fuel call (lp Pr 18 2).1 (lp Pr 18 2).2 (live (lp Pr 18 2).1 (lp Pr 18 2).2 0) (S18_1 turns3o_2 turns3n_2 turns3c_2 ui9 u56n_1 u56r_1 u56g_1 u57_1 u58_1 u64_0 u64_1 u64_2 u65 h0_0n_2 h0_0r_2 h0_0g_2 h0_1n_2 h0_1r_2 h0_1g_2 h1_1_2 h2z_2 h2e_2 h3z_2 h3e_2 h4_1_1 h5z_1 h5e_1 h6_0 h6_1 h6_2 h6_3 h7_0 h7_1 h7_2) (fun e s => match e with | .normal => kn (headN (live (lp Pr 18 2).1 (lp Pr 18 2).2 0) (writes (lp Pr 18 2).1) (S18_1 turns3o_2 turns3n_2 turns3c_2 ui9 u56n_1 u56r_1 u56g_1 u57_1 u58_1 u64_0 u64_1 u64_2 u650 h0_0n_2 h0_0r_2 h0_0g_2 h0_1n_2 h0_1r_2 h0_1g_2 h1_1_2 h2z_2 h2e_2 h3z_2 h3e_2 h4_1_10 h5z_1 h5e_1 h6_0 h6_1 h6_2 h6_3 h7_00 h7_10 h7_20) s) | e => K e s) =
    g18_l1_step M37 fuel (fun u65 h4_1_1 h7_0 h7_1 h7_2 => kn (S18_1 turns3o_2 turns3n_2 turns3c_2 ui9 u56n_1 u56r_1 u56g_1 u57_1 u58_1 u64_0 u64_1 u64_2 u65 h0_0n_2 h0_0r_2 h0_0g_2 h0_1n_2 h0_1r_2 h0_1g_2 h1_1_2 h2z_2 h2e_2 h3z_2 h3e_2 h4_1_1 h5z_1 h5e_1 h6_0 h6_1 h6_2 h6_3 h7_0 h7_1 h7_2)) (fun xturns3o xturns3n xturns3c xu56n xu56r xu56g xu57 xu58 xh0_0n xh0_0r xh0_0g xh0_1n xh0_1r xh0_1g xh1_1 xh2z xh2e xh3z xh3e xh4_1 xh5z xh5e xh6_0 xh6_1 xh6_2 xh6_3 xh7_0 xh7_1 xh7_2 => K (Ex.exit (4 : Nat)) (X18_1_0 xturns3o xturns3n xturns3c xu56n xu56r xu56g xu57 xu58 xh0_0n xh0_0r xh0_0g xh0_1n xh0_1r xh0_1g xh1_1 xh2z xh2e xh3z xh3e xh4_1 xh5z xh5e xh6_0 xh6_1 xh6_2 xh6_3 xh7_0 xh7_1 xh7_2)) turns3o_2 turns3n_2 turns3c_2 ui9 u56n_1 u56r_1 u56g_1 u57_1 u58_1 u64_0 u64_1 u64_2 h0_0n_2 h0_0r_2 h0_0g_2 h0_1n_2 h0_1r_2 h0_1g_2 h1_1_2 h2z_2 h2e_2 h3z_2 h3e_2 h5z_1 h5e_1 h6_0 h6_1 h6_2 h6_3 u65 h4_1_1 h7_0 h7_1 h7_2 := by kernel_rfl
theorem g18_l1_ok (M37 : List AV → Option AV) (fuel : Nat) (call : CallI AV) (K : Ex → St → Option AV) (turns3o_2 : Nat) (turns3n_2 : Nat) (turns3c_2 : Nat) (ui9 : Int) (u56n_1 : Nat) (u56r_1 : Nat) (u56g_1 : Nat → Nat → AV) (u57_1 : Int) (u58_1 : Int) (u64_0 : Int) (u64_1 : Int) (u64_2 : Int) (h0_0n_2 : Nat) (h0_0r_2 : Nat) (h0_0g_2 : Nat → Nat → AV) (h0_1n_2 : Nat) (h0_1r_2 : Nat) (h0_1g_2 : Nat → Nat → AV) (h1_1_2 : Int) (h2z_2 : List AV) (h2e_2 : List (List AV)) (h3z_2 : List AV) (h3e_2 : List (List AV)) (h5z_1 : List AV) (h5e_1 : List (List AV)) (h6_0 : ByteArray) (h6_1 : Int) (h6_2 : Int) (h6_3 : Int) (u650 : Int) (h4_1_10 : Int) (h7_00 : Int) (h7_10 : Int) (h7_20 : Int) : ∀ (n' : Nat) (u65 : Int) (h4_1_1 : Int) (h7_0 : Int) (h7_1 : Int) (h7_2 : Int),
    loopK (exec Pr (G18 M37) (L18 M37 fuel) (fnNt Pr 18) fuel call (lp Pr 18 2).1 (lp Pr 18 2).2 (live (lp Pr 18 2).1 (lp Pr 18 2).2 0)) (headN (live (lp Pr 18 2).1 (lp Pr 18 2).2 0) (writes (lp Pr 18 2).1) (S18_1 turns3o_2 turns3n_2 turns3c_2 ui9 u56n_1 u56r_1 u56g_1 u57_1 u58_1 u64_0 u64_1 u64_2 u650 h0_0n_2 h0_0r_2 h0_0g_2 h0_1n_2 h0_1r_2 h0_1g_2 h1_1_2 h2z_2 h2e_2 h3z_2 h3e_2 h4_1_10 h5z_1 h5e_1 h6_0 h6_1 h6_2 h6_3 h7_00 h7_10 h7_20)) n' (S18_1 turns3o_2 turns3n_2 turns3c_2 ui9 u56n_1 u56r_1 u56g_1 u57_1 u58_1 u64_0 u64_1 u64_2 u65 h0_0n_2 h0_0r_2 h0_0g_2 h0_1n_2 h0_1r_2 h0_1g_2 h1_1_2 h2z_2 h2e_2 h3z_2 h3e_2 h4_1_1 h5z_1 h5e_1 h6_0 h6_1 h6_2 h6_3 h7_0 h7_1 h7_2) K = g18_l1 M37 fuel (fun xturns3o xturns3n xturns3c xu56n xu56r xu56g xu57 xu58 xh0_0n xh0_0r xh0_0g xh0_1n xh0_1r xh0_1g xh1_1 xh2z xh2e xh3z xh3e xh4_1 xh5z xh5e xh6_0 xh6_1 xh6_2 xh6_3 xh7_0 xh7_1 xh7_2 => K (Ex.exit (4 : Nat)) (X18_1_0 xturns3o xturns3n xturns3c xu56n xu56r xu56g xu57 xu58 xh0_0n xh0_0r xh0_0g xh0_1n xh0_1r xh0_1g xh1_1 xh2z xh2e xh3z xh3e xh4_1 xh5z xh5e xh6_0 xh6_1 xh6_2 xh6_3 xh7_0 xh7_1 xh7_2)) turns3o_2 turns3n_2 turns3c_2 ui9 u56n_1 u56r_1 u56g_1 u57_1 u58_1 u64_0 u64_1 u64_2 h0_0n_2 h0_0r_2 h0_0g_2 h0_1n_2 h0_1r_2 h0_1g_2 h1_1_2 h2z_2 h2e_2 h3z_2 h3e_2 h5z_1 h5e_1 h6_0 h6_1 h6_2 h6_3 n' u65 h4_1_1 h7_0 h7_1 h7_2
  | 0, _, _, _, _, _ => rfl
  | n' + 1, u65, h4_1_1, h7_0, h7_1, h7_2 => (g18_l1_eq M37 fuel call (fun s => loopK (exec Pr (G18 M37) (L18 M37 fuel) (fnNt Pr 18) fuel call (lp Pr 18 2).1 (lp Pr 18 2).2 (live (lp Pr 18 2).1 (lp Pr 18 2).2 0)) (headN (live (lp Pr 18 2).1 (lp Pr 18 2).2 0) (writes (lp Pr 18 2).1) (S18_1 turns3o_2 turns3n_2 turns3c_2 ui9 u56n_1 u56r_1 u56g_1 u57_1 u58_1 u64_0 u64_1 u64_2 u650 h0_0n_2 h0_0r_2 h0_0g_2 h0_1n_2 h0_1r_2 h0_1g_2 h1_1_2 h2z_2 h2e_2 h3z_2 h3e_2 h4_1_10 h5z_1 h5e_1 h6_0 h6_1 h6_2 h6_3 h7_00 h7_10 h7_20)) n' s K) K turns3o_2 turns3n_2 turns3c_2 ui9 u56n_1 u56r_1 u56g_1 u57_1 u58_1 u64_0 u64_1 u64_2 h0_0n_2 h0_0r_2 h0_0g_2 h0_1n_2 h0_1r_2 h0_1g_2 h1_1_2 h2z_2 h2e_2 h3z_2 h3e_2 h5z_1 h5e_1 h6_0 h6_1 h6_2 h6_3 u650 h4_1_10 h7_00 h7_10 h7_20 u65 h4_1_1 h7_0 h7_1 h7_2).trans
    (congrArg (fun kn => g18_l1_step M37 fuel kn (fun xturns3o xturns3n xturns3c xu56n xu56r xu56g xu57 xu58 xh0_0n xh0_0r xh0_0g xh0_1n xh0_1r xh0_1g xh1_1 xh2z xh2e xh3z xh3e xh4_1 xh5z xh5e xh6_0 xh6_1 xh6_2 xh6_3 xh7_0 xh7_1 xh7_2 => K (Ex.exit (4 : Nat)) (X18_1_0 xturns3o xturns3n xturns3c xu56n xu56r xu56g xu57 xu58 xh0_0n xh0_0r xh0_0g xh0_1n xh0_1r xh0_1g xh1_1 xh2z xh2e xh3z xh3e xh4_1 xh5z xh5e xh6_0 xh6_1 xh6_2 xh6_3 xh7_0 xh7_1 xh7_2)) turns3o_2 turns3n_2 turns3c_2 ui9 u56n_1 u56r_1 u56g_1 u57_1 u58_1 u64_0 u64_1 u64_2 h0_0n_2 h0_0r_2 h0_0g_2 h0_1n_2 h0_1r_2 h0_1g_2 h1_1_2 h2z_2 h2e_2 h3z_2 h3e_2 h5z_1 h5e_1 h6_0 h6_1 h6_2 h6_3 u65 h4_1_1 h7_0 h7_1 h7_2) (funext fun _ => funext fun _ => funext fun _ => funext fun _ => funext fun _ => g18_l1_ok M37 fuel call K turns3o_2 turns3n_2 turns3c_2 ui9 u56n_1 u56r_1 u56g_1 u57_1 u58_1 u64_0 u64_1 u64_2 h0_0n_2 h0_0r_2 h0_0g_2 h0_1n_2 h0_1r_2 h0_1g_2 h1_1_2 h2z_2 h2e_2 h3z_2 h3e_2 h5z_1 h5e_1 h6_0 h6_1 h6_2 h6_3 u650 h4_1_10 h7_00 h7_10 h7_20 n' _ _ _ _ _))
theorem g18_L1 (M37 : List AV → Option AV) (fuel : Nat) (call : CallI AV) : LOk Pr (G18 M37) (L18 M37 fuel) (fnNt Pr 18) fuel call (lp Pr 18 2) := by
  refine .of T18_1 (F18_1 M37 fuel) (fun L h => ?_) (fun ps st K r he hr => ?_)
  · have e : (L18 M37 fuel).get (writes (lp Pr 18 2).1) = some (lam T18_1 (F18_1 M37 fuel)) := by kernel_rfl
    exact (Option.some.inj (e.symm.trans h)).symm
  · unfold F18_1 at hr
    split at hr
    · obtain rfl := (Option.some.inj he).symm
      exact (g18_l1_ok M37 fuel call K _ _ _ _ _ _ _ _ _ _ _ _ _ _ _ _ _ _ _ _ _ _ _ _ _ _ _ _ _ _ _ _ _ _ fuel _ _ _ _ _).trans hr
    · cases hr
theorem g18_l2_eq (M37 : List AV → Option AV) (fuel : Nat) (call : CallI AV) (kn : St → Option AV) (K : Ex → St → Option AV) (turns3o_10 : Nat) (turns3n_10 : Nat) (turns3c_10 : Nat) (u56n0 : Nat) (u56r0 : Nat) (u56g0 : Nat → Nat → AV) (u570 : Int) (u580 : Int) (h0_0n_10 : Nat) (h0_0r_10 : Nat) (h0_0g_10 : Nat → Nat → AV) (h0_1n_10 : Nat) (h0_1r_10 : Nat) (h0_1g_10 : Nat → Nat → AV) (h1_1_10 : Int) (h2z_10 : List AV) (h2e_10 : List (List AV)) (h3z_10 : List AV) (h3e_10 : List (List AV)) (h4_10 : Int) (h5z0 : List AV) (h5e0 : List (List AV)) (turns3o_1 : Nat) (turns3n_1 : Nat) (turns3c_1 : Nat) (u56n : Nat) (u56r : Nat) (u56g : Nat → Nat → AV) (u57 : Int) (u58 : Int) (h0_0n_1 : Nat) (h0_0r_1 : Nat) (h0_0g_1 : Nat → Nat → AV) (h0_1n_1 : Nat) (h0_1r_1 : Nat) (h0_1g_1 : Nat → Nat → AV) (h1_1_1 : Int) (h2z_1 : List AV) (h2e_1 : List (List AV)) (h3z_1 : List AV) (h3e_1 : List (List AV)) (h4_1 : Int) (h5z : List AV) (h5e : List (List AV)) :
    exec Pr (G18 M37) (L18 M37 fuel) (fnNt Pr 18) fuel call (lp Pr 18 1).1 (lp Pr 18 1).2 (live (lp Pr 18 1).1 (lp Pr 18 1).2 0) (S18_2 turns3o_1 turns3n_1 turns3c_1 u56n u56r u56g u57 u58 h0_0n_1 h0_0r_1 h0_0g_1 h0_1n_1 h0_1r_1 h0_1g_1 h1_1_1 h2z_1 h2e_1 h3z_1 h3e_1 h4_1 h5z h5e) (fun e s => match e with | .normal => kn (headN (live (lp Pr 18 1).1 (lp Pr 18 1).2 0) (writes (lp Pr 18 1).1) (S18_2 turns3o_10 turns3n_10 turns3c_10 u56n0 u56r0 u56g0 u570 u580 h0_0n_10 h0_0r_10 h0_0g_10 h0_1n_10 h0_1r_10 h0_1g_10 h1_1_10 h2z_10 h2e_10 h3z_10 h3e_10 h4_10 h5z0 h5e0) s) | e => K e s) =
    g18_l2_step M37 fuel (fun turns3o_1 turns3n_1 turns3c_1 u56n u56r u56g u57 u58 h0_0n_1 h0_0r_1 h0_0g_1 h0_1n_1 h0_1r_1 h0_1g_1 h1_1_1 h2z_1 h2e_1 h3z_1 h3e_1 h4_1 h5z h5e => kn (S18_2 turns3o_1 turns3n_1 turns3c_1 u56n u56r u56g u57 u58 h0_0n_1 h0_0r_1 h0_0g_1 h0_1n_1 h0_1r_1 h0_1g_1 h1_1_1 h2z_1 h2e_1 h3z_1 h3e_1 h4_1 h5z h5e)) (fun xh0_0n xh0_0r xh0_0g xh0_1n xh0_1r xh0_1g xh1_1 xh2z xh2e xh3z xh3e xh4_1 xh5z xh5e => K (Ex.exit (2 : Nat)) (X18_2_0 xh0_0n xh0_0r xh0_0g xh0_1n xh0_1r xh0_1g xh1_1 xh2z xh2e xh3z xh3e xh4_1 xh5z xh5e)) turns3o_1 turns3n_1 turns3c_1 u56n u56r u56g u57 u58 h0_0n_1 h0_0r_1 h0_0g_1 h0_1n_1 h0_1r_1 h0_1g_1 h1_1_1 h2z_1 h2e_1 h3z_1 h3e_1 h4_1 h5z h5e := by kernel_rfl
theorem g18_l2_ok (M37 : List AV → Option AV) (fuel : Nat) (call : CallI AV) (K : Ex → St → Option AV) (turns3o_10 : Nat) (turns3n_10 : Nat) (turns3c_10 : Nat) (u56n0 : Nat) (u56r0 : Nat) (u56g0 : Nat → Nat → AV) (u570 : Int) (u580 : Int) (h0_0n_10 : Nat) (h0_0r_10 : Nat) (h0_0g_10 : Nat → Nat → AV) (h0_1n_10 : Nat) (h0_1r_10 : Nat) (h0_1g_10 : Nat → Nat → AV) (h1_1_10 : Int) (h2z_10 : List AV) (h2e_10 : List (List AV)) (h3z_10 : List AV) (h3e_10 : List (List AV)) (h4_10 : Int) (h5z0 : List AV) (h5e0 : List (List AV)) : ∀ (n' : Nat) (turns3o_1 : Nat) (turns3n_1 : Nat) (turns3c_1 : Nat) (u56n : Nat) (u56r : Nat) (u56g : Nat → Nat → AV) (u57 : Int) (u58 : Int) (h0_0n_1 : Nat) (h0_0r_1 : Nat) (h0_0g_1 : Nat → Nat → AV) (h0_1n_1 : Nat) (h0_1r_1 : Nat) (h0_1g_1 : Nat → Nat → AV) (h1_1_1 : Int) (h2z_1 : List AV) (h2e_1 : List (List AV)) (h3z_1 : List AV) (h3e_1 : List (List AV)) (h4_1 : Int) (h5z : List AV) (h5e : List (List AV)),
    loopK (exec Pr (G18 M37) (L18 M37 fuel) (fnNt Pr 18) fuel call (lp Pr 18 1).1 (lp Pr 18 1).2 (live (lp Pr 18 1).1 (lp Pr 18 1).2 0)) (headN (live (lp Pr 18 1).1 (lp Pr 18 1).2 0) (writes (lp Pr 18 1).1) (S18_2 turns3o_10 turns3n_10 turns3c_10 u56n0 u56r0 u56g0 u570 u580 h0_0n_10 h0_0r_10 h0_0g_10 h0_1n_10 h0_1r_10 h0_1g_10 h1_1_10 h2z_10 h2e_10 h3z_10 h3e_10 h4_10 h5z0 h5e0)) n' (S18_2 turns3o_1 turns3n_1 turns3c_1 u56n u56r u56g u57 u58 h0_0n_1 h0_0r_1 h0_0g_1 h0_1n_1 h0_1r_1 h0_1g_1 h1_1_1 h2z_1 h2e_1 h3z_1 h3e_1 h4_1 h5z h5e) K = g18_l2 M37 fuel (fun xh0_0n xh0_0r xh0_0g xh0_1n xh0_1r xh0_1g xh1_1 xh2z xh2e xh3z xh3e xh4_1 xh5z xh5e => K (Ex.exit (2 : Nat)) (X18_2_0 xh0_0n xh0_0r xh0_0g xh0_1n xh0_1r xh0_1g xh1_1 xh2z xh2e xh3z xh3e xh4_1 xh5z xh5e)) n' turns3o_1 turns3n_1 turns3c_1 u56n u56r u56g u57 u58 h0_0n_1 h0_0r_1 h0_0g_1 h0_1n_1 h0_1r_1 h0_1g_1 h1_1_1 h2z_1 h2e_1 h3z_1 h3e_1 h4_1 h5z h5e
  | 0, _, _, _, _, _, _, _, _, _, _, _, _, _, _, _, _, _, _, _, _, _, _ => rfl
  | n' + 1, turns3o_1, turns3n_1, turns3c_1, u56n, u56r, u56g, u57, u58, h0_0n_1, h0_0r_1, h0_0g_1, h0_1n_1, h0_1r_1, h0_1g_1, h1_1_1, h2z_1, h2e_1, h3z_1, h3e_1, h4_1, h5z, h5e => (g18_l2_eq M37 fuel call (fun s => loopK (exec Pr (G18 M37) (L18 M37 fuel) (fnNt Pr 18) fuel call (lp Pr 18 1).1 (lp Pr 18 1).2 (live (lp Pr 18 1).1 (lp Pr 18 1).2 0)) (headN (live (lp Pr 18 1).1 (lp Pr 18 1).2 0) (writes (lp Pr 18 1).1) (S18_2 turns3o_10 turns3n_10 turns3c_10 u56n0 u56r0 u56g0 u570 u580 h0_0n_10 h0_0r_10 h0_0g_10 h0_1n_10 h0_1r_10 h0_1g_10 h1_1_10 h2z_10 h2e_10 h3z_10 h3e_10 h4_10 h5z0 h5e0)) n' s K) K turns3o_10 turns3n_10 turns3c_10 u56n0 u56r0 u56g0 u570 u580 h0_0n_10 h0_0r_10 h0_0g_10 h0_1n_10 h0_1r_10 h0_1g_10 h1_1_10 h2z_10 h2e_10 h3z_10 h3e_10 h4_10 h5z0 h5e0 turns3o_1 turns3n_1 turns3c_1 u56n u56r u56g u57 u58 h0_0n_1 h0_0r_1 h0_0g_1 h0_1n_1 h0_1r_1 h0_1g_1 h1_1_1 h2z_1 h2e_1 h3z_1 h3e_1 h4_1 h5z h5e).trans
    (congrArg (fun kn => g18_l2_step M37 fuel kn (fun xh0_0n xh0_0r xh0_0g xh0_1n xh0_1r xh0_1g xh1_1 xh2z xh2e xh3z xh3e xh4_1 xh5z xh5e => K (Ex.exit (2 : Nat)) (X18_2_0 xh0_0n xh0_0r xh0_0g xh0_1n xh0_1r xh0_1g xh1_1 xh2z xh2e xh3z xh3e xh4_1 xh5z xh5e)) turns3o_1 turns3n_1 turns3c_1 u56n u56r u56g u57 u58 h0_0n_1 h0_0r_1 h0_0g_1 h0_1n_1 h0_1r_1 h0_1g_1 h1_1_1 h2z_1 h2e_1 h3z_1 h3e_1 h4_1 h5z h5e) (funext fun _ => funext fun _ => funext fun _ => funext fun _ => funext fun _ => funext fun _ => funext fun _ => funext fun _ => funext fun _ => funext fun _ => funext fun _ => funext fun _ => funext fun _ => funext fun _ => funext fun _ => funext fun _ => funext fun _ => funext fun _ => funext fun _ => funext fun _ => funext fun _ => funext fun _ => g18_l2_ok M37 fuel call K turns3o_10 turns3n_10 turns3c_10 u56n0 u56r0 u56g0 u570 u580 h0_0n_10 h0_0r_10 h0_0g_10 h0_1n_10 h0_1r_10 h0_1g_10 h1_1_10 h2z_10 h2e_10 h3z_10 h3e_10 h4_10 h5z0 h5e0 n' _ _ _ _ _ _ _ _ _ _ _ _ _ _ _ _ _ _ _ _ _ _))
theorem g18_L2 (M37 : List AV → Option AV) (fuel : Nat) (call : CallI AV) : LOk Pr (G18 M37) (L18 M37 fuel) (fnNt Pr 18) fuel call (lp Pr 18 1) := by
  refine .of T18_2 (F18_2 M37 fuel) (fun L h => ?_) (fun ps st K r he hr => ?_)
  · have e : (L18 M37 fuel).get (writes (lp Pr 18 1).1) = some (lam T18_2 (F18_2 M37 fuel)) := by kernel_rfl
    exact (Option.some.inj (e.symm.trans h)).symm
  · unfold F18_2 at hr
    split at hr
    · obtain rfl := (Option.some.inj he).symm
      exact (g18_l2_ok M37 fuel call K _ _ _ _ _ _ _ _ _ _ _ _ _ _ _ _ _ _ _ _ _ _ fuel _ _ _ _ _ _ _ _ _ _ _ _ _ _ _ _ _ _ _ _ _ _).trans hr
    · cases hr
noncomputable def g18 (M37 : List AV → Option AV) (fuel : Nat) (up0_0n : Nat) (up0_0r : Nat) (up0_0g : Nat → Nat → AV) (up0_1n : Nat) (up0_1r : Nat) (up0_1g : Nat → Nat → AV) : Option AV :=
  bif decide ((↑up0_0n : Int) ≤ (↑up0_0n : Int)) then bif ((1 : Nat) * (↑up0_0n : Int).toNat).ble (281474976710656 : Nat) then bif ((↑up0_0n : Int).toNat + (1 : Nat)).ble (4611686018427387904 : Nat) then g18_l0 M37 fuel
          (fun (xturns3o : Nat) (xturns3n : Nat) (xturns3c : Nat) (xh0_0n : Nat) (xh0_0r : Nat) (xh0_0g : Nat → Nat → AV) (xh0_1n : Nat) (xh0_1r : Nat) (xh0_1g : Nat → Nat → AV) (xh1_1 : Int) (xh2z : List AV) (xh2e : List (List AV)) (xh3z : List AV) (xh3e : List (List AV)) => g18_l2 M37 fuel
              (fun (_ : Nat) (_ : Nat) (_ : Nat → Nat → AV) (_ : Nat) (_ : Nat) (_ : Nat → Nat → AV) (_ : Int) (_ : List AV) (_ : List (List AV)) (_ : List AV) (_ : List (List AV)) (xh4_1_1 : Int) (xh5z_1 : List AV) (xh5e_1 : List (List AV)) => some (AV.agg [AV.ro (3 : Nat) xh5e_1.length xh5e_1.length fun (i j : Nat) => (xh5e_1.getD i xh5z_1).getD j AV.dead, AV.int IntKind.i64 xh4_1_1])) fuel (xturns3o) (xturns3n) (xturns3c) (xh0_0n) (xh0_0r) (xh0_0g) ((↑xh0_0n : Int)) ((0 : Int)) (xh0_0n) (xh0_0r) (xh0_0g) (xh0_1n) (xh0_1r) (xh0_1g) (xh1_1) (xh2z) (xh2e) (xh3z) (xh3e) ((0 : Int)) ([AV.int IntKind.i64 (0 : Int), AV.int IntKind.i64 (0 : Int), AV.int IntKind.i64 (0 : Int)]) ([]))
          ((0 : Nat))
          ((↑up0_0n : Int).toNat)
          ((↑up0_0n : Int).toNat)
          (up0_1n)
          (up0_1r)
          (up0_1g)
          ((↑up0_1n : Int))
          (up0_0n)
          (up0_0r)
          (up0_0g)
          (up0_1n)
          (up0_1r)
          (up0_1g)
          ((0 : Int))
          ([AV.bool false])
          ([AV.int IntKind.i64 (0 : Int), AV.int IntKind.i64 (0 : Int), AV.int IntKind.i64 (0 : Int)])
          ([]) fuel ((0 : Int)) (List.replicate (↑up0_0n : Int).toNat [AV.bool false])
      else none
    else none
  else none
theorem g18_run (M37 : List AV → Option AV) (fuel : Nat) (up0_0n : Nat) (up0_0r : Nat) (up0_0g : Nat → Nat → AV) (up0_1n : Nat) (up0_1r : Nat) (up0_1g : Nat → Nat → AV) : run Pr (G18 M37) [((0, 18), L18 M37 fuel)] fuel 1 18 [AV.agg [AV.ro (4 : Nat) up0_0n up0_0r up0_0g, AV.ro (9 : Nat) up0_1n up0_1r up0_1g]] = g18 M37 fuel up0_0n up0_0r up0_0g up0_1n up0_1r up0_1g := by kernel_rfl
noncomputable def m18 (M37 : List AV → Option AV) (fuel : Nat) (xs : List AV) : Option AV := match xs with
  | [AV.agg [AV.ro (4 : Nat) up0_0n up0_0r up0_0g, AV.ro (9 : Nat) up0_1n up0_1r up0_1g]] => g18 M37 fuel up0_0n up0_0r up0_0g up0_1n up0_1r up0_1g
  | _ => none
abbrev R18 : List RS := [RS.agg [LK.l (nat_lit 3), LK.i IntKind.i64]]
theorem g18_sm (M37 : List AV → Option AV) (fuel : Nat) (hΓ : ∀ f s, (G18 M37).get f = some s → SmOk Pr f s) (hP : NamesOk Pr) : SmOk Pr 18 (smM R18 (m18 M37 fuel)) := by
  refine smM_ok (fuel := fuel) hΓ hP (LamOk.of 18 (L18 M37 fuel) 3 (by kernel_rfl) (fun i hi => ?_)) 1 18 R18 _ (fun xs v h => ?_)
  · match i, hi with
    | 0, _ => exact g18_L0 M37 fuel _
    | 2, _ => exact g18_L1 M37 fuel _
    | 1, _ => exact g18_L2 M37 fuel _
    | i + 3, hi => exact absurd hi (by omega)
  · unfold m18 at h
    split at h
    · exact (g18_run M37 fuel _ _ _ _ _ _).trans h
    · cases h

/-! ### function 7 -/
noncomputable def L7 (M5 : List AV → Option AV) (M18 : List AV → Option AV) (fuel : Nat) : Lam AV := []
noncomputable def G7 (M5 : List AV → Option AV) (M18 : List AV → Option AV) : Gam := [(5, smM [RS.one (LK.i IntKind.i64), RS.one (LK.i IntKind.i64)] M5), (18, smM [RS.agg [LK.l (nat_lit 3), LK.i IntKind.i64]] M18)]
noncomputable def g7 (M5 : List AV → Option AV) (M18 : List AV → Option AV) (fuel : Nat) (up0_0n : Nat) (up0_0r : Nat) (up0_0g : Nat → Nat → AV) (up0_1n : Nat) (up0_1r : Nat) (up0_1g : Nat → Nat → AV) : Option AV :=
  bif okM [RS.one (LK.i IntKind.i64), RS.one (LK.i IntKind.i64)] (M5 [AV.agg [AV.ro (4 : Nat) up0_0n up0_0r up0_0g, AV.ro (9 : Nat) up0_1n up0_1r up0_1g]]) then bif toI ((toT (getV (M5 [AV.agg [AV.ro (4 : Nat) up0_0n up0_0r up0_0g, AV.ro (9 : Nat) up0_1n up0_1r up0_1g]]))).headD AV.dead) != (0 : Int) then some (AV.tup [AV.agg [AV.ro (3 : Nat) (0 : Nat) (0 : Nat) fun (x j : Nat) => [AV.int IntKind.i64 (0 : Int), AV.int IntKind.i64 (0 : Int), AV.int IntKind.i64 (0 : Int)].getD j AV.dead, AV.int IntKind.i64 (0 : Int)], AV.int IntKind.i64 (toI ((toT (getV (M5 [AV.agg [AV.ro (4 : Nat) up0_0n up0_0r up0_0g, AV.ro (9 : Nat) up0_1n up0_1r up0_1g]]))).headD AV.dead))])
    else bif okM [RS.agg [LK.l (nat_lit 3), LK.i IntKind.i64]] (M18 [AV.agg [AV.ro (4 : Nat) up0_0n up0_0r up0_0g, AV.ro (9 : Nat) up0_1n up0_1r up0_1g]]) then some (AV.tup [AV.agg [AV.ro (3 : Nat) (toN ((toC (getV (M18 [AV.agg [AV.ro (4 : Nat) up0_0n up0_0r up0_0g, AV.ro (9 : Nat) up0_1n up0_1r up0_1g]]))).headD AV.dead)) (toR ((toC (getV (M18 [AV.agg [AV.ro (4 : Nat) up0_0n up0_0r up0_0g, AV.ro (9 : Nat) up0_1n up0_1r up0_1g]]))).headD AV.dead)) (toG ((toC (getV (M18 [AV.agg [AV.ro (4 : Nat) up0_0n up0_0r up0_0g, AV.ro (9 : Nat) up0_1n up0_1r up0_1g]]))).headD AV.dead)), AV.int IntKind.i64 (toI ((toC (getV (M18 [AV.agg [AV.ro (4 : Nat) up0_0n up0_0r up0_0g, AV.ro (9 : Nat) up0_1n up0_1r up0_1g]]))).tail.headD AV.dead))], AV.int IntKind.i64 (0 : Int)])
    else none
  else none
theorem g7_run (M5 : List AV → Option AV) (M18 : List AV → Option AV) (fuel : Nat) (up0_0n : Nat) (up0_0r : Nat) (up0_0g : Nat → Nat → AV) (up0_1n : Nat) (up0_1r : Nat) (up0_1g : Nat → Nat → AV) : run Pr (G7 M5 M18) [((0, 7), L7 M5 M18 fuel)] fuel 1 7 [AV.agg [AV.ro (4 : Nat) up0_0n up0_0r up0_0g, AV.ro (9 : Nat) up0_1n up0_1r up0_1g]] = g7 M5 M18 fuel up0_0n up0_0r up0_0g up0_1n up0_1r up0_1g := by kernel_rfl
noncomputable def m7 (M5 : List AV → Option AV) (M18 : List AV → Option AV) (fuel : Nat) (xs : List AV) : Option AV := match xs with
  | [AV.agg [AV.ro (4 : Nat) up0_0n up0_0r up0_0g, AV.ro (9 : Nat) up0_1n up0_1r up0_1g]] => g7 M5 M18 fuel up0_0n up0_0r up0_0g up0_1n up0_1r up0_1g
  | _ => none
abbrev R7 : List RS := [RS.agg [LK.l (nat_lit 3), LK.i IntKind.i64], RS.one (LK.i IntKind.i64)]
theorem g7_sm (M5 : List AV → Option AV) (M18 : List AV → Option AV) (fuel : Nat) (hΓ : ∀ f s, (G7 M5 M18).get f = some s → SmOk Pr f s) (hP : NamesOk Pr) : SmOk Pr 7 (smM R7 (m7 M5 M18 fuel)) := by
  refine smM_ok (fuel := fuel) hΓ hP (LamOk.of 7 (L7 M5 M18 fuel) 0 (by kernel_rfl) (fun i hi => ?_)) 1 7 R7 _ (fun xs v h => ?_)
  · match i, hi with
    | i + 0, hi => exact absurd hi (by omega)
  · unfold m7 at h
    split at h
    · exact (g7_run M5 M18 fuel _ _ _ _ _ _).trans h
    · cases h

/-! ### function 19 -/
noncomputable def S19_0 (joint1_1 : Int) (uk5 : Int) (h0_0n : Nat) (h0_0r : Nat) (h0_0g : Nat → Nat → AV) (h0_1n : Nat) (h0_1r : Nat) (h0_1g : Nat → Nat → AV) : St := { env := [((1 : Nat), AV.int IntKind.i64 joint1_1), ((2 : Nat), AV.ptr (0 : Nat) (0 : Nat)), ((5 : Nat), AV.int IntKind.i64 uk5)], h := [Blk.box [AV.ro (4 : Nat) h0_0n h0_0r h0_0g, AV.ro (9 : Nat) h0_1n h0_1r h0_1g]], kd := [] }
noncomputable def X19_0_0 (xu4_1 : Bool) (xh0_0n_2 : Nat) (xh0_0r_2 : Nat) (xh0_0g_2 : Nat → Nat → AV) (xh0_1n_2 : Nat) (xh0_1r_2 : Nat) (xh0_1g_2 : Nat → Nat → AV) (xh1_0_1 : ByteArray) (xh1_1_1 : Int) (xh1_2_1 : Int) (xh1_3_1 : Int) (xh1_4_1 : Bool) (xh1_5_1 : Bool) (xh1_6_1 : Option Nat) (xh1_7_1 : Option Nat) (xh1_8_1 : Option Nat) : St := { env := [((4 : Nat), AV.bool xu4_1)], h := [Blk.box [AV.ro (4 : Nat) xh0_0n_2 xh0_0r_2 xh0_0g_2, AV.ro (9 : Nat) xh0_1n_2 xh0_1r_2 xh0_1g_2], Blk.box [AV.str xh1_0_1, AV.int IntKind.u8 xh1_1_1, AV.int IntKind.i64 xh1_2_1, AV.int IntKind.i64 xh1_3_1, AV.bool xh1_4_1, AV.bool xh1_5_1, AV.flt FloatKind.f64 xh1_6_1, AV.flt FloatKind.f64 xh1_7_1, AV.flt FloatKind.f64 xh1_8_1]], kd := [] }
noncomputable def X19_0_1 (xh0_0n_3 : Nat) (xh0_0r_3 : Nat) (xh0_0g_3 : Nat → Nat → AV) (xh0_1n_3 : Nat) (xh0_1r_3 : Nat) (xh0_1g_3 : Nat → Nat → AV) : St := { env := [], h := [Blk.box [AV.ro (4 : Nat) xh0_0n_3 xh0_0r_3 xh0_0g_3, AV.ro (9 : Nat) xh0_1n_3 xh0_1r_3 xh0_1g_3]], kd := [] }
noncomputable def g19_l0_step (fuel : Nat) (kn : Int → Option AV) (kx0 : Bool → Nat → Nat → (Nat → Nat → AV) → Nat → Nat → (Nat → Nat → AV) → ByteArray → Int → Int → Int → Bool → Bool → Option Nat → Option Nat → Option Nat → Option AV) (kx1 : Nat → Nat → (Nat → Nat → AV) → Nat → Nat → (Nat → Nat → AV) → Option AV) (joint1_1 : Int) (h0_0n : Nat) (h0_0r : Nat) (h0_0g : Nat → Nat → AV) (h0_1n : Nat) (h0_1r : Nat) (h0_1g : Nat → Nat → AV) (uk5 : Int) : Option AV :=
  bif decide (uk5 < (↑h0_1n : Int)) then bif decide ((0 : Int) ≤ uk5) then bif decide (uk5 < (↑h0_1n : Int)) then bif fitKs [LK.s, LK.i IntKind.u8, LK.i IntKind.i64, LK.i IntKind.i64, LK.b, LK.b, LK.f FloatKind.f64, LK.f FloatKind.f64, LK.f FloatKind.f64] [h0_1g uk5.toNat (0 : Nat), h0_1g uk5.toNat (1 : Nat), h0_1g uk5.toNat (2 : Nat), h0_1g uk5.toNat (3 : Nat), h0_1g uk5.toNat (4 : Nat), h0_1g uk5.toNat (5 : Nat), h0_1g uk5.toNat (6 : Nat), h0_1g uk5.toNat (7 : Nat), h0_1g uk5.toNat (8 : Nat)] then bif bif toI (h0_1g uk5.toNat (1 : Nat)) == (2 : Int) then true else true then bif bif toI (h0_1g uk5.toNat (2 : Nat)) == joint1_1 then true else true then bif bif !bif toI (h0_1g uk5.toNat (2 : Nat)) == joint1_1 then !toB (h0_1g uk5.toNat (4 : Nat)) else false then true else true then bif bif toI (h0_1g uk5.toNat (3 : Nat)) == joint1_1 then true else true then bif bif toI (h0_1g uk5.toNat (1 : Nat)) == (2 : Int) then bif bif toI (h0_1g uk5.toNat (2 : Nat)) == joint1_1 then !toB (h0_1g uk5.toNat (4 : Nat)) else false then true else bif toI (h0_1g uk5.toNat (3 : Nat)) == joint1_1 then !toB (h0_1g uk5.toNat (5 : Nat)) else false else false then kx0 (true) (h0_0n) (h0_0r) (h0_0g) (h0_1n) (h0_1r) (h0_1g) (toS (h0_1g uk5.toNat (0 : Nat))) (toI (h0_1g uk5.toNat (1 : Nat))) (toI (h0_1g uk5.toNat (2 : Nat))) (toI (h0_1g uk5.toNat (3 : Nat))) (toB (h0_1g uk5.toNat (4 : Nat))) (toB (h0_1g uk5.toNat (5 : Nat))) (toF (h0_1g uk5.toNat (6 : Nat))) (toF (h0_1g uk5.toNat (7 : Nat))) (toF (h0_1g uk5.toNat (8 : Nat)))
                  else kn (IntKind.i64.wrap (uk5 + (1 : Int)))
                else none
              else none
            else none
          else none
        else none
      else none
    else none
  else kx1 (h0_0n) (h0_0r) (h0_0g) (h0_1n) (h0_1r) (h0_1g)
noncomputable def g19_l0 (fuel : Nat) (kx0 : Bool → Nat → Nat → (Nat → Nat → AV) → Nat → Nat → (Nat → Nat → AV) → ByteArray → Int → Int → Int → Bool → Bool → Option Nat → Option Nat → Option Nat → Option AV) (kx1 : Nat → Nat → (Nat → Nat → AV) → Nat → Nat → (Nat → Nat → AV) → Option AV) (joint1_1 : Int) (h0_0n : Nat) (h0_0r : Nat) (h0_0g : Nat → Nat → AV) (h0_1n : Nat) (h0_1r : Nat) (h0_1g : Nat → Nat → AV) : Nat → Int → Option AV
  | 0, _ => none
  | n' + 1, uk5 => g19_l0_step fuel (g19_l0 fuel kx0 kx1 joint1_1 h0_0n h0_0r h0_0g h0_1n h0_1r h0_1g n') kx0 kx1 joint1_1 h0_0n h0_0r h0_0g h0_1n h0_1r h0_1g uk5
noncomputable def T19_0 : TS' := ⟨[(1, TA.i IntKind.i64), (2, TA.ptr 0 0), (5, TA.i IntKind.i64)], [TB.box [TA.ro 4, TA.ro 9]], []⟩
noncomputable def F19_0 (fuel : Nat) (ps : List Pay) (K : Ex → St → Option AV) : Option AV := match ps with
  | .i joint1_1 :: .i uk5 :: .n h0_0n :: .n h0_0r :: .g h0_0g :: .n h0_1n :: .n h0_1r :: .g h0_1g :: [] => g19_l0 fuel (fun xu4_1 xh0_0n_2 xh0_0r_2 xh0_0g_2 xh0_1n_2 xh0_1r_2 xh0_1g_2 xh1_0_1 xh1_1_1 xh1_2_1 xh1_3_1 xh1_4_1 xh1_5_1 xh1_6_1 xh1_7_1 xh1_8_1 => K (Ex.ret) (X19_0_0 xu4_1 xh0_0n_2 xh0_0r_2 xh0_0g_2 xh0_1n_2 xh0_1r_2 xh0_1g_2 xh1_0_1 xh1_1_1 xh1_2_1 xh1_3_1 xh1_4_1 xh1_5_1 xh1_6_1 xh1_7_1 xh1_8_1)) (fun xh0_0n_3 xh0_0r_3 xh0_0g_3 xh0_1n_3 xh0_1r_3 xh0_1g_3 => K (Ex.exit (0 : Nat)) (X19_0_1 xh0_0n_3 xh0_0r_3 xh0_0g_3 xh0_1n_3 xh0_1r_3 xh0_1g_3)) joint1_1 h0_0n h0_0r h0_0g h0_1n h0_1r h0_1g fuel uk5
  | _ => none
noncomputable def L19 (fuel : Nat) : Lam AV := [(17592186044400, lam T19_0 (F19_0 fuel))]
noncomputable def G19 : Gam := []
theorem g19_l0_eq (fuel : Nat) (call : CallI AV) (kn : St → Option AV) (K : Ex → St → Option AV) (joint1_1 : Int) (h0_0n : Nat) (h0_0r : Nat) (h0_0g : Nat → Nat → AV) (h0_1n : Nat) (h0_1r : Nat) (h0_1g : Nat → Nat → AV) (uk50 : Int) (uk5 : Int) :
    exec Pr (G19) (L19 fuel) (fnNt Pr 19) fuel call (lp Pr 19 0).1 (lp Pr 19 0).2 (live (lp Pr 19 0).1 (lp Pr 19 0).2 0) (S19_0 joint1_1 uk5 h0_0n h0_0r h0_0g h0_1n h0_1r h0_1g) (fun e s => match e with | .normal => kn (headN (live (lp Pr 19 0).1 (lp Pr 19 0).2 0) (writes (lp Pr 19 0).1) (S19_0 joint1_1 uk50 h0_0n h0_0r h0_0g h0_1n h0_1r h0_1g) s) | e => K e s) =
    g19_l0_step fuel (fun uk5 => kn (S19_0 joint1_1 uk5 h0_0n h0_0r h0_0g h0_1n h0_1r h0_1g)) (fun xu4 xh0_0n xh0_0r xh0_0g xh0_1n xh0_1r xh0_1g xh1_0 xh1_1 xh1_2 xh1_3 xh1_4 xh1_5 xh1_6 xh1_7 xh1_8 => K (Ex.ret) (X19_0_0 xu4 xh0_0n xh0_0r xh0_0g xh0_1n xh0_1r xh0_1g xh1_0 xh1_1 xh1_2 xh1_3 xh1_4 xh1_5 xh1_6 xh1_7 xh1_8)) (fun xh0_0n xh0_0r xh0_0g xh0_1n xh0_1r xh0_1g => K (Ex.exit (0 : Nat)) (X19_0_1 xh0_0n xh0_0r xh0_0g xh0_1n xh0_1r xh0_1g)) joint1_1 h0_0n h0_0r h0_0g h0_1n h0_1r h0_1g uk5 := by kernel_rfl
theorem g19_l0_ok (fuel : Nat) (call : CallI AV) (K : Ex → St → Option AV) (joint1_1 : Int) (h0_0n : Nat) (h0_0r : Nat) (h0_0g : Nat → Nat → AV) (h0_1n : Nat) (h0_1r : Nat) (h0_1g : Nat → Nat → AV) (uk50 : Int) : ∀ (n' : Nat) (uk5 : Int),
    loopK (exec Pr (G19) (L19 fuel) (fnNt Pr 19) fuel call (lp Pr 19 0).1 (lp Pr 19 0).2 (live (lp Pr 19 0).1 (lp Pr 19 0).2 0)) (headN (live (lp Pr 19 0).1 (lp Pr 19 0).2 0) (writes (lp Pr 19 0).1) (S19_0 joint1_1 uk50 h0_0n h0_0r h0_0g h0_1n h0_1r h0_1g)) n' (S19_0 joint1_1 uk5 h0_0n h0_0r h0_0g h0_1n h0_1r h0_1g) K = g19_l0 fuel (fun xu4 xh0_0n xh0_0r xh0_0g xh0_1n xh0_1r xh0_1g xh1_0 xh1_1 xh1_2 xh1_3 xh1_4 xh1_5 xh1_6 xh1_7 xh1_8 => K (Ex.ret) (X19_0_0 xu4 xh0_0n xh0_0r xh0_0g xh0_1n xh0_1r xh0_1g xh1_0 xh1_1 xh1_2 xh1_3 xh1_4 xh1_5 xh1_6 xh1_7 xh1_8)) (fun xh0_0n xh0_0r xh0_0g xh0_1n xh0_1r xh0_1g => K (Ex.exit (0 : Nat)) (X19_0_1 xh0_0n xh0_0r xh0_0g xh0_1n xh0_1r xh0_1g)) joint1_1 h0_0n h0_0r h0_0g h0_1n h0_1r h0_1g n' uk5
  | 0, _ => rfl
  | n' + 1, uk5 => (g19_l0_eq fuel call (fun s => loopK (exec Pr (G19) (L19 fuel) (fnNt Pr 19) fuel call (lp Pr 19 0).1 (lp Pr 19 0).2 (live (lp Pr 19 0).1 (lp Pr 19 0).2 0)) (headN (live (lp Pr 19 0).1 (lp Pr 19 0).2 0) (writes (lp Pr 19 0).1) (S19_0 joint1_1 uk50 h0_0n h0_0r h0_0g h0_1n h0_1r h0_1g)) n' s K) K joint1_1 h0_0n h0_0r h0_0g h0_1n h0_1r h0_1g uk50 uk5).trans
    (congrArg (fun kn => g19_l0_step fuel kn (fun xu4 xh0_0n xh0_0r xh0_0g xh0_1n xh0_1r xh0_1g xh1_0 xh1_1 xh1_2 xh1_3 xh1_4 xh1_5 xh1_6 xh1_7 xh1_8 => K (Ex.ret) (X19_0_0 xu4 xh0_0n xh0_0r xh0_0g xh0_1n xh0_1r xh0_1g xh1_0 xh1_1 xh1_2 xh1_3 xh1_4 xh1_5 xh1_6 xh1_7 xh1_8)) (fun xh0_0n xh0_0r xh0_0g xh0_1n xh0_1r xh0_1g => K (Ex.exit (0 : Nat)) (X19_0_1 xh0_0n xh0_0r xh0_0g xh0_1n xh0_1r xh0_1g)) joint1_1 h0_0n h0_0r h0_0g h0_1n h0_1r h0_1g uk5) (funext fun _ => g19_l0_ok fuel call K joint1_1 h0_0n h0_0r h0_0g h0_1n h0_1r h0_1g uk50 n' _))
theorem g19_L0 (fuel : Nat) (call : CallI AV) : LOk Pr (G19) (L19 fuel) (fnNt Pr 19) fuel call (lp Pr 19 0) := by
  refine .of T19_0 (F19_0 fuel) (fun L h => ?_) (fun ps st K r he hr => ?_)
  · have e : (L19 fuel).get (writes (lp Pr 19 0).1) = some (lam T19_0 (F19_0 fuel)) := by kernel_rfl
    exact (Option.some.inj (e.symm.trans h)).symm
  · unfold F19_0 at hr
    split at hr
    · obtain rfl := (Option.some.inj he).symm
      exact (g19_l0_ok fuel call K _ _ _ _ _ _ _ _ fuel _).trans hr
    · cases hr
noncomputable def g19 (fuel : Nat) (up0_0n : Nat) (up0_0r : Nat) (up0_0g : Nat → Nat → AV) (up0_1n : Nat) (up0_1r : Nat) (up0_1g : Nat → Nat → AV) (joint1 : Int) : Option AV :=
  g19_l0 fuel
    (fun (xu4 : Bool) (_ : Nat) (_ : Nat) (_ : Nat → Nat → AV) (_ : Nat) (_ : Nat) (_ : Nat → Nat → AV) (_ : ByteArray) (_ : Int) (_ : Int) (_ : Int) (_ : Bool) (_ : Bool) (_ : Option Nat) (_ : Option Nat) (_ : Option Nat) => some (AV.bool xu4))
    (fun (_ : Nat) (_ : Nat) (_ : Nat → Nat → AV) (_ : Nat) (_ : Nat) (_ : Nat → Nat → AV) => some (AV.bool false))
    (joint1)
    (up0_0n)
    (up0_0r)
    (up0_0g)
    (up0_1n)
    (up0_1r)
    (up0_1g) fuel ((0 : Int))
theorem g19_run (fuel : Nat) (up0_0n : Nat) (up0_0r : Nat) (up0_0g : Nat → Nat → AV) (up0_1n : Nat) (up0_1r : Nat) (up0_1g : Nat → Nat → AV) (joint1 : Int) : run Pr (G19) [((0, 19), L19 fuel)] fuel 1 19 [AV.agg [AV.ro (4 : Nat) up0_0n up0_0r up0_0g, AV.ro (9 : Nat) up0_1n up0_1r up0_1g], AV.int IntKind.i64 joint1] = g19 fuel up0_0n up0_0r up0_0g up0_1n up0_1r up0_1g joint1 := by kernel_rfl
noncomputable def m19 (fuel : Nat) (xs : List AV) : Option AV := match xs with
  | [AV.agg [AV.ro (4 : Nat) up0_0n up0_0r up0_0g, AV.ro (9 : Nat) up0_1n up0_1r up0_1g], AV.int IntKind.i64 joint1] => g19 fuel up0_0n up0_0r up0_0g up0_1n up0_1r up0_1g joint1
  | _ => none
abbrev R19 : List RS := [RS.one LK.b]
theorem g19_sm (fuel : Nat) (hΓ : ∀ f s, (G19).get f = some s → SmOk Pr f s) (hP : NamesOk Pr) : SmOk Pr 19 (smM R19 (m19 fuel)) := by
  refine smM_ok (fuel := fuel) hΓ hP (LamOk.of 19 (L19 fuel) 1 (by kernel_rfl) (fun i hi => ?_)) 1 19 R19 _ (fun xs v h => ?_)
  · match i, hi with
    | 0, _ => exact g19_L0 fuel _
    | i + 1, hi => exact absurd hi (by omega)
  · unfold m19 at h
    split at h
    · exact (g19_run fuel _ _ _ _ _ _ _).trans h
    · cases h

/-! ### function 8 -/
noncomputable def S8_0 (ui7 : Int) (h0_0n : Nat) (h0_0r : Nat) (h0_0g : Nat → Nat → AV) (h0_1n : Nat) (h0_1r : Nat) (h0_1g : Nat → Nat → AV) (h1_1 : Int) (h2_1 : Int) (h3z : List AV) (h3e : List (List AV)) (h4z : List AV) (h4e : List (List AV)) : St := { env := [((1 : Nat), AV.ptr (0 : Nat) (0 : Nat)), ((2 : Nat), AV.ptr (1 : Nat) (0 : Nat)), ((6 : Nat), AV.ptr (2 : Nat) (0 : Nat)), ((7 : Nat), AV.int IntKind.i64 ui7)], h := [Blk.box [AV.ro (4 : Nat) h0_0n h0_0r h0_0g, AV.ro (9 : Nat) h0_1n h0_1r h0_1g], Blk.box [AV.lst (3 : Nat) (3 : Nat), AV.int IntKind.i64 h1_1], Blk.box [AV.lst (4 : Nat) (3 : Nat), AV.int IntKind.i64 h2_1], Blk.fl (3 : Nat) h3z h3e, Blk.fl (3 : Nat) h4z h4e], kd := [(4 : Nat), (3 : Nat)] }
noncomputable def X8_0_0 (xh0_0n_1 : Nat) (xh0_0r_1 : Nat) (xh0_0g_1 : Nat → Nat → AV) (xh0_1n_1 : Nat) (xh0_1r_1 : Nat) (xh0_1g_1 : Nat → Nat → AV) (xh1_1_1 : Int) (xh2_1_1 : Int) (xh3z_1 : List AV) (xh3e_1 : List (List AV)) (xh4z_1 : List AV) (xh4e_1 : List (List AV)) : St := { env := [((2 : Nat), AV.ptr (1 : Nat) (0 : Nat)), ((6 : Nat), AV.ptr (2 : Nat) (0 : Nat))], h := [Blk.box [AV.ro (4 : Nat) xh0_0n_1 xh0_0r_1 xh0_0g_1, AV.ro (9 : Nat) xh0_1n_1 xh0_1r_1 xh0_1g_1], Blk.box [AV.lst (3 : Nat) (3 : Nat), AV.int IntKind.i64 xh1_1_1], Blk.box [AV.lst (4 : Nat) (3 : Nat), AV.int IntKind.i64 xh2_1_1], Blk.fl (3 : Nat) xh3z_1 xh3e_1, Blk.fl (3 : Nat) xh4z_1 xh4e_1], kd := [(4 : Nat), (3 : Nat)] }
noncomputable def g8_l0_step (M6 : List AV → Option AV) (M19 : List AV → Option AV) (fuel : Nat) (kn : Int → Int → List (List AV) → Option AV) (kx0 : Nat → Nat → (Nat → Nat → AV) → Nat → Nat → (Nat → Nat → AV) → Int → Int → List AV → List (List AV) → List AV → List (List AV) → Option AV) (h0_0n : Nat) (h0_0r : Nat) (h0_0g : Nat → Nat → AV) (h0_1n : Nat) (h0_1r : Nat) (h0_1g : Nat → Nat → AV) (h1_1 : Int) (h3z : List AV) (h3e : List (List AV)) (h4z : List AV) (ui7 : Int) (h2_1 : Int) (h4e : List (List AV)) : Option AV :=
  bif decide (ui7 < (↑h0_0n : Int)) then bif decide ((0 : Int) ≤ ui7) then bif decide (ui7 < (↑h0_0n : Int)) then bif fitK (LK.i IntKind.u8) (h0_0g ui7.toNat (3 : Nat)) then bif (toI (h0_0g ui7.toNat (3 : Nat))).tmod (2 : Int) == (0 : Int) then bif (IntKind.u8.wrap ((toI (h0_0g ui7.toNat (3 : Nat))).tdiv (2 : Int))).tmod (2 : Int) == (0 : Int) then bif bif (IntKind.u8.wrap ((toI (h0_0g ui7.toNat (3 : Nat))).tdiv (4 : Int))).tmod (2 : Int) == (0 : Int) then true else true then bif bif (IntKind.u8.wrap ((toI (h0_0g ui7.toNat (3 : Nat))).tdiv (4 : Int))).tmod (2 : Int) == (0 : Int) then okM [RS.one LK.b] (M19 [AV.agg [AV.ro (4 : Nat) h0_0n h0_0r h0_0g, AV.ro (9 : Nat) h0_1n h0_1r h0_1g], AV.int IntKind.i64 ui7]) else true then bif bif (IntKind.u8.wrap ((toI (h0_0g ui7.toNat (3 : Nat))).tdiv (4 : Int))).tmod (2 : Int) == (0 : Int) then toB (getV (M19 [AV.agg [AV.ro (4 : Nat) h0_0n h0_0r h0_0g, AV.ro (9 : Nat) h0_1n h0_1r h0_1g], AV.int IntKind.i64 ui7])) else false then bif decide ((h4e.length + (1 : Nat)) * (24 : Nat) < (70368744177664 : Nat)) then bif decide (h4e.length + (1 : Nat) < (4611686018427387904 : Nat)) then kn (IntKind.i64.wrap (ui7 + (1 : Int))) (IntKind.i64.wrap (IntKind.i64.wrap (IntKind.i64.wrap (h2_1 + (1 : Int)) + (1 : Int)) + (1 : Int))) (h4e ++ [[AV.int IntKind.i64 h2_1, AV.int IntKind.i64 (IntKind.i64.wrap (h2_1 + (1 : Int))), AV.int IntKind.i64 (IntKind.i64.wrap (IntKind.i64.wrap (h2_1 + (1 : Int)) + (1 : Int)))]])
                      else none
                    else none
                  else bif decide ((h4e.length + (1 : Nat)) * (24 : Nat) < (70368744177664 : Nat)) then bif decide (h4e.length + (1 : Nat) < (4611686018427387904 : Nat)) then kn (IntKind.i64.wrap (ui7 + (1 : Int))) (IntKind.i64.wrap (IntKind.i64.wrap (h2_1 + (1 : Int)) + (1 : Int))) (h4e ++ [[AV.int IntKind.i64 h2_1, AV.int IntKind.i64 (IntKind.i64.wrap (h2_1 + (1 : Int))), AV.int IntKind.i64 (-1 : Int)]])
                    else none
                  else none
                else none
              else none
            else bif bif (IntKind.u8.wrap ((toI (h0_0g ui7.toNat (3 : Nat))).tdiv (4 : Int))).tmod (2 : Int) == (0 : Int) then true else true then bif bif (IntKind.u8.wrap ((toI (h0_0g ui7.toNat (3 : Nat))).tdiv (4 : Int))).tmod (2 : Int) == (0 : Int) then okM [RS.one LK.b] (M19 [AV.agg [AV.ro (4 : Nat) h0_0n h0_0r h0_0g, AV.ro (9 : Nat) h0_1n h0_1r h0_1g], AV.int IntKind.i64 ui7]) else true then bif bif (IntKind.u8.wrap ((toI (h0_0g ui7.toNat (3 : Nat))).tdiv (4 : Int))).tmod (2 : Int) == (0 : Int) then toB (getV (M19 [AV.agg [AV.ro (4 : Nat) h0_0n h0_0r h0_0g, AV.ro (9 : Nat) h0_1n h0_1r h0_1g], AV.int IntKind.i64 ui7])) else false then bif decide ((h4e.length + (1 : Nat)) * (24 : Nat) < (70368744177664 : Nat)) then bif decide (h4e.length + (1 : Nat) < (4611686018427387904 : Nat)) then kn (IntKind.i64.wrap (ui7 + (1 : Int))) (IntKind.i64.wrap (IntKind.i64.wrap (h2_1 + (1 : Int)) + (1 : Int))) (h4e ++ [[AV.int IntKind.i64 h2_1, AV.int IntKind.i64 (-1 : Int), AV.int IntKind.i64 (IntKind.i64.wrap (h2_1 + (1 : Int)))]])
                    else none
                  else none
                else bif decide ((h4e.length + (1 : Nat)) * (24 : Nat) < (70368744177664 : Nat)) then bif decide (h4e.length + (1 : Nat) < (4611686018427387904 : Nat)) then kn (IntKind.i64.wrap (ui7 + (1 : Int))) (IntKind.i64.wrap (h2_1 + (1 : Int))) (h4e ++ [[AV.int IntKind.i64 h2_1, AV.int IntKind.i64 (-1 : Int), AV.int IntKind.i64 (-1 : Int)]])
                  else none
                else none
              else none
            else none
          else bif (IntKind.u8.wrap ((toI (h0_0g ui7.toNat (3 : Nat))).tdiv (2 : Int))).tmod (2 : Int) == (0 : Int) then bif bif (IntKind.u8.wrap ((toI (h0_0g ui7.toNat (3 : Nat))).tdiv (4 : Int))).tmod (2 : Int) == (0 : Int) then true else true then bif bif (IntKind.u8.wrap ((toI (h0_0g ui7.toNat (3 : Nat))).tdiv (4 : Int))).tmod (2 : Int) == (0 : Int) then okM [RS.one LK.b] (M19 [AV.agg [AV.ro (4 : Nat) h0_0n h0_0r h0_0g, AV.ro (9 : Nat) h0_1n h0_1r h0_1g], AV.int IntKind.i64 ui7]) else true then bif bif (IntKind.u8.wrap ((toI (h0_0g ui7.toNat (3 : Nat))).tdiv (4 : Int))).tmod (2 : Int) == (0 : Int) then toB (getV (M19 [AV.agg [AV.ro (4 : Nat) h0_0n h0_0r h0_0g, AV.ro (9 : Nat) h0_1n h0_1r h0_1g], AV.int IntKind.i64 ui7])) else false then bif decide ((h4e.length + (1 : Nat)) * (24 : Nat) < (70368744177664 : Nat)) then bif decide (h4e.length + (1 : Nat) < (4611686018427387904 : Nat)) then kn (IntKind.i64.wrap (ui7 + (1 : Int))) (IntKind.i64.wrap (IntKind.i64.wrap (h2_1 + (1 : Int)) + (1 : Int))) (h4e ++ [[AV.int IntKind.i64 (-1 : Int), AV.int IntKind.i64 h2_1, AV.int IntKind.i64 (IntKind.i64.wrap (h2_1 + (1 : Int)))]])
                    else none
                  else none
                else bif decide ((h4e.length + (1 : Nat)) * (24 : Nat) < (70368744177664 : Nat)) then bif decide (h4e.length + (1 : Nat) < (4611686018427387904 : Nat)) then kn (IntKind.i64.wrap (ui7 + (1 : Int))) (IntKind.i64.wrap (h2_1 + (1 : Int))) (h4e ++ [[AV.int IntKind.i64 (-1 : Int), AV.int IntKind.i64 h2_1, AV.int IntKind.i64 (-1 : Int)]])
                  else none
                else none
              else none
            else none
          else bif bif (IntKind.u8.wrap ((toI (h0_0g ui7.toNat (3 : Nat))).tdiv (4 : Int))).tmod (2 : Int) == (0 : Int) then true else true then bif bif (IntKind.u8.wrap ((toI (h0_0g ui7.toNat (3 : Nat))).tdiv (4 : Int))).tmod (2 : Int) == (0 : Int) then okM [RS.one LK.b] (M19 [AV.agg [AV.ro (4 : Nat) h0_0n h0_0r h0_0g, AV.ro (9 : Nat) h0_1n h0_1r h0_1g], AV.int IntKind.i64 ui7]) else true then bif bif (IntKind.u8.wrap ((toI (h0_0g ui7.toNat (3 : Nat))).tdiv (4 : Int))).tmod (2 : Int) == (0 : Int) then toB (getV (M19 [AV.agg [AV.ro (4 : Nat) h0_0n h0_0r h0_0g, AV.ro (9 : Nat) h0_1n h0_1r h0_1g], AV.int IntKind.i64 ui7])) else false then bif decide ((h4e.length + (1 : Nat)) * (24 : Nat) < (70368744177664 : Nat)) then bif decide (h4e.length + (1 : Nat) < (4611686018427387904 : Nat)) then kn (IntKind.i64.wrap (ui7 + (1 : Int))) (IntKind.i64.wrap (h2_1 + (1 : Int))) (h4e ++ [[AV.int IntKind.i64 (-1 : Int), AV.int IntKind.i64 (-1 : Int), AV.int IntKind.i64 h2_1]])
                  else none
                else none
              else bif decide ((h4e.length + (1 : Nat)) * (24 : Nat) < (70368744177664 : Nat)) then bif decide (h4e.length + (1 : Nat) < (4611686018427387904 : Nat)) then kn (IntKind.i64.wrap (ui7 + (1 : Int))) (h2_1) (h4e ++ [[AV.int IntKind.i64 (-1 : Int), AV.int IntKind.i64 (-1 : Int), AV.int IntKind.i64 (-1 : Int)]])
                else none
              else none
            else none
          else none
        else none
      else none
    else none
  else kx0 (h0_0n) (h0_0r) (h0_0g) (h0_1n) (h0_1r) (h0_1g) (h1_1) (h2_1) (h3z) (h3e) (h4z) (h4e)
noncomputable def g8_l0 (M6 : List AV → Option AV) (M19 : List AV → Option AV) (fuel : Nat) (kx0 : Nat → Nat → (Nat → Nat → AV) → Nat → Nat → (Nat → Nat → AV) → Int → Int → List AV → List (List AV) → List AV → List (List AV) → Option AV) (h0_0n : Nat) (h0_0r : Nat) (h0_0g : Nat → Nat → AV) (h0_1n : Nat) (h0_1r : Nat) (h0_1g : Nat → Nat → AV) (h1_1 : Int) (h3z : List AV) (h3e : List (List AV)) (h4z : List AV) : Nat → Int → Int → List (List AV) → Option AV
  | 0, _, _, _ => none
  | n' + 1, ui7, h2_1, h4e => g8_l0_step M6 M19 fuel (g8_l0 M6 M19 fuel kx0 h0_0n h0_0r h0_0g h0_1n h0_1r h0_1g h1_1 h3z h3e h4z n') kx0 h0_0n h0_0r h0_0g h0_1n h0_1r h0_1g h1_1 h3z h3e h4z ui7 h2_1 h4e
noncomputable def T8_0 : TS' := ⟨[(1, TA.ptr 0 0), (2, TA.ptr 1 0), (6, TA.ptr 2 0), (7, TA.i IntKind.i64)], [TB.box [TA.ro 4, TA.ro 9], TB.box [TA.lst 3 3, TA.i IntKind.i64], TB.box [TA.lst 4 3, TA.i IntKind.i64], TB.fl 3, TB.fl 3], [4, 3]⟩
noncomputable def F8_0 (M6 : List AV → Option AV) (M19 : List AV → Option AV) (fuel : Nat) (ps : List Pay) (K : Ex → St → Option AV) : Option AV := match ps with
  | .i ui7 :: .n h0_0n :: .n h0_0r :: .g h0_0g :: .n h0_1n :: .n h0_1r :: .g h0_1g :: .i h1_1 :: .i h2_1 :: .z h3z :: .e h3e :: .z h4z :: .e h4e :: [] => g8_l0 M6 M19 fuel (fun xh0_0n_1 xh0_0r_1 xh0_0g_1 xh0_1n_1 xh0_1r_1 xh0_1g_1 xh1_1_1 xh2_1_1 xh3z_1 xh3e_1 xh4z_1 xh4e_1 => K (Ex.exit (0 : Nat)) (X8_0_0 xh0_0n_1 xh0_0r_1 xh0_0g_1 xh0_1n_1 xh0_1r_1 xh0_1g_1 xh1_1_1 xh2_1_1 xh3z_1 xh3e_1 xh4z_1 xh4e_1)) h0_0n h0_0r h0_0g h0_1n h0_1r h0_1g h1_1 h3z h3e h4z fuel ui7 h2_1 h4e
  | _ => none
noncomputable def L8 (M6 : List AV → Option AV) (M19 : List AV → Option AV) (fuel : Nat) : Lam AV := [(75557863725914322895744, lam T8_0 (F8_0 M6 M19 fuel))]
noncomputable def G8 (M6 : List AV → Option AV) (M19 : List AV → Option AV) : Gam := [(6, smM [RS.one (LK.i IntKind.i64), RS.one (LK.i IntKind.i64)] M6), (19, smM [RS.one LK.b] M19)]
theorem g8_l0_eq (M6 : List AV → Option AV) (M19 : List AV → Option AV) (fuel : Nat) (call : CallI AV) (kn : St → Option AV) (K : Ex → St → Option AV) (h0_0n : Nat) (h0_0r : Nat) (h0_0g : Nat → Nat → AV) (h0_1n : Nat) (h0_1r : Nat) (h0_1g : Nat → Nat → AV) (h1_1 : Int) (h3z : List AV) (h3e : List (List AV)) (h4z : List AV) (ui70 : Int) (h2_10 : Int) (h4e0 : List (List AV)) (ui7 : Int) (h2_1 : Int) (h4e : List (List AV)) :
    exec Pr (G8 M6 M19) (L8 M6 M19 fuel) (fnNt Pr 8) fuel call (lp Pr 8 0).1 (lp Pr 8 0).2 (live (lp Pr 8 0).1 (lp Pr 8 0).2 0) (S8_0 ui7 h0_0n h0_0r h0_0g h0_1n h0_1r h0_1g h1_1 h2_1 h3z h3e h4z h4e) (fun e s => match e with | .normal => kn (headN (live (lp Pr 8 0).1 (lp Pr 8 0).2 0) (writes (lp Pr 8 0).1) (S8_0 ui70 h0_0n h0_0r h0_0g h0_1n h0_1r h0_1g h1_1 h2_10 h3z h3e h4z h4e0) s) | e => K e s) =
    g8_l0_step M6 M19 fuel (fun ui7 h2_1 h4e => kn (S8_0 ui7 h0_0n h0_0r h0_0g h0_1n h0_1r h0_1g h1_1 h2_1 h3z h3e h4z h4e)) (fun xh0_0n xh0_0r xh0_0g xh0_1n xh0_1r xh0_1g xh1_1 xh2_1 xh3z xh3e xh4z xh4e => K (Ex.exit (0 : Nat)) (X8_0_0 xh0_0n xh0_0r xh0_0g xh0_1n xh0_1r xh0_1g xh1_1 xh2_1 xh3z xh3e xh4z xh4e)) h0_0n h0_0r h0_0g h0_1n h0_1r h0_1g h1_1 h3z h3e h4z ui7 h2_1 h4e := by kernel_rfl
theorem g8_l0_ok (M6 : List AV → Option AV) (M19 : List AV → Option AV) (fuel : Nat) (call : CallI AV) (K : Ex → St → Option AV) (h0_0n : Nat) (h0_0r : Nat) (h0_0g : Nat → Nat → AV) (h0_1n : Nat) (h0_1r : Nat) (h0_1g : Nat → Nat → AV) (h1_1 : Int) (h3z : List AV) (h3e : List (List AV)) (h4z : List AV) (ui70 : Int) (h2_10 : Int) (h4e0 : List (List AV)) : ∀ (n' : Nat) (ui7 : Int) (h2_1 : Int) (h4e : List (List AV)),
    loopK (exec Pr (G8 M6 M19) (L8 M6 M19 fuel) (fnNt Pr 8) fuel call (lp Pr 8 0).1 (lp Pr 8 0).2 (live (lp Pr 8 0).1 (lp Pr 8 0).2 0)) (headN (live (lp Pr 8 0).1 (lp Pr 8 0).2 0) (writes (lp Pr 8 0).1) (S8_0 ui70 h0_0n h0_0r h0_0g h0_1n h0_1r h0_1g h1_1 h2_10 h3z h3e h4z h4e0)) n' (S8_0 ui7 h0_0n h0_0r h0_0g h0_1n h0_1r h0_1g h1_1 h2_1 h3z h3e h4z h4e) K = g8_l0 M6 M19 fuel (fun xh0_0n xh0_0r xh0_0g xh0_1n xh0_1r xh0_1g xh1_1 xh2_1 xh3z xh3e xh4z xh4e => K (Ex.exit (0 : Nat)) (X8_0_0 xh0_0n xh0_0r xh0_0g xh0_1n xh0_1r xh0_1g xh1_1 xh2_1 xh3z xh3e xh4z xh4e)) h0_0n h0_0r h0_0g h0_1n h0_1r h0_1g h1_1 h3z h3e h4z n' ui7 h2_1 h4e
  | 0, _, _, _ => rfl
  | n' + 1, ui7, h2_1, h4e => (g8_l0_eq M6 M19 fuel call (fun s => loopK (exec Pr (G8 M6 M19) (L8 M6 M19 fuel) (fnNt Pr 8) fuel call (lp Pr 8 0).1 (lp Pr 8 0).2 (live (lp Pr 8 0).1 (lp Pr 8 0).2 0)) (headN (live (lp Pr 8 0).1 (lp Pr 8 0).2 0) (writes (lp Pr 8 0).1) (S8_0 ui70 h0_0n h0_0r h0_0g h0_1n h0_1r h0_1g h1_1 h2_10 h3z h3e h4z h4e0)) n' s K) K h0_0n h0_0r h0_0g h0_1n h0_1r h0_1g h1_1 h3z h3e h4z ui70 h2_10 h4e0 ui7 h2_1 h4e).trans
    (congrArg (fun kn => g8_l0_step M6 M19 fuel kn (fun xh0_0n xh0_0r xh0_0g xh0_1n xh0_1r xh0_1g xh1_1 xh2_1 xh3z xh3e xh4z xh4e => K (Ex.exit (0 : Nat)) (X8_0_0 xh0_0n xh0_0r xh0_0g xh0_1n xh0_1r xh0_1g xh1_1 xh2_1 xh3z xh3e xh4z xh4e)) h0_0n h0_0r h0_0g h0_1n h0_1r h0_1g h1_1 h3z h3e h4z ui7 h2_1 h4e) (funext fun _ => funext fun _ => funext fun _ => g8_l0_ok M6 M19 fuel call K h0_0n h0_0r h0_0g h0_1n h0_1r h0_1g h1_1 h3z h3e h4z ui70 h2_10 h4e0 n' _ _ _))
theorem g8_L0 (M6 : List AV → Option AV) (M19 : List AV → Option AV) (fuel : Nat) (call : CallI AV) : LOk Pr (G8 M6 M19) (L8 M6 M19 fuel) (fnNt Pr 8) fuel call (lp Pr 8 0) := by
  refine .of T8_0 (F8_0 M6 M19 fuel) (fun L h => ?_) (fun ps st K r he hr => ?_)
  · have e : (L8 M6 M19 fuel).get (writes (lp Pr 8 0).1) = some (lam T8_0 (F8_0 M6 M19 fuel)) := by kernel_rfl
    exact (Option.some.inj (e.symm.trans h)).symm
  · unfold F8_0 at hr
    split at hr
    · obtain rfl := (Option.some.inj he).symm
      exact (g8_l0_ok M6 M19 fuel call K _ _ _ _ _ _ _ _ _ _ _ _ _ fuel _ _ _).trans hr
    · cases hr
noncomputable def g8 (M6 : List AV → Option AV) (M19 : List AV → Option AV) (fuel : Nat) (up0_0n : Nat) (up0_0r : Nat) (up0_0g : Nat → Nat → AV) (up0_1n : Nat) (up0_1r : Nat) (up0_1g : Nat → Nat → AV) : Option AV :=
  bif okM [RS.one (LK.i IntKind.i64), RS.one (LK.i IntKind.i64)] (M6 [AV.agg [AV.ro (4 : Nat) up0_0n up0_0r up0_0g, AV.ro (9 : Nat) up0_1n up0_1r up0_1g]]) then bif toI ((toT (getV (M6 [AV.agg [AV.ro (4 : Nat) up0_0n up0_0r up0_0g, AV.ro (9 : Nat) up0_1n up0_1r up0_1g]]))).headD AV.dead) != (0 : Int) then some (AV.tup [AV.agg [AV.ro (3 : Nat) (0 : Nat) (0 : Nat) fun (x j : Nat) => [AV.int IntKind.i64 (0 : Int), AV.int IntKind.i64 (0 : Int), AV.int IntKind.i64 (0 : Int)].getD j AV.dead, AV.int IntKind.i64 (0 : Int)], AV.int IntKind.i64 (toI ((toT (getV (M6 [AV.agg [AV.ro (4 : Nat) up0_0n up0_0r up0_0g, AV.ro (9 : Nat) up0_1n up0_1r up0_1g]]))).headD AV.dead))])
    else g8_l0 M6 M19 fuel
      (fun (_ : Nat) (_ : Nat) (_ : Nat → Nat → AV) (_ : Nat) (_ : Nat) (_ : Nat → Nat → AV) (_ : Int) (xh2_1 : Int) (_ : List AV) (_ : List (List AV)) (xh4z : List AV) (xh4e : List (List AV)) => some (AV.tup [AV.agg [AV.ro (3 : Nat) xh4e.length xh4e.length fun (i j : Nat) => (xh4e.getD i xh4z).getD j AV.dead, AV.int IntKind.i64 xh2_1], AV.int IntKind.i64 (0 : Int)]))
      (up0_0n)
      (up0_0r)
      (up0_0g)
      (up0_1n)
      (up0_1r)
      (up0_1g)
      ((0 : Int))
      ([AV.int IntKind.i64 (0 : Int), AV.int IntKind.i64 (0 : Int), AV.int IntKind.i64 (0 : Int)])
      ([])
      ([AV.int IntKind.i64 (0 : Int), AV.int IntKind.i64 (0 : Int), AV.int IntKind.i64 (0 : Int)]) fuel ((0 : Int)) ((0 : Int)) ([])
  else none
theorem g8_run (M6 : List AV → Option AV) (M19 : List AV → Option AV) (fuel : Nat) (up0_0n : Nat) (up0_0r : Nat) (up0_0g : Nat → Nat → AV) (up0_1n : Nat) (up0_1r : Nat) (up0_1g : Nat → Nat → AV) : run Pr (G8 M6 M19) [((0, 8), L8 M6 M19 fuel)] fuel 1 8 [AV.agg [AV.ro (4 : Nat) up0_0n up0_0r up0_0g, AV.ro (9 : Nat) up0_1n up0_1r up0_1g]] = g8 M6 M19 fuel up0_0n up0_0r up0_0g up0_1n up0_1r up0_1g := by kernel_rfl
noncomputable def m8 (M6 : List AV → Option AV) (M19 : List AV → Option AV) (fuel : Nat) (xs : List AV) : Option AV := match xs with
  | [AV.agg [AV.ro (4 : Nat) up0_0n up0_0r up0_0g, AV.ro (9 : Nat) up0_1n up0_1r up0_1g]] => g8 M6 M19 fuel up0_0n up0_0r up0_0g up0_1n up0_1r up0_1g
  | _ => none
abbrev R8 : List RS := [RS.agg [LK.l (nat_lit 3), LK.i IntKind.i64], RS.one (LK.i IntKind.i64)]
theorem g8_sm (M6 : List AV → Option AV) (M19 : List AV → Option AV) (fuel : Nat) (hΓ : ∀ f s, (G8 M6 M19).get f = some s → SmOk Pr f s) (hP : NamesOk Pr) : SmOk Pr 8 (smM R8 (m8 M6 M19 fuel)) := by
  refine smM_ok (fuel := fuel) hΓ hP (LamOk.of 8 (L8 M6 M19 fuel) 1 (by kernel_rfl) (fun i hi => ?_)) 1 8 R8 _ (fun xs v h => ?_)
  · match i, hi with
    | 0, _ => exact g8_L0 M6 M19 fuel _
    | i + 1, hi => exact absurd hi (by omega)
  · unfold m8 at h
    split at h
    · exact (g8_run M6 M19 fuel _ _ _ _ _ _).trans h
    · cases h

end Go.Proofs.Tryz
end
