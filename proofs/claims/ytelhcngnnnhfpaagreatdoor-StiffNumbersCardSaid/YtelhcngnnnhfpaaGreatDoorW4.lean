/- Part 4 of the proof: models of the functions, and laws on them. -/
import Derived.Test.YtelhcngnnnhfpaaGreatDoorW3
import Derived.Test.YtelhcngnnnhfpaaGreatDoorProg
import Derived.KernelRfl
set_option linter.unusedVariables false
set_option linter.unusedSimpArgs false
set_option linter.unusedSectionVars false
section
namespace Go.Proofs.Tryz
open Go Go.Am
noncomputable abbrev Pr : Program := prog
def tab0 : List Int := [0, 1, 56, 2, 57, 49, 28, 3, 61, 58, 42, 50, 38, 29, 17, 4, 62, 47, 59, 36, 45, 43, 51, 22, 53, 39, 33, 30, 24, 18, 12, 5, 63, 55, 48, 27, 60, 41, 37, 16, 46, 35, 44, 21, 52, 32, 23, 11, 54, 26, 40, 15, 34, 20, 31, 10, 25, 14, 19, 9, 13, 8, 7, 6]
def Xspan_corners_a : XS := { pat := [none, none, some (1000093, 0)], nb := [], out := [.one] }
abbrev Rspan_corners_a : List RS := [RS.agg [LK.f FloatKind.f64, LK.f FloatKind.f64]]
def Xspan_corners_b : XS := { pat := [none, none, some (1000222, 0)], nb := [], out := [.one] }
abbrev Rspan_corners_b : List RS := [RS.agg [LK.f FloatKind.f64, LK.f FloatKind.f64]]
def Xbars_springs_a : XS := { pat := [none, none], nb := [], out := [.newl 11 [AV.int IntKind.i64 0, AV.int IntKind.u8 0, AV.int IntKind.i64 0, AV.int IntKind.i64 0, AV.int IntKind.i64 0, AV.int IntKind.i64 0, AV.int IntKind.i64 0, AV.int IntKind.i64 0, AV.flt FloatKind.f64 (some 0), AV.flt FloatKind.f64 (some 0), AV.flt FloatKind.f64 (some 0)]] }
abbrev Rbars_springs_a : List RS := [RS.one (LK.l 11)]
def Xbars_Springs_a : XS := { pat := [none], nb := [], out := [.newl 11 [AV.int IntKind.i64 0, AV.int IntKind.u8 0, AV.int IntKind.i64 0, AV.int IntKind.i64 0, AV.int IntKind.i64 0, AV.int IntKind.i64 0, AV.int IntKind.i64 0, AV.int IntKind.i64 0, AV.flt FloatKind.f64 (some 0), AV.flt FloatKind.f64 (some 0), AV.flt FloatKind.f64 (some 0)], .one], kp := true }
abbrev Rbars_Springs_a : List RS := [RS.one (LK.l 11), RS.one (LK.i IntKind.i64)]
def XInt_give_i : XS := { pat := [some (0, 0), none, none], nb := [2], out := [.ptr 0 0] }
abbrev RInt_give_i : List RS := [RS.one (LK.b), RS.one (LK.l 1)]
def XInt_give_ra : XS := { pat := [some (0, 0), none, none], nb := [4], out := [.ptr 0 0] }
abbrev RInt_give_ra : List RS := [RS.one (LK.b), RS.one (LK.l 1), RS.one (LK.b), RS.one (LK.l 1)]
def XInt_give_rb : XS := { pat := [some (0, 2), none, none], nb := [4], out := [.ptr 0 2] }
abbrev RInt_give_rb : List RS := [RS.one (LK.b), RS.one (LK.l 1), RS.one (LK.b), RS.one (LK.l 1)]
def XInt_SetUint64_i : XS := { pat := [some (0, 0), none], nb := [2], out := [.ptr 0 0] }
abbrev RInt_SetUint64_i : List RS := [RS.one (LK.b), RS.one (LK.l 1)]
def XInt_low_a : XS := { pat := [some (0, 0), none], nb := [2], out := [.newo 1 [AV.int IntKind.u32 0]] }
abbrev RInt_low_a : List RS := [RS.one (LK.b), RS.one (LK.l 1), RS.one (LK.l 1), RS.one (LK.l 1), RS.one (LK.i IntKind.i64)]
def XInt_of_a : XS := { pat := [some (0, 0), none], nb := [2], out := [.ptr 0 0] }
abbrev RInt_of_a : List RS := [RS.one (LK.b), RS.one (LK.l 1)]
def XInt_Or_a : XS := { pat := [some (0, 0), some (0, 0), some (1, 0)], nb := [2, 2], out := [.ptr 0 0] }
abbrev RInt_Or_a : List RS := [RS.one (LK.b), RS.one (LK.l 1), RS.one (LK.b), RS.one (LK.l 1)]
def XInt_Neg_ra : XS := { pat := [some (0, 0), some (0, 0)], nb := [4], out := [.ptr 0 0] }
abbrev RInt_Neg_ra : List RS := [RS.one (LK.b), RS.one (LK.l 1), RS.one (LK.b), RS.one (LK.l 1)]
def XInt_Neg_rb : XS := { pat := [some (0, 2), some (0, 2)], nb := [4], out := [.ptr 0 2] }
abbrev RInt_Neg_rb : List RS := [RS.one (LK.b), RS.one (LK.l 1), RS.one (LK.b), RS.one (LK.l 1)]
def XInt_Neg_ii : XS := { pat := [some (0, 0), some (0, 0)], nb := [2], out := [.ptr 0 0] }
abbrev RInt_Neg_ii : List RS := [RS.one (LK.b), RS.one (LK.l 1)]
def Xdyad_whole_a : XS := { pat := [none], nb := [], out := [.newb 2 0] }
abbrev Rdyad_whole_a : List RS := [RS.one LK.b, RS.one (LK.l 1)]
def XRat_Sign_r : XS := { pat := [some (0, 0)], nb := [4], out := [.one] }
abbrev RRat_Sign_r : List RS := [RS.one (LK.b), RS.one (LK.l 1), RS.one (LK.b), RS.one (LK.l 1), RS.one (LK.i IntKind.i64)]
def XInt_Abs_ir : XS := { pat := [some (0, 0), some (1, 0)], nb := [2, 4], out := [.ptr 0 0] }
abbrev RInt_Abs_ir : List RS := [RS.one (LK.b), RS.one (LK.l 1), RS.one (LK.b), RS.one (LK.l 1), RS.one (LK.b), RS.one (LK.l 1)]
def XInt_Abs_ii : XS := { pat := [some (0, 0), some (1, 0)], nb := [2, 2], out := [.ptr 0 0] }
abbrev RInt_Abs_ii : List RS := [RS.one (LK.b), RS.one (LK.l 1), RS.one (LK.b), RS.one (LK.l 1)]
def XInt_Uint64_i : XS := { pat := [some (0, 0)], nb := [2], out := [.one] }
abbrev RInt_Uint64_i : List RS := [RS.one (LK.b), RS.one (LK.l 1), RS.one (LK.i IntKind.u64)]
def XInt_Rsh_ii : XS := { pat := [some (0, 0), some (1, 0), none], nb := [2, 2], out := [.ptr 0 0] }
abbrev RInt_Rsh_ii : List RS := [RS.one (LK.b), RS.one (LK.l 1), RS.one (LK.b), RS.one (LK.l 1)]
def XInt_Rsh_p : XS := { pat := [some (0, 0), some (0, 0), none], nb := [2], out := [.ptr 0 0] }
abbrev RInt_Rsh_p : List RS := [RS.one (LK.b), RS.one (LK.l 1)]
def Xexact_Limbs_a : XS := { pat := [some (0, 0)], nb := [2], out := [.one] }
abbrev Rexact_Limbs_a : List RS := [RS.one (LK.b), RS.one (LK.l 1), RS.one (LK.l 1)]
def Xexact_Limbs_r : XS := { pat := [some (0, 0)], nb := [4], out := [.one] }
abbrev Rexact_Limbs_r : List RS := [RS.one (LK.b), RS.one (LK.l 1), RS.one (LK.b), RS.one (LK.l 1), RS.one (LK.l 1)]
def XInt_SetInt64_rb : XS := { pat := [some (0, 2), none], nb := [4], out := [.ptr 0 2] }
abbrev RInt_SetInt64_rb : List RS := [RS.one (LK.b), RS.one (LK.l 1), RS.one (LK.b), RS.one (LK.l 1)]
def XInt_SetInt64_i : XS := { pat := [some (0, 0), none], nb := [2], out := [.ptr 0 0] }
abbrev RInt_SetInt64_i : List RS := [RS.one (LK.b), RS.one (LK.l 1)]
def XNewInt_a : XS := { pat := [none], nb := [], out := [.newb 2 0] }
abbrev RNewInt_a : List RS := [RS.one LK.b, RS.one (LK.l 1)]
def XRat_den_b : XS := { pat := [some (0, 0)], nb := [4], out := [.ptr 0 2] }
abbrev RRat_den_b : List RS := [RS.one (LK.b), RS.one (LK.l 1), RS.one (LK.b), RS.one (LK.l 1)]
def XInt_Set_ii : XS := { pat := [some (0, 0), some (1, 0)], nb := [2, 2], out := [.ptr 0 0] }
abbrev RInt_Set_ii : List RS := [RS.one (LK.b), RS.one (LK.l 1), RS.one (LK.b), RS.one (LK.l 1)]
def XInt_Set_ir : XS := { pat := [some (0, 0), some (1, 2)], nb := [2, 4], out := [.ptr 0 0] }
abbrev RInt_Set_ir : List RS := [RS.one (LK.b), RS.one (LK.l 1), RS.one (LK.b), RS.one (LK.l 1), RS.one (LK.b), RS.one (LK.l 1)]
def XRat_Denom_r : XS := { pat := [some (0, 0)], nb := [4], out := [.newb 2 0] }
abbrev RRat_Denom_r : List RS := [RS.one (LK.b), RS.one (LK.l 1), RS.one (LK.b), RS.one (LK.l 1), RS.one LK.b, RS.one (LK.l 1)]
def XInt_BitLen_i : XS := { pat := [some (0, 0)], nb := [2], out := [.one] }
abbrev RInt_BitLen_i : List RS := [RS.one (LK.b), RS.one (LK.l 1), RS.one (LK.i IntKind.i64)]
def XInt_TrailingZeroBits_a : XS := { pat := [some (0, 0)], nb := [2], out := [.one] }
abbrev RInt_TrailingZeroBits_a : List RS := [RS.one (LK.b), RS.one (LK.l 1), RS.one (LK.i IntKind.u64)]
def XInt_And_a : XS := { pat := [some (0, 0), some (1, 0), some (2, 0)], nb := [2, 2, 2], out := [.ptr 0 0] }
abbrev RInt_And_a : List RS := [RS.one (LK.b), RS.one (LK.l 1), RS.one (LK.b), RS.one (LK.l 1), RS.one (LK.b), RS.one (LK.l 1)]
def XInt_And_pp : XS := { pat := [some (0, 0), some (0, 0), some (1, 0)], nb := [2, 2], out := [.ptr 0 0] }
abbrev RInt_And_pp : List RS := [RS.one (LK.b), RS.one (LK.l 1), RS.one (LK.b), RS.one (LK.l 1)]
def Xdyad_limbs_a : XS := { pat := [some (0, 0)], nb := [2], out := [.one] }
abbrev Rdyad_limbs_a : List RS := [RS.one (LK.b), RS.one (LK.l 1), RS.one (LK.l 1)]
def XRat_norm_a : XS := { pat := [some (0, 0)], nb := [4], out := [.ptr 0 0] }
abbrev RRat_norm_a : List RS := [RS.one (LK.b), RS.one (LK.l 1), RS.one (LK.b), RS.one (LK.l 1)]
def XRat_SetFrac_a : XS := { pat := [some (0, 0), some (1, 0), some (2, 0)], nb := [4, 2, 2], out := [.ptr 0 0] }
abbrev RRat_SetFrac_a : List RS := [RS.one (LK.b), RS.one (LK.l 1), RS.one (LK.b), RS.one (LK.l 1), RS.one (LK.b), RS.one (LK.l 1), RS.one (LK.b), RS.one (LK.l 1)]
def XInt_Mul_rr : XS := { pat := [some (0, 0), some (1, 0), some (2, 0)], nb := [2, 4, 4], out := [.ptr 0 0] }
abbrev RInt_Mul_rr : List RS := [RS.one (LK.b), RS.one (LK.l 1), RS.one (LK.b), RS.one (LK.l 1), RS.one (LK.b), RS.one (LK.l 1), RS.one (LK.b), RS.one (LK.l 1), RS.one (LK.b), RS.one (LK.l 1)]
def XInt_Mul_bb : XS := { pat := [some (0, 0), some (1, 2), some (2, 2)], nb := [2, 4, 4], out := [.ptr 0 0] }
abbrev RInt_Mul_bb : List RS := [RS.one (LK.b), RS.one (LK.l 1), RS.one (LK.b), RS.one (LK.l 1), RS.one (LK.b), RS.one (LK.l 1), RS.one (LK.b), RS.one (LK.l 1), RS.one (LK.b), RS.one (LK.l 1)]
def XInt_Mul_ab : XS := { pat := [some (0, 0), some (1, 0), some (2, 2)], nb := [2, 4, 4], out := [.ptr 0 0] }
abbrev RInt_Mul_ab : List RS := [RS.one (LK.b), RS.one (LK.l 1), RS.one (LK.b), RS.one (LK.l 1), RS.one (LK.b), RS.one (LK.l 1), RS.one (LK.b), RS.one (LK.l 1), RS.one (LK.b), RS.one (LK.l 1)]
def XInt_Mul_iii : XS := { pat := [some (0, 0), some (1, 0), some (2, 0)], nb := [2, 2, 2], out := [.ptr 0 0] }
abbrev RInt_Mul_iii : List RS := [RS.one (LK.b), RS.one (LK.l 1), RS.one (LK.b), RS.one (LK.l 1), RS.one (LK.b), RS.one (LK.l 1)]
def XInt_Mul_ri : XS := { pat := [some (0, 0), some (1, 0), some (2, 0)], nb := [2, 4, 2], out := [.ptr 0 0] }
abbrev RInt_Mul_ri : List RS := [RS.one (LK.b), RS.one (LK.l 1), RS.one (LK.b), RS.one (LK.l 1), RS.one (LK.b), RS.one (LK.l 1), RS.one (LK.b), RS.one (LK.l 1)]
def XInt_Mul_ir : XS := { pat := [some (0, 0), some (1, 0), some (2, 2)], nb := [2, 2, 4], out := [.ptr 0 0] }
abbrev RInt_Mul_ir : List RS := [RS.one (LK.b), RS.one (LK.l 1), RS.one (LK.b), RS.one (LK.l 1), RS.one (LK.b), RS.one (LK.l 1), RS.one (LK.b), RS.one (LK.l 1)]
def XInt_SetBytes_a : XS := { pat := [some (0, 0), none], nb := [2], out := [.ptr 0 0] }
abbrev RInt_SetBytes_a : List RS := [RS.one (LK.b), RS.one (LK.l 1)]
def Xexact_Whole_a : XS := { pat := [none], nb := [], out := [.newb 2 0] }
abbrev Rexact_Whole_a : List RS := [RS.one LK.b, RS.one (LK.l 1)]
def XInt_Add_iii : XS := { pat := [some (0, 0), some (1, 0), some (2, 0)], nb := [2, 2, 2], out := [.ptr 0 0] }
abbrev RInt_Add_iii : List RS := [RS.one (LK.b), RS.one (LK.l 1), RS.one (LK.b), RS.one (LK.l 1), RS.one (LK.b), RS.one (LK.l 1)]
noncomputable instance : Inhabited GlobT := ⟨⟨[(1, 64, fun j => AV.int .u8 (tab0.getD j 0))]⟩⟩
end Go.Proofs.Tryz
end
section
namespace Go.Proofs.Tryz
open Go Go.Am
set_option linter.unusedVariables false
set_option maxRecDepth 1000000
noncomputable def Sjoints_named_0 (h0s : ByteArray) (h0p : Nat) : St := { env := [(13,AV.ptr 0 0)],h := [Blk.it h0s h0p],kd := [] }
noncomputable def Xjoints_named_0_0 (qb2 : Bool) (qr4 : ByteArray) (qsk : Nat) : St := { env := [(2,AV.bool qb2)],h := [Blk.it qr4 qsk],kd := [] }
noncomputable def Xjoints_named_0_1 (qr5 : ByteArray) (qr3 : Nat) : St := { env := [],h := [Blk.it qr5 qr3],kd := [] }
noncomputable def gjoints_named_l0_step (fuel : Nat) (kn : Nat → Option AV) (kx0 : Bool → ByteArray → Nat → Option AV) (kx1 : ByteArray → Nat → Option AV) (h0s : ByteArray) (h0p : Nat) : Option AV :=
  bif h0p.blt h0s.size then bif bif decide ((↑(Utf8.decode h0s h0p).fst : Int) ≥ 97) then decide ((↑(Utf8.decode h0s h0p).fst : Int) ≤ 122) else false then kn (h0p + (Utf8.decode h0s h0p).snd)
    else bif bif bif decide ((↑(Utf8.decode h0s h0p).fst : Int) ≥ 48) then decide ((↑(Utf8.decode h0s h0p).fst : Int) ≤ 57) else false then decide ((↑h0p : Int) > 0) else false then kn (h0p + (Utf8.decode h0s h0p).snd)
    else kx0 false h0s (h0p + (Utf8.decode h0s h0p).snd)
  else kx1 h0s h0p
noncomputable def gjoints_named_l0 (fuel : Nat) (kx0 : Bool → ByteArray → Nat → Option AV) (kx1 : ByteArray → Nat → Option AV) (h0s : ByteArray) : Nat → Nat → Option AV
  | 0,_ => none
  | n' + 1,h0p => gjoints_named_l0_step fuel (gjoints_named_l0 fuel kx0 kx1 h0s n') kx0 kx1 h0s h0p
noncomputable def Tjoints_named_0 : TS' := ⟨[(13,TA.ptr 0 0)],[TB.it],[]⟩
noncomputable def Fjoints_named_0 (fuel : Nat) (ps : List Pay) (K : Ex → St → Option AV) : Option AV := match ps with
  | .s h0s :: .n h0p :: [] => gjoints_named_l0 fuel (fun qb2 qr4 qsk => K (Ex.ret) (Xjoints_named_0_0 qb2 qr4 qsk)) (fun qr5 qr3 => K (Ex.exit 0) (Xjoints_named_0_1 qr5 qr3)) h0s fuel h0p
  | _ => none
noncomputable def Ljoints_named (fuel : Nat) : Lam AV := [(68719460380,lam Tjoints_named_0 (Fjoints_named_0 fuel))]
noncomputable def Gjoints_named : Gam := []
theorem gjoints_named_l0_eq (fuel : Nat) (kn : St → Option AV) (K : Ex → St → Option AV) (h0s : ByteArray) (qs3 h0p : Nat) :
    bX Pr Gjoints_named (Ljoints_named fuel) 6 179 0 fuel (Sjoints_named_0 h0s h0p) (fun e s => match e with | .normal => kn (hX Pr 179 0 (Sjoints_named_0 h0s qs3) s) | e => K e s) =
    gjoints_named_l0_step fuel (fun h0p => kn (Sjoints_named_0 h0s h0p)) (fun xu2 xh0s xh0p => K (Ex.ret) (Xjoints_named_0_0 xu2 xh0s xh0p)) (fun xh0s xh0p => K (Ex.exit 0) (Xjoints_named_0_1 xh0s xh0p)) h0s h0p := by kernel_rfl
theorem gjoints_named_l0_ok (fuel : Nat) (K : Ex → St → Option AV) (h0s : ByteArray) (qs3 : Nat) : ∀ (n' h0p : Nat),
    loopK (bX Pr Gjoints_named (Ljoints_named fuel) 6 179 0 fuel) (hX Pr 179 0 (Sjoints_named_0 h0s qs3)) n' (Sjoints_named_0 h0s h0p) K = gjoints_named_l0 fuel (fun xu2 xh0s xh0p => K (Ex.ret) (Xjoints_named_0_0 xu2 xh0s xh0p)) (fun xh0s xh0p => K (Ex.exit 0) (Xjoints_named_0_1 xh0s xh0p)) h0s n' h0p
  | 0,_ => rfl
  | n' + 1,h0p => (gjoints_named_l0_eq fuel (fun s => loopK (bX Pr Gjoints_named (Ljoints_named fuel) 6 179 0 fuel) (hX Pr 179 0 (Sjoints_named_0 h0s qs3)) n' s K) K h0s qs3 h0p).trans
    (congrArg (fun kn => gjoints_named_l0_step fuel kn _ _ h0s h0p) (funext fun h0p => gjoints_named_l0_ok fuel K h0s qs3 n' h0p))
theorem gjoints_named_L0 (fuel : Nat) : LX Pr Gjoints_named (Ljoints_named fuel) 6 179 0 fuel := by
  refine .of Tjoints_named_0 (Fjoints_named_0 fuel) (fun L h => ?_) (fun ps st K r he hr => ?_)
  · have e : (Ljoints_named fuel).get (writes (lp Pr 179 0).1) = some (lam Tjoints_named_0 (Fjoints_named_0 fuel)) := by kernel_rfl
    exact (Option.some.inj (e.symm.trans h)).symm
  · unfold Fjoints_named_0 at hr
    split at hr
    · obtain rfl := (Option.some.inj he).symm
      exact (gjoints_named_l0_ok fuel K _ _ fuel _).trans hr
    · cases hr
noncomputable def gjoints_named (fuel : Nat) (us0 : ByteArray) : Option AV :=
  bif bif strEq us0 { data := #[] } then true else decide ((↑us0.size : Int) > 8) then some (AV.bool false)
  else gjoints_named_l0 fuel
    (fun (xu2 : Bool) (_ : ByteArray) (_ : Nat) => some (AV.bool xu2))
    (fun (_ : ByteArray) (_ : Nat) => some (AV.bool true))
    us0 fuel (0)
noncomputable def mjoints_named (fuel : Nat) (xs : List AV) : Option AV := match xs with
  | [AV.str us0] => gjoints_named fuel us0
  | _ => none
abbrev Rjoints_named : List RS := [RS.one LK.b]
theorem gjoints_named_sm (fuel : Nat) (hΓ : GamOk Pr Gjoints_named) (hP : NamesOk Pr) : SmOk Pr 179 (smM Rjoints_named (mjoints_named fuel)) := smL (L := (Ljoints_named fuel)) (n := 1) hΓ hP (by kernel_rfl) (fun i hi => match i,hi with
  | 0,_ => gjoints_named_L0 fuel
  | i + 1,hi => absurd hi (by omega)) fun xs v h => by
  unfold mjoints_named at h
  split at h
  · exact Eq.trans (by kernel_rfl) h
  · cases h
noncomputable def Sjoints_near_0 (u5n u5r : Nat) (u5g : Ge) (u6 u7 : Int) : St := { env := [(5,AV.ro 1 u5n u5r u5g),(6,AV.int .i64 u6),(7,AV.int .i64 u7)],h := [],kd := [] }
noncomputable def Xjoints_near_0_0 (qb2 : Bool) : St := { env := [(2,AV.bool qb2)],h := [],kd := [] }
noncomputable def Xjoints_near_0_1 : St := { env := [],h := [],kd := [] }
noncomputable def gjoints_near_l0_step (fuel : Nat) (kn : Int → Option AV) (kx0 : Bool → Option AV) (kx1 : Option AV) (u5n u5r : Nat) (u5g : Ge) (u6 u7 : Int) : Option AV :=
  bif decide (u7 < u6) then ck (decide (0 ≤ u7)) <| ck (decide (u7 < (↑u5n : Int))) <| ck (fitK (LK.i .i32) (u5g u7.toNat 0)) <| bif bif decide (toI (u5g u7.toNat 0) < (-1048576)) then true else decide (toI (u5g u7.toNat 0) > 1048576) then kx0 false
    else kn (IntKind.i64.wrap (u7 + 1))
  else kx1
noncomputable def gjoints_near_l0 (fuel : Nat) (kx0 : Bool → Option AV) (kx1 : Option AV) (u5n u5r : Nat) (u5g : Ge) (u6 : Int) : Nat → Int → Option AV
  | 0,_ => none
  | n' + 1,u7 => gjoints_near_l0_step fuel (gjoints_near_l0 fuel kx0 kx1 u5n u5r u5g u6 n') kx0 kx1 u5n u5r u5g u6 u7
noncomputable def Tjoints_near_0 : TS' := ⟨[(5,TA.ro 1),(6,TA.i .i64),(7,TA.i .i64)],[],[]⟩
noncomputable def Fjoints_near_0 (fuel : Nat) (ps : List Pay) (K : Ex → St → Option AV) : Option AV := match ps with
  | .n u5n :: .n u5r :: .g u5g :: .i u6 :: .i u7 :: [] => gjoints_near_l0 fuel (fun qb2 => K (Ex.ret) (Xjoints_near_0_0 qb2)) (K (Ex.exit 0) Xjoints_near_0_1) u5n u5r u5g u6 fuel u7
  | _ => none
noncomputable def Ljoints_near (fuel : Nat) : Lam AV := [(262036,lam Tjoints_near_0 (Fjoints_near_0 fuel))]
noncomputable def Gjoints_near : Gam := []
theorem gjoints_near_l0_eq (fuel : Nat) (kn : St → Option AV) (K : Ex → St → Option AV) (u5n u5r : Nat) (u5g : Ge) (u6 u70 u7 : Int) :
    bX Pr Gjoints_near (Ljoints_near fuel) 6 180 0 fuel (Sjoints_near_0 u5n u5r u5g u6 u7) (fun e s => match e with | .normal => kn (hX Pr 180 0 (Sjoints_near_0 u5n u5r u5g u6 u70) s) | e => K e s) =
    gjoints_near_l0_step fuel (fun u7 => kn (Sjoints_near_0 u5n u5r u5g u6 u7)) (fun xu2 => K (Ex.ret) (Xjoints_near_0_0 xu2)) (K (Ex.exit 0) Xjoints_near_0_1) u5n u5r u5g u6 u7 := by kernel_rfl
theorem gjoints_near_l0_ok (fuel : Nat) (K : Ex → St → Option AV) (u5n u5r : Nat) (u5g : Ge) (u6 u70 : Int) : ∀ (n' : Nat) (u7 : Int),
    loopK (bX Pr Gjoints_near (Ljoints_near fuel) 6 180 0 fuel) (hX Pr 180 0 (Sjoints_near_0 u5n u5r u5g u6 u70)) n' (Sjoints_near_0 u5n u5r u5g u6 u7) K = gjoints_near_l0 fuel (fun xu2 => K (Ex.ret) (Xjoints_near_0_0 xu2)) (K (Ex.exit 0) Xjoints_near_0_1) u5n u5r u5g u6 n' u7
  | 0,_ => rfl
  | n' + 1,u7 => (gjoints_near_l0_eq fuel (fun s => loopK (bX Pr Gjoints_near (Ljoints_near fuel) 6 180 0 fuel) (hX Pr 180 0 (Sjoints_near_0 u5n u5r u5g u6 u70)) n' s K) K u5n u5r u5g u6 u70 u7).trans
    (congrArg (fun kn => gjoints_near_l0_step fuel kn _ _ u5n u5r u5g u6 u7) (funext fun u7 => gjoints_near_l0_ok fuel K u5n u5r u5g u6 u70 n' u7))
theorem gjoints_near_L0 (fuel : Nat) : LX Pr Gjoints_near (Ljoints_near fuel) 6 180 0 fuel := by
  refine .of Tjoints_near_0 (Fjoints_near_0 fuel) (fun L h => ?_) (fun ps st K r he hr => ?_)
  · have e : (Ljoints_near fuel).get (writes (lp Pr 180 0).1) = some (lam Tjoints_near_0 (Fjoints_near_0 fuel)) := by kernel_rfl
    exact (Option.some.inj (e.symm.trans h)).symm
  · unfold Fjoints_near_0 at hr
    split at hr
    · obtain rfl := (Option.some.inj he).symm
      exact (gjoints_near_l0_ok fuel K _ _ _ _ _ fuel _).trans hr
    · cases hr
noncomputable def gjoints_near (fuel po qbh : Nat) (qat : Ge) : Option AV :=
  gjoints_near_l0 fuel
    (fun (xu2 : Bool) => some (AV.bool xu2))
    (some (AV.bool true))
    po
    qbh
    qat
    ((↑po : Int)) fuel (0)
noncomputable def mjoints_near (fuel : Nat) (xs : List AV) : Option AV := match xs with
  | [AV.ro 1 po qbh qat] => gjoints_near fuel po qbh qat
  | _ => none
abbrev Rjoints_near : List RS := [RS.one LK.b]
theorem gjoints_near_sm (fuel : Nat) (hΓ : GamOk Pr Gjoints_near) (hP : NamesOk Pr) : SmOk Pr 180 (smM Rjoints_near (mjoints_near fuel)) := smL (L := (Ljoints_near fuel)) (n := 1) hΓ hP (by kernel_rfl) (fun i hi => match i,hi with
  | 0,_ => gjoints_near_L0 fuel
  | i + 1,hi => absurd hi (by omega)) fun xs v h => by
  unfold mjoints_near at h
  split at h
  · exact Eq.trans (by kernel_rfl) h
  · cases h
noncomputable def Sjoints_Check_0 (qdf qdx : Nat) (vw : Ge) (u18 u19 : Int) (h0m h1m : List (AV × AV)) : St := { env := [(4,AV.mp 0),(5,AV.mp 1),(17,AV.ro 4 qdf qdx vw),(18,AV.int .i64 u18),(19,AV.int .i64 u19)],h := [Blk.mp h0m,Blk.mp h1m],kd := [] }
noncomputable def Xjoints_Check_0_0 (qb2 qm1 : Int) (qsd qsn : List (AV × AV)) (qcm : ByteArray) (qgj qga qgl : Int) : St := { env := [(2,AV.int .i64 qb2),(3,AV.int .i64 qm1)],h := [Blk.mp qsd,Blk.mp qsn,Blk.box [AV.str qcm,AV.int .i32 qgj,AV.int .i32 qga,AV.int .u8 qgl]],kd := [] }
noncomputable def Xjoints_Check_0_1 (qsj qsc : List (AV × AV)) : St := { env := [],h := [Blk.mp qsj,Blk.mp qsc],kd := [] }
noncomputable def gjoints_Check_l0_step (ws wg : Mo) (fuel : Nat) (kn : Int → List (AV × AV) → List (AV × AV) → Option AV) (kx0 : Int → Int → List (AV × AV) → List (AV × AV) → ByteArray → Int → Int → Int → Option AV) (kx1 : List (AV × AV) → List (AV × AV) → Option AV) (qdf qdx : Nat) (vw : Ge) (u18 u19 : Int) (h0m h1m : List (AV × AV)) : Option AV :=
  bif decide (u19 < u18) then ck (decide (0 ≤ u19)) <| ck (decide (u19 < (↑qdf : Int))) <| ck (fitKs [LK.s,LK.i .i32,LK.i .i32,LK.i .u8] [vw u19.toNat 0,vw u19.toNat 1,vw u19.toNat 2,vw u19.toNat 3]) <| ck (keyOk Tryz.prog 9 (AV.str (toS (vw u19.toNat 0)))) <| ck (mapFit Tryz.prog 9 (AV.str (toS (vw u19.toNat 0))) h0m) <| ck (fit1 Tryz.prog 3 ((findM Tryz.prog 9 (AV.str (toS (vw u19.toNat 0))) h0m).getD (AV.int .i64 0))) <| ck (keyOk Tryz.prog 225 (AV.agg [AV.int .i32 (toI (vw u19.toNat 1)),AV.int .i32 (toI (vw u19.toNat 2))])) <| ck (mapFit Tryz.prog 225 (AV.agg [AV.int .i32 (toI (vw u19.toNat 1)),AV.int .i32 (toI (vw u19.toNat 2))]) h1m) <| ck (fit1 Tryz.prog 3 ((findM Tryz.prog 225 (AV.agg [AV.int .i32 (toI (vw u19.toNat 1)),AV.int .i32 (toI (vw u19.toNat 2))]) h1m).getD (AV.int .i64 0))) <| ck (bif !bif (findM Tryz.prog 9 (AV.str (toS (vw u19.toNat 0))) h0m).isSome then true else (findM Tryz.prog 225 (AV.agg [AV.int .i32 (toI (vw u19.toNat 1)),AV.int .i32 (toI (vw u19.toNat 2))]) h1m).isSome then true else true) <| ck (bif !bif (findM Tryz.prog 9 (AV.str (toS (vw u19.toNat 0))) h0m).isSome then true else (findM Tryz.prog 225 (AV.agg [AV.int .i32 (toI (vw u19.toNat 1)),AV.int .i32 (toI (vw u19.toNat 2))]) h1m).isSome then okM [RS.one LK.b] (ws [AV.str (toS (vw u19.toNat 0))]) else true) <| ck (bif !bif bif (findM Tryz.prog 9 (AV.str (toS (vw u19.toNat 0))) h0m).isSome then true else (findM Tryz.prog 225 (AV.agg [AV.int .i32 (toI (vw u19.toNat 1)),AV.int .i32 (toI (vw u19.toNat 2))]) h1m).isSome then true else !toB (getV (ws [AV.str (toS (vw u19.toNat 0))])) then true else true) <| ck (bif !bif bif (findM Tryz.prog 9 (AV.str (toS (vw u19.toNat 0))) h0m).isSome then true else (findM Tryz.prog 225 (AV.agg [AV.int .i32 (toI (vw u19.toNat 1)),AV.int .i32 (toI (vw u19.toNat 2))]) h1m).isSome then true else !toB (getV (ws [AV.str (toS (vw u19.toNat 0))])) then true else true) <| ck (bif !bif bif (findM Tryz.prog 9 (AV.str (toS (vw u19.toNat 0))) h0m).isSome then true else (findM Tryz.prog 225 (AV.agg [AV.int .i32 (toI (vw u19.toNat 1)),AV.int .i32 (toI (vw u19.toNat 2))]) h1m).isSome then true else !toB (getV (ws [AV.str (toS (vw u19.toNat 0))])) then okM [RS.one LK.b] (wg [AV.ro 1 2 2 fun (i j : Nat) => ([[AV.int .i32 (toI (vw u19.toNat 1))],[AV.int .i32 (toI (vw u19.toNat 2))]].getD i []).getD j AV.dead]) else true) <| ck (bif !bif bif bif (findM Tryz.prog 9 (AV.str (toS (vw u19.toNat 0))) h0m).isSome then true else (findM Tryz.prog 225 (AV.agg [AV.int .i32 (toI (vw u19.toNat 1)),AV.int .i32 (toI (vw u19.toNat 2))]) h1m).isSome then true else !toB (getV (ws [AV.str (toS (vw u19.toNat 0))])) then true else !toB (getV (wg [AV.ro 1 2 2 fun (i j : Nat) => ([[AV.int .i32 (toI (vw u19.toNat 1))],[AV.int .i32 (toI (vw u19.toNat 2))]].getD i []).getD j AV.dead])) then true else true) <| bif bif bif bif bif (findM Tryz.prog 9 (AV.str (toS (vw u19.toNat 0))) h0m).isSome then true else (findM Tryz.prog 225 (AV.agg [AV.int .i32 (toI (vw u19.toNat 1)),AV.int .i32 (toI (vw u19.toNat 2))]) h1m).isSome then true else !toB (getV (ws [AV.str (toS (vw u19.toNat 0))])) then true else !toB (getV (wg [AV.ro 1 2 2 fun (i j : Nat) => ([[AV.int .i32 (toI (vw u19.toNat 1))],[AV.int .i32 (toI (vw u19.toNat 2))]].getD i []).getD j AV.dead])) then true else decide (toI (vw u19.toNat 3) > 7) then kx0 (280) u19 h0m h1m (toS (vw u19.toNat 0)) (toI (vw u19.toNat 1)) (toI (vw u19.toNat 2)) (toI (vw u19.toNat 3))
    else ck (keyOk Tryz.prog 9 (AV.str (toS (vw u19.toNat 0)))) <| ck (mapFit Tryz.prog 9 (AV.str (toS (vw u19.toNat 0))) h0m) <| ck (!(findM Tryz.prog 9 (AV.str (toS (vw u19.toNat 0))) h0m).isSome) <| ck (keyOk Tryz.prog 225 (AV.agg [AV.int .i32 (toI (vw u19.toNat 1)),AV.int .i32 (toI (vw u19.toNat 2))])) <| ck (mapFit Tryz.prog 225 (AV.agg [AV.int .i32 (toI (vw u19.toNat 1)),AV.int .i32 (toI (vw u19.toNat 2))]) h1m) <| ck (!(findM Tryz.prog 225 (AV.agg [AV.int .i32 (toI (vw u19.toNat 1)),AV.int .i32 (toI (vw u19.toNat 2))]) h1m).isSome) <| kn (IntKind.i64.wrap (u19 + 1)) (h0m ++ [(AV.str (toS (vw u19.toNat 0)),AV.int .i64 u19)]) (h1m ++ [(AV.agg [AV.int .i32 (toI (vw u19.toNat 1)),AV.int .i32 (toI (vw u19.toNat 2))],AV.int .i64 u19)])
  else kx1 h0m h1m
noncomputable def gjoints_Check_l0 (ws wg : Mo) (fuel : Nat) (kx0 : Int → Int → List (AV × AV) → List (AV × AV) → ByteArray → Int → Int → Int → Option AV) (kx1 : List (AV × AV) → List (AV × AV) → Option AV) (qdf qdx : Nat) (vw : Ge) (u18 : Int) : Nat → Int → List (AV × AV) → List (AV × AV) → Option AV
  | 0,_,_,_ => none
  | n' + 1,u19,h0m,h1m => gjoints_Check_l0_step ws wg fuel (gjoints_Check_l0 ws wg fuel kx0 kx1 qdf qdx vw u18 n') kx0 kx1 qdf qdx vw u18 u19 h0m h1m
noncomputable def Tjoints_Check_0 : TS' := ⟨[(4,TA.mp 0),(5,TA.mp 1),(17,TA.ro 4),(18,TA.i .i64),(19,TA.i .i64)],[TB.mp,TB.mp],[]⟩
noncomputable def Fjoints_Check_0 (ws wg : Mo) (fuel : Nat) (ps : List Pay) (K : Ex → St → Option AV) : Option AV := match ps with
  | .n qdf :: .n qdx :: .g vw :: .i u18 :: .i u19 :: .m h0m :: .m h1m :: [] => gjoints_Check_l0 ws wg fuel (fun qb2 qm1 qsd qsn qcm qgj qga qgl => K (Ex.ret) (Xjoints_Check_0_0 qb2 qm1 qsd qsn qcm qgj qga qgl)) (fun qsj qsc => K (Ex.exit 0) (Xjoints_Check_0_1 qsj qsc)) qdf qdx vw u18 fuel u19 h0m h1m
  | _ => none
noncomputable def Ljoints_Check (ws wg : Mo) (fuel : Nat) : Lam AV := [(302231454903657293156300,lam Tjoints_Check_0 (Fjoints_Check_0 ws wg fuel))]
noncomputable def Gjoints_Check (ws wg : Mo) : Gam := [(179,smM [RS.one LK.b] ws),(180,smM [RS.one LK.b] wg)]
theorem gjoints_Check_l0_eq (ws wg : Mo) (fuel : Nat) (kn : St → Option AV) (K : Ex → St → Option AV) (qdf qdx : Nat) (vw : Ge) (u18 qlt : Int) (qs1 qte : List (AV × AV)) (u19 : Int) (h0m h1m : List (AV × AV)) :
    bX Pr (Gjoints_Check ws wg) (Ljoints_Check ws wg fuel) 6 116 0 fuel (Sjoints_Check_0 qdf qdx vw u18 u19 h0m h1m) (fun e s => match e with | .normal => kn (hX Pr 116 0 (Sjoints_Check_0 qdf qdx vw u18 qlt qs1 qte) s) | e => K e s) =
    gjoints_Check_l0_step ws wg fuel (fun u19 h0m h1m => kn (Sjoints_Check_0 qdf qdx vw u18 u19 h0m h1m)) (fun xu2 xu3 xh0m xh1m qcw xh2_1 xh2_2 xh2_3 => K (Ex.ret) (Xjoints_Check_0_0 xu2 xu3 xh0m xh1m qcw xh2_1 xh2_2 xh2_3)) (fun xh0m xh1m => K (Ex.exit 0) (Xjoints_Check_0_1 xh0m xh1m)) qdf qdx vw u18 u19 h0m h1m := by kernel_rfl
theorem gjoints_Check_l0_ok (ws wg : Mo) (fuel : Nat) (K : Ex → St → Option AV) (qdf qdx : Nat) (vw : Ge) (u18 qlt : Int) (qs1 qte : List (AV × AV)) : ∀ (n' : Nat) (u19 : Int) (h0m h1m : List (AV × AV)),
    loopK (bX Pr (Gjoints_Check ws wg) (Ljoints_Check ws wg fuel) 6 116 0 fuel) (hX Pr 116 0 (Sjoints_Check_0 qdf qdx vw u18 qlt qs1 qte)) n' (Sjoints_Check_0 qdf qdx vw u18 u19 h0m h1m) K = gjoints_Check_l0 ws wg fuel (fun xu2 xu3 xh0m xh1m qcw xh2_1 xh2_2 xh2_3 => K (Ex.ret) (Xjoints_Check_0_0 xu2 xu3 xh0m xh1m qcw xh2_1 xh2_2 xh2_3)) (fun xh0m xh1m => K (Ex.exit 0) (Xjoints_Check_0_1 xh0m xh1m)) qdf qdx vw u18 n' u19 h0m h1m
  | 0,_,_,_ => rfl
  | n' + 1,u19,h0m,h1m => (gjoints_Check_l0_eq ws wg fuel (fun s => loopK (bX Pr (Gjoints_Check ws wg) (Ljoints_Check ws wg fuel) 6 116 0 fuel) (hX Pr 116 0 (Sjoints_Check_0 qdf qdx vw u18 qlt qs1 qte)) n' s K) K qdf qdx vw u18 qlt qs1 qte u19 h0m h1m).trans
    (congrArg (fun kn => gjoints_Check_l0_step ws wg fuel kn _ _ qdf qdx vw u18 u19 h0m h1m) (funext fun u19 => funext fun h0m => funext fun h1m => gjoints_Check_l0_ok ws wg fuel K qdf qdx vw u18 qlt qs1 qte n' u19 h0m h1m))
theorem gjoints_Check_L0 (ws wg : Mo) (fuel : Nat) : LX Pr (Gjoints_Check ws wg) (Ljoints_Check ws wg fuel) 6 116 0 fuel := by
  refine .of Tjoints_Check_0 (Fjoints_Check_0 ws wg fuel) (fun L h => ?_) (fun ps st K r he hr => ?_)
  · have e : (Ljoints_Check ws wg fuel).get (writes (lp Pr 116 0).1) = some (lam Tjoints_Check_0 (Fjoints_Check_0 ws wg fuel)) := by kernel_rfl
    exact (Option.some.inj (e.symm.trans h)).symm
  · unfold Fjoints_Check_0 at hr
    split at hr
    · obtain rfl := (Option.some.inj he).symm
      exact (gjoints_Check_l0_ok ws wg fuel K _ _ _ _ _ _ _ fuel _ _ _).trans hr
    · cases hr
noncomputable def gjoints_Check (ws wg : Mo) (fuel po qbh : Nat) (qat : Ge) : Option AV :=
  bif decide ((↑po : Int) > 16) then some (AV.tup [AV.int .i64 3,AV.int .i64 0])
  else gjoints_Check_l0 ws wg fuel
    (fun (xu2 xu3 : Int) (_ _ : List (AV × AV)) (_ : ByteArray) (_ _ _ : Int) => some (AV.tup [AV.int .i64 xu2,AV.int .i64 xu3]))
    (fun (_ _ : List (AV × AV)) => some (AV.tup [AV.int .i64 0,AV.int .i64 0]))
    po
    qbh
    qat
    ((↑po : Int)) fuel (0) ([]) ([])
noncomputable def mjoints_Check (ws wg : Mo) (fuel : Nat) (xs : List AV) : Option AV := match xs with
  | [AV.ro 4 po qbh qat] => gjoints_Check ws wg fuel po qbh qat
  | _ => none
abbrev Rjoints_Check : List RS := [RS.one (LK.i .i64),RS.one (LK.i .i64)]
theorem gjoints_Check_sm (ws wg : Mo) (fuel : Nat) (hΓ : GamOk Pr (Gjoints_Check ws wg)) (hP : NamesOk Pr) : SmOk Pr 116 (smM Rjoints_Check (mjoints_Check ws wg fuel)) := smL (L := (Ljoints_Check ws wg fuel)) (n := 1) hΓ hP (by kernel_rfl) (fun i hi => match i,hi with
  | 0,_ => gjoints_Check_L0 ws wg fuel
  | i + 1,hi => absurd hi (by omega)) fun xs v h => by
  unfold mjoints_Check at h
  split at h
  · exact Eq.trans (by kernel_rfl) h
  · cases h
noncomputable def Sbars_named_0 (pk : ByteArray) (u7 u8 : Int) : St := { env := [(0,AV.str pk),(7,AV.int .i64 u7),(8,AV.int .i64 u8)],h := [],kd := [] }
noncomputable def Xbars_named_0_0 (qb2 : Bool) : St := { env := [(2,AV.bool qb2)],h := [],kd := [] }
noncomputable def Xbars_named_0_1 (qrq : ByteArray) : St := { env := [(0,AV.str qrq)],h := [],kd := [] }
noncomputable def gbars_named_l0_step (fuel : Nat) (kn : Int → Option AV) (kx0 : Bool → Option AV) (kx1 : ByteArray → Option AV) (pk : ByteArray) (u7 u8 : Int) : Option AV :=
  bif decide (u8 < u7) then ck (decide (0 ≤ u8)) <| ck (decide (u8 < (↑pk.size : Int))) <| ck (bif decide (sbyte pk u8.toNat ≥ 97) then decide (0 ≤ u8) else true) <| ck (bif decide (sbyte pk u8.toNat ≥ 97) then decide (u8 < (↑pk.size : Int)) else true) <| ck (decide (0 ≤ u8)) <| ck (decide (u8 < (↑pk.size : Int))) <| ck (bif decide (sbyte pk u8.toNat ≥ 48) then decide (0 ≤ u8) else true) <| ck (bif decide (sbyte pk u8.toNat ≥ 48) then decide (u8 < (↑pk.size : Int)) else true) <| bif bif !bif decide (sbyte pk u8.toNat ≥ 97) then decide (sbyte pk u8.toNat ≤ 122) else false then bif !bif decide (sbyte pk u8.toNat ≥ 48) then decide (sbyte pk u8.toNat ≤ 57) else false then true else u8 == 0 else false then kx0 false
    else kn (IntKind.i64.wrap (u8 + 1))
  else kx1 pk
noncomputable def gbars_named_l0 (fuel : Nat) (kx0 : Bool → Option AV) (kx1 : ByteArray → Option AV) (pk : ByteArray) (u7 : Int) : Nat → Int → Option AV
  | 0,_ => none
  | n' + 1,u8 => gbars_named_l0_step fuel (gbars_named_l0 fuel kx0 kx1 pk u7 n') kx0 kx1 pk u7 u8
noncomputable def Tbars_named_0 : TS' := ⟨[(0,TA.s),(7,TA.i .i64),(8,TA.i .i64)],[],[]⟩
noncomputable def Fbars_named_0 (fuel : Nat) (ps : List Pay) (K : Ex → St → Option AV) : Option AV := match ps with
  | .s pk :: .i u7 :: .i u8 :: [] => gbars_named_l0 fuel (fun qb2 => K (Ex.ret) (Xbars_named_0_0 qb2)) (fun qrq => K (Ex.exit 0) (Xbars_named_0_1 qrq)) pk u7 fuel u8
  | _ => none
noncomputable def Lbars_named (fuel : Nat) : Lam AV := [(4398046510908,lam Tbars_named_0 (Fbars_named_0 fuel))]
noncomputable def Gbars_named : Gam := []
theorem gbars_named_l0_eq (fuel : Nat) (kn : St → Option AV) (K : Ex → St → Option AV) (pk : ByteArray) (u7 u80 u8 : Int) :
    bX Pr Gbars_named (Lbars_named fuel) 6 181 0 fuel (Sbars_named_0 pk u7 u8) (fun e s => match e with | .normal => kn (hX Pr 181 0 (Sbars_named_0 pk u7 u80) s) | e => K e s) =
    gbars_named_l0_step fuel (fun u8 => kn (Sbars_named_0 pk u7 u8)) (fun xu2 => K (Ex.ret) (Xbars_named_0_0 xu2)) (fun qrd => K (Ex.exit 0) (Xbars_named_0_1 qrd)) pk u7 u8 := by kernel_rfl
theorem gbars_named_l0_ok (fuel : Nat) (K : Ex → St → Option AV) (pk : ByteArray) (u7 u80 : Int) : ∀ (n' : Nat) (u8 : Int),
    loopK (bX Pr Gbars_named (Lbars_named fuel) 6 181 0 fuel) (hX Pr 181 0 (Sbars_named_0 pk u7 u80)) n' (Sbars_named_0 pk u7 u8) K = gbars_named_l0 fuel (fun xu2 => K (Ex.ret) (Xbars_named_0_0 xu2)) (fun qrd => K (Ex.exit 0) (Xbars_named_0_1 qrd)) pk u7 n' u8
  | 0,_ => rfl
  | n' + 1,u8 => (gbars_named_l0_eq fuel (fun s => loopK (bX Pr Gbars_named (Lbars_named fuel) 6 181 0 fuel) (hX Pr 181 0 (Sbars_named_0 pk u7 u80)) n' s K) K pk u7 u80 u8).trans
    (congrArg (fun kn => gbars_named_l0_step fuel kn _ _ pk u7 u8) (funext fun u8 => gbars_named_l0_ok fuel K pk u7 u80 n' u8))
theorem gbars_named_L0 (fuel : Nat) : LX Pr Gbars_named (Lbars_named fuel) 6 181 0 fuel := by
  refine .of Tbars_named_0 (Fbars_named_0 fuel) (fun L h => ?_) (fun ps st K r he hr => ?_)
  · have e : (Lbars_named fuel).get (writes (lp Pr 181 0).1) = some (lam Tbars_named_0 (Fbars_named_0 fuel)) := by kernel_rfl
    exact (Option.some.inj (e.symm.trans h)).symm
  · unfold Fbars_named_0 at hr
    split at hr
    · obtain rfl := (Option.some.inj he).symm
      exact (gbars_named_l0_ok fuel K _ _ _ fuel _).trans hr
    · cases hr
noncomputable def gbars_named (fuel : Nat) (us0 : ByteArray) : Option AV :=
  gbars_named_l0 fuel
    (fun (xu2 : Bool) => some (AV.bool xu2))
    (fun (qrd : ByteArray) => some (AV.bool (bif decide ((↑qrd.size : Int) ≥ 1) then decide ((↑qrd.size : Int) ≤ 8) else false)))
    us0
    ((↑us0.size : Int)) fuel (0)
noncomputable def mbars_named (fuel : Nat) (xs : List AV) : Option AV := match xs with
  | [AV.str us0] => gbars_named fuel us0
  | _ => none
abbrev Rbars_named : List RS := [RS.one LK.b]
theorem gbars_named_sm (fuel : Nat) (hΓ : GamOk Pr Gbars_named) (hP : NamesOk Pr) : SmOk Pr 181 (smM Rbars_named (mbars_named fuel)) := smL (L := (Lbars_named fuel)) (n := 1) hΓ hP (by kernel_rfl) (fun i hi => match i,hi with
  | 0,_ => gbars_named_L0 fuel
  | i + 1,hi => absurd hi (by omega)) fun xs v h => by
  unfold mbars_named at h
  split at h
  · exact Eq.trans (by kernel_rfl) h
  · cases h
noncomputable def Gbars_number : Gam := []
noncomputable def gbars_number (fuel : Nat) (ux0 : Option Nat) : Option AV :=
  some (AV.bool (bif ford .f64 ux0 (some 4336966441157787648) == some Ordering.gt || ford .f64 ux0 (some 4336966441157787648) == some Ordering.eq then ford .f64 ux0 (some 4877398396442247168) == some Ordering.lt || ford .f64 ux0 (some 4877398396442247168) == some Ordering.eq else false))
noncomputable def mbars_number (fuel : Nat) (xs : List AV) : Option AV := match xs with
  | [AV.flt .f64 ux0] => gbars_number fuel ux0
  | _ => none
abbrev Rbars_number : List RS := [RS.one LK.b]
theorem gbars_number_sm (fuel : Nat) (hΓ : GamOk Pr Gbars_number) (hP : NamesOk Pr) : SmOk Pr 182 (smM Rbars_number (mbars_number fuel)) := sm0 (fuel := fuel) (d := 7) hΓ hP fun xs v h => by
  unfold mbars_number at h
  split at h
  · exact Eq.trans (by kernel_rfl) h
  · cases h
noncomputable def Sbars_may_0 (qdf qdx : Nat) (vw : Ge) (u18 u19 : Int) (ya yb : Nat) (yc : Ge) (qu qx : Nat) (qw : Ge) (zj : ByteArray) (qc9 qc8 qhr : Int) (qhv qht : Bool) (qhu qhz qhs : Option Nat) : St := { env := [(2,AV.ptr 0 0),(5,AV.ptr 1 0),(17,AV.ro 9 qdf qdx vw),(18,AV.int .i64 u18),(19,AV.int .i64 u19)],h := [Blk.box [AV.ro 4 ya yb yc,AV.ro 9 qu qx qw],Blk.box [AV.str zj,AV.int .u8 qc9,AV.int .i64 qc8,AV.int .i64 qhr,AV.bool qhv,AV.bool qht,AV.flt .f64 qhu,AV.flt .f64 qhz,AV.flt .f64 qhs]],kd := [] }
noncomputable def Xbars_may_0_0 (qho : Bool) (qez qex : Nat) (qe1 : Ge) (qew qe3 : Nat) (qe2 : Ge) (qpy : ByteArray) (qqr qpf qq2 : Int) (qqx qqt : Bool) (qp0 qqg qo8 : Option Nat) (qcm : ByteArray) (qgj qga qgl : Int) (qi8 qi6 : Bool) (qji qjb qjk : Option Nat) : St := { env := [(4,AV.bool qho)],h := [Blk.box [AV.ro 4 qez qex qe1,AV.ro 9 qew qe3 qe2],Blk.box [AV.str qpy,AV.int .u8 qqr,AV.int .i64 qpf,AV.int .i64 qq2,AV.bool qqx,AV.bool qqt,AV.flt .f64 qp0,AV.flt .f64 qqg,AV.flt .f64 qo8],Blk.box [AV.str qcm,AV.int .u8 qgj,AV.int .i64 qga,AV.int .i64 qgl,AV.bool qi8,AV.bool qi6,AV.flt .f64 qji,AV.flt .f64 qjb,AV.flt .f64 qjk]],kd := [] }
noncomputable def Xbars_may_0_1 (qe0 qfa : Nat) (qe7 : Ge) (qe5 qe8 : Nat) (qe9 : Ge) (qpo : ByteArray) (qo7 qps qp6 : Int) (qq3 qp9 : Bool) (qpk qp1 qqi : Option Nat) : St := { env := [(2,AV.ptr 0 0),(5,AV.ptr 1 0)],h := [Blk.box [AV.ro 4 qe0 qfa qe7,AV.ro 9 qe5 qe8 qe9],Blk.box [AV.str qpo,AV.int .u8 qo7,AV.int .i64 qps,AV.int .i64 qp6,AV.bool qq3,AV.bool qp9,AV.flt .f64 qpk,AV.flt .f64 qp1,AV.flt .f64 qqi]],kd := [] }
noncomputable def gbars_may_l0_step (w2 wy : Mo) (fuel : Nat) (kn : Int → Option AV) (kx0 : Bool → Nat → Nat → Ge → Nat → Nat → Ge → ByteArray → Int → Int → Int → Bool → Bool → Option Nat → Option Nat → Option Nat → ByteArray → Int → Int → Int → Bool → Bool → Option Nat → Option Nat → Option Nat → Option AV) (kx1 : Nat → Nat → Ge → Nat → Nat → Ge → ByteArray → Int → Int → Int → Bool → Bool → Option Nat → Option Nat → Option Nat → Option AV) (qdf qdx : Nat) (vw : Ge) (u18 : Int) (ya yb : Nat) (yc : Ge) (qu qx : Nat) (qw : Ge) (zj : ByteArray) (qc9 qc8 qhr : Int) (qhv qht : Bool) (qhu qhz qhs : Option Nat) (u19 : Int) : Option AV :=
  bif decide (u19 < u18) then ck (decide (0 ≤ u19)) <| ck (decide (u19 < (↑qdf : Int))) <| ck (fitKs [LK.s,LK.i .u8,LK.i .i64,LK.i .i64,LK.b,LK.b,LK.f .f64,LK.f .f64,LK.f .f64] [vw u19.toNat 0,vw u19.toNat 1,vw u19.toNat 2,vw u19.toNat 3,vw u19.toNat 4,vw u19.toNat 5,vw u19.toNat 6,vw u19.toNat 7,vw u19.toNat 8]) <| bif strEq (toS (vw u19.toNat 0)) zj then kx0 false ya yb yc qu qx qw zj qc9 qc8 qhr qhv qht qhu qhz qhs (toS (vw u19.toNat 0)) (toI (vw u19.toNat 1)) (toI (vw u19.toNat 2)) (toI (vw u19.toNat 3)) (toB (vw u19.toNat 4)) (toB (vw u19.toNat 5)) (toF (vw u19.toNat 6)) (toF (vw u19.toNat 7)) (toF (vw u19.toNat 8))
    else kn (IntKind.i64.wrap (u19 + 1))
  else kx1 ya yb yc qu qx qw zj qc9 qc8 qhr qhv qht qhu qhz qhs
noncomputable def gbars_may_l0 (w2 wy : Mo) (fuel : Nat) (kx0 : Bool → Nat → Nat → Ge → Nat → Nat → Ge → ByteArray → Int → Int → Int → Bool → Bool → Option Nat → Option Nat → Option Nat → ByteArray → Int → Int → Int → Bool → Bool → Option Nat → Option Nat → Option Nat → Option AV) (kx1 : Nat → Nat → Ge → Nat → Nat → Ge → ByteArray → Int → Int → Int → Bool → Bool → Option Nat → Option Nat → Option Nat → Option AV) (qdf qdx : Nat) (vw : Ge) (u18 : Int) (ya yb : Nat) (yc : Ge) (qu qx : Nat) (qw : Ge) (zj : ByteArray) (qc9 qc8 qhr : Int) (qhv qht : Bool) (qhu qhz qhs : Option Nat) : Nat → Int → Option AV
  | 0,_ => none
  | n' + 1,u19 => gbars_may_l0_step w2 wy fuel (gbars_may_l0 w2 wy fuel kx0 kx1 qdf qdx vw u18 ya yb yc qu qx qw zj qc9 qc8 qhr qhv qht qhu qhz qhs n') kx0 kx1 qdf qdx vw u18 ya yb yc qu qx qw zj qc9 qc8 qhr qhv qht qhu qhz qhs u19
termination_by structural k => k
noncomputable def Tbars_may_0 : TS' := ⟨[(2,TA.ptr 0 0),(5,TA.ptr 1 0),(17,TA.ro 9),(18,TA.i .i64),(19,TA.i .i64)],[TB.box [TA.ro 4,TA.ro 9],TB.box [TA.s,TA.i .u8,TA.i .i64,TA.i .i64,TA.b,TA.b,TA.f .f64,TA.f .f64,TA.f .f64]],[]⟩
noncomputable def Fbars_may_0 (w2 wy : Mo) (fuel : Nat) (ps : List Pay) (K : Ex → St → Option AV) : Option AV := match ps with
  | .n qdf :: .n qdx :: .g vw :: .i u18 :: .i u19 :: .n ya :: .n yb :: .g yc :: .n qu :: .n qx :: .g qw :: .s zj :: .i qc9 :: .i qc8 :: .i qhr :: .b qhv :: .b qht :: .o qhu :: .o qhz :: .o qhs :: [] => gbars_may_l0 w2 wy fuel (fun qho qez qex qe1 qew qe3 qe2 qpy qqr qpf qq2 qqx qqt qp0 qqg qo8 qcm qgj qga qgl qi8 qi6 qji qjb qjk => K (Ex.ret) (Xbars_may_0_0 qho qez qex qe1 qew qe3 qe2 qpy qqr qpf qq2 qqx qqt qp0 qqg qo8 qcm qgj qga qgl qi8 qi6 qji qjb qjk)) (fun qe0 qfa qe7 qe5 qe8 qe9 qpo qo7 qps qp6 qq3 qp9 qpk qp1 qqi => K (Ex.exit 0) (Xbars_may_0_1 qe0 qfa qe7 qe5 qe8 qe9 qpo qo7 qps qp6 qq3 qp9 qpk qp1 qqi)) qdf qdx vw u18 ya yb yc qu qx qw zj qc9 qc8 qhr qhv qht qhu qhz qhs fuel u19
  | _ => none
noncomputable def Lbars_may (w2 wy : Mo) (fuel : Nat) : Lam AV := [(536346768,lam Tbars_may_0 (Fbars_may_0 w2 wy fuel))]
noncomputable def Gbars_may (w2 wy : Mo) : Gam := [(181,smM [RS.one LK.b] w2),(182,smM [RS.one LK.b] wy),(66,Go.Am.sBits)]
theorem gbars_may_l0_eq (w2 wy : Mo) (fuel : Nat) (kn : St → Option AV) (K : Ex → St → Option AV) (qdf qdx : Nat) (vw : Ge) (u18 : Int) (ya yb : Nat) (yc : Ge) (qu qx : Nat) (qw : Ge) (zj : ByteArray) (qc9 qc8 qhr : Int) (qhv qht : Bool) (qhu qhz qhs : Option Nat) (qlt u19 : Int) :
    bX Pr (Gbars_may w2 wy) (Lbars_may w2 wy fuel) 6 117 0 fuel (Sbars_may_0 qdf qdx vw u18 u19 ya yb yc qu qx qw zj qc9 qc8 qhr qhv qht qhu qhz qhs) (fun e s => match e with | .normal => kn (hX Pr 117 0 (Sbars_may_0 qdf qdx vw u18 qlt ya yb yc qu qx qw zj qc9 qc8 qhr qhv qht qhu qhz qhs) s) | e => K e s) =
    gbars_may_l0_step w2 wy fuel (fun u19 => kn (Sbars_may_0 qdf qdx vw u18 u19 ya yb yc qu qx qw zj qc9 qc8 qhr qhv qht qhu qhz qhs)) (fun xu4 pl pn pm zb za w9 v6 qgi xh1_2 xh1_3 xh1_4 xh1_5 xh1_6 xh1_7 xh1_8 qcw xh2_1 xh2_2 xh2_3 xh2_4 xh2_5 xh2_6 xh2_7 xh2_8 => K (Ex.ret) (Xbars_may_0_0 xu4 pl pn pm zb za w9 v6 qgi xh1_2 xh1_3 xh1_4 xh1_5 xh1_6 xh1_7 xh1_8 qcw xh2_1 xh2_2 xh2_3 xh2_4 xh2_5 xh2_6 xh2_7 xh2_8)) (fun pl pn pm zb za w9 v6 qgi xh1_2 xh1_3 xh1_4 xh1_5 xh1_6 xh1_7 xh1_8 => K (Ex.exit 0) (Xbars_may_0_1 pl pn pm zb za w9 v6 qgi xh1_2 xh1_3 xh1_4 xh1_5 xh1_6 xh1_7 xh1_8)) qdf qdx vw u18 ya yb yc qu qx qw zj qc9 qc8 qhr qhv qht qhu qhz qhs u19 := by kernel_rfl
theorem gbars_may_l0_ok (w2 wy : Mo) (fuel : Nat) (K : Ex → St → Option AV) (qdf qdx : Nat) (vw : Ge) (u18 : Int) (ya yb : Nat) (yc : Ge) (qu qx : Nat) (qw : Ge) (zj : ByteArray) (qc9 qc8 qhr : Int) (qhv qht : Bool) (qhu qhz qhs : Option Nat) (qlt : Int) : ∀ (n' : Nat) (u19 : Int),
    loopK (bX Pr (Gbars_may w2 wy) (Lbars_may w2 wy fuel) 6 117 0 fuel) (hX Pr 117 0 (Sbars_may_0 qdf qdx vw u18 qlt ya yb yc qu qx qw zj qc9 qc8 qhr qhv qht qhu qhz qhs)) n' (Sbars_may_0 qdf qdx vw u18 u19 ya yb yc qu qx qw zj qc9 qc8 qhr qhv qht qhu qhz qhs) K = gbars_may_l0 w2 wy fuel (fun xu4 pl pn pm zb za w9 v6 qgi xh1_2 xh1_3 xh1_4 xh1_5 xh1_6 xh1_7 xh1_8 qcw xh2_1 xh2_2 xh2_3 xh2_4 xh2_5 xh2_6 xh2_7 xh2_8 => K (Ex.ret) (Xbars_may_0_0 xu4 pl pn pm zb za w9 v6 qgi xh1_2 xh1_3 xh1_4 xh1_5 xh1_6 xh1_7 xh1_8 qcw xh2_1 xh2_2 xh2_3 xh2_4 xh2_5 xh2_6 xh2_7 xh2_8)) (fun pl pn pm zb za w9 v6 qgi xh1_2 xh1_3 xh1_4 xh1_5 xh1_6 xh1_7 xh1_8 => K (Ex.exit 0) (Xbars_may_0_1 pl pn pm zb za w9 v6 qgi xh1_2 xh1_3 xh1_4 xh1_5 xh1_6 xh1_7 xh1_8)) qdf qdx vw u18 ya yb yc qu qx qw zj qc9 qc8 qhr qhv qht qhu qhz qhs n' u19
  | 0,_ => rfl
  | n' + 1,u19 => (gbars_may_l0_eq w2 wy fuel (fun s => loopK (bX Pr (Gbars_may w2 wy) (Lbars_may w2 wy fuel) 6 117 0 fuel) (hX Pr 117 0 (Sbars_may_0 qdf qdx vw u18 qlt ya yb yc qu qx qw zj qc9 qc8 qhr qhv qht qhu qhz qhs)) n' s K) K qdf qdx vw u18 ya yb yc qu qx qw zj qc9 qc8 qhr qhv qht qhu qhz qhs qlt u19).trans
    (congrArg (fun kn => gbars_may_l0_step w2 wy fuel kn _ _ qdf qdx vw u18 ya yb yc qu qx qw zj qc9 qc8 qhr qhv qht qhu qhz qhs u19) (funext fun u19 => gbars_may_l0_ok w2 wy fuel K qdf qdx vw u18 ya yb yc qu qx qw zj qc9 qc8 qhr qhv qht qhu qhz qhs qlt n' u19))
theorem gbars_may_L0 (w2 wy : Mo) (fuel : Nat) : LX Pr (Gbars_may w2 wy) (Lbars_may w2 wy fuel) 6 117 0 fuel := by
  refine .of Tbars_may_0 (Fbars_may_0 w2 wy fuel) (fun L h => ?_) (fun ps st K r he hr => ?_)
  · have e : (Lbars_may w2 wy fuel).get (writes (lp Pr 117 0).1) = some (lam Tbars_may_0 (Fbars_may_0 w2 wy fuel)) := by kernel_rfl
    exact (Option.some.inj (e.symm.trans h)).symm
  · unfold Fbars_may_0 at hr
    split at hr
    · obtain rfl := (Option.some.inj he).symm
      exact (gbars_may_l0_ok w2 wy fuel K _ _ _ _ _ _ _ _ _ _ _ _ _ _ _ _ _ _ _ _ fuel _).trans hr
    · cases hr
noncomputable def gbars_may (w2 wy : Mo) (fuel p9 qa0 : Nat) (vz : Ge) (qah qar : Nat) (yn : Ge) (at1 : Int) : Option AV :=
  ck (decide (0 ≤ at1)) <| ck (decide (at1 < (↑qah : Int))) <| ck (fitKs [LK.s,LK.i .u8,LK.i .i64,LK.i .i64,LK.b,LK.b,LK.f .f64,LK.f .f64,LK.f .f64] [yn at1.toNat 0,yn at1.toNat 1,yn at1.toNat 2,yn at1.toNat 3,yn at1.toNat 4,yn at1.toNat 5,yn at1.toNat 6,yn at1.toNat 7,yn at1.toNat 8]) <| ck (decide (0 ≤ at1)) <| ck (decide (at1 ≤ (↑qar : Int))) <| gbars_may_l0 w2 wy fuel
    (fun (xu4 : Bool) (_ _ : Nat) (_ : Ge) (_ _ : Nat) (_ : Ge) (_ : ByteArray) (_ _ _ : Int) (_ _ : Bool) (_ _ _ : Option Nat) (_ : ByteArray) (_ _ _ : Int) (_ _ : Bool) (_ _ _ : Option Nat) => some (AV.bool xu4))
    (fun (qcj _ : Nat) (_ : Ge) (_ _ : Nat) (_ : Ge) (vy : ByteArray) (qjx pt qb9 : Int) (ql4 qpx : Bool) (ql5 qsu ql3 : Option Nat) => ck (okM [RS.one LK.b] (w2 [AV.str vy])) <| ck (bif !!toB (getV (w2 [AV.str vy])) then true else true) <| ck (bif !bif !toB (getV (w2 [AV.str vy])) then true else decide (pt < 0) then true else true) <| ck (bif !bif bif !toB (getV (w2 [AV.str vy])) then true else decide (pt < 0) then true else decide (pt ≥ (↑qcj : Int)) then true else true) <| ck (bif !bif bif bif !toB (getV (w2 [AV.str vy])) then true else decide (pt < 0) then true else decide (pt ≥ (↑qcj : Int)) then true else decide (qb9 < 0) then true else true) <| ck (bif !bif bif bif bif !toB (getV (w2 [AV.str vy])) then true else decide (pt < 0) then true else decide (pt ≥ (↑qcj : Int)) then true else decide (qb9 < 0) then true else decide (qb9 ≥ (↑qcj : Int)) then true else true) <| ck (bif !bif bif bif bif !toB (getV (w2 [AV.str vy])) then true else decide (pt < 0) then true else decide (pt ≥ (↑qcj : Int)) then true else decide (qb9 < 0) then true else decide (qb9 ≥ (↑qcj : Int)) then true else true) <| ck (bif !bif bif bif bif bif !toB (getV (w2 [AV.str vy])) then true else decide (pt < 0) then true else decide (pt ≥ (↑qcj : Int)) then true else decide (qb9 < 0) then true else decide (qb9 ≥ (↑qcj : Int)) then true else pt == qb9 then true else true) <| ck (bif !bif bif bif bif bif !toB (getV (w2 [AV.str vy])) then true else decide (pt < 0) then true else decide (pt ≥ (↑qcj : Int)) then true else decide (qb9 < 0) then true else decide (qb9 ≥ (↑qcj : Int)) then true else pt == qb9 then okM [RS.one LK.b] (wy [AV.flt .f64 ql5]) else true) <| ck (bif !bif bif bif bif bif bif !toB (getV (w2 [AV.str vy])) then true else decide (pt < 0) then true else decide (pt ≥ (↑qcj : Int)) then true else decide (qb9 < 0) then true else decide (qb9 ≥ (↑qcj : Int)) then true else pt == qb9 then true else !toB (getV (wy [AV.flt .f64 ql5])) then true else true) <| ck (bif !bif bif bif bif bif bif !toB (getV (w2 [AV.str vy])) then true else decide (pt < 0) then true else decide (pt ≥ (↑qcj : Int)) then true else decide (qb9 < 0) then true else decide (qb9 ≥ (↑qcj : Int)) then true else pt == qb9 then true else !toB (getV (wy [AV.flt .f64 ql5])) then okM [RS.one LK.b] (wy [AV.flt .f64 qsu]) else true) <| bif bif bif bif bif bif bif bif !toB (getV (w2 [AV.str vy])) then true else decide (pt < 0) then true else decide (pt ≥ (↑qcj : Int)) then true else decide (qb9 < 0) then true else decide (qb9 ≥ (↑qcj : Int)) then true else pt == qb9 then true else !toB (getV (wy [AV.flt .f64 ql5])) then true else !toB (getV (wy [AV.flt .f64 qsu])) then some (AV.bool false)
      else bif qjx == 1 then ck (bif !ql4 then true else true) <| ck (bif bif !ql4 then !qpx else false then true else true) <| ck (bif bif !ql4 then !qpx else false then sBits.ok [AV.flt .f64 ql3] else true) <| some (AV.bool (bif bif !ql4 then !qpx else false then (↑(ql3.getD 0) : Int) == 0 else false))
      else bif qjx == 2 then ck (okM [RS.one LK.b] (wy [AV.flt .f64 ql3])) <| some (AV.bool (toB (getV (wy [AV.flt .f64 ql3]))))
      else some (AV.bool false))
    (at1.toNat - 0)
    (qar - 0)
    (fun (i : Nat) => yn (0 + i))
    ((↑(at1.toNat - 0) : Int))
    p9
    qa0
    vz
    qah
    qar
    yn
    (toS (yn at1.toNat 0))
    (toI (yn at1.toNat 1))
    (toI (yn at1.toNat 2))
    (toI (yn at1.toNat 3))
    (toB (yn at1.toNat 4))
    (toB (yn at1.toNat 5))
    (toF (yn at1.toNat 6))
    (toF (yn at1.toNat 7))
    (toF (yn at1.toNat 8)) fuel (0)
noncomputable def mbars_may (w2 wy : Mo) (fuel : Nat) (xs : List AV) : Option AV := match xs with
  | [AV.agg [AV.ro 4 p9 qa0 vz,AV.ro 9 qah qar yn],AV.int .i64 at1] => gbars_may w2 wy fuel p9 qa0 vz qah qar yn at1
  | _ => none
abbrev Rbars_may : List RS := [RS.one LK.b]
theorem gbars_may_sm (w2 wy : Mo) (fuel : Nat) (hΓ : GamOk Pr (Gbars_may w2 wy)) (hP : NamesOk Pr) : SmOk Pr 117 (smM Rbars_may (mbars_may w2 wy fuel)) := smL (L := (Lbars_may w2 wy fuel)) (n := 1) hΓ hP (by kernel_rfl) (fun i hi => match i,hi with
  | 0,_ => gbars_may_L0 w2 wy fuel
  | i + 1,hi => absurd hi (by omega)) fun xs v h => by
  unfold mbars_may at h
  split at h
  · exact Eq.trans (by kernel_rfl) h
  · cases h
noncomputable def Sbars_Check_0 (u25 u26 : Int) (ya yb : Nat) (yc : Ge) (qu qx : Nat) (qw : Ge) : St := { env := [(1,AV.ptr 0 0),(25,AV.int .i64 u25),(26,AV.int .i64 u26)],h := [Blk.box [AV.ro 4 ya yb yc,AV.ro 9 qu qx qw]],kd := [] }
noncomputable def Xbars_Check_0_0 (qb2 qm1 : Int) (qez qex : Nat) (qe1 : Ge) (qew qe3 : Nat) (qe2 : Ge) : St := { env := [(2,AV.int .i64 qb2),(3,AV.int .i64 qm1)],h := [Blk.box [AV.ro 4 qez qex qe1,AV.ro 9 qew qe3 qe2]],kd := [] }
noncomputable def Xbars_Check_0_1 (qe0 qfa : Nat) (qe7 : Ge) (qe5 qe8 : Nat) (qe9 : Ge) : St := { env := [],h := [Blk.box [AV.ro 4 qe0 qfa qe7,AV.ro 9 qe5 qe8 qe9]],kd := [] }
noncomputable def gbars_Check_l0_step (w1 zy : Mo) (fuel : Nat) (kn : Int → Option AV) (kx0 : Int → Int → Nat → Nat → Ge → Nat → Nat → Ge → Option AV) (kx1 : Nat → Nat → Ge → Nat → Nat → Ge → Option AV) (u25 : Int) (ya yb : Nat) (yc : Ge) (qu qx : Nat) (qw : Ge) (u26 : Int) : Option AV :=
  bif decide (u26 < u25) then ck (okM [RS.one LK.b] (zy [AV.agg [AV.ro 4 ya yb yc,AV.ro 9 qu qx qw],AV.int .i64 u26])) <| bif !toB (getV (zy [AV.agg [AV.ro 4 ya yb yc,AV.ro 9 qu qx qw],AV.int .i64 u26])) then kx0 (290) u26 ya yb yc qu qx qw
    else kn (IntKind.i64.wrap (u26 + 1))
  else kx1 ya yb yc qu qx qw
noncomputable def gbars_Check_l0 (w1 zy : Mo) (fuel : Nat) (kx0 : Int → Int → Nat → Nat → Ge → Nat → Nat → Ge → Option AV) (kx1 : Nat → Nat → Ge → Nat → Nat → Ge → Option AV) (u25 : Int) (ya yb : Nat) (yc : Ge) (qu qx : Nat) (qw : Ge) : Nat → Int → Option AV
  | 0,_ => none
  | n' + 1,u26 => gbars_Check_l0_step w1 zy fuel (gbars_Check_l0 w1 zy fuel kx0 kx1 u25 ya yb yc qu qx qw n') kx0 kx1 u25 ya yb yc qu qx qw u26
noncomputable def Tbars_Check_0 : TS' := ⟨[(1,TA.ptr 0 0),(25,TA.i .i64),(26,TA.i .i64)],[TB.box [TA.ro 4,TA.ro 9]],[]⟩
noncomputable def Fbars_Check_0 (w1 zy : Mo) (fuel : Nat) (ps : List Pay) (K : Ex → St → Option AV) : Option AV := match ps with
  | .i u25 :: .i u26 :: .n ya :: .n yb :: .g yc :: .n qu :: .n qx :: .g qw :: [] => gbars_Check_l0 w1 zy fuel (fun qb2 qm1 qez qex qe1 qew qe3 qe2 => K (Ex.ret) (Xbars_Check_0_0 qb2 qm1 qez qex qe1 qew qe3 qe2)) (fun qe0 qfa qe7 qe5 qe8 qe9 => K (Ex.exit 1) (Xbars_Check_0_1 qe0 qfa qe7 qe5 qe8 qe9)) u25 ya yb yc qu qx qw fuel u26
  | _ => none
noncomputable def Lbars_Check (w1 zy : Mo) (fuel : Nat) : Lam AV := [(34292629580,lam Tbars_Check_0 (Fbars_Check_0 w1 zy fuel))]
noncomputable def Gbars_Check (w1 zy : Mo) : Gam := [(116,smM [RS.one (LK.i .i64),RS.one (LK.i .i64)] w1),(117,smM [RS.one LK.b] zy)]
theorem gbars_Check_l0_eq (w1 zy : Mo) (fuel : Nat) (kn : St → Option AV) (K : Ex → St → Option AV) (u25 : Int) (ya yb : Nat) (yc : Ge) (qu qx : Nat) (qw : Ge) (qsz u26 : Int) :
    bX Pr (Gbars_Check w1 zy) (Lbars_Check w1 zy fuel) 6 67 0 fuel (Sbars_Check_0 u25 u26 ya yb yc qu qx qw) (fun e s => match e with | .normal => kn (hX Pr 67 0 (Sbars_Check_0 u25 qsz ya yb yc qu qx qw) s) | e => K e s) =
    gbars_Check_l0_step w1 zy fuel (fun u26 => kn (Sbars_Check_0 u25 u26 ya yb yc qu qx qw)) (fun xu2 xu3 pl pn pm zb za w9 => K (Ex.ret) (Xbars_Check_0_0 xu2 xu3 pl pn pm zb za w9)) (fun pl pn pm zb za w9 => K (Ex.exit 1) (Xbars_Check_0_1 pl pn pm zb za w9)) u25 ya yb yc qu qx qw u26 := by kernel_rfl
theorem gbars_Check_l0_ok (w1 zy : Mo) (fuel : Nat) (K : Ex → St → Option AV) (u25 : Int) (ya yb : Nat) (yc : Ge) (qu qx : Nat) (qw : Ge) (qsz : Int) : ∀ (n' : Nat) (u26 : Int),
    loopK (bX Pr (Gbars_Check w1 zy) (Lbars_Check w1 zy fuel) 6 67 0 fuel) (hX Pr 67 0 (Sbars_Check_0 u25 qsz ya yb yc qu qx qw)) n' (Sbars_Check_0 u25 u26 ya yb yc qu qx qw) K = gbars_Check_l0 w1 zy fuel (fun xu2 xu3 pl pn pm zb za w9 => K (Ex.ret) (Xbars_Check_0_0 xu2 xu3 pl pn pm zb za w9)) (fun pl pn pm zb za w9 => K (Ex.exit 1) (Xbars_Check_0_1 pl pn pm zb za w9)) u25 ya yb yc qu qx qw n' u26
  | 0,_ => rfl
  | n' + 1,u26 => (gbars_Check_l0_eq w1 zy fuel (fun s => loopK (bX Pr (Gbars_Check w1 zy) (Lbars_Check w1 zy fuel) 6 67 0 fuel) (hX Pr 67 0 (Sbars_Check_0 u25 qsz ya yb yc qu qx qw)) n' s K) K u25 ya yb yc qu qx qw qsz u26).trans
    (congrArg (fun kn => gbars_Check_l0_step w1 zy fuel kn _ _ u25 ya yb yc qu qx qw u26) (funext fun u26 => gbars_Check_l0_ok w1 zy fuel K u25 ya yb yc qu qx qw qsz n' u26))
theorem gbars_Check_L0 (w1 zy : Mo) (fuel : Nat) : LX Pr (Gbars_Check w1 zy) (Lbars_Check w1 zy fuel) 6 67 0 fuel := by
  refine .of Tbars_Check_0 (Fbars_Check_0 w1 zy fuel) (fun L h => ?_) (fun ps st K r he hr => ?_)
  · have e : (Lbars_Check w1 zy fuel).get (writes (lp Pr 67 0).1) = some (lam Tbars_Check_0 (Fbars_Check_0 w1 zy fuel)) := by kernel_rfl
    exact (Option.some.inj (e.symm.trans h)).symm
  · unfold Fbars_Check_0 at hr
    split at hr
    · obtain rfl := (Option.some.inj he).symm
      exact (gbars_Check_l0_ok w1 zy fuel K _ _ _ _ _ _ _ _ fuel _).trans hr
    · cases hr
noncomputable def gbars_Check (w1 zy : Mo) (fuel p9 qa0 : Nat) (vz : Ge) (qah qar : Nat) (yn : Ge) : Option AV :=
  let r0 : Option AV := w1 [AV.ro 4 p9 qa0 vz]; ck (okM [RS.one (LK.i .i64),RS.one (LK.i .i64)] r0) <| bif toI ((toT (getV r0)).headD .dead) != 0 then some (AV.tup [AV.int .i64 (toI ((toT (getV r0)).headD .dead)),AV.int .i64 (toI ((toT (getV r0)).tail.headD .dead))])
  else bif decide ((↑qah : Int) > 48) then some (AV.tup [AV.int .i64 3,AV.int .i64 0])
  else gbars_Check_l0 w1 zy fuel
    (fun (xu2 xu3 : Int) (_ _ : Nat) (_ : Ge) (_ _ : Nat) (_ : Ge) => some (AV.tup [AV.int .i64 xu2,AV.int .i64 xu3]))
    (fun (_ _ : Nat) (_ : Ge) (_ _ : Nat) (_ : Ge) => some (AV.tup [AV.int .i64 0,AV.int .i64 0]))
    ((↑qah : Int))
    p9
    qa0
    vz
    qah
    qar
    yn fuel (0)
noncomputable def mbars_Check (w1 zy : Mo) (fuel : Nat) (xs : List AV) : Option AV := match xs with
  | [AV.agg [AV.ro 4 p9 qa0 vz,AV.ro 9 qah qar yn]] => gbars_Check w1 zy fuel p9 qa0 vz qah qar yn
  | _ => none
abbrev Rbars_Check : List RS := [RS.one (LK.i .i64),RS.one (LK.i .i64)]
theorem gbars_Check_sm (w1 zy : Mo) (fuel : Nat) (hΓ : GamOk Pr (Gbars_Check w1 zy)) (hP : NamesOk Pr) : SmOk Pr 67 (smM Rbars_Check (mbars_Check w1 zy fuel)) := smL (L := (Lbars_Check w1 zy fuel)) (n := 1) hΓ hP (by kernel_rfl) (fun i hi => match i,hi with
  | 0,_ => gbars_Check_L0 w1 zy fuel
  | i + 1,hi => absurd hi (by omega)) fun xs v h => by
  unfold mbars_Check at h
  split at h
  · exact Eq.trans (by kernel_rfl) h
  · cases h
noncomputable def Gjoints_Apart (wg : Mo) : Gam := [(180,smM [RS.one LK.b] wg)]
noncomputable def gjoints_Apart (wg : Mo) (fuel : Nat) (vc : ByteArray) (vt qep qjr : Int) (vb : ByteArray) (vp qeu qjo : Int) : Option AV :=
  ck (okM [RS.one LK.b] (wg [AV.ro 1 4 4 fun (i j : Nat) => ([[AV.int .i32 vt],[AV.int .i32 qep],[AV.int .i32 vp],[AV.int .i32 qeu]].getD i []).getD j AV.dead])) <| bif !toB (getV (wg [AV.ro 1 4 4 fun (i j : Nat) => ([[AV.int .i32 vt],[AV.int .i32 qep],[AV.int .i32 vp],[AV.int .i32 qeu]].getD i []).getD j AV.dead])) then some (AV.tup [AV.int .i64 0,AV.int .i64 0,AV.int .i64 0])
  else some (AV.tup [AV.int .i64 (IntKind.i64.wrap (IntKind.i32.wrap (vp - vt))),AV.int .i64 (IntKind.i64.wrap (IntKind.i32.wrap (qeu - qep))),AV.int .i64 (IntKind.i64.wrap (IntKind.i64.wrap (IntKind.i64.wrap (IntKind.i32.wrap (vp - vt)) * IntKind.i64.wrap (IntKind.i32.wrap (vp - vt))) + IntKind.i64.wrap (IntKind.i64.wrap (IntKind.i32.wrap (qeu - qep)) * IntKind.i64.wrap (IntKind.i32.wrap (qeu - qep)))))])
noncomputable def mjoints_Apart (wg : Mo) (fuel : Nat) (xs : List AV) : Option AV := match xs with
  | [AV.agg [AV.str vc,AV.int .i32 vt,AV.int .i32 qep,AV.int .u8 qjr],AV.agg [AV.str vb,AV.int .i32 vp,AV.int .i32 qeu,AV.int .u8 qjo]] => gjoints_Apart wg fuel vc vt qep qjr vb vp qeu qjo
  | _ => none
abbrev Rjoints_Apart : List RS := [RS.one (LK.i .i64),RS.one (LK.i .i64),RS.one (LK.i .i64)]
theorem gjoints_Apart_sm (wg : Mo) (fuel : Nat) (hΓ : GamOk Pr (Gjoints_Apart wg)) (hP : NamesOk Pr) : SmOk Pr 118 (smM Rjoints_Apart (mjoints_Apart wg fuel)) := sm0 (fuel := fuel) (d := 7) hΓ hP fun xs v h => by
  unfold mjoints_Apart at h
  split at h
  · exact Eq.trans (by kernel_rfl) h
  · cases h
noncomputable def Ground_way : Gam := []
noncomputable def ground_way (fuel : Nat) (um0 : Int) : Option AV :=
  bif bif decide (um0 < 0) then true else decide (um0 > 3) then some (AV.int .i8 0)
  else some (AV.int .i8 um0)
noncomputable def mround_way (fuel : Nat) (xs : List AV) : Option AV := match xs with
  | [AV.int .i8 um0] => ground_way fuel um0
  | _ => none
abbrev Rround_way : List RS := [RS.one (LK.i .i8)]
theorem ground_way_sm (fuel : Nat) (hΓ : GamOk Pr Ground_way) (hP : NamesOk Pr) : SmOk Pr 150 (smM Rround_way (mround_way fuel)) := sm0 (fuel := fuel) (d := 7) hΓ hP fun xs v h => by
  unfold mround_way at h
  split at h
  · exact Eq.trans (by kernel_rfl) h
  · cases h
noncomputable def Gmath_Sqrt : Gam := [(249,Go.Am.sSqrt)]
noncomputable def gmath_Sqrt (fuel : Nat) (ux0 : Option Nat) : Option AV :=
  ck (sSqrt.ok [AV.flt .f64 ux0]) <| some (AV.flt .f64 (ux0.bind fun (x : Nat) => FloatKind.f64.format.sqrt x))
noncomputable def mmath_Sqrt (fuel : Nat) (xs : List AV) : Option AV := match xs with
  | [AV.flt .f64 ux0] => gmath_Sqrt fuel ux0
  | _ => none
abbrev Rmath_Sqrt : List RS := [RS.one (LK.f .f64)]
theorem gmath_Sqrt_sm (fuel : Nat) (hΓ : GamOk Pr Gmath_Sqrt) (hP : NamesOk Pr) : SmOk Pr 221 (smM Rmath_Sqrt (mmath_Sqrt fuel)) := sm0 (fuel := fuel) (d := 7) hΓ hP fun xs v h => by
  unfold mmath_Sqrt at h
  split at h
  · exact Eq.trans (by kernel_rfl) h
  · cases h
noncomputable def Gmath_IsNaN : Gam := []
noncomputable def gmath_IsNaN (fuel : Nat) (uf0 : Option Nat) : Option AV :=
  some (AV.bool (ford .f64 uf0 uf0 != some Ordering.eq))
noncomputable def mmath_IsNaN (fuel : Nat) (xs : List AV) : Option AV := match xs with
  | [AV.flt .f64 uf0] => gmath_IsNaN fuel uf0
  | _ => none
abbrev Rmath_IsNaN : List RS := [RS.one LK.b]
theorem gmath_IsNaN_sm (fuel : Nat) (hΓ : GamOk Pr Gmath_IsNaN) (hP : NamesOk Pr) : SmOk Pr 203 (smM Rmath_IsNaN (mmath_IsNaN fuel)) := sm0 (fuel := fuel) (d := 7) hΓ hP fun xs v h => by
  unfold mmath_IsNaN at h
  split at h
  · exact Eq.trans (by kernel_rfl) h
  · cases h
noncomputable def Gmath_Abs : Gam := [(66,Go.Am.sBits),(185,Go.Am.sFrom)]
noncomputable def gmath_Abs (fuel : Nat) (ux0 : Option Nat) : Option AV :=
  ck (sBits.ok [AV.flt .f64 ux0]) <| ck (sFrom.ok [AV.int .u64 (IntKind.u64.wrap (↑(BitVec.ofInt 64 (↑(ux0.getD 0) : Int) &&& ~~~BitVec.ofInt 64 9223372036854775808).toNat : Int))]) <| some (AV.flt .f64 (some (IntKind.u64.wrap (↑(BitVec.ofInt 64 (↑(ux0.getD 0) : Int) &&& ~~~BitVec.ofInt 64 9223372036854775808).toNat : Int)).toNat))
noncomputable def mmath_Abs (fuel : Nat) (xs : List AV) : Option AV := match xs with
  | [AV.flt .f64 ux0] => gmath_Abs fuel ux0
  | _ => none
abbrev Rmath_Abs : List RS := [RS.one (LK.f .f64)]
theorem gmath_Abs_sm (fuel : Nat) (hΓ : GamOk Pr Gmath_Abs) (hP : NamesOk Pr) : SmOk Pr 162 (smM Rmath_Abs (mmath_Abs fuel)) := sm0 (fuel := fuel) (d := 7) hΓ hP fun xs v h => by
  unfold mmath_Abs at h
  split at h
  · exact Eq.trans (by kernel_rfl) h
  · cases h
noncomputable def Gmath_IsInf (wf : Mo) : Gam := [(162,smM [RS.one (LK.f .f64)] wf)]
noncomputable def gmath_IsInf (wf : Mo) (fuel : Nat) (uf0 : Option Nat) (qg6 : Int) : Option AV :=
  bif qg6 == 0 then ck (okM [RS.one (LK.f .f64)] (wf [AV.flt .f64 uf0])) <| some (AV.bool (ford .f64 (toF (getV (wf [AV.flt .f64 uf0]))) (some 9218868437227405311) == some Ordering.gt))
  else bif decide (qg6 < 0) then some (AV.bool (ford .f64 (Option.map (Op.negFloat .f64) uf0) (some 9218868437227405311) == some Ordering.gt))
  else some (AV.bool (ford .f64 uf0 (some 9218868437227405311) == some Ordering.gt))
noncomputable def mmath_IsInf (wf : Mo) (fuel : Nat) (xs : List AV) : Option AV := match xs with
  | [AV.flt .f64 uf0,AV.int .i64 qg6] => gmath_IsInf wf fuel uf0 qg6
  | _ => none
abbrev Rmath_IsInf : List RS := [RS.one LK.b]
theorem gmath_IsInf_sm (wf : Mo) (fuel : Nat) (hΓ : GamOk Pr (Gmath_IsInf wf)) (hP : NamesOk Pr) : SmOk Pr 156 (smM Rmath_IsInf (mmath_IsInf wf fuel)) := sm0 (fuel := fuel) (d := 7) hΓ hP fun xs v h => by
  unfold mmath_IsInf at h
  split at h
  · exact Eq.trans (by kernel_rfl) h
  · cases h
noncomputable def Sround_finite_0 (u5n u5r : Nat) (u5g : Ge) (u6 u7 : Int) : St := { env := [(5,AV.ro 1 u5n u5r u5g),(6,AV.int .i64 u6),(7,AV.int .i64 u7)],h := [],kd := [] }
noncomputable def Xround_finite_0_0 (qb2 : Bool) : St := { env := [(2,AV.bool qb2)],h := [],kd := [] }
noncomputable def Xround_finite_0_1 : St := { env := [],h := [],kd := [] }
noncomputable def ground_finite_l0_step (wm qf : Mo) (fuel : Nat) (kn : Int → Option AV) (kx0 : Bool → Option AV) (kx1 : Option AV) (u5n u5r : Nat) (u5g : Ge) (u6 u7 : Int) : Option AV :=
  bif decide (u7 < u6) then ck (decide (0 ≤ u7)) <| ck (decide (u7 < (↑u5n : Int))) <| ck (fitK (LK.f .f64) (u5g u7.toNat 0)) <| ck (okM [RS.one LK.b] (wm [AV.flt .f64 (toF (u5g u7.toNat 0))])) <| ck (bif !toB (getV (wm [AV.flt .f64 (toF (u5g u7.toNat 0))])) then okM [RS.one LK.b] (qf [AV.flt .f64 (toF (u5g u7.toNat 0)),AV.int .i64 0]) else true) <| bif bif toB (getV (wm [AV.flt .f64 (toF (u5g u7.toNat 0))])) then true else toB (getV (qf [AV.flt .f64 (toF (u5g u7.toNat 0)),AV.int .i64 0])) then kx0 false
    else kn (IntKind.i64.wrap (u7 + 1))
  else kx1
noncomputable def ground_finite_l0 (wm qf : Mo) (fuel : Nat) (kx0 : Bool → Option AV) (kx1 : Option AV) (u5n u5r : Nat) (u5g : Ge) (u6 : Int) : Nat → Int → Option AV
  | 0,_ => none
  | n' + 1,u7 => ground_finite_l0_step wm qf fuel (ground_finite_l0 wm qf fuel kx0 kx1 u5n u5r u5g u6 n') kx0 kx1 u5n u5r u5g u6 u7
noncomputable def Tround_finite_0 : TS' := ⟨[(5,TA.ro 1),(6,TA.i .i64),(7,TA.i .i64)],[],[]⟩
noncomputable def Fround_finite_0 (wm qf : Mo) (fuel : Nat) (ps : List Pay) (K : Ex → St → Option AV) : Option AV := match ps with
  | .n u5n :: .n u5r :: .g u5g :: .i u6 :: .i u7 :: [] => ground_finite_l0 wm qf fuel (fun qb2 => K (Ex.ret) (Xround_finite_0_0 qb2)) (K (Ex.exit 0) Xround_finite_0_1) u5n u5r u5g u6 fuel u7
  | _ => none
noncomputable def Lround_finite (wm qf : Mo) (fuel : Nat) : Lam AV := [(262036,lam Tround_finite_0 (Fround_finite_0 wm qf fuel))]
noncomputable def Ground_finite (wm qf : Mo) : Gam := [(203,smM [RS.one LK.b] wm),(156,smM [RS.one LK.b] qf)]
theorem ground_finite_l0_eq (wm qf : Mo) (fuel : Nat) (kn : St → Option AV) (K : Ex → St → Option AV) (u5n u5r : Nat) (u5g : Ge) (u6 u70 u7 : Int) :
    bX Pr (Ground_finite wm qf) (Lround_finite wm qf fuel) 6 151 0 fuel (Sround_finite_0 u5n u5r u5g u6 u7) (fun e s => match e with | .normal => kn (hX Pr 151 0 (Sround_finite_0 u5n u5r u5g u6 u70) s) | e => K e s) =
    ground_finite_l0_step wm qf fuel (fun u7 => kn (Sround_finite_0 u5n u5r u5g u6 u7)) (fun xu2 => K (Ex.ret) (Xround_finite_0_0 xu2)) (K (Ex.exit 0) Xround_finite_0_1) u5n u5r u5g u6 u7 := by kernel_rfl
theorem ground_finite_l0_ok (wm qf : Mo) (fuel : Nat) (K : Ex → St → Option AV) (u5n u5r : Nat) (u5g : Ge) (u6 u70 : Int) : ∀ (n' : Nat) (u7 : Int),
    loopK (bX Pr (Ground_finite wm qf) (Lround_finite wm qf fuel) 6 151 0 fuel) (hX Pr 151 0 (Sround_finite_0 u5n u5r u5g u6 u70)) n' (Sround_finite_0 u5n u5r u5g u6 u7) K = ground_finite_l0 wm qf fuel (fun xu2 => K (Ex.ret) (Xround_finite_0_0 xu2)) (K (Ex.exit 0) Xround_finite_0_1) u5n u5r u5g u6 n' u7
  | 0,_ => rfl
  | n' + 1,u7 => (ground_finite_l0_eq wm qf fuel (fun s => loopK (bX Pr (Ground_finite wm qf) (Lround_finite wm qf fuel) 6 151 0 fuel) (hX Pr 151 0 (Sround_finite_0 u5n u5r u5g u6 u70)) n' s K) K u5n u5r u5g u6 u70 u7).trans
    (congrArg (fun kn => ground_finite_l0_step wm qf fuel kn _ _ u5n u5r u5g u6 u7) (funext fun u7 => ground_finite_l0_ok wm qf fuel K u5n u5r u5g u6 u70 n' u7))
theorem ground_finite_L0 (wm qf : Mo) (fuel : Nat) : LX Pr (Ground_finite wm qf) (Lround_finite wm qf fuel) 6 151 0 fuel := by
  refine .of Tround_finite_0 (Fround_finite_0 wm qf fuel) (fun L h => ?_) (fun ps st K r he hr => ?_)
  · have e : (Lround_finite wm qf fuel).get (writes (lp Pr 151 0).1) = some (lam Tround_finite_0 (Fround_finite_0 wm qf fuel)) := by kernel_rfl
    exact (Option.some.inj (e.symm.trans h)).symm
  · unfold Fround_finite_0 at hr
    split at hr
    · obtain rfl := (Option.some.inj he).symm
      exact (ground_finite_l0_ok wm qf fuel K _ _ _ _ _ fuel _).trans hr
    · cases hr
noncomputable def ground_finite (wm qf : Mo) (fuel po qbh : Nat) (qat : Ge) : Option AV :=
  ground_finite_l0 wm qf fuel
    (fun (xu2 : Bool) => some (AV.bool xu2))
    (some (AV.bool true))
    po
    qbh
    qat
    ((↑po : Int)) fuel (0)
noncomputable def mround_finite (wm qf : Mo) (fuel : Nat) (xs : List AV) : Option AV := match xs with
  | [AV.ro 1 po qbh qat] => ground_finite wm qf fuel po qbh qat
  | _ => none
abbrev Rround_finite : List RS := [RS.one LK.b]
theorem ground_finite_sm (wm qf : Mo) (fuel : Nat) (hΓ : GamOk Pr (Ground_finite wm qf)) (hP : NamesOk Pr) : SmOk Pr 151 (smM Rround_finite (mround_finite wm qf fuel)) := smL (L := (Lround_finite wm qf fuel)) (n := 1) hΓ hP (by kernel_rfl) (fun i hi => match i,hi with
  | 0,_ => ground_finite_L0 wm qf fuel
  | i + 1,hi => absurd hi (by omega)) fun xs v h => by
  unfold mround_finite at h
  split at h
  · exact Eq.trans (by kernel_rfl) h
  · cases h
noncomputable def Sround_plain_0 (u6n u6r : Nat) (u6g : Ge) (u7 u8 : Int) : St := { env := [(6,AV.ro 1 u6n u6r u6g),(7,AV.int .i64 u7),(8,AV.int .i64 u8)],h := [],kd := [] }
noncomputable def Xround_plain_0_0 (qb2 : Bool) : St := { env := [(2,AV.bool qb2)],h := [],kd := [] }
noncomputable def Xround_plain_0_1 : St := { env := [],h := [],kd := [] }
noncomputable def ground_plain_l0_step (fuel : Nat) (kn : Int → Option AV) (kx0 : Bool → Option AV) (kx1 : Option AV) (u6n u6r : Nat) (u6g : Ge) (u7 u8 : Int) : Option AV :=
  bif decide (u8 < u7) then ck (decide (0 ≤ u8)) <| ck (decide (u8 < (↑u6n : Int))) <| ck (fitK (LK.f .f64) (u6g u8.toNat 0)) <| ck (sBits.ok [AV.flt .f64 (toF (u6g u8.toNat 0))]) <| bif bif decide (IntKind.u64.wrap (↑(BitVec.ofInt 64 ((↑((toF (u6g u8.toNat 0)).getD 0) : Int).fdiv (2 ^ 52)) &&& BitVec.ofInt 64 2047).toNat : Int) < 200) then true else decide (IntKind.u64.wrap (↑(BitVec.ofInt 64 ((↑((toF (u6g u8.toNat 0)).getD 0) : Int).fdiv (2 ^ 52)) &&& BitVec.ofInt 64 2047).toNat : Int) > 1900) then kx0 false
    else kn (IntKind.i64.wrap (u8 + 1))
  else kx1
noncomputable def ground_plain_l0 (fuel : Nat) (kx0 : Bool → Option AV) (kx1 : Option AV) (u6n u6r : Nat) (u6g : Ge) (u7 : Int) : Nat → Int → Option AV
  | 0,_ => none
  | n' + 1,u8 => ground_plain_l0_step fuel (ground_plain_l0 fuel kx0 kx1 u6n u6r u6g u7 n') kx0 kx1 u6n u6r u6g u7 u8
noncomputable def Tround_plain_0 : TS' := ⟨[(6,TA.ro 1),(7,TA.i .i64),(8,TA.i .i64)],[],[]⟩
noncomputable def Fround_plain_0 (fuel : Nat) (ps : List Pay) (K : Ex → St → Option AV) : Option AV := match ps with
  | .n u6n :: .n u6r :: .g u6g :: .i u7 :: .i u8 :: [] => ground_plain_l0 fuel (fun qb2 => K (Ex.ret) (Xround_plain_0_0 qb2)) (K (Ex.exit 0) Xround_plain_0_1) u6n u6r u6g u7 fuel u8
  | _ => none
noncomputable def Lround_plain (fuel : Nat) : Lam AV := [(8388404,lam Tround_plain_0 (Fround_plain_0 fuel))]
noncomputable def Ground_plain : Gam := [(66,Go.Am.sBits)]
theorem ground_plain_l0_eq (fuel : Nat) (kn : St → Option AV) (K : Ex → St → Option AV) (u6n u6r : Nat) (u6g : Ge) (u7 u80 u8 : Int) :
    bX Pr Ground_plain (Lround_plain fuel) 6 152 0 fuel (Sround_plain_0 u6n u6r u6g u7 u8) (fun e s => match e with | .normal => kn (hX Pr 152 0 (Sround_plain_0 u6n u6r u6g u7 u80) s) | e => K e s) =
    ground_plain_l0_step fuel (fun u8 => kn (Sround_plain_0 u6n u6r u6g u7 u8)) (fun xu2 => K (Ex.ret) (Xround_plain_0_0 xu2)) (K (Ex.exit 0) Xround_plain_0_1) u6n u6r u6g u7 u8 := by kernel_rfl
theorem ground_plain_l0_ok (fuel : Nat) (K : Ex → St → Option AV) (u6n u6r : Nat) (u6g : Ge) (u7 u80 : Int) : ∀ (n' : Nat) (u8 : Int),
    loopK (bX Pr Ground_plain (Lround_plain fuel) 6 152 0 fuel) (hX Pr 152 0 (Sround_plain_0 u6n u6r u6g u7 u80)) n' (Sround_plain_0 u6n u6r u6g u7 u8) K = ground_plain_l0 fuel (fun xu2 => K (Ex.ret) (Xround_plain_0_0 xu2)) (K (Ex.exit 0) Xround_plain_0_1) u6n u6r u6g u7 n' u8
  | 0,_ => rfl
  | n' + 1,u8 => (ground_plain_l0_eq fuel (fun s => loopK (bX Pr Ground_plain (Lround_plain fuel) 6 152 0 fuel) (hX Pr 152 0 (Sround_plain_0 u6n u6r u6g u7 u80)) n' s K) K u6n u6r u6g u7 u80 u8).trans
    (congrArg (fun kn => ground_plain_l0_step fuel kn _ _ u6n u6r u6g u7 u8) (funext fun u8 => ground_plain_l0_ok fuel K u6n u6r u6g u7 u80 n' u8))
theorem ground_plain_L0 (fuel : Nat) : LX Pr Ground_plain (Lround_plain fuel) 6 152 0 fuel := by
  refine .of Tround_plain_0 (Fround_plain_0 fuel) (fun L h => ?_) (fun ps st K r he hr => ?_)
  · have e : (Lround_plain fuel).get (writes (lp Pr 152 0).1) = some (lam Tround_plain_0 (Fround_plain_0 fuel)) := by kernel_rfl
    exact (Option.some.inj (e.symm.trans h)).symm
  · unfold Fround_plain_0 at hr
    split at hr
    · obtain rfl := (Option.some.inj he).symm
      exact (ground_plain_l0_ok fuel K _ _ _ _ _ fuel _).trans hr
    · cases hr
noncomputable def ground_plain (fuel po qbh : Nat) (qat : Ge) : Option AV :=
  ground_plain_l0 fuel
    (fun (xu2 : Bool) => some (AV.bool xu2))
    (some (AV.bool true))
    po
    qbh
    qat
    ((↑po : Int)) fuel (0)
noncomputable def mround_plain (fuel : Nat) (xs : List AV) : Option AV := match xs with
  | [AV.ro 1 po qbh qat] => ground_plain fuel po qbh qat
  | _ => none
abbrev Rround_plain : List RS := [RS.one LK.b]
theorem ground_plain_sm (fuel : Nat) (hΓ : GamOk Pr Ground_plain) (hP : NamesOk Pr) : SmOk Pr 152 (smM Rround_plain (mround_plain fuel)) := smL (L := (Lround_plain fuel)) (n := 1) hΓ hP (by kernel_rfl) (fun i hi => match i,hi with
  | 0,_ => ground_plain_L0 fuel
  | i + 1,hi => absurd hi (by omega)) fun xs v h => by
  unfold mround_plain at h
  split at h
  · exact Eq.trans (by kernel_rfl) h
  · cases h
noncomputable def Ground_sign : Gam := []
noncomputable def ground_sign (fuel : Nat) (ux0 : Option Nat) : Option AV :=
  bif ford .f64 ux0 (some 0) == some Ordering.gt then some (AV.int .i64 1)
  else bif ford .f64 ux0 (some 0) == some Ordering.lt then some (AV.int .i64 (-1))
  else some (AV.int .i64 0)
noncomputable def mround_sign (fuel : Nat) (xs : List AV) : Option AV := match xs with
  | [AV.flt .f64 ux0] => ground_sign fuel ux0
  | _ => none
abbrev Rround_sign : List RS := [RS.one (LK.i .i64)]
theorem ground_sign_sm (fuel : Nat) (hΓ : GamOk Pr Ground_sign) (hP : NamesOk Pr) : SmOk Pr 154 (smM Rround_sign (mround_sign fuel)) := sm0 (fuel := fuel) (d := 7) hΓ hP fun xs v h => by
  unfold mround_sign at h
  split at h
  · exact Eq.trans (by kernel_rfl) h
  · cases h
noncomputable def Gmath_Signbit : Gam := [(66,Go.Am.sBits)]
noncomputable def gmath_Signbit (fuel : Nat) (ux0 : Option Nat) : Option AV :=
  ck (sBits.ok [AV.flt .f64 ux0]) <| some (AV.bool (decide (IntKind.i64.wrap (↑(ux0.getD 0) : Int) < 0)))
noncomputable def mmath_Signbit (fuel : Nat) (xs : List AV) : Option AV := match xs with
  | [AV.flt .f64 ux0] => gmath_Signbit fuel ux0
  | _ => none
abbrev Rmath_Signbit : List RS := [RS.one LK.b]
theorem gmath_Signbit_sm (fuel : Nat) (hΓ : GamOk Pr Gmath_Signbit) (hP : NamesOk Pr) : SmOk Pr 160 (smM Rmath_Signbit (mmath_Signbit fuel)) := sm0 (fuel := fuel) (d := 7) hΓ hP fun xs v h => by
  unfold mmath_Signbit at h
  split at h
  · exact Eq.trans (by kernel_rfl) h
  · cases h
noncomputable def Gmath_Copysign : Gam := [(66,Go.Am.sBits),(185,Go.Am.sFrom)]
noncomputable def gmath_Copysign (fuel : Nat) (uf0 qg6 : Option Nat) : Option AV :=
  ck (sBits.ok [AV.flt .f64 uf0]) <| ck (sBits.ok [AV.flt .f64 qg6]) <| ck (sFrom.ok [AV.int .u64 (IntKind.u64.wrap (↑(BitVec.ofInt 64 (IntKind.u64.wrap (↑(BitVec.ofInt 64 (↑(uf0.getD 0) : Int) &&& ~~~BitVec.ofInt 64 9223372036854775808).toNat : Int)) ||| BitVec.ofInt 64 (IntKind.u64.wrap (↑(BitVec.ofInt 64 (↑(qg6.getD 0) : Int) &&& BitVec.ofInt 64 9223372036854775808).toNat : Int))).toNat : Int))]) <| some (AV.flt .f64 (some (IntKind.u64.wrap (↑(BitVec.ofInt 64 (IntKind.u64.wrap (↑(BitVec.ofInt 64 (↑(uf0.getD 0) : Int) &&& ~~~BitVec.ofInt 64 9223372036854775808).toNat : Int)) ||| BitVec.ofInt 64 (IntKind.u64.wrap (↑(BitVec.ofInt 64 (↑(qg6.getD 0) : Int) &&& BitVec.ofInt 64 9223372036854775808).toNat : Int))).toNat : Int)).toNat))
noncomputable def mmath_Copysign (fuel : Nat) (xs : List AV) : Option AV := match xs with
  | [AV.flt .f64 uf0,AV.flt .f64 qg6] => gmath_Copysign fuel uf0 qg6
  | _ => none
abbrev Rmath_Copysign : List RS := [RS.one (LK.f .f64)]
theorem gmath_Copysign_sm (fuel : Nat) (hΓ : GamOk Pr Gmath_Copysign) (hP : NamesOk Pr) : SmOk Pr 204 (smM Rmath_Copysign (mmath_Copysign fuel)) := sm0 (fuel := fuel) (d := 7) hΓ hP fun xs v h => by
  unfold mmath_Copysign at h
  split at h
  · exact Eq.trans (by kernel_rfl) h
  · cases h
noncomputable def Ground_step : Gam := [(66,Go.Am.sBits),(185,Go.Am.sFrom)]
noncomputable def ground_step (fuel : Nat) (ux0 : Option Nat) (up1 : Bool) : Option AV :=
  ck (sBits.ok [AV.flt .f64 ux0]) <| bif ford .f64 ux0 (some 0) == some Ordering.eq then bif !up1 then ck (sFrom.ok [AV.int .u64 (IntKind.u64.wrap (↑9223372036854775809 : Int))]) <| some (AV.flt .f64 (some 9223372036854775809))
    else ck (sFrom.ok [AV.int .u64 1]) <| some (AV.flt .f64 (some 1))
  else bif up1 == (ford .f64 ux0 (some 0) == some Ordering.gt) then ck (sFrom.ok [AV.int .u64 (IntKind.u64.wrap ((↑(ux0.getD 0) : Int) + 1))]) <| some (AV.flt .f64 (some (IntKind.u64.wrap ((↑(ux0.getD 0) : Int) + 1)).toNat))
  else ck (sFrom.ok [AV.int .u64 (IntKind.u64.wrap ((↑(ux0.getD 0) : Int) - 1))]) <| some (AV.flt .f64 (some (IntKind.u64.wrap ((↑(ux0.getD 0) : Int) - 1)).toNat))
noncomputable def mround_step (fuel : Nat) (xs : List AV) : Option AV := match xs with
  | [AV.flt .f64 ux0,AV.bool up1] => ground_step fuel ux0 up1
  | _ => none
abbrev Rround_step : List RS := [RS.one (LK.f .f64)]
theorem ground_step_sm (fuel : Nat) (hΓ : GamOk Pr Ground_step) (hP : NamesOk Pr) : SmOk Pr 205 (smM Rround_step (mround_step fuel)) := sm0 (fuel := fuel) (d := 7) hΓ hP fun xs v h => by
  unfold mround_step at h
  split at h
  · exact Eq.trans (by kernel_rfl) h
  · cases h
noncomputable def Ground_settle (wk qf : Mo) (w4 v8 : Mo) : Gam := [(160,smM [RS.one LK.b] wk),(156,smM [RS.one LK.b] qf),(204,smM [RS.one (LK.f .f64)] w4),(205,smM [RS.one (LK.f .f64)] v8)]
noncomputable def ground_settle (wk qf : Mo) (w4 v8 : Mo) (fuel : Nat) (qbb : Option Nat) (qjv um2 : Int) : Option AV :=
  bif um2 == 3 then ck (okM [RS.one LK.b] (wk [AV.flt .f64 qbb])) <| bif toB (getV (wk [AV.flt .f64 qbb])) then ck (okM [RS.one LK.b] (qf [AV.flt .f64 qbb,AV.int .i64 0])) <| bif toB (getV (qf [AV.flt .f64 qbb,AV.int .i64 0])) then bif bif bif ford .f64 qbb (some 0) == some Ordering.gt then false else false then true else bif ford .f64 qbb (some 0) == some Ordering.lt then true else false then ck (okM [RS.one (LK.f .f64)] (w4 [AV.flt .f64 (some 9218868437227405311),AV.flt .f64 qbb])) <| some (AV.flt .f64 (toF (getV (w4 [AV.flt .f64 (some 9218868437227405311),AV.flt .f64 qbb]))))
        else some (AV.flt .f64 qbb)
      else bif bif bif decide (qjv < 0) then false else false then true else bif decide (qjv > 0) then true else false then ck (okM [RS.one (LK.f .f64)] (v8 [AV.flt .f64 qbb,AV.bool (decide (qjv > 0))])) <| some (AV.flt .f64 (toF (getV (v8 [AV.flt .f64 qbb,AV.bool (decide (qjv > 0))]))))
      else some (AV.flt .f64 qbb)
    else ck (okM [RS.one LK.b] (qf [AV.flt .f64 qbb,AV.int .i64 0])) <| bif toB (getV (qf [AV.flt .f64 qbb,AV.int .i64 0])) then bif bif bif ford .f64 qbb (some 0) == some Ordering.gt then true else false then true else bif ford .f64 qbb (some 0) == some Ordering.lt then false else false then ck (okM [RS.one (LK.f .f64)] (w4 [AV.flt .f64 (some 9218868437227405311),AV.flt .f64 qbb])) <| some (AV.flt .f64 (toF (getV (w4 [AV.flt .f64 (some 9218868437227405311),AV.flt .f64 qbb]))))
      else some (AV.flt .f64 qbb)
    else bif bif bif decide (qjv < 0) then true else false then true else bif decide (qjv > 0) then false else false then ck (okM [RS.one (LK.f .f64)] (v8 [AV.flt .f64 qbb,AV.bool (decide (qjv > 0))])) <| some (AV.flt .f64 (toF (getV (v8 [AV.flt .f64 qbb,AV.bool (decide (qjv > 0))]))))
    else some (AV.flt .f64 qbb)
  else ck (okM [RS.one LK.b] (qf [AV.flt .f64 qbb,AV.int .i64 0])) <| bif toB (getV (qf [AV.flt .f64 qbb,AV.int .i64 0])) then bif bif bif ford .f64 qbb (some 0) == some Ordering.gt then um2 == 1 else false then true else bif ford .f64 qbb (some 0) == some Ordering.lt then um2 == 2 else false then ck (okM [RS.one (LK.f .f64)] (w4 [AV.flt .f64 (some 9218868437227405311),AV.flt .f64 qbb])) <| some (AV.flt .f64 (toF (getV (w4 [AV.flt .f64 (some 9218868437227405311),AV.flt .f64 qbb]))))
    else some (AV.flt .f64 qbb)
  else bif bif bif decide (qjv < 0) then um2 == 1 else false then true else bif decide (qjv > 0) then um2 == 2 else false then ck (okM [RS.one (LK.f .f64)] (v8 [AV.flt .f64 qbb,AV.bool (decide (qjv > 0))])) <| some (AV.flt .f64 (toF (getV (v8 [AV.flt .f64 qbb,AV.bool (decide (qjv > 0))]))))
  else some (AV.flt .f64 qbb)
noncomputable def mround_settle (wk qf : Mo) (w4 v8 : Mo) (fuel : Nat) (xs : List AV) : Option AV := match xs with
  | [AV.flt .f64 qbb,AV.int .i64 qjv,AV.int .i8 um2] => ground_settle wk qf w4 v8 fuel qbb qjv um2
  | _ => none
abbrev Rround_settle : List RS := [RS.one (LK.f .f64)]
theorem ground_settle_sm (wk qf : Mo) (w4 v8 : Mo) (fuel : Nat) (hΓ : GamOk Pr (Ground_settle wk qf w4 v8)) (hP : NamesOk Pr) : SmOk Pr 153 (smM Rround_settle (mround_settle wk qf w4 v8 fuel)) := sm0 (fuel := fuel) (d := 7) hΓ hP fun xs v h => by
  unfold mround_settle at h
  split at h
  · exact Eq.trans (by kernel_rfl) h
  · cases h
noncomputable def Ground_Sqrt (wb vn : Mo) (q2 wv : Mo) (q7 qv : Mo) (zk wz w8 : Mo) : Gam := [(150,smM [RS.one (LK.i .i8)] wb),(221,smM [RS.one (LK.f .f64)] vn),(151,smM [RS.one LK.b] q2),(152,smM [RS.one LK.b] wv),(154,smM [RS.one (LK.i .i64)] q7),(153,smM [RS.one (LK.f .f64)] qv),(159,smM [RS.agg [LK.b,LK.l (nat_lit 1),LK.i .i64]] zk),(158,smM [RS.agg [LK.b,LK.l (nat_lit 1),LK.i .i64]] wz),(157,smM [RS.one (LK.i .i64)] w8),(155,Go.Am.sFma)]
noncomputable def ground_Sqrt (wb vn : Mo) (q2 wv : Mo) (q7 qv : Mo) (zk wz w8 : Mo) (fuel : Nat) (ua0 : Option Nat) (um1 : Int) : Option AV :=
  ck (okM [RS.one (LK.i .i8)] (wb [AV.int .i8 um1])) <| ck (okM [RS.one (LK.f .f64)] (vn [AV.flt .f64 ua0])) <| ck (okM [RS.one LK.b] (q2 [AV.ro 1 1 1 fun (i j : Nat) => ([[AV.flt .f64 ua0]].getD i []).getD j AV.dead])) <| bif bif !toB (getV (q2 [AV.ro 1 1 1 fun (i j : Nat) => ([[AV.flt .f64 ua0]].getD i []).getD j AV.dead])) then true else ford .f64 ua0 (some 0) == some Ordering.lt || ford .f64 ua0 (some 0) == some Ordering.eq then some (AV.flt .f64 (toF (getV (vn [AV.flt .f64 ua0]))))
  else ck (okM [RS.one LK.b] (wv [AV.ro 1 1 1 fun (i j : Nat) => ([[AV.flt .f64 ua0]].getD i []).getD j AV.dead])) <| bif toB (getV (wv [AV.ro 1 1 1 fun (i j : Nat) => ([[AV.flt .f64 ua0]].getD i []).getD j AV.dead])) then ck (sFma.ok [AV.flt .f64 (Option.map (Op.negFloat .f64) (toF (getV (vn [AV.flt .f64 ua0])))),AV.flt .f64 (toF (getV (vn [AV.flt .f64 ua0]))),AV.flt .f64 ua0]) <| ck (okM [RS.one (LK.i .i64)] (q7 [AV.flt .f64 ((Option.map (Op.negFloat .f64) (toF (getV (vn [AV.flt .f64 ua0])))).bind fun (x : Nat) => (toF (getV (vn [AV.flt .f64 ua0]))).bind fun (y : Nat) => ua0.bind fun (z : Nat) => FloatKind.f64.format.fma x y z)])) <| ck (okM [RS.one (LK.f .f64)] (qv [AV.flt .f64 (toF (getV (vn [AV.flt .f64 ua0]))),AV.int .i64 (toI (getV (q7 [AV.flt .f64 ((Option.map (Op.negFloat .f64) (toF (getV (vn [AV.flt .f64 ua0])))).bind fun (x : Nat) => (toF (getV (vn [AV.flt .f64 ua0]))).bind fun (y : Nat) => ua0.bind fun (z : Nat) => FloatKind.f64.format.fma x y z)]))),AV.int .i8 (toI (getV (wb [AV.int .i8 um1])))])) <| some (AV.flt .f64 (toF (getV (qv [AV.flt .f64 (toF (getV (vn [AV.flt .f64 ua0]))),AV.int .i64 (toI (getV (q7 [AV.flt .f64 ((Option.map (Op.negFloat .f64) (toF (getV (vn [AV.flt .f64 ua0])))).bind fun (x : Nat) => (toF (getV (vn [AV.flt .f64 ua0]))).bind fun (y : Nat) => ua0.bind fun (z : Nat) => FloatKind.f64.format.fma x y z)]))),AV.int .i8 (toI (getV (wb [AV.int .i8 um1])))]))))
  else let r0 : Option AV := zk [AV.flt .f64 ua0]; ck (okM [RS.agg [LK.b,LK.l 1,LK.i .i64]] r0) <| let r1 : Option AV := zk [AV.flt .f64 (toF (getV (vn [AV.flt .f64 ua0])))]; ck (okM [RS.agg [LK.b,LK.l 1,LK.i .i64]] r1) <| let r2 : Option AV := zk [AV.flt .f64 (toF (getV (vn [AV.flt .f64 ua0])))]; ck (okM [RS.agg [LK.b,LK.l 1,LK.i .i64]] r2) <| let r3 : Option AV := wz [AV.agg [AV.bool (toB ((toC (getV r1)).headD .dead)),AV.ro 1 (toN ((toC (getV r1)).tail.headD .dead)) (toR ((toC (getV r1)).tail.headD .dead)) (toG ((toC (getV r1)).tail.headD .dead)),AV.int .i64 (toI ((toC (getV r1)).tail.tail.headD .dead))],AV.agg [AV.bool (toB ((toC (getV r2)).headD .dead)),AV.ro 1 (toN ((toC (getV r2)).tail.headD .dead)) (toR ((toC (getV r2)).tail.headD .dead)) (toG ((toC (getV r2)).tail.headD .dead)),AV.int .i64 (toI ((toC (getV r2)).tail.tail.headD .dead))]]; ck (okM [RS.agg [LK.b,LK.l 1,LK.i .i64]] r3) <| ck (okM [RS.one (LK.i .i64)] (w8 [AV.agg [AV.bool (toB ((toC (getV r0)).headD .dead)),AV.ro 1 (toN ((toC (getV r0)).tail.headD .dead)) (toR ((toC (getV r0)).tail.headD .dead)) (toG ((toC (getV r0)).tail.headD .dead)),AV.int .i64 (toI ((toC (getV r0)).tail.tail.headD .dead))],AV.agg [AV.bool (toB ((toC (getV r3)).headD .dead)),AV.ro 1 (toN ((toC (getV r3)).tail.headD .dead)) (toR ((toC (getV r3)).tail.headD .dead)) (toG ((toC (getV r3)).tail.headD .dead)),AV.int .i64 (toI ((toC (getV r3)).tail.tail.headD .dead))]])) <| ck (okM [RS.one (LK.f .f64)] (qv [AV.flt .f64 (toF (getV (vn [AV.flt .f64 ua0]))),AV.int .i64 (toI (getV (w8 [AV.agg [AV.bool (toB ((toC (getV r0)).headD .dead)),AV.ro 1 (toN ((toC (getV r0)).tail.headD .dead)) (toR ((toC (getV r0)).tail.headD .dead)) (toG ((toC (getV r0)).tail.headD .dead)),AV.int .i64 (toI ((toC (getV r0)).tail.tail.headD .dead))],AV.agg [AV.bool (toB ((toC (getV r3)).headD .dead)),AV.ro 1 (toN ((toC (getV r3)).tail.headD .dead)) (toR ((toC (getV r3)).tail.headD .dead)) (toG ((toC (getV r3)).tail.headD .dead)),AV.int .i64 (toI ((toC (getV r3)).tail.tail.headD .dead))]]))),AV.int .i8 (toI (getV (wb [AV.int .i8 um1])))])) <| some (AV.flt .f64 (toF (getV (qv [AV.flt .f64 (toF (getV (vn [AV.flt .f64 ua0]))),AV.int .i64 (toI (getV (w8 [AV.agg [AV.bool (toB ((toC (getV r0)).headD .dead)),AV.ro 1 (toN ((toC (getV r0)).tail.headD .dead)) (toR ((toC (getV r0)).tail.headD .dead)) (toG ((toC (getV r0)).tail.headD .dead)),AV.int .i64 (toI ((toC (getV r0)).tail.tail.headD .dead))],AV.agg [AV.bool (toB ((toC (getV r3)).headD .dead)),AV.ro 1 (toN ((toC (getV r3)).tail.headD .dead)) (toR ((toC (getV r3)).tail.headD .dead)) (toG ((toC (getV r3)).tail.headD .dead)),AV.int .i64 (toI ((toC (getV r3)).tail.tail.headD .dead))]]))),AV.int .i8 (toI (getV (wb [AV.int .i8 um1])))]))))
noncomputable def mround_Sqrt (wb vn : Mo) (q2 wv : Mo) (q7 qv : Mo) (zk wz w8 : Mo) (fuel : Nat) (xs : List AV) : Option AV := match xs with
  | [AV.flt .f64 ua0,AV.int .i8 um1] => ground_Sqrt wb vn q2 wv q7 qv zk wz w8 fuel ua0 um1
  | _ => none
abbrev Rround_Sqrt : List RS := [RS.one (LK.f .f64)]
theorem ground_Sqrt_sm (wb vn : Mo) (q2 wv : Mo) (q7 qv : Mo) (zk wz w8 : Mo) (fuel : Nat) (hΓ : GamOk Pr (Ground_Sqrt wb vn q2 wv q7 qv zk wz w8)) (hP : NamesOk Pr) : SmOk Pr 183 (smM Rround_Sqrt (mround_Sqrt wb vn q2 wv q7 qv zk wz w8 fuel)) := sm0 (fuel := fuel) (d := 7) hΓ hP fun xs v h => by
  unfold mround_Sqrt at h
  split at h
  · exact Eq.trans (by kernel_rfl) h
  · cases h
noncomputable def Gjoints_Length (zo v7 : Mo) : Gam := [(118,smM [RS.one (LK.i .i64),RS.one (LK.i .i64),RS.one (LK.i .i64)] zo),(183,smM [RS.one (LK.f .f64)] v7)]
noncomputable def gjoints_Length (zo v7 : Mo) (fuel : Nat) (vc : ByteArray) (vt qep qjr : Int) (vb : ByteArray) (vp qeu qjo : Int) : Option AV :=
  let r0 : Option AV := zo [AV.agg [AV.str vc,AV.int .i32 vt,AV.int .i32 qep,AV.int .u8 qjr],AV.agg [AV.str vb,AV.int .i32 vp,AV.int .i32 qeu,AV.int .u8 qjo]]; ck (okM [RS.one (LK.i .i64),RS.one (LK.i .i64),RS.one (LK.i .i64)] r0) <| ck (okM [RS.one (LK.f .f64)] (v7 [AV.flt .f64 (some (FloatKind.f64.nearest (toI ((toT (getV r0)).tail.tail.headD .dead)))),AV.int .i8 1])) <| ck (okM [RS.one (LK.f .f64)] (v7 [AV.flt .f64 (some (FloatKind.f64.nearest (toI ((toT (getV r0)).tail.tail.headD .dead)))),AV.int .i8 2])) <| ck (okM [RS.one (LK.f .f64)] (v7 [AV.flt .f64 (some (FloatKind.f64.nearest (toI ((toT (getV r0)).tail.tail.headD .dead)))),AV.int .i8 0])) <| some (AV.tup [AV.agg [AV.flt .f64 (toF (getV (v7 [AV.flt .f64 (some (FloatKind.f64.nearest (toI ((toT (getV r0)).tail.tail.headD .dead)))),AV.int .i8 1]))),AV.flt .f64 (toF (getV (v7 [AV.flt .f64 (some (FloatKind.f64.nearest (toI ((toT (getV r0)).tail.tail.headD .dead)))),AV.int .i8 2])))],AV.flt .f64 (toF (getV (v7 [AV.flt .f64 (some (FloatKind.f64.nearest (toI ((toT (getV r0)).tail.tail.headD .dead)))),AV.int .i8 0])))])
noncomputable def mjoints_Length (zo v7 : Mo) (fuel : Nat) (xs : List AV) : Option AV := match xs with
  | [AV.agg [AV.str vc,AV.int .i32 vt,AV.int .i32 qep,AV.int .u8 qjr],AV.agg [AV.str vb,AV.int .i32 vp,AV.int .i32 qeu,AV.int .u8 qjo]] => gjoints_Length zo v7 fuel vc vt qep qjr vb vp qeu qjo
  | _ => none
abbrev Rjoints_Length : List RS := [RS.agg [LK.f .f64,LK.f .f64],RS.one (LK.f .f64)]
theorem gjoints_Length_sm (zo v7 : Mo) (fuel : Nat) (hΓ : GamOk Pr (Gjoints_Length zo v7)) (hP : NamesOk Pr) : SmOk Pr 119 (smM Rjoints_Length (mjoints_Length zo v7 fuel)) := sm0 (fuel := fuel) (d := 7) hΓ hP fun xs v h => by
  unfold mjoints_Length at h
  split at h
  · exact Eq.trans (by kernel_rfl) h
  · cases h
noncomputable def Gbars_one : Gam := []
noncomputable def gbars_one (fuel : Nat) (ux0 : Option Nat) : Option AV :=
  some (AV.agg [AV.flt .f64 ux0,AV.flt .f64 ux0])
noncomputable def mbars_one (fuel : Nat) (xs : List AV) : Option AV := match xs with
  | [AV.flt .f64 ux0] => gbars_one fuel ux0
  | _ => none
abbrev Rbars_one : List RS := [RS.agg [LK.f .f64,LK.f .f64]]
theorem gbars_one_sm (fuel : Nat) (hΓ : GamOk Pr Gbars_one) (hP : NamesOk Pr) : SmOk Pr 122 (smM Rbars_one (mbars_one fuel)) := sm0 (fuel := fuel) (d := 7) hΓ hP fun xs v h => by
  unfold mbars_one at h
  split at h
  · exact Eq.trans (by kernel_rfl) h
  · cases h
noncomputable def Gmath_Inf : Gam := [(185,Go.Am.sFrom)]
noncomputable def gmath_Inf (fuel : Nat) (qoz : Int) : Option AV :=
  bif decide (qoz ≥ 0) then ck (sFrom.ok [AV.int .u64 9218868437227405312]) <| some (AV.flt .f64 (some 9218868437227405312))
  else ck (sFrom.ok [AV.int .u64 18442240474082181120]) <| some (AV.flt .f64 (some 18442240474082181120))
noncomputable def mmath_Inf (fuel : Nat) (xs : List AV) : Option AV := match xs with
  | [AV.int .i64 qoz] => gmath_Inf fuel qoz
  | _ => none
abbrev Rmath_Inf : List RS := [RS.one (LK.f .f64)]
theorem gmath_Inf_sm (fuel : Nat) (hΓ : GamOk Pr Gmath_Inf) (hP : NamesOk Pr) : SmOk Pr 126 (smM Rmath_Inf (mmath_Inf fuel)) := sm0 (fuel := fuel) (d := 7) hΓ hP fun xs v h => by
  unfold mmath_Inf at h
  split at h
  · exact Eq.trans (by kernel_rfl) h
  · cases h
noncomputable def Gspan_Right (y4 : Mo) : Gam := [(126,smM [RS.one (LK.f .f64)] y4)]
noncomputable def gspan_Right (y4 : Mo) (fuel : Nat) (qgq pk : Option Nat) : Option AV :=
  ck (bif ford .f64 qgq pk == some Ordering.lt || ford .f64 qgq pk == some Ordering.eq then true else true) <| ck (bif ford .f64 qgq pk == some Ordering.lt || ford .f64 qgq pk == some Ordering.eq then okM [RS.one (LK.f .f64)] (y4 [AV.int .i64 1]) else true) <| ck (bif bif ford .f64 qgq pk == some Ordering.lt || ford .f64 qgq pk == some Ordering.eq then ford .f64 qgq (toF (getV (y4 [AV.int .i64 1]))) == some Ordering.lt else false then true else true) <| ck (bif bif ford .f64 qgq pk == some Ordering.lt || ford .f64 qgq pk == some Ordering.eq then ford .f64 qgq (toF (getV (y4 [AV.int .i64 1]))) == some Ordering.lt else false then okM [RS.one (LK.f .f64)] (y4 [AV.int .i64 (-1)]) else true) <| some (AV.bool (bif bif ford .f64 qgq pk == some Ordering.lt || ford .f64 qgq pk == some Ordering.eq then ford .f64 qgq (toF (getV (y4 [AV.int .i64 1]))) == some Ordering.lt else false then ford .f64 pk (toF (getV (y4 [AV.int .i64 (-1)]))) == some Ordering.gt else false))
noncomputable def mspan_Right (y4 : Mo) (fuel : Nat) (xs : List AV) : Option AV := match xs with
  | [AV.agg [AV.flt .f64 qgq,AV.flt .f64 pk]] => gspan_Right y4 fuel qgq pk
  | _ => none
abbrev Rspan_Right : List RS := [RS.one LK.b]
theorem gspan_Right_sm (y4 : Mo) (fuel : Nat) (hΓ : GamOk Pr (Gspan_Right y4)) (hP : NamesOk Pr) : SmOk Pr 70 (smM Rspan_Right (mspan_Right y4 fuel)) := sm0 (fuel := fuel) (d := 7) hΓ hP fun xs v h => by
  unfold mspan_Right at h
  split at h
  · exact Eq.trans (by kernel_rfl) h
  · cases h
noncomputable def Sspan_right_0 (u5n u5r : Nat) (u5g : Ge) (u6 u7 : Int) : St := { env := [(5,AV.ro 2 u5n u5r u5g),(6,AV.int .i64 u6),(7,AV.int .i64 u7)],h := [],kd := [] }
noncomputable def Xspan_right_0_0 (qb2 : Bool) (vm qi7 : Option Nat) : St := { env := [(2,AV.bool qb2)],h := [Blk.box [AV.flt .f64 vm,AV.flt .f64 qi7]],kd := [] }
noncomputable def Xspan_right_0_1 : St := { env := [],h := [],kd := [] }
noncomputable def gspan_right_l0_step (zf : Mo) (fuel : Nat) (kn : Int → Option AV) (kx0 : Bool → Option Nat → Option Nat → Option AV) (kx1 : Option AV) (u5n u5r : Nat) (u5g : Ge) (u6 u7 : Int) : Option AV :=
  bif decide (u7 < u6) then ck (decide (0 ≤ u7)) <| ck (decide (u7 < (↑u5n : Int))) <| ck (fitKs [LK.f .f64,LK.f .f64] [u5g u7.toNat 0,u5g u7.toNat 1]) <| ck (okM [RS.one LK.b] (zf [AV.agg [AV.flt .f64 (toF (u5g u7.toNat 0)),AV.flt .f64 (toF (u5g u7.toNat 1))]])) <| bif !toB (getV (zf [AV.agg [AV.flt .f64 (toF (u5g u7.toNat 0)),AV.flt .f64 (toF (u5g u7.toNat 1))]])) then kx0 false (toF (u5g u7.toNat 0)) (toF (u5g u7.toNat 1))
    else kn (IntKind.i64.wrap (u7 + 1))
  else kx1
noncomputable def gspan_right_l0 (zf : Mo) (fuel : Nat) (kx0 : Bool → Option Nat → Option Nat → Option AV) (kx1 : Option AV) (u5n u5r : Nat) (u5g : Ge) (u6 : Int) : Nat → Int → Option AV
  | 0,_ => none
  | n' + 1,u7 => gspan_right_l0_step zf fuel (gspan_right_l0 zf fuel kx0 kx1 u5n u5r u5g u6 n') kx0 kx1 u5n u5r u5g u6 u7
noncomputable def Tspan_right_0 : TS' := ⟨[(5,TA.ro 2),(6,TA.i .i64),(7,TA.i .i64)],[],[]⟩
noncomputable def Fspan_right_0 (zf : Mo) (fuel : Nat) (ps : List Pay) (K : Ex → St → Option AV) : Option AV := match ps with
  | .n u5n :: .n u5r :: .g u5g :: .i u6 :: .i u7 :: [] => gspan_right_l0 zf fuel (fun qb2 vm qi7 => K (Ex.ret) (Xspan_right_0_0 qb2 vm qi7)) (K (Ex.exit 0) Xspan_right_0_1) u5n u5r u5g u6 fuel u7
  | _ => none
noncomputable def Lspan_right (zf : Mo) (fuel : Nat) : Lam AV := [(32660,lam Tspan_right_0 (Fspan_right_0 zf fuel))]
noncomputable def Gspan_right (zf : Mo) : Gam := [(70,smM [RS.one LK.b] zf)]
theorem gspan_right_l0_eq (zf : Mo) (fuel : Nat) (kn : St → Option AV) (K : Ex → St → Option AV) (u5n u5r : Nat) (u5g : Ge) (u6 u70 u7 : Int) :
    bX Pr (Gspan_right zf) (Lspan_right zf fuel) 6 91 0 fuel (Sspan_right_0 u5n u5r u5g u6 u7) (fun e s => match e with | .normal => kn (hX Pr 91 0 (Sspan_right_0 u5n u5r u5g u6 u70) s) | e => K e s) =
    gspan_right_l0_step zf fuel (fun u7 => kn (Sspan_right_0 u5n u5r u5g u6 u7)) (fun xu2 z9 xh0_1 => K (Ex.ret) (Xspan_right_0_0 xu2 z9 xh0_1)) (K (Ex.exit 0) Xspan_right_0_1) u5n u5r u5g u6 u7 := by kernel_rfl
theorem gspan_right_l0_ok (zf : Mo) (fuel : Nat) (K : Ex → St → Option AV) (u5n u5r : Nat) (u5g : Ge) (u6 u70 : Int) : ∀ (n' : Nat) (u7 : Int),
    loopK (bX Pr (Gspan_right zf) (Lspan_right zf fuel) 6 91 0 fuel) (hX Pr 91 0 (Sspan_right_0 u5n u5r u5g u6 u70)) n' (Sspan_right_0 u5n u5r u5g u6 u7) K = gspan_right_l0 zf fuel (fun xu2 z9 xh0_1 => K (Ex.ret) (Xspan_right_0_0 xu2 z9 xh0_1)) (K (Ex.exit 0) Xspan_right_0_1) u5n u5r u5g u6 n' u7
  | 0,_ => rfl
  | n' + 1,u7 => (gspan_right_l0_eq zf fuel (fun s => loopK (bX Pr (Gspan_right zf) (Lspan_right zf fuel) 6 91 0 fuel) (hX Pr 91 0 (Sspan_right_0 u5n u5r u5g u6 u70)) n' s K) K u5n u5r u5g u6 u70 u7).trans
    (congrArg (fun kn => gspan_right_l0_step zf fuel kn _ _ u5n u5r u5g u6 u7) (funext fun u7 => gspan_right_l0_ok zf fuel K u5n u5r u5g u6 u70 n' u7))
theorem gspan_right_L0 (zf : Mo) (fuel : Nat) : LX Pr (Gspan_right zf) (Lspan_right zf fuel) 6 91 0 fuel := by
  refine .of Tspan_right_0 (Fspan_right_0 zf fuel) (fun L h => ?_) (fun ps st K r he hr => ?_)
  · have e : (Lspan_right zf fuel).get (writes (lp Pr 91 0).1) = some (lam Tspan_right_0 (Fspan_right_0 zf fuel)) := by kernel_rfl
    exact (Option.some.inj (e.symm.trans h)).symm
  · unfold Fspan_right_0 at hr
    split at hr
    · obtain rfl := (Option.some.inj he).symm
      exact (gspan_right_l0_ok zf fuel K _ _ _ _ _ fuel _).trans hr
    · cases hr
noncomputable def gspan_right (zf : Mo) (fuel po qbh : Nat) (qat : Ge) : Option AV :=
  gspan_right_l0 zf fuel
    (fun (xu2 : Bool) (_ _ : Option Nat) => some (AV.bool xu2))
    (some (AV.bool true))
    po
    qbh
    qat
    ((↑po : Int)) fuel (0)
noncomputable def mspan_right (zf : Mo) (fuel : Nat) (xs : List AV) : Option AV := match xs with
  | [AV.ro 2 po qbh qat] => gspan_right zf fuel po qbh qat
  | _ => none
abbrev Rspan_right : List RS := [RS.one LK.b]
theorem gspan_right_sm (zf : Mo) (fuel : Nat) (hΓ : GamOk Pr (Gspan_right zf)) (hP : NamesOk Pr) : SmOk Pr 91 (smM Rspan_right (mspan_right zf fuel)) := smL (L := (Lspan_right zf fuel)) (n := 1) hΓ hP (by kernel_rfl) (fun i hi => match i,hi with
  | 0,_ => gspan_right_L0 zf fuel
  | i + 1,hi => absurd hi (by omega)) fun xs v h => by
  unfold mspan_right at h
  split at h
  · exact Eq.trans (by kernel_rfl) h
  · cases h
noncomputable def Gbits_Place (wf : Mo) : Gam := [(162,smM [RS.one (LK.f .f64)] wf),(66,Go.Am.sBits)]
noncomputable def gbits_Place (wf : Mo) (fuel : Nat) (ux0 : Option Nat) : Option AV :=
  bif ford .f64 ux0 ux0 != some Ordering.eq then some (AV.tup [AV.int .i64 0,AV.bool false])
  else ck (okM [RS.one (LK.f .f64)] (wf [AV.flt .f64 ux0])) <| ck (sBits.ok [AV.flt .f64 (toF (getV (wf [AV.flt .f64 ux0])))]) <| bif ford .f64 ux0 (some 0) == some Ordering.lt then some (AV.tup [AV.int .i64 (IntKind.i64.wrap (0 - IntKind.i64.wrap (↑((toF (getV (wf [AV.flt .f64 ux0]))).getD 0) : Int))),AV.bool true])
  else some (AV.tup [AV.int .i64 (IntKind.i64.wrap (↑((toF (getV (wf [AV.flt .f64 ux0]))).getD 0) : Int)),AV.bool true])
noncomputable def mbits_Place (wf : Mo) (fuel : Nat) (xs : List AV) : Option AV := match xs with
  | [AV.flt .f64 ux0] => gbits_Place wf fuel ux0
  | _ => none
abbrev Rbits_Place : List RS := [RS.one (LK.i .i64),RS.one LK.b]
theorem gbits_Place_sm (wf : Mo) (fuel : Nat) (hΓ : GamOk Pr (Gbits_Place wf)) (hP : NamesOk Pr) : SmOk Pr 252 (smM Rbits_Place (mbits_Place wf fuel)) := sm0 (fuel := fuel) (d := 7) hΓ hP fun xs v h => by
  unfold mbits_Place at h
  split at h
  · exact Eq.trans (by kernel_rfl) h
  · cases h
noncomputable def Gbits_rank (y2 wk : Mo) : Gam := [(252,smM [RS.one (LK.i .i64),RS.one LK.b] y2),(160,smM [RS.one LK.b] wk)]
noncomputable def gbits_rank (y2 wk : Mo) (fuel : Nat) (ux0 : Option Nat) : Option AV :=
  let r0 : Option AV := y2 [AV.flt .f64 ux0]; ck (okM [RS.one (LK.i .i64),RS.one LK.b] r0) <| bif !toB ((toT (getV r0)).tail.headD .dead) then some (AV.tup [AV.int .i64 9223372036854775807,AV.int .i64 0])
  else ck (bif toI ((toT (getV r0)).headD .dead) == 0 then okM [RS.one LK.b] (wk [AV.flt .f64 ux0]) else true) <| bif bif toI ((toT (getV r0)).headD .dead) == 0 then !toB (getV (wk [AV.flt .f64 ux0])) else false then some (AV.tup [AV.int .i64 0,AV.int .i64 1])
  else some (AV.tup [AV.int .i64 (toI ((toT (getV r0)).headD .dead)),AV.int .i64 0])
noncomputable def mbits_rank (y2 wk : Mo) (fuel : Nat) (xs : List AV) : Option AV := match xs with
  | [AV.flt .f64 ux0] => gbits_rank y2 wk fuel ux0
  | _ => none
abbrev Rbits_rank : List RS := [RS.one (LK.i .i64),RS.one (LK.i .i64)]
theorem gbits_rank_sm (y2 wk : Mo) (fuel : Nat) (hΓ : GamOk Pr (Gbits_rank y2 wk)) (hP : NamesOk Pr) : SmOk Pr 233 (smM Rbits_rank (mbits_rank y2 wk fuel)) := sm0 (fuel := fuel) (d := 7) hΓ hP fun xs v h => by
  unfold mbits_rank at h
  split at h
  · exact Eq.trans (by kernel_rfl) h
  · cases h
noncomputable def Gcmp_isNaN_int64 : Gam := []
noncomputable def gcmp_isNaN_int64 (fuel : Nat) (ux0 : Int) : Option AV :=
  some (AV.bool (ux0 != ux0))
noncomputable def mcmp_isNaN_int64 (fuel : Nat) (xs : List AV) : Option AV := match xs with
  | [AV.int .i64 ux0] => gcmp_isNaN_int64 fuel ux0
  | _ => none
abbrev Rcmp_isNaN_int64 : List RS := [RS.one LK.b]
theorem gcmp_isNaN_int64_sm (fuel : Nat) (hΓ : GamOk Pr Gcmp_isNaN_int64) (hP : NamesOk Pr) : SmOk Pr 253 (smM Rcmp_isNaN_int64 (mcmp_isNaN_int64 fuel)) := sm0 (fuel := fuel) (d := 7) hΓ hP fun xs v h => by
  unfold mcmp_isNaN_int64 at h
  split at h
  · exact Eq.trans (by kernel_rfl) h
  · cases h
noncomputable def Gcmp_Compare_int64 (z6 : Mo) : Gam := [(253,smM [RS.one LK.b] z6)]
noncomputable def gcmp_Compare_int64 (z6 : Mo) (fuel : Nat) (ux0 uy1 : Int) : Option AV :=
  ck (okM [RS.one LK.b] (z6 [AV.int .i64 ux0])) <| ck (okM [RS.one LK.b] (z6 [AV.int .i64 uy1])) <| bif toB (getV (z6 [AV.int .i64 ux0])) then bif toB (getV (z6 [AV.int .i64 uy1])) then some (AV.int .i64 0)
    else some (AV.int .i64 (-1))
  else bif toB (getV (z6 [AV.int .i64 uy1])) then some (AV.int .i64 1)
  else bif decide (ux0 < uy1) then some (AV.int .i64 (-1))
  else bif decide (ux0 > uy1) then some (AV.int .i64 1)
  else some (AV.int .i64 0)
noncomputable def mcmp_Compare_int64 (z6 : Mo) (fuel : Nat) (xs : List AV) : Option AV := match xs with
  | [AV.int .i64 ux0,AV.int .i64 uy1] => gcmp_Compare_int64 z6 fuel ux0 uy1
  | _ => none
abbrev Rcmp_Compare_int64 : List RS := [RS.one (LK.i .i64)]
theorem gcmp_Compare_int64_sm (z6 : Mo) (fuel : Nat) (hΓ : GamOk Pr (Gcmp_Compare_int64 z6)) (hP : NamesOk Pr) : SmOk Pr 235 (smM Rcmp_Compare_int64 (mcmp_Compare_int64 z6 fuel)) := sm0 (fuel := fuel) (d := 7) hΓ hP fun xs v h => by
  unfold mcmp_Compare_int64 at h
  split at h
  · exact Eq.trans (by kernel_rfl) h
  · cases h
noncomputable def Gcmp_isNaN_int : Gam := []
noncomputable def gcmp_isNaN_int (fuel : Nat) (ux0 : Int) : Option AV :=
  some (AV.bool (ux0 != ux0))
noncomputable def mcmp_isNaN_int (fuel : Nat) (xs : List AV) : Option AV := match xs with
  | [AV.int .i64 ux0] => gcmp_isNaN_int fuel ux0
  | _ => none
abbrev Rcmp_isNaN_int : List RS := [RS.one LK.b]
theorem gcmp_isNaN_int_sm (fuel : Nat) (hΓ : GamOk Pr Gcmp_isNaN_int) (hP : NamesOk Pr) : SmOk Pr 254 (smM Rcmp_isNaN_int (mcmp_isNaN_int fuel)) := sm0 (fuel := fuel) (d := 7) hΓ hP fun xs v h => by
  unfold mcmp_isNaN_int at h
  split at h
  · exact Eq.trans (by kernel_rfl) h
  · cases h
noncomputable def Gcmp_Compare_int (vj : Mo) : Gam := [(254,smM [RS.one LK.b] vj)]
noncomputable def gcmp_Compare_int (vj : Mo) (fuel : Nat) (ux0 uy1 : Int) : Option AV :=
  ck (okM [RS.one LK.b] (vj [AV.int .i64 ux0])) <| ck (okM [RS.one LK.b] (vj [AV.int .i64 uy1])) <| bif toB (getV (vj [AV.int .i64 ux0])) then bif toB (getV (vj [AV.int .i64 uy1])) then some (AV.int .i64 0)
    else some (AV.int .i64 (-1))
  else bif toB (getV (vj [AV.int .i64 uy1])) then some (AV.int .i64 1)
  else bif decide (ux0 < uy1) then some (AV.int .i64 (-1))
  else bif decide (ux0 > uy1) then some (AV.int .i64 1)
  else some (AV.int .i64 0)
noncomputable def mcmp_Compare_int (vj : Mo) (fuel : Nat) (xs : List AV) : Option AV := match xs with
  | [AV.int .i64 ux0,AV.int .i64 uy1] => gcmp_Compare_int vj fuel ux0 uy1
  | _ => none
abbrev Rcmp_Compare_int : List RS := [RS.one (LK.i .i64)]
theorem gcmp_Compare_int_sm (vj : Mo) (fuel : Nat) (hΓ : GamOk Pr (Gcmp_Compare_int vj)) (hP : NamesOk Pr) : SmOk Pr 236 (smM Rcmp_Compare_int (mcmp_Compare_int vj fuel)) := sm0 (fuel := fuel) (d := 7) hΓ hP fun xs v h => by
  unfold mcmp_Compare_int at h
  split at h
  · exact Eq.trans (by kernel_rfl) h
  · cases h
noncomputable def Scmp_Or_int_0 (qfm : Int) (u6n u6r : Nat) (u6g : Ge) (u7 u8 : Int) : St := { env := [(3,AV.int .i64 qfm),(6,AV.ro 1 u6n u6r u6g),(7,AV.int .i64 u7),(8,AV.int .i64 u8)],h := [],kd := [] }
noncomputable def Xcmp_Or_int_0_0 (qb2 : Int) : St := { env := [(2,AV.int .i64 qb2)],h := [],kd := [] }
noncomputable def Xcmp_Or_int_0_1 (qnt : Int) : St := { env := [(3,AV.int .i64 qnt)],h := [],kd := [] }
noncomputable def gcmp_Or_int_l0_step (fuel : Nat) (kn kx0 kx1 : Int → Option AV) (qfm : Int) (u6n u6r : Nat) (u6g : Ge) (u7 u8 : Int) : Option AV :=
  bif decide (u8 < u7) then ck (decide (0 ≤ u8)) <| ck (decide (u8 < (↑u6n : Int))) <| ck (fitK (LK.i .i64) (u6g u8.toNat 0)) <| bif toI (u6g u8.toNat 0) != qfm then kx0 (toI (u6g u8.toNat 0))
    else kn (IntKind.i64.wrap (u8 + 1))
  else kx1 qfm
noncomputable def gcmp_Or_int_l0 (fuel : Nat) (kx0 kx1 : Int → Option AV) (qfm : Int) (u6n u6r : Nat) (u6g : Ge) (u7 : Int) : Nat → Int → Option AV
  | 0,_ => none
  | n' + 1,u8 => gcmp_Or_int_l0_step fuel (gcmp_Or_int_l0 fuel kx0 kx1 qfm u6n u6r u6g u7 n') kx0 kx1 qfm u6n u6r u6g u7 u8
noncomputable def Tcmp_Or_int_0 : TS' := ⟨[(3,TA.i .i64),(6,TA.ro 1),(7,TA.i .i64),(8,TA.i .i64)],[],[]⟩
noncomputable def Fcmp_Or_int_0 (fuel : Nat) (ps : List Pay) (K : Ex → St → Option AV) : Option AV := match ps with
  | .i qfm :: .n u6n :: .n u6r :: .g u6g :: .i u7 :: .i u8 :: [] => gcmp_Or_int_l0 fuel (fun qb2 => K (Ex.ret) (Xcmp_Or_int_0_0 qb2)) (fun qnt => K (Ex.exit 0) (Xcmp_Or_int_0_1 qnt)) qfm u6n u6r u6g u7 fuel u8
  | _ => none
noncomputable def Lcmp_Or_int (fuel : Nat) : Lam AV := [(130852,lam Tcmp_Or_int_0 (Fcmp_Or_int_0 fuel))]
noncomputable def Gcmp_Or_int : Gam := []
theorem gcmp_Or_int_l0_eq (fuel : Nat) (kn : St → Option AV) (K : Ex → St → Option AV) (qfm : Int) (u6n u6r : Nat) (u6g : Ge) (u7 u80 u8 : Int) :
    bX Pr Gcmp_Or_int (Lcmp_Or_int fuel) 6 234 0 fuel (Scmp_Or_int_0 qfm u6n u6r u6g u7 u8) (fun e s => match e with | .normal => kn (hX Pr 234 0 (Scmp_Or_int_0 qfm u6n u6r u6g u7 u80) s) | e => K e s) =
    gcmp_Or_int_l0_step fuel (fun u8 => kn (Scmp_Or_int_0 qfm u6n u6r u6g u7 u8)) (fun xu2 => K (Ex.ret) (Xcmp_Or_int_0_0 xu2)) (fun qka => K (Ex.exit 0) (Xcmp_Or_int_0_1 qka)) qfm u6n u6r u6g u7 u8 := by kernel_rfl
theorem gcmp_Or_int_l0_ok (fuel : Nat) (K : Ex → St → Option AV) (qfm : Int) (u6n u6r : Nat) (u6g : Ge) (u7 u80 : Int) : ∀ (n' : Nat) (u8 : Int),
    loopK (bX Pr Gcmp_Or_int (Lcmp_Or_int fuel) 6 234 0 fuel) (hX Pr 234 0 (Scmp_Or_int_0 qfm u6n u6r u6g u7 u80)) n' (Scmp_Or_int_0 qfm u6n u6r u6g u7 u8) K = gcmp_Or_int_l0 fuel (fun xu2 => K (Ex.ret) (Xcmp_Or_int_0_0 xu2)) (fun qka => K (Ex.exit 0) (Xcmp_Or_int_0_1 qka)) qfm u6n u6r u6g u7 n' u8
  | 0,_ => rfl
  | n' + 1,u8 => (gcmp_Or_int_l0_eq fuel (fun s => loopK (bX Pr Gcmp_Or_int (Lcmp_Or_int fuel) 6 234 0 fuel) (hX Pr 234 0 (Scmp_Or_int_0 qfm u6n u6r u6g u7 u80)) n' s K) K qfm u6n u6r u6g u7 u80 u8).trans
    (congrArg (fun kn => gcmp_Or_int_l0_step fuel kn _ _ qfm u6n u6r u6g u7 u8) (funext fun u8 => gcmp_Or_int_l0_ok fuel K qfm u6n u6r u6g u7 u80 n' u8))
theorem gcmp_Or_int_L0 (fuel : Nat) : LX Pr Gcmp_Or_int (Lcmp_Or_int fuel) 6 234 0 fuel := by
  refine .of Tcmp_Or_int_0 (Fcmp_Or_int_0 fuel) (fun L h => ?_) (fun ps st K r he hr => ?_)
  · have e : (Lcmp_Or_int fuel).get (writes (lp Pr 234 0).1) = some (lam Tcmp_Or_int_0 (Fcmp_Or_int_0 fuel)) := by kernel_rfl
    exact (Option.some.inj (e.symm.trans h)).symm
  · unfold Fcmp_Or_int_0 at hr
    split at hr
    · obtain rfl := (Option.some.inj he).symm
      exact (gcmp_Or_int_l0_ok fuel K _ _ _ _ _ _ fuel _).trans hr
    · cases hr
noncomputable def gcmp_Or_int (fuel qkc qln : Nat) (qk1 : Ge) : Option AV :=
  gcmp_Or_int_l0 fuel
    (fun (xu2 : Int) => some (AV.int .i64 xu2))
    (fun (qka : Int) => some (AV.int .i64 qka))
    (0)
    qkc
    qln
    qk1
    ((↑qkc : Int)) fuel (0)
noncomputable def mcmp_Or_int (fuel : Nat) (xs : List AV) : Option AV := match xs with
  | [AV.ro 1 qkc qln qk1] => gcmp_Or_int fuel qkc qln qk1
  | _ => none
abbrev Rcmp_Or_int : List RS := [RS.one (LK.i .i64)]
theorem gcmp_Or_int_sm (fuel : Nat) (hΓ : GamOk Pr Gcmp_Or_int) (hP : NamesOk Pr) : SmOk Pr 234 (smM Rcmp_Or_int (mcmp_Or_int fuel)) := smL (L := (Lcmp_Or_int fuel)) (n := 1) hΓ hP (by kernel_rfl) (fun i hi => match i,hi with
  | 0,_ => gcmp_Or_int_L0 fuel
  | i + 1,hi => absurd hi (by omega)) fun xs v h => by
  unfold mcmp_Or_int at h
  split at h
  · exact Eq.trans (by kernel_rfl) h
  · cases h
end Go.Proofs.Tryz
end
section
namespace Go.Proofs.Tryz
open Go Go.Am
set_option linter.unusedVariables false
set_option maxRecDepth 1000000
noncomputable def Gbits_Order (pa z2 : Mo) (vd yt : Mo) : Gam := [(233,smM [RS.one (LK.i .i64),RS.one (LK.i .i64)] pa),(235,smM [RS.one (LK.i .i64)] z2),(236,smM [RS.one (LK.i .i64)] vd),(234,smM [RS.one (LK.i .i64)] yt)]
noncomputable def gbits_Order (pa z2 : Mo) (vd yt : Mo) (fuel : Nat) (ua0 ub1 : Option Nat) : Option AV :=
  let r0 : Option AV := pa [AV.flt .f64 ua0]; ck (okM [RS.one (LK.i .i64),RS.one (LK.i .i64)] r0) <| let r1 : Option AV := pa [AV.flt .f64 ub1]; ck (okM [RS.one (LK.i .i64),RS.one (LK.i .i64)] r1) <| ck (okM [RS.one (LK.i .i64)] (z2 [AV.int .i64 (toI ((toT (getV r0)).headD .dead)),AV.int .i64 (toI ((toT (getV r1)).headD .dead))])) <| ck (okM [RS.one (LK.i .i64)] (vd [AV.int .i64 (toI ((toT (getV r0)).tail.headD .dead)),AV.int .i64 (toI ((toT (getV r1)).tail.headD .dead))])) <| ck (okM [RS.one (LK.i .i64)] (yt [AV.ro 1 2 2 fun (i j : Nat) => ([[AV.int .i64 (toI (getV (z2 [AV.int .i64 (toI ((toT (getV r0)).headD .dead)),AV.int .i64 (toI ((toT (getV r1)).headD .dead))])))],[AV.int .i64 (toI (getV (vd [AV.int .i64 (toI ((toT (getV r0)).tail.headD .dead)),AV.int .i64 (toI ((toT (getV r1)).tail.headD .dead))])))]].getD i []).getD j AV.dead])) <| some (AV.int .i64 (toI (getV (yt [AV.ro 1 2 2 fun (i j : Nat) => ([[AV.int .i64 (toI (getV (z2 [AV.int .i64 (toI ((toT (getV r0)).headD .dead)),AV.int .i64 (toI ((toT (getV r1)).headD .dead))])))],[AV.int .i64 (toI (getV (vd [AV.int .i64 (toI ((toT (getV r0)).tail.headD .dead)),AV.int .i64 (toI ((toT (getV r1)).tail.headD .dead))])))]].getD i []).getD j AV.dead]))))
noncomputable def mbits_Order (pa z2 : Mo) (vd yt : Mo) (fuel : Nat) (xs : List AV) : Option AV := match xs with
  | [AV.flt .f64 ua0,AV.flt .f64 ub1] => gbits_Order pa z2 vd yt fuel ua0 ub1
  | _ => none
abbrev Rbits_Order : List RS := [RS.one (LK.i .i64)]
theorem gbits_Order_sm (pa z2 : Mo) (vd yt : Mo) (fuel : Nat) (hΓ : GamOk Pr (Gbits_Order pa z2 vd yt)) (hP : NamesOk Pr) : SmOk Pr 202 (smM Rbits_Order (mbits_Order pa z2 vd yt fuel)) := sm0 (fuel := fuel) (d := 7) hΓ hP fun xs v h => by
  unfold mbits_Order at h
  split at h
  · exact Eq.trans (by kernel_rfl) h
  · cases h
noncomputable def Gspan_lesser (zv : Mo) : Gam := [(202,smM [RS.one (LK.i .i64)] zv)]
noncomputable def gspan_lesser (zv : Mo) (fuel : Nat) (ua0 ub1 : Option Nat) : Option AV :=
  ck (okM [RS.one (LK.i .i64)] (zv [AV.flt .f64 ub1,AV.flt .f64 ua0])) <| bif decide (toI (getV (zv [AV.flt .f64 ub1,AV.flt .f64 ua0])) < 0) then some (AV.flt .f64 ub1)
  else some (AV.flt .f64 ua0)
noncomputable def mspan_lesser (zv : Mo) (fuel : Nat) (xs : List AV) : Option AV := match xs with
  | [AV.flt .f64 ua0,AV.flt .f64 ub1] => gspan_lesser zv fuel ua0 ub1
  | _ => none
abbrev Rspan_lesser : List RS := [RS.one (LK.f .f64)]
theorem gspan_lesser_sm (zv : Mo) (fuel : Nat) (hΓ : GamOk Pr (Gspan_lesser zv)) (hP : NamesOk Pr) : SmOk Pr 148 (smM Rspan_lesser (mspan_lesser zv fuel)) := sm0 (fuel := fuel) (d := 7) hΓ hP fun xs v h => by
  unfold mspan_lesser at h
  split at h
  · exact Eq.trans (by kernel_rfl) h
  · cases h
noncomputable def Gspan_greater (zv : Mo) : Gam := [(202,smM [RS.one (LK.i .i64)] zv)]
noncomputable def gspan_greater (zv : Mo) (fuel : Nat) (ua0 ub1 : Option Nat) : Option AV :=
  ck (okM [RS.one (LK.i .i64)] (zv [AV.flt .f64 ub1,AV.flt .f64 ua0])) <| bif decide (toI (getV (zv [AV.flt .f64 ub1,AV.flt .f64 ua0])) > 0) then some (AV.flt .f64 ub1)
  else some (AV.flt .f64 ua0)
noncomputable def mspan_greater (zv : Mo) (fuel : Nat) (xs : List AV) : Option AV := match xs with
  | [AV.flt .f64 ua0,AV.flt .f64 ub1] => gspan_greater zv fuel ua0 ub1
  | _ => none
abbrev Rspan_greater : List RS := [RS.one (LK.f .f64)]
theorem gspan_greater_sm (zv : Mo) (fuel : Nat) (hΓ : GamOk Pr (Gspan_greater zv)) (hP : NamesOk Pr) : SmOk Pr 149 (smM Rspan_greater (mspan_greater zv fuel)) := sm0 (fuel := fuel) (d := 7) hΓ hP fun xs v h => by
  unfold mspan_greater at h
  split at h
  · exact Eq.trans (by kernel_rfl) h
  · cases h
noncomputable def Ground_Mul (wb q2 : Mo) (wv q7 : Mo) (qv qf : Mo) (zk wz w8 : Mo) : Gam := [(150,smM [RS.one (LK.i .i8)] wb),(151,smM [RS.one LK.b] q2),(152,smM [RS.one LK.b] wv),(154,smM [RS.one (LK.i .i64)] q7),(153,smM [RS.one (LK.f .f64)] qv),(156,smM [RS.one LK.b] qf),(159,smM [RS.agg [LK.b,LK.l (nat_lit 1),LK.i .i64]] zk),(158,smM [RS.agg [LK.b,LK.l (nat_lit 1),LK.i .i64]] wz),(157,smM [RS.one (LK.i .i64)] w8),(155,Go.Am.sFma)]
noncomputable def ground_Mul (wb q2 : Mo) (wv q7 : Mo) (qv qf : Mo) (zk wz w8 : Mo) (fuel : Nat) (ua0 ub1 : Option Nat) (um2 : Int) : Option AV :=
  ck (okM [RS.one (LK.i .i8)] (wb [AV.int .i8 um2])) <| ck (okM [RS.one LK.b] (q2 [AV.ro 1 2 2 fun (i j : Nat) => ([[AV.flt .f64 ua0],[AV.flt .f64 ub1]].getD i []).getD j AV.dead])) <| bif bif bif !toB (getV (q2 [AV.ro 1 2 2 fun (i j : Nat) => ([[AV.flt .f64 ua0],[AV.flt .f64 ub1]].getD i []).getD j AV.dead])) then true else ford .f64 ua0 (some 0) == some Ordering.eq then true else ford .f64 ub1 (some 0) == some Ordering.eq then some (AV.flt .f64 (farith BinOp.mul .f64 ua0 ub1))
  else ck (okM [RS.one LK.b] (wv [AV.ro 1 3 3 fun (i j : Nat) => ([[AV.flt .f64 ua0],[AV.flt .f64 ub1],[AV.flt .f64 (farith BinOp.mul .f64 ua0 ub1)]].getD i []).getD j AV.dead])) <| bif toB (getV (wv [AV.ro 1 3 3 fun (i j : Nat) => ([[AV.flt .f64 ua0],[AV.flt .f64 ub1],[AV.flt .f64 (farith BinOp.mul .f64 ua0 ub1)]].getD i []).getD j AV.dead])) then ck (sFma.ok [AV.flt .f64 ua0,AV.flt .f64 ub1,AV.flt .f64 (Option.map (Op.negFloat .f64) (farith BinOp.mul .f64 ua0 ub1))]) <| ck (okM [RS.one (LK.i .i64)] (q7 [AV.flt .f64 (ua0.bind fun (x : Nat) => ub1.bind fun (y : Nat) => (Option.map (Op.negFloat .f64) (farith BinOp.mul .f64 ua0 ub1)).bind fun (z : Nat) => FloatKind.f64.format.fma x y z)])) <| ck (okM [RS.one (LK.f .f64)] (qv [AV.flt .f64 (farith BinOp.mul .f64 ua0 ub1),AV.int .i64 (toI (getV (q7 [AV.flt .f64 (ua0.bind fun (x : Nat) => ub1.bind fun (y : Nat) => (Option.map (Op.negFloat .f64) (farith BinOp.mul .f64 ua0 ub1)).bind fun (z : Nat) => FloatKind.f64.format.fma x y z)]))),AV.int .i8 (toI (getV (wb [AV.int .i8 um2])))])) <| some (AV.flt .f64 (toF (getV (qv [AV.flt .f64 (farith BinOp.mul .f64 ua0 ub1),AV.int .i64 (toI (getV (q7 [AV.flt .f64 (ua0.bind fun (x : Nat) => ub1.bind fun (y : Nat) => (Option.map (Op.negFloat .f64) (farith BinOp.mul .f64 ua0 ub1)).bind fun (z : Nat) => FloatKind.f64.format.fma x y z)]))),AV.int .i8 (toI (getV (wb [AV.int .i8 um2])))]))))
  else ck (okM [RS.one LK.b] (qf [AV.flt .f64 (farith BinOp.mul .f64 ua0 ub1),AV.int .i64 0])) <| bif toB (getV (qf [AV.flt .f64 (farith BinOp.mul .f64 ua0 ub1),AV.int .i64 0])) then ck (okM [RS.one (LK.f .f64)] (qv [AV.flt .f64 (farith BinOp.mul .f64 ua0 ub1),AV.int .i64 0,AV.int .i8 (toI (getV (wb [AV.int .i8 um2])))])) <| some (AV.flt .f64 (toF (getV (qv [AV.flt .f64 (farith BinOp.mul .f64 ua0 ub1),AV.int .i64 0,AV.int .i8 (toI (getV (wb [AV.int .i8 um2])))]))))
  else let r0 : Option AV := zk [AV.flt .f64 ua0]; ck (okM [RS.agg [LK.b,LK.l 1,LK.i .i64]] r0) <| let r1 : Option AV := zk [AV.flt .f64 ub1]; ck (okM [RS.agg [LK.b,LK.l 1,LK.i .i64]] r1) <| let r2 : Option AV := wz [AV.agg [AV.bool (toB ((toC (getV r0)).headD .dead)),AV.ro 1 (toN ((toC (getV r0)).tail.headD .dead)) (toR ((toC (getV r0)).tail.headD .dead)) (toG ((toC (getV r0)).tail.headD .dead)),AV.int .i64 (toI ((toC (getV r0)).tail.tail.headD .dead))],AV.agg [AV.bool (toB ((toC (getV r1)).headD .dead)),AV.ro 1 (toN ((toC (getV r1)).tail.headD .dead)) (toR ((toC (getV r1)).tail.headD .dead)) (toG ((toC (getV r1)).tail.headD .dead)),AV.int .i64 (toI ((toC (getV r1)).tail.tail.headD .dead))]]; ck (okM [RS.agg [LK.b,LK.l 1,LK.i .i64]] r2) <| let r3 : Option AV := zk [AV.flt .f64 (farith BinOp.mul .f64 ua0 ub1)]; ck (okM [RS.agg [LK.b,LK.l 1,LK.i .i64]] r3) <| ck (okM [RS.one (LK.i .i64)] (w8 [AV.agg [AV.bool (toB ((toC (getV r2)).headD .dead)),AV.ro 1 (toN ((toC (getV r2)).tail.headD .dead)) (toR ((toC (getV r2)).tail.headD .dead)) (toG ((toC (getV r2)).tail.headD .dead)),AV.int .i64 (toI ((toC (getV r2)).tail.tail.headD .dead))],AV.agg [AV.bool (toB ((toC (getV r3)).headD .dead)),AV.ro 1 (toN ((toC (getV r3)).tail.headD .dead)) (toR ((toC (getV r3)).tail.headD .dead)) (toG ((toC (getV r3)).tail.headD .dead)),AV.int .i64 (toI ((toC (getV r3)).tail.tail.headD .dead))]])) <| ck (okM [RS.one (LK.f .f64)] (qv [AV.flt .f64 (farith BinOp.mul .f64 ua0 ub1),AV.int .i64 (toI (getV (w8 [AV.agg [AV.bool (toB ((toC (getV r2)).headD .dead)),AV.ro 1 (toN ((toC (getV r2)).tail.headD .dead)) (toR ((toC (getV r2)).tail.headD .dead)) (toG ((toC (getV r2)).tail.headD .dead)),AV.int .i64 (toI ((toC (getV r2)).tail.tail.headD .dead))],AV.agg [AV.bool (toB ((toC (getV r3)).headD .dead)),AV.ro 1 (toN ((toC (getV r3)).tail.headD .dead)) (toR ((toC (getV r3)).tail.headD .dead)) (toG ((toC (getV r3)).tail.headD .dead)),AV.int .i64 (toI ((toC (getV r3)).tail.tail.headD .dead))]]))),AV.int .i8 (toI (getV (wb [AV.int .i8 um2])))])) <| some (AV.flt .f64 (toF (getV (qv [AV.flt .f64 (farith BinOp.mul .f64 ua0 ub1),AV.int .i64 (toI (getV (w8 [AV.agg [AV.bool (toB ((toC (getV r2)).headD .dead)),AV.ro 1 (toN ((toC (getV r2)).tail.headD .dead)) (toR ((toC (getV r2)).tail.headD .dead)) (toG ((toC (getV r2)).tail.headD .dead)),AV.int .i64 (toI ((toC (getV r2)).tail.tail.headD .dead))],AV.agg [AV.bool (toB ((toC (getV r3)).headD .dead)),AV.ro 1 (toN ((toC (getV r3)).tail.headD .dead)) (toR ((toC (getV r3)).tail.headD .dead)) (toG ((toC (getV r3)).tail.headD .dead)),AV.int .i64 (toI ((toC (getV r3)).tail.tail.headD .dead))]]))),AV.int .i8 (toI (getV (wb [AV.int .i8 um2])))]))))
noncomputable def mround_Mul (wb q2 : Mo) (wv q7 : Mo) (qv qf : Mo) (zk wz w8 : Mo) (fuel : Nat) (xs : List AV) : Option AV := match xs with
  | [AV.flt .f64 ua0,AV.flt .f64 ub1,AV.int .i8 um2] => ground_Mul wb q2 wv q7 qv qf zk wz w8 fuel ua0 ub1 um2
  | _ => none
abbrev Rround_Mul : List RS := [RS.one (LK.f .f64)]
theorem ground_Mul_sm (wb q2 : Mo) (wv q7 : Mo) (qv qf : Mo) (zk wz w8 : Mo) (fuel : Nat) (hΓ : GamOk Pr (Ground_Mul wb q2 wv q7 qv qf zk wz w8)) (hP : NamesOk Pr) : SmOk Pr 94 (smM Rround_Mul (mround_Mul wb q2 wv q7 qv qf zk wz w8 fuel)) := sm0 (fuel := fuel) (d := 7) hΓ hP fun xs v h => by
  unfold mround_Mul at h
  split at h
  · exact Eq.trans (by kernel_rfl) h
  · cases h
noncomputable def Gspan_Mul_c1 (yx : Mo) : Gam := [(94,smM [RS.one (LK.f .f64)] yx)]
noncomputable def gspan_Mul_c1 (yx : Mo) (fuel : Nat) (ux0 uy1 : Option Nat) (um2 : Int) : Option AV :=
  ck (okM [RS.one (LK.f .f64)] (yx [AV.flt .f64 ux0,AV.flt .f64 uy1,AV.int .i8 um2])) <| bif ford .f64 (toF (getV (yx [AV.flt .f64 ux0,AV.flt .f64 uy1,AV.int .i8 um2]))) (toF (getV (yx [AV.flt .f64 ux0,AV.flt .f64 uy1,AV.int .i8 um2]))) == some Ordering.eq then some (AV.flt .f64 (toF (getV (yx [AV.flt .f64 ux0,AV.flt .f64 uy1,AV.int .i8 um2]))))
  else some (AV.flt .f64 (some 0))
noncomputable def mspan_Mul_c1 (yx : Mo) (fuel : Nat) (xs : List AV) : Option AV := match xs with
  | [AV.flt .f64 ux0,AV.flt .f64 uy1,AV.int .i8 um2] => gspan_Mul_c1 yx fuel ux0 uy1 um2
  | _ => none
abbrev Rspan_Mul_c1 : List RS := [RS.one (LK.f .f64)]
theorem gspan_Mul_c1_sm (yx : Mo) (fuel : Nat) (hΓ : GamOk Pr (Gspan_Mul_c1 yx)) (hP : NamesOk Pr) : SmOk Pr 93 (smM Rspan_Mul_c1 (mspan_Mul_c1 yx fuel)) := sm0 (fuel := fuel) (d := 7) hΓ hP fun xs v h => by
  unfold mspan_Mul_c1 at h
  split at h
  · exact Eq.trans (by kernel_rfl) h
  · cases h
noncomputable def Ground_Div (wb q2 : Mo) (wv q7 : Mo) (qv qf : Mo) (zk wz w8 : Mo) : Gam := [(150,smM [RS.one (LK.i .i8)] wb),(151,smM [RS.one LK.b] q2),(152,smM [RS.one LK.b] wv),(154,smM [RS.one (LK.i .i64)] q7),(153,smM [RS.one (LK.f .f64)] qv),(156,smM [RS.one LK.b] qf),(159,smM [RS.agg [LK.b,LK.l (nat_lit 1),LK.i .i64]] zk),(158,smM [RS.agg [LK.b,LK.l (nat_lit 1),LK.i .i64]] wz),(157,smM [RS.one (LK.i .i64)] w8),(155,Go.Am.sFma)]
noncomputable def ground_Div (wb q2 : Mo) (wv q7 : Mo) (qv qf : Mo) (zk wz w8 : Mo) (fuel : Nat) (ua0 ub1 : Option Nat) (um2 : Int) : Option AV :=
  ck (okM [RS.one (LK.i .i8)] (wb [AV.int .i8 um2])) <| ck (okM [RS.one LK.b] (q2 [AV.ro 1 2 2 fun (i j : Nat) => ([[AV.flt .f64 ua0],[AV.flt .f64 ub1]].getD i []).getD j AV.dead])) <| bif bif bif !toB (getV (q2 [AV.ro 1 2 2 fun (i j : Nat) => ([[AV.flt .f64 ua0],[AV.flt .f64 ub1]].getD i []).getD j AV.dead])) then true else ford .f64 ua0 (some 0) == some Ordering.eq then true else ford .f64 ub1 (some 0) == some Ordering.eq then some (AV.flt .f64 (farith BinOp.quo .f64 ua0 ub1))
  else ck (okM [RS.one LK.b] (wv [AV.ro 1 3 3 fun (i j : Nat) => ([[AV.flt .f64 ua0],[AV.flt .f64 ub1],[AV.flt .f64 (farith BinOp.quo .f64 ua0 ub1)]].getD i []).getD j AV.dead])) <| bif toB (getV (wv [AV.ro 1 3 3 fun (i j : Nat) => ([[AV.flt .f64 ua0],[AV.flt .f64 ub1],[AV.flt .f64 (farith BinOp.quo .f64 ua0 ub1)]].getD i []).getD j AV.dead])) then ck (sFma.ok [AV.flt .f64 (Option.map (Op.negFloat .f64) (farith BinOp.quo .f64 ua0 ub1)),AV.flt .f64 ub1,AV.flt .f64 ua0]) <| ck (okM [RS.one (LK.i .i64)] (q7 [AV.flt .f64 ((Option.map (Op.negFloat .f64) (farith BinOp.quo .f64 ua0 ub1)).bind fun (x : Nat) => ub1.bind fun (y : Nat) => ua0.bind fun (z : Nat) => FloatKind.f64.format.fma x y z)])) <| ck (okM [RS.one (LK.i .i64)] (q7 [AV.flt .f64 ub1])) <| ck (okM [RS.one (LK.f .f64)] (qv [AV.flt .f64 (farith BinOp.quo .f64 ua0 ub1),AV.int .i64 (IntKind.i64.wrap (toI (getV (q7 [AV.flt .f64 ((Option.map (Op.negFloat .f64) (farith BinOp.quo .f64 ua0 ub1)).bind fun (x : Nat) => ub1.bind fun (y : Nat) => ua0.bind fun (z : Nat) => FloatKind.f64.format.fma x y z)])) * toI (getV (q7 [AV.flt .f64 ub1])))),AV.int .i8 (toI (getV (wb [AV.int .i8 um2])))])) <| some (AV.flt .f64 (toF (getV (qv [AV.flt .f64 (farith BinOp.quo .f64 ua0 ub1),AV.int .i64 (IntKind.i64.wrap (toI (getV (q7 [AV.flt .f64 ((Option.map (Op.negFloat .f64) (farith BinOp.quo .f64 ua0 ub1)).bind fun (x : Nat) => ub1.bind fun (y : Nat) => ua0.bind fun (z : Nat) => FloatKind.f64.format.fma x y z)])) * toI (getV (q7 [AV.flt .f64 ub1])))),AV.int .i8 (toI (getV (wb [AV.int .i8 um2])))]))))
  else ck (okM [RS.one LK.b] (qf [AV.flt .f64 (farith BinOp.quo .f64 ua0 ub1),AV.int .i64 0])) <| bif toB (getV (qf [AV.flt .f64 (farith BinOp.quo .f64 ua0 ub1),AV.int .i64 0])) then ck (okM [RS.one (LK.f .f64)] (qv [AV.flt .f64 (farith BinOp.quo .f64 ua0 ub1),AV.int .i64 0,AV.int .i8 (toI (getV (wb [AV.int .i8 um2])))])) <| some (AV.flt .f64 (toF (getV (qv [AV.flt .f64 (farith BinOp.quo .f64 ua0 ub1),AV.int .i64 0,AV.int .i8 (toI (getV (wb [AV.int .i8 um2])))]))))
  else let r0 : Option AV := zk [AV.flt .f64 ua0]; ck (okM [RS.agg [LK.b,LK.l 1,LK.i .i64]] r0) <| let r1 : Option AV := zk [AV.flt .f64 (farith BinOp.quo .f64 ua0 ub1)]; ck (okM [RS.agg [LK.b,LK.l 1,LK.i .i64]] r1) <| let r2 : Option AV := zk [AV.flt .f64 ub1]; ck (okM [RS.agg [LK.b,LK.l 1,LK.i .i64]] r2) <| let r3 : Option AV := wz [AV.agg [AV.bool (toB ((toC (getV r1)).headD .dead)),AV.ro 1 (toN ((toC (getV r1)).tail.headD .dead)) (toR ((toC (getV r1)).tail.headD .dead)) (toG ((toC (getV r1)).tail.headD .dead)),AV.int .i64 (toI ((toC (getV r1)).tail.tail.headD .dead))],AV.agg [AV.bool (toB ((toC (getV r2)).headD .dead)),AV.ro 1 (toN ((toC (getV r2)).tail.headD .dead)) (toR ((toC (getV r2)).tail.headD .dead)) (toG ((toC (getV r2)).tail.headD .dead)),AV.int .i64 (toI ((toC (getV r2)).tail.tail.headD .dead))]]; ck (okM [RS.agg [LK.b,LK.l 1,LK.i .i64]] r3) <| ck (okM [RS.one (LK.i .i64)] (w8 [AV.agg [AV.bool (toB ((toC (getV r0)).headD .dead)),AV.ro 1 (toN ((toC (getV r0)).tail.headD .dead)) (toR ((toC (getV r0)).tail.headD .dead)) (toG ((toC (getV r0)).tail.headD .dead)),AV.int .i64 (toI ((toC (getV r0)).tail.tail.headD .dead))],AV.agg [AV.bool (toB ((toC (getV r3)).headD .dead)),AV.ro 1 (toN ((toC (getV r3)).tail.headD .dead)) (toR ((toC (getV r3)).tail.headD .dead)) (toG ((toC (getV r3)).tail.headD .dead)),AV.int .i64 (toI ((toC (getV r3)).tail.tail.headD .dead))]])) <| ck (okM [RS.one (LK.i .i64)] (q7 [AV.flt .f64 ub1])) <| ck (okM [RS.one (LK.f .f64)] (qv [AV.flt .f64 (farith BinOp.quo .f64 ua0 ub1),AV.int .i64 (IntKind.i64.wrap (toI (getV (w8 [AV.agg [AV.bool (toB ((toC (getV r0)).headD .dead)),AV.ro 1 (toN ((toC (getV r0)).tail.headD .dead)) (toR ((toC (getV r0)).tail.headD .dead)) (toG ((toC (getV r0)).tail.headD .dead)),AV.int .i64 (toI ((toC (getV r0)).tail.tail.headD .dead))],AV.agg [AV.bool (toB ((toC (getV r3)).headD .dead)),AV.ro 1 (toN ((toC (getV r3)).tail.headD .dead)) (toR ((toC (getV r3)).tail.headD .dead)) (toG ((toC (getV r3)).tail.headD .dead)),AV.int .i64 (toI ((toC (getV r3)).tail.tail.headD .dead))]])) * toI (getV (q7 [AV.flt .f64 ub1])))),AV.int .i8 (toI (getV (wb [AV.int .i8 um2])))])) <| some (AV.flt .f64 (toF (getV (qv [AV.flt .f64 (farith BinOp.quo .f64 ua0 ub1),AV.int .i64 (IntKind.i64.wrap (toI (getV (w8 [AV.agg [AV.bool (toB ((toC (getV r0)).headD .dead)),AV.ro 1 (toN ((toC (getV r0)).tail.headD .dead)) (toR ((toC (getV r0)).tail.headD .dead)) (toG ((toC (getV r0)).tail.headD .dead)),AV.int .i64 (toI ((toC (getV r0)).tail.tail.headD .dead))],AV.agg [AV.bool (toB ((toC (getV r3)).headD .dead)),AV.ro 1 (toN ((toC (getV r3)).tail.headD .dead)) (toR ((toC (getV r3)).tail.headD .dead)) (toG ((toC (getV r3)).tail.headD .dead)),AV.int .i64 (toI ((toC (getV r3)).tail.tail.headD .dead))]])) * toI (getV (q7 [AV.flt .f64 ub1])))),AV.int .i8 (toI (getV (wb [AV.int .i8 um2])))]))))
noncomputable def mround_Div (wb q2 : Mo) (wv q7 : Mo) (qv qf : Mo) (zk wz w8 : Mo) (fuel : Nat) (xs : List AV) : Option AV := match xs with
  | [AV.flt .f64 ua0,AV.flt .f64 ub1,AV.int .i8 um2] => ground_Div wb q2 wv q7 qv qf zk wz w8 fuel ua0 ub1 um2
  | _ => none
abbrev Rround_Div : List RS := [RS.one (LK.f .f64)]
theorem ground_Div_sm (wb q2 : Mo) (wv q7 : Mo) (qv qf : Mo) (zk wz w8 : Mo) (fuel : Nat) (hΓ : GamOk Pr (Ground_Div wb q2 wv q7 qv qf zk wz w8)) (hP : NamesOk Pr) : SmOk Pr 223 (smM Rround_Div (mround_Div wb q2 wv q7 qv qf zk wz w8 fuel)) := sm0 (fuel := fuel) (d := 7) hΓ hP fun xs v h => by
  unfold mround_Div at h
  split at h
  · exact Eq.trans (by kernel_rfl) h
  · cases h
noncomputable def Gspan_Div_c1 (yw : Mo) : Gam := [(223,smM [RS.one (LK.f .f64)] yw)]
noncomputable def gspan_Div_c1 (yw : Mo) (fuel : Nat) (ux0 uy1 : Option Nat) (um2 : Int) : Option AV :=
  ck (okM [RS.one (LK.f .f64)] (yw [AV.flt .f64 ux0,AV.flt .f64 uy1,AV.int .i8 um2])) <| bif ford .f64 (toF (getV (yw [AV.flt .f64 ux0,AV.flt .f64 uy1,AV.int .i8 um2]))) (toF (getV (yw [AV.flt .f64 ux0,AV.flt .f64 uy1,AV.int .i8 um2]))) == some Ordering.eq then some (AV.flt .f64 (toF (getV (yw [AV.flt .f64 ux0,AV.flt .f64 uy1,AV.int .i8 um2]))))
  else some (AV.flt .f64 (some 0))
noncomputable def mspan_Div_c1 (yw : Mo) (fuel : Nat) (xs : List AV) : Option AV := match xs with
  | [AV.flt .f64 ux0,AV.flt .f64 uy1,AV.int .i8 um2] => gspan_Div_c1 yw fuel ux0 uy1 um2
  | _ => none
abbrev Rspan_Div_c1 : List RS := [RS.one (LK.f .f64)]
theorem gspan_Div_c1_sm (yw : Mo) (fuel : Nat) (hΓ : GamOk Pr (Gspan_Div_c1 yw)) (hP : NamesOk Pr) : SmOk Pr 222 (smM Rspan_Div_c1 (mspan_Div_c1 yw fuel)) := sm0 (fuel := fuel) (d := 7) hΓ hP fun xs v h => by
  unfold mspan_Div_c1 at h
  split at h
  · exact Eq.trans (by kernel_rfl) h
  · cases h
noncomputable def Gspan_corners_a (w6 w0 : Mo) (q5 q4 : Mo) : Gam := [(148,smM [RS.one (LK.f .f64)] w6),(149,smM [RS.one (LK.f .f64)] w0),(93,smM [RS.one (LK.f .f64)] q5),(222,smM [RS.one (LK.f .f64)] q4)]
noncomputable def gspan_corners_a (w6 w0 : Mo) (q5 q4 : Mo) (fuel : Nat) (vc vt : Option Nat) (vb vp : Option Nat) : Option AV :=
  ck (okM [RS.one (LK.f .f64)] (q5 [AV.flt .f64 vc,AV.flt .f64 vb,AV.int .i8 1])) <| ck (okM [RS.one (LK.f .f64)] (q5 [AV.flt .f64 vc,AV.flt .f64 vb,AV.int .i8 2])) <| ck (okM [RS.one (LK.f .f64)] (q5 [AV.flt .f64 vc,AV.flt .f64 vp,AV.int .i8 1])) <| ck (okM [RS.one (LK.f .f64)] (w6 [AV.flt .f64 (toF (getV (q5 [AV.flt .f64 vc,AV.flt .f64 vb,AV.int .i8 1]))),AV.flt .f64 (toF (getV (q5 [AV.flt .f64 vc,AV.flt .f64 vp,AV.int .i8 1])))])) <| ck (okM [RS.one (LK.f .f64)] (q5 [AV.flt .f64 vc,AV.flt .f64 vp,AV.int .i8 2])) <| ck (okM [RS.one (LK.f .f64)] (w0 [AV.flt .f64 (toF (getV (q5 [AV.flt .f64 vc,AV.flt .f64 vb,AV.int .i8 2]))),AV.flt .f64 (toF (getV (q5 [AV.flt .f64 vc,AV.flt .f64 vp,AV.int .i8 2])))])) <| ck (okM [RS.one (LK.f .f64)] (q5 [AV.flt .f64 vt,AV.flt .f64 vb,AV.int .i8 1])) <| ck (okM [RS.one (LK.f .f64)] (w6 [AV.flt .f64 (toF (getV (w6 [AV.flt .f64 (toF (getV (q5 [AV.flt .f64 vc,AV.flt .f64 vb,AV.int .i8 1]))),AV.flt .f64 (toF (getV (q5 [AV.flt .f64 vc,AV.flt .f64 vp,AV.int .i8 1])))]))),AV.flt .f64 (toF (getV (q5 [AV.flt .f64 vt,AV.flt .f64 vb,AV.int .i8 1])))])) <| ck (okM [RS.one (LK.f .f64)] (q5 [AV.flt .f64 vt,AV.flt .f64 vb,AV.int .i8 2])) <| ck (okM [RS.one (LK.f .f64)] (w0 [AV.flt .f64 (toF (getV (w0 [AV.flt .f64 (toF (getV (q5 [AV.flt .f64 vc,AV.flt .f64 vb,AV.int .i8 2]))),AV.flt .f64 (toF (getV (q5 [AV.flt .f64 vc,AV.flt .f64 vp,AV.int .i8 2])))]))),AV.flt .f64 (toF (getV (q5 [AV.flt .f64 vt,AV.flt .f64 vb,AV.int .i8 2])))])) <| ck (okM [RS.one (LK.f .f64)] (q5 [AV.flt .f64 vt,AV.flt .f64 vp,AV.int .i8 1])) <| ck (okM [RS.one (LK.f .f64)] (w6 [AV.flt .f64 (toF (getV (w6 [AV.flt .f64 (toF (getV (w6 [AV.flt .f64 (toF (getV (q5 [AV.flt .f64 vc,AV.flt .f64 vb,AV.int .i8 1]))),AV.flt .f64 (toF (getV (q5 [AV.flt .f64 vc,AV.flt .f64 vp,AV.int .i8 1])))]))),AV.flt .f64 (toF (getV (q5 [AV.flt .f64 vt,AV.flt .f64 vb,AV.int .i8 1])))]))),AV.flt .f64 (toF (getV (q5 [AV.flt .f64 vt,AV.flt .f64 vp,AV.int .i8 1])))])) <| ck (okM [RS.one (LK.f .f64)] (q5 [AV.flt .f64 vt,AV.flt .f64 vp,AV.int .i8 2])) <| ck (okM [RS.one (LK.f .f64)] (w0 [AV.flt .f64 (toF (getV (w0 [AV.flt .f64 (toF (getV (w0 [AV.flt .f64 (toF (getV (q5 [AV.flt .f64 vc,AV.flt .f64 vb,AV.int .i8 2]))),AV.flt .f64 (toF (getV (q5 [AV.flt .f64 vc,AV.flt .f64 vp,AV.int .i8 2])))]))),AV.flt .f64 (toF (getV (q5 [AV.flt .f64 vt,AV.flt .f64 vb,AV.int .i8 2])))]))),AV.flt .f64 (toF (getV (q5 [AV.flt .f64 vt,AV.flt .f64 vp,AV.int .i8 2])))])) <| some (AV.tup [AV.agg [AV.flt .f64 (toF (getV (w6 [AV.flt .f64 (toF (getV (w6 [AV.flt .f64 (toF (getV (w6 [AV.flt .f64 (toF (getV (q5 [AV.flt .f64 vc,AV.flt .f64 vb,AV.int .i8 1]))),AV.flt .f64 (toF (getV (q5 [AV.flt .f64 vc,AV.flt .f64 vp,AV.int .i8 1])))]))),AV.flt .f64 (toF (getV (q5 [AV.flt .f64 vt,AV.flt .f64 vb,AV.int .i8 1])))]))),AV.flt .f64 (toF (getV (q5 [AV.flt .f64 vt,AV.flt .f64 vp,AV.int .i8 1])))]))),AV.flt .f64 (toF (getV (w0 [AV.flt .f64 (toF (getV (w0 [AV.flt .f64 (toF (getV (w0 [AV.flt .f64 (toF (getV (q5 [AV.flt .f64 vc,AV.flt .f64 vb,AV.int .i8 2]))),AV.flt .f64 (toF (getV (q5 [AV.flt .f64 vc,AV.flt .f64 vp,AV.int .i8 2])))]))),AV.flt .f64 (toF (getV (q5 [AV.flt .f64 vt,AV.flt .f64 vb,AV.int .i8 2])))]))),AV.flt .f64 (toF (getV (q5 [AV.flt .f64 vt,AV.flt .f64 vp,AV.int .i8 2])))])))]])
theorem gspan_corners_a_run (w6 w0 : Mo) (q5 q4 : Mo) (fuel : Nat) (vc vt : Option Nat) (vb vp : Option Nat) : runX Pr (Gspan_corners_a w6 w0 q5 q4) [] (fuel + 8) 7 92 Xspan_corners_a [AV.agg [AV.flt .f64 vc,AV.flt .f64 vt],AV.agg [AV.flt .f64 vb,AV.flt .f64 vp],AV.fn (Fn.func 93) [] []] [] = gspan_corners_a w6 w0 q5 q4 fuel vc vt vb vp := by kernel_rfl
noncomputable def mspan_corners_a (w6 w0 : Mo) (q5 q4 : Mo) (fuel : Nat) (xs : List AV) : Option AV := match xs with
  | [AV.agg [AV.flt .f64 vc,AV.flt .f64 vt],AV.agg [AV.flt .f64 vb,AV.flt .f64 vp],AV.fn (Fn.func 93) [] []] => gspan_corners_a w6 w0 q5 q4 fuel vc vt vb vp
  | _ => none
theorem gspan_corners_a_sm (w6 w0 : Mo) (q5 q4 : Mo) (fuel : Nat) (hΓ : GamOk Pr (Gspan_corners_a w6 w0 q5 q4)) (hP : NamesOk Pr) : XOk Pr 92 (smX Rspan_corners_a Xspan_corners_a (mspan_corners_a w6 w0 q5 q4 fuel)) Xspan_corners_a := by
  refine smX_ok (fuel := (fuel + 8)) hΓ hP (LamOk.nil _ _ _) 7 92 Rspan_corners_a Xspan_corners_a _ (fun xs0 ys0 v ha hb h => ?_)
  · skip
    have ha0 : xs0.length = 3 := ha
    clear ha
    obtain ⟨a0,xs1,rfl,ha1⟩ := len_cons ha0
    clear ha0
    obtain ⟨a1,xs2,rfl,ha2⟩ := len_cons ha1
    clear ha1
    obtain ⟨a2,xs3,rfl,ha3⟩ := len_cons ha2
    clear ha2
    obtain rfl := List.eq_nil_of_length_eq_zero ha3
    have hy0 : ys0.map List.length = [] := hb
    clear hb
    obtain rfl := map_nil' hy0
    have h : mspan_corners_a w6 w0 q5 q4 fuel [a0,a1,a2] = some v := h
    generalize hx0 : [a0,a1,a2] = zs at h
    unfold mspan_corners_a at h
    split at h
    · skip
      obtain ⟨rfl,hx1⟩ := List.cons.inj hx0
      obtain ⟨rfl,hx2⟩ := List.cons.inj hx1
      obtain ⟨rfl,hx3⟩ := List.cons.inj hx2
      simp only [List.map_cons,List.map_nil]
      exact (gspan_corners_a_run w6 w0 q5 q4 fuel _ _ _ _).trans h
    · cases h
noncomputable def Gspan_corners_b (w6 w0 : Mo) (q5 q4 : Mo) : Gam := [(148,smM [RS.one (LK.f .f64)] w6),(149,smM [RS.one (LK.f .f64)] w0),(93,smM [RS.one (LK.f .f64)] q5),(222,smM [RS.one (LK.f .f64)] q4)]
noncomputable def gspan_corners_b (w6 w0 : Mo) (q5 q4 : Mo) (fuel : Nat) (vc vt : Option Nat) (vb vp : Option Nat) : Option AV :=
  ck (okM [RS.one (LK.f .f64)] (q4 [AV.flt .f64 vc,AV.flt .f64 vb,AV.int .i8 1])) <| ck (okM [RS.one (LK.f .f64)] (q4 [AV.flt .f64 vc,AV.flt .f64 vb,AV.int .i8 2])) <| ck (okM [RS.one (LK.f .f64)] (q4 [AV.flt .f64 vc,AV.flt .f64 vp,AV.int .i8 1])) <| ck (okM [RS.one (LK.f .f64)] (w6 [AV.flt .f64 (toF (getV (q4 [AV.flt .f64 vc,AV.flt .f64 vb,AV.int .i8 1]))),AV.flt .f64 (toF (getV (q4 [AV.flt .f64 vc,AV.flt .f64 vp,AV.int .i8 1])))])) <| ck (okM [RS.one (LK.f .f64)] (q4 [AV.flt .f64 vc,AV.flt .f64 vp,AV.int .i8 2])) <| ck (okM [RS.one (LK.f .f64)] (w0 [AV.flt .f64 (toF (getV (q4 [AV.flt .f64 vc,AV.flt .f64 vb,AV.int .i8 2]))),AV.flt .f64 (toF (getV (q4 [AV.flt .f64 vc,AV.flt .f64 vp,AV.int .i8 2])))])) <| ck (okM [RS.one (LK.f .f64)] (q4 [AV.flt .f64 vt,AV.flt .f64 vb,AV.int .i8 1])) <| ck (okM [RS.one (LK.f .f64)] (w6 [AV.flt .f64 (toF (getV (w6 [AV.flt .f64 (toF (getV (q4 [AV.flt .f64 vc,AV.flt .f64 vb,AV.int .i8 1]))),AV.flt .f64 (toF (getV (q4 [AV.flt .f64 vc,AV.flt .f64 vp,AV.int .i8 1])))]))),AV.flt .f64 (toF (getV (q4 [AV.flt .f64 vt,AV.flt .f64 vb,AV.int .i8 1])))])) <| ck (okM [RS.one (LK.f .f64)] (q4 [AV.flt .f64 vt,AV.flt .f64 vb,AV.int .i8 2])) <| ck (okM [RS.one (LK.f .f64)] (w0 [AV.flt .f64 (toF (getV (w0 [AV.flt .f64 (toF (getV (q4 [AV.flt .f64 vc,AV.flt .f64 vb,AV.int .i8 2]))),AV.flt .f64 (toF (getV (q4 [AV.flt .f64 vc,AV.flt .f64 vp,AV.int .i8 2])))]))),AV.flt .f64 (toF (getV (q4 [AV.flt .f64 vt,AV.flt .f64 vb,AV.int .i8 2])))])) <| ck (okM [RS.one (LK.f .f64)] (q4 [AV.flt .f64 vt,AV.flt .f64 vp,AV.int .i8 1])) <| ck (okM [RS.one (LK.f .f64)] (w6 [AV.flt .f64 (toF (getV (w6 [AV.flt .f64 (toF (getV (w6 [AV.flt .f64 (toF (getV (q4 [AV.flt .f64 vc,AV.flt .f64 vb,AV.int .i8 1]))),AV.flt .f64 (toF (getV (q4 [AV.flt .f64 vc,AV.flt .f64 vp,AV.int .i8 1])))]))),AV.flt .f64 (toF (getV (q4 [AV.flt .f64 vt,AV.flt .f64 vb,AV.int .i8 1])))]))),AV.flt .f64 (toF (getV (q4 [AV.flt .f64 vt,AV.flt .f64 vp,AV.int .i8 1])))])) <| ck (okM [RS.one (LK.f .f64)] (q4 [AV.flt .f64 vt,AV.flt .f64 vp,AV.int .i8 2])) <| ck (okM [RS.one (LK.f .f64)] (w0 [AV.flt .f64 (toF (getV (w0 [AV.flt .f64 (toF (getV (w0 [AV.flt .f64 (toF (getV (q4 [AV.flt .f64 vc,AV.flt .f64 vb,AV.int .i8 2]))),AV.flt .f64 (toF (getV (q4 [AV.flt .f64 vc,AV.flt .f64 vp,AV.int .i8 2])))]))),AV.flt .f64 (toF (getV (q4 [AV.flt .f64 vt,AV.flt .f64 vb,AV.int .i8 2])))]))),AV.flt .f64 (toF (getV (q4 [AV.flt .f64 vt,AV.flt .f64 vp,AV.int .i8 2])))])) <| some (AV.tup [AV.agg [AV.flt .f64 (toF (getV (w6 [AV.flt .f64 (toF (getV (w6 [AV.flt .f64 (toF (getV (w6 [AV.flt .f64 (toF (getV (q4 [AV.flt .f64 vc,AV.flt .f64 vb,AV.int .i8 1]))),AV.flt .f64 (toF (getV (q4 [AV.flt .f64 vc,AV.flt .f64 vp,AV.int .i8 1])))]))),AV.flt .f64 (toF (getV (q4 [AV.flt .f64 vt,AV.flt .f64 vb,AV.int .i8 1])))]))),AV.flt .f64 (toF (getV (q4 [AV.flt .f64 vt,AV.flt .f64 vp,AV.int .i8 1])))]))),AV.flt .f64 (toF (getV (w0 [AV.flt .f64 (toF (getV (w0 [AV.flt .f64 (toF (getV (w0 [AV.flt .f64 (toF (getV (q4 [AV.flt .f64 vc,AV.flt .f64 vb,AV.int .i8 2]))),AV.flt .f64 (toF (getV (q4 [AV.flt .f64 vc,AV.flt .f64 vp,AV.int .i8 2])))]))),AV.flt .f64 (toF (getV (q4 [AV.flt .f64 vt,AV.flt .f64 vb,AV.int .i8 2])))]))),AV.flt .f64 (toF (getV (q4 [AV.flt .f64 vt,AV.flt .f64 vp,AV.int .i8 2])))])))]])
theorem gspan_corners_b_run (w6 w0 : Mo) (q5 q4 : Mo) (fuel : Nat) (vc vt : Option Nat) (vb vp : Option Nat) : runX Pr (Gspan_corners_b w6 w0 q5 q4) [] (fuel + 8) 7 92 Xspan_corners_b [AV.agg [AV.flt .f64 vc,AV.flt .f64 vt],AV.agg [AV.flt .f64 vb,AV.flt .f64 vp],AV.fn (Fn.func 222) [] []] [] = gspan_corners_b w6 w0 q5 q4 fuel vc vt vb vp := by kernel_rfl
noncomputable def mspan_corners_b (w6 w0 : Mo) (q5 q4 : Mo) (fuel : Nat) (xs : List AV) : Option AV := match xs with
  | [AV.agg [AV.flt .f64 vc,AV.flt .f64 vt],AV.agg [AV.flt .f64 vb,AV.flt .f64 vp],AV.fn (Fn.func 222) [] []] => gspan_corners_b w6 w0 q5 q4 fuel vc vt vb vp
  | _ => none
theorem gspan_corners_b_sm (w6 w0 : Mo) (q5 q4 : Mo) (fuel : Nat) (hΓ : GamOk Pr (Gspan_corners_b w6 w0 q5 q4)) (hP : NamesOk Pr) : XOk Pr 92 (smX Rspan_corners_b Xspan_corners_b (mspan_corners_b w6 w0 q5 q4 fuel)) Xspan_corners_b := by
  refine smX_ok (fuel := (fuel + 8)) hΓ hP (LamOk.nil _ _ _) 7 92 Rspan_corners_b Xspan_corners_b _ (fun xs0 ys0 v ha hb h => ?_)
  · skip
    have ha0 : xs0.length = 3 := ha
    clear ha
    obtain ⟨a0,xs1,rfl,ha1⟩ := len_cons ha0
    clear ha0
    obtain ⟨a1,xs2,rfl,ha2⟩ := len_cons ha1
    clear ha1
    obtain ⟨a2,xs3,rfl,ha3⟩ := len_cons ha2
    clear ha2
    obtain rfl := List.eq_nil_of_length_eq_zero ha3
    have hy0 : ys0.map List.length = [] := hb
    clear hb
    obtain rfl := map_nil' hy0
    have h : mspan_corners_b w6 w0 q5 q4 fuel [a0,a1,a2] = some v := h
    generalize hx0 : [a0,a1,a2] = zs at h
    unfold mspan_corners_b at h
    split at h
    · skip
      obtain ⟨rfl,hx1⟩ := List.cons.inj hx0
      obtain ⟨rfl,hx2⟩ := List.cons.inj hx1
      obtain ⟨rfl,hx3⟩ := List.cons.inj hx2
      simp only [List.map_cons,List.map_nil]
      exact (gspan_corners_b_run w6 w0 q5 q4 fuel _ _ _ _).trans h
    · cases h
noncomputable def Gspan_Mul (w3 q5 : Mo) (zc zd : Mo) : Gam := [(91,smM [RS.one LK.b] w3),(93,smM [RS.one (LK.f .f64)] q5),(92,smX Rspan_corners_a Xspan_corners_a zc),(92,smX Rspan_corners_b Xspan_corners_b zd)]
noncomputable def gspan_Mul (w3 q5 : Mo) (zc zd : Mo) (fuel : Nat) (vc vt : Option Nat) (vb vp : Option Nat) : Option AV :=
  ck (okM [RS.one LK.b] (w3 [AV.ro 2 2 2 fun (i j : Nat) => ([[AV.flt .f64 vc,AV.flt .f64 vt],[AV.flt .f64 vb,AV.flt .f64 vp]].getD i []).getD j AV.dead])) <| bif !toB (getV (w3 [AV.ro 2 2 2 fun (i j : Nat) => ([[AV.flt .f64 vc,AV.flt .f64 vt],[AV.flt .f64 vb,AV.flt .f64 vp]].getD i []).getD j AV.dead])) then some (AV.tup [AV.agg [AV.flt .f64 (some 0),AV.flt .f64 (some 0)],AV.int .i64 2])
  else let r0 : Option AV := zc [AV.agg [AV.flt .f64 vc,AV.flt .f64 vt],AV.agg [AV.flt .f64 vb,AV.flt .f64 vp],AV.fn (Fn.func 93) [] []]; ck (okX [RS.agg [LK.f .f64,LK.f .f64]] r0) <| some (AV.tup [AV.agg [AV.flt .f64 (toF ((toC ((toT (getV r0)).headD .dead)).headD .dead)),AV.flt .f64 (toF ((toC ((toT (getV r0)).headD .dead)).tail.headD .dead))],AV.int .i64 0])
noncomputable def mspan_Mul (w3 q5 : Mo) (zc zd : Mo) (fuel : Nat) (xs : List AV) : Option AV := match xs with
  | [AV.agg [AV.flt .f64 vc,AV.flt .f64 vt],AV.agg [AV.flt .f64 vb,AV.flt .f64 vp]] => gspan_Mul w3 q5 zc zd fuel vc vt vb vp
  | _ => none
abbrev Rspan_Mul : List RS := [RS.agg [LK.f .f64,LK.f .f64],RS.one (LK.i .i64)]
theorem gspan_Mul_sm (w3 q5 : Mo) (zc zd : Mo) (fuel : Nat) (hΓ : GamOk Pr (Gspan_Mul w3 q5 zc zd)) (hP : NamesOk Pr) : SmOk Pr 46 (smM Rspan_Mul (mspan_Mul w3 q5 zc zd fuel)) := sm0 (fuel := fuel) (d := 7) hΓ hP fun xs v h => by
  unfold mspan_Mul at h
  split at h
  · exact Eq.trans (by kernel_rfl) h
  · cases h
noncomputable def Sbars_times_0 (qh3 qiu : Nat) (qha : Ge) (u11 u12 : Int) (wx qh4 : Option Nat) (zj qc9 : Option Nat) : St := { env := [(2,AV.ptr 0 0),(3,AV.ptr 1 0),(10,AV.ro 2 qh3 qiu qha),(11,AV.int .i64 u11),(12,AV.int .i64 u12)],h := [Blk.box [AV.flt .f64 wx,AV.flt .f64 qh4],Blk.box [AV.flt .f64 zj,AV.flt .f64 qc9]],kd := [] }
noncomputable def Xbars_times_0_0 (vm qi7 : Option Nat) (vy qjx : Option Nat) : St := { env := [(2,AV.ptr 0 0),(3,AV.ptr 1 0)],h := [Blk.box [AV.flt .f64 vm,AV.flt .f64 qi7],Blk.box [AV.flt .f64 vy,AV.flt .f64 qjx]],kd := [] }
noncomputable def gbars_times_l0_step (z0 : Mo) (fuel : Nat) (kn : Int → Option Nat → Option Nat → Option AV) (kx0 : Option Nat → Option Nat → Option Nat → Option Nat → Option AV) (qh3 qiu : Nat) (qha : Ge) (u11 : Int) (wx qh4 : Option Nat) (u12 : Int) (zj qc9 : Option Nat) : Option AV :=
  bif decide (u12 < u11) then ck (decide (0 ≤ u12)) <| ck (decide (u12 < (↑qh3 : Int))) <| ck (fitKs [LK.f .f64,LK.f .f64] [qha u12.toNat 0,qha u12.toNat 1]) <| let r0 : Option AV := z0 [AV.agg [AV.flt .f64 zj,AV.flt .f64 qc9],AV.agg [AV.flt .f64 (toF (qha u12.toNat 0)),AV.flt .f64 (toF (qha u12.toNat 1))]]; ck (okM [RS.agg [LK.f .f64,LK.f .f64],RS.one (LK.i .i64)] r0) <| kn (IntKind.i64.wrap (u12 + 1)) (toF ((toC ((toT (getV r0)).headD .dead)).headD .dead)) (toF ((toC ((toT (getV r0)).headD .dead)).tail.headD .dead))
  else kx0 wx qh4 zj qc9
noncomputable def gbars_times_l0 (z0 : Mo) (fuel : Nat) (kx0 : Option Nat → Option Nat → Option Nat → Option Nat → Option AV) (qh3 qiu : Nat) (qha : Ge) (u11 : Int) (wx qh4 : Option Nat) : Nat → Int → Option Nat → Option Nat → Option AV
  | 0,_,_,_ => none
  | n' + 1,u12,zj,qc9 => gbars_times_l0_step z0 fuel (gbars_times_l0 z0 fuel kx0 qh3 qiu qha u11 wx qh4 n') kx0 qh3 qiu qha u11 wx qh4 u12 zj qc9
noncomputable def Tbars_times_0 : TS' := ⟨[(2,TA.ptr 0 0),(3,TA.ptr 1 0),(10,TA.ro 2),(11,TA.i .i64),(12,TA.i .i64)],[TB.box [TA.f .f64,TA.f .f64],TB.box [TA.f .f64,TA.f .f64]],[]⟩
noncomputable def Fbars_times_0 (z0 : Mo) (fuel : Nat) (ps : List Pay) (K : Ex → St → Option AV) : Option AV := match ps with
  | .n qh3 :: .n qiu :: .g qha :: .i u11 :: .i u12 :: .o wx :: .o qh4 :: .o zj :: .o qc9 :: [] => gbars_times_l0 z0 fuel (fun vm qi7 vy qjx => K (Ex.exit 0) (Xbars_times_0_0 vm qi7 vy qjx)) qh3 qiu qha u11 wx qh4 fuel u12 zj qc9
  | _ => none
noncomputable def Lbars_times (z0 : Mo) (fuel : Nat) : Lam AV := [(8384544,lam Tbars_times_0 (Fbars_times_0 z0 fuel))]
noncomputable def Gbars_times (z0 : Mo) : Gam := [(46,smM [RS.agg [LK.f .f64,LK.f .f64],RS.one (LK.i .i64)] z0)]
theorem gbars_times_l0_eq (z0 : Mo) (fuel : Nat) (kn : St → Option AV) (K : Ex → St → Option AV) (qh3 qiu : Nat) (qha : Ge) (u11 : Int) (wx qh4 : Option Nat) (qko : Int) (qb8 qop : Option Nat) (u12 : Int) (zj qc9 : Option Nat) :
    bX Pr (Gbars_times z0) (Lbars_times z0 fuel) 6 121 0 fuel (Sbars_times_0 qh3 qiu qha u11 u12 wx qh4 zj qc9) (fun e s => match e with | .normal => kn (hX Pr 121 0 (Sbars_times_0 qh3 qiu qha u11 qko wx qh4 qb8 qop) s) | e => K e s) =
    gbars_times_l0_step z0 fuel (fun u12 zj qc9 => kn (Sbars_times_0 qh3 qiu qha u11 u12 wx qh4 zj qc9)) (fun z9 xh0_1 v6 qgi => K (Ex.exit 0) (Xbars_times_0_0 z9 xh0_1 v6 qgi)) qh3 qiu qha u11 wx qh4 u12 zj qc9 := by kernel_rfl
theorem gbars_times_l0_ok (z0 : Mo) (fuel : Nat) (K : Ex → St → Option AV) (qh3 qiu : Nat) (qha : Ge) (u11 : Int) (wx qh4 : Option Nat) (qko : Int) (qb8 qop : Option Nat) : ∀ (n' : Nat) (u12 : Int) (zj qc9 : Option Nat),
    loopK (bX Pr (Gbars_times z0) (Lbars_times z0 fuel) 6 121 0 fuel) (hX Pr 121 0 (Sbars_times_0 qh3 qiu qha u11 qko wx qh4 qb8 qop)) n' (Sbars_times_0 qh3 qiu qha u11 u12 wx qh4 zj qc9) K = gbars_times_l0 z0 fuel (fun z9 xh0_1 v6 qgi => K (Ex.exit 0) (Xbars_times_0_0 z9 xh0_1 v6 qgi)) qh3 qiu qha u11 wx qh4 n' u12 zj qc9
  | 0,_,_,_ => rfl
  | n' + 1,u12,zj,qc9 => (gbars_times_l0_eq z0 fuel (fun s => loopK (bX Pr (Gbars_times z0) (Lbars_times z0 fuel) 6 121 0 fuel) (hX Pr 121 0 (Sbars_times_0 qh3 qiu qha u11 qko wx qh4 qb8 qop)) n' s K) K qh3 qiu qha u11 wx qh4 qko qb8 qop u12 zj qc9).trans
    (congrArg (fun kn => gbars_times_l0_step z0 fuel kn _ qh3 qiu qha u11 wx qh4 u12 zj qc9) (funext fun u12 => funext fun zj => funext fun qc9 => gbars_times_l0_ok z0 fuel K qh3 qiu qha u11 wx qh4 qko qb8 qop n' u12 zj qc9))
theorem gbars_times_L0 (z0 : Mo) (fuel : Nat) : LX Pr (Gbars_times z0) (Lbars_times z0 fuel) 6 121 0 fuel := by
  refine .of Tbars_times_0 (Fbars_times_0 z0 fuel) (fun L h => ?_) (fun ps st K r he hr => ?_)
  · have e : (Lbars_times z0 fuel).get (writes (lp Pr 121 0).1) = some (lam Tbars_times_0 (Fbars_times_0 z0 fuel)) := by kernel_rfl
    exact (Option.some.inj (e.symm.trans h)).symm
  · unfold Fbars_times_0 at hr
    split at hr
    · obtain rfl := (Option.some.inj he).symm
      exact (gbars_times_l0_ok z0 fuel K _ _ _ _ _ _ _ _ _ fuel _ _ _).trans hr
    · cases hr
noncomputable def gbars_times (z0 : Mo) (fuel po qbh : Nat) (qat : Ge) : Option AV :=
  ck (decide (0 < (↑po : Int))) <| ck (fitKs [LK.f .f64,LK.f .f64] [qat 0 0,qat 0 1]) <| ck (decide (1 ≤ (↑po : Int))) <| gbars_times_l0 z0 fuel
    (fun (_ _ : Option Nat) (v6 qgi : Option Nat) => some (AV.agg [AV.flt .f64 v6,AV.flt .f64 qgi]))
    (po - 1)
    (qbh - 1)
    (fun (i : Nat) => qat (1 + i))
    ((↑(po - 1) : Int))
    (some 0)
    (some 0) fuel (0) (toF (qat 0 0)) (toF (qat 0 1))
noncomputable def mbars_times (z0 : Mo) (fuel : Nat) (xs : List AV) : Option AV := match xs with
  | [AV.ro 2 po qbh qat] => gbars_times z0 fuel po qbh qat
  | _ => none
abbrev Rbars_times : List RS := [RS.agg [LK.f .f64,LK.f .f64]]
theorem gbars_times_sm (z0 : Mo) (fuel : Nat) (hΓ : GamOk Pr (Gbars_times z0)) (hP : NamesOk Pr) : SmOk Pr 121 (smM Rbars_times (mbars_times z0 fuel)) := smL (L := (Lbars_times z0 fuel)) (n := 1) hΓ hP (by kernel_rfl) (fun i hi => match i,hi with
  | 0,_ => gbars_times_L0 z0 fuel
  | i + 1,hi => absurd hi (by omega)) fun xs v h => by
  unfold mbars_times at h
  split at h
  · exact Eq.trans (by kernel_rfl) h
  · cases h
noncomputable def Gspan_Div (w3 q4 : Mo) (zc zd : Mo) : Gam := [(91,smM [RS.one LK.b] w3),(222,smM [RS.one (LK.f .f64)] q4),(92,smX Rspan_corners_a Xspan_corners_a zc),(92,smX Rspan_corners_b Xspan_corners_b zd)]
noncomputable def gspan_Div (w3 q4 : Mo) (zc zd : Mo) (fuel : Nat) (vc vt : Option Nat) (vb vp : Option Nat) : Option AV :=
  ck (okM [RS.one LK.b] (w3 [AV.ro 2 2 2 fun (i j : Nat) => ([[AV.flt .f64 vc,AV.flt .f64 vt],[AV.flt .f64 vb,AV.flt .f64 vp]].getD i []).getD j AV.dead])) <| bif !toB (getV (w3 [AV.ro 2 2 2 fun (i j : Nat) => ([[AV.flt .f64 vc,AV.flt .f64 vt],[AV.flt .f64 vb,AV.flt .f64 vp]].getD i []).getD j AV.dead])) then some (AV.tup [AV.agg [AV.flt .f64 (some 0),AV.flt .f64 (some 0)],AV.int .i64 2])
  else ck (bif ford .f64 vb (some 0) == some Ordering.lt || ford .f64 vb (some 0) == some Ordering.eq then true else true) <| bif bif ford .f64 vb (some 0) == some Ordering.lt || ford .f64 vb (some 0) == some Ordering.eq then ford .f64 vp (some 0) == some Ordering.gt || ford .f64 vp (some 0) == some Ordering.eq else false then some (AV.tup [AV.agg [AV.flt .f64 (some 0),AV.flt .f64 (some 0)],AV.int .i64 7])
  else let r0 : Option AV := zd [AV.agg [AV.flt .f64 vc,AV.flt .f64 vt],AV.agg [AV.flt .f64 vb,AV.flt .f64 vp],AV.fn (Fn.func 222) [] []]; ck (okX [RS.agg [LK.f .f64,LK.f .f64]] r0) <| some (AV.tup [AV.agg [AV.flt .f64 (toF ((toC ((toT (getV r0)).headD .dead)).headD .dead)),AV.flt .f64 (toF ((toC ((toT (getV r0)).headD .dead)).tail.headD .dead))],AV.int .i64 0])
noncomputable def mspan_Div (w3 q4 : Mo) (zc zd : Mo) (fuel : Nat) (xs : List AV) : Option AV := match xs with
  | [AV.agg [AV.flt .f64 vc,AV.flt .f64 vt],AV.agg [AV.flt .f64 vb,AV.flt .f64 vp]] => gspan_Div w3 q4 zc zd fuel vc vt vb vp
  | _ => none
abbrev Rspan_Div : List RS := [RS.agg [LK.f .f64,LK.f .f64],RS.one (LK.i .i64)]
theorem gspan_Div_sm (w3 q4 : Mo) (zc zd : Mo) (fuel : Nat) (hΓ : GamOk Pr (Gspan_Div w3 q4 zc zd)) (hP : NamesOk Pr) : SmOk Pr 184 (smM Rspan_Div (mspan_Div w3 q4 zc zd fuel)) := sm0 (fuel := fuel) (d := 7) hΓ hP fun xs v h => by
  unfold mspan_Div at h
  split at h
  · exact Eq.trans (by kernel_rfl) h
  · cases h
noncomputable def Gbars_spring (p1 : Mo) : Gam := [(184,smM [RS.agg [LK.f .f64,LK.f .f64],RS.one (LK.i .i64)] p1)]
noncomputable def gbars_spring (p1 : Mo) (fuel : Nat) (qio qgy : Int) (qgu qgx : Int) (qgw qgr qgz : Int) (qjw qjy : Option Nat) (qiq qiy : Option Nat) (qo2 qkl : Option Nat) : Option AV :=
  let r0 : Option AV := p1 [AV.agg [AV.flt .f64 qjw,AV.flt .f64 qjy],AV.agg [AV.flt .f64 qiq,AV.flt .f64 qiy]]; ck (okM [RS.agg [LK.f .f64,LK.f .f64],RS.one (LK.i .i64)] r0) <| some (AV.agg [AV.int .i64 0,AV.int .u8 qio,AV.int .i64 qgy,AV.int .i64 qgu,AV.int .i64 qgx,AV.int .i64 qgw,AV.int .i64 qgr,AV.int .i64 qgz,AV.flt .f64 (toF ((toC ((toT (getV r0)).headD .dead)).headD .dead)),AV.flt .f64 (toF ((toC ((toT (getV r0)).headD .dead)).tail.headD .dead)),AV.flt .f64 (farith BinOp.quo .f64 qo2 qkl)])
noncomputable def mbars_spring (p1 : Mo) (fuel : Nat) (xs : List AV) : Option AV := match xs with
  | [AV.int .u8 qio,AV.agg [AV.int .i64 qgy,AV.int .i64 qgu,AV.int .i64 qgx,AV.int .i64 qgw,AV.int .i64 qgr,AV.int .i64 qgz],AV.agg [AV.flt .f64 qjw,AV.flt .f64 qjy],AV.agg [AV.flt .f64 qiq,AV.flt .f64 qiy],AV.flt .f64 qo2,AV.flt .f64 qkl] => gbars_spring p1 fuel qio qgy qgu qgx qgw qgr qgz qjw qjy qiq qiy qo2 qkl
  | _ => none
abbrev Rbars_spring : List RS := [RS.agg [LK.i .i64,LK.i .u8,LK.i .i64,LK.i .i64,LK.i .i64,LK.i .i64,LK.i .i64,LK.i .i64,LK.f .f64,LK.f .f64,LK.f .f64]]
theorem gbars_spring_sm (p1 : Mo) (fuel : Nat) (hΓ : GamOk Pr (Gbars_spring p1)) (hP : NamesOk Pr) : SmOk Pr 120 (smM Rbars_spring (mbars_spring p1 fuel)) := sm0 (fuel := fuel) (d := 7) hΓ hP fun xs v h => by
  unfold mbars_spring at h
  split at h
  · exact Eq.trans (by kernel_rfl) h
  · cases h
noncomputable def Gbars_stands : Gam := []
noncomputable def gbars_stands (fuel : Nat) (qrb : ByteArray) (qki qrf qrl : Int) (qog qox : Bool) (qq9 qq7 qra : Option Nat) : Option AV :=
  ck (bif qki == 2 then true else true) <| ck (bif qki == 2 then true else true) <| some (AV.tup [AV.bool (bif qki == 2 then !qog else false),AV.bool (bif qki == 2 then !qox else false)])
noncomputable def mbars_stands (fuel : Nat) (xs : List AV) : Option AV := match xs with
  | [AV.agg [AV.str qrb,AV.int .u8 qki,AV.int .i64 qrf,AV.int .i64 qrl,AV.bool qog,AV.bool qox,AV.flt .f64 qq9,AV.flt .f64 qq7,AV.flt .f64 qra]] => gbars_stands fuel qrb qki qrf qrl qog qox qq9 qq7 qra
  | _ => none
abbrev Rbars_stands : List RS := [RS.one LK.b,RS.one LK.b]
theorem gbars_stands_sm (fuel : Nat) (hΓ : GamOk Pr Gbars_stands) (hP : NamesOk Pr) : SmOk Pr 124 (smM Rbars_stands (mbars_stands fuel)) := sm0 (fuel := fuel) (d := 7) hΓ hP fun xs v h => by
  unfold mbars_stands at h
  split at h
  · exact Eq.trans (by kernel_rfl) h
  · cases h
noncomputable def Gbars_springs_c1 (z5 zr zq : Mo) : Gam := [(122,smM [RS.agg [LK.f .f64,LK.f .f64]] z5),(121,smM [RS.agg [LK.f .f64,LK.f .f64]] zr),(120,smM [RS.agg [LK.i .i64,LK.i .u8,LK.i .i64,LK.i .i64,LK.i .i64,LK.i .i64,LK.i .i64,LK.i .i64,LK.f .f64,LK.f .f64,LK.f .f64]] zq)]
noncomputable def gbars_springs_c1 (z5 zr zq : Mo) (fuel : Nat) (qio qgy : Int) (qgu qgx : Int) (qgw qgr qgz : Int) (f0n : Nat) (f0g : Nat → AV) (f1n : Nat) (f1g : Nat → AV) (f2n : Nat) (f2g : Nat → AV) (f3n : Nat) (f3g : Nat → AV) : Option AV :=
  let r0 : Option AV := z5 [AV.flt .f64 (some 4613937818241073152)]; ck (okM [RS.agg [LK.f .f64,LK.f .f64]] r0) <| ck (Nat.blt 0 (f0n - 6)) <| ck (fitK (LK.f .f64) (f0g 6)) <| let r1 : Option AV := z5 [AV.flt .f64 (toF (f0g 6))]; ck (okM [RS.agg [LK.f .f64,LK.f .f64]] r1) <| ck (Nat.blt 0 (f0n - 8)) <| ck (fitK (LK.f .f64) (f0g 8)) <| let r2 : Option AV := z5 [AV.flt .f64 (toF (f0g 8))]; ck (okM [RS.agg [LK.f .f64,LK.f .f64]] r2) <| let r3 : Option AV := zr [AV.ro 2 2 2 fun (i j : Nat) => ([[AV.flt .f64 (toF ((toC (getV r1)).headD .dead)),AV.flt .f64 (toF ((toC (getV r1)).tail.headD .dead))],[AV.flt .f64 (toF ((toC (getV r2)).headD .dead)),AV.flt .f64 (toF ((toC (getV r2)).tail.headD .dead))]].getD i []).getD j AV.dead]; ck (okM [RS.agg [LK.f .f64,LK.f .f64]] r3) <| let r4 : Option AV := zr [AV.ro 2 2 2 fun (i j : Nat) => ([[AV.flt .f64 (toF ((toC (getV r0)).headD .dead)),AV.flt .f64 (toF ((toC (getV r0)).tail.headD .dead))],[AV.flt .f64 (toF ((toC (getV r3)).headD .dead)),AV.flt .f64 (toF ((toC (getV r3)).tail.headD .dead))]].getD i []).getD j AV.dead]; ck (okM [RS.agg [LK.f .f64,LK.f .f64]] r4) <| ck (Nat.blt 0 f1n) <| ck (fitK (LK.f .f64) (f1g 0)) <| let r5 : Option AV := z5 [AV.flt .f64 (toF (f1g 0))]; ck (okM [RS.agg [LK.f .f64,LK.f .f64]] r5) <| ck (Nat.blt 0 f1n) <| ck (fitK (LK.f .f64) (f1g 0)) <| let r6 : Option AV := z5 [AV.flt .f64 (toF (f1g 0))]; ck (okM [RS.agg [LK.f .f64,LK.f .f64]] r6) <| let r7 : Option AV := zr [AV.ro 2 2 2 fun (i j : Nat) => ([[AV.flt .f64 (toF ((toC (getV r5)).headD .dead)),AV.flt .f64 (toF ((toC (getV r5)).tail.headD .dead))],[AV.flt .f64 (toF ((toC (getV r6)).headD .dead)),AV.flt .f64 (toF ((toC (getV r6)).tail.headD .dead))]].getD i []).getD j AV.dead]; ck (okM [RS.agg [LK.f .f64,LK.f .f64]] r7) <| ck (Nat.ble 2 f2n) <| ck (fitKs [LK.f .f64,LK.f .f64] [f2g 0,f2g 1]) <| let r8 : Option AV := zr [AV.ro 2 2 2 fun (i j : Nat) => ([[AV.flt .f64 (toF ((toC (getV r7)).headD .dead)),AV.flt .f64 (toF ((toC (getV r7)).tail.headD .dead))],[AV.flt .f64 (toF (f2g 0)),AV.flt .f64 (toF (f2g 1))]].getD i []).getD j AV.dead]; ck (okM [RS.agg [LK.f .f64,LK.f .f64]] r8) <| ck (Nat.blt 0 (f0n - 6)) <| ck (fitK (LK.f .f64) (f0g 6)) <| ck (Nat.blt 0 (f0n - 8)) <| ck (fitK (LK.f .f64) (f0g 8)) <| ck (Nat.blt 0 f1n) <| ck (fitK (LK.f .f64) (f1g 0)) <| ck (Nat.blt 0 f1n) <| ck (fitK (LK.f .f64) (f1g 0)) <| ck (Nat.blt 0 f3n) <| ck (fitK (LK.f .f64) (f3g 0)) <| let r9 : Option AV := zq [AV.int .u8 qio,AV.agg [AV.int .i64 qgy,AV.int .i64 qgu,AV.int .i64 qgx,AV.int .i64 qgw,AV.int .i64 qgr,AV.int .i64 qgz],AV.agg [AV.flt .f64 (toF ((toC (getV r4)).headD .dead)),AV.flt .f64 (toF ((toC (getV r4)).tail.headD .dead))],AV.agg [AV.flt .f64 (toF ((toC (getV r8)).headD .dead)),AV.flt .f64 (toF ((toC (getV r8)).tail.headD .dead))],AV.flt .f64 (farith BinOp.mul .f64 (some 4613937818241073152) (farith BinOp.mul .f64 (toF (f0g 6)) (toF (f0g 8)))),AV.flt .f64 (farith BinOp.mul .f64 (farith BinOp.mul .f64 (toF (f1g 0)) (toF (f1g 0))) (toF (f3g 0)))]; ck (okM [RS.agg [LK.i .i64,LK.i .u8,LK.i .i64,LK.i .i64,LK.i .i64,LK.i .i64,LK.i .i64,LK.i .i64,LK.f .f64,LK.f .f64,LK.f .f64]] r9) <| some (AV.agg [AV.int .i64 (toI ((toC (getV r9)).headD .dead)),AV.int .u8 (toI ((toC (getV r9)).tail.headD .dead)),AV.int .i64 (toI ((toC (getV r9)).tail.tail.headD .dead)),AV.int .i64 (toI ((toC (getV r9)).tail.tail.tail.headD .dead)),AV.int .i64 (toI ((toC (getV r9)).tail.tail.tail.tail.headD .dead)),AV.int .i64 (toI ((toC (getV r9)).tail.tail.tail.tail.tail.headD .dead)),AV.int .i64 (toI ((toC (getV r9)).tail.tail.tail.tail.tail.tail.headD .dead)),AV.int .i64 (toI ((toC (getV r9)).tail.tail.tail.tail.tail.tail.tail.headD .dead)),AV.flt .f64 (toF ((toC (getV r9)).tail.tail.tail.tail.tail.tail.tail.tail.headD .dead)),AV.flt .f64 (toF ((toC (getV r9)).tail.tail.tail.tail.tail.tail.tail.tail.tail.headD .dead)),AV.flt .f64 (toF ((toC (getV r9)).tail.tail.tail.tail.tail.tail.tail.tail.tail.tail.headD .dead))])
noncomputable def mbars_springs_c1 (z5 zr zq : Mo) (fuel : Nat) (xs : List AV) : Option AV := match xs with
  | [AV.int .u8 qio,AV.agg [AV.int .i64 qgy,AV.int .i64 qgu,AV.int .i64 qgx,AV.int .i64 qgw,AV.int .i64 qgr,AV.int .i64 qgz],AV.rp f0n f0g,AV.rp f1n f1g,AV.rp f2n f2g,AV.rp f3n f3g] => gbars_springs_c1 z5 zr zq fuel qio qgy qgu qgx qgw qgr qgz f0n f0g f1n f1g f2n f2g f3n f3g
  | _ => none
abbrev Rbars_springs_c1 : List RS := [RS.agg [LK.i .i64,LK.i .u8,LK.i .i64,LK.i .i64,LK.i .i64,LK.i .i64,LK.i .i64,LK.i .i64,LK.f .f64,LK.f .f64,LK.f .f64]]
theorem gbars_springs_c1_sm (z5 zr zq : Mo) (fuel : Nat) (hΓ : GamOk Pr (Gbars_springs_c1 z5 zr zq)) (hP : NamesOk Pr) : SmOk Pr 123 (smM Rbars_springs_c1 (mbars_springs_c1 z5 zr zq fuel)) := sm0 (fuel := fuel) (d := 7) hΓ hP fun xs v h => by
  unfold mbars_springs_c1 at h
  split at h
  · exact Eq.trans (by kernel_rfl) h
  · cases h
noncomputable def Lbars_springs_a (zo vu : Mo) (z5 zr : Mo) (zq yd va : Mo) (fuel : Nat) : Lam AV := []
noncomputable def Gbars_springs_a (zo vu : Mo) (z5 zr : Mo) (zq yd va : Mo) : Gam := [(118,smM [RS.one (LK.i .i64),RS.one (LK.i .i64),RS.one (LK.i .i64)] zo),(119,smM [RS.agg [LK.f .f64,LK.f .f64],RS.one (LK.f .f64)] vu),(122,smM [RS.agg [LK.f .f64,LK.f .f64]] z5),(121,smM [RS.agg [LK.f .f64,LK.f .f64]] zr),(120,smM [RS.agg [LK.i .i64,LK.i .u8,LK.i .i64,LK.i .i64,LK.i .i64,LK.i .i64,LK.i .i64,LK.i .i64,LK.f .f64,LK.f .f64,LK.f .f64]] zq),(124,smM [RS.one LK.b,RS.one LK.b] yd),(123,smM [RS.agg [LK.i .i64,LK.i .u8,LK.i .i64,LK.i .i64,LK.i .i64,LK.i .i64,LK.i .i64,LK.i .i64,LK.f .f64,LK.f .f64,LK.f .f64]] va)]
noncomputable def gbars_springs_a (zo vu : Mo) (z5 zr : Mo) (zq yd va : Mo) (fuel p9 qa0 : Nat) (vz : Ge) (qah qar : Nat) (yn : Ge) (qjn : ByteArray) (qjq qcq qcr : Int) (qjs qjp : Bool) (qg7 qh1 qh2 : Option Nat) : Option AV :=
  ck (decide (0 ≤ qcq)) <| ck (decide (qcq < (↑p9 : Int))) <| ck (fitKs [LK.s,LK.i .i32,LK.i .i32,LK.i .u8] [vz qcq.toNat 0,vz qcq.toNat 1,vz qcq.toNat 2,vz qcq.toNat 3]) <| ck (decide (0 ≤ qcr)) <| ck (decide (qcr < (↑p9 : Int))) <| ck (fitKs [LK.s,LK.i .i32,LK.i .i32,LK.i .u8] [vz qcr.toNat 0,vz qcr.toNat 1,vz qcr.toNat 2,vz qcr.toNat 3]) <| let r0 : Option AV := zo [AV.agg [AV.str (toS (vz qcq.toNat 0)),AV.int .i32 (toI (vz qcq.toNat 1)),AV.int .i32 (toI (vz qcq.toNat 2)),AV.int .u8 (toI (vz qcq.toNat 3))],AV.agg [AV.str (toS (vz qcr.toNat 0)),AV.int .i32 (toI (vz qcr.toNat 1)),AV.int .i32 (toI (vz qcr.toNat 2)),AV.int .u8 (toI (vz qcr.toNat 3))]]; ck (okM [RS.one (LK.i .i64),RS.one (LK.i .i64),RS.one (LK.i .i64)] r0) <| ck (decide (0 ≤ qcq)) <| ck (decide (qcq < (↑p9 : Int))) <| ck (fitKs [LK.s,LK.i .i32,LK.i .i32,LK.i .u8] [vz qcq.toNat 0,vz qcq.toNat 1,vz qcq.toNat 2,vz qcq.toNat 3]) <| ck (decide (0 ≤ qcr)) <| ck (decide (qcr < (↑p9 : Int))) <| ck (fitKs [LK.s,LK.i .i32,LK.i .i32,LK.i .u8] [vz qcr.toNat 0,vz qcr.toNat 1,vz qcr.toNat 2,vz qcr.toNat 3]) <| let r1 : Option AV := vu [AV.agg [AV.str (toS (vz qcq.toNat 0)),AV.int .i32 (toI (vz qcq.toNat 1)),AV.int .i32 (toI (vz qcq.toNat 2)),AV.int .u8 (toI (vz qcq.toNat 3))],AV.agg [AV.str (toS (vz qcr.toNat 0)),AV.int .i32 (toI (vz qcr.toNat 1)),AV.int .i32 (toI (vz qcr.toNat 2)),AV.int .u8 (toI (vz qcr.toNat 3))]]; ck (okM [RS.agg [LK.f .f64,LK.f .f64],RS.one (LK.f .f64)] r1) <| let r2 : Option AV := z5 [AV.flt .f64 qg7]; ck (okM [RS.agg [LK.f .f64,LK.f .f64]] r2) <| let r3 : Option AV := z5 [AV.flt .f64 qh1]; ck (okM [RS.agg [LK.f .f64,LK.f .f64]] r3) <| let r4 : Option AV := zr [AV.ro 2 2 2 fun (i j : Nat) => ([[AV.flt .f64 (toF ((toC (getV r2)).headD .dead)),AV.flt .f64 (toF ((toC (getV r2)).tail.headD .dead))],[AV.flt .f64 (toF ((toC (getV r3)).headD .dead)),AV.flt .f64 (toF ((toC (getV r3)).tail.headD .dead))]].getD i []).getD j AV.dead]; ck (okM [RS.agg [LK.f .f64,LK.f .f64]] r4) <| let r5 : Option AV := z5 [AV.flt .f64 (some (FloatKind.f64.nearest (toI ((toT (getV r0)).tail.tail.headD .dead))))]; ck (okM [RS.agg [LK.f .f64,LK.f .f64]] r5) <| let r6 : Option AV := zr [AV.ro 2 2 2 fun (i j : Nat) => ([[AV.flt .f64 (toF ((toC (getV r5)).headD .dead)),AV.flt .f64 (toF ((toC (getV r5)).tail.headD .dead))],[AV.flt .f64 (toF ((toC ((toT (getV r1)).headD .dead)).headD .dead)),AV.flt .f64 (toF ((toC ((toT (getV r1)).headD .dead)).tail.headD .dead))]].getD i []).getD j AV.dead]; ck (okM [RS.agg [LK.f .f64,LK.f .f64]] r6) <| let r7 : Option AV := zq [AV.int .u8 1,AV.agg [AV.int .i64 (IntKind.i64.wrap (0 - toI ((toT (getV r0)).headD .dead))),AV.int .i64 (IntKind.i64.wrap (0 - toI ((toT (getV r0)).tail.headD .dead))),AV.int .i64 0,AV.int .i64 (toI ((toT (getV r0)).headD .dead)),AV.int .i64 (toI ((toT (getV r0)).tail.headD .dead)),AV.int .i64 0],AV.agg [AV.flt .f64 (toF ((toC (getV r4)).headD .dead)),AV.flt .f64 (toF ((toC (getV r4)).tail.headD .dead))],AV.agg [AV.flt .f64 (toF ((toC (getV r6)).headD .dead)),AV.flt .f64 (toF ((toC (getV r6)).tail.headD .dead))],AV.flt .f64 (farith BinOp.mul .f64 qg7 qh1),AV.flt .f64 (farith BinOp.mul .f64 (some (FloatKind.f64.nearest (toI ((toT (getV r0)).tail.tail.headD .dead)))) (toF ((toT (getV r1)).tail.headD .dead)))]; ck (okM [RS.agg [LK.i .i64,LK.i .u8,LK.i .i64,LK.i .i64,LK.i .i64,LK.i .i64,LK.i .i64,LK.i .i64,LK.f .f64,LK.f .f64,LK.f .f64]] r7) <| let r8 : Option AV := yd [AV.agg [AV.str qjn,AV.int .u8 qjq,AV.int .i64 qcq,AV.int .i64 qcr,AV.bool qjs,AV.bool qjp,AV.flt .f64 qg7,AV.flt .f64 qh1,AV.flt .f64 qh2]]; ck (okM [RS.one LK.b,RS.one LK.b] r8) <| bif bif toB ((toT (getV r8)).headD .dead) then toB ((toT (getV r8)).tail.headD .dead) else false then let r9 : Option AV := z5 [AV.flt .f64 qg7]; ck (okM [RS.agg [LK.f .f64,LK.f .f64]] r9) <| let r10 : Option AV := z5 [AV.flt .f64 qh2]; ck (okM [RS.agg [LK.f .f64,LK.f .f64]] r10) <| let r11 : Option AV := zr [AV.ro 2 2 2 fun (i j : Nat) => ([[AV.flt .f64 (toF ((toC (getV r9)).headD .dead)),AV.flt .f64 (toF ((toC (getV r9)).tail.headD .dead))],[AV.flt .f64 (toF ((toC (getV r10)).headD .dead)),AV.flt .f64 (toF ((toC (getV r10)).tail.headD .dead))]].getD i []).getD j AV.dead]; ck (okM [RS.agg [LK.f .f64,LK.f .f64]] r11) <| let r12 : Option AV := zq [AV.int .u8 3,AV.agg [AV.int .i64 0,AV.int .i64 0,AV.int .i64 1,AV.int .i64 0,AV.int .i64 0,AV.int .i64 (-1)],AV.agg [AV.flt .f64 (toF ((toC (getV r11)).headD .dead)),AV.flt .f64 (toF ((toC (getV r11)).tail.headD .dead))],AV.agg [AV.flt .f64 (toF ((toC ((toT (getV r1)).headD .dead)).headD .dead)),AV.flt .f64 (toF ((toC ((toT (getV r1)).headD .dead)).tail.headD .dead))],AV.flt .f64 (farith BinOp.mul .f64 qg7 qh2),AV.flt .f64 (toF ((toT (getV r1)).tail.headD .dead))]; ck (okM [RS.agg [LK.i .i64,LK.i .u8,LK.i .i64,LK.i .i64,LK.i .i64,LK.i .i64,LK.i .i64,LK.i .i64,LK.f .f64,LK.f .f64,LK.f .f64]] r12) <| let r13 : Option AV := va [AV.int .u8 2,AV.agg [AV.int .i64 (IntKind.i64.wrap ((-2) * toI ((toT (getV r0)).tail.headD .dead))),AV.int .i64 (IntKind.i64.wrap (2 * toI ((toT (getV r0)).headD .dead))),AV.int .i64 (toI ((toT (getV r0)).tail.tail.headD .dead)),AV.int .i64 (IntKind.i64.wrap (2 * toI ((toT (getV r0)).tail.headD .dead))),AV.int .i64 (IntKind.i64.wrap ((-2) * toI ((toT (getV r0)).headD .dead))),AV.int .i64 (toI ((toT (getV r0)).tail.tail.headD .dead))],AV.rp ([AV.str qjn,AV.int .u8 qjq,AV.int .i64 qcq,AV.int .i64 qcr,AV.bool qjs,AV.bool qjp,AV.flt .f64 qg7,AV.flt .f64 qh1,AV.flt .f64 qh2].length - 0) fun (j : Nat) => [AV.str qjn,AV.int .u8 qjq,AV.int .i64 qcq,AV.int .i64 qcr,AV.bool qjs,AV.bool qjp,AV.flt .f64 qg7,AV.flt .f64 qh1,AV.flt .f64 qh2].getD (0 + j) AV.dead,AV.rp ([AV.flt .f64 (some (FloatKind.f64.nearest (toI ((toT (getV r0)).tail.tail.headD .dead))))].length - 0) fun (j : Nat) => [AV.flt .f64 (some (FloatKind.f64.nearest (toI ((toT (getV r0)).tail.tail.headD .dead))))].getD (0 + j) AV.dead,AV.rp ([AV.flt .f64 (toF ((toC ((toT (getV r1)).headD .dead)).headD .dead)),AV.flt .f64 (toF ((toC ((toT (getV r1)).headD .dead)).tail.headD .dead))].length - 0) fun (j : Nat) => [AV.flt .f64 (toF ((toC ((toT (getV r1)).headD .dead)).headD .dead)),AV.flt .f64 (toF ((toC ((toT (getV r1)).headD .dead)).tail.headD .dead))].getD (0 + j) AV.dead,AV.rp ([AV.flt .f64 (toF ((toT (getV r1)).tail.headD .dead))].length - 0) fun (j : Nat) => [AV.flt .f64 (toF ((toT (getV r1)).tail.headD .dead))].getD (0 + j) AV.dead]; ck (okM [RS.agg [LK.i .i64,LK.i .u8,LK.i .i64,LK.i .i64,LK.i .i64,LK.i .i64,LK.i .i64,LK.i .i64,LK.f .f64,LK.f .f64,LK.f .f64]] r13) <| some (AV.tup [AV.ro 11 [[AV.int .i64 (toI ((toC (getV r7)).headD .dead)),AV.int .u8 (toI ((toC (getV r7)).tail.headD .dead)),AV.int .i64 (toI ((toC (getV r7)).tail.tail.headD .dead)),AV.int .i64 (toI ((toC (getV r7)).tail.tail.tail.headD .dead)),AV.int .i64 (toI ((toC (getV r7)).tail.tail.tail.tail.headD .dead)),AV.int .i64 (toI ((toC (getV r7)).tail.tail.tail.tail.tail.headD .dead)),AV.int .i64 (toI ((toC (getV r7)).tail.tail.tail.tail.tail.tail.headD .dead)),AV.int .i64 (toI ((toC (getV r7)).tail.tail.tail.tail.tail.tail.tail.headD .dead)),AV.flt .f64 (toF ((toC (getV r7)).tail.tail.tail.tail.tail.tail.tail.tail.headD .dead)),AV.flt .f64 (toF ((toC (getV r7)).tail.tail.tail.tail.tail.tail.tail.tail.tail.headD .dead)),AV.flt .f64 (toF ((toC (getV r7)).tail.tail.tail.tail.tail.tail.tail.tail.tail.tail.headD .dead))],[AV.int .i64 (toI ((toC (getV r13)).headD .dead)),AV.int .u8 (toI ((toC (getV r13)).tail.headD .dead)),AV.int .i64 (toI ((toC (getV r13)).tail.tail.headD .dead)),AV.int .i64 (toI ((toC (getV r13)).tail.tail.tail.headD .dead)),AV.int .i64 (toI ((toC (getV r13)).tail.tail.tail.tail.headD .dead)),AV.int .i64 (toI ((toC (getV r13)).tail.tail.tail.tail.tail.headD .dead)),AV.int .i64 (toI ((toC (getV r13)).tail.tail.tail.tail.tail.tail.headD .dead)),AV.int .i64 (toI ((toC (getV r13)).tail.tail.tail.tail.tail.tail.tail.headD .dead)),AV.flt .f64 (toF ((toC (getV r13)).tail.tail.tail.tail.tail.tail.tail.tail.headD .dead)),AV.flt .f64 (toF ((toC (getV r13)).tail.tail.tail.tail.tail.tail.tail.tail.tail.headD .dead)),AV.flt .f64 (toF ((toC (getV r13)).tail.tail.tail.tail.tail.tail.tail.tail.tail.tail.headD .dead))],[AV.int .i64 (toI ((toC (getV r12)).headD .dead)),AV.int .u8 (toI ((toC (getV r12)).tail.headD .dead)),AV.int .i64 (toI ((toC (getV r12)).tail.tail.headD .dead)),AV.int .i64 (toI ((toC (getV r12)).tail.tail.tail.headD .dead)),AV.int .i64 (toI ((toC (getV r12)).tail.tail.tail.tail.headD .dead)),AV.int .i64 (toI ((toC (getV r12)).tail.tail.tail.tail.tail.headD .dead)),AV.int .i64 (toI ((toC (getV r12)).tail.tail.tail.tail.tail.tail.headD .dead)),AV.int .i64 (toI ((toC (getV r12)).tail.tail.tail.tail.tail.tail.tail.headD .dead)),AV.flt .f64 (toF ((toC (getV r12)).tail.tail.tail.tail.tail.tail.tail.tail.headD .dead)),AV.flt .f64 (toF ((toC (getV r12)).tail.tail.tail.tail.tail.tail.tail.tail.tail.headD .dead)),AV.flt .f64 (toF ((toC (getV r12)).tail.tail.tail.tail.tail.tail.tail.tail.tail.tail.headD .dead))]].length [[AV.int .i64 (toI ((toC (getV r7)).headD .dead)),AV.int .u8 (toI ((toC (getV r7)).tail.headD .dead)),AV.int .i64 (toI ((toC (getV r7)).tail.tail.headD .dead)),AV.int .i64 (toI ((toC (getV r7)).tail.tail.tail.headD .dead)),AV.int .i64 (toI ((toC (getV r7)).tail.tail.tail.tail.headD .dead)),AV.int .i64 (toI ((toC (getV r7)).tail.tail.tail.tail.tail.headD .dead)),AV.int .i64 (toI ((toC (getV r7)).tail.tail.tail.tail.tail.tail.headD .dead)),AV.int .i64 (toI ((toC (getV r7)).tail.tail.tail.tail.tail.tail.tail.headD .dead)),AV.flt .f64 (toF ((toC (getV r7)).tail.tail.tail.tail.tail.tail.tail.tail.headD .dead)),AV.flt .f64 (toF ((toC (getV r7)).tail.tail.tail.tail.tail.tail.tail.tail.tail.headD .dead)),AV.flt .f64 (toF ((toC (getV r7)).tail.tail.tail.tail.tail.tail.tail.tail.tail.tail.headD .dead))],[AV.int .i64 (toI ((toC (getV r13)).headD .dead)),AV.int .u8 (toI ((toC (getV r13)).tail.headD .dead)),AV.int .i64 (toI ((toC (getV r13)).tail.tail.headD .dead)),AV.int .i64 (toI ((toC (getV r13)).tail.tail.tail.headD .dead)),AV.int .i64 (toI ((toC (getV r13)).tail.tail.tail.tail.headD .dead)),AV.int .i64 (toI ((toC (getV r13)).tail.tail.tail.tail.tail.headD .dead)),AV.int .i64 (toI ((toC (getV r13)).tail.tail.tail.tail.tail.tail.headD .dead)),AV.int .i64 (toI ((toC (getV r13)).tail.tail.tail.tail.tail.tail.tail.headD .dead)),AV.flt .f64 (toF ((toC (getV r13)).tail.tail.tail.tail.tail.tail.tail.tail.headD .dead)),AV.flt .f64 (toF ((toC (getV r13)).tail.tail.tail.tail.tail.tail.tail.tail.tail.headD .dead)),AV.flt .f64 (toF ((toC (getV r13)).tail.tail.tail.tail.tail.tail.tail.tail.tail.tail.headD .dead))],[AV.int .i64 (toI ((toC (getV r12)).headD .dead)),AV.int .u8 (toI ((toC (getV r12)).tail.headD .dead)),AV.int .i64 (toI ((toC (getV r12)).tail.tail.headD .dead)),AV.int .i64 (toI ((toC (getV r12)).tail.tail.tail.headD .dead)),AV.int .i64 (toI ((toC (getV r12)).tail.tail.tail.tail.headD .dead)),AV.int .i64 (toI ((toC (getV r12)).tail.tail.tail.tail.tail.headD .dead)),AV.int .i64 (toI ((toC (getV r12)).tail.tail.tail.tail.tail.tail.headD .dead)),AV.int .i64 (toI ((toC (getV r12)).tail.tail.tail.tail.tail.tail.tail.headD .dead)),AV.flt .f64 (toF ((toC (getV r12)).tail.tail.tail.tail.tail.tail.tail.tail.headD .dead)),AV.flt .f64 (toF ((toC (getV r12)).tail.tail.tail.tail.tail.tail.tail.tail.tail.headD .dead)),AV.flt .f64 (toF ((toC (getV r12)).tail.tail.tail.tail.tail.tail.tail.tail.tail.tail.headD .dead))]].length fun (i j : Nat) => ([[AV.int .i64 (toI ((toC (getV r7)).headD .dead)),AV.int .u8 (toI ((toC (getV r7)).tail.headD .dead)),AV.int .i64 (toI ((toC (getV r7)).tail.tail.headD .dead)),AV.int .i64 (toI ((toC (getV r7)).tail.tail.tail.headD .dead)),AV.int .i64 (toI ((toC (getV r7)).tail.tail.tail.tail.headD .dead)),AV.int .i64 (toI ((toC (getV r7)).tail.tail.tail.tail.tail.headD .dead)),AV.int .i64 (toI ((toC (getV r7)).tail.tail.tail.tail.tail.tail.headD .dead)),AV.int .i64 (toI ((toC (getV r7)).tail.tail.tail.tail.tail.tail.tail.headD .dead)),AV.flt .f64 (toF ((toC (getV r7)).tail.tail.tail.tail.tail.tail.tail.tail.headD .dead)),AV.flt .f64 (toF ((toC (getV r7)).tail.tail.tail.tail.tail.tail.tail.tail.tail.headD .dead)),AV.flt .f64 (toF ((toC (getV r7)).tail.tail.tail.tail.tail.tail.tail.tail.tail.tail.headD .dead))],[AV.int .i64 (toI ((toC (getV r13)).headD .dead)),AV.int .u8 (toI ((toC (getV r13)).tail.headD .dead)),AV.int .i64 (toI ((toC (getV r13)).tail.tail.headD .dead)),AV.int .i64 (toI ((toC (getV r13)).tail.tail.tail.headD .dead)),AV.int .i64 (toI ((toC (getV r13)).tail.tail.tail.tail.headD .dead)),AV.int .i64 (toI ((toC (getV r13)).tail.tail.tail.tail.tail.headD .dead)),AV.int .i64 (toI ((toC (getV r13)).tail.tail.tail.tail.tail.tail.headD .dead)),AV.int .i64 (toI ((toC (getV r13)).tail.tail.tail.tail.tail.tail.tail.headD .dead)),AV.flt .f64 (toF ((toC (getV r13)).tail.tail.tail.tail.tail.tail.tail.tail.headD .dead)),AV.flt .f64 (toF ((toC (getV r13)).tail.tail.tail.tail.tail.tail.tail.tail.tail.headD .dead)),AV.flt .f64 (toF ((toC (getV r13)).tail.tail.tail.tail.tail.tail.tail.tail.tail.tail.headD .dead))],[AV.int .i64 (toI ((toC (getV r12)).headD .dead)),AV.int .u8 (toI ((toC (getV r12)).tail.headD .dead)),AV.int .i64 (toI ((toC (getV r12)).tail.tail.headD .dead)),AV.int .i64 (toI ((toC (getV r12)).tail.tail.tail.headD .dead)),AV.int .i64 (toI ((toC (getV r12)).tail.tail.tail.tail.headD .dead)),AV.int .i64 (toI ((toC (getV r12)).tail.tail.tail.tail.tail.headD .dead)),AV.int .i64 (toI ((toC (getV r12)).tail.tail.tail.tail.tail.tail.headD .dead)),AV.int .i64 (toI ((toC (getV r12)).tail.tail.tail.tail.tail.tail.tail.headD .dead)),AV.flt .f64 (toF ((toC (getV r12)).tail.tail.tail.tail.tail.tail.tail.tail.headD .dead)),AV.flt .f64 (toF ((toC (getV r12)).tail.tail.tail.tail.tail.tail.tail.tail.tail.headD .dead)),AV.flt .f64 (toF ((toC (getV r12)).tail.tail.tail.tail.tail.tail.tail.tail.tail.tail.headD .dead))]].getD i []).getD j AV.dead])
  else bif toB ((toT (getV r8)).headD .dead) then let r14 : Option AV := va [AV.int .u8 4,AV.agg [AV.int .i64 (IntKind.i64.wrap (0 - toI ((toT (getV r0)).tail.headD .dead))),AV.int .i64 (toI ((toT (getV r0)).headD .dead)),AV.int .i64 (toI ((toT (getV r0)).tail.tail.headD .dead)),AV.int .i64 (toI ((toT (getV r0)).tail.headD .dead)),AV.int .i64 (IntKind.i64.wrap (0 - toI ((toT (getV r0)).headD .dead))),AV.int .i64 0],AV.rp ([AV.str qjn,AV.int .u8 qjq,AV.int .i64 qcq,AV.int .i64 qcr,AV.bool qjs,AV.bool qjp,AV.flt .f64 qg7,AV.flt .f64 qh1,AV.flt .f64 qh2].length - 0) fun (j : Nat) => [AV.str qjn,AV.int .u8 qjq,AV.int .i64 qcq,AV.int .i64 qcr,AV.bool qjs,AV.bool qjp,AV.flt .f64 qg7,AV.flt .f64 qh1,AV.flt .f64 qh2].getD (0 + j) AV.dead,AV.rp ([AV.flt .f64 (some (FloatKind.f64.nearest (toI ((toT (getV r0)).tail.tail.headD .dead))))].length - 0) fun (j : Nat) => [AV.flt .f64 (some (FloatKind.f64.nearest (toI ((toT (getV r0)).tail.tail.headD .dead))))].getD (0 + j) AV.dead,AV.rp ([AV.flt .f64 (toF ((toC ((toT (getV r1)).headD .dead)).headD .dead)),AV.flt .f64 (toF ((toC ((toT (getV r1)).headD .dead)).tail.headD .dead))].length - 0) fun (j : Nat) => [AV.flt .f64 (toF ((toC ((toT (getV r1)).headD .dead)).headD .dead)),AV.flt .f64 (toF ((toC ((toT (getV r1)).headD .dead)).tail.headD .dead))].getD (0 + j) AV.dead,AV.rp ([AV.flt .f64 (toF ((toT (getV r1)).tail.headD .dead))].length - 0) fun (j : Nat) => [AV.flt .f64 (toF ((toT (getV r1)).tail.headD .dead))].getD (0 + j) AV.dead]; ck (okM [RS.agg [LK.i .i64,LK.i .u8,LK.i .i64,LK.i .i64,LK.i .i64,LK.i .i64,LK.i .i64,LK.i .i64,LK.f .f64,LK.f .f64,LK.f .f64]] r14) <| some (AV.tup [AV.ro 11 [[AV.int .i64 (toI ((toC (getV r7)).headD .dead)),AV.int .u8 (toI ((toC (getV r7)).tail.headD .dead)),AV.int .i64 (toI ((toC (getV r7)).tail.tail.headD .dead)),AV.int .i64 (toI ((toC (getV r7)).tail.tail.tail.headD .dead)),AV.int .i64 (toI ((toC (getV r7)).tail.tail.tail.tail.headD .dead)),AV.int .i64 (toI ((toC (getV r7)).tail.tail.tail.tail.tail.headD .dead)),AV.int .i64 (toI ((toC (getV r7)).tail.tail.tail.tail.tail.tail.headD .dead)),AV.int .i64 (toI ((toC (getV r7)).tail.tail.tail.tail.tail.tail.tail.headD .dead)),AV.flt .f64 (toF ((toC (getV r7)).tail.tail.tail.tail.tail.tail.tail.tail.headD .dead)),AV.flt .f64 (toF ((toC (getV r7)).tail.tail.tail.tail.tail.tail.tail.tail.tail.headD .dead)),AV.flt .f64 (toF ((toC (getV r7)).tail.tail.tail.tail.tail.tail.tail.tail.tail.tail.headD .dead))],[AV.int .i64 (toI ((toC (getV r14)).headD .dead)),AV.int .u8 (toI ((toC (getV r14)).tail.headD .dead)),AV.int .i64 (toI ((toC (getV r14)).tail.tail.headD .dead)),AV.int .i64 (toI ((toC (getV r14)).tail.tail.tail.headD .dead)),AV.int .i64 (toI ((toC (getV r14)).tail.tail.tail.tail.headD .dead)),AV.int .i64 (toI ((toC (getV r14)).tail.tail.tail.tail.tail.headD .dead)),AV.int .i64 (toI ((toC (getV r14)).tail.tail.tail.tail.tail.tail.headD .dead)),AV.int .i64 (toI ((toC (getV r14)).tail.tail.tail.tail.tail.tail.tail.headD .dead)),AV.flt .f64 (toF ((toC (getV r14)).tail.tail.tail.tail.tail.tail.tail.tail.headD .dead)),AV.flt .f64 (toF ((toC (getV r14)).tail.tail.tail.tail.tail.tail.tail.tail.tail.headD .dead)),AV.flt .f64 (toF ((toC (getV r14)).tail.tail.tail.tail.tail.tail.tail.tail.tail.tail.headD .dead))]].length [[AV.int .i64 (toI ((toC (getV r7)).headD .dead)),AV.int .u8 (toI ((toC (getV r7)).tail.headD .dead)),AV.int .i64 (toI ((toC (getV r7)).tail.tail.headD .dead)),AV.int .i64 (toI ((toC (getV r7)).tail.tail.tail.headD .dead)),AV.int .i64 (toI ((toC (getV r7)).tail.tail.tail.tail.headD .dead)),AV.int .i64 (toI ((toC (getV r7)).tail.tail.tail.tail.tail.headD .dead)),AV.int .i64 (toI ((toC (getV r7)).tail.tail.tail.tail.tail.tail.headD .dead)),AV.int .i64 (toI ((toC (getV r7)).tail.tail.tail.tail.tail.tail.tail.headD .dead)),AV.flt .f64 (toF ((toC (getV r7)).tail.tail.tail.tail.tail.tail.tail.tail.headD .dead)),AV.flt .f64 (toF ((toC (getV r7)).tail.tail.tail.tail.tail.tail.tail.tail.tail.headD .dead)),AV.flt .f64 (toF ((toC (getV r7)).tail.tail.tail.tail.tail.tail.tail.tail.tail.tail.headD .dead))],[AV.int .i64 (toI ((toC (getV r14)).headD .dead)),AV.int .u8 (toI ((toC (getV r14)).tail.headD .dead)),AV.int .i64 (toI ((toC (getV r14)).tail.tail.headD .dead)),AV.int .i64 (toI ((toC (getV r14)).tail.tail.tail.headD .dead)),AV.int .i64 (toI ((toC (getV r14)).tail.tail.tail.tail.headD .dead)),AV.int .i64 (toI ((toC (getV r14)).tail.tail.tail.tail.tail.headD .dead)),AV.int .i64 (toI ((toC (getV r14)).tail.tail.tail.tail.tail.tail.headD .dead)),AV.int .i64 (toI ((toC (getV r14)).tail.tail.tail.tail.tail.tail.tail.headD .dead)),AV.flt .f64 (toF ((toC (getV r14)).tail.tail.tail.tail.tail.tail.tail.tail.headD .dead)),AV.flt .f64 (toF ((toC (getV r14)).tail.tail.tail.tail.tail.tail.tail.tail.tail.headD .dead)),AV.flt .f64 (toF ((toC (getV r14)).tail.tail.tail.tail.tail.tail.tail.tail.tail.tail.headD .dead))]].length fun (i j : Nat) => ([[AV.int .i64 (toI ((toC (getV r7)).headD .dead)),AV.int .u8 (toI ((toC (getV r7)).tail.headD .dead)),AV.int .i64 (toI ((toC (getV r7)).tail.tail.headD .dead)),AV.int .i64 (toI ((toC (getV r7)).tail.tail.tail.headD .dead)),AV.int .i64 (toI ((toC (getV r7)).tail.tail.tail.tail.headD .dead)),AV.int .i64 (toI ((toC (getV r7)).tail.tail.tail.tail.tail.headD .dead)),AV.int .i64 (toI ((toC (getV r7)).tail.tail.tail.tail.tail.tail.headD .dead)),AV.int .i64 (toI ((toC (getV r7)).tail.tail.tail.tail.tail.tail.tail.headD .dead)),AV.flt .f64 (toF ((toC (getV r7)).tail.tail.tail.tail.tail.tail.tail.tail.headD .dead)),AV.flt .f64 (toF ((toC (getV r7)).tail.tail.tail.tail.tail.tail.tail.tail.tail.headD .dead)),AV.flt .f64 (toF ((toC (getV r7)).tail.tail.tail.tail.tail.tail.tail.tail.tail.tail.headD .dead))],[AV.int .i64 (toI ((toC (getV r14)).headD .dead)),AV.int .u8 (toI ((toC (getV r14)).tail.headD .dead)),AV.int .i64 (toI ((toC (getV r14)).tail.tail.headD .dead)),AV.int .i64 (toI ((toC (getV r14)).tail.tail.tail.headD .dead)),AV.int .i64 (toI ((toC (getV r14)).tail.tail.tail.tail.headD .dead)),AV.int .i64 (toI ((toC (getV r14)).tail.tail.tail.tail.tail.headD .dead)),AV.int .i64 (toI ((toC (getV r14)).tail.tail.tail.tail.tail.tail.headD .dead)),AV.int .i64 (toI ((toC (getV r14)).tail.tail.tail.tail.tail.tail.tail.headD .dead)),AV.flt .f64 (toF ((toC (getV r14)).tail.tail.tail.tail.tail.tail.tail.tail.headD .dead)),AV.flt .f64 (toF ((toC (getV r14)).tail.tail.tail.tail.tail.tail.tail.tail.tail.headD .dead)),AV.flt .f64 (toF ((toC (getV r14)).tail.tail.tail.tail.tail.tail.tail.tail.tail.tail.headD .dead))]].getD i []).getD j AV.dead])
  else bif toB ((toT (getV r8)).tail.headD .dead) then let r15 : Option AV := va [AV.int .u8 4,AV.agg [AV.int .i64 (IntKind.i64.wrap (0 - toI ((toT (getV r0)).tail.headD .dead))),AV.int .i64 (toI ((toT (getV r0)).headD .dead)),AV.int .i64 0,AV.int .i64 (toI ((toT (getV r0)).tail.headD .dead)),AV.int .i64 (IntKind.i64.wrap (0 - toI ((toT (getV r0)).headD .dead))),AV.int .i64 (toI ((toT (getV r0)).tail.tail.headD .dead))],AV.rp ([AV.str qjn,AV.int .u8 qjq,AV.int .i64 qcq,AV.int .i64 qcr,AV.bool qjs,AV.bool qjp,AV.flt .f64 qg7,AV.flt .f64 qh1,AV.flt .f64 qh2].length - 0) fun (j : Nat) => [AV.str qjn,AV.int .u8 qjq,AV.int .i64 qcq,AV.int .i64 qcr,AV.bool qjs,AV.bool qjp,AV.flt .f64 qg7,AV.flt .f64 qh1,AV.flt .f64 qh2].getD (0 + j) AV.dead,AV.rp ([AV.flt .f64 (some (FloatKind.f64.nearest (toI ((toT (getV r0)).tail.tail.headD .dead))))].length - 0) fun (j : Nat) => [AV.flt .f64 (some (FloatKind.f64.nearest (toI ((toT (getV r0)).tail.tail.headD .dead))))].getD (0 + j) AV.dead,AV.rp ([AV.flt .f64 (toF ((toC ((toT (getV r1)).headD .dead)).headD .dead)),AV.flt .f64 (toF ((toC ((toT (getV r1)).headD .dead)).tail.headD .dead))].length - 0) fun (j : Nat) => [AV.flt .f64 (toF ((toC ((toT (getV r1)).headD .dead)).headD .dead)),AV.flt .f64 (toF ((toC ((toT (getV r1)).headD .dead)).tail.headD .dead))].getD (0 + j) AV.dead,AV.rp ([AV.flt .f64 (toF ((toT (getV r1)).tail.headD .dead))].length - 0) fun (j : Nat) => [AV.flt .f64 (toF ((toT (getV r1)).tail.headD .dead))].getD (0 + j) AV.dead]; ck (okM [RS.agg [LK.i .i64,LK.i .u8,LK.i .i64,LK.i .i64,LK.i .i64,LK.i .i64,LK.i .i64,LK.i .i64,LK.f .f64,LK.f .f64,LK.f .f64]] r15) <| some (AV.tup [AV.ro 11 [[AV.int .i64 (toI ((toC (getV r7)).headD .dead)),AV.int .u8 (toI ((toC (getV r7)).tail.headD .dead)),AV.int .i64 (toI ((toC (getV r7)).tail.tail.headD .dead)),AV.int .i64 (toI ((toC (getV r7)).tail.tail.tail.headD .dead)),AV.int .i64 (toI ((toC (getV r7)).tail.tail.tail.tail.headD .dead)),AV.int .i64 (toI ((toC (getV r7)).tail.tail.tail.tail.tail.headD .dead)),AV.int .i64 (toI ((toC (getV r7)).tail.tail.tail.tail.tail.tail.headD .dead)),AV.int .i64 (toI ((toC (getV r7)).tail.tail.tail.tail.tail.tail.tail.headD .dead)),AV.flt .f64 (toF ((toC (getV r7)).tail.tail.tail.tail.tail.tail.tail.tail.headD .dead)),AV.flt .f64 (toF ((toC (getV r7)).tail.tail.tail.tail.tail.tail.tail.tail.tail.headD .dead)),AV.flt .f64 (toF ((toC (getV r7)).tail.tail.tail.tail.tail.tail.tail.tail.tail.tail.headD .dead))],[AV.int .i64 (toI ((toC (getV r15)).headD .dead)),AV.int .u8 (toI ((toC (getV r15)).tail.headD .dead)),AV.int .i64 (toI ((toC (getV r15)).tail.tail.headD .dead)),AV.int .i64 (toI ((toC (getV r15)).tail.tail.tail.headD .dead)),AV.int .i64 (toI ((toC (getV r15)).tail.tail.tail.tail.headD .dead)),AV.int .i64 (toI ((toC (getV r15)).tail.tail.tail.tail.tail.headD .dead)),AV.int .i64 (toI ((toC (getV r15)).tail.tail.tail.tail.tail.tail.headD .dead)),AV.int .i64 (toI ((toC (getV r15)).tail.tail.tail.tail.tail.tail.tail.headD .dead)),AV.flt .f64 (toF ((toC (getV r15)).tail.tail.tail.tail.tail.tail.tail.tail.headD .dead)),AV.flt .f64 (toF ((toC (getV r15)).tail.tail.tail.tail.tail.tail.tail.tail.tail.headD .dead)),AV.flt .f64 (toF ((toC (getV r15)).tail.tail.tail.tail.tail.tail.tail.tail.tail.tail.headD .dead))]].length [[AV.int .i64 (toI ((toC (getV r7)).headD .dead)),AV.int .u8 (toI ((toC (getV r7)).tail.headD .dead)),AV.int .i64 (toI ((toC (getV r7)).tail.tail.headD .dead)),AV.int .i64 (toI ((toC (getV r7)).tail.tail.tail.headD .dead)),AV.int .i64 (toI ((toC (getV r7)).tail.tail.tail.tail.headD .dead)),AV.int .i64 (toI ((toC (getV r7)).tail.tail.tail.tail.tail.headD .dead)),AV.int .i64 (toI ((toC (getV r7)).tail.tail.tail.tail.tail.tail.headD .dead)),AV.int .i64 (toI ((toC (getV r7)).tail.tail.tail.tail.tail.tail.tail.headD .dead)),AV.flt .f64 (toF ((toC (getV r7)).tail.tail.tail.tail.tail.tail.tail.tail.headD .dead)),AV.flt .f64 (toF ((toC (getV r7)).tail.tail.tail.tail.tail.tail.tail.tail.tail.headD .dead)),AV.flt .f64 (toF ((toC (getV r7)).tail.tail.tail.tail.tail.tail.tail.tail.tail.tail.headD .dead))],[AV.int .i64 (toI ((toC (getV r15)).headD .dead)),AV.int .u8 (toI ((toC (getV r15)).tail.headD .dead)),AV.int .i64 (toI ((toC (getV r15)).tail.tail.headD .dead)),AV.int .i64 (toI ((toC (getV r15)).tail.tail.tail.headD .dead)),AV.int .i64 (toI ((toC (getV r15)).tail.tail.tail.tail.headD .dead)),AV.int .i64 (toI ((toC (getV r15)).tail.tail.tail.tail.tail.headD .dead)),AV.int .i64 (toI ((toC (getV r15)).tail.tail.tail.tail.tail.tail.headD .dead)),AV.int .i64 (toI ((toC (getV r15)).tail.tail.tail.tail.tail.tail.tail.headD .dead)),AV.flt .f64 (toF ((toC (getV r15)).tail.tail.tail.tail.tail.tail.tail.tail.headD .dead)),AV.flt .f64 (toF ((toC (getV r15)).tail.tail.tail.tail.tail.tail.tail.tail.tail.headD .dead)),AV.flt .f64 (toF ((toC (getV r15)).tail.tail.tail.tail.tail.tail.tail.tail.tail.tail.headD .dead))]].length fun (i j : Nat) => ([[AV.int .i64 (toI ((toC (getV r7)).headD .dead)),AV.int .u8 (toI ((toC (getV r7)).tail.headD .dead)),AV.int .i64 (toI ((toC (getV r7)).tail.tail.headD .dead)),AV.int .i64 (toI ((toC (getV r7)).tail.tail.tail.headD .dead)),AV.int .i64 (toI ((toC (getV r7)).tail.tail.tail.tail.headD .dead)),AV.int .i64 (toI ((toC (getV r7)).tail.tail.tail.tail.tail.headD .dead)),AV.int .i64 (toI ((toC (getV r7)).tail.tail.tail.tail.tail.tail.headD .dead)),AV.int .i64 (toI ((toC (getV r7)).tail.tail.tail.tail.tail.tail.tail.headD .dead)),AV.flt .f64 (toF ((toC (getV r7)).tail.tail.tail.tail.tail.tail.tail.tail.headD .dead)),AV.flt .f64 (toF ((toC (getV r7)).tail.tail.tail.tail.tail.tail.tail.tail.tail.headD .dead)),AV.flt .f64 (toF ((toC (getV r7)).tail.tail.tail.tail.tail.tail.tail.tail.tail.tail.headD .dead))],[AV.int .i64 (toI ((toC (getV r15)).headD .dead)),AV.int .u8 (toI ((toC (getV r15)).tail.headD .dead)),AV.int .i64 (toI ((toC (getV r15)).tail.tail.headD .dead)),AV.int .i64 (toI ((toC (getV r15)).tail.tail.tail.headD .dead)),AV.int .i64 (toI ((toC (getV r15)).tail.tail.tail.tail.headD .dead)),AV.int .i64 (toI ((toC (getV r15)).tail.tail.tail.tail.tail.headD .dead)),AV.int .i64 (toI ((toC (getV r15)).tail.tail.tail.tail.tail.tail.headD .dead)),AV.int .i64 (toI ((toC (getV r15)).tail.tail.tail.tail.tail.tail.tail.headD .dead)),AV.flt .f64 (toF ((toC (getV r15)).tail.tail.tail.tail.tail.tail.tail.tail.headD .dead)),AV.flt .f64 (toF ((toC (getV r15)).tail.tail.tail.tail.tail.tail.tail.tail.tail.headD .dead)),AV.flt .f64 (toF ((toC (getV r15)).tail.tail.tail.tail.tail.tail.tail.tail.tail.tail.headD .dead))]].getD i []).getD j AV.dead])
  else some (AV.tup [AV.ro 11 [[AV.int .i64 (toI ((toC (getV r7)).headD .dead)),AV.int .u8 (toI ((toC (getV r7)).tail.headD .dead)),AV.int .i64 (toI ((toC (getV r7)).tail.tail.headD .dead)),AV.int .i64 (toI ((toC (getV r7)).tail.tail.tail.headD .dead)),AV.int .i64 (toI ((toC (getV r7)).tail.tail.tail.tail.headD .dead)),AV.int .i64 (toI ((toC (getV r7)).tail.tail.tail.tail.tail.headD .dead)),AV.int .i64 (toI ((toC (getV r7)).tail.tail.tail.tail.tail.tail.headD .dead)),AV.int .i64 (toI ((toC (getV r7)).tail.tail.tail.tail.tail.tail.tail.headD .dead)),AV.flt .f64 (toF ((toC (getV r7)).tail.tail.tail.tail.tail.tail.tail.tail.headD .dead)),AV.flt .f64 (toF ((toC (getV r7)).tail.tail.tail.tail.tail.tail.tail.tail.tail.headD .dead)),AV.flt .f64 (toF ((toC (getV r7)).tail.tail.tail.tail.tail.tail.tail.tail.tail.tail.headD .dead))]].length [[AV.int .i64 (toI ((toC (getV r7)).headD .dead)),AV.int .u8 (toI ((toC (getV r7)).tail.headD .dead)),AV.int .i64 (toI ((toC (getV r7)).tail.tail.headD .dead)),AV.int .i64 (toI ((toC (getV r7)).tail.tail.tail.headD .dead)),AV.int .i64 (toI ((toC (getV r7)).tail.tail.tail.tail.headD .dead)),AV.int .i64 (toI ((toC (getV r7)).tail.tail.tail.tail.tail.headD .dead)),AV.int .i64 (toI ((toC (getV r7)).tail.tail.tail.tail.tail.tail.headD .dead)),AV.int .i64 (toI ((toC (getV r7)).tail.tail.tail.tail.tail.tail.tail.headD .dead)),AV.flt .f64 (toF ((toC (getV r7)).tail.tail.tail.tail.tail.tail.tail.tail.headD .dead)),AV.flt .f64 (toF ((toC (getV r7)).tail.tail.tail.tail.tail.tail.tail.tail.tail.headD .dead)),AV.flt .f64 (toF ((toC (getV r7)).tail.tail.tail.tail.tail.tail.tail.tail.tail.tail.headD .dead))]].length fun (i j : Nat) => ([[AV.int .i64 (toI ((toC (getV r7)).headD .dead)),AV.int .u8 (toI ((toC (getV r7)).tail.headD .dead)),AV.int .i64 (toI ((toC (getV r7)).tail.tail.headD .dead)),AV.int .i64 (toI ((toC (getV r7)).tail.tail.tail.headD .dead)),AV.int .i64 (toI ((toC (getV r7)).tail.tail.tail.tail.headD .dead)),AV.int .i64 (toI ((toC (getV r7)).tail.tail.tail.tail.tail.headD .dead)),AV.int .i64 (toI ((toC (getV r7)).tail.tail.tail.tail.tail.tail.headD .dead)),AV.int .i64 (toI ((toC (getV r7)).tail.tail.tail.tail.tail.tail.tail.headD .dead)),AV.flt .f64 (toF ((toC (getV r7)).tail.tail.tail.tail.tail.tail.tail.tail.headD .dead)),AV.flt .f64 (toF ((toC (getV r7)).tail.tail.tail.tail.tail.tail.tail.tail.tail.headD .dead)),AV.flt .f64 (toF ((toC (getV r7)).tail.tail.tail.tail.tail.tail.tail.tail.tail.tail.headD .dead))]].getD i []).getD j AV.dead])
theorem gbars_springs_a_run (zo vu : Mo) (z5 zr : Mo) (zq yd va : Mo) (fuel p9 qa0 : Nat) (vz : Ge) (qah qar : Nat) (yn : Ge) (qjn : ByteArray) (qjq qcq qcr : Int) (qjs qjp : Bool) (qg7 qh1 qh2 : Option Nat) : runX Pr (Gbars_springs_a zo vu z5 zr zq yd va) [((6,68),Lbars_springs_a zo vu z5 zr zq yd va fuel)] fuel 7 68 Xbars_springs_a [AV.agg [AV.ro 4 p9 qa0 vz,AV.ro 9 qah qar yn],AV.agg [AV.str qjn,AV.int .u8 qjq,AV.int .i64 qcq,AV.int .i64 qcr,AV.bool qjs,AV.bool qjp,AV.flt .f64 qg7,AV.flt .f64 qh1,AV.flt .f64 qh2]] [] = gbars_springs_a zo vu z5 zr zq yd va fuel p9 qa0 vz qah qar yn qjn qjq qcq qcr qjs qjp qg7 qh1 qh2 := by kernel_rfl
noncomputable def mbars_springs_a (zo vu : Mo) (z5 zr : Mo) (zq yd va : Mo) (fuel : Nat) (xs : List AV) : Option AV := match xs with
  | [AV.agg [AV.ro 4 p9 qa0 vz,AV.ro 9 qah qar yn],AV.agg [AV.str qjn,AV.int .u8 qjq,AV.int .i64 qcq,AV.int .i64 qcr,AV.bool qjs,AV.bool qjp,AV.flt .f64 qg7,AV.flt .f64 qh1,AV.flt .f64 qh2]] => gbars_springs_a zo vu z5 zr zq yd va fuel p9 qa0 vz qah qar yn qjn qjq qcq qcr qjs qjp qg7 qh1 qh2
  | _ => none
theorem gbars_springs_a_sm (zo vu : Mo) (z5 zr : Mo) (zq yd va : Mo) (fuel : Nat) (hΓ : GamOk Pr (Gbars_springs_a zo vu z5 zr zq yd va)) (hP : NamesOk Pr) : XOk Pr 68 (smX Rbars_springs_a Xbars_springs_a (mbars_springs_a zo vu z5 zr zq yd va fuel)) Xbars_springs_a := by
  refine smX_ok (fuel := fuel) hΓ hP (LamOk.of 6 68 (Lbars_springs_a zo vu z5 zr zq yd va fuel) 0 (by kernel_rfl) (fun i hi => ?_)) 7 68 Rbars_springs_a Xbars_springs_a _ (fun xs0 ys0 v ha hb h => ?_)
  · match i,hi with
    | i + 0,hi => exact absurd hi (by omega)
  · skip
    have ha0 : xs0.length = 2 := ha
    clear ha
    obtain ⟨a0,xs1,rfl,ha1⟩ := len_cons ha0
    clear ha0
    obtain ⟨a1,xs2,rfl,ha2⟩ := len_cons ha1
    clear ha1
    obtain rfl := List.eq_nil_of_length_eq_zero ha2
    have hy0 : ys0.map List.length = [] := hb
    clear hb
    obtain rfl := map_nil' hy0
    have h : mbars_springs_a zo vu z5 zr zq yd va fuel [a0,a1] = some v := h
    generalize hx0 : [a0,a1] = zs at h
    unfold mbars_springs_a at h
    split at h
    · skip
      obtain ⟨rfl,hx1⟩ := List.cons.inj hx0
      obtain ⟨rfl,hx2⟩ := List.cons.inj hx1
      simp only [List.map_cons,List.map_nil]
      exact (gbars_springs_a_run zo vu z5 zr zq yd va fuel _ _ _ _ _ _ _ _ _ _ _ _ _ _ _).trans h
    · cases h
noncomputable def Sbars_Springs_a_0 (ui7 : Int) (qdm qde : Nat) (qdl : Ge) (qfz qfv : Int) (u31 u32 : Int) (qbi qbp : Nat) (qb0 : Ge) (qbu qbq : Nat) (qbj : Ge) (p5 : List AV) (p4 : List (List AV)) (p3 : ByteArray) (qig qid qh6 : Int) (qic qia : Bool) (qh7 qif qii : Option Nat) (h3z : List AV) (h3e : List (List AV)) : St := { env := [(1,AV.ptr 0 0),(6,AV.lst 1 11),(7,AV.int .i64 ui7),(9,AV.lst 3 11),(20,AV.ro 9 qdm qde qdl),(21,AV.int .i64 qfz),(22,AV.int .i64 qfv),(31,AV.int .i64 u31),(32,AV.int .i64 u32)],h := [Blk.box [AV.ro 4 qbi qbp qb0,AV.ro 9 qbu qbq qbj],Blk.fl 11 p5 p4,Blk.box [AV.str p3,AV.int .u8 qig,AV.int .i64 qid,AV.int .i64 qh6,AV.bool qic,AV.bool qia,AV.flt .f64 qh7,AV.flt .f64 qif,AV.flt .f64 qii],Blk.fl 11 h3z h3e],kd := [3,1] }
noncomputable def Xbars_Springs_a_0_0 (qq0 qq5 : Nat) (qqd : Ge) (qsr qr0 : Int) (qez qex : Nat) (qe1 : Ge) (qew qe3 : Nat) (qe2 : Ge) (qkx : List AV) (qk4 : List (List AV)) (qcm : ByteArray) (qgj qga qgl : Int) (qi8 qi6 : Bool) (qji qjb qjk : Option Nat) (qf1 : List AV) (qf3 : List (List AV)) : St := { env := [(1,AV.ptr 0 0),(6,AV.lst 1 11),(9,AV.lst 3 11),(20,AV.ro 9 qq0 qq5 qqd),(21,AV.int .i64 qsr),(22,AV.int .i64 qr0)],h := [Blk.box [AV.ro 4 qez qex qe1,AV.ro 9 qew qe3 qe2],Blk.fl 11 qkx qk4,Blk.box [AV.str qcm,AV.int .u8 qgj,AV.int .i64 qga,AV.int .i64 qgl,AV.bool qi8,AV.bool qi6,AV.flt .f64 qji,AV.flt .f64 qjb,AV.flt .f64 qjk],Blk.fl 11 qf1 qf3],kd := [3,1] }
noncomputable def gbars_Springs_a_l0_step (we qs : Mo) (fuel : Nat) (kn : Int → List (List AV) → Option AV) (kx0 : Nat → Nat → Ge → Int → Int → Nat → Nat → Ge → Nat → Nat → Ge → List AV → List (List AV) → ByteArray → Int → Int → Int → Bool → Bool → Option Nat → Option Nat → Option Nat → List AV → List (List AV) → Option AV) (ui7 : Int) (qdm qde : Nat) (qdl : Ge) (qfz qfv u31 : Int) (qbi qbp : Nat) (qb0 : Ge) (qbu qbq : Nat) (qbj : Ge) (p5 : List AV) (p4 : List (List AV)) (p3 : ByteArray) (qig qid qh6 : Int) (qic qia : Bool) (qh7 qif qii : Option Nat) (h3z : List AV) (u32 : Int) (h3e : List (List AV)) : Option AV :=
  bif decide (u32 < u31) then ck (decide (0 ≤ u32)) <| ck (decide (u32 < (↑h3e.length : Int))) <| kn (IntKind.i64.wrap (u32 + 1)) (h3e.set u32.toNat (AV.int .i64 ui7 :: List.drop (0 + [AV.int .i64 ui7].length) (h3e.getD u32.toNat h3z)))
  else kx0 qdm qde qdl qfz qfv qbi qbp qb0 qbu qbq qbj p5 p4 p3 qig qid qh6 qic qia qh7 qif qii h3z h3e
noncomputable def gbars_Springs_a_l0 (we qs : Mo) (fuel : Nat) (kx0 : Nat → Nat → Ge → Int → Int → Nat → Nat → Ge → Nat → Nat → Ge → List AV → List (List AV) → ByteArray → Int → Int → Int → Bool → Bool → Option Nat → Option Nat → Option Nat → List AV → List (List AV) → Option AV) (ui7 : Int) (qdm qde : Nat) (qdl : Ge) (qfz qfv u31 : Int) (qbi qbp : Nat) (qb0 : Ge) (qbu qbq : Nat) (qbj : Ge) (p5 : List AV) (p4 : List (List AV)) (p3 : ByteArray) (qig qid qh6 : Int) (qic qia : Bool) (qh7 qif qii : Option Nat) (h3z : List AV) : Nat → Int → List (List AV) → Option AV
  | 0,_,_ => none
  | n' + 1,u32,h3e => gbars_Springs_a_l0_step we qs fuel (gbars_Springs_a_l0 we qs fuel kx0 ui7 qdm qde qdl qfz qfv u31 qbi qbp qb0 qbu qbq qbj p5 p4 p3 qig qid qh6 qic qia qh7 qif qii h3z n') kx0 ui7 qdm qde qdl qfz qfv u31 qbi qbp qb0 qbu qbq qbj p5 p4 p3 qig qid qh6 qic qia qh7 qif qii h3z u32 h3e
termination_by structural k => k
noncomputable def Tbars_Springs_a_0 : TS' := ⟨[(1,TA.ptr 0 0),(6,TA.lst 1 11),(7,TA.i .i64),(9,TA.lst 3 11),(20,TA.ro 9),(21,TA.i .i64),(22,TA.i .i64),(31,TA.i .i64),(32,TA.i .i64)],[TB.box [TA.ro 4,TA.ro 9],TB.fl 11,TB.box [TA.s,TA.i .u8,TA.i .i64,TA.i .i64,TA.b,TA.b,TA.f .f64,TA.f .f64,TA.f .f64],TB.fl 11],[3,1]⟩
noncomputable def Fbars_Springs_a_0 (we qs : Mo) (fuel : Nat) (ps : List Pay) (K : Ex → St → Option AV) : Option AV := match ps with
  | .i ui7 :: .n qdm :: .n qde :: .g qdl :: .i qfz :: .i qfv :: .i u31 :: .i u32 :: .n qbi :: .n qbp :: .g qb0 :: .n qbu :: .n qbq :: .g qbj :: .z p5 :: .e p4 :: .s p3 :: .i qig :: .i qid :: .i qh6 :: .b qic :: .b qia :: .o qh7 :: .o qif :: .o qii :: .z h3z :: .e h3e :: [] => gbars_Springs_a_l0 we qs fuel (fun qq0 qq5 qqd qsr qr0 qez qex qe1 qew qe3 qe2 qkx qk4 qcm qgj qga qgl qi8 qi6 qji qjb qjk qf1 qf3 => K (Ex.exit 2) (Xbars_Springs_a_0_0 qq0 qq5 qqd qsr qr0 qez qex qe1 qew qe3 qe2 qkx qk4 qcm qgj qga qgl qi8 qi6 qji qjb qjk qf1 qf3)) ui7 qdm qde qdl qfz qfv u31 qbi qbp qb0 qbu qbq qbj p5 p4 p3 qig qid qh6 qic qia qh7 qif qii h3z fuel u32 h3e
  | _ => none
noncomputable def Sbars_Springs_a_1 (qh9 qip : Nat) (qcs : Ge) (u21 u22 : Int) (ya yb : Nat) (yc : Ge) (qu qx : Nat) (qw : Ge) (h1z : List AV) (h1e : List (List AV)) : St := { env := [(1,AV.ptr 0 0),(6,AV.lst 1 11),(20,AV.ro 9 qh9 qip qcs),(21,AV.int .i64 u21),(22,AV.int .i64 u22)],h := [Blk.box [AV.ro 4 ya yb yc,AV.ro 9 qu qx qw],Blk.fl 11 h1z h1e],kd := [1] }
noncomputable def Xbars_Springs_a_1_0 (qe0 qfa : Nat) (qe7 : Ge) (qe5 qe8 : Nat) (qe9 : Ge) (qmk : List AV) (qmo : List (List AV)) : St := { env := [(6,AV.lst 1 11)],h := [Blk.box [AV.ro 4 qe0 qfa qe7,AV.ro 9 qe5 qe8 qe9],Blk.fl 11 qmk qmo],kd := [1] }
noncomputable def gbars_Springs_a_l1_step (we qs : Mo) (fuel : Nat) (kn : Nat → Nat → Ge → Int → Int → Nat → Nat → Ge → Nat → Nat → Ge → List AV → List (List AV) → Option AV) (kx0 : Nat → Nat → Ge → Nat → Nat → Ge → List AV → List (List AV) → Option AV) (qh9 qip : Nat) (qcs : Ge) (u21 u22 : Int) (ya yb : Nat) (yc : Ge) (qu qx : Nat) (qw : Ge) (h1z : List AV) (h1e : List (List AV)) : Option AV :=
  bif decide (u22 < u21) then ck (decide (0 ≤ u22)) <| ck (decide (u22 < (↑qh9 : Int))) <| ck (fitKs [LK.s,LK.i .u8,LK.i .i64,LK.i .i64,LK.b,LK.b,LK.f .f64,LK.f .f64,LK.f .f64] [qcs u22.toNat 0,qcs u22.toNat 1,qcs u22.toNat 2,qcs u22.toNat 3,qcs u22.toNat 4,qcs u22.toNat 5,qcs u22.toNat 6,qcs u22.toNat 7,qcs u22.toNat 8]) <| let r1 : Option AV := qs [AV.agg [AV.ro 4 ya yb yc,AV.ro 9 qu qx qw],AV.agg [AV.str (toS (qcs u22.toNat 0)),AV.int .u8 (toI (qcs u22.toNat 1)),AV.int .i64 (toI (qcs u22.toNat 2)),AV.int .i64 (toI (qcs u22.toNat 3)),AV.bool (toB (qcs u22.toNat 4)),AV.bool (toB (qcs u22.toNat 5)),AV.flt .f64 (toF (qcs u22.toNat 6)),AV.flt .f64 (toF (qcs u22.toNat 7)),AV.flt .f64 (toF (qcs u22.toNat 8))]]; ck (okX [RS.one (LK.l 11)] r1) <| gbars_Springs_a_l0 we qs fuel
      (fun (qni qnp : Nat) (qma : Ge) (qsh qr8 : Int) (pl pn : Nat) (pm : Ge) (zb za : Nat) (w9 : Ge) (qc4 : List AV) (qb5 : List (List AV)) (_ : ByteArray) (_ _ _ : Int) (_ _ : Bool) (_ _ _ : Option Nat) (qg1 : List AV) (qf9 : List (List AV)) => ck (decide ((qb5.length + qf9.length) * 88 < 70368744177664)) <| ck (decide (qb5.length + qf9.length < 4611686018427387904)) <| kn qni qnp qma qsh (IntKind.i64.wrap (qr8 + 1)) pl pn pm zb za w9 qc4 (qb5 ++ rows 11 qf9.length fun (i j : Nat) => (qf9.getD i qg1).getD j AV.dead))
      u22
      qh9
      qip
      qcs
      u21
      u22
      ((↑(rows 11 (match (toT (getV r1)).headD .dead with | AV.ro sz n rd get => n | x => 0) (toG (AV.ro 11 (toN ((toT (getV r1)).headD .dead)) (toR ((toT (getV r1)).headD .dead)) (toG ((toT (getV r1)).headD .dead))))).length : Int))
      ya
      yb
      yc
      qu
      qx
      qw
      h1z
      h1e
      (toS (qcs u22.toNat 0))
      (toI (qcs u22.toNat 1))
      (toI (qcs u22.toNat 2))
      (toI (qcs u22.toNat 3))
      (toB (qcs u22.toNat 4))
      (toB (qcs u22.toNat 5))
      (toF (qcs u22.toNat 6))
      (toF (qcs u22.toNat 7))
      (toF (qcs u22.toNat 8))
      ([AV.int .i64 0,AV.int .u8 0,AV.int .i64 0,AV.int .i64 0,AV.int .i64 0,AV.int .i64 0,AV.int .i64 0,AV.int .i64 0,AV.flt .f64 (some 0),AV.flt .f64 (some 0),AV.flt .f64 (some 0)]) fuel (0) (rows 11 (match (toT (getV r1)).headD .dead with | AV.ro sz n rd get => n | x => 0) (toG (AV.ro 11 (toN ((toT (getV r1)).headD .dead)) (toR ((toT (getV r1)).headD .dead)) (toG ((toT (getV r1)).headD .dead)))))
  else kx0 ya yb yc qu qx qw h1z h1e
noncomputable def gbars_Springs_a_l1 (we qs : Mo) (fuel : Nat) (kx0 : Nat → Nat → Ge → Nat → Nat → Ge → List AV → List (List AV) → Option AV) : Nat → Nat → Nat → Ge → Int → Int → Nat → Nat → Ge → Nat → Nat → Ge → List AV → List (List AV) → Option AV
  | 0,_,_,_,_,_,_,_,_,_,_,_,_,_ => none
  | n' + 1,qh9,qip,qcs,u21,u22,ya,yb,yc,qu,qx,qw,h1z,h1e => gbars_Springs_a_l1_step we qs fuel (gbars_Springs_a_l1 we qs fuel kx0 n') kx0 qh9 qip qcs u21 u22 ya yb yc qu qx qw h1z h1e
termination_by structural k => k
noncomputable def Tbars_Springs_a_1 : TS' := ⟨[(1,TA.ptr 0 0),(6,TA.lst 1 11),(20,TA.ro 9),(21,TA.i .i64),(22,TA.i .i64)],[TB.box [TA.ro 4,TA.ro 9],TB.fl 11],[1]⟩
noncomputable def Fbars_Springs_a_1 (we qs : Mo) (fuel : Nat) (ps : List Pay) (K : Ex → St → Option AV) : Option AV := match ps with
  | .n qh9 :: .n qip :: .g qcs :: .i u21 :: .i u22 :: .n ya :: .n yb :: .g yc :: .n qu :: .n qx :: .g qw :: .z h1z :: .e h1e :: [] => gbars_Springs_a_l1 we qs fuel (fun qe0 qfa qe7 qe5 qe8 qe9 qmk qmo => K (Ex.exit 0) (Xbars_Springs_a_1_0 qe0 qfa qe7 qe5 qe8 qe9 qmk qmo)) fuel qh9 qip qcs u21 u22 ya yb yc qu qx qw h1z h1e
  | _ => none
noncomputable def Lbars_Springs_a (we qs : Mo) (fuel : Nat) : Lam AV := [(2194728289280,lam Tbars_Springs_a_0 (Fbars_Springs_a_0 we qs fuel)),(35184367896512,lam Tbars_Springs_a_1 (Fbars_Springs_a_1 we qs fuel))]
noncomputable def Gbars_Springs_a (we qs : Mo) : Gam := [(67,smM [RS.one (LK.i .i64),RS.one (LK.i .i64)] we),(68,smX Rbars_springs_a Xbars_springs_a qs)]
theorem gbars_Springs_a_l0_eq (we qs : Mo) (fuel : Nat) (kn : St → Option AV) (K : Ex → St → Option AV) (ui7 : Int) (qdm qde : Nat) (qdl : Ge) (qfz qfv u31 : Int) (qbi qbp : Nat) (qb0 : Ge) (qbu qbq : Nat) (qbj : Ge) (p5 : List AV) (p4 : List (List AV)) (p3 : ByteArray) (qig qid qh6 : Int) (qic qia : Bool) (qh7 qif qii : Option Nat) (h3z : List AV) (qs2 : Int) (qlo : List (List AV)) (u32 : Int) (h3e : List (List AV)) :
    bX Pr (Gbars_Springs_a we qs) (Lbars_Springs_a we qs fuel) 6 23 1 fuel (Sbars_Springs_a_0 ui7 qdm qde qdl qfz qfv u31 u32 qbi qbp qb0 qbu qbq qbj p5 p4 p3 qig qid qh6 qic qia qh7 qif qii h3z h3e) (fun e s => match e with | .normal => kn (hX Pr 23 1 (Sbars_Springs_a_0 ui7 qdm qde qdl qfz qfv u31 qs2 qbi qbp qb0 qbu qbq qbj p5 p4 p3 qig qid qh6 qic qia qh7 qif qii h3z qlo) s) | e => K e s) =
    gbars_Springs_a_l0_step we qs fuel (fun u32 h3e => kn (Sbars_Springs_a_0 ui7 qdm qde qdl qfz qfv u31 u32 qbi qbp qb0 qbu qbq qbj p5 p4 p3 qig qid qh6 qic qia qh7 qif qii h3z h3e)) (fun qni qnp qma qsh qr8 pl pn pm zb za w9 qc4 qb5 qcw xh2_1 xh2_2 xh2_3 xh2_4 xh2_5 xh2_6 xh2_7 xh2_8 qg1 qf9 => K (Ex.exit 2) (Xbars_Springs_a_0_0 qni qnp qma qsh qr8 pl pn pm zb za w9 qc4 qb5 qcw xh2_1 xh2_2 xh2_3 xh2_4 xh2_5 xh2_6 xh2_7 xh2_8 qg1 qf9)) ui7 qdm qde qdl qfz qfv u31 qbi qbp qb0 qbu qbq qbj p5 p4 p3 qig qid qh6 qic qia qh7 qif qii h3z u32 h3e := by kernel_rfl
theorem gbars_Springs_a_l0_ok (we qs : Mo) (fuel : Nat) (K : Ex → St → Option AV) (ui7 : Int) (qdm qde : Nat) (qdl : Ge) (qfz qfv u31 : Int) (qbi qbp : Nat) (qb0 : Ge) (qbu qbq : Nat) (qbj : Ge) (p5 : List AV) (p4 : List (List AV)) (p3 : ByteArray) (qig qid qh6 : Int) (qic qia : Bool) (qh7 qif qii : Option Nat) (h3z : List AV) (qs2 : Int) (qlo : List (List AV)) : ∀ (n' : Nat) (u32 : Int) (h3e : List (List AV)),
    loopK (bX Pr (Gbars_Springs_a we qs) (Lbars_Springs_a we qs fuel) 6 23 1 fuel) (hX Pr 23 1 (Sbars_Springs_a_0 ui7 qdm qde qdl qfz qfv u31 qs2 qbi qbp qb0 qbu qbq qbj p5 p4 p3 qig qid qh6 qic qia qh7 qif qii h3z qlo)) n' (Sbars_Springs_a_0 ui7 qdm qde qdl qfz qfv u31 u32 qbi qbp qb0 qbu qbq qbj p5 p4 p3 qig qid qh6 qic qia qh7 qif qii h3z h3e) K = gbars_Springs_a_l0 we qs fuel (fun qni qnp qma qsh qr8 pl pn pm zb za w9 qc4 qb5 qcw xh2_1 xh2_2 xh2_3 xh2_4 xh2_5 xh2_6 xh2_7 xh2_8 qg1 qf9 => K (Ex.exit 2) (Xbars_Springs_a_0_0 qni qnp qma qsh qr8 pl pn pm zb za w9 qc4 qb5 qcw xh2_1 xh2_2 xh2_3 xh2_4 xh2_5 xh2_6 xh2_7 xh2_8 qg1 qf9)) ui7 qdm qde qdl qfz qfv u31 qbi qbp qb0 qbu qbq qbj p5 p4 p3 qig qid qh6 qic qia qh7 qif qii h3z n' u32 h3e
  | 0,_,_ => rfl
  | n' + 1,u32,h3e => (gbars_Springs_a_l0_eq we qs fuel (fun s => loopK (bX Pr (Gbars_Springs_a we qs) (Lbars_Springs_a we qs fuel) 6 23 1 fuel) (hX Pr 23 1 (Sbars_Springs_a_0 ui7 qdm qde qdl qfz qfv u31 qs2 qbi qbp qb0 qbu qbq qbj p5 p4 p3 qig qid qh6 qic qia qh7 qif qii h3z qlo)) n' s K) K ui7 qdm qde qdl qfz qfv u31 qbi qbp qb0 qbu qbq qbj p5 p4 p3 qig qid qh6 qic qia qh7 qif qii h3z qs2 qlo u32 h3e).trans
    (congrArg (fun kn => gbars_Springs_a_l0_step we qs fuel kn _ ui7 qdm qde qdl qfz qfv u31 qbi qbp qb0 qbu qbq qbj p5 p4 p3 qig qid qh6 qic qia qh7 qif qii h3z u32 h3e) (funext fun u32 => funext fun h3e => gbars_Springs_a_l0_ok we qs fuel K ui7 qdm qde qdl qfz qfv u31 qbi qbp qb0 qbu qbq qbj p5 p4 p3 qig qid qh6 qic qia qh7 qif qii h3z qs2 qlo n' u32 h3e))
theorem gbars_Springs_a_L0 (we qs : Mo) (fuel : Nat) : LX Pr (Gbars_Springs_a we qs) (Lbars_Springs_a we qs fuel) 6 23 1 fuel := by
  refine .of Tbars_Springs_a_0 (Fbars_Springs_a_0 we qs fuel) (fun L h => ?_) (fun ps st K r he hr => ?_)
  · have e : (Lbars_Springs_a we qs fuel).get (writes (lp Pr 23 1).1) = some (lam Tbars_Springs_a_0 (Fbars_Springs_a_0 we qs fuel)) := by kernel_rfl
    exact (Option.some.inj (e.symm.trans h)).symm
  · unfold Fbars_Springs_a_0 at hr
    split at hr
    · obtain rfl := (Option.some.inj he).symm
      exact (gbars_Springs_a_l0_ok we qs fuel K _ _ _ _ _ _ _ _ _ _ _ _ _ _ _ _ _ _ _ _ _ _ _ _ _ _ _ fuel _ _).trans hr
    · cases hr
theorem gbars_Springs_a_l1_eq (we qs : Mo) (fuel : Nat) (kn : St → Option AV) (K : Ex → St → Option AV) (qot qof : Nat) (qou : Ge) (qs8 qtd : Int) (qk8 qlh : Nat) (qle : Ge) (qlj qkz : Nat) (qkp : Ge) (qkr : List AV) (qil : List (List AV)) (qh9 qip : Nat) (qcs : Ge) (u21 u22 : Int) (ya yb : Nat) (yc : Ge) (qu qx : Nat) (qw : Ge) (h1z : List AV) (h1e : List (List AV)) :
    bX Pr (Gbars_Springs_a we qs) (Lbars_Springs_a we qs fuel) 6 23 0 fuel (Sbars_Springs_a_1 qh9 qip qcs u21 u22 ya yb yc qu qx qw h1z h1e) (fun e s => match e with | .normal => kn (hX Pr 23 0 (Sbars_Springs_a_1 qot qof qou qs8 qtd qk8 qlh qle qlj qkz qkp qkr qil) s) | e => K e s) =
    gbars_Springs_a_l1_step we qs fuel (fun qh9 qip qcs u21 u22 ya yb yc qu qx qw h1z h1e => kn (Sbars_Springs_a_1 qh9 qip qcs u21 u22 ya yb yc qu qx qw h1z h1e)) (fun pl pn pm zb za w9 qc4 qb5 => K (Ex.exit 0) (Xbars_Springs_a_1_0 pl pn pm zb za w9 qc4 qb5)) qh9 qip qcs u21 u22 ya yb yc qu qx qw h1z h1e := by kernel_rfl
theorem gbars_Springs_a_l1_ok (we qs : Mo) (fuel : Nat) (K : Ex → St → Option AV) (qot qof : Nat) (qou : Ge) (qs8 qtd : Int) (qk8 qlh : Nat) (qle : Ge) (qlj qkz : Nat) (qkp : Ge) (qkr : List AV) (qil : List (List AV)) : ∀ (n' qh9 qip : Nat) (qcs : Ge) (u21 u22 : Int) (ya yb : Nat) (yc : Ge) (qu qx : Nat) (qw : Ge) (h1z : List AV) (h1e : List (List AV)),
    loopK (bX Pr (Gbars_Springs_a we qs) (Lbars_Springs_a we qs fuel) 6 23 0 fuel) (hX Pr 23 0 (Sbars_Springs_a_1 qot qof qou qs8 qtd qk8 qlh qle qlj qkz qkp qkr qil)) n' (Sbars_Springs_a_1 qh9 qip qcs u21 u22 ya yb yc qu qx qw h1z h1e) K = gbars_Springs_a_l1 we qs fuel (fun pl pn pm zb za w9 qc4 qb5 => K (Ex.exit 0) (Xbars_Springs_a_1_0 pl pn pm zb za w9 qc4 qb5)) n' qh9 qip qcs u21 u22 ya yb yc qu qx qw h1z h1e
  | 0,_,_,_,_,_,_,_,_,_,_,_,_,_ => rfl
  | n' + 1,qh9,qip,qcs,u21,u22,ya,yb,yc,qu,qx,qw,h1z,h1e => (gbars_Springs_a_l1_eq we qs fuel (fun s => loopK (bX Pr (Gbars_Springs_a we qs) (Lbars_Springs_a we qs fuel) 6 23 0 fuel) (hX Pr 23 0 (Sbars_Springs_a_1 qot qof qou qs8 qtd qk8 qlh qle qlj qkz qkp qkr qil)) n' s K) K qot qof qou qs8 qtd qk8 qlh qle qlj qkz qkp qkr qil qh9 qip qcs u21 u22 ya yb yc qu qx qw h1z h1e).trans
    (congrArg (fun kn => gbars_Springs_a_l1_step we qs fuel kn _ qh9 qip qcs u21 u22 ya yb yc qu qx qw h1z h1e) (funext fun qh9 => funext fun qip => funext fun qcs => funext fun u21 => funext fun u22 => funext fun ya => funext fun yb => funext fun yc => funext fun qu => funext fun qx => funext fun qw => funext fun h1z => funext fun h1e => gbars_Springs_a_l1_ok we qs fuel K qot qof qou qs8 qtd qk8 qlh qle qlj qkz qkp qkr qil n' qh9 qip qcs u21 u22 ya yb yc qu qx qw h1z h1e))
termination_by structural k => k
theorem gbars_Springs_a_L1 (we qs : Mo) (fuel : Nat) : LX Pr (Gbars_Springs_a we qs) (Lbars_Springs_a we qs fuel) 6 23 0 fuel := by
  refine .of Tbars_Springs_a_1 (Fbars_Springs_a_1 we qs fuel) (fun L h => ?_) (fun ps st K r he hr => ?_)
  · have e : (Lbars_Springs_a we qs fuel).get (writes (lp Pr 23 0).1) = some (lam Tbars_Springs_a_1 (Fbars_Springs_a_1 we qs fuel)) := by kernel_rfl
    exact (Option.some.inj (e.symm.trans h)).symm
  · unfold Fbars_Springs_a_1 at hr
    split at hr
    · obtain rfl := (Option.some.inj he).symm
      exact (gbars_Springs_a_l1_ok we qs fuel K _ _ _ _ _ _ _ _ _ _ _ _ _ fuel _ _ _ _ _ _ _ _ _ _ _ _ _).trans hr
    · cases hr
noncomputable def gbars_Springs_a (we qs : Mo) (fuel p9 qa0 : Nat) (vz : Ge) (qah qar : Nat) (yn : Ge) : Option AV :=
  let r0 : Option AV := we [AV.agg [AV.ro 4 p9 qa0 vz,AV.ro 9 qah qar yn]]; ck (okM [RS.one (LK.i .i64),RS.one (LK.i .i64)] r0) <| bif toI ((toT (getV r0)).headD .dead) != 0 then none
  else gbars_Springs_a_l1 we qs fuel
    (fun (_ _ : Nat) (_ : Ge) (_ _ : Nat) (_ : Ge) (_ : List AV) (qhe : List (List AV)) => some (AV.tup [AV.ro 11 qhe.length qhe.length fun (i j : Nat) => (qhe.getD i []).getD j AV.dead,AV.int .i64 0])) fuel qah qar yn ((↑qah : Int)) (0) p9 qa0 vz qah qar yn ([AV.int .i64 0,AV.int .u8 0,AV.int .i64 0,AV.int .i64 0,AV.int .i64 0,AV.int .i64 0,AV.int .i64 0,AV.int .i64 0,AV.flt .f64 (some 0),AV.flt .f64 (some 0),AV.flt .f64 (some 0)]) ([])
theorem gbars_Springs_a_run (we qs : Mo) (fuel p9 qa0 : Nat) (vz : Ge) (qah qar : Nat) (yn : Ge) : runX Pr (Gbars_Springs_a we qs) [((6,23),Lbars_Springs_a we qs fuel)] fuel 7 23 Xbars_Springs_a [AV.agg [AV.ro 4 p9 qa0 vz,AV.ro 9 qah qar yn]] [] = gbars_Springs_a we qs fuel p9 qa0 vz qah qar yn := by kernel_rfl
noncomputable def mbars_Springs_a (we qs : Mo) (fuel : Nat) (xs : List AV) : Option AV := match xs with
  | [AV.agg [AV.ro 4 p9 qa0 vz,AV.ro 9 qah qar yn]] => gbars_Springs_a we qs fuel p9 qa0 vz qah qar yn
  | _ => none
theorem gbars_Springs_a_sm (we qs : Mo) (fuel : Nat) (hΓ : GamOk Pr (Gbars_Springs_a we qs)) (hP : NamesOk Pr) : XOk Pr 23 (smX Rbars_Springs_a Xbars_Springs_a (mbars_Springs_a we qs fuel)) Xbars_Springs_a := by
  refine smX_ok (fuel := fuel) hΓ hP (LamOk.of 6 23 (Lbars_Springs_a we qs fuel) 2 (by kernel_rfl) (fun i hi => ?_)) 7 23 Rbars_Springs_a Xbars_Springs_a _ (fun xs0 ys0 v ha hb h => ?_)
  · match i,hi with
    | 1,_ => exact gbars_Springs_a_L0 we qs fuel
    | 0,_ => exact gbars_Springs_a_L1 we qs fuel
    | i + 2,hi => exact absurd hi (by omega)
  · skip
    have ha0 : xs0.length = 1 := ha
    clear ha
    obtain ⟨a0,xs1,rfl,ha1⟩ := len_cons ha0
    clear ha0
    obtain rfl := List.eq_nil_of_length_eq_zero ha1
    have hy0 : ys0.map List.length = [] := hb
    clear hb
    obtain rfl := map_nil' hy0
    have h : mbars_Springs_a we qs fuel [a0] = some v := h
    generalize hx0 : [a0] = zs at h
    unfold mbars_Springs_a at h
    split at h
    · skip
      obtain ⟨rfl,hx1⟩ := List.cons.inj hx0
      simp only [List.map_cons,List.map_nil]
      exact (gbars_Springs_a_run we qs fuel _ _ _ _ _ _).trans h
    · cases h
end Go.Proofs.Tryz
end
