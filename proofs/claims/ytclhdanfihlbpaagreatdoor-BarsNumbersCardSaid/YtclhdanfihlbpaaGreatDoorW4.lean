/- Part 4 of the proof: models of the functions, and laws on them. -/
import Derived.Test.YtclhdanfihlbpaaGreatDoorW3
import Derived.Test.YtclhdanfihlbpaaGreatDoorProg
import Derived.KernelRfl
set_option linter.unusedVariables false
set_option linter.unusedSimpArgs false
set_option linter.unusedSectionVars false
section
namespace Go.Proofs.Tryz
open Go Go.Am
noncomputable abbrev Pr : Program := prog
def Xspan_corners_a : XS := { pat := [none, none, some (1000107, 0)], nb := [], out := [.one] }
abbrev Rspan_corners_a : List RS := [RS.agg [LK.f FloatKind.f64, LK.f FloatKind.f64]]
def Xspan_corners_b : XS := { pat := [none, none, some (1000105, 0)], nb := [], out := [.one] }
abbrev Rspan_corners_b : List RS := [RS.agg [LK.f FloatKind.f64, LK.f FloatKind.f64]]
def Xbars_springs_a : XS := { pat := [none, none], nb := [], out := [.newl 11 [AV.int IntKind.i64 0, AV.int IntKind.u8 0, AV.int IntKind.i64 0, AV.int IntKind.i64 0, AV.int IntKind.i64 0, AV.int IntKind.i64 0, AV.int IntKind.i64 0, AV.int IntKind.i64 0, AV.flt FloatKind.f64 (some 0), AV.flt FloatKind.f64 (some 0), AV.flt FloatKind.f64 (some 0)]] }
abbrev Rbars_springs_a : List RS := [RS.one (LK.l 11)]
def Xbars_Springs_a : XS := { pat := [none], nb := [], out := [.newl 11 [AV.int IntKind.i64 0, AV.int IntKind.u8 0, AV.int IntKind.i64 0, AV.int IntKind.i64 0, AV.int IntKind.i64 0, AV.int IntKind.i64 0, AV.int IntKind.i64 0, AV.int IntKind.i64 0, AV.flt FloatKind.f64 (some 0), AV.flt FloatKind.f64 (some 0), AV.flt FloatKind.f64 (some 0)], .one], kp := true }
abbrev Rbars_Springs_a : List RS := [RS.one (LK.l 11), RS.one (LK.i IntKind.i64)]
def XInt_give_i : XS := { pat := [some (0, 0), none, none], nb := [2], out := [.ptr 0 0] }
abbrev RInt_give_i : List RS := [RS.one (LK.b), RS.one (LK.l 1)]
def XInt_give_ra : XS := { pat := [some (0, 0), none, none], nb := [4], out := [.ptr 0 0] }
abbrev RInt_give_ra : List RS := [RS.one (LK.b), RS.one (LK.l 1), RS.one (LK.b), RS.one (LK.l 1)]
def XInt_give_rb : XS := { pat := [some (0, 2), none, none], nb := [4], out := [.ptr 0 2] }
abbrev RInt_give_rb : List RS := [RS.one (LK.b), RS.one (LK.l 1), RS.one (LK.b), RS.one (LK.l 1)]
def XInt_SetBytes_a : XS := { pat := [some (0, 0), none], nb := [2], out := [.ptr 0 0] }
abbrev RInt_SetBytes_a : List RS := [RS.one (LK.b), RS.one (LK.l 1)]
def Xratio_whole_a : XS := { pat := [none], nb := [], out := [.newb 2 0] }
abbrev Rratio_whole_a : List RS := [RS.one LK.b, RS.one (LK.l 1)]
def XInt_Abs_ir : XS := { pat := [some (0, 0), some (1, 0)], nb := [2, 4], out := [.ptr 0 0] }
abbrev RInt_Abs_ir : List RS := [RS.one (LK.b), RS.one (LK.l 1), RS.one (LK.b), RS.one (LK.l 1), RS.one (LK.b), RS.one (LK.l 1)]
def XInt_Abs_ii : XS := { pat := [some (0, 0), some (1, 0)], nb := [2, 2], out := [.ptr 0 0] }
abbrev RInt_Abs_ii : List RS := [RS.one (LK.b), RS.one (LK.l 1), RS.one (LK.b), RS.one (LK.l 1)]
def XInt_SetInt64_rb : XS := { pat := [some (0, 2), none], nb := [4], out := [.ptr 0 2] }
abbrev RInt_SetInt64_rb : List RS := [RS.one (LK.b), RS.one (LK.l 1), RS.one (LK.b), RS.one (LK.l 1)]
def XInt_SetInt64_i : XS := { pat := [some (0, 0), none], nb := [2], out := [.ptr 0 0] }
abbrev RInt_SetInt64_i : List RS := [RS.one (LK.b), RS.one (LK.l 1)]
def XNewInt_a : XS := { pat := [none], nb := [], out := [.newb 2 0] }
abbrev RNewInt_a : List RS := [RS.one LK.b, RS.one (LK.l 1)]
def XInt_QuoRem_i4 : XS := { pat := [some (0, 0), some (1, 0), some (2, 0), some (3, 0)], nb := [2, 2, 2, 2], out := [.ptr 0 0, .ptr 3 0] }
abbrev RInt_QuoRem_i4 : List RS := [RS.one (LK.b), RS.one (LK.l 1), RS.one (LK.b), RS.one (LK.l 1), RS.one (LK.b), RS.one (LK.l 1), RS.one (LK.b), RS.one (LK.l 1)]
def XInt_Mul_rr : XS := { pat := [some (0, 0), some (1, 0), some (2, 0)], nb := [2, 4, 4], out := [.ptr 0 0] }
abbrev RInt_Mul_rr : List RS := [RS.one (LK.b), RS.one (LK.l 1), RS.one (LK.b), RS.one (LK.l 1), RS.one (LK.b), RS.one (LK.l 1), RS.one (LK.b), RS.one (LK.l 1), RS.one (LK.b), RS.one (LK.l 1)]
def XInt_Mul_bb : XS := { pat := [some (0, 0), some (1, 2), some (2, 2)], nb := [2, 4, 4], out := [.ptr 0 0] }
abbrev RInt_Mul_bb : List RS := [RS.one (LK.b), RS.one (LK.l 1), RS.one (LK.b), RS.one (LK.l 1), RS.one (LK.b), RS.one (LK.l 1), RS.one (LK.b), RS.one (LK.l 1), RS.one (LK.b), RS.one (LK.l 1)]
def XInt_Mul_ab : XS := { pat := [some (0, 0), some (1, 0), some (2, 2)], nb := [2, 4, 4], out := [.ptr 0 0] }
abbrev RInt_Mul_ab : List RS := [RS.one (LK.b), RS.one (LK.l 1), RS.one (LK.b), RS.one (LK.l 1), RS.one (LK.b), RS.one (LK.l 1), RS.one (LK.b), RS.one (LK.l 1), RS.one (LK.b), RS.one (LK.l 1)]
def XInt_Mul_iii : XS := { pat := [some (0, 0), some (1, 0), some (2, 0)], nb := [2, 2, 2], out := [.ptr 0 0] }
abbrev RInt_Mul_iii : List RS := [RS.one (LK.b), RS.one (LK.l 1), RS.one (LK.b), RS.one (LK.l 1), RS.one (LK.b), RS.one (LK.l 1)]
def XInt_Mul_ri : XS := { pat := [some (0, 0), some (1, 0), some (2, 0)], nb := [2, 4, 2], out := [.ptr 0 0] }
abbrev RInt_Mul_ri : List RS := [RS.one (LK.b), RS.one (LK.l 1), RS.one (LK.b), RS.one (LK.l 1), RS.one (LK.b), RS.one (LK.l 1), RS.one (LK.b), RS.one (LK.l 1)]
def XInt_Mul_ir : XS := { pat := [some (0, 0), some (1, 0), some (2, 2)], nb := [2, 2, 4], out := [.ptr 0 0] }
abbrev RInt_Mul_ir : List RS := [RS.one (LK.b), RS.one (LK.l 1), RS.one (LK.b), RS.one (LK.l 1), RS.one (LK.b), RS.one (LK.l 1), RS.one (LK.b), RS.one (LK.l 1)]
def XInt_Sub_iii : XS := { pat := [some (0, 0), some (1, 0), some (2, 0)], nb := [2, 2, 2], out := [.ptr 0 0] }
abbrev RInt_Sub_iii : List RS := [RS.one (LK.b), RS.one (LK.l 1), RS.one (LK.b), RS.one (LK.l 1), RS.one (LK.b), RS.one (LK.l 1)]
def XInt_Neg_ra : XS := { pat := [some (0, 0), some (0, 0)], nb := [4], out := [.ptr 0 0] }
abbrev RInt_Neg_ra : List RS := [RS.one (LK.b), RS.one (LK.l 1), RS.one (LK.b), RS.one (LK.l 1)]
def XInt_Neg_rb : XS := { pat := [some (0, 2), some (0, 2)], nb := [4], out := [.ptr 0 2] }
abbrev RInt_Neg_rb : List RS := [RS.one (LK.b), RS.one (LK.l 1), RS.one (LK.b), RS.one (LK.l 1)]
def XInt_Neg_ii : XS := { pat := [some (0, 0), some (0, 0)], nb := [2], out := [.ptr 0 0] }
abbrev RInt_Neg_ii : List RS := [RS.one (LK.b), RS.one (LK.l 1)]
def XInt_Set_ii : XS := { pat := [some (0, 0), some (1, 0)], nb := [2, 2], out := [.ptr 0 0] }
abbrev RInt_Set_ii : List RS := [RS.one (LK.b), RS.one (LK.l 1), RS.one (LK.b), RS.one (LK.l 1)]
def XInt_Set_ir : XS := { pat := [some (0, 0), some (1, 2)], nb := [2, 4], out := [.ptr 0 0] }
abbrev RInt_Set_ir : List RS := [RS.one (LK.b), RS.one (LK.l 1), RS.one (LK.b), RS.one (LK.l 1), RS.one (LK.b), RS.one (LK.l 1)]
def XInt_IsUint64_i : XS := { pat := [some (0, 0)], nb := [2], out := [.one] }
abbrev RInt_IsUint64_i : List RS := [RS.one (LK.b), RS.one (LK.l 1), RS.one LK.b]
def XInt_Uint64_i : XS := { pat := [some (0, 0)], nb := [2], out := [.one] }
abbrev RInt_Uint64_i : List RS := [RS.one (LK.b), RS.one (LK.l 1), RS.one (LK.i IntKind.u64)]
def XRat_norm_a : XS := { pat := [some (0, 0)], nb := [4], out := [.ptr 0 0] }
abbrev RRat_norm_a : List RS := [RS.one (LK.b), RS.one (LK.l 1), RS.one (LK.b), RS.one (LK.l 1)]
def XRat_SetFrac_a : XS := { pat := [some (0, 0), some (1, 0), some (2, 0)], nb := [4, 2, 2], out := [.ptr 0 0] }
abbrev RRat_SetFrac_a : List RS := [RS.one (LK.b), RS.one (LK.l 1), RS.one (LK.b), RS.one (LK.l 1), RS.one (LK.b), RS.one (LK.l 1), RS.one (LK.b), RS.one (LK.l 1)]
def Xexact_Whole_a : XS := { pat := [none], nb := [], out := [.newb 2 0] }
abbrev Rexact_Whole_a : List RS := [RS.one LK.b, RS.one (LK.l 1)]
def Xexact_Fraction_a : XS := { pat := [none], nb := [], out := [.newb 4 0] }
abbrev Rexact_Fraction_a : List RS := [RS.one LK.b, RS.one (LK.l 1), RS.one LK.b, RS.one (LK.l 1)]
def XRat_den_b : XS := { pat := [some (0, 0)], nb := [4], out := [.ptr 0 2] }
abbrev RRat_den_b : List RS := [RS.one (LK.b), RS.one (LK.l 1), RS.one (LK.b), RS.one (LK.l 1)]
def XRat_Mul_a : XS := { pat := [some (0, 0), some (0, 0), some (1, 0)], nb := [4, 4], out := [.ptr 0 0] }
abbrev RRat_Mul_a : List RS := [RS.one (LK.b), RS.one (LK.l 1), RS.one (LK.b), RS.one (LK.l 1), RS.one (LK.b), RS.one (LK.l 1), RS.one (LK.b), RS.one (LK.l 1)]
def XInt_Add_iii : XS := { pat := [some (0, 0), some (1, 0), some (2, 0)], nb := [2, 2, 2], out := [.ptr 0 0] }
abbrev RInt_Add_iii : List RS := [RS.one (LK.b), RS.one (LK.l 1), RS.one (LK.b), RS.one (LK.l 1), RS.one (LK.b), RS.one (LK.l 1)]
def XRat_Sign_r : XS := { pat := [some (0, 0)], nb := [4], out := [.one] }
abbrev RRat_Sign_r : List RS := [RS.one (LK.b), RS.one (LK.l 1), RS.one (LK.b), RS.one (LK.l 1), RS.one (LK.i IntKind.i64)]
def XInt_Rsh_ii : XS := { pat := [some (0, 0), some (1, 0), none], nb := [2, 2], out := [.ptr 0 0] }
abbrev RInt_Rsh_ii : List RS := [RS.one (LK.b), RS.one (LK.l 1), RS.one (LK.b), RS.one (LK.l 1)]
def XInt_Rsh_p : XS := { pat := [some (0, 0), some (0, 0), none], nb := [2], out := [.ptr 0 0] }
abbrev RInt_Rsh_p : List RS := [RS.one (LK.b), RS.one (LK.l 1)]
def Xexact_Limbs_a : XS := { pat := [some (0, 0)], nb := [2], out := [.one] }
abbrev Rexact_Limbs_a : List RS := [RS.one (LK.b), RS.one (LK.l 1), RS.one (LK.l 1)]
def Xexact_Limbs_r : XS := { pat := [some (0, 0)], nb := [4], out := [.one] }
abbrev Rexact_Limbs_r : List RS := [RS.one (LK.b), RS.one (LK.l 1), RS.one (LK.b), RS.one (LK.l 1), RS.one (LK.l 1)]
def XRat_Denom_r : XS := { pat := [some (0, 0)], nb := [4], out := [.newb 2 0] }
abbrev RRat_Denom_r : List RS := [RS.one (LK.b), RS.one (LK.l 1), RS.one (LK.b), RS.one (LK.l 1), RS.one LK.b, RS.one (LK.l 1)]
def Xexact_Ratio_a : XS := { pat := [some (0, 0)], nb := [4], out := [.one] }
abbrev Rexact_Ratio_a : List RS := [RS.one (LK.b), RS.one (LK.l 1), RS.one (LK.b), RS.one (LK.l 1), RS.agg [LK.b, LK.l 1, LK.l 1]]
def XInt_SetUint64_i : XS := { pat := [some (0, 0), none], nb := [2], out := [.ptr 0 0] }
abbrev RInt_SetUint64_i : List RS := [RS.one (LK.b), RS.one (LK.l 1)]
def XInt_BitLen_i : XS := { pat := [some (0, 0)], nb := [2], out := [.one] }
abbrev RInt_BitLen_i : List RS := [RS.one (LK.b), RS.one (LK.l 1), RS.one (LK.i IntKind.i64)]
def XInt_low_a : XS := { pat := [some (0, 0), none], nb := [2], out := [.newo 1 [AV.int IntKind.u32 0]] }
abbrev RInt_low_a : List RS := [RS.one (LK.b), RS.one (LK.l 1), RS.one (LK.l 1), RS.one (LK.l 1), RS.one (LK.i IntKind.i64)]
def XInt_of_a : XS := { pat := [some (0, 0), none], nb := [2], out := [.ptr 0 0] }
abbrev RInt_of_a : List RS := [RS.one (LK.b), RS.one (LK.l 1)]
def XInt_And_a : XS := { pat := [some (0, 0), some (1, 0), some (2, 0)], nb := [2, 2, 2], out := [.ptr 0 0] }
abbrev RInt_And_a : List RS := [RS.one (LK.b), RS.one (LK.l 1), RS.one (LK.b), RS.one (LK.l 1), RS.one (LK.b), RS.one (LK.l 1)]
def XInt_And_pp : XS := { pat := [some (0, 0), some (0, 0), some (1, 0)], nb := [2, 2], out := [.ptr 0 0] }
abbrev RInt_And_pp : List RS := [RS.one (LK.b), RS.one (LK.l 1), RS.one (LK.b), RS.one (LK.l 1)]
def Xratio_limbs_a : XS := { pat := [some (0, 0)], nb := [2], out := [.one] }
abbrev Rratio_limbs_a : List RS := [RS.one (LK.b), RS.one (LK.l 1), RS.one (LK.l 1)]
def Xratio_told_a : XS := { pat := [some (0, 0)], nb := [4], out := [.one, .one] }
abbrev Rratio_told_a : List RS := [RS.one (LK.b), RS.one (LK.l 1), RS.one (LK.b), RS.one (LK.l 1), RS.agg [LK.b, LK.l 1, LK.l 1], RS.one (LK.i IntKind.i64)]
noncomputable instance : Inhabited GlobT := ⟨⟨[]⟩⟩
end Go.Proofs.Tryz
end
section
namespace Go.Proofs.Tryz
open Go Go.Am
set_option linter.unusedVariables false
set_option maxRecDepth 1000000
noncomputable def Gmath_Copysign : Gam := [(16,Go.Am.sBits),(15,Go.Am.sFrom)]
noncomputable def gmath_Copysign (fuel : Nat) (uf0 qhr : Option Nat) : Option AV :=
  ck (sBits.ok [AV.flt .f64 uf0]) <| ck (sBits.ok [AV.flt .f64 qhr]) <| ck (sFrom.ok [AV.int .u64 (IntKind.u64.wrap (↑(BitVec.ofInt 64 (IntKind.u64.wrap (↑(BitVec.ofInt 64 (↑(uf0.getD 0) : Int) &&& ~~~BitVec.ofInt 64 9223372036854775808).toNat : Int)) ||| BitVec.ofInt 64 (IntKind.u64.wrap (↑(BitVec.ofInt 64 (↑(qhr.getD 0) : Int) &&& BitVec.ofInt 64 9223372036854775808).toNat : Int))).toNat : Int))]) <| some (AV.flt .f64 (some (IntKind.u64.wrap (↑(BitVec.ofInt 64 (IntKind.u64.wrap (↑(BitVec.ofInt 64 (↑(uf0.getD 0) : Int) &&& ~~~BitVec.ofInt 64 9223372036854775808).toNat : Int)) ||| BitVec.ofInt 64 (IntKind.u64.wrap (↑(BitVec.ofInt 64 (↑(qhr.getD 0) : Int) &&& BitVec.ofInt 64 9223372036854775808).toNat : Int))).toNat : Int)).toNat))
noncomputable def mmath_Copysign (fuel : Nat) (xs : List AV) : Option AV := match xs with
  | [AV.flt .f64 uf0,AV.flt .f64 qhr] => gmath_Copysign fuel uf0 qhr
  | _ => none
abbrev Rmath_Copysign : List RS := [RS.one (LK.f .f64)]
theorem gmath_Copysign_sm (fuel : Nat) (hΓ : GamOk Pr Gmath_Copysign) (hP : NamesOk Pr) : SmOk Pr 4 (smM Rmath_Copysign (mmath_Copysign fuel)) := sm0 (fuel := fuel) (d := 7) hΓ hP fun xs v h => by
  unfold mmath_Copysign at h
  split at h
  · exact Eq.trans (by kernel_rfl) h
  · cases h
noncomputable def Gmath_NaN : Gam := [(15,Go.Am.sFrom)]
noncomputable def gmath_NaN (fuel : Nat) : Option AV :=
  some (AV.flt .f64 (some 9221120237041090561))
noncomputable def mmath_NaN (fuel : Nat) (xs : List AV) : Option AV := match xs with
  | [] => gmath_NaN fuel
  | _ => none
abbrev Rmath_NaN : List RS := [RS.one (LK.f .f64)]
theorem gmath_NaN_sm (fuel : Nat) (hΓ : GamOk Pr Gmath_NaN) (hP : NamesOk Pr) : SmOk Pr 5 (smM Rmath_NaN (mmath_NaN fuel)) := sm0 (fuel := fuel) (d := 7) hΓ hP fun xs v h => by
  unfold mmath_NaN at h
  split at h
  · exact Eq.trans (by kernel_rfl) h
  · cases h
noncomputable def Sjoints_named_0 (h0s : ByteArray) (h0p : Nat) : St := { env := [(13,AV.ptr 0 0)],h := [Blk.it h0s h0p],kd := [] }
noncomputable def Xjoints_named_0_0 (qch : Bool) (qse : ByteArray) (qs0 : Nat) : St := { env := [(2,AV.bool qch)],h := [Blk.it qse qs0],kd := [] }
noncomputable def Xjoints_named_0_1 (qsv : ByteArray) (qti : Nat) : St := { env := [],h := [Blk.it qsv qti],kd := [] }
noncomputable def gjoints_named_l0_step (fuel : Nat) (kn : Nat → Option AV) (kx0 : Bool → ByteArray → Nat → Option AV) (kx1 : ByteArray → Nat → Option AV) (h0s : ByteArray) (h0p : Nat) : Option AV :=
  bif h0p.blt h0s.size then bif bif decide ((↑(Utf8.decode h0s h0p).fst : Int) ≥ 97) then decide ((↑(Utf8.decode h0s h0p).fst : Int) ≤ 122) else false then kn (h0p + (Utf8.decode h0s h0p).snd)
    else bif bif bif decide ((↑(Utf8.decode h0s h0p).fst : Int) ≥ 48) then decide ((↑(Utf8.decode h0s h0p).fst : Int) ≤ 57) else false then decide ((↑h0p : Int) > 0) else false then kn (h0p + (Utf8.decode h0s h0p).snd)
    else kx0 false h0s (h0p + (Utf8.decode h0s h0p).snd)
  else kx1 h0s h0p
noncomputable def gjoints_named_l0 (fuel : Nat) (kx0 : Bool → ByteArray → Nat → Option AV) (kx1 : ByteArray → Nat → Option AV) (h0s : ByteArray) : Nat → Nat → Option AV
  | 0,_ => none
  | n' + 1,h0p => gjoints_named_l0_step fuel (gjoints_named_l0 fuel kx0 kx1 h0s n') kx0 kx1 h0s h0p
noncomputable def Tjoints_named_0 : TS' := ⟨[(13,TA.ptr 0 0)],[TB.it],[]⟩
noncomputable def Fjoints_named_0 (fuel : Nat) (ps : List Pay) (K : Ex → St → Option AV) : Option AV := match ps with
  | .s h0s :: .n h0p :: [] => gjoints_named_l0 fuel (fun qch qse qs0 => K (Ex.ret) (Xjoints_named_0_0 qch qse qs0)) (fun qsv qti => K (Ex.exit 0) (Xjoints_named_0_1 qsv qti)) h0s fuel h0p
  | _ => none
noncomputable def Ljoints_named (fuel : Nat) : Lam AV := [(68719460380,lam Tjoints_named_0 (Fjoints_named_0 fuel))]
noncomputable def Gjoints_named : Gam := []
theorem gjoints_named_l0_eq (fuel : Nat) (kn : St → Option AV) (K : Ex → St → Option AV) (h0s : ByteArray) (qto h0p : Nat) :
    bX Pr Gjoints_named (Ljoints_named fuel) 6 32 0 fuel (Sjoints_named_0 h0s h0p) (fun e s => match e with | .normal => kn (hX Pr 32 0 (Sjoints_named_0 h0s qto) s) | e => K e s) =
    gjoints_named_l0_step fuel (fun h0p => kn (Sjoints_named_0 h0s h0p)) (fun xu2 xh0s xh0p => K (Ex.ret) (Xjoints_named_0_0 xu2 xh0s xh0p)) (fun xh0s xh0p => K (Ex.exit 0) (Xjoints_named_0_1 xh0s xh0p)) h0s h0p := by kernel_rfl
theorem gjoints_named_l0_ok (fuel : Nat) (K : Ex → St → Option AV) (h0s : ByteArray) (qto : Nat) : ∀ (n' h0p : Nat),
    loopK (bX Pr Gjoints_named (Ljoints_named fuel) 6 32 0 fuel) (hX Pr 32 0 (Sjoints_named_0 h0s qto)) n' (Sjoints_named_0 h0s h0p) K = gjoints_named_l0 fuel (fun xu2 xh0s xh0p => K (Ex.ret) (Xjoints_named_0_0 xu2 xh0s xh0p)) (fun xh0s xh0p => K (Ex.exit 0) (Xjoints_named_0_1 xh0s xh0p)) h0s n' h0p
  | 0,_ => rfl
  | n' + 1,h0p => (gjoints_named_l0_eq fuel (fun s => loopK (bX Pr Gjoints_named (Ljoints_named fuel) 6 32 0 fuel) (hX Pr 32 0 (Sjoints_named_0 h0s qto)) n' s K) K h0s qto h0p).trans
    (congrArg (fun kn => gjoints_named_l0_step fuel kn _ _ h0s h0p) (funext fun h0p => gjoints_named_l0_ok fuel K h0s qto n' h0p))
theorem gjoints_named_L0 (fuel : Nat) : LX Pr Gjoints_named (Ljoints_named fuel) 6 32 0 fuel := by
  refine .of Tjoints_named_0 (Fjoints_named_0 fuel) (fun L h => ?_) (fun ps st K r he hr => ?_)
  · have e : (Ljoints_named fuel).get (writes (lp Pr 32 0).1) = some (lam Tjoints_named_0 (Fjoints_named_0 fuel)) := by kernel_rfl
    exact (Option.some.inj (e.symm.trans h)).symm
  · unfold Fjoints_named_0 at hr
    split at hr
    · obtain rfl := (Option.some.inj he).symm
      exact (gjoints_named_l0_ok fuel K _ _ fuel _).trans hr
    · cases hr
noncomputable def gjoints_named (fuel : Nat) (us0 : ByteArray) : Option AV :=
  bif bif strEq us0 { data := #[] } then true else decide ((↑us0.size : Int) > 8) then some (AV.bool false)
  else gjoints_named_l0 fuel
    (fun (xu2 : Bool) (_ : ByteArray) (_ : Nat) => some (AV.bool xu2))
    (fun (_ : ByteArray) (_ : Nat) => some (AV.bool true))
    us0 fuel (0)
noncomputable def mjoints_named (fuel : Nat) (xs : List AV) : Option AV := match xs with
  | [AV.str us0] => gjoints_named fuel us0
  | _ => none
abbrev Rjoints_named : List RS := [RS.one LK.b]
theorem gjoints_named_sm (fuel : Nat) (hΓ : GamOk Pr Gjoints_named) (hP : NamesOk Pr) : SmOk Pr 32 (smM Rjoints_named (mjoints_named fuel)) := smL (L := (Ljoints_named fuel)) (n := 1) hΓ hP (by kernel_rfl) (fun i hi => match i,hi with
  | 0,_ => gjoints_named_L0 fuel
  | i + 1,hi => absurd hi (by omega)) fun xs v h => by
  unfold mjoints_named at h
  split at h
  · exact Eq.trans (by kernel_rfl) h
  · cases h
noncomputable def Sjoints_near_0 (u5n u5r : Nat) (u5g : Ge) (u6 u7 : Int) : St := { env := [(5,AV.ro 1 u5n u5r u5g),(6,AV.int .i64 u6),(7,AV.int .i64 u7)],h := [],kd := [] }
noncomputable def Xjoints_near_0_0 (qch : Bool) : St := { env := [(2,AV.bool qch)],h := [],kd := [] }
noncomputable def Xjoints_near_0_1 : St := { env := [],h := [],kd := [] }
noncomputable def gjoints_near_l0_step (fuel : Nat) (kn : Int → Option AV) (kx0 : Bool → Option AV) (kx1 : Option AV) (u5n u5r : Nat) (u5g : Ge) (u6 u7 : Int) : Option AV :=
  bif decide (u7 < u6) then ck (decide (0 ≤ u7)) <| ck (decide (u7 < (↑u5n : Int))) <| ck (fitK (LK.i .i32) (u5g u7.toNat 0)) <| bif bif decide (toI (u5g u7.toNat 0) < (-1048576)) then true else decide (toI (u5g u7.toNat 0) > 1048576) then kx0 false
    else kn (IntKind.i64.wrap (u7 + 1))
  else kx1
noncomputable def gjoints_near_l0 (fuel : Nat) (kx0 : Bool → Option AV) (kx1 : Option AV) (u5n u5r : Nat) (u5g : Ge) (u6 : Int) : Nat → Int → Option AV
  | 0,_ => none
  | n' + 1,u7 => gjoints_near_l0_step fuel (gjoints_near_l0 fuel kx0 kx1 u5n u5r u5g u6 n') kx0 kx1 u5n u5r u5g u6 u7
noncomputable def Tjoints_near_0 : TS' := ⟨[(5,TA.ro 1),(6,TA.i .i64),(7,TA.i .i64)],[],[]⟩
noncomputable def Fjoints_near_0 (fuel : Nat) (ps : List Pay) (K : Ex → St → Option AV) : Option AV := match ps with
  | .n u5n :: .n u5r :: .g u5g :: .i u6 :: .i u7 :: [] => gjoints_near_l0 fuel (fun qch => K (Ex.ret) (Xjoints_near_0_0 qch)) (K (Ex.exit 0) Xjoints_near_0_1) u5n u5r u5g u6 fuel u7
  | _ => none
noncomputable def Ljoints_near (fuel : Nat) : Lam AV := [(262036,lam Tjoints_near_0 (Fjoints_near_0 fuel))]
noncomputable def Gjoints_near : Gam := []
theorem gjoints_near_l0_eq (fuel : Nat) (kn : St → Option AV) (K : Ex → St → Option AV) (u5n u5r : Nat) (u5g : Ge) (u6 u70 u7 : Int) :
    bX Pr Gjoints_near (Ljoints_near fuel) 6 33 0 fuel (Sjoints_near_0 u5n u5r u5g u6 u7) (fun e s => match e with | .normal => kn (hX Pr 33 0 (Sjoints_near_0 u5n u5r u5g u6 u70) s) | e => K e s) =
    gjoints_near_l0_step fuel (fun u7 => kn (Sjoints_near_0 u5n u5r u5g u6 u7)) (fun xu2 => K (Ex.ret) (Xjoints_near_0_0 xu2)) (K (Ex.exit 0) Xjoints_near_0_1) u5n u5r u5g u6 u7 := by kernel_rfl
theorem gjoints_near_l0_ok (fuel : Nat) (K : Ex → St → Option AV) (u5n u5r : Nat) (u5g : Ge) (u6 u70 : Int) : ∀ (n' : Nat) (u7 : Int),
    loopK (bX Pr Gjoints_near (Ljoints_near fuel) 6 33 0 fuel) (hX Pr 33 0 (Sjoints_near_0 u5n u5r u5g u6 u70)) n' (Sjoints_near_0 u5n u5r u5g u6 u7) K = gjoints_near_l0 fuel (fun xu2 => K (Ex.ret) (Xjoints_near_0_0 xu2)) (K (Ex.exit 0) Xjoints_near_0_1) u5n u5r u5g u6 n' u7
  | 0,_ => rfl
  | n' + 1,u7 => (gjoints_near_l0_eq fuel (fun s => loopK (bX Pr Gjoints_near (Ljoints_near fuel) 6 33 0 fuel) (hX Pr 33 0 (Sjoints_near_0 u5n u5r u5g u6 u70)) n' s K) K u5n u5r u5g u6 u70 u7).trans
    (congrArg (fun kn => gjoints_near_l0_step fuel kn _ _ u5n u5r u5g u6 u7) (funext fun u7 => gjoints_near_l0_ok fuel K u5n u5r u5g u6 u70 n' u7))
theorem gjoints_near_L0 (fuel : Nat) : LX Pr Gjoints_near (Ljoints_near fuel) 6 33 0 fuel := by
  refine .of Tjoints_near_0 (Fjoints_near_0 fuel) (fun L h => ?_) (fun ps st K r he hr => ?_)
  · have e : (Ljoints_near fuel).get (writes (lp Pr 33 0).1) = some (lam Tjoints_near_0 (Fjoints_near_0 fuel)) := by kernel_rfl
    exact (Option.some.inj (e.symm.trans h)).symm
  · unfold Fjoints_near_0 at hr
    split at hr
    · obtain rfl := (Option.some.inj he).symm
      exact (gjoints_near_l0_ok fuel K _ _ _ _ _ fuel _).trans hr
    · cases hr
noncomputable def gjoints_near (fuel y7 qa6 : Nat) (qan : Ge) : Option AV :=
  gjoints_near_l0 fuel
    (fun (xu2 : Bool) => some (AV.bool xu2))
    (some (AV.bool true))
    y7
    qa6
    qan
    ((↑y7 : Int)) fuel (0)
noncomputable def mjoints_near (fuel : Nat) (xs : List AV) : Option AV := match xs with
  | [AV.ro 1 y7 qa6 qan] => gjoints_near fuel y7 qa6 qan
  | _ => none
abbrev Rjoints_near : List RS := [RS.one LK.b]
theorem gjoints_near_sm (fuel : Nat) (hΓ : GamOk Pr Gjoints_near) (hP : NamesOk Pr) : SmOk Pr 33 (smM Rjoints_near (mjoints_near fuel)) := smL (L := (Ljoints_near fuel)) (n := 1) hΓ hP (by kernel_rfl) (fun i hi => match i,hi with
  | 0,_ => gjoints_near_L0 fuel
  | i + 1,hi => absurd hi (by omega)) fun xs v h => by
  unfold mjoints_near at h
  split at h
  · exact Eq.trans (by kernel_rfl) h
  · cases h
noncomputable def Sjoints_Check_0 (qdy qd7 : Nat) (ya : Ge) (u18 u19 : Int) (h0m h1m : List (AV × AV)) : St := { env := [(4,AV.mp 0),(5,AV.mp 1),(17,AV.ro 4 qdy qd7 ya),(18,AV.int .i64 u18),(19,AV.int .i64 u19)],h := [Blk.mp h0m,Blk.mp h1m],kd := [] }
noncomputable def Xjoints_Check_0_0 (qch qom : Int) (qsw qtf : List (AV × AV)) (qet : ByteArray) (qgx qgp qgy : Int) : St := { env := [(2,AV.int .i64 qch),(3,AV.int .i64 qom)],h := [Blk.mp qsw,Blk.mp qtf,Blk.box [AV.str qet,AV.int .i32 qgx,AV.int .i32 qgp,AV.int .u8 qgy]],kd := [] }
noncomputable def Xjoints_Check_0_1 (qs1 qtd : List (AV × AV)) : St := { env := [],h := [Blk.mp qs1,Blk.mp qtd],kd := [] }
noncomputable def gjoints_Check_l0_step (wo we : Mo) (fuel : Nat) (kn : Int → List (AV × AV) → List (AV × AV) → Option AV) (kx0 : Int → Int → List (AV × AV) → List (AV × AV) → ByteArray → Int → Int → Int → Option AV) (kx1 : List (AV × AV) → List (AV × AV) → Option AV) (qdy qd7 : Nat) (ya : Ge) (u18 u19 : Int) (h0m h1m : List (AV × AV)) : Option AV :=
  bif decide (u19 < u18) then ck (decide (0 ≤ u19)) <| ck (decide (u19 < (↑qdy : Int))) <| ck (fitKs [LK.s,LK.i .i32,LK.i .i32,LK.i .u8] [ya u19.toNat 0,ya u19.toNat 1,ya u19.toNat 2,ya u19.toNat 3]) <| ck (keyOk Tryz.prog 9 (AV.str (toS (ya u19.toNat 0)))) <| ck (mapFit Tryz.prog 9 (AV.str (toS (ya u19.toNat 0))) h0m) <| ck (fit1 Tryz.prog 3 ((findM Tryz.prog 9 (AV.str (toS (ya u19.toNat 0))) h0m).getD (AV.int .i64 0))) <| ck (keyOk Tryz.prog 94 (AV.agg [AV.int .i32 (toI (ya u19.toNat 1)),AV.int .i32 (toI (ya u19.toNat 2))])) <| ck (mapFit Tryz.prog 94 (AV.agg [AV.int .i32 (toI (ya u19.toNat 1)),AV.int .i32 (toI (ya u19.toNat 2))]) h1m) <| ck (fit1 Tryz.prog 3 ((findM Tryz.prog 94 (AV.agg [AV.int .i32 (toI (ya u19.toNat 1)),AV.int .i32 (toI (ya u19.toNat 2))]) h1m).getD (AV.int .i64 0))) <| ck (bif !bif (findM Tryz.prog 9 (AV.str (toS (ya u19.toNat 0))) h0m).isSome then true else (findM Tryz.prog 94 (AV.agg [AV.int .i32 (toI (ya u19.toNat 1)),AV.int .i32 (toI (ya u19.toNat 2))]) h1m).isSome then true else true) <| ck (bif !bif (findM Tryz.prog 9 (AV.str (toS (ya u19.toNat 0))) h0m).isSome then true else (findM Tryz.prog 94 (AV.agg [AV.int .i32 (toI (ya u19.toNat 1)),AV.int .i32 (toI (ya u19.toNat 2))]) h1m).isSome then okM [RS.one LK.b] (wo [AV.str (toS (ya u19.toNat 0))]) else true) <| ck (bif !bif bif (findM Tryz.prog 9 (AV.str (toS (ya u19.toNat 0))) h0m).isSome then true else (findM Tryz.prog 94 (AV.agg [AV.int .i32 (toI (ya u19.toNat 1)),AV.int .i32 (toI (ya u19.toNat 2))]) h1m).isSome then true else !toB (getV (wo [AV.str (toS (ya u19.toNat 0))])) then true else true) <| ck (bif !bif bif (findM Tryz.prog 9 (AV.str (toS (ya u19.toNat 0))) h0m).isSome then true else (findM Tryz.prog 94 (AV.agg [AV.int .i32 (toI (ya u19.toNat 1)),AV.int .i32 (toI (ya u19.toNat 2))]) h1m).isSome then true else !toB (getV (wo [AV.str (toS (ya u19.toNat 0))])) then true else true) <| ck (bif !bif bif (findM Tryz.prog 9 (AV.str (toS (ya u19.toNat 0))) h0m).isSome then true else (findM Tryz.prog 94 (AV.agg [AV.int .i32 (toI (ya u19.toNat 1)),AV.int .i32 (toI (ya u19.toNat 2))]) h1m).isSome then true else !toB (getV (wo [AV.str (toS (ya u19.toNat 0))])) then okM [RS.one LK.b] (we [AV.ro 1 2 2 fun (i j : Nat) => ([[AV.int .i32 (toI (ya u19.toNat 1))],[AV.int .i32 (toI (ya u19.toNat 2))]].getD i []).getD j AV.dead]) else true) <| ck (bif !bif bif bif (findM Tryz.prog 9 (AV.str (toS (ya u19.toNat 0))) h0m).isSome then true else (findM Tryz.prog 94 (AV.agg [AV.int .i32 (toI (ya u19.toNat 1)),AV.int .i32 (toI (ya u19.toNat 2))]) h1m).isSome then true else !toB (getV (wo [AV.str (toS (ya u19.toNat 0))])) then true else !toB (getV (we [AV.ro 1 2 2 fun (i j : Nat) => ([[AV.int .i32 (toI (ya u19.toNat 1))],[AV.int .i32 (toI (ya u19.toNat 2))]].getD i []).getD j AV.dead])) then true else true) <| bif bif bif bif bif (findM Tryz.prog 9 (AV.str (toS (ya u19.toNat 0))) h0m).isSome then true else (findM Tryz.prog 94 (AV.agg [AV.int .i32 (toI (ya u19.toNat 1)),AV.int .i32 (toI (ya u19.toNat 2))]) h1m).isSome then true else !toB (getV (wo [AV.str (toS (ya u19.toNat 0))])) then true else !toB (getV (we [AV.ro 1 2 2 fun (i j : Nat) => ([[AV.int .i32 (toI (ya u19.toNat 1))],[AV.int .i32 (toI (ya u19.toNat 2))]].getD i []).getD j AV.dead])) then true else decide (toI (ya u19.toNat 3) > 7) then kx0 (280) u19 h0m h1m (toS (ya u19.toNat 0)) (toI (ya u19.toNat 1)) (toI (ya u19.toNat 2)) (toI (ya u19.toNat 3))
    else ck (keyOk Tryz.prog 9 (AV.str (toS (ya u19.toNat 0)))) <| ck (mapFit Tryz.prog 9 (AV.str (toS (ya u19.toNat 0))) h0m) <| ck (!(findM Tryz.prog 9 (AV.str (toS (ya u19.toNat 0))) h0m).isSome) <| ck (keyOk Tryz.prog 94 (AV.agg [AV.int .i32 (toI (ya u19.toNat 1)),AV.int .i32 (toI (ya u19.toNat 2))])) <| ck (mapFit Tryz.prog 94 (AV.agg [AV.int .i32 (toI (ya u19.toNat 1)),AV.int .i32 (toI (ya u19.toNat 2))]) h1m) <| ck (!(findM Tryz.prog 94 (AV.agg [AV.int .i32 (toI (ya u19.toNat 1)),AV.int .i32 (toI (ya u19.toNat 2))]) h1m).isSome) <| kn (IntKind.i64.wrap (u19 + 1)) (h0m ++ [(AV.str (toS (ya u19.toNat 0)),AV.int .i64 u19)]) (h1m ++ [(AV.agg [AV.int .i32 (toI (ya u19.toNat 1)),AV.int .i32 (toI (ya u19.toNat 2))],AV.int .i64 u19)])
  else kx1 h0m h1m
noncomputable def gjoints_Check_l0 (wo we : Mo) (fuel : Nat) (kx0 : Int → Int → List (AV × AV) → List (AV × AV) → ByteArray → Int → Int → Int → Option AV) (kx1 : List (AV × AV) → List (AV × AV) → Option AV) (qdy qd7 : Nat) (ya : Ge) (u18 : Int) : Nat → Int → List (AV × AV) → List (AV × AV) → Option AV
  | 0,_,_,_ => none
  | n' + 1,u19,h0m,h1m => gjoints_Check_l0_step wo we fuel (gjoints_Check_l0 wo we fuel kx0 kx1 qdy qd7 ya u18 n') kx0 kx1 qdy qd7 ya u18 u19 h0m h1m
noncomputable def Tjoints_Check_0 : TS' := ⟨[(4,TA.mp 0),(5,TA.mp 1),(17,TA.ro 4),(18,TA.i .i64),(19,TA.i .i64)],[TB.mp,TB.mp],[]⟩
noncomputable def Fjoints_Check_0 (wo we : Mo) (fuel : Nat) (ps : List Pay) (K : Ex → St → Option AV) : Option AV := match ps with
  | .n qdy :: .n qd7 :: .g ya :: .i u18 :: .i u19 :: .m h0m :: .m h1m :: [] => gjoints_Check_l0 wo we fuel (fun qch qom qsw qtf qet qgx qgp qgy => K (Ex.ret) (Xjoints_Check_0_0 qch qom qsw qtf qet qgx qgp qgy)) (fun qs1 qtd => K (Ex.exit 0) (Xjoints_Check_0_1 qs1 qtd)) qdy qd7 ya u18 fuel u19 h0m h1m
  | _ => none
noncomputable def Ljoints_Check (wo we : Mo) (fuel : Nat) : Lam AV := [(302231454903657293156300,lam Tjoints_Check_0 (Fjoints_Check_0 wo we fuel))]
noncomputable def Gjoints_Check (wo we : Mo) : Gam := [(32,smM [RS.one LK.b] wo),(33,smM [RS.one LK.b] we)]
theorem gjoints_Check_l0_eq (wo we : Mo) (fuel : Nat) (kn : St → Option AV) (K : Ex → St → Option AV) (qdy qd7 : Nat) (ya : Ge) (u18 qmt : Int) (qts qtp : List (AV × AV)) (u19 : Int) (h0m h1m : List (AV × AV)) :
    bX Pr (Gjoints_Check wo we) (Ljoints_Check wo we fuel) 6 17 0 fuel (Sjoints_Check_0 qdy qd7 ya u18 u19 h0m h1m) (fun e s => match e with | .normal => kn (hX Pr 17 0 (Sjoints_Check_0 qdy qd7 ya u18 qmt qts qtp) s) | e => K e s) =
    gjoints_Check_l0_step wo we fuel (fun u19 h0m h1m => kn (Sjoints_Check_0 qdy qd7 ya u18 u19 h0m h1m)) (fun xu2 xu3 xh0m xh1m qez xh2_1 xh2_2 xh2_3 => K (Ex.ret) (Xjoints_Check_0_0 xu2 xu3 xh0m xh1m qez xh2_1 xh2_2 xh2_3)) (fun xh0m xh1m => K (Ex.exit 0) (Xjoints_Check_0_1 xh0m xh1m)) qdy qd7 ya u18 u19 h0m h1m := by kernel_rfl
theorem gjoints_Check_l0_ok (wo we : Mo) (fuel : Nat) (K : Ex → St → Option AV) (qdy qd7 : Nat) (ya : Ge) (u18 qmt : Int) (qts qtp : List (AV × AV)) : ∀ (n' : Nat) (u19 : Int) (h0m h1m : List (AV × AV)),
    loopK (bX Pr (Gjoints_Check wo we) (Ljoints_Check wo we fuel) 6 17 0 fuel) (hX Pr 17 0 (Sjoints_Check_0 qdy qd7 ya u18 qmt qts qtp)) n' (Sjoints_Check_0 qdy qd7 ya u18 u19 h0m h1m) K = gjoints_Check_l0 wo we fuel (fun xu2 xu3 xh0m xh1m qez xh2_1 xh2_2 xh2_3 => K (Ex.ret) (Xjoints_Check_0_0 xu2 xu3 xh0m xh1m qez xh2_1 xh2_2 xh2_3)) (fun xh0m xh1m => K (Ex.exit 0) (Xjoints_Check_0_1 xh0m xh1m)) qdy qd7 ya u18 n' u19 h0m h1m
  | 0,_,_,_ => rfl
  | n' + 1,u19,h0m,h1m => (gjoints_Check_l0_eq wo we fuel (fun s => loopK (bX Pr (Gjoints_Check wo we) (Ljoints_Check wo we fuel) 6 17 0 fuel) (hX Pr 17 0 (Sjoints_Check_0 qdy qd7 ya u18 qmt qts qtp)) n' s K) K qdy qd7 ya u18 qmt qts qtp u19 h0m h1m).trans
    (congrArg (fun kn => gjoints_Check_l0_step wo we fuel kn _ _ qdy qd7 ya u18 u19 h0m h1m) (funext fun u19 => funext fun h0m => funext fun h1m => gjoints_Check_l0_ok wo we fuel K qdy qd7 ya u18 qmt qts qtp n' u19 h0m h1m))
theorem gjoints_Check_L0 (wo we : Mo) (fuel : Nat) : LX Pr (Gjoints_Check wo we) (Ljoints_Check wo we fuel) 6 17 0 fuel := by
  refine .of Tjoints_Check_0 (Fjoints_Check_0 wo we fuel) (fun L h => ?_) (fun ps st K r he hr => ?_)
  · have e : (Ljoints_Check wo we fuel).get (writes (lp Pr 17 0).1) = some (lam Tjoints_Check_0 (Fjoints_Check_0 wo we fuel)) := by kernel_rfl
    exact (Option.some.inj (e.symm.trans h)).symm
  · unfold Fjoints_Check_0 at hr
    split at hr
    · obtain rfl := (Option.some.inj he).symm
      exact (gjoints_Check_l0_ok wo we fuel K _ _ _ _ _ _ _ fuel _ _ _).trans hr
    · cases hr
noncomputable def gjoints_Check (wo we : Mo) (fuel y7 qa6 : Nat) (qan : Ge) : Option AV :=
  bif decide ((↑y7 : Int) > 16) then some (AV.tup [AV.int .i64 3,AV.int .i64 0])
  else gjoints_Check_l0 wo we fuel
    (fun (xu2 xu3 : Int) (_ _ : List (AV × AV)) (_ : ByteArray) (_ _ _ : Int) => some (AV.tup [AV.int .i64 xu2,AV.int .i64 xu3]))
    (fun (_ _ : List (AV × AV)) => some (AV.tup [AV.int .i64 0,AV.int .i64 0]))
    y7
    qa6
    qan
    ((↑y7 : Int)) fuel (0) ([]) ([])
noncomputable def mjoints_Check (wo we : Mo) (fuel : Nat) (xs : List AV) : Option AV := match xs with
  | [AV.ro 4 y7 qa6 qan] => gjoints_Check wo we fuel y7 qa6 qan
  | _ => none
abbrev Rjoints_Check : List RS := [RS.one (LK.i .i64),RS.one (LK.i .i64)]
theorem gjoints_Check_sm (wo we : Mo) (fuel : Nat) (hΓ : GamOk Pr (Gjoints_Check wo we)) (hP : NamesOk Pr) : SmOk Pr 17 (smM Rjoints_Check (mjoints_Check wo we fuel)) := smL (L := (Ljoints_Check wo we fuel)) (n := 1) hΓ hP (by kernel_rfl) (fun i hi => match i,hi with
  | 0,_ => gjoints_Check_L0 wo we fuel
  | i + 1,hi => absurd hi (by omega)) fun xs v h => by
  unfold mjoints_Check at h
  split at h
  · exact Eq.trans (by kernel_rfl) h
  · cases h
noncomputable def Sbars_named_0 (p7 : ByteArray) (u7 u8 : Int) : St := { env := [(0,AV.str p7),(7,AV.int .i64 u7),(8,AV.int .i64 u8)],h := [],kd := [] }
noncomputable def Xbars_named_0_0 (qch : Bool) : St := { env := [(2,AV.bool qch)],h := [],kd := [] }
noncomputable def Xbars_named_0_1 (qsk : ByteArray) : St := { env := [(0,AV.str qsk)],h := [],kd := [] }
noncomputable def gbars_named_l0_step (fuel : Nat) (kn : Int → Option AV) (kx0 : Bool → Option AV) (kx1 : ByteArray → Option AV) (p7 : ByteArray) (u7 u8 : Int) : Option AV :=
  bif decide (u8 < u7) then ck (decide (0 ≤ u8)) <| ck (decide (u8 < (↑p7.size : Int))) <| ck (bif decide (sbyte p7 u8.toNat ≥ 97) then decide (0 ≤ u8) else true) <| ck (bif decide (sbyte p7 u8.toNat ≥ 97) then decide (u8 < (↑p7.size : Int)) else true) <| ck (decide (0 ≤ u8)) <| ck (decide (u8 < (↑p7.size : Int))) <| ck (bif decide (sbyte p7 u8.toNat ≥ 48) then decide (0 ≤ u8) else true) <| ck (bif decide (sbyte p7 u8.toNat ≥ 48) then decide (u8 < (↑p7.size : Int)) else true) <| bif bif !bif decide (sbyte p7 u8.toNat ≥ 97) then decide (sbyte p7 u8.toNat ≤ 122) else false then bif !bif decide (sbyte p7 u8.toNat ≥ 48) then decide (sbyte p7 u8.toNat ≤ 57) else false then true else u8 == 0 else false then kx0 false
    else kn (IntKind.i64.wrap (u8 + 1))
  else kx1 p7
noncomputable def gbars_named_l0 (fuel : Nat) (kx0 : Bool → Option AV) (kx1 : ByteArray → Option AV) (p7 : ByteArray) (u7 : Int) : Nat → Int → Option AV
  | 0,_ => none
  | n' + 1,u8 => gbars_named_l0_step fuel (gbars_named_l0 fuel kx0 kx1 p7 u7 n') kx0 kx1 p7 u7 u8
noncomputable def Tbars_named_0 : TS' := ⟨[(0,TA.s),(7,TA.i .i64),(8,TA.i .i64)],[],[]⟩
noncomputable def Fbars_named_0 (fuel : Nat) (ps : List Pay) (K : Ex → St → Option AV) : Option AV := match ps with
  | .s p7 :: .i u7 :: .i u8 :: [] => gbars_named_l0 fuel (fun qch => K (Ex.ret) (Xbars_named_0_0 qch)) (fun qsk => K (Ex.exit 0) (Xbars_named_0_1 qsk)) p7 u7 fuel u8
  | _ => none
noncomputable def Lbars_named (fuel : Nat) : Lam AV := [(4398046510908,lam Tbars_named_0 (Fbars_named_0 fuel))]
noncomputable def Gbars_named : Gam := []
theorem gbars_named_l0_eq (fuel : Nat) (kn : St → Option AV) (K : Ex → St → Option AV) (p7 : ByteArray) (u7 u80 u8 : Int) :
    bX Pr Gbars_named (Lbars_named fuel) 6 34 0 fuel (Sbars_named_0 p7 u7 u8) (fun e s => match e with | .normal => kn (hX Pr 34 0 (Sbars_named_0 p7 u7 u80) s) | e => K e s) =
    gbars_named_l0_step fuel (fun u8 => kn (Sbars_named_0 p7 u7 u8)) (fun xu2 => K (Ex.ret) (Xbars_named_0_0 xu2)) (fun qrw => K (Ex.exit 0) (Xbars_named_0_1 qrw)) p7 u7 u8 := by kernel_rfl
theorem gbars_named_l0_ok (fuel : Nat) (K : Ex → St → Option AV) (p7 : ByteArray) (u7 u80 : Int) : ∀ (n' : Nat) (u8 : Int),
    loopK (bX Pr Gbars_named (Lbars_named fuel) 6 34 0 fuel) (hX Pr 34 0 (Sbars_named_0 p7 u7 u80)) n' (Sbars_named_0 p7 u7 u8) K = gbars_named_l0 fuel (fun xu2 => K (Ex.ret) (Xbars_named_0_0 xu2)) (fun qrw => K (Ex.exit 0) (Xbars_named_0_1 qrw)) p7 u7 n' u8
  | 0,_ => rfl
  | n' + 1,u8 => (gbars_named_l0_eq fuel (fun s => loopK (bX Pr Gbars_named (Lbars_named fuel) 6 34 0 fuel) (hX Pr 34 0 (Sbars_named_0 p7 u7 u80)) n' s K) K p7 u7 u80 u8).trans
    (congrArg (fun kn => gbars_named_l0_step fuel kn _ _ p7 u7 u8) (funext fun u8 => gbars_named_l0_ok fuel K p7 u7 u80 n' u8))
theorem gbars_named_L0 (fuel : Nat) : LX Pr Gbars_named (Lbars_named fuel) 6 34 0 fuel := by
  refine .of Tbars_named_0 (Fbars_named_0 fuel) (fun L h => ?_) (fun ps st K r he hr => ?_)
  · have e : (Lbars_named fuel).get (writes (lp Pr 34 0).1) = some (lam Tbars_named_0 (Fbars_named_0 fuel)) := by kernel_rfl
    exact (Option.some.inj (e.symm.trans h)).symm
  · unfold Fbars_named_0 at hr
    split at hr
    · obtain rfl := (Option.some.inj he).symm
      exact (gbars_named_l0_ok fuel K _ _ _ fuel _).trans hr
    · cases hr
noncomputable def gbars_named (fuel : Nat) (us0 : ByteArray) : Option AV :=
  gbars_named_l0 fuel
    (fun (xu2 : Bool) => some (AV.bool xu2))
    (fun (qrw : ByteArray) => some (AV.bool (bif decide ((↑qrw.size : Int) ≥ 1) then decide ((↑qrw.size : Int) ≤ 8) else false)))
    us0
    ((↑us0.size : Int)) fuel (0)
noncomputable def mbars_named (fuel : Nat) (xs : List AV) : Option AV := match xs with
  | [AV.str us0] => gbars_named fuel us0
  | _ => none
abbrev Rbars_named : List RS := [RS.one LK.b]
theorem gbars_named_sm (fuel : Nat) (hΓ : GamOk Pr Gbars_named) (hP : NamesOk Pr) : SmOk Pr 34 (smM Rbars_named (mbars_named fuel)) := smL (L := (Lbars_named fuel)) (n := 1) hΓ hP (by kernel_rfl) (fun i hi => match i,hi with
  | 0,_ => gbars_named_L0 fuel
  | i + 1,hi => absurd hi (by omega)) fun xs v h => by
  unfold mbars_named at h
  split at h
  · exact Eq.trans (by kernel_rfl) h
  · cases h
noncomputable def Gbars_number : Gam := []
noncomputable def gbars_number (fuel : Nat) (ux0 : Option Nat) : Option AV :=
  some (AV.bool (bif ford .f64 ux0 (some 4336966441157787648) == some Ordering.gt || ford .f64 ux0 (some 4336966441157787648) == some Ordering.eq then ford .f64 ux0 (some 4877398396442247168) == some Ordering.lt || ford .f64 ux0 (some 4877398396442247168) == some Ordering.eq else false))
noncomputable def mbars_number (fuel : Nat) (xs : List AV) : Option AV := match xs with
  | [AV.flt .f64 ux0] => gbars_number fuel ux0
  | _ => none
abbrev Rbars_number : List RS := [RS.one LK.b]
theorem gbars_number_sm (fuel : Nat) (hΓ : GamOk Pr Gbars_number) (hP : NamesOk Pr) : SmOk Pr 35 (smM Rbars_number (mbars_number fuel)) := sm0 (fuel := fuel) (d := 7) hΓ hP fun xs v h => by
  unfold mbars_number at h
  split at h
  · exact Eq.trans (by kernel_rfl) h
  · cases h
noncomputable def Sbars_may_0 (qdy qd7 : Nat) (ya : Ge) (u18 u19 : Int) (yo yp : Nat) (ym : Ge) (q5 q8 : Nat) (q7 : Ge) (z2 : ByteArray) (qdk qio qh7 : Int) (qik qic : Bool) (qij qib qin : Option Nat) : St := { env := [(2,AV.ptr 0 0),(5,AV.ptr 1 0),(17,AV.ro 9 qdy qd7 ya),(18,AV.int .i64 u18),(19,AV.int .i64 u19)],h := [Blk.box [AV.ro 4 yo yp ym,AV.ro 9 q5 q8 q7],Blk.box [AV.str z2,AV.int .u8 qdk,AV.int .i64 qio,AV.int .i64 qh7,AV.bool qik,AV.bool qic,AV.flt .f64 qij,AV.flt .f64 qib,AV.flt .f64 qin]],kd := [] }
noncomputable def Xbars_may_0_0 (qfg : Bool) (qfl qfk : Nat) (qe7 : Ge) (qfd qfh : Nat) (qfi : Ge) (qqj : ByteArray) (qqd qrp qqn : Int) (qqx qrd : Bool) (qrc qri qqe : Option Nat) (qet : ByteArray) (qgx qgp qgy : Int) (qkk qj0 : Bool) (qj4 qj7 qj1 : Option Nat) : St := { env := [(4,AV.bool qfg)],h := [Blk.box [AV.ro 4 qfl qfk qe7,AV.ro 9 qfd qfh qfi],Blk.box [AV.str qqj,AV.int .u8 qqd,AV.int .i64 qrp,AV.int .i64 qqn,AV.bool qqx,AV.bool qrd,AV.flt .f64 qrc,AV.flt .f64 qri,AV.flt .f64 qqe],Blk.box [AV.str qet,AV.int .u8 qgx,AV.int .i64 qgp,AV.int .i64 qgy,AV.bool qkk,AV.bool qj0,AV.flt .f64 qj4,AV.flt .f64 qj7,AV.flt .f64 qj1]],kd := [] }
noncomputable def Xbars_may_0_1 (qe8 qe6 : Nat) (qfa : Ge) (qfc qfe : Nat) (qfj : Ge) (qq4 : ByteArray) (qqz qrr qqq : Int) (qqg qre : Bool) (qrl qqv qrj : Option Nat) : St := { env := [(2,AV.ptr 0 0),(5,AV.ptr 1 0)],h := [Blk.box [AV.ro 4 qe8 qe6 qfa,AV.ro 9 qfc qfe qfj],Blk.box [AV.str qq4,AV.int .u8 qqz,AV.int .i64 qrr,AV.int .i64 qqq,AV.bool qqg,AV.bool qre,AV.flt .f64 qrl,AV.flt .f64 qqv,AV.flt .f64 qrj]],kd := [] }
noncomputable def gbars_may_l0_step (w0 wu : Mo) (fuel : Nat) (kn : Int → Option AV) (kx0 : Bool → Nat → Nat → Ge → Nat → Nat → Ge → ByteArray → Int → Int → Int → Bool → Bool → Option Nat → Option Nat → Option Nat → ByteArray → Int → Int → Int → Bool → Bool → Option Nat → Option Nat → Option Nat → Option AV) (kx1 : Nat → Nat → Ge → Nat → Nat → Ge → ByteArray → Int → Int → Int → Bool → Bool → Option Nat → Option Nat → Option Nat → Option AV) (qdy qd7 : Nat) (ya : Ge) (u18 : Int) (yo yp : Nat) (ym : Ge) (q5 q8 : Nat) (q7 : Ge) (z2 : ByteArray) (qdk qio qh7 : Int) (qik qic : Bool) (qij qib qin : Option Nat) (u19 : Int) : Option AV :=
  bif decide (u19 < u18) then ck (decide (0 ≤ u19)) <| ck (decide (u19 < (↑qdy : Int))) <| ck (fitKs [LK.s,LK.i .u8,LK.i .i64,LK.i .i64,LK.b,LK.b,LK.f .f64,LK.f .f64,LK.f .f64] [ya u19.toNat 0,ya u19.toNat 1,ya u19.toNat 2,ya u19.toNat 3,ya u19.toNat 4,ya u19.toNat 5,ya u19.toNat 6,ya u19.toNat 7,ya u19.toNat 8]) <| bif strEq (toS (ya u19.toNat 0)) z2 then kx0 false yo yp ym q5 q8 q7 z2 qdk qio qh7 qik qic qij qib qin (toS (ya u19.toNat 0)) (toI (ya u19.toNat 1)) (toI (ya u19.toNat 2)) (toI (ya u19.toNat 3)) (toB (ya u19.toNat 4)) (toB (ya u19.toNat 5)) (toF (ya u19.toNat 6)) (toF (ya u19.toNat 7)) (toF (ya u19.toNat 8))
    else kn (IntKind.i64.wrap (u19 + 1))
  else kx1 yo yp ym q5 q8 q7 z2 qdk qio qh7 qik qic qij qib qin
noncomputable def gbars_may_l0 (w0 wu : Mo) (fuel : Nat) (kx0 : Bool → Nat → Nat → Ge → Nat → Nat → Ge → ByteArray → Int → Int → Int → Bool → Bool → Option Nat → Option Nat → Option Nat → ByteArray → Int → Int → Int → Bool → Bool → Option Nat → Option Nat → Option Nat → Option AV) (kx1 : Nat → Nat → Ge → Nat → Nat → Ge → ByteArray → Int → Int → Int → Bool → Bool → Option Nat → Option Nat → Option Nat → Option AV) (qdy qd7 : Nat) (ya : Ge) (u18 : Int) (yo yp : Nat) (ym : Ge) (q5 q8 : Nat) (q7 : Ge) (z2 : ByteArray) (qdk qio qh7 : Int) (qik qic : Bool) (qij qib qin : Option Nat) : Nat → Int → Option AV
  | 0,_ => none
  | n' + 1,u19 => gbars_may_l0_step w0 wu fuel (gbars_may_l0 w0 wu fuel kx0 kx1 qdy qd7 ya u18 yo yp ym q5 q8 q7 z2 qdk qio qh7 qik qic qij qib qin n') kx0 kx1 qdy qd7 ya u18 yo yp ym q5 q8 q7 z2 qdk qio qh7 qik qic qij qib qin u19
termination_by structural k => k
noncomputable def Tbars_may_0 : TS' := ⟨[(2,TA.ptr 0 0),(5,TA.ptr 1 0),(17,TA.ro 9),(18,TA.i .i64),(19,TA.i .i64)],[TB.box [TA.ro 4,TA.ro 9],TB.box [TA.s,TA.i .u8,TA.i .i64,TA.i .i64,TA.b,TA.b,TA.f .f64,TA.f .f64,TA.f .f64]],[]⟩
noncomputable def Fbars_may_0 (w0 wu : Mo) (fuel : Nat) (ps : List Pay) (K : Ex → St → Option AV) : Option AV := match ps with
  | .n qdy :: .n qd7 :: .g ya :: .i u18 :: .i u19 :: .n yo :: .n yp :: .g ym :: .n q5 :: .n q8 :: .g q7 :: .s z2 :: .i qdk :: .i qio :: .i qh7 :: .b qik :: .b qic :: .o qij :: .o qib :: .o qin :: [] => gbars_may_l0 w0 wu fuel (fun qfg qfl qfk qe7 qfd qfh qfi qqj qqd qrp qqn qqx qrd qrc qri qqe qet qgx qgp qgy qkk qj0 qj4 qj7 qj1 => K (Ex.ret) (Xbars_may_0_0 qfg qfl qfk qe7 qfd qfh qfi qqj qqd qrp qqn qqx qrd qrc qri qqe qet qgx qgp qgy qkk qj0 qj4 qj7 qj1)) (fun qe8 qe6 qfa qfc qfe qfj qq4 qqz qrr qqq qqg qre qrl qqv qrj => K (Ex.exit 0) (Xbars_may_0_1 qe8 qe6 qfa qfc qfe qfj qq4 qqz qrr qqq qqg qre qrl qqv qrj)) qdy qd7 ya u18 yo yp ym q5 q8 q7 z2 qdk qio qh7 qik qic qij qib qin fuel u19
  | _ => none
noncomputable def Lbars_may (w0 wu : Mo) (fuel : Nat) : Lam AV := [(536346768,lam Tbars_may_0 (Fbars_may_0 w0 wu fuel))]
noncomputable def Gbars_may (w0 wu : Mo) : Gam := [(34,smM [RS.one LK.b] w0),(35,smM [RS.one LK.b] wu),(16,Go.Am.sBits)]
theorem gbars_may_l0_eq (w0 wu : Mo) (fuel : Nat) (kn : St → Option AV) (K : Ex → St → Option AV) (qdy qd7 : Nat) (ya : Ge) (u18 : Int) (yo yp : Nat) (ym : Ge) (q5 q8 : Nat) (q7 : Ge) (z2 : ByteArray) (qdk qio qh7 : Int) (qik qic : Bool) (qij qib qin : Option Nat) (qmt u19 : Int) :
    bX Pr (Gbars_may w0 wu) (Lbars_may w0 wu fuel) 6 18 0 fuel (Sbars_may_0 qdy qd7 ya u18 u19 yo yp ym q5 q8 q7 z2 qdk qio qh7 qik qic qij qib qin) (fun e s => match e with | .normal => kn (hX Pr 18 0 (Sbars_may_0 qdy qd7 ya u18 qmt yo yp ym q5 q8 q7 z2 qdk qio qh7 qik qic qij qib qin) s) | e => K e s) =
    gbars_may_l0_step w0 wu fuel (fun u19 => kn (Sbars_may_0 qdy qd7 ya u18 u19 yo yp ym q5 q8 q7 z2 qdk qio qh7 qik qic qij qib qin)) (fun xu4 p9 p8 qaa zx zv zw p2 qgw xh1_2 xh1_3 xh1_4 xh1_5 xh1_6 xh1_7 xh1_8 qez xh2_1 xh2_2 xh2_3 xh2_4 xh2_5 xh2_6 xh2_7 xh2_8 => K (Ex.ret) (Xbars_may_0_0 xu4 p9 p8 qaa zx zv zw p2 qgw xh1_2 xh1_3 xh1_4 xh1_5 xh1_6 xh1_7 xh1_8 qez xh2_1 xh2_2 xh2_3 xh2_4 xh2_5 xh2_6 xh2_7 xh2_8)) (fun p9 p8 qaa zx zv zw p2 qgw xh1_2 xh1_3 xh1_4 xh1_5 xh1_6 xh1_7 xh1_8 => K (Ex.exit 0) (Xbars_may_0_1 p9 p8 qaa zx zv zw p2 qgw xh1_2 xh1_3 xh1_4 xh1_5 xh1_6 xh1_7 xh1_8)) qdy qd7 ya u18 yo yp ym q5 q8 q7 z2 qdk qio qh7 qik qic qij qib qin u19 := by kernel_rfl
theorem gbars_may_l0_ok (w0 wu : Mo) (fuel : Nat) (K : Ex → St → Option AV) (qdy qd7 : Nat) (ya : Ge) (u18 : Int) (yo yp : Nat) (ym : Ge) (q5 q8 : Nat) (q7 : Ge) (z2 : ByteArray) (qdk qio qh7 : Int) (qik qic : Bool) (qij qib qin : Option Nat) (qmt : Int) : ∀ (n' : Nat) (u19 : Int),
    loopK (bX Pr (Gbars_may w0 wu) (Lbars_may w0 wu fuel) 6 18 0 fuel) (hX Pr 18 0 (Sbars_may_0 qdy qd7 ya u18 qmt yo yp ym q5 q8 q7 z2 qdk qio qh7 qik qic qij qib qin)) n' (Sbars_may_0 qdy qd7 ya u18 u19 yo yp ym q5 q8 q7 z2 qdk qio qh7 qik qic qij qib qin) K = gbars_may_l0 w0 wu fuel (fun xu4 p9 p8 qaa zx zv zw p2 qgw xh1_2 xh1_3 xh1_4 xh1_5 xh1_6 xh1_7 xh1_8 qez xh2_1 xh2_2 xh2_3 xh2_4 xh2_5 xh2_6 xh2_7 xh2_8 => K (Ex.ret) (Xbars_may_0_0 xu4 p9 p8 qaa zx zv zw p2 qgw xh1_2 xh1_3 xh1_4 xh1_5 xh1_6 xh1_7 xh1_8 qez xh2_1 xh2_2 xh2_3 xh2_4 xh2_5 xh2_6 xh2_7 xh2_8)) (fun p9 p8 qaa zx zv zw p2 qgw xh1_2 xh1_3 xh1_4 xh1_5 xh1_6 xh1_7 xh1_8 => K (Ex.exit 0) (Xbars_may_0_1 p9 p8 qaa zx zv zw p2 qgw xh1_2 xh1_3 xh1_4 xh1_5 xh1_6 xh1_7 xh1_8)) qdy qd7 ya u18 yo yp ym q5 q8 q7 z2 qdk qio qh7 qik qic qij qib qin n' u19
  | 0,_ => rfl
  | n' + 1,u19 => (gbars_may_l0_eq w0 wu fuel (fun s => loopK (bX Pr (Gbars_may w0 wu) (Lbars_may w0 wu fuel) 6 18 0 fuel) (hX Pr 18 0 (Sbars_may_0 qdy qd7 ya u18 qmt yo yp ym q5 q8 q7 z2 qdk qio qh7 qik qic qij qib qin)) n' s K) K qdy qd7 ya u18 yo yp ym q5 q8 q7 z2 qdk qio qh7 qik qic qij qib qin qmt u19).trans
    (congrArg (fun kn => gbars_may_l0_step w0 wu fuel kn _ _ qdy qd7 ya u18 yo yp ym q5 q8 q7 z2 qdk qio qh7 qik qic qij qib qin u19) (funext fun u19 => gbars_may_l0_ok w0 wu fuel K qdy qd7 ya u18 yo yp ym q5 q8 q7 z2 qdk qio qh7 qik qic qij qib qin qmt n' u19))
theorem gbars_may_L0 (w0 wu : Mo) (fuel : Nat) : LX Pr (Gbars_may w0 wu) (Lbars_may w0 wu fuel) 6 18 0 fuel := by
  refine .of Tbars_may_0 (Fbars_may_0 w0 wu fuel) (fun L h => ?_) (fun ps st K r he hr => ?_)
  · have e : (Lbars_may w0 wu fuel).get (writes (lp Pr 18 0).1) = some (lam Tbars_may_0 (Fbars_may_0 w0 wu fuel)) := by kernel_rfl
    exact (Option.some.inj (e.symm.trans h)).symm
  · unfold Fbars_may_0 at hr
    split at hr
    · obtain rfl := (Option.some.inj he).symm
      exact (gbars_may_l0_ok w0 wu fuel K _ _ _ _ _ _ _ _ _ _ _ _ _ _ _ _ _ _ _ _ fuel _).trans hr
    · cases hr
noncomputable def gbars_may (w0 wu : Mo) (fuel qaw qbh : Nat) (yc : Ge) (qav qa5 : Nat) (y4 : Ge) (at1 : Int) : Option AV :=
  ck (decide (0 ≤ at1)) <| ck (decide (at1 < (↑qav : Int))) <| ck (fitKs [LK.s,LK.i .u8,LK.i .i64,LK.i .i64,LK.b,LK.b,LK.f .f64,LK.f .f64,LK.f .f64] [y4 at1.toNat 0,y4 at1.toNat 1,y4 at1.toNat 2,y4 at1.toNat 3,y4 at1.toNat 4,y4 at1.toNat 5,y4 at1.toNat 6,y4 at1.toNat 7,y4 at1.toNat 8]) <| ck (decide (0 ≤ at1)) <| ck (decide (at1 ≤ (↑qa5 : Int))) <| gbars_may_l0 w0 wu fuel
    (fun (xu4 : Bool) (_ _ : Nat) (_ : Ge) (_ _ : Nat) (_ : Ge) (_ : ByteArray) (_ _ _ : Int) (_ _ : Bool) (_ _ _ : Option Nat) (_ : ByteArray) (_ _ _ : Int) (_ _ : Bool) (_ _ _ : Option Nat) => some (AV.bool xu4))
    (fun (qcw _ : Nat) (_ : Ge) (_ _ : Nat) (_ : Ge) (pc : ByteArray) (qk0 qa2 qck : Int) (qm3 qrg : Bool) (qm2 qtj qm4 : Option Nat) => ck (okM [RS.one LK.b] (w0 [AV.str pc])) <| ck (bif !!toB (getV (w0 [AV.str pc])) then true else true) <| ck (bif !bif !toB (getV (w0 [AV.str pc])) then true else decide (qa2 < 0) then true else true) <| ck (bif !bif bif !toB (getV (w0 [AV.str pc])) then true else decide (qa2 < 0) then true else decide (qa2 ≥ (↑qcw : Int)) then true else true) <| ck (bif !bif bif bif !toB (getV (w0 [AV.str pc])) then true else decide (qa2 < 0) then true else decide (qa2 ≥ (↑qcw : Int)) then true else decide (qck < 0) then true else true) <| ck (bif !bif bif bif bif !toB (getV (w0 [AV.str pc])) then true else decide (qa2 < 0) then true else decide (qa2 ≥ (↑qcw : Int)) then true else decide (qck < 0) then true else decide (qck ≥ (↑qcw : Int)) then true else true) <| ck (bif !bif bif bif bif !toB (getV (w0 [AV.str pc])) then true else decide (qa2 < 0) then true else decide (qa2 ≥ (↑qcw : Int)) then true else decide (qck < 0) then true else decide (qck ≥ (↑qcw : Int)) then true else true) <| ck (bif !bif bif bif bif bif !toB (getV (w0 [AV.str pc])) then true else decide (qa2 < 0) then true else decide (qa2 ≥ (↑qcw : Int)) then true else decide (qck < 0) then true else decide (qck ≥ (↑qcw : Int)) then true else qa2 == qck then true else true) <| ck (bif !bif bif bif bif bif !toB (getV (w0 [AV.str pc])) then true else decide (qa2 < 0) then true else decide (qa2 ≥ (↑qcw : Int)) then true else decide (qck < 0) then true else decide (qck ≥ (↑qcw : Int)) then true else qa2 == qck then okM [RS.one LK.b] (wu [AV.flt .f64 qm2]) else true) <| ck (bif !bif bif bif bif bif bif !toB (getV (w0 [AV.str pc])) then true else decide (qa2 < 0) then true else decide (qa2 ≥ (↑qcw : Int)) then true else decide (qck < 0) then true else decide (qck ≥ (↑qcw : Int)) then true else qa2 == qck then true else !toB (getV (wu [AV.flt .f64 qm2])) then true else true) <| ck (bif !bif bif bif bif bif bif !toB (getV (w0 [AV.str pc])) then true else decide (qa2 < 0) then true else decide (qa2 ≥ (↑qcw : Int)) then true else decide (qck < 0) then true else decide (qck ≥ (↑qcw : Int)) then true else qa2 == qck then true else !toB (getV (wu [AV.flt .f64 qm2])) then okM [RS.one LK.b] (wu [AV.flt .f64 qtj]) else true) <| bif bif bif bif bif bif bif bif !toB (getV (w0 [AV.str pc])) then true else decide (qa2 < 0) then true else decide (qa2 ≥ (↑qcw : Int)) then true else decide (qck < 0) then true else decide (qck ≥ (↑qcw : Int)) then true else qa2 == qck then true else !toB (getV (wu [AV.flt .f64 qm2])) then true else !toB (getV (wu [AV.flt .f64 qtj])) then some (AV.bool false)
      else bif qk0 == 1 then ck (bif !qm3 then true else true) <| ck (bif bif !qm3 then !qrg else false then true else true) <| ck (bif bif !qm3 then !qrg else false then sBits.ok [AV.flt .f64 qm4] else true) <| some (AV.bool (bif bif !qm3 then !qrg else false then (↑(qm4.getD 0) : Int) == 0 else false))
      else bif qk0 == 2 then ck (okM [RS.one LK.b] (wu [AV.flt .f64 qm4])) <| some (AV.bool (toB (getV (wu [AV.flt .f64 qm4]))))
      else some (AV.bool false))
    (at1.toNat - 0)
    (qa5 - 0)
    (fun (i : Nat) => y4 (0 + i))
    ((↑(at1.toNat - 0) : Int))
    qaw
    qbh
    yc
    qav
    qa5
    y4
    (toS (y4 at1.toNat 0))
    (toI (y4 at1.toNat 1))
    (toI (y4 at1.toNat 2))
    (toI (y4 at1.toNat 3))
    (toB (y4 at1.toNat 4))
    (toB (y4 at1.toNat 5))
    (toF (y4 at1.toNat 6))
    (toF (y4 at1.toNat 7))
    (toF (y4 at1.toNat 8)) fuel (0)
noncomputable def mbars_may (w0 wu : Mo) (fuel : Nat) (xs : List AV) : Option AV := match xs with
  | [AV.agg [AV.ro 4 qaw qbh yc,AV.ro 9 qav qa5 y4],AV.int .i64 at1] => gbars_may w0 wu fuel qaw qbh yc qav qa5 y4 at1
  | _ => none
abbrev Rbars_may : List RS := [RS.one LK.b]
theorem gbars_may_sm (w0 wu : Mo) (fuel : Nat) (hΓ : GamOk Pr (Gbars_may w0 wu)) (hP : NamesOk Pr) : SmOk Pr 18 (smM Rbars_may (mbars_may w0 wu fuel)) := smL (L := (Lbars_may w0 wu fuel)) (n := 1) hΓ hP (by kernel_rfl) (fun i hi => match i,hi with
  | 0,_ => gbars_may_L0 w0 wu fuel
  | i + 1,hi => absurd hi (by omega)) fun xs v h => by
  unfold mbars_may at h
  split at h
  · exact Eq.trans (by kernel_rfl) h
  · cases h
noncomputable def Sbars_Check_0 (u25 u26 : Int) (yo yp : Nat) (ym : Ge) (q5 q8 : Nat) (q7 : Ge) : St := { env := [(1,AV.ptr 0 0),(25,AV.int .i64 u25),(26,AV.int .i64 u26)],h := [Blk.box [AV.ro 4 yo yp ym,AV.ro 9 q5 q8 q7]],kd := [] }
noncomputable def Xbars_Check_0_0 (qch qom : Int) (qfl qfk : Nat) (qe7 : Ge) (qfd qfh : Nat) (qfi : Ge) : St := { env := [(2,AV.int .i64 qch),(3,AV.int .i64 qom)],h := [Blk.box [AV.ro 4 qfl qfk qe7,AV.ro 9 qfd qfh qfi]],kd := [] }
noncomputable def Xbars_Check_0_1 (qe8 qe6 : Nat) (qfa : Ge) (qfc qfe : Nat) (qfj : Ge) : St := { env := [],h := [Blk.box [AV.ro 4 qe8 qe6 qfa,AV.ro 9 qfc qfe qfj]],kd := [] }
noncomputable def gbars_Check_l0_step (wy z3 : Mo) (fuel : Nat) (kn : Int → Option AV) (kx0 : Int → Int → Nat → Nat → Ge → Nat → Nat → Ge → Option AV) (kx1 : Nat → Nat → Ge → Nat → Nat → Ge → Option AV) (u25 : Int) (yo yp : Nat) (ym : Ge) (q5 q8 : Nat) (q7 : Ge) (u26 : Int) : Option AV :=
  bif decide (u26 < u25) then ck (okM [RS.one LK.b] (z3 [AV.agg [AV.ro 4 yo yp ym,AV.ro 9 q5 q8 q7],AV.int .i64 u26])) <| bif !toB (getV (z3 [AV.agg [AV.ro 4 yo yp ym,AV.ro 9 q5 q8 q7],AV.int .i64 u26])) then kx0 (290) u26 yo yp ym q5 q8 q7
    else kn (IntKind.i64.wrap (u26 + 1))
  else kx1 yo yp ym q5 q8 q7
noncomputable def gbars_Check_l0 (wy z3 : Mo) (fuel : Nat) (kx0 : Int → Int → Nat → Nat → Ge → Nat → Nat → Ge → Option AV) (kx1 : Nat → Nat → Ge → Nat → Nat → Ge → Option AV) (u25 : Int) (yo yp : Nat) (ym : Ge) (q5 q8 : Nat) (q7 : Ge) : Nat → Int → Option AV
  | 0,_ => none
  | n' + 1,u26 => gbars_Check_l0_step wy z3 fuel (gbars_Check_l0 wy z3 fuel kx0 kx1 u25 yo yp ym q5 q8 q7 n') kx0 kx1 u25 yo yp ym q5 q8 q7 u26
noncomputable def Tbars_Check_0 : TS' := ⟨[(1,TA.ptr 0 0),(25,TA.i .i64),(26,TA.i .i64)],[TB.box [TA.ro 4,TA.ro 9]],[]⟩
noncomputable def Fbars_Check_0 (wy z3 : Mo) (fuel : Nat) (ps : List Pay) (K : Ex → St → Option AV) : Option AV := match ps with
  | .i u25 :: .i u26 :: .n yo :: .n yp :: .g ym :: .n q5 :: .n q8 :: .g q7 :: [] => gbars_Check_l0 wy z3 fuel (fun qch qom qfl qfk qe7 qfd qfh qfi => K (Ex.ret) (Xbars_Check_0_0 qch qom qfl qfk qe7 qfd qfh qfi)) (fun qe8 qe6 qfa qfc qfe qfj => K (Ex.exit 1) (Xbars_Check_0_1 qe8 qe6 qfa qfc qfe qfj)) u25 yo yp ym q5 q8 q7 fuel u26
  | _ => none
noncomputable def Lbars_Check (wy z3 : Mo) (fuel : Nat) : Lam AV := [(34292629580,lam Tbars_Check_0 (Fbars_Check_0 wy z3 fuel))]
noncomputable def Gbars_Check (wy z3 : Mo) : Gam := [(17,smM [RS.one (LK.i .i64),RS.one (LK.i .i64)] wy),(18,smM [RS.one LK.b] z3)]
theorem gbars_Check_l0_eq (wy z3 : Mo) (fuel : Nat) (kn : St → Option AV) (K : Ex → St → Option AV) (u25 : Int) (yo yp : Nat) (ym : Ge) (q5 q8 : Nat) (q7 : Ge) (qt4 u26 : Int) :
    bX Pr (Gbars_Check wy z3) (Lbars_Check wy z3 fuel) 6 6 0 fuel (Sbars_Check_0 u25 u26 yo yp ym q5 q8 q7) (fun e s => match e with | .normal => kn (hX Pr 6 0 (Sbars_Check_0 u25 qt4 yo yp ym q5 q8 q7) s) | e => K e s) =
    gbars_Check_l0_step wy z3 fuel (fun u26 => kn (Sbars_Check_0 u25 u26 yo yp ym q5 q8 q7)) (fun xu2 xu3 p9 p8 qaa zx zv zw => K (Ex.ret) (Xbars_Check_0_0 xu2 xu3 p9 p8 qaa zx zv zw)) (fun p9 p8 qaa zx zv zw => K (Ex.exit 1) (Xbars_Check_0_1 p9 p8 qaa zx zv zw)) u25 yo yp ym q5 q8 q7 u26 := by kernel_rfl
theorem gbars_Check_l0_ok (wy z3 : Mo) (fuel : Nat) (K : Ex → St → Option AV) (u25 : Int) (yo yp : Nat) (ym : Ge) (q5 q8 : Nat) (q7 : Ge) (qt4 : Int) : ∀ (n' : Nat) (u26 : Int),
    loopK (bX Pr (Gbars_Check wy z3) (Lbars_Check wy z3 fuel) 6 6 0 fuel) (hX Pr 6 0 (Sbars_Check_0 u25 qt4 yo yp ym q5 q8 q7)) n' (Sbars_Check_0 u25 u26 yo yp ym q5 q8 q7) K = gbars_Check_l0 wy z3 fuel (fun xu2 xu3 p9 p8 qaa zx zv zw => K (Ex.ret) (Xbars_Check_0_0 xu2 xu3 p9 p8 qaa zx zv zw)) (fun p9 p8 qaa zx zv zw => K (Ex.exit 1) (Xbars_Check_0_1 p9 p8 qaa zx zv zw)) u25 yo yp ym q5 q8 q7 n' u26
  | 0,_ => rfl
  | n' + 1,u26 => (gbars_Check_l0_eq wy z3 fuel (fun s => loopK (bX Pr (Gbars_Check wy z3) (Lbars_Check wy z3 fuel) 6 6 0 fuel) (hX Pr 6 0 (Sbars_Check_0 u25 qt4 yo yp ym q5 q8 q7)) n' s K) K u25 yo yp ym q5 q8 q7 qt4 u26).trans
    (congrArg (fun kn => gbars_Check_l0_step wy z3 fuel kn _ _ u25 yo yp ym q5 q8 q7 u26) (funext fun u26 => gbars_Check_l0_ok wy z3 fuel K u25 yo yp ym q5 q8 q7 qt4 n' u26))
theorem gbars_Check_L0 (wy z3 : Mo) (fuel : Nat) : LX Pr (Gbars_Check wy z3) (Lbars_Check wy z3 fuel) 6 6 0 fuel := by
  refine .of Tbars_Check_0 (Fbars_Check_0 wy z3 fuel) (fun L h => ?_) (fun ps st K r he hr => ?_)
  · have e : (Lbars_Check wy z3 fuel).get (writes (lp Pr 6 0).1) = some (lam Tbars_Check_0 (Fbars_Check_0 wy z3 fuel)) := by kernel_rfl
    exact (Option.some.inj (e.symm.trans h)).symm
  · unfold Fbars_Check_0 at hr
    split at hr
    · obtain rfl := (Option.some.inj he).symm
      exact (gbars_Check_l0_ok wy z3 fuel K _ _ _ _ _ _ _ _ fuel _).trans hr
    · cases hr
noncomputable def gbars_Check (wy z3 : Mo) (fuel qaw qbh : Nat) (yc : Ge) (qav qa5 : Nat) (y4 : Ge) : Option AV :=
  let r0 : Option AV := wy [AV.ro 4 qaw qbh yc]; ck (okM [RS.one (LK.i .i64),RS.one (LK.i .i64)] r0) <| bif toI ((toT (getV r0)).headD .dead) != 0 then some (AV.tup [AV.int .i64 (toI ((toT (getV r0)).headD .dead)),AV.int .i64 (toI ((toT (getV r0)).tail.headD .dead))])
  else bif decide ((↑qav : Int) > 48) then some (AV.tup [AV.int .i64 3,AV.int .i64 0])
  else gbars_Check_l0 wy z3 fuel
    (fun (xu2 xu3 : Int) (_ _ : Nat) (_ : Ge) (_ _ : Nat) (_ : Ge) => some (AV.tup [AV.int .i64 xu2,AV.int .i64 xu3]))
    (fun (_ _ : Nat) (_ : Ge) (_ _ : Nat) (_ : Ge) => some (AV.tup [AV.int .i64 0,AV.int .i64 0]))
    ((↑qav : Int))
    qaw
    qbh
    yc
    qav
    qa5
    y4 fuel (0)
noncomputable def mbars_Check (wy z3 : Mo) (fuel : Nat) (xs : List AV) : Option AV := match xs with
  | [AV.agg [AV.ro 4 qaw qbh yc,AV.ro 9 qav qa5 y4]] => gbars_Check wy z3 fuel qaw qbh yc qav qa5 y4
  | _ => none
abbrev Rbars_Check : List RS := [RS.one (LK.i .i64),RS.one (LK.i .i64)]
theorem gbars_Check_sm (wy z3 : Mo) (fuel : Nat) (hΓ : GamOk Pr (Gbars_Check wy z3)) (hP : NamesOk Pr) : SmOk Pr 6 (smM Rbars_Check (mbars_Check wy z3 fuel)) := smL (L := (Lbars_Check wy z3 fuel)) (n := 1) hΓ hP (by kernel_rfl) (fun i hi => match i,hi with
  | 0,_ => gbars_Check_L0 wy z3 fuel
  | i + 1,hi => absurd hi (by omega)) fun xs v h => by
  unfold mbars_Check at h
  split at h
  · exact Eq.trans (by kernel_rfl) h
  · cases h
noncomputable def Gmath_Inf : Gam := [(15,Go.Am.sFrom)]
noncomputable def gmath_Inf (fuel : Nat) (qpj : Int) : Option AV :=
  bif decide (qpj ≥ 0) then ck (sFrom.ok [AV.int .u64 9218868437227405312]) <| some (AV.flt .f64 (some 9218868437227405312))
  else ck (sFrom.ok [AV.int .u64 18442240474082181120]) <| some (AV.flt .f64 (some 18442240474082181120))
noncomputable def mmath_Inf (fuel : Nat) (xs : List AV) : Option AV := match xs with
  | [AV.int .i64 qpj] => gmath_Inf fuel qpj
  | _ => none
abbrev Rmath_Inf : List RS := [RS.one (LK.f .f64)]
theorem gmath_Inf_sm (fuel : Nat) (hΓ : GamOk Pr Gmath_Inf) (hP : NamesOk Pr) : SmOk Pr 8 (smM Rmath_Inf (mmath_Inf fuel)) := sm0 (fuel := fuel) (d := 7) hΓ hP fun xs v h => by
  unfold mmath_Inf at h
  split at h
  · exact Eq.trans (by kernel_rfl) h
  · cases h
noncomputable def Glaw19_beam : Gam := []
noncomputable def glaw19_beam (fuel : Nat) (ua0 ub1 : Bool) : Option AV :=
  some (AV.agg [AV.str { data := #[] },AV.int .u8 2,AV.int .i64 0,AV.int .i64 0,AV.bool ua0,AV.bool ub1,AV.flt .f64 (some 0),AV.flt .f64 (some 0),AV.flt .f64 (some 4619567317775286272)])
noncomputable def mlaw19_beam (fuel : Nat) (xs : List AV) : Option AV := match xs with
  | [AV.bool ua0,AV.bool ub1] => glaw19_beam fuel ua0 ub1
  | _ => none
abbrev Rlaw19_beam : List RS := [RS.agg [LK.s,LK.i .u8,LK.i .i64,LK.i .i64,LK.b,LK.b,LK.f .f64,LK.f .f64,LK.f .f64]]
theorem glaw19_beam_sm (fuel : Nat) (hΓ : GamOk Pr Glaw19_beam) (hP : NamesOk Pr) : SmOk Pr 10 (smM Rlaw19_beam (mlaw19_beam fuel)) := sm0 (fuel := fuel) (d := 7) hΓ hP fun xs v h => by
  unfold mlaw19_beam at h
  split at h
  · exact Eq.trans (by kernel_rfl) h
  · cases h
noncomputable def Gjoints_Apart (we : Mo) : Gam := [(33,smM [RS.one LK.b] we)]
noncomputable def gjoints_Apart (we : Mo) (fuel : Nat) (vp : ByteArray) (yf qhj qkr : Int) (vu : ByteArray) (yb qhp qko : Int) : Option AV :=
  ck (okM [RS.one LK.b] (we [AV.ro 1 4 4 fun (i j : Nat) => ([[AV.int .i32 yf],[AV.int .i32 qhj],[AV.int .i32 yb],[AV.int .i32 qhp]].getD i []).getD j AV.dead])) <| bif !toB (getV (we [AV.ro 1 4 4 fun (i j : Nat) => ([[AV.int .i32 yf],[AV.int .i32 qhj],[AV.int .i32 yb],[AV.int .i32 qhp]].getD i []).getD j AV.dead])) then some (AV.tup [AV.int .i64 0,AV.int .i64 0,AV.int .i64 0])
  else some (AV.tup [AV.int .i64 (IntKind.i64.wrap (IntKind.i32.wrap (yb - yf))),AV.int .i64 (IntKind.i64.wrap (IntKind.i32.wrap (qhp - qhj))),AV.int .i64 (IntKind.i64.wrap (IntKind.i64.wrap (IntKind.i64.wrap (IntKind.i32.wrap (yb - yf)) * IntKind.i64.wrap (IntKind.i32.wrap (yb - yf))) + IntKind.i64.wrap (IntKind.i64.wrap (IntKind.i32.wrap (qhp - qhj)) * IntKind.i64.wrap (IntKind.i32.wrap (qhp - qhj)))))])
noncomputable def mjoints_Apart (we : Mo) (fuel : Nat) (xs : List AV) : Option AV := match xs with
  | [AV.agg [AV.str vp,AV.int .i32 yf,AV.int .i32 qhj,AV.int .u8 qkr],AV.agg [AV.str vu,AV.int .i32 yb,AV.int .i32 qhp,AV.int .u8 qko]] => gjoints_Apart we fuel vp yf qhj qkr vu yb qhp qko
  | _ => none
abbrev Rjoints_Apart : List RS := [RS.one (LK.i .i64),RS.one (LK.i .i64),RS.one (LK.i .i64)]
theorem gjoints_Apart_sm (we : Mo) (fuel : Nat) (hΓ : GamOk Pr (Gjoints_Apart we)) (hP : NamesOk Pr) : SmOk Pr 36 (smM Rjoints_Apart (mjoints_Apart we fuel)) := sm0 (fuel := fuel) (d := 7) hΓ hP fun xs v h => by
  unfold mjoints_Apart at h
  split at h
  · exact Eq.trans (by kernel_rfl) h
  · cases h
noncomputable def Ground_way : Gam := []
noncomputable def ground_way (fuel : Nat) (um0 : Int) : Option AV :=
  bif bif decide (um0 < 0) then true else decide (um0 > 3) then some (AV.int .i8 0)
  else some (AV.int .i8 um0)
noncomputable def mround_way (fuel : Nat) (xs : List AV) : Option AV := match xs with
  | [AV.int .i8 um0] => ground_way fuel um0
  | _ => none
abbrev Rround_way : List RS := [RS.one (LK.i .i8)]
theorem ground_way_sm (fuel : Nat) (hΓ : GamOk Pr Ground_way) (hP : NamesOk Pr) : SmOk Pr 93 (smM Rround_way (mround_way fuel)) := sm0 (fuel := fuel) (d := 7) hΓ hP fun xs v h => by
  unfold mround_way at h
  split at h
  · exact Eq.trans (by kernel_rfl) h
  · cases h
noncomputable def Gmath_Sqrt : Gam := [(127,Go.Am.sSqrt)]
noncomputable def gmath_Sqrt (fuel : Nat) (ux0 : Option Nat) : Option AV :=
  ck (sSqrt.ok [AV.flt .f64 ux0]) <| some (AV.flt .f64 (ux0.bind fun (x : Nat) => FloatKind.f64.format.sqrt x))
noncomputable def mmath_Sqrt (fuel : Nat) (xs : List AV) : Option AV := match xs with
  | [AV.flt .f64 ux0] => gmath_Sqrt fuel ux0
  | _ => none
abbrev Rmath_Sqrt : List RS := [RS.one (LK.f .f64)]
theorem gmath_Sqrt_sm (fuel : Nat) (hΓ : GamOk Pr Gmath_Sqrt) (hP : NamesOk Pr) : SmOk Pr 94 (smM Rmath_Sqrt (mmath_Sqrt fuel)) := sm0 (fuel := fuel) (d := 7) hΓ hP fun xs v h => by
  unfold mmath_Sqrt at h
  split at h
  · exact Eq.trans (by kernel_rfl) h
  · cases h
noncomputable def Gmath_IsNaN : Gam := []
noncomputable def gmath_IsNaN (fuel : Nat) (uf0 : Option Nat) : Option AV :=
  some (AV.bool (ford .f64 uf0 uf0 != some Ordering.eq))
noncomputable def mmath_IsNaN (fuel : Nat) (xs : List AV) : Option AV := match xs with
  | [AV.flt .f64 uf0] => gmath_IsNaN fuel uf0
  | _ => none
abbrev Rmath_IsNaN : List RS := [RS.one LK.b]
theorem gmath_IsNaN_sm (fuel : Nat) (hΓ : GamOk Pr Gmath_IsNaN) (hP : NamesOk Pr) : SmOk Pr 128 (smM Rmath_IsNaN (mmath_IsNaN fuel)) := sm0 (fuel := fuel) (d := 7) hΓ hP fun xs v h => by
  unfold mmath_IsNaN at h
  split at h
  · exact Eq.trans (by kernel_rfl) h
  · cases h
noncomputable def Gmath_Abs : Gam := [(16,Go.Am.sBits),(15,Go.Am.sFrom)]
noncomputable def gmath_Abs (fuel : Nat) (ux0 : Option Nat) : Option AV :=
  ck (sBits.ok [AV.flt .f64 ux0]) <| ck (sFrom.ok [AV.int .u64 (IntKind.u64.wrap (↑(BitVec.ofInt 64 (↑(ux0.getD 0) : Int) &&& ~~~BitVec.ofInt 64 9223372036854775808).toNat : Int))]) <| some (AV.flt .f64 (some (IntKind.u64.wrap (↑(BitVec.ofInt 64 (↑(ux0.getD 0) : Int) &&& ~~~BitVec.ofInt 64 9223372036854775808).toNat : Int)).toNat))
noncomputable def mmath_Abs (fuel : Nat) (xs : List AV) : Option AV := match xs with
  | [AV.flt .f64 ux0] => gmath_Abs fuel ux0
  | _ => none
abbrev Rmath_Abs : List RS := [RS.one (LK.f .f64)]
theorem gmath_Abs_sm (fuel : Nat) (hΓ : GamOk Pr Gmath_Abs) (hP : NamesOk Pr) : SmOk Pr 145 (smM Rmath_Abs (mmath_Abs fuel)) := sm0 (fuel := fuel) (d := 7) hΓ hP fun xs v h => by
  unfold mmath_Abs at h
  split at h
  · exact Eq.trans (by kernel_rfl) h
  · cases h
noncomputable def Gmath_IsInf (vl : Mo) : Gam := [(145,smM [RS.one (LK.f .f64)] vl)]
noncomputable def gmath_IsInf (vl : Mo) (fuel : Nat) (uf0 : Option Nat) (qhr : Int) : Option AV :=
  bif qhr == 0 then ck (okM [RS.one (LK.f .f64)] (vl [AV.flt .f64 uf0])) <| some (AV.bool (ford .f64 (toF (getV (vl [AV.flt .f64 uf0]))) (some 9218868437227405311) == some Ordering.gt))
  else bif decide (qhr < 0) then some (AV.bool (ford .f64 (Option.map (Op.negFloat .f64) uf0) (some 9218868437227405311) == some Ordering.gt))
  else some (AV.bool (ford .f64 uf0 (some 9218868437227405311) == some Ordering.gt))
noncomputable def mmath_IsInf (vl : Mo) (fuel : Nat) (xs : List AV) : Option AV := match xs with
  | [AV.flt .f64 uf0,AV.int .i64 qhr] => gmath_IsInf vl fuel uf0 qhr
  | _ => none
abbrev Rmath_IsInf : List RS := [RS.one LK.b]
theorem gmath_IsInf_sm (vl : Mo) (fuel : Nat) (hΓ : GamOk Pr (Gmath_IsInf vl)) (hP : NamesOk Pr) : SmOk Pr 129 (smM Rmath_IsInf (mmath_IsInf vl fuel)) := sm0 (fuel := fuel) (d := 7) hΓ hP fun xs v h => by
  unfold mmath_IsInf at h
  split at h
  · exact Eq.trans (by kernel_rfl) h
  · cases h
noncomputable def Sround_finite_0 (u5n u5r : Nat) (u5g : Ge) (u6 u7 : Int) : St := { env := [(5,AV.ro 1 u5n u5r u5g),(6,AV.int .i64 u6),(7,AV.int .i64 u7)],h := [],kd := [] }
noncomputable def Xround_finite_0_0 (qch : Bool) : St := { env := [(2,AV.bool qch)],h := [],kd := [] }
noncomputable def Xround_finite_0_1 : St := { env := [],h := [],kd := [] }
noncomputable def ground_finite_l0_step (za qw : Mo) (fuel : Nat) (kn : Int → Option AV) (kx0 : Bool → Option AV) (kx1 : Option AV) (u5n u5r : Nat) (u5g : Ge) (u6 u7 : Int) : Option AV :=
  bif decide (u7 < u6) then ck (decide (0 ≤ u7)) <| ck (decide (u7 < (↑u5n : Int))) <| ck (fitK (LK.f .f64) (u5g u7.toNat 0)) <| ck (okM [RS.one LK.b] (za [AV.flt .f64 (toF (u5g u7.toNat 0))])) <| ck (bif !toB (getV (za [AV.flt .f64 (toF (u5g u7.toNat 0))])) then okM [RS.one LK.b] (qw [AV.flt .f64 (toF (u5g u7.toNat 0)),AV.int .i64 0]) else true) <| bif bif toB (getV (za [AV.flt .f64 (toF (u5g u7.toNat 0))])) then true else toB (getV (qw [AV.flt .f64 (toF (u5g u7.toNat 0)),AV.int .i64 0])) then kx0 false
    else kn (IntKind.i64.wrap (u7 + 1))
  else kx1
noncomputable def ground_finite_l0 (za qw : Mo) (fuel : Nat) (kx0 : Bool → Option AV) (kx1 : Option AV) (u5n u5r : Nat) (u5g : Ge) (u6 : Int) : Nat → Int → Option AV
  | 0,_ => none
  | n' + 1,u7 => ground_finite_l0_step za qw fuel (ground_finite_l0 za qw fuel kx0 kx1 u5n u5r u5g u6 n') kx0 kx1 u5n u5r u5g u6 u7
noncomputable def Tround_finite_0 : TS' := ⟨[(5,TA.ro 1),(6,TA.i .i64),(7,TA.i .i64)],[],[]⟩
noncomputable def Fround_finite_0 (za qw : Mo) (fuel : Nat) (ps : List Pay) (K : Ex → St → Option AV) : Option AV := match ps with
  | .n u5n :: .n u5r :: .g u5g :: .i u6 :: .i u7 :: [] => ground_finite_l0 za qw fuel (fun qch => K (Ex.ret) (Xround_finite_0_0 qch)) (K (Ex.exit 0) Xround_finite_0_1) u5n u5r u5g u6 fuel u7
  | _ => none
noncomputable def Lround_finite (za qw : Mo) (fuel : Nat) : Lam AV := [(262036,lam Tround_finite_0 (Fround_finite_0 za qw fuel))]
noncomputable def Ground_finite (za qw : Mo) : Gam := [(128,smM [RS.one LK.b] za),(129,smM [RS.one LK.b] qw)]
theorem ground_finite_l0_eq (za qw : Mo) (fuel : Nat) (kn : St → Option AV) (K : Ex → St → Option AV) (u5n u5r : Nat) (u5g : Ge) (u6 u70 u7 : Int) :
    bX Pr (Ground_finite za qw) (Lround_finite za qw fuel) 6 95 0 fuel (Sround_finite_0 u5n u5r u5g u6 u7) (fun e s => match e with | .normal => kn (hX Pr 95 0 (Sround_finite_0 u5n u5r u5g u6 u70) s) | e => K e s) =
    ground_finite_l0_step za qw fuel (fun u7 => kn (Sround_finite_0 u5n u5r u5g u6 u7)) (fun xu2 => K (Ex.ret) (Xround_finite_0_0 xu2)) (K (Ex.exit 0) Xround_finite_0_1) u5n u5r u5g u6 u7 := by kernel_rfl
theorem ground_finite_l0_ok (za qw : Mo) (fuel : Nat) (K : Ex → St → Option AV) (u5n u5r : Nat) (u5g : Ge) (u6 u70 : Int) : ∀ (n' : Nat) (u7 : Int),
    loopK (bX Pr (Ground_finite za qw) (Lround_finite za qw fuel) 6 95 0 fuel) (hX Pr 95 0 (Sround_finite_0 u5n u5r u5g u6 u70)) n' (Sround_finite_0 u5n u5r u5g u6 u7) K = ground_finite_l0 za qw fuel (fun xu2 => K (Ex.ret) (Xround_finite_0_0 xu2)) (K (Ex.exit 0) Xround_finite_0_1) u5n u5r u5g u6 n' u7
  | 0,_ => rfl
  | n' + 1,u7 => (ground_finite_l0_eq za qw fuel (fun s => loopK (bX Pr (Ground_finite za qw) (Lround_finite za qw fuel) 6 95 0 fuel) (hX Pr 95 0 (Sround_finite_0 u5n u5r u5g u6 u70)) n' s K) K u5n u5r u5g u6 u70 u7).trans
    (congrArg (fun kn => ground_finite_l0_step za qw fuel kn _ _ u5n u5r u5g u6 u7) (funext fun u7 => ground_finite_l0_ok za qw fuel K u5n u5r u5g u6 u70 n' u7))
theorem ground_finite_L0 (za qw : Mo) (fuel : Nat) : LX Pr (Ground_finite za qw) (Lround_finite za qw fuel) 6 95 0 fuel := by
  refine .of Tround_finite_0 (Fround_finite_0 za qw fuel) (fun L h => ?_) (fun ps st K r he hr => ?_)
  · have e : (Lround_finite za qw fuel).get (writes (lp Pr 95 0).1) = some (lam Tround_finite_0 (Fround_finite_0 za qw fuel)) := by kernel_rfl
    exact (Option.some.inj (e.symm.trans h)).symm
  · unfold Fround_finite_0 at hr
    split at hr
    · obtain rfl := (Option.some.inj he).symm
      exact (ground_finite_l0_ok za qw fuel K _ _ _ _ _ fuel _).trans hr
    · cases hr
noncomputable def ground_finite (za qw : Mo) (fuel y7 qa6 : Nat) (qan : Ge) : Option AV :=
  ground_finite_l0 za qw fuel
    (fun (xu2 : Bool) => some (AV.bool xu2))
    (some (AV.bool true))
    y7
    qa6
    qan
    ((↑y7 : Int)) fuel (0)
noncomputable def mround_finite (za qw : Mo) (fuel : Nat) (xs : List AV) : Option AV := match xs with
  | [AV.ro 1 y7 qa6 qan] => ground_finite za qw fuel y7 qa6 qan
  | _ => none
abbrev Rround_finite : List RS := [RS.one LK.b]
theorem ground_finite_sm (za qw : Mo) (fuel : Nat) (hΓ : GamOk Pr (Ground_finite za qw)) (hP : NamesOk Pr) : SmOk Pr 95 (smM Rround_finite (mround_finite za qw fuel)) := smL (L := (Lround_finite za qw fuel)) (n := 1) hΓ hP (by kernel_rfl) (fun i hi => match i,hi with
  | 0,_ => ground_finite_L0 za qw fuel
  | i + 1,hi => absurd hi (by omega)) fun xs v h => by
  unfold mround_finite at h
  split at h
  · exact Eq.trans (by kernel_rfl) h
  · cases h
noncomputable def Sround_plain_0 (u6n u6r : Nat) (u6g : Ge) (u7 u8 : Int) : St := { env := [(6,AV.ro 1 u6n u6r u6g),(7,AV.int .i64 u7),(8,AV.int .i64 u8)],h := [],kd := [] }
noncomputable def Xround_plain_0_0 (qch : Bool) : St := { env := [(2,AV.bool qch)],h := [],kd := [] }
noncomputable def Xround_plain_0_1 : St := { env := [],h := [],kd := [] }
noncomputable def ground_plain_l0_step (fuel : Nat) (kn : Int → Option AV) (kx0 : Bool → Option AV) (kx1 : Option AV) (u6n u6r : Nat) (u6g : Ge) (u7 u8 : Int) : Option AV :=
  bif decide (u8 < u7) then ck (decide (0 ≤ u8)) <| ck (decide (u8 < (↑u6n : Int))) <| ck (fitK (LK.f .f64) (u6g u8.toNat 0)) <| ck (sBits.ok [AV.flt .f64 (toF (u6g u8.toNat 0))]) <| bif bif decide (IntKind.u64.wrap (↑(BitVec.ofInt 64 ((↑((toF (u6g u8.toNat 0)).getD 0) : Int).fdiv (2 ^ 52)) &&& BitVec.ofInt 64 2047).toNat : Int) < 200) then true else decide (IntKind.u64.wrap (↑(BitVec.ofInt 64 ((↑((toF (u6g u8.toNat 0)).getD 0) : Int).fdiv (2 ^ 52)) &&& BitVec.ofInt 64 2047).toNat : Int) > 1900) then kx0 false
    else kn (IntKind.i64.wrap (u8 + 1))
  else kx1
noncomputable def ground_plain_l0 (fuel : Nat) (kx0 : Bool → Option AV) (kx1 : Option AV) (u6n u6r : Nat) (u6g : Ge) (u7 : Int) : Nat → Int → Option AV
  | 0,_ => none
  | n' + 1,u8 => ground_plain_l0_step fuel (ground_plain_l0 fuel kx0 kx1 u6n u6r u6g u7 n') kx0 kx1 u6n u6r u6g u7 u8
noncomputable def Tround_plain_0 : TS' := ⟨[(6,TA.ro 1),(7,TA.i .i64),(8,TA.i .i64)],[],[]⟩
noncomputable def Fround_plain_0 (fuel : Nat) (ps : List Pay) (K : Ex → St → Option AV) : Option AV := match ps with
  | .n u6n :: .n u6r :: .g u6g :: .i u7 :: .i u8 :: [] => ground_plain_l0 fuel (fun qch => K (Ex.ret) (Xround_plain_0_0 qch)) (K (Ex.exit 0) Xround_plain_0_1) u6n u6r u6g u7 fuel u8
  | _ => none
noncomputable def Lround_plain (fuel : Nat) : Lam AV := [(8388404,lam Tround_plain_0 (Fround_plain_0 fuel))]
noncomputable def Ground_plain : Gam := [(16,Go.Am.sBits)]
theorem ground_plain_l0_eq (fuel : Nat) (kn : St → Option AV) (K : Ex → St → Option AV) (u6n u6r : Nat) (u6g : Ge) (u7 u80 u8 : Int) :
    bX Pr Ground_plain (Lround_plain fuel) 6 96 0 fuel (Sround_plain_0 u6n u6r u6g u7 u8) (fun e s => match e with | .normal => kn (hX Pr 96 0 (Sround_plain_0 u6n u6r u6g u7 u80) s) | e => K e s) =
    ground_plain_l0_step fuel (fun u8 => kn (Sround_plain_0 u6n u6r u6g u7 u8)) (fun xu2 => K (Ex.ret) (Xround_plain_0_0 xu2)) (K (Ex.exit 0) Xround_plain_0_1) u6n u6r u6g u7 u8 := by kernel_rfl
theorem ground_plain_l0_ok (fuel : Nat) (K : Ex → St → Option AV) (u6n u6r : Nat) (u6g : Ge) (u7 u80 : Int) : ∀ (n' : Nat) (u8 : Int),
    loopK (bX Pr Ground_plain (Lround_plain fuel) 6 96 0 fuel) (hX Pr 96 0 (Sround_plain_0 u6n u6r u6g u7 u80)) n' (Sround_plain_0 u6n u6r u6g u7 u8) K = ground_plain_l0 fuel (fun xu2 => K (Ex.ret) (Xround_plain_0_0 xu2)) (K (Ex.exit 0) Xround_plain_0_1) u6n u6r u6g u7 n' u8
  | 0,_ => rfl
  | n' + 1,u8 => (ground_plain_l0_eq fuel (fun s => loopK (bX Pr Ground_plain (Lround_plain fuel) 6 96 0 fuel) (hX Pr 96 0 (Sround_plain_0 u6n u6r u6g u7 u80)) n' s K) K u6n u6r u6g u7 u80 u8).trans
    (congrArg (fun kn => ground_plain_l0_step fuel kn _ _ u6n u6r u6g u7 u8) (funext fun u8 => ground_plain_l0_ok fuel K u6n u6r u6g u7 u80 n' u8))
theorem ground_plain_L0 (fuel : Nat) : LX Pr Ground_plain (Lround_plain fuel) 6 96 0 fuel := by
  refine .of Tround_plain_0 (Fround_plain_0 fuel) (fun L h => ?_) (fun ps st K r he hr => ?_)
  · have e : (Lround_plain fuel).get (writes (lp Pr 96 0).1) = some (lam Tround_plain_0 (Fround_plain_0 fuel)) := by kernel_rfl
    exact (Option.some.inj (e.symm.trans h)).symm
  · unfold Fround_plain_0 at hr
    split at hr
    · obtain rfl := (Option.some.inj he).symm
      exact (ground_plain_l0_ok fuel K _ _ _ _ _ fuel _).trans hr
    · cases hr
noncomputable def ground_plain (fuel y7 qa6 : Nat) (qan : Ge) : Option AV :=
  ground_plain_l0 fuel
    (fun (xu2 : Bool) => some (AV.bool xu2))
    (some (AV.bool true))
    y7
    qa6
    qan
    ((↑y7 : Int)) fuel (0)
noncomputable def mround_plain (fuel : Nat) (xs : List AV) : Option AV := match xs with
  | [AV.ro 1 y7 qa6 qan] => ground_plain fuel y7 qa6 qan
  | _ => none
abbrev Rround_plain : List RS := [RS.one LK.b]
theorem ground_plain_sm (fuel : Nat) (hΓ : GamOk Pr Ground_plain) (hP : NamesOk Pr) : SmOk Pr 96 (smM Rround_plain (mround_plain fuel)) := smL (L := (Lround_plain fuel)) (n := 1) hΓ hP (by kernel_rfl) (fun i hi => match i,hi with
  | 0,_ => ground_plain_L0 fuel
  | i + 1,hi => absurd hi (by omega)) fun xs v h => by
  unfold mround_plain at h
  split at h
  · exact Eq.trans (by kernel_rfl) h
  · cases h
noncomputable def Ground_sign : Gam := []
noncomputable def ground_sign (fuel : Nat) (ux0 : Option Nat) : Option AV :=
  bif ford .f64 ux0 (some 0) == some Ordering.gt then some (AV.int .i64 1)
  else bif ford .f64 ux0 (some 0) == some Ordering.lt then some (AV.int .i64 (-1))
  else some (AV.int .i64 0)
noncomputable def mround_sign (fuel : Nat) (xs : List AV) : Option AV := match xs with
  | [AV.flt .f64 ux0] => ground_sign fuel ux0
  | _ => none
abbrev Rround_sign : List RS := [RS.one (LK.i .i64)]
theorem ground_sign_sm (fuel : Nat) (hΓ : GamOk Pr Ground_sign) (hP : NamesOk Pr) : SmOk Pr 98 (smM Rround_sign (mround_sign fuel)) := sm0 (fuel := fuel) (d := 7) hΓ hP fun xs v h => by
  unfold mround_sign at h
  split at h
  · exact Eq.trans (by kernel_rfl) h
  · cases h
noncomputable def Gmath_Signbit : Gam := [(16,Go.Am.sBits)]
noncomputable def gmath_Signbit (fuel : Nat) (ux0 : Option Nat) : Option AV :=
  ck (sBits.ok [AV.flt .f64 ux0]) <| some (AV.bool (decide (IntKind.i64.wrap (↑(ux0.getD 0) : Int) < 0)))
noncomputable def mmath_Signbit (fuel : Nat) (xs : List AV) : Option AV := match xs with
  | [AV.flt .f64 ux0] => gmath_Signbit fuel ux0
  | _ => none
abbrev Rmath_Signbit : List RS := [RS.one LK.b]
theorem gmath_Signbit_sm (fuel : Nat) (hΓ : GamOk Pr Gmath_Signbit) (hP : NamesOk Pr) : SmOk Pr 130 (smM Rmath_Signbit (mmath_Signbit fuel)) := sm0 (fuel := fuel) (d := 7) hΓ hP fun xs v h => by
  unfold mmath_Signbit at h
  split at h
  · exact Eq.trans (by kernel_rfl) h
  · cases h
noncomputable def Ground_step : Gam := [(16,Go.Am.sBits),(15,Go.Am.sFrom)]
noncomputable def ground_step (fuel : Nat) (ux0 : Option Nat) (up1 : Bool) : Option AV :=
  ck (sBits.ok [AV.flt .f64 ux0]) <| bif ford .f64 ux0 (some 0) == some Ordering.eq then bif !up1 then ck (sFrom.ok [AV.int .u64 (IntKind.u64.wrap (↑9223372036854775809 : Int))]) <| some (AV.flt .f64 (some 9223372036854775809))
    else ck (sFrom.ok [AV.int .u64 1]) <| some (AV.flt .f64 (some 1))
  else bif up1 == (ford .f64 ux0 (some 0) == some Ordering.gt) then ck (sFrom.ok [AV.int .u64 (IntKind.u64.wrap ((↑(ux0.getD 0) : Int) + 1))]) <| some (AV.flt .f64 (some (IntKind.u64.wrap ((↑(ux0.getD 0) : Int) + 1)).toNat))
  else ck (sFrom.ok [AV.int .u64 (IntKind.u64.wrap ((↑(ux0.getD 0) : Int) - 1))]) <| some (AV.flt .f64 (some (IntKind.u64.wrap ((↑(ux0.getD 0) : Int) - 1)).toNat))
noncomputable def mround_step (fuel : Nat) (xs : List AV) : Option AV := match xs with
  | [AV.flt .f64 ux0,AV.bool up1] => ground_step fuel ux0 up1
  | _ => none
abbrev Rround_step : List RS := [RS.one (LK.f .f64)]
theorem ground_step_sm (fuel : Nat) (hΓ : GamOk Pr Ground_step) (hP : NamesOk Pr) : SmOk Pr 131 (smM Rround_step (mround_step fuel)) := sm0 (fuel := fuel) (d := 7) hΓ hP fun xs v h => by
  unfold mround_step at h
  split at h
  · exact Eq.trans (by kernel_rfl) h
  · cases h
noncomputable def Ground_settle (ze qw : Mo) (vo yh : Mo) : Gam := [(130,smM [RS.one LK.b] ze),(129,smM [RS.one LK.b] qw),(4,smM [RS.one (LK.f .f64)] vo),(131,smM [RS.one (LK.f .f64)] yh)]
noncomputable def ground_settle (ze qw : Mo) (vo yh : Mo) (fuel : Nat) (qbs : Option Nat) (qkx um2 : Int) : Option AV :=
  bif um2 == 3 then ck (okM [RS.one LK.b] (ze [AV.flt .f64 qbs])) <| bif toB (getV (ze [AV.flt .f64 qbs])) then ck (okM [RS.one LK.b] (qw [AV.flt .f64 qbs,AV.int .i64 0])) <| bif toB (getV (qw [AV.flt .f64 qbs,AV.int .i64 0])) then bif bif bif ford .f64 qbs (some 0) == some Ordering.gt then false else false then true else bif ford .f64 qbs (some 0) == some Ordering.lt then true else false then ck (okM [RS.one (LK.f .f64)] (vo [AV.flt .f64 (some 9218868437227405311),AV.flt .f64 qbs])) <| some (AV.flt .f64 (toF (getV (vo [AV.flt .f64 (some 9218868437227405311),AV.flt .f64 qbs]))))
        else some (AV.flt .f64 qbs)
      else bif bif bif decide (qkx < 0) then false else false then true else bif decide (qkx > 0) then true else false then ck (okM [RS.one (LK.f .f64)] (yh [AV.flt .f64 qbs,AV.bool (decide (qkx > 0))])) <| some (AV.flt .f64 (toF (getV (yh [AV.flt .f64 qbs,AV.bool (decide (qkx > 0))]))))
      else some (AV.flt .f64 qbs)
    else ck (okM [RS.one LK.b] (qw [AV.flt .f64 qbs,AV.int .i64 0])) <| bif toB (getV (qw [AV.flt .f64 qbs,AV.int .i64 0])) then bif bif bif ford .f64 qbs (some 0) == some Ordering.gt then true else false then true else bif ford .f64 qbs (some 0) == some Ordering.lt then false else false then ck (okM [RS.one (LK.f .f64)] (vo [AV.flt .f64 (some 9218868437227405311),AV.flt .f64 qbs])) <| some (AV.flt .f64 (toF (getV (vo [AV.flt .f64 (some 9218868437227405311),AV.flt .f64 qbs]))))
      else some (AV.flt .f64 qbs)
    else bif bif bif decide (qkx < 0) then true else false then true else bif decide (qkx > 0) then false else false then ck (okM [RS.one (LK.f .f64)] (yh [AV.flt .f64 qbs,AV.bool (decide (qkx > 0))])) <| some (AV.flt .f64 (toF (getV (yh [AV.flt .f64 qbs,AV.bool (decide (qkx > 0))]))))
    else some (AV.flt .f64 qbs)
  else ck (okM [RS.one LK.b] (qw [AV.flt .f64 qbs,AV.int .i64 0])) <| bif toB (getV (qw [AV.flt .f64 qbs,AV.int .i64 0])) then bif bif bif ford .f64 qbs (some 0) == some Ordering.gt then um2 == 1 else false then true else bif ford .f64 qbs (some 0) == some Ordering.lt then um2 == 2 else false then ck (okM [RS.one (LK.f .f64)] (vo [AV.flt .f64 (some 9218868437227405311),AV.flt .f64 qbs])) <| some (AV.flt .f64 (toF (getV (vo [AV.flt .f64 (some 9218868437227405311),AV.flt .f64 qbs]))))
    else some (AV.flt .f64 qbs)
  else bif bif bif decide (qkx < 0) then um2 == 1 else false then true else bif decide (qkx > 0) then um2 == 2 else false then ck (okM [RS.one (LK.f .f64)] (yh [AV.flt .f64 qbs,AV.bool (decide (qkx > 0))])) <| some (AV.flt .f64 (toF (getV (yh [AV.flt .f64 qbs,AV.bool (decide (qkx > 0))]))))
  else some (AV.flt .f64 qbs)
noncomputable def mround_settle (ze qw : Mo) (vo yh : Mo) (fuel : Nat) (xs : List AV) : Option AV := match xs with
  | [AV.flt .f64 qbs,AV.int .i64 qkx,AV.int .i8 um2] => ground_settle ze qw vo yh fuel qbs qkx um2
  | _ => none
abbrev Rround_settle : List RS := [RS.one (LK.f .f64)]
theorem ground_settle_sm (ze qw : Mo) (vo yh : Mo) (fuel : Nat) (hΓ : GamOk Pr (Ground_settle ze qw vo yh)) (hP : NamesOk Pr) : SmOk Pr 97 (smM Rround_settle (mround_settle ze qw vo yh fuel)) := sm0 (fuel := fuel) (d := 7) hΓ hP fun xs v h => by
  unfold mround_settle at h
  split at h
  · exact Eq.trans (by kernel_rfl) h
  · cases h
noncomputable def Ground_Sqrt (ws vw : Mo) (wk wp : Mo) (wn wa : Mo) (zg wv w4 : Mo) : Gam := [(93,smM [RS.one (LK.i .i8)] ws),(94,smM [RS.one (LK.f .f64)] vw),(95,smM [RS.one LK.b] wk),(96,smM [RS.one LK.b] wp),(98,smM [RS.one (LK.i .i64)] wn),(97,smM [RS.one (LK.f .f64)] wa),(101,smM [RS.agg [LK.b,LK.l (nat_lit 1),LK.i .i64]] zg),(102,smM [RS.agg [LK.b,LK.l (nat_lit 1),LK.i .i64]] wv),(100,smM [RS.one (LK.i .i64)] w4),(99,Go.Am.sFma)]
noncomputable def ground_Sqrt (ws vw : Mo) (wk wp : Mo) (wn wa : Mo) (zg wv w4 : Mo) (fuel : Nat) (ua0 : Option Nat) (um1 : Int) : Option AV :=
  ck (okM [RS.one (LK.i .i8)] (ws [AV.int .i8 um1])) <| ck (okM [RS.one (LK.f .f64)] (vw [AV.flt .f64 ua0])) <| ck (okM [RS.one LK.b] (wk [AV.ro 1 1 1 fun (i j : Nat) => ([[AV.flt .f64 ua0]].getD i []).getD j AV.dead])) <| bif bif !toB (getV (wk [AV.ro 1 1 1 fun (i j : Nat) => ([[AV.flt .f64 ua0]].getD i []).getD j AV.dead])) then true else ford .f64 ua0 (some 0) == some Ordering.lt || ford .f64 ua0 (some 0) == some Ordering.eq then some (AV.flt .f64 (toF (getV (vw [AV.flt .f64 ua0]))))
  else ck (okM [RS.one LK.b] (wp [AV.ro 1 1 1 fun (i j : Nat) => ([[AV.flt .f64 ua0]].getD i []).getD j AV.dead])) <| bif toB (getV (wp [AV.ro 1 1 1 fun (i j : Nat) => ([[AV.flt .f64 ua0]].getD i []).getD j AV.dead])) then ck (sFma.ok [AV.flt .f64 (Option.map (Op.negFloat .f64) (toF (getV (vw [AV.flt .f64 ua0])))),AV.flt .f64 (toF (getV (vw [AV.flt .f64 ua0]))),AV.flt .f64 ua0]) <| ck (okM [RS.one (LK.i .i64)] (wn [AV.flt .f64 ((Option.map (Op.negFloat .f64) (toF (getV (vw [AV.flt .f64 ua0])))).bind fun (x : Nat) => (toF (getV (vw [AV.flt .f64 ua0]))).bind fun (y : Nat) => ua0.bind fun (z : Nat) => FloatKind.f64.format.fma x y z)])) <| ck (okM [RS.one (LK.f .f64)] (wa [AV.flt .f64 (toF (getV (vw [AV.flt .f64 ua0]))),AV.int .i64 (toI (getV (wn [AV.flt .f64 ((Option.map (Op.negFloat .f64) (toF (getV (vw [AV.flt .f64 ua0])))).bind fun (x : Nat) => (toF (getV (vw [AV.flt .f64 ua0]))).bind fun (y : Nat) => ua0.bind fun (z : Nat) => FloatKind.f64.format.fma x y z)]))),AV.int .i8 (toI (getV (ws [AV.int .i8 um1])))])) <| some (AV.flt .f64 (toF (getV (wa [AV.flt .f64 (toF (getV (vw [AV.flt .f64 ua0]))),AV.int .i64 (toI (getV (wn [AV.flt .f64 ((Option.map (Op.negFloat .f64) (toF (getV (vw [AV.flt .f64 ua0])))).bind fun (x : Nat) => (toF (getV (vw [AV.flt .f64 ua0]))).bind fun (y : Nat) => ua0.bind fun (z : Nat) => FloatKind.f64.format.fma x y z)]))),AV.int .i8 (toI (getV (ws [AV.int .i8 um1])))]))))
  else let r0 : Option AV := zg [AV.flt .f64 ua0]; ck (okM [RS.agg [LK.b,LK.l 1,LK.i .i64]] r0) <| let r1 : Option AV := zg [AV.flt .f64 (toF (getV (vw [AV.flt .f64 ua0])))]; ck (okM [RS.agg [LK.b,LK.l 1,LK.i .i64]] r1) <| let r2 : Option AV := zg [AV.flt .f64 (toF (getV (vw [AV.flt .f64 ua0])))]; ck (okM [RS.agg [LK.b,LK.l 1,LK.i .i64]] r2) <| let r3 : Option AV := wv [AV.agg [AV.bool (toB ((toC (getV r1)).headD .dead)),AV.ro 1 (toN ((toC (getV r1)).tail.headD .dead)) (toR ((toC (getV r1)).tail.headD .dead)) (toG ((toC (getV r1)).tail.headD .dead)),AV.int .i64 (toI ((toC (getV r1)).tail.tail.headD .dead))],AV.agg [AV.bool (toB ((toC (getV r2)).headD .dead)),AV.ro 1 (toN ((toC (getV r2)).tail.headD .dead)) (toR ((toC (getV r2)).tail.headD .dead)) (toG ((toC (getV r2)).tail.headD .dead)),AV.int .i64 (toI ((toC (getV r2)).tail.tail.headD .dead))]]; ck (okM [RS.agg [LK.b,LK.l 1,LK.i .i64]] r3) <| ck (okM [RS.one (LK.i .i64)] (w4 [AV.agg [AV.bool (toB ((toC (getV r0)).headD .dead)),AV.ro 1 (toN ((toC (getV r0)).tail.headD .dead)) (toR ((toC (getV r0)).tail.headD .dead)) (toG ((toC (getV r0)).tail.headD .dead)),AV.int .i64 (toI ((toC (getV r0)).tail.tail.headD .dead))],AV.agg [AV.bool (toB ((toC (getV r3)).headD .dead)),AV.ro 1 (toN ((toC (getV r3)).tail.headD .dead)) (toR ((toC (getV r3)).tail.headD .dead)) (toG ((toC (getV r3)).tail.headD .dead)),AV.int .i64 (toI ((toC (getV r3)).tail.tail.headD .dead))]])) <| ck (okM [RS.one (LK.f .f64)] (wa [AV.flt .f64 (toF (getV (vw [AV.flt .f64 ua0]))),AV.int .i64 (toI (getV (w4 [AV.agg [AV.bool (toB ((toC (getV r0)).headD .dead)),AV.ro 1 (toN ((toC (getV r0)).tail.headD .dead)) (toR ((toC (getV r0)).tail.headD .dead)) (toG ((toC (getV r0)).tail.headD .dead)),AV.int .i64 (toI ((toC (getV r0)).tail.tail.headD .dead))],AV.agg [AV.bool (toB ((toC (getV r3)).headD .dead)),AV.ro 1 (toN ((toC (getV r3)).tail.headD .dead)) (toR ((toC (getV r3)).tail.headD .dead)) (toG ((toC (getV r3)).tail.headD .dead)),AV.int .i64 (toI ((toC (getV r3)).tail.tail.headD .dead))]]))),AV.int .i8 (toI (getV (ws [AV.int .i8 um1])))])) <| some (AV.flt .f64 (toF (getV (wa [AV.flt .f64 (toF (getV (vw [AV.flt .f64 ua0]))),AV.int .i64 (toI (getV (w4 [AV.agg [AV.bool (toB ((toC (getV r0)).headD .dead)),AV.ro 1 (toN ((toC (getV r0)).tail.headD .dead)) (toR ((toC (getV r0)).tail.headD .dead)) (toG ((toC (getV r0)).tail.headD .dead)),AV.int .i64 (toI ((toC (getV r0)).tail.tail.headD .dead))],AV.agg [AV.bool (toB ((toC (getV r3)).headD .dead)),AV.ro 1 (toN ((toC (getV r3)).tail.headD .dead)) (toR ((toC (getV r3)).tail.headD .dead)) (toG ((toC (getV r3)).tail.headD .dead)),AV.int .i64 (toI ((toC (getV r3)).tail.tail.headD .dead))]]))),AV.int .i8 (toI (getV (ws [AV.int .i8 um1])))]))))
noncomputable def mround_Sqrt (ws vw : Mo) (wk wp : Mo) (wn wa : Mo) (zg wv w4 : Mo) (fuel : Nat) (xs : List AV) : Option AV := match xs with
  | [AV.flt .f64 ua0,AV.int .i8 um1] => ground_Sqrt ws vw wk wp wn wa zg wv w4 fuel ua0 um1
  | _ => none
abbrev Rround_Sqrt : List RS := [RS.one (LK.f .f64)]
theorem ground_Sqrt_sm (ws vw : Mo) (wk wp : Mo) (wn wa : Mo) (zg wv w4 : Mo) (fuel : Nat) (hΓ : GamOk Pr (Ground_Sqrt ws vw wk wp wn wa zg wv w4)) (hP : NamesOk Pr) : SmOk Pr 67 (smM Rround_Sqrt (mround_Sqrt ws vw wk wp wn wa zg wv w4 fuel)) := sm0 (fuel := fuel) (d := 7) hΓ hP fun xs v h => by
  unfold mround_Sqrt at h
  split at h
  · exact Eq.trans (by kernel_rfl) h
  · cases h
noncomputable def Gjoints_Length (zk yi : Mo) : Gam := [(36,smM [RS.one (LK.i .i64),RS.one (LK.i .i64),RS.one (LK.i .i64)] zk),(67,smM [RS.one (LK.f .f64)] yi)]
noncomputable def gjoints_Length (zk yi : Mo) (fuel : Nat) (vp : ByteArray) (yf qhj qkr : Int) (vu : ByteArray) (yb qhp qko : Int) : Option AV :=
  let r0 : Option AV := zk [AV.agg [AV.str vp,AV.int .i32 yf,AV.int .i32 qhj,AV.int .u8 qkr],AV.agg [AV.str vu,AV.int .i32 yb,AV.int .i32 qhp,AV.int .u8 qko]]; ck (okM [RS.one (LK.i .i64),RS.one (LK.i .i64),RS.one (LK.i .i64)] r0) <| ck (okM [RS.one (LK.f .f64)] (yi [AV.flt .f64 (some (FloatKind.f64.nearest (toI ((toT (getV r0)).tail.tail.headD .dead)))),AV.int .i8 1])) <| ck (okM [RS.one (LK.f .f64)] (yi [AV.flt .f64 (some (FloatKind.f64.nearest (toI ((toT (getV r0)).tail.tail.headD .dead)))),AV.int .i8 2])) <| ck (okM [RS.one (LK.f .f64)] (yi [AV.flt .f64 (some (FloatKind.f64.nearest (toI ((toT (getV r0)).tail.tail.headD .dead)))),AV.int .i8 0])) <| some (AV.tup [AV.agg [AV.flt .f64 (toF (getV (yi [AV.flt .f64 (some (FloatKind.f64.nearest (toI ((toT (getV r0)).tail.tail.headD .dead)))),AV.int .i8 1]))),AV.flt .f64 (toF (getV (yi [AV.flt .f64 (some (FloatKind.f64.nearest (toI ((toT (getV r0)).tail.tail.headD .dead)))),AV.int .i8 2])))],AV.flt .f64 (toF (getV (yi [AV.flt .f64 (some (FloatKind.f64.nearest (toI ((toT (getV r0)).tail.tail.headD .dead)))),AV.int .i8 0])))])
noncomputable def mjoints_Length (zk yi : Mo) (fuel : Nat) (xs : List AV) : Option AV := match xs with
  | [AV.agg [AV.str vp,AV.int .i32 yf,AV.int .i32 qhj,AV.int .u8 qkr],AV.agg [AV.str vu,AV.int .i32 yb,AV.int .i32 qhp,AV.int .u8 qko]] => gjoints_Length zk yi fuel vp yf qhj qkr vu yb qhp qko
  | _ => none
abbrev Rjoints_Length : List RS := [RS.agg [LK.f .f64,LK.f .f64],RS.one (LK.f .f64)]
theorem gjoints_Length_sm (zk yi : Mo) (fuel : Nat) (hΓ : GamOk Pr (Gjoints_Length zk yi)) (hP : NamesOk Pr) : SmOk Pr 37 (smM Rjoints_Length (mjoints_Length zk yi fuel)) := sm0 (fuel := fuel) (d := 7) hΓ hP fun xs v h => by
  unfold mjoints_Length at h
  split at h
  · exact Eq.trans (by kernel_rfl) h
  · cases h
noncomputable def Gbars_one : Gam := []
noncomputable def gbars_one (fuel : Nat) (ux0 : Option Nat) : Option AV :=
  some (AV.agg [AV.flt .f64 ux0,AV.flt .f64 ux0])
noncomputable def mbars_one (fuel : Nat) (xs : List AV) : Option AV := match xs with
  | [AV.flt .f64 ux0] => gbars_one fuel ux0
  | _ => none
abbrev Rbars_one : List RS := [RS.agg [LK.f .f64,LK.f .f64]]
theorem gbars_one_sm (fuel : Nat) (hΓ : GamOk Pr Gbars_one) (hP : NamesOk Pr) : SmOk Pr 40 (smM Rbars_one (mbars_one fuel)) := sm0 (fuel := fuel) (d := 7) hΓ hP fun xs v h => by
  unfold mbars_one at h
  split at h
  · exact Eq.trans (by kernel_rfl) h
  · cases h
noncomputable def Gspan_Right (pq : Mo) : Gam := [(8,smM [RS.one (LK.f .f64)] pq)]
noncomputable def gspan_Right (pq : Mo) (fuel : Nat) (qg0 p7 : Option Nat) : Option AV :=
  ck (bif ford .f64 qg0 p7 == some Ordering.lt || ford .f64 qg0 p7 == some Ordering.eq then true else true) <| ck (bif ford .f64 qg0 p7 == some Ordering.lt || ford .f64 qg0 p7 == some Ordering.eq then okM [RS.one (LK.f .f64)] (pq [AV.int .i64 1]) else true) <| ck (bif bif ford .f64 qg0 p7 == some Ordering.lt || ford .f64 qg0 p7 == some Ordering.eq then ford .f64 qg0 (toF (getV (pq [AV.int .i64 1]))) == some Ordering.lt else false then true else true) <| ck (bif bif ford .f64 qg0 p7 == some Ordering.lt || ford .f64 qg0 p7 == some Ordering.eq then ford .f64 qg0 (toF (getV (pq [AV.int .i64 1]))) == some Ordering.lt else false then okM [RS.one (LK.f .f64)] (pq [AV.int .i64 (-1)]) else true) <| some (AV.bool (bif bif ford .f64 qg0 p7 == some Ordering.lt || ford .f64 qg0 p7 == some Ordering.eq then ford .f64 qg0 (toF (getV (pq [AV.int .i64 1]))) == some Ordering.lt else false then ford .f64 p7 (toF (getV (pq [AV.int .i64 (-1)]))) == some Ordering.gt else false))
noncomputable def mspan_Right (pq : Mo) (fuel : Nat) (xs : List AV) : Option AV := match xs with
  | [AV.agg [AV.flt .f64 qg0,AV.flt .f64 p7]] => gspan_Right pq fuel qg0 p7
  | _ => none
abbrev Rspan_Right : List RS := [RS.one LK.b]
theorem gspan_Right_sm (pq : Mo) (fuel : Nat) (hΓ : GamOk Pr (Gspan_Right pq)) (hP : NamesOk Pr) : SmOk Pr 135 (smM Rspan_Right (mspan_Right pq fuel)) := sm0 (fuel := fuel) (d := 7) hΓ hP fun xs v h => by
  unfold mspan_Right at h
  split at h
  · exact Eq.trans (by kernel_rfl) h
  · cases h
noncomputable def Sspan_right_0 (u5n u5r : Nat) (u5g : Ge) (u6 u7 : Int) : St := { env := [(5,AV.ro 2 u5n u5r u5g),(6,AV.int .i64 u6),(7,AV.int .i64 u7)],h := [],kd := [] }
noncomputable def Xspan_right_0_0 (qch : Bool) (yy qj2 : Option Nat) : St := { env := [(2,AV.bool qch)],h := [Blk.box [AV.flt .f64 yy,AV.flt .f64 qj2]],kd := [] }
noncomputable def Xspan_right_0_1 : St := { env := [],h := [],kd := [] }
noncomputable def gspan_right_l0_step (zb : Mo) (fuel : Nat) (kn : Int → Option AV) (kx0 : Bool → Option Nat → Option Nat → Option AV) (kx1 : Option AV) (u5n u5r : Nat) (u5g : Ge) (u6 u7 : Int) : Option AV :=
  bif decide (u7 < u6) then ck (decide (0 ≤ u7)) <| ck (decide (u7 < (↑u5n : Int))) <| ck (fitKs [LK.f .f64,LK.f .f64] [u5g u7.toNat 0,u5g u7.toNat 1]) <| ck (okM [RS.one LK.b] (zb [AV.agg [AV.flt .f64 (toF (u5g u7.toNat 0)),AV.flt .f64 (toF (u5g u7.toNat 1))]])) <| bif !toB (getV (zb [AV.agg [AV.flt .f64 (toF (u5g u7.toNat 0)),AV.flt .f64 (toF (u5g u7.toNat 1))]])) then kx0 false (toF (u5g u7.toNat 0)) (toF (u5g u7.toNat 1))
    else kn (IntKind.i64.wrap (u7 + 1))
  else kx1
noncomputable def gspan_right_l0 (zb : Mo) (fuel : Nat) (kx0 : Bool → Option Nat → Option Nat → Option AV) (kx1 : Option AV) (u5n u5r : Nat) (u5g : Ge) (u6 : Int) : Nat → Int → Option AV
  | 0,_ => none
  | n' + 1,u7 => gspan_right_l0_step zb fuel (gspan_right_l0 zb fuel kx0 kx1 u5n u5r u5g u6 n') kx0 kx1 u5n u5r u5g u6 u7
noncomputable def Tspan_right_0 : TS' := ⟨[(5,TA.ro 2),(6,TA.i .i64),(7,TA.i .i64)],[],[]⟩
noncomputable def Fspan_right_0 (zb : Mo) (fuel : Nat) (ps : List Pay) (K : Ex → St → Option AV) : Option AV := match ps with
  | .n u5n :: .n u5r :: .g u5g :: .i u6 :: .i u7 :: [] => gspan_right_l0 zb fuel (fun qch yy qj2 => K (Ex.ret) (Xspan_right_0_0 qch yy qj2)) (K (Ex.exit 0) Xspan_right_0_1) u5n u5r u5g u6 fuel u7
  | _ => none
noncomputable def Lspan_right (zb : Mo) (fuel : Nat) : Lam AV := [(32660,lam Tspan_right_0 (Fspan_right_0 zb fuel))]
noncomputable def Gspan_right (zb : Mo) : Gam := [(135,smM [RS.one LK.b] zb)]
theorem gspan_right_l0_eq (zb : Mo) (fuel : Nat) (kn : St → Option AV) (K : Ex → St → Option AV) (u5n u5r : Nat) (u5g : Ge) (u6 u70 u7 : Int) :
    bX Pr (Gspan_right zb) (Lspan_right zb fuel) 6 103 0 fuel (Sspan_right_0 u5n u5r u5g u6 u7) (fun e s => match e with | .normal => kn (hX Pr 103 0 (Sspan_right_0 u5n u5r u5g u6 u70) s) | e => K e s) =
    gspan_right_l0_step zb fuel (fun u7 => kn (Sspan_right_0 u5n u5r u5g u6 u7)) (fun xu2 yg xh0_1 => K (Ex.ret) (Xspan_right_0_0 xu2 yg xh0_1)) (K (Ex.exit 0) Xspan_right_0_1) u5n u5r u5g u6 u7 := by kernel_rfl
theorem gspan_right_l0_ok (zb : Mo) (fuel : Nat) (K : Ex → St → Option AV) (u5n u5r : Nat) (u5g : Ge) (u6 u70 : Int) : ∀ (n' : Nat) (u7 : Int),
    loopK (bX Pr (Gspan_right zb) (Lspan_right zb fuel) 6 103 0 fuel) (hX Pr 103 0 (Sspan_right_0 u5n u5r u5g u6 u70)) n' (Sspan_right_0 u5n u5r u5g u6 u7) K = gspan_right_l0 zb fuel (fun xu2 yg xh0_1 => K (Ex.ret) (Xspan_right_0_0 xu2 yg xh0_1)) (K (Ex.exit 0) Xspan_right_0_1) u5n u5r u5g u6 n' u7
  | 0,_ => rfl
  | n' + 1,u7 => (gspan_right_l0_eq zb fuel (fun s => loopK (bX Pr (Gspan_right zb) (Lspan_right zb fuel) 6 103 0 fuel) (hX Pr 103 0 (Sspan_right_0 u5n u5r u5g u6 u70)) n' s K) K u5n u5r u5g u6 u70 u7).trans
    (congrArg (fun kn => gspan_right_l0_step zb fuel kn _ _ u5n u5r u5g u6 u7) (funext fun u7 => gspan_right_l0_ok zb fuel K u5n u5r u5g u6 u70 n' u7))
theorem gspan_right_L0 (zb : Mo) (fuel : Nat) : LX Pr (Gspan_right zb) (Lspan_right zb fuel) 6 103 0 fuel := by
  refine .of Tspan_right_0 (Fspan_right_0 zb fuel) (fun L h => ?_) (fun ps st K r he hr => ?_)
  · have e : (Lspan_right zb fuel).get (writes (lp Pr 103 0).1) = some (lam Tspan_right_0 (Fspan_right_0 zb fuel)) := by kernel_rfl
    exact (Option.some.inj (e.symm.trans h)).symm
  · unfold Fspan_right_0 at hr
    split at hr
    · obtain rfl := (Option.some.inj he).symm
      exact (gspan_right_l0_ok zb fuel K _ _ _ _ _ fuel _).trans hr
    · cases hr
noncomputable def gspan_right (zb : Mo) (fuel y7 qa6 : Nat) (qan : Ge) : Option AV :=
  gspan_right_l0 zb fuel
    (fun (xu2 : Bool) (_ _ : Option Nat) => some (AV.bool xu2))
    (some (AV.bool true))
    y7
    qa6
    qan
    ((↑y7 : Int)) fuel (0)
noncomputable def mspan_right (zb : Mo) (fuel : Nat) (xs : List AV) : Option AV := match xs with
  | [AV.ro 2 y7 qa6 qan] => gspan_right zb fuel y7 qa6 qan
  | _ => none
abbrev Rspan_right : List RS := [RS.one LK.b]
theorem gspan_right_sm (zb : Mo) (fuel : Nat) (hΓ : GamOk Pr (Gspan_right zb)) (hP : NamesOk Pr) : SmOk Pr 103 (smM Rspan_right (mspan_right zb fuel)) := smL (L := (Lspan_right zb fuel)) (n := 1) hΓ hP (by kernel_rfl) (fun i hi => match i,hi with
  | 0,_ => gspan_right_L0 zb fuel
  | i + 1,hi => absurd hi (by omega)) fun xs v h => by
  unfold mspan_right at h
  split at h
  · exact Eq.trans (by kernel_rfl) h
  · cases h
noncomputable def Gbits_Place (vl : Mo) : Gam := [(145,smM [RS.one (LK.f .f64)] vl),(16,Go.Am.sBits)]
noncomputable def gbits_Place (vl : Mo) (fuel : Nat) (ux0 : Option Nat) : Option AV :=
  bif ford .f64 ux0 ux0 != some Ordering.eq then some (AV.tup [AV.int .i64 0,AV.bool false])
  else ck (okM [RS.one (LK.f .f64)] (vl [AV.flt .f64 ux0])) <| ck (sBits.ok [AV.flt .f64 (toF (getV (vl [AV.flt .f64 ux0])))]) <| bif ford .f64 ux0 (some 0) == some Ordering.lt then some (AV.tup [AV.int .i64 (IntKind.i64.wrap (0 - IntKind.i64.wrap (↑((toF (getV (vl [AV.flt .f64 ux0]))).getD 0) : Int))),AV.bool true])
  else some (AV.tup [AV.int .i64 (IntKind.i64.wrap (↑((toF (getV (vl [AV.flt .f64 ux0]))).getD 0) : Int)),AV.bool true])
noncomputable def mbits_Place (vl : Mo) (fuel : Nat) (xs : List AV) : Option AV := match xs with
  | [AV.flt .f64 ux0] => gbits_Place vl fuel ux0
  | _ => none
abbrev Rbits_Place : List RS := [RS.one (LK.i .i64),RS.one LK.b]
theorem gbits_Place_sm (vl : Mo) (fuel : Nat) (hΓ : GamOk Pr (Gbits_Place vl)) (hP : NamesOk Pr) : SmOk Pr 174 (smM Rbits_Place (mbits_Place vl fuel)) := sm0 (fuel := fuel) (d := 7) hΓ hP fun xs v h => by
  unfold mbits_Place at h
  split at h
  · exact Eq.trans (by kernel_rfl) h
  · cases h
noncomputable def Gbits_rank (pl ze : Mo) : Gam := [(174,smM [RS.one (LK.i .i64),RS.one LK.b] pl),(130,smM [RS.one LK.b] ze)]
noncomputable def gbits_rank (pl ze : Mo) (fuel : Nat) (ux0 : Option Nat) : Option AV :=
  let r0 : Option AV := pl [AV.flt .f64 ux0]; ck (okM [RS.one (LK.i .i64),RS.one LK.b] r0) <| bif !toB ((toT (getV r0)).tail.headD .dead) then some (AV.tup [AV.int .i64 9223372036854775807,AV.int .i64 0])
  else ck (bif toI ((toT (getV r0)).headD .dead) == 0 then okM [RS.one LK.b] (ze [AV.flt .f64 ux0]) else true) <| bif bif toI ((toT (getV r0)).headD .dead) == 0 then !toB (getV (ze [AV.flt .f64 ux0])) else false then some (AV.tup [AV.int .i64 0,AV.int .i64 1])
  else some (AV.tup [AV.int .i64 (toI ((toT (getV r0)).headD .dead)),AV.int .i64 0])
noncomputable def mbits_rank (pl ze : Mo) (fuel : Nat) (xs : List AV) : Option AV := match xs with
  | [AV.flt .f64 ux0] => gbits_rank pl ze fuel ux0
  | _ => none
abbrev Rbits_rank : List RS := [RS.one (LK.i .i64),RS.one (LK.i .i64)]
theorem gbits_rank_sm (pl ze : Mo) (fuel : Nat) (hΓ : GamOk Pr (Gbits_rank pl ze)) (hP : NamesOk Pr) : SmOk Pr 165 (smM Rbits_rank (mbits_rank pl ze fuel)) := sm0 (fuel := fuel) (d := 7) hΓ hP fun xs v h => by
  unfold mbits_rank at h
  split at h
  · exact Eq.trans (by kernel_rfl) h
  · cases h
noncomputable def Gcmp_isNaN_int64 : Gam := []
noncomputable def gcmp_isNaN_int64 (fuel : Nat) (ux0 : Int) : Option AV :=
  some (AV.bool (ux0 != ux0))
noncomputable def mcmp_isNaN_int64 (fuel : Nat) (xs : List AV) : Option AV := match xs with
  | [AV.int .i64 ux0] => gcmp_isNaN_int64 fuel ux0
  | _ => none
abbrev Rcmp_isNaN_int64 : List RS := [RS.one LK.b]
theorem gcmp_isNaN_int64_sm (fuel : Nat) (hΓ : GamOk Pr Gcmp_isNaN_int64) (hP : NamesOk Pr) : SmOk Pr 175 (smM Rcmp_isNaN_int64 (mcmp_isNaN_int64 fuel)) := sm0 (fuel := fuel) (d := 7) hΓ hP fun xs v h => by
  unfold mcmp_isNaN_int64 at h
  split at h
  · exact Eq.trans (by kernel_rfl) h
  · cases h
noncomputable def Gcmp_Compare_int64 (vh : Mo) : Gam := [(175,smM [RS.one LK.b] vh)]
noncomputable def gcmp_Compare_int64 (vh : Mo) (fuel : Nat) (ux0 uy1 : Int) : Option AV :=
  ck (okM [RS.one LK.b] (vh [AV.int .i64 ux0])) <| ck (okM [RS.one LK.b] (vh [AV.int .i64 uy1])) <| bif toB (getV (vh [AV.int .i64 ux0])) then bif toB (getV (vh [AV.int .i64 uy1])) then some (AV.int .i64 0)
    else some (AV.int .i64 (-1))
  else bif toB (getV (vh [AV.int .i64 uy1])) then some (AV.int .i64 1)
  else bif decide (ux0 < uy1) then some (AV.int .i64 (-1))
  else bif decide (ux0 > uy1) then some (AV.int .i64 1)
  else some (AV.int .i64 0)
noncomputable def mcmp_Compare_int64 (vh : Mo) (fuel : Nat) (xs : List AV) : Option AV := match xs with
  | [AV.int .i64 ux0,AV.int .i64 uy1] => gcmp_Compare_int64 vh fuel ux0 uy1
  | _ => none
abbrev Rcmp_Compare_int64 : List RS := [RS.one (LK.i .i64)]
theorem gcmp_Compare_int64_sm (vh : Mo) (fuel : Nat) (hΓ : GamOk Pr (Gcmp_Compare_int64 vh)) (hP : NamesOk Pr) : SmOk Pr 167 (smM Rcmp_Compare_int64 (mcmp_Compare_int64 vh fuel)) := sm0 (fuel := fuel) (d := 7) hΓ hP fun xs v h => by
  unfold mcmp_Compare_int64 at h
  split at h
  · exact Eq.trans (by kernel_rfl) h
  · cases h
noncomputable def Gcmp_isNaN_int : Gam := []
noncomputable def gcmp_isNaN_int (fuel : Nat) (ux0 : Int) : Option AV :=
  some (AV.bool (ux0 != ux0))
noncomputable def mcmp_isNaN_int (fuel : Nat) (xs : List AV) : Option AV := match xs with
  | [AV.int .i64 ux0] => gcmp_isNaN_int fuel ux0
  | _ => none
abbrev Rcmp_isNaN_int : List RS := [RS.one LK.b]
theorem gcmp_isNaN_int_sm (fuel : Nat) (hΓ : GamOk Pr Gcmp_isNaN_int) (hP : NamesOk Pr) : SmOk Pr 176 (smM Rcmp_isNaN_int (mcmp_isNaN_int fuel)) := sm0 (fuel := fuel) (d := 7) hΓ hP fun xs v h => by
  unfold mcmp_isNaN_int at h
  split at h
  · exact Eq.trans (by kernel_rfl) h
  · cases h
noncomputable def Gcmp_Compare_int (vv : Mo) : Gam := [(176,smM [RS.one LK.b] vv)]
noncomputable def gcmp_Compare_int (vv : Mo) (fuel : Nat) (ux0 uy1 : Int) : Option AV :=
  ck (okM [RS.one LK.b] (vv [AV.int .i64 ux0])) <| ck (okM [RS.one LK.b] (vv [AV.int .i64 uy1])) <| bif toB (getV (vv [AV.int .i64 ux0])) then bif toB (getV (vv [AV.int .i64 uy1])) then some (AV.int .i64 0)
    else some (AV.int .i64 (-1))
  else bif toB (getV (vv [AV.int .i64 uy1])) then some (AV.int .i64 1)
  else bif decide (ux0 < uy1) then some (AV.int .i64 (-1))
  else bif decide (ux0 > uy1) then some (AV.int .i64 1)
  else some (AV.int .i64 0)
noncomputable def mcmp_Compare_int (vv : Mo) (fuel : Nat) (xs : List AV) : Option AV := match xs with
  | [AV.int .i64 ux0,AV.int .i64 uy1] => gcmp_Compare_int vv fuel ux0 uy1
  | _ => none
abbrev Rcmp_Compare_int : List RS := [RS.one (LK.i .i64)]
theorem gcmp_Compare_int_sm (vv : Mo) (fuel : Nat) (hΓ : GamOk Pr (Gcmp_Compare_int vv)) (hP : NamesOk Pr) : SmOk Pr 168 (smM Rcmp_Compare_int (mcmp_Compare_int vv fuel)) := sm0 (fuel := fuel) (d := 7) hΓ hP fun xs v h => by
  unfold mcmp_Compare_int at h
  split at h
  · exact Eq.trans (by kernel_rfl) h
  · cases h
noncomputable def Scmp_Or_int_0 (qfy : Int) (u6n u6r : Nat) (u6g : Ge) (u7 u8 : Int) : St := { env := [(3,AV.int .i64 qfy),(6,AV.ro 1 u6n u6r u6g),(7,AV.int .i64 u7),(8,AV.int .i64 u8)],h := [],kd := [] }
noncomputable def Xcmp_Or_int_0_0 (qch : Int) : St := { env := [(2,AV.int .i64 qch)],h := [],kd := [] }
noncomputable def Xcmp_Or_int_0_1 (qo1 : Int) : St := { env := [(3,AV.int .i64 qo1)],h := [],kd := [] }
noncomputable def gcmp_Or_int_l0_step (fuel : Nat) (kn kx0 kx1 : Int → Option AV) (qfy : Int) (u6n u6r : Nat) (u6g : Ge) (u7 u8 : Int) : Option AV :=
  bif decide (u8 < u7) then ck (decide (0 ≤ u8)) <| ck (decide (u8 < (↑u6n : Int))) <| ck (fitK (LK.i .i64) (u6g u8.toNat 0)) <| bif toI (u6g u8.toNat 0) != qfy then kx0 (toI (u6g u8.toNat 0))
    else kn (IntKind.i64.wrap (u8 + 1))
  else kx1 qfy
noncomputable def gcmp_Or_int_l0 (fuel : Nat) (kx0 kx1 : Int → Option AV) (qfy : Int) (u6n u6r : Nat) (u6g : Ge) (u7 : Int) : Nat → Int → Option AV
  | 0,_ => none
  | n' + 1,u8 => gcmp_Or_int_l0_step fuel (gcmp_Or_int_l0 fuel kx0 kx1 qfy u6n u6r u6g u7 n') kx0 kx1 qfy u6n u6r u6g u7 u8
noncomputable def Tcmp_Or_int_0 : TS' := ⟨[(3,TA.i .i64),(6,TA.ro 1),(7,TA.i .i64),(8,TA.i .i64)],[],[]⟩
noncomputable def Fcmp_Or_int_0 (fuel : Nat) (ps : List Pay) (K : Ex → St → Option AV) : Option AV := match ps with
  | .i qfy :: .n u6n :: .n u6r :: .g u6g :: .i u7 :: .i u8 :: [] => gcmp_Or_int_l0 fuel (fun qch => K (Ex.ret) (Xcmp_Or_int_0_0 qch)) (fun qo1 => K (Ex.exit 0) (Xcmp_Or_int_0_1 qo1)) qfy u6n u6r u6g u7 fuel u8
  | _ => none
noncomputable def Lcmp_Or_int (fuel : Nat) : Lam AV := [(130852,lam Tcmp_Or_int_0 (Fcmp_Or_int_0 fuel))]
noncomputable def Gcmp_Or_int : Gam := []
theorem gcmp_Or_int_l0_eq (fuel : Nat) (kn : St → Option AV) (K : Ex → St → Option AV) (qfy : Int) (u6n u6r : Nat) (u6g : Ge) (u7 u80 u8 : Int) :
    bX Pr Gcmp_Or_int (Lcmp_Or_int fuel) 6 166 0 fuel (Scmp_Or_int_0 qfy u6n u6r u6g u7 u8) (fun e s => match e with | .normal => kn (hX Pr 166 0 (Scmp_Or_int_0 qfy u6n u6r u6g u7 u80) s) | e => K e s) =
    gcmp_Or_int_l0_step fuel (fun u8 => kn (Scmp_Or_int_0 qfy u6n u6r u6g u7 u8)) (fun xu2 => K (Ex.ret) (Xcmp_Or_int_0_0 xu2)) (fun qlr => K (Ex.exit 0) (Xcmp_Or_int_0_1 qlr)) qfy u6n u6r u6g u7 u8 := by kernel_rfl
theorem gcmp_Or_int_l0_ok (fuel : Nat) (K : Ex → St → Option AV) (qfy : Int) (u6n u6r : Nat) (u6g : Ge) (u7 u80 : Int) : ∀ (n' : Nat) (u8 : Int),
    loopK (bX Pr Gcmp_Or_int (Lcmp_Or_int fuel) 6 166 0 fuel) (hX Pr 166 0 (Scmp_Or_int_0 qfy u6n u6r u6g u7 u80)) n' (Scmp_Or_int_0 qfy u6n u6r u6g u7 u8) K = gcmp_Or_int_l0 fuel (fun xu2 => K (Ex.ret) (Xcmp_Or_int_0_0 xu2)) (fun qlr => K (Ex.exit 0) (Xcmp_Or_int_0_1 qlr)) qfy u6n u6r u6g u7 n' u8
  | 0,_ => rfl
  | n' + 1,u8 => (gcmp_Or_int_l0_eq fuel (fun s => loopK (bX Pr Gcmp_Or_int (Lcmp_Or_int fuel) 6 166 0 fuel) (hX Pr 166 0 (Scmp_Or_int_0 qfy u6n u6r u6g u7 u80)) n' s K) K qfy u6n u6r u6g u7 u80 u8).trans
    (congrArg (fun kn => gcmp_Or_int_l0_step fuel kn _ _ qfy u6n u6r u6g u7 u8) (funext fun u8 => gcmp_Or_int_l0_ok fuel K qfy u6n u6r u6g u7 u80 n' u8))
theorem gcmp_Or_int_L0 (fuel : Nat) : LX Pr Gcmp_Or_int (Lcmp_Or_int fuel) 6 166 0 fuel := by
  refine .of Tcmp_Or_int_0 (Fcmp_Or_int_0 fuel) (fun L h => ?_) (fun ps st K r he hr => ?_)
  · have e : (Lcmp_Or_int fuel).get (writes (lp Pr 166 0).1) = some (lam Tcmp_Or_int_0 (Fcmp_Or_int_0 fuel)) := by kernel_rfl
    exact (Option.some.inj (e.symm.trans h)).symm
  · unfold Fcmp_Or_int_0 at hr
    split at hr
    · obtain rfl := (Option.some.inj he).symm
      exact (gcmp_Or_int_l0_ok fuel K _ _ _ _ _ _ fuel _).trans hr
    · cases hr
noncomputable def gcmp_Or_int (fuel qli qma : Nat) (ql8 : Ge) : Option AV :=
  gcmp_Or_int_l0 fuel
    (fun (xu2 : Int) => some (AV.int .i64 xu2))
    (fun (qlr : Int) => some (AV.int .i64 qlr))
    (0)
    qli
    qma
    ql8
    ((↑qli : Int)) fuel (0)
noncomputable def mcmp_Or_int (fuel : Nat) (xs : List AV) : Option AV := match xs with
  | [AV.ro 1 qli qma ql8] => gcmp_Or_int fuel qli qma ql8
  | _ => none
abbrev Rcmp_Or_int : List RS := [RS.one (LK.i .i64)]
theorem gcmp_Or_int_sm (fuel : Nat) (hΓ : GamOk Pr Gcmp_Or_int) (hP : NamesOk Pr) : SmOk Pr 166 (smM Rcmp_Or_int (mcmp_Or_int fuel)) := smL (L := (Lcmp_Or_int fuel)) (n := 1) hΓ hP (by kernel_rfl) (fun i hi => match i,hi with
  | 0,_ => gcmp_Or_int_L0 fuel
  | i + 1,hi => absurd hi (by omega)) fun xs v h => by
  unfold mcmp_Or_int at h
  split at h
  · exact Eq.trans (by kernel_rfl) h
  · cases h
end Go.Proofs.Tryz
end
section
namespace Go.Proofs.Tryz
open Go Go.Am
set_option linter.unusedVariables false
set_option maxRecDepth 1000000
noncomputable def Gbits_Order (pu vb : Mo) (vk pa : Mo) : Gam := [(165,smM [RS.one (LK.i .i64),RS.one (LK.i .i64)] pu),(167,smM [RS.one (LK.i .i64)] vb),(168,smM [RS.one (LK.i .i64)] vk),(166,smM [RS.one (LK.i .i64)] pa)]
noncomputable def gbits_Order (pu vb : Mo) (vk pa : Mo) (fuel : Nat) (ua0 ub1 : Option Nat) : Option AV :=
  let r0 : Option AV := pu [AV.flt .f64 ua0]; ck (okM [RS.one (LK.i .i64),RS.one (LK.i .i64)] r0) <| let r1 : Option AV := pu [AV.flt .f64 ub1]; ck (okM [RS.one (LK.i .i64),RS.one (LK.i .i64)] r1) <| ck (okM [RS.one (LK.i .i64)] (vb [AV.int .i64 (toI ((toT (getV r0)).headD .dead)),AV.int .i64 (toI ((toT (getV r1)).headD .dead))])) <| ck (okM [RS.one (LK.i .i64)] (vk [AV.int .i64 (toI ((toT (getV r0)).tail.headD .dead)),AV.int .i64 (toI ((toT (getV r1)).tail.headD .dead))])) <| ck (okM [RS.one (LK.i .i64)] (pa [AV.ro 1 2 2 fun (i j : Nat) => ([[AV.int .i64 (toI (getV (vb [AV.int .i64 (toI ((toT (getV r0)).headD .dead)),AV.int .i64 (toI ((toT (getV r1)).headD .dead))])))],[AV.int .i64 (toI (getV (vk [AV.int .i64 (toI ((toT (getV r0)).tail.headD .dead)),AV.int .i64 (toI ((toT (getV r1)).tail.headD .dead))])))]].getD i []).getD j AV.dead])) <| some (AV.int .i64 (toI (getV (pa [AV.ro 1 2 2 fun (i j : Nat) => ([[AV.int .i64 (toI (getV (vb [AV.int .i64 (toI ((toT (getV r0)).headD .dead)),AV.int .i64 (toI ((toT (getV r1)).headD .dead))])))],[AV.int .i64 (toI (getV (vk [AV.int .i64 (toI ((toT (getV r0)).tail.headD .dead)),AV.int .i64 (toI ((toT (getV r1)).tail.headD .dead))])))]].getD i []).getD j AV.dead]))))
noncomputable def mbits_Order (pu vb : Mo) (vk pa : Mo) (fuel : Nat) (xs : List AV) : Option AV := match xs with
  | [AV.flt .f64 ua0,AV.flt .f64 ub1] => gbits_Order pu vb vk pa fuel ua0 ub1
  | _ => none
abbrev Rbits_Order : List RS := [RS.one (LK.i .i64)]
theorem gbits_Order_sm (pu vb : Mo) (vk pa : Mo) (fuel : Nat) (hΓ : GamOk Pr (Gbits_Order pu vb vk pa)) (hP : NamesOk Pr) : SmOk Pr 154 (smM Rbits_Order (mbits_Order pu vb vk pa fuel)) := sm0 (fuel := fuel) (d := 7) hΓ hP fun xs v h => by
  unfold mbits_Order at h
  split at h
  · exact Eq.trans (by kernel_rfl) h
  · cases h
noncomputable def Gspan_lesser (z5 : Mo) : Gam := [(154,smM [RS.one (LK.i .i64)] z5)]
noncomputable def gspan_lesser (z5 : Mo) (fuel : Nat) (ua0 ub1 : Option Nat) : Option AV :=
  ck (okM [RS.one (LK.i .i64)] (z5 [AV.flt .f64 ub1,AV.flt .f64 ua0])) <| bif decide (toI (getV (z5 [AV.flt .f64 ub1,AV.flt .f64 ua0])) < 0) then some (AV.flt .f64 ub1)
  else some (AV.flt .f64 ua0)
noncomputable def mspan_lesser (z5 : Mo) (fuel : Nat) (xs : List AV) : Option AV := match xs with
  | [AV.flt .f64 ua0,AV.flt .f64 ub1] => gspan_lesser z5 fuel ua0 ub1
  | _ => none
abbrev Rspan_lesser : List RS := [RS.one (LK.f .f64)]
theorem gspan_lesser_sm (z5 : Mo) (fuel : Nat) (hΓ : GamOk Pr (Gspan_lesser z5)) (hP : NamesOk Pr) : SmOk Pr 136 (smM Rspan_lesser (mspan_lesser z5 fuel)) := sm0 (fuel := fuel) (d := 7) hΓ hP fun xs v h => by
  unfold mspan_lesser at h
  split at h
  · exact Eq.trans (by kernel_rfl) h
  · cases h
noncomputable def Gspan_greater (z5 : Mo) : Gam := [(154,smM [RS.one (LK.i .i64)] z5)]
noncomputable def gspan_greater (z5 : Mo) (fuel : Nat) (ua0 ub1 : Option Nat) : Option AV :=
  ck (okM [RS.one (LK.i .i64)] (z5 [AV.flt .f64 ub1,AV.flt .f64 ua0])) <| bif decide (toI (getV (z5 [AV.flt .f64 ub1,AV.flt .f64 ua0])) > 0) then some (AV.flt .f64 ub1)
  else some (AV.flt .f64 ua0)
noncomputable def mspan_greater (z5 : Mo) (fuel : Nat) (xs : List AV) : Option AV := match xs with
  | [AV.flt .f64 ua0,AV.flt .f64 ub1] => gspan_greater z5 fuel ua0 ub1
  | _ => none
abbrev Rspan_greater : List RS := [RS.one (LK.f .f64)]
theorem gspan_greater_sm (z5 : Mo) (fuel : Nat) (hΓ : GamOk Pr (Gspan_greater z5)) (hP : NamesOk Pr) : SmOk Pr 137 (smM Rspan_greater (mspan_greater z5 fuel)) := sm0 (fuel := fuel) (d := 7) hΓ hP fun xs v h => by
  unfold mspan_greater at h
  split at h
  · exact Eq.trans (by kernel_rfl) h
  · cases h
noncomputable def Ground_Mul (ws wk : Mo) (wp wn : Mo) (wa qw : Mo) (zg wv w4 : Mo) : Gam := [(93,smM [RS.one (LK.i .i8)] ws),(95,smM [RS.one LK.b] wk),(96,smM [RS.one LK.b] wp),(98,smM [RS.one (LK.i .i64)] wn),(97,smM [RS.one (LK.f .f64)] wa),(129,smM [RS.one LK.b] qw),(101,smM [RS.agg [LK.b,LK.l (nat_lit 1),LK.i .i64]] zg),(102,smM [RS.agg [LK.b,LK.l (nat_lit 1),LK.i .i64]] wv),(100,smM [RS.one (LK.i .i64)] w4),(99,Go.Am.sFma)]
noncomputable def ground_Mul (ws wk : Mo) (wp wn : Mo) (wa qw : Mo) (zg wv w4 : Mo) (fuel : Nat) (ua0 ub1 : Option Nat) (um2 : Int) : Option AV :=
  ck (okM [RS.one (LK.i .i8)] (ws [AV.int .i8 um2])) <| ck (okM [RS.one LK.b] (wk [AV.ro 1 2 2 fun (i j : Nat) => ([[AV.flt .f64 ua0],[AV.flt .f64 ub1]].getD i []).getD j AV.dead])) <| bif bif bif !toB (getV (wk [AV.ro 1 2 2 fun (i j : Nat) => ([[AV.flt .f64 ua0],[AV.flt .f64 ub1]].getD i []).getD j AV.dead])) then true else ford .f64 ua0 (some 0) == some Ordering.eq then true else ford .f64 ub1 (some 0) == some Ordering.eq then some (AV.flt .f64 (farith BinOp.mul .f64 ua0 ub1))
  else ck (okM [RS.one LK.b] (wp [AV.ro 1 3 3 fun (i j : Nat) => ([[AV.flt .f64 ua0],[AV.flt .f64 ub1],[AV.flt .f64 (farith BinOp.mul .f64 ua0 ub1)]].getD i []).getD j AV.dead])) <| bif toB (getV (wp [AV.ro 1 3 3 fun (i j : Nat) => ([[AV.flt .f64 ua0],[AV.flt .f64 ub1],[AV.flt .f64 (farith BinOp.mul .f64 ua0 ub1)]].getD i []).getD j AV.dead])) then ck (sFma.ok [AV.flt .f64 ua0,AV.flt .f64 ub1,AV.flt .f64 (Option.map (Op.negFloat .f64) (farith BinOp.mul .f64 ua0 ub1))]) <| ck (okM [RS.one (LK.i .i64)] (wn [AV.flt .f64 (ua0.bind fun (x : Nat) => ub1.bind fun (y : Nat) => (Option.map (Op.negFloat .f64) (farith BinOp.mul .f64 ua0 ub1)).bind fun (z : Nat) => FloatKind.f64.format.fma x y z)])) <| ck (okM [RS.one (LK.f .f64)] (wa [AV.flt .f64 (farith BinOp.mul .f64 ua0 ub1),AV.int .i64 (toI (getV (wn [AV.flt .f64 (ua0.bind fun (x : Nat) => ub1.bind fun (y : Nat) => (Option.map (Op.negFloat .f64) (farith BinOp.mul .f64 ua0 ub1)).bind fun (z : Nat) => FloatKind.f64.format.fma x y z)]))),AV.int .i8 (toI (getV (ws [AV.int .i8 um2])))])) <| some (AV.flt .f64 (toF (getV (wa [AV.flt .f64 (farith BinOp.mul .f64 ua0 ub1),AV.int .i64 (toI (getV (wn [AV.flt .f64 (ua0.bind fun (x : Nat) => ub1.bind fun (y : Nat) => (Option.map (Op.negFloat .f64) (farith BinOp.mul .f64 ua0 ub1)).bind fun (z : Nat) => FloatKind.f64.format.fma x y z)]))),AV.int .i8 (toI (getV (ws [AV.int .i8 um2])))]))))
  else ck (okM [RS.one LK.b] (qw [AV.flt .f64 (farith BinOp.mul .f64 ua0 ub1),AV.int .i64 0])) <| bif toB (getV (qw [AV.flt .f64 (farith BinOp.mul .f64 ua0 ub1),AV.int .i64 0])) then ck (okM [RS.one (LK.f .f64)] (wa [AV.flt .f64 (farith BinOp.mul .f64 ua0 ub1),AV.int .i64 0,AV.int .i8 (toI (getV (ws [AV.int .i8 um2])))])) <| some (AV.flt .f64 (toF (getV (wa [AV.flt .f64 (farith BinOp.mul .f64 ua0 ub1),AV.int .i64 0,AV.int .i8 (toI (getV (ws [AV.int .i8 um2])))]))))
  else let r0 : Option AV := zg [AV.flt .f64 ua0]; ck (okM [RS.agg [LK.b,LK.l 1,LK.i .i64]] r0) <| let r1 : Option AV := zg [AV.flt .f64 ub1]; ck (okM [RS.agg [LK.b,LK.l 1,LK.i .i64]] r1) <| let r2 : Option AV := wv [AV.agg [AV.bool (toB ((toC (getV r0)).headD .dead)),AV.ro 1 (toN ((toC (getV r0)).tail.headD .dead)) (toR ((toC (getV r0)).tail.headD .dead)) (toG ((toC (getV r0)).tail.headD .dead)),AV.int .i64 (toI ((toC (getV r0)).tail.tail.headD .dead))],AV.agg [AV.bool (toB ((toC (getV r1)).headD .dead)),AV.ro 1 (toN ((toC (getV r1)).tail.headD .dead)) (toR ((toC (getV r1)).tail.headD .dead)) (toG ((toC (getV r1)).tail.headD .dead)),AV.int .i64 (toI ((toC (getV r1)).tail.tail.headD .dead))]]; ck (okM [RS.agg [LK.b,LK.l 1,LK.i .i64]] r2) <| let r3 : Option AV := zg [AV.flt .f64 (farith BinOp.mul .f64 ua0 ub1)]; ck (okM [RS.agg [LK.b,LK.l 1,LK.i .i64]] r3) <| ck (okM [RS.one (LK.i .i64)] (w4 [AV.agg [AV.bool (toB ((toC (getV r2)).headD .dead)),AV.ro 1 (toN ((toC (getV r2)).tail.headD .dead)) (toR ((toC (getV r2)).tail.headD .dead)) (toG ((toC (getV r2)).tail.headD .dead)),AV.int .i64 (toI ((toC (getV r2)).tail.tail.headD .dead))],AV.agg [AV.bool (toB ((toC (getV r3)).headD .dead)),AV.ro 1 (toN ((toC (getV r3)).tail.headD .dead)) (toR ((toC (getV r3)).tail.headD .dead)) (toG ((toC (getV r3)).tail.headD .dead)),AV.int .i64 (toI ((toC (getV r3)).tail.tail.headD .dead))]])) <| ck (okM [RS.one (LK.f .f64)] (wa [AV.flt .f64 (farith BinOp.mul .f64 ua0 ub1),AV.int .i64 (toI (getV (w4 [AV.agg [AV.bool (toB ((toC (getV r2)).headD .dead)),AV.ro 1 (toN ((toC (getV r2)).tail.headD .dead)) (toR ((toC (getV r2)).tail.headD .dead)) (toG ((toC (getV r2)).tail.headD .dead)),AV.int .i64 (toI ((toC (getV r2)).tail.tail.headD .dead))],AV.agg [AV.bool (toB ((toC (getV r3)).headD .dead)),AV.ro 1 (toN ((toC (getV r3)).tail.headD .dead)) (toR ((toC (getV r3)).tail.headD .dead)) (toG ((toC (getV r3)).tail.headD .dead)),AV.int .i64 (toI ((toC (getV r3)).tail.tail.headD .dead))]]))),AV.int .i8 (toI (getV (ws [AV.int .i8 um2])))])) <| some (AV.flt .f64 (toF (getV (wa [AV.flt .f64 (farith BinOp.mul .f64 ua0 ub1),AV.int .i64 (toI (getV (w4 [AV.agg [AV.bool (toB ((toC (getV r2)).headD .dead)),AV.ro 1 (toN ((toC (getV r2)).tail.headD .dead)) (toR ((toC (getV r2)).tail.headD .dead)) (toG ((toC (getV r2)).tail.headD .dead)),AV.int .i64 (toI ((toC (getV r2)).tail.tail.headD .dead))],AV.agg [AV.bool (toB ((toC (getV r3)).headD .dead)),AV.ro 1 (toN ((toC (getV r3)).tail.headD .dead)) (toR ((toC (getV r3)).tail.headD .dead)) (toG ((toC (getV r3)).tail.headD .dead)),AV.int .i64 (toI ((toC (getV r3)).tail.tail.headD .dead))]]))),AV.int .i8 (toI (getV (ws [AV.int .i8 um2])))]))))
noncomputable def mround_Mul (ws wk : Mo) (wp wn : Mo) (wa qw : Mo) (zg wv w4 : Mo) (fuel : Nat) (xs : List AV) : Option AV := match xs with
  | [AV.flt .f64 ua0,AV.flt .f64 ub1,AV.int .i8 um2] => ground_Mul ws wk wp wn wa qw zg wv w4 fuel ua0 ub1 um2
  | _ => none
abbrev Rround_Mul : List RS := [RS.one (LK.f .f64)]
theorem ground_Mul_sm (ws wk : Mo) (wp wn : Mo) (wa qw : Mo) (zg wv w4 : Mo) (fuel : Nat) (hΓ : GamOk Pr (Ground_Mul ws wk wp wn wa qw zg wv w4)) (hP : NamesOk Pr) : SmOk Pr 108 (smM Rround_Mul (mround_Mul ws wk wp wn wa qw zg wv w4 fuel)) := sm0 (fuel := fuel) (d := 7) hΓ hP fun xs v h => by
  unfold mround_Mul at h
  split at h
  · exact Eq.trans (by kernel_rfl) h
  · cases h
noncomputable def Gspan_Mul_c1 (pf : Mo) : Gam := [(108,smM [RS.one (LK.f .f64)] pf)]
noncomputable def gspan_Mul_c1 (pf : Mo) (fuel : Nat) (ux0 uy1 : Option Nat) (um2 : Int) : Option AV :=
  ck (okM [RS.one (LK.f .f64)] (pf [AV.flt .f64 ux0,AV.flt .f64 uy1,AV.int .i8 um2])) <| bif ford .f64 (toF (getV (pf [AV.flt .f64 ux0,AV.flt .f64 uy1,AV.int .i8 um2]))) (toF (getV (pf [AV.flt .f64 ux0,AV.flt .f64 uy1,AV.int .i8 um2]))) == some Ordering.eq then some (AV.flt .f64 (toF (getV (pf [AV.flt .f64 ux0,AV.flt .f64 uy1,AV.int .i8 um2]))))
  else some (AV.flt .f64 (some 0))
noncomputable def mspan_Mul_c1 (pf : Mo) (fuel : Nat) (xs : List AV) : Option AV := match xs with
  | [AV.flt .f64 ux0,AV.flt .f64 uy1,AV.int .i8 um2] => gspan_Mul_c1 pf fuel ux0 uy1 um2
  | _ => none
abbrev Rspan_Mul_c1 : List RS := [RS.one (LK.f .f64)]
theorem gspan_Mul_c1_sm (pf : Mo) (fuel : Nat) (hΓ : GamOk Pr (Gspan_Mul_c1 pf)) (hP : NamesOk Pr) : SmOk Pr 107 (smM Rspan_Mul_c1 (mspan_Mul_c1 pf fuel)) := sm0 (fuel := fuel) (d := 7) hΓ hP fun xs v h => by
  unfold mspan_Mul_c1 at h
  split at h
  · exact Eq.trans (by kernel_rfl) h
  · cases h
noncomputable def Ground_Div (ws wk : Mo) (wp wn : Mo) (wa qw : Mo) (zg wv w4 : Mo) : Gam := [(93,smM [RS.one (LK.i .i8)] ws),(95,smM [RS.one LK.b] wk),(96,smM [RS.one LK.b] wp),(98,smM [RS.one (LK.i .i64)] wn),(97,smM [RS.one (LK.f .f64)] wa),(129,smM [RS.one LK.b] qw),(101,smM [RS.agg [LK.b,LK.l (nat_lit 1),LK.i .i64]] zg),(102,smM [RS.agg [LK.b,LK.l (nat_lit 1),LK.i .i64]] wv),(100,smM [RS.one (LK.i .i64)] w4),(99,Go.Am.sFma)]
noncomputable def ground_Div (ws wk : Mo) (wp wn : Mo) (wa qw : Mo) (zg wv w4 : Mo) (fuel : Nat) (ua0 ub1 : Option Nat) (um2 : Int) : Option AV :=
  ck (okM [RS.one (LK.i .i8)] (ws [AV.int .i8 um2])) <| ck (okM [RS.one LK.b] (wk [AV.ro 1 2 2 fun (i j : Nat) => ([[AV.flt .f64 ua0],[AV.flt .f64 ub1]].getD i []).getD j AV.dead])) <| bif bif bif !toB (getV (wk [AV.ro 1 2 2 fun (i j : Nat) => ([[AV.flt .f64 ua0],[AV.flt .f64 ub1]].getD i []).getD j AV.dead])) then true else ford .f64 ua0 (some 0) == some Ordering.eq then true else ford .f64 ub1 (some 0) == some Ordering.eq then some (AV.flt .f64 (farith BinOp.quo .f64 ua0 ub1))
  else ck (okM [RS.one LK.b] (wp [AV.ro 1 3 3 fun (i j : Nat) => ([[AV.flt .f64 ua0],[AV.flt .f64 ub1],[AV.flt .f64 (farith BinOp.quo .f64 ua0 ub1)]].getD i []).getD j AV.dead])) <| bif toB (getV (wp [AV.ro 1 3 3 fun (i j : Nat) => ([[AV.flt .f64 ua0],[AV.flt .f64 ub1],[AV.flt .f64 (farith BinOp.quo .f64 ua0 ub1)]].getD i []).getD j AV.dead])) then ck (sFma.ok [AV.flt .f64 (Option.map (Op.negFloat .f64) (farith BinOp.quo .f64 ua0 ub1)),AV.flt .f64 ub1,AV.flt .f64 ua0]) <| ck (okM [RS.one (LK.i .i64)] (wn [AV.flt .f64 ((Option.map (Op.negFloat .f64) (farith BinOp.quo .f64 ua0 ub1)).bind fun (x : Nat) => ub1.bind fun (y : Nat) => ua0.bind fun (z : Nat) => FloatKind.f64.format.fma x y z)])) <| ck (okM [RS.one (LK.i .i64)] (wn [AV.flt .f64 ub1])) <| ck (okM [RS.one (LK.f .f64)] (wa [AV.flt .f64 (farith BinOp.quo .f64 ua0 ub1),AV.int .i64 (IntKind.i64.wrap (toI (getV (wn [AV.flt .f64 ((Option.map (Op.negFloat .f64) (farith BinOp.quo .f64 ua0 ub1)).bind fun (x : Nat) => ub1.bind fun (y : Nat) => ua0.bind fun (z : Nat) => FloatKind.f64.format.fma x y z)])) * toI (getV (wn [AV.flt .f64 ub1])))),AV.int .i8 (toI (getV (ws [AV.int .i8 um2])))])) <| some (AV.flt .f64 (toF (getV (wa [AV.flt .f64 (farith BinOp.quo .f64 ua0 ub1),AV.int .i64 (IntKind.i64.wrap (toI (getV (wn [AV.flt .f64 ((Option.map (Op.negFloat .f64) (farith BinOp.quo .f64 ua0 ub1)).bind fun (x : Nat) => ub1.bind fun (y : Nat) => ua0.bind fun (z : Nat) => FloatKind.f64.format.fma x y z)])) * toI (getV (wn [AV.flt .f64 ub1])))),AV.int .i8 (toI (getV (ws [AV.int .i8 um2])))]))))
  else ck (okM [RS.one LK.b] (qw [AV.flt .f64 (farith BinOp.quo .f64 ua0 ub1),AV.int .i64 0])) <| bif toB (getV (qw [AV.flt .f64 (farith BinOp.quo .f64 ua0 ub1),AV.int .i64 0])) then ck (okM [RS.one (LK.f .f64)] (wa [AV.flt .f64 (farith BinOp.quo .f64 ua0 ub1),AV.int .i64 0,AV.int .i8 (toI (getV (ws [AV.int .i8 um2])))])) <| some (AV.flt .f64 (toF (getV (wa [AV.flt .f64 (farith BinOp.quo .f64 ua0 ub1),AV.int .i64 0,AV.int .i8 (toI (getV (ws [AV.int .i8 um2])))]))))
  else let r0 : Option AV := zg [AV.flt .f64 ua0]; ck (okM [RS.agg [LK.b,LK.l 1,LK.i .i64]] r0) <| let r1 : Option AV := zg [AV.flt .f64 (farith BinOp.quo .f64 ua0 ub1)]; ck (okM [RS.agg [LK.b,LK.l 1,LK.i .i64]] r1) <| let r2 : Option AV := zg [AV.flt .f64 ub1]; ck (okM [RS.agg [LK.b,LK.l 1,LK.i .i64]] r2) <| let r3 : Option AV := wv [AV.agg [AV.bool (toB ((toC (getV r1)).headD .dead)),AV.ro 1 (toN ((toC (getV r1)).tail.headD .dead)) (toR ((toC (getV r1)).tail.headD .dead)) (toG ((toC (getV r1)).tail.headD .dead)),AV.int .i64 (toI ((toC (getV r1)).tail.tail.headD .dead))],AV.agg [AV.bool (toB ((toC (getV r2)).headD .dead)),AV.ro 1 (toN ((toC (getV r2)).tail.headD .dead)) (toR ((toC (getV r2)).tail.headD .dead)) (toG ((toC (getV r2)).tail.headD .dead)),AV.int .i64 (toI ((toC (getV r2)).tail.tail.headD .dead))]]; ck (okM [RS.agg [LK.b,LK.l 1,LK.i .i64]] r3) <| ck (okM [RS.one (LK.i .i64)] (w4 [AV.agg [AV.bool (toB ((toC (getV r0)).headD .dead)),AV.ro 1 (toN ((toC (getV r0)).tail.headD .dead)) (toR ((toC (getV r0)).tail.headD .dead)) (toG ((toC (getV r0)).tail.headD .dead)),AV.int .i64 (toI ((toC (getV r0)).tail.tail.headD .dead))],AV.agg [AV.bool (toB ((toC (getV r3)).headD .dead)),AV.ro 1 (toN ((toC (getV r3)).tail.headD .dead)) (toR ((toC (getV r3)).tail.headD .dead)) (toG ((toC (getV r3)).tail.headD .dead)),AV.int .i64 (toI ((toC (getV r3)).tail.tail.headD .dead))]])) <| ck (okM [RS.one (LK.i .i64)] (wn [AV.flt .f64 ub1])) <| ck (okM [RS.one (LK.f .f64)] (wa [AV.flt .f64 (farith BinOp.quo .f64 ua0 ub1),AV.int .i64 (IntKind.i64.wrap (toI (getV (w4 [AV.agg [AV.bool (toB ((toC (getV r0)).headD .dead)),AV.ro 1 (toN ((toC (getV r0)).tail.headD .dead)) (toR ((toC (getV r0)).tail.headD .dead)) (toG ((toC (getV r0)).tail.headD .dead)),AV.int .i64 (toI ((toC (getV r0)).tail.tail.headD .dead))],AV.agg [AV.bool (toB ((toC (getV r3)).headD .dead)),AV.ro 1 (toN ((toC (getV r3)).tail.headD .dead)) (toR ((toC (getV r3)).tail.headD .dead)) (toG ((toC (getV r3)).tail.headD .dead)),AV.int .i64 (toI ((toC (getV r3)).tail.tail.headD .dead))]])) * toI (getV (wn [AV.flt .f64 ub1])))),AV.int .i8 (toI (getV (ws [AV.int .i8 um2])))])) <| some (AV.flt .f64 (toF (getV (wa [AV.flt .f64 (farith BinOp.quo .f64 ua0 ub1),AV.int .i64 (IntKind.i64.wrap (toI (getV (w4 [AV.agg [AV.bool (toB ((toC (getV r0)).headD .dead)),AV.ro 1 (toN ((toC (getV r0)).tail.headD .dead)) (toR ((toC (getV r0)).tail.headD .dead)) (toG ((toC (getV r0)).tail.headD .dead)),AV.int .i64 (toI ((toC (getV r0)).tail.tail.headD .dead))],AV.agg [AV.bool (toB ((toC (getV r3)).headD .dead)),AV.ro 1 (toN ((toC (getV r3)).tail.headD .dead)) (toR ((toC (getV r3)).tail.headD .dead)) (toG ((toC (getV r3)).tail.headD .dead)),AV.int .i64 (toI ((toC (getV r3)).tail.tail.headD .dead))]])) * toI (getV (wn [AV.flt .f64 ub1])))),AV.int .i8 (toI (getV (ws [AV.int .i8 um2])))]))))
noncomputable def mround_Div (ws wk : Mo) (wp wn : Mo) (wa qw : Mo) (zg wv w4 : Mo) (fuel : Nat) (xs : List AV) : Option AV := match xs with
  | [AV.flt .f64 ua0,AV.flt .f64 ub1,AV.int .i8 um2] => ground_Div ws wk wp wn wa qw zg wv w4 fuel ua0 ub1 um2
  | _ => none
abbrev Rround_Div : List RS := [RS.one (LK.f .f64)]
theorem ground_Div_sm (ws wk : Mo) (wp wn : Mo) (wa qw : Mo) (zg wv w4 : Mo) (fuel : Nat) (hΓ : GamOk Pr (Ground_Div ws wk wp wn wa qw zg wv w4)) (hP : NamesOk Pr) : SmOk Pr 106 (smM Rround_Div (mround_Div ws wk wp wn wa qw zg wv w4 fuel)) := sm0 (fuel := fuel) (d := 7) hΓ hP fun xs v h => by
  unfold mround_Div at h
  split at h
  · exact Eq.trans (by kernel_rfl) h
  · cases h
noncomputable def Gspan_Div_c1 (pd : Mo) : Gam := [(106,smM [RS.one (LK.f .f64)] pd)]
noncomputable def gspan_Div_c1 (pd : Mo) (fuel : Nat) (ux0 uy1 : Option Nat) (um2 : Int) : Option AV :=
  ck (okM [RS.one (LK.f .f64)] (pd [AV.flt .f64 ux0,AV.flt .f64 uy1,AV.int .i8 um2])) <| bif ford .f64 (toF (getV (pd [AV.flt .f64 ux0,AV.flt .f64 uy1,AV.int .i8 um2]))) (toF (getV (pd [AV.flt .f64 ux0,AV.flt .f64 uy1,AV.int .i8 um2]))) == some Ordering.eq then some (AV.flt .f64 (toF (getV (pd [AV.flt .f64 ux0,AV.flt .f64 uy1,AV.int .i8 um2]))))
  else some (AV.flt .f64 (some 0))
noncomputable def mspan_Div_c1 (pd : Mo) (fuel : Nat) (xs : List AV) : Option AV := match xs with
  | [AV.flt .f64 ux0,AV.flt .f64 uy1,AV.int .i8 um2] => gspan_Div_c1 pd fuel ux0 uy1 um2
  | _ => none
abbrev Rspan_Div_c1 : List RS := [RS.one (LK.f .f64)]
theorem gspan_Div_c1_sm (pd : Mo) (fuel : Nat) (hΓ : GamOk Pr (Gspan_Div_c1 pd)) (hP : NamesOk Pr) : SmOk Pr 105 (smM Rspan_Div_c1 (mspan_Div_c1 pd fuel)) := sm0 (fuel := fuel) (d := 7) hΓ hP fun xs v h => by
  unfold mspan_Div_c1 at h
  split at h
  · exact Eq.trans (by kernel_rfl) h
  · cases h
noncomputable def Gspan_corners_a (w2 wx : Mo) (q1 q0 : Mo) : Gam := [(136,smM [RS.one (LK.f .f64)] w2),(137,smM [RS.one (LK.f .f64)] wx),(107,smM [RS.one (LK.f .f64)] q1),(105,smM [RS.one (LK.f .f64)] q0)]
noncomputable def gspan_corners_a (w2 wx : Mo) (q1 q0 : Mo) (fuel : Nat) (vp yf : Option Nat) (vu yb : Option Nat) : Option AV :=
  ck (okM [RS.one (LK.f .f64)] (q1 [AV.flt .f64 vp,AV.flt .f64 vu,AV.int .i8 1])) <| ck (okM [RS.one (LK.f .f64)] (q1 [AV.flt .f64 vp,AV.flt .f64 vu,AV.int .i8 2])) <| ck (okM [RS.one (LK.f .f64)] (q1 [AV.flt .f64 vp,AV.flt .f64 yb,AV.int .i8 1])) <| ck (okM [RS.one (LK.f .f64)] (w2 [AV.flt .f64 (toF (getV (q1 [AV.flt .f64 vp,AV.flt .f64 vu,AV.int .i8 1]))),AV.flt .f64 (toF (getV (q1 [AV.flt .f64 vp,AV.flt .f64 yb,AV.int .i8 1])))])) <| ck (okM [RS.one (LK.f .f64)] (q1 [AV.flt .f64 vp,AV.flt .f64 yb,AV.int .i8 2])) <| ck (okM [RS.one (LK.f .f64)] (wx [AV.flt .f64 (toF (getV (q1 [AV.flt .f64 vp,AV.flt .f64 vu,AV.int .i8 2]))),AV.flt .f64 (toF (getV (q1 [AV.flt .f64 vp,AV.flt .f64 yb,AV.int .i8 2])))])) <| ck (okM [RS.one (LK.f .f64)] (q1 [AV.flt .f64 yf,AV.flt .f64 vu,AV.int .i8 1])) <| ck (okM [RS.one (LK.f .f64)] (w2 [AV.flt .f64 (toF (getV (w2 [AV.flt .f64 (toF (getV (q1 [AV.flt .f64 vp,AV.flt .f64 vu,AV.int .i8 1]))),AV.flt .f64 (toF (getV (q1 [AV.flt .f64 vp,AV.flt .f64 yb,AV.int .i8 1])))]))),AV.flt .f64 (toF (getV (q1 [AV.flt .f64 yf,AV.flt .f64 vu,AV.int .i8 1])))])) <| ck (okM [RS.one (LK.f .f64)] (q1 [AV.flt .f64 yf,AV.flt .f64 vu,AV.int .i8 2])) <| ck (okM [RS.one (LK.f .f64)] (wx [AV.flt .f64 (toF (getV (wx [AV.flt .f64 (toF (getV (q1 [AV.flt .f64 vp,AV.flt .f64 vu,AV.int .i8 2]))),AV.flt .f64 (toF (getV (q1 [AV.flt .f64 vp,AV.flt .f64 yb,AV.int .i8 2])))]))),AV.flt .f64 (toF (getV (q1 [AV.flt .f64 yf,AV.flt .f64 vu,AV.int .i8 2])))])) <| ck (okM [RS.one (LK.f .f64)] (q1 [AV.flt .f64 yf,AV.flt .f64 yb,AV.int .i8 1])) <| ck (okM [RS.one (LK.f .f64)] (w2 [AV.flt .f64 (toF (getV (w2 [AV.flt .f64 (toF (getV (w2 [AV.flt .f64 (toF (getV (q1 [AV.flt .f64 vp,AV.flt .f64 vu,AV.int .i8 1]))),AV.flt .f64 (toF (getV (q1 [AV.flt .f64 vp,AV.flt .f64 yb,AV.int .i8 1])))]))),AV.flt .f64 (toF (getV (q1 [AV.flt .f64 yf,AV.flt .f64 vu,AV.int .i8 1])))]))),AV.flt .f64 (toF (getV (q1 [AV.flt .f64 yf,AV.flt .f64 yb,AV.int .i8 1])))])) <| ck (okM [RS.one (LK.f .f64)] (q1 [AV.flt .f64 yf,AV.flt .f64 yb,AV.int .i8 2])) <| ck (okM [RS.one (LK.f .f64)] (wx [AV.flt .f64 (toF (getV (wx [AV.flt .f64 (toF (getV (wx [AV.flt .f64 (toF (getV (q1 [AV.flt .f64 vp,AV.flt .f64 vu,AV.int .i8 2]))),AV.flt .f64 (toF (getV (q1 [AV.flt .f64 vp,AV.flt .f64 yb,AV.int .i8 2])))]))),AV.flt .f64 (toF (getV (q1 [AV.flt .f64 yf,AV.flt .f64 vu,AV.int .i8 2])))]))),AV.flt .f64 (toF (getV (q1 [AV.flt .f64 yf,AV.flt .f64 yb,AV.int .i8 2])))])) <| some (AV.tup [AV.agg [AV.flt .f64 (toF (getV (w2 [AV.flt .f64 (toF (getV (w2 [AV.flt .f64 (toF (getV (w2 [AV.flt .f64 (toF (getV (q1 [AV.flt .f64 vp,AV.flt .f64 vu,AV.int .i8 1]))),AV.flt .f64 (toF (getV (q1 [AV.flt .f64 vp,AV.flt .f64 yb,AV.int .i8 1])))]))),AV.flt .f64 (toF (getV (q1 [AV.flt .f64 yf,AV.flt .f64 vu,AV.int .i8 1])))]))),AV.flt .f64 (toF (getV (q1 [AV.flt .f64 yf,AV.flt .f64 yb,AV.int .i8 1])))]))),AV.flt .f64 (toF (getV (wx [AV.flt .f64 (toF (getV (wx [AV.flt .f64 (toF (getV (wx [AV.flt .f64 (toF (getV (q1 [AV.flt .f64 vp,AV.flt .f64 vu,AV.int .i8 2]))),AV.flt .f64 (toF (getV (q1 [AV.flt .f64 vp,AV.flt .f64 yb,AV.int .i8 2])))]))),AV.flt .f64 (toF (getV (q1 [AV.flt .f64 yf,AV.flt .f64 vu,AV.int .i8 2])))]))),AV.flt .f64 (toF (getV (q1 [AV.flt .f64 yf,AV.flt .f64 yb,AV.int .i8 2])))])))]])
theorem gspan_corners_a_run (w2 wx : Mo) (q1 q0 : Mo) (fuel : Nat) (vp yf : Option Nat) (vu yb : Option Nat) : runX Pr (Gspan_corners_a w2 wx q1 q0) [] (fuel + 8) 7 104 Xspan_corners_a [AV.agg [AV.flt .f64 vp,AV.flt .f64 yf],AV.agg [AV.flt .f64 vu,AV.flt .f64 yb],AV.fn (Fn.func 107) [] []] [] = gspan_corners_a w2 wx q1 q0 fuel vp yf vu yb := by kernel_rfl
noncomputable def mspan_corners_a (w2 wx : Mo) (q1 q0 : Mo) (fuel : Nat) (xs : List AV) : Option AV := match xs with
  | [AV.agg [AV.flt .f64 vp,AV.flt .f64 yf],AV.agg [AV.flt .f64 vu,AV.flt .f64 yb],AV.fn (Fn.func 107) [] []] => gspan_corners_a w2 wx q1 q0 fuel vp yf vu yb
  | _ => none
theorem gspan_corners_a_sm (w2 wx : Mo) (q1 q0 : Mo) (fuel : Nat) (hΓ : GamOk Pr (Gspan_corners_a w2 wx q1 q0)) (hP : NamesOk Pr) : XOk Pr 104 (smX Rspan_corners_a Xspan_corners_a (mspan_corners_a w2 wx q1 q0 fuel)) Xspan_corners_a := by
  refine smX_ok (fuel := (fuel + 8)) hΓ hP (LamOk.nil _ _ _) 7 104 Rspan_corners_a Xspan_corners_a _ (fun xs0 ys0 v ha hb h => ?_)
  · skip
    have ha0 : xs0.length = 3 := ha
    clear ha
    obtain ⟨a0,xs1,rfl,ha1⟩ := len_cons ha0
    clear ha0
    obtain ⟨a1,xs2,rfl,ha2⟩ := len_cons ha1
    clear ha1
    obtain ⟨a2,xs3,rfl,ha3⟩ := len_cons ha2
    clear ha2
    obtain rfl := List.eq_nil_of_length_eq_zero ha3
    have hy0 : ys0.map List.length = [] := hb
    clear hb
    obtain rfl := map_nil' hy0
    have h : mspan_corners_a w2 wx q1 q0 fuel [a0,a1,a2] = some v := h
    generalize hx0 : [a0,a1,a2] = zs at h
    unfold mspan_corners_a at h
    split at h
    · skip
      obtain ⟨rfl,hx1⟩ := List.cons.inj hx0
      obtain ⟨rfl,hx2⟩ := List.cons.inj hx1
      obtain ⟨rfl,hx3⟩ := List.cons.inj hx2
      simp only [List.map_cons,List.map_nil]
      exact (gspan_corners_a_run w2 wx q1 q0 fuel _ _ _ _).trans h
    · cases h
noncomputable def Gspan_corners_b (w2 wx : Mo) (q1 q0 : Mo) : Gam := [(136,smM [RS.one (LK.f .f64)] w2),(137,smM [RS.one (LK.f .f64)] wx),(107,smM [RS.one (LK.f .f64)] q1),(105,smM [RS.one (LK.f .f64)] q0)]
noncomputable def gspan_corners_b (w2 wx : Mo) (q1 q0 : Mo) (fuel : Nat) (vp yf : Option Nat) (vu yb : Option Nat) : Option AV :=
  ck (okM [RS.one (LK.f .f64)] (q0 [AV.flt .f64 vp,AV.flt .f64 vu,AV.int .i8 1])) <| ck (okM [RS.one (LK.f .f64)] (q0 [AV.flt .f64 vp,AV.flt .f64 vu,AV.int .i8 2])) <| ck (okM [RS.one (LK.f .f64)] (q0 [AV.flt .f64 vp,AV.flt .f64 yb,AV.int .i8 1])) <| ck (okM [RS.one (LK.f .f64)] (w2 [AV.flt .f64 (toF (getV (q0 [AV.flt .f64 vp,AV.flt .f64 vu,AV.int .i8 1]))),AV.flt .f64 (toF (getV (q0 [AV.flt .f64 vp,AV.flt .f64 yb,AV.int .i8 1])))])) <| ck (okM [RS.one (LK.f .f64)] (q0 [AV.flt .f64 vp,AV.flt .f64 yb,AV.int .i8 2])) <| ck (okM [RS.one (LK.f .f64)] (wx [AV.flt .f64 (toF (getV (q0 [AV.flt .f64 vp,AV.flt .f64 vu,AV.int .i8 2]))),AV.flt .f64 (toF (getV (q0 [AV.flt .f64 vp,AV.flt .f64 yb,AV.int .i8 2])))])) <| ck (okM [RS.one (LK.f .f64)] (q0 [AV.flt .f64 yf,AV.flt .f64 vu,AV.int .i8 1])) <| ck (okM [RS.one (LK.f .f64)] (w2 [AV.flt .f64 (toF (getV (w2 [AV.flt .f64 (toF (getV (q0 [AV.flt .f64 vp,AV.flt .f64 vu,AV.int .i8 1]))),AV.flt .f64 (toF (getV (q0 [AV.flt .f64 vp,AV.flt .f64 yb,AV.int .i8 1])))]))),AV.flt .f64 (toF (getV (q0 [AV.flt .f64 yf,AV.flt .f64 vu,AV.int .i8 1])))])) <| ck (okM [RS.one (LK.f .f64)] (q0 [AV.flt .f64 yf,AV.flt .f64 vu,AV.int .i8 2])) <| ck (okM [RS.one (LK.f .f64)] (wx [AV.flt .f64 (toF (getV (wx [AV.flt .f64 (toF (getV (q0 [AV.flt .f64 vp,AV.flt .f64 vu,AV.int .i8 2]))),AV.flt .f64 (toF (getV (q0 [AV.flt .f64 vp,AV.flt .f64 yb,AV.int .i8 2])))]))),AV.flt .f64 (toF (getV (q0 [AV.flt .f64 yf,AV.flt .f64 vu,AV.int .i8 2])))])) <| ck (okM [RS.one (LK.f .f64)] (q0 [AV.flt .f64 yf,AV.flt .f64 yb,AV.int .i8 1])) <| ck (okM [RS.one (LK.f .f64)] (w2 [AV.flt .f64 (toF (getV (w2 [AV.flt .f64 (toF (getV (w2 [AV.flt .f64 (toF (getV (q0 [AV.flt .f64 vp,AV.flt .f64 vu,AV.int .i8 1]))),AV.flt .f64 (toF (getV (q0 [AV.flt .f64 vp,AV.flt .f64 yb,AV.int .i8 1])))]))),AV.flt .f64 (toF (getV (q0 [AV.flt .f64 yf,AV.flt .f64 vu,AV.int .i8 1])))]))),AV.flt .f64 (toF (getV (q0 [AV.flt .f64 yf,AV.flt .f64 yb,AV.int .i8 1])))])) <| ck (okM [RS.one (LK.f .f64)] (q0 [AV.flt .f64 yf,AV.flt .f64 yb,AV.int .i8 2])) <| ck (okM [RS.one (LK.f .f64)] (wx [AV.flt .f64 (toF (getV (wx [AV.flt .f64 (toF (getV (wx [AV.flt .f64 (toF (getV (q0 [AV.flt .f64 vp,AV.flt .f64 vu,AV.int .i8 2]))),AV.flt .f64 (toF (getV (q0 [AV.flt .f64 vp,AV.flt .f64 yb,AV.int .i8 2])))]))),AV.flt .f64 (toF (getV (q0 [AV.flt .f64 yf,AV.flt .f64 vu,AV.int .i8 2])))]))),AV.flt .f64 (toF (getV (q0 [AV.flt .f64 yf,AV.flt .f64 yb,AV.int .i8 2])))])) <| some (AV.tup [AV.agg [AV.flt .f64 (toF (getV (w2 [AV.flt .f64 (toF (getV (w2 [AV.flt .f64 (toF (getV (w2 [AV.flt .f64 (toF (getV (q0 [AV.flt .f64 vp,AV.flt .f64 vu,AV.int .i8 1]))),AV.flt .f64 (toF (getV (q0 [AV.flt .f64 vp,AV.flt .f64 yb,AV.int .i8 1])))]))),AV.flt .f64 (toF (getV (q0 [AV.flt .f64 yf,AV.flt .f64 vu,AV.int .i8 1])))]))),AV.flt .f64 (toF (getV (q0 [AV.flt .f64 yf,AV.flt .f64 yb,AV.int .i8 1])))]))),AV.flt .f64 (toF (getV (wx [AV.flt .f64 (toF (getV (wx [AV.flt .f64 (toF (getV (wx [AV.flt .f64 (toF (getV (q0 [AV.flt .f64 vp,AV.flt .f64 vu,AV.int .i8 2]))),AV.flt .f64 (toF (getV (q0 [AV.flt .f64 vp,AV.flt .f64 yb,AV.int .i8 2])))]))),AV.flt .f64 (toF (getV (q0 [AV.flt .f64 yf,AV.flt .f64 vu,AV.int .i8 2])))]))),AV.flt .f64 (toF (getV (q0 [AV.flt .f64 yf,AV.flt .f64 yb,AV.int .i8 2])))])))]])
theorem gspan_corners_b_run (w2 wx : Mo) (q1 q0 : Mo) (fuel : Nat) (vp yf : Option Nat) (vu yb : Option Nat) : runX Pr (Gspan_corners_b w2 wx q1 q0) [] (fuel + 8) 7 104 Xspan_corners_b [AV.agg [AV.flt .f64 vp,AV.flt .f64 yf],AV.agg [AV.flt .f64 vu,AV.flt .f64 yb],AV.fn (Fn.func 105) [] []] [] = gspan_corners_b w2 wx q1 q0 fuel vp yf vu yb := by kernel_rfl
noncomputable def mspan_corners_b (w2 wx : Mo) (q1 q0 : Mo) (fuel : Nat) (xs : List AV) : Option AV := match xs with
  | [AV.agg [AV.flt .f64 vp,AV.flt .f64 yf],AV.agg [AV.flt .f64 vu,AV.flt .f64 yb],AV.fn (Fn.func 105) [] []] => gspan_corners_b w2 wx q1 q0 fuel vp yf vu yb
  | _ => none
theorem gspan_corners_b_sm (w2 wx : Mo) (q1 q0 : Mo) (fuel : Nat) (hΓ : GamOk Pr (Gspan_corners_b w2 wx q1 q0)) (hP : NamesOk Pr) : XOk Pr 104 (smX Rspan_corners_b Xspan_corners_b (mspan_corners_b w2 wx q1 q0 fuel)) Xspan_corners_b := by
  refine smX_ok (fuel := (fuel + 8)) hΓ hP (LamOk.nil _ _ _) 7 104 Rspan_corners_b Xspan_corners_b _ (fun xs0 ys0 v ha hb h => ?_)
  · skip
    have ha0 : xs0.length = 3 := ha
    clear ha
    obtain ⟨a0,xs1,rfl,ha1⟩ := len_cons ha0
    clear ha0
    obtain ⟨a1,xs2,rfl,ha2⟩ := len_cons ha1
    clear ha1
    obtain ⟨a2,xs3,rfl,ha3⟩ := len_cons ha2
    clear ha2
    obtain rfl := List.eq_nil_of_length_eq_zero ha3
    have hy0 : ys0.map List.length = [] := hb
    clear hb
    obtain rfl := map_nil' hy0
    have h : mspan_corners_b w2 wx q1 q0 fuel [a0,a1,a2] = some v := h
    generalize hx0 : [a0,a1,a2] = zs at h
    unfold mspan_corners_b at h
    split at h
    · skip
      obtain ⟨rfl,hx1⟩ := List.cons.inj hx0
      obtain ⟨rfl,hx2⟩ := List.cons.inj hx1
      obtain ⟨rfl,hx3⟩ := List.cons.inj hx2
      simp only [List.map_cons,List.map_nil]
      exact (gspan_corners_b_run w2 wx q1 q0 fuel _ _ _ _).trans h
    · cases h
noncomputable def Gspan_Mul (z6 q1 : Mo) (w8 w9 : Mo) : Gam := [(103,smM [RS.one LK.b] z6),(107,smM [RS.one (LK.f .f64)] q1),(104,smX Rspan_corners_a Xspan_corners_a w8),(104,smX Rspan_corners_b Xspan_corners_b w9)]
noncomputable def gspan_Mul (z6 q1 : Mo) (w8 w9 : Mo) (fuel : Nat) (vp yf : Option Nat) (vu yb : Option Nat) : Option AV :=
  ck (okM [RS.one LK.b] (z6 [AV.ro 2 2 2 fun (i j : Nat) => ([[AV.flt .f64 vp,AV.flt .f64 yf],[AV.flt .f64 vu,AV.flt .f64 yb]].getD i []).getD j AV.dead])) <| bif !toB (getV (z6 [AV.ro 2 2 2 fun (i j : Nat) => ([[AV.flt .f64 vp,AV.flt .f64 yf],[AV.flt .f64 vu,AV.flt .f64 yb]].getD i []).getD j AV.dead])) then some (AV.tup [AV.agg [AV.flt .f64 (some 0),AV.flt .f64 (some 0)],AV.int .i64 2])
  else let r0 : Option AV := w8 [AV.agg [AV.flt .f64 vp,AV.flt .f64 yf],AV.agg [AV.flt .f64 vu,AV.flt .f64 yb],AV.fn (Fn.func 107) [] []]; ck (okX [RS.agg [LK.f .f64,LK.f .f64]] r0) <| some (AV.tup [AV.agg [AV.flt .f64 (toF ((toC ((toT (getV r0)).headD .dead)).headD .dead)),AV.flt .f64 (toF ((toC ((toT (getV r0)).headD .dead)).tail.headD .dead))],AV.int .i64 0])
noncomputable def mspan_Mul (z6 q1 : Mo) (w8 w9 : Mo) (fuel : Nat) (xs : List AV) : Option AV := match xs with
  | [AV.agg [AV.flt .f64 vp,AV.flt .f64 yf],AV.agg [AV.flt .f64 vu,AV.flt .f64 yb]] => gspan_Mul z6 q1 w8 w9 fuel vp yf vu yb
  | _ => none
abbrev Rspan_Mul : List RS := [RS.agg [LK.f .f64,LK.f .f64],RS.one (LK.i .i64)]
theorem gspan_Mul_sm (z6 q1 : Mo) (w8 w9 : Mo) (fuel : Nat) (hΓ : GamOk Pr (Gspan_Mul z6 q1 w8 w9)) (hP : NamesOk Pr) : SmOk Pr 69 (smM Rspan_Mul (mspan_Mul z6 q1 w8 w9 fuel)) := sm0 (fuel := fuel) (d := 7) hΓ hP fun xs v h => by
  unfold mspan_Mul at h
  split at h
  · exact Eq.trans (by kernel_rfl) h
  · cases h
noncomputable def Sbars_times_0 (qi1 qjj : Nat) (qhu : Ge) (u11 u12 : Int) (zi qi3 : Option Nat) (z2 qdk : Option Nat) : St := { env := [(2,AV.ptr 0 0),(3,AV.ptr 1 0),(10,AV.ro 2 qi1 qjj qhu),(11,AV.int .i64 u11),(12,AV.int .i64 u12)],h := [Blk.box [AV.flt .f64 zi,AV.flt .f64 qi3],Blk.box [AV.flt .f64 z2,AV.flt .f64 qdk]],kd := [] }
noncomputable def Xbars_times_0_0 (yy qj2 : Option Nat) (pc qk0 : Option Nat) : St := { env := [(2,AV.ptr 0 0),(3,AV.ptr 1 0)],h := [Blk.box [AV.flt .f64 yy,AV.flt .f64 qj2],Blk.box [AV.flt .f64 pc,AV.flt .f64 qk0]],kd := [] }
noncomputable def gbars_times_l0_step (z8 : Mo) (fuel : Nat) (kn : Int → Option Nat → Option Nat → Option AV) (kx0 : Option Nat → Option Nat → Option Nat → Option Nat → Option AV) (qi1 qjj : Nat) (qhu : Ge) (u11 : Int) (zi qi3 : Option Nat) (u12 : Int) (z2 qdk : Option Nat) : Option AV :=
  bif decide (u12 < u11) then ck (decide (0 ≤ u12)) <| ck (decide (u12 < (↑qi1 : Int))) <| ck (fitKs [LK.f .f64,LK.f .f64] [qhu u12.toNat 0,qhu u12.toNat 1]) <| let r0 : Option AV := z8 [AV.agg [AV.flt .f64 z2,AV.flt .f64 qdk],AV.agg [AV.flt .f64 (toF (qhu u12.toNat 0)),AV.flt .f64 (toF (qhu u12.toNat 1))]]; ck (okM [RS.agg [LK.f .f64,LK.f .f64],RS.one (LK.i .i64)] r0) <| kn (IntKind.i64.wrap (u12 + 1)) (toF ((toC ((toT (getV r0)).headD .dead)).headD .dead)) (toF ((toC ((toT (getV r0)).headD .dead)).tail.headD .dead))
  else kx0 zi qi3 z2 qdk
noncomputable def gbars_times_l0 (z8 : Mo) (fuel : Nat) (kx0 : Option Nat → Option Nat → Option Nat → Option Nat → Option AV) (qi1 qjj : Nat) (qhu : Ge) (u11 : Int) (zi qi3 : Option Nat) : Nat → Int → Option Nat → Option Nat → Option AV
  | 0,_,_,_ => none
  | n' + 1,u12,z2,qdk => gbars_times_l0_step z8 fuel (gbars_times_l0 z8 fuel kx0 qi1 qjj qhu u11 zi qi3 n') kx0 qi1 qjj qhu u11 zi qi3 u12 z2 qdk
noncomputable def Tbars_times_0 : TS' := ⟨[(2,TA.ptr 0 0),(3,TA.ptr 1 0),(10,TA.ro 2),(11,TA.i .i64),(12,TA.i .i64)],[TB.box [TA.f .f64,TA.f .f64],TB.box [TA.f .f64,TA.f .f64]],[]⟩
noncomputable def Fbars_times_0 (z8 : Mo) (fuel : Nat) (ps : List Pay) (K : Ex → St → Option AV) : Option AV := match ps with
  | .n qi1 :: .n qjj :: .g qhu :: .i u11 :: .i u12 :: .o zi :: .o qi3 :: .o z2 :: .o qdk :: [] => gbars_times_l0 z8 fuel (fun yy qj2 pc qk0 => K (Ex.exit 0) (Xbars_times_0_0 yy qj2 pc qk0)) qi1 qjj qhu u11 zi qi3 fuel u12 z2 qdk
  | _ => none
noncomputable def Lbars_times (z8 : Mo) (fuel : Nat) : Lam AV := [(8384544,lam Tbars_times_0 (Fbars_times_0 z8 fuel))]
noncomputable def Gbars_times (z8 : Mo) : Gam := [(69,smM [RS.agg [LK.f .f64,LK.f .f64],RS.one (LK.i .i64)] z8)]
theorem gbars_times_l0_eq (z8 : Mo) (fuel : Nat) (kn : St → Option AV) (K : Ex → St → Option AV) (qi1 qjj : Nat) (qhu : Ge) (u11 : Int) (zi qi3 : Option Nat) (qju : Int) (qd6 qpq : Option Nat) (u12 : Int) (z2 qdk : Option Nat) :
    bX Pr (Gbars_times z8) (Lbars_times z8 fuel) 6 39 0 fuel (Sbars_times_0 qi1 qjj qhu u11 u12 zi qi3 z2 qdk) (fun e s => match e with | .normal => kn (hX Pr 39 0 (Sbars_times_0 qi1 qjj qhu u11 qju zi qi3 qd6 qpq) s) | e => K e s) =
    gbars_times_l0_step z8 fuel (fun u12 z2 qdk => kn (Sbars_times_0 qi1 qjj qhu u11 u12 zi qi3 z2 qdk)) (fun yg xh0_1 p2 qgw => K (Ex.exit 0) (Xbars_times_0_0 yg xh0_1 p2 qgw)) qi1 qjj qhu u11 zi qi3 u12 z2 qdk := by kernel_rfl
theorem gbars_times_l0_ok (z8 : Mo) (fuel : Nat) (K : Ex → St → Option AV) (qi1 qjj : Nat) (qhu : Ge) (u11 : Int) (zi qi3 : Option Nat) (qju : Int) (qd6 qpq : Option Nat) : ∀ (n' : Nat) (u12 : Int) (z2 qdk : Option Nat),
    loopK (bX Pr (Gbars_times z8) (Lbars_times z8 fuel) 6 39 0 fuel) (hX Pr 39 0 (Sbars_times_0 qi1 qjj qhu u11 qju zi qi3 qd6 qpq)) n' (Sbars_times_0 qi1 qjj qhu u11 u12 zi qi3 z2 qdk) K = gbars_times_l0 z8 fuel (fun yg xh0_1 p2 qgw => K (Ex.exit 0) (Xbars_times_0_0 yg xh0_1 p2 qgw)) qi1 qjj qhu u11 zi qi3 n' u12 z2 qdk
  | 0,_,_,_ => rfl
  | n' + 1,u12,z2,qdk => (gbars_times_l0_eq z8 fuel (fun s => loopK (bX Pr (Gbars_times z8) (Lbars_times z8 fuel) 6 39 0 fuel) (hX Pr 39 0 (Sbars_times_0 qi1 qjj qhu u11 qju zi qi3 qd6 qpq)) n' s K) K qi1 qjj qhu u11 zi qi3 qju qd6 qpq u12 z2 qdk).trans
    (congrArg (fun kn => gbars_times_l0_step z8 fuel kn _ qi1 qjj qhu u11 zi qi3 u12 z2 qdk) (funext fun u12 => funext fun z2 => funext fun qdk => gbars_times_l0_ok z8 fuel K qi1 qjj qhu u11 zi qi3 qju qd6 qpq n' u12 z2 qdk))
theorem gbars_times_L0 (z8 : Mo) (fuel : Nat) : LX Pr (Gbars_times z8) (Lbars_times z8 fuel) 6 39 0 fuel := by
  refine .of Tbars_times_0 (Fbars_times_0 z8 fuel) (fun L h => ?_) (fun ps st K r he hr => ?_)
  · have e : (Lbars_times z8 fuel).get (writes (lp Pr 39 0).1) = some (lam Tbars_times_0 (Fbars_times_0 z8 fuel)) := by kernel_rfl
    exact (Option.some.inj (e.symm.trans h)).symm
  · unfold Fbars_times_0 at hr
    split at hr
    · obtain rfl := (Option.some.inj he).symm
      exact (gbars_times_l0_ok z8 fuel K _ _ _ _ _ _ _ _ _ fuel _ _ _).trans hr
    · cases hr
noncomputable def gbars_times (z8 : Mo) (fuel y7 qa6 : Nat) (qan : Ge) : Option AV :=
  ck (decide (0 < (↑y7 : Int))) <| ck (fitKs [LK.f .f64,LK.f .f64] [qan 0 0,qan 0 1]) <| ck (decide (1 ≤ (↑y7 : Int))) <| gbars_times_l0 z8 fuel
    (fun (_ _ : Option Nat) (p2 qgw : Option Nat) => some (AV.agg [AV.flt .f64 p2,AV.flt .f64 qgw]))
    (y7 - 1)
    (qa6 - 1)
    (fun (i : Nat) => qan (1 + i))
    ((↑(y7 - 1) : Int))
    (some 0)
    (some 0) fuel (0) (toF (qan 0 0)) (toF (qan 0 1))
noncomputable def mbars_times (z8 : Mo) (fuel : Nat) (xs : List AV) : Option AV := match xs with
  | [AV.ro 2 y7 qa6 qan] => gbars_times z8 fuel y7 qa6 qan
  | _ => none
abbrev Rbars_times : List RS := [RS.agg [LK.f .f64,LK.f .f64]]
theorem gbars_times_sm (z8 : Mo) (fuel : Nat) (hΓ : GamOk Pr (Gbars_times z8)) (hP : NamesOk Pr) : SmOk Pr 39 (smM Rbars_times (mbars_times z8 fuel)) := smL (L := (Lbars_times z8 fuel)) (n := 1) hΓ hP (by kernel_rfl) (fun i hi => match i,hi with
  | 0,_ => gbars_times_L0 z8 fuel
  | i + 1,hi => absurd hi (by omega)) fun xs v h => by
  unfold mbars_times at h
  split at h
  · exact Eq.trans (by kernel_rfl) h
  · cases h
noncomputable def Gspan_Div (z6 q0 : Mo) (w8 w9 : Mo) : Gam := [(103,smM [RS.one LK.b] z6),(105,smM [RS.one (LK.f .f64)] q0),(104,smX Rspan_corners_a Xspan_corners_a w8),(104,smX Rspan_corners_b Xspan_corners_b w9)]
noncomputable def gspan_Div (z6 q0 : Mo) (w8 w9 : Mo) (fuel : Nat) (vp yf : Option Nat) (vu yb : Option Nat) : Option AV :=
  ck (okM [RS.one LK.b] (z6 [AV.ro 2 2 2 fun (i j : Nat) => ([[AV.flt .f64 vp,AV.flt .f64 yf],[AV.flt .f64 vu,AV.flt .f64 yb]].getD i []).getD j AV.dead])) <| bif !toB (getV (z6 [AV.ro 2 2 2 fun (i j : Nat) => ([[AV.flt .f64 vp,AV.flt .f64 yf],[AV.flt .f64 vu,AV.flt .f64 yb]].getD i []).getD j AV.dead])) then some (AV.tup [AV.agg [AV.flt .f64 (some 0),AV.flt .f64 (some 0)],AV.int .i64 2])
  else ck (bif ford .f64 vu (some 0) == some Ordering.lt || ford .f64 vu (some 0) == some Ordering.eq then true else true) <| bif bif ford .f64 vu (some 0) == some Ordering.lt || ford .f64 vu (some 0) == some Ordering.eq then ford .f64 yb (some 0) == some Ordering.gt || ford .f64 yb (some 0) == some Ordering.eq else false then some (AV.tup [AV.agg [AV.flt .f64 (some 0),AV.flt .f64 (some 0)],AV.int .i64 7])
  else let r0 : Option AV := w9 [AV.agg [AV.flt .f64 vp,AV.flt .f64 yf],AV.agg [AV.flt .f64 vu,AV.flt .f64 yb],AV.fn (Fn.func 105) [] []]; ck (okX [RS.agg [LK.f .f64,LK.f .f64]] r0) <| some (AV.tup [AV.agg [AV.flt .f64 (toF ((toC ((toT (getV r0)).headD .dead)).headD .dead)),AV.flt .f64 (toF ((toC ((toT (getV r0)).headD .dead)).tail.headD .dead))],AV.int .i64 0])
noncomputable def mspan_Div (z6 q0 : Mo) (w8 w9 : Mo) (fuel : Nat) (xs : List AV) : Option AV := match xs with
  | [AV.agg [AV.flt .f64 vp,AV.flt .f64 yf],AV.agg [AV.flt .f64 vu,AV.flt .f64 yb]] => gspan_Div z6 q0 w8 w9 fuel vp yf vu yb
  | _ => none
abbrev Rspan_Div : List RS := [RS.agg [LK.f .f64,LK.f .f64],RS.one (LK.i .i64)]
theorem gspan_Div_sm (z6 q0 : Mo) (w8 w9 : Mo) (fuel : Nat) (hΓ : GamOk Pr (Gspan_Div z6 q0 w8 w9)) (hP : NamesOk Pr) : SmOk Pr 68 (smM Rspan_Div (mspan_Div z6 q0 w8 w9 fuel)) := sm0 (fuel := fuel) (d := 7) hΓ hP fun xs v h => by
  unfold mspan_Div at h
  split at h
  · exact Eq.trans (by kernel_rfl) h
  · cases h
noncomputable def Gbars_spring (qaj : Mo) : Gam := [(68,smM [RS.agg [LK.f .f64,LK.f .f64],RS.one (LK.i .i64)] qaj)]
noncomputable def gbars_spring (qaj : Mo) (fuel : Nat) (qjm qg6 : Int) (qg8 qhf : Int) (qhc qg4 qg1 : Int) (qk3 qk4 : Option Nat) (qjv qjw : Option Nat) (qp1 qmi : Option Nat) : Option AV :=
  let r0 : Option AV := qaj [AV.agg [AV.flt .f64 qk3,AV.flt .f64 qk4],AV.agg [AV.flt .f64 qjv,AV.flt .f64 qjw]]; ck (okM [RS.agg [LK.f .f64,LK.f .f64],RS.one (LK.i .i64)] r0) <| some (AV.agg [AV.int .i64 0,AV.int .u8 qjm,AV.int .i64 qg6,AV.int .i64 qg8,AV.int .i64 qhf,AV.int .i64 qhc,AV.int .i64 qg4,AV.int .i64 qg1,AV.flt .f64 (toF ((toC ((toT (getV r0)).headD .dead)).headD .dead)),AV.flt .f64 (toF ((toC ((toT (getV r0)).headD .dead)).tail.headD .dead)),AV.flt .f64 (farith BinOp.quo .f64 qp1 qmi)])
noncomputable def mbars_spring (qaj : Mo) (fuel : Nat) (xs : List AV) : Option AV := match xs with
  | [AV.int .u8 qjm,AV.agg [AV.int .i64 qg6,AV.int .i64 qg8,AV.int .i64 qhf,AV.int .i64 qhc,AV.int .i64 qg4,AV.int .i64 qg1],AV.agg [AV.flt .f64 qk3,AV.flt .f64 qk4],AV.agg [AV.flt .f64 qjv,AV.flt .f64 qjw],AV.flt .f64 qp1,AV.flt .f64 qmi] => gbars_spring qaj fuel qjm qg6 qg8 qhf qhc qg4 qg1 qk3 qk4 qjv qjw qp1 qmi
  | _ => none
abbrev Rbars_spring : List RS := [RS.agg [LK.i .i64,LK.i .u8,LK.i .i64,LK.i .i64,LK.i .i64,LK.i .i64,LK.i .i64,LK.i .i64,LK.f .f64,LK.f .f64,LK.f .f64]]
theorem gbars_spring_sm (qaj : Mo) (fuel : Nat) (hΓ : GamOk Pr (Gbars_spring qaj)) (hP : NamesOk Pr) : SmOk Pr 38 (smM Rbars_spring (mbars_spring qaj fuel)) := sm0 (fuel := fuel) (d := 7) hΓ hP fun xs v h => by
  unfold mbars_spring at h
  split at h
  · exact Eq.trans (by kernel_rfl) h
  · cases h
noncomputable def Gbars_stands : Gam := []
noncomputable def gbars_stands (fuel : Nat) (qr6 : ByteArray) (qlz qr8 qr7 : Int) (qpp qp0 : Bool) (qr5 qr4 qr3 : Option Nat) : Option AV :=
  ck (bif qlz == 2 then true else true) <| ck (bif qlz == 2 then true else true) <| some (AV.tup [AV.bool (bif qlz == 2 then !qpp else false),AV.bool (bif qlz == 2 then !qp0 else false)])
noncomputable def mbars_stands (fuel : Nat) (xs : List AV) : Option AV := match xs with
  | [AV.agg [AV.str qr6,AV.int .u8 qlz,AV.int .i64 qr8,AV.int .i64 qr7,AV.bool qpp,AV.bool qp0,AV.flt .f64 qr5,AV.flt .f64 qr4,AV.flt .f64 qr3]] => gbars_stands fuel qr6 qlz qr8 qr7 qpp qp0 qr5 qr4 qr3
  | _ => none
abbrev Rbars_stands : List RS := [RS.one LK.b,RS.one LK.b]
theorem gbars_stands_sm (fuel : Nat) (hΓ : GamOk Pr Gbars_stands) (hP : NamesOk Pr) : SmOk Pr 42 (smM Rbars_stands (mbars_stands fuel)) := sm0 (fuel := fuel) (d := 7) hΓ hP fun xs v h => by
  unfold mbars_stands at h
  split at h
  · exact Eq.trans (by kernel_rfl) h
  · cases h
noncomputable def Gbars_springs_c1 (vg zt zq : Mo) : Gam := [(40,smM [RS.agg [LK.f .f64,LK.f .f64]] vg),(39,smM [RS.agg [LK.f .f64,LK.f .f64]] zt),(38,smM [RS.agg [LK.i .i64,LK.i .u8,LK.i .i64,LK.i .i64,LK.i .i64,LK.i .i64,LK.i .i64,LK.i .i64,LK.f .f64,LK.f .f64,LK.f .f64]] zq)]
noncomputable def gbars_springs_c1 (vg zt zq : Mo) (fuel : Nat) (qjm qg6 : Int) (qg8 qhf : Int) (qhc qg4 qg1 : Int) (f0n : Nat) (f0g : Nat → AV) (f1n : Nat) (f1g : Nat → AV) (f2n : Nat) (f2g : Nat → AV) (f3n : Nat) (f3g : Nat → AV) : Option AV :=
  let r0 : Option AV := vg [AV.flt .f64 (some 4613937818241073152)]; ck (okM [RS.agg [LK.f .f64,LK.f .f64]] r0) <| ck (Nat.blt 0 (f0n - 6)) <| ck (fitK (LK.f .f64) (f0g 6)) <| let r1 : Option AV := vg [AV.flt .f64 (toF (f0g 6))]; ck (okM [RS.agg [LK.f .f64,LK.f .f64]] r1) <| ck (Nat.blt 0 (f0n - 8)) <| ck (fitK (LK.f .f64) (f0g 8)) <| let r2 : Option AV := vg [AV.flt .f64 (toF (f0g 8))]; ck (okM [RS.agg [LK.f .f64,LK.f .f64]] r2) <| let r3 : Option AV := zt [AV.ro 2 2 2 fun (i j : Nat) => ([[AV.flt .f64 (toF ((toC (getV r1)).headD .dead)),AV.flt .f64 (toF ((toC (getV r1)).tail.headD .dead))],[AV.flt .f64 (toF ((toC (getV r2)).headD .dead)),AV.flt .f64 (toF ((toC (getV r2)).tail.headD .dead))]].getD i []).getD j AV.dead]; ck (okM [RS.agg [LK.f .f64,LK.f .f64]] r3) <| let r4 : Option AV := zt [AV.ro 2 2 2 fun (i j : Nat) => ([[AV.flt .f64 (toF ((toC (getV r0)).headD .dead)),AV.flt .f64 (toF ((toC (getV r0)).tail.headD .dead))],[AV.flt .f64 (toF ((toC (getV r3)).headD .dead)),AV.flt .f64 (toF ((toC (getV r3)).tail.headD .dead))]].getD i []).getD j AV.dead]; ck (okM [RS.agg [LK.f .f64,LK.f .f64]] r4) <| ck (Nat.blt 0 f1n) <| ck (fitK (LK.f .f64) (f1g 0)) <| let r5 : Option AV := vg [AV.flt .f64 (toF (f1g 0))]; ck (okM [RS.agg [LK.f .f64,LK.f .f64]] r5) <| ck (Nat.blt 0 f1n) <| ck (fitK (LK.f .f64) (f1g 0)) <| let r6 : Option AV := vg [AV.flt .f64 (toF (f1g 0))]; ck (okM [RS.agg [LK.f .f64,LK.f .f64]] r6) <| let r7 : Option AV := zt [AV.ro 2 2 2 fun (i j : Nat) => ([[AV.flt .f64 (toF ((toC (getV r5)).headD .dead)),AV.flt .f64 (toF ((toC (getV r5)).tail.headD .dead))],[AV.flt .f64 (toF ((toC (getV r6)).headD .dead)),AV.flt .f64 (toF ((toC (getV r6)).tail.headD .dead))]].getD i []).getD j AV.dead]; ck (okM [RS.agg [LK.f .f64,LK.f .f64]] r7) <| ck (Nat.ble 2 f2n) <| ck (fitKs [LK.f .f64,LK.f .f64] [f2g 0,f2g 1]) <| let r8 : Option AV := zt [AV.ro 2 2 2 fun (i j : Nat) => ([[AV.flt .f64 (toF ((toC (getV r7)).headD .dead)),AV.flt .f64 (toF ((toC (getV r7)).tail.headD .dead))],[AV.flt .f64 (toF (f2g 0)),AV.flt .f64 (toF (f2g 1))]].getD i []).getD j AV.dead]; ck (okM [RS.agg [LK.f .f64,LK.f .f64]] r8) <| ck (Nat.blt 0 (f0n - 6)) <| ck (fitK (LK.f .f64) (f0g 6)) <| ck (Nat.blt 0 (f0n - 8)) <| ck (fitK (LK.f .f64) (f0g 8)) <| ck (Nat.blt 0 f1n) <| ck (fitK (LK.f .f64) (f1g 0)) <| ck (Nat.blt 0 f1n) <| ck (fitK (LK.f .f64) (f1g 0)) <| ck (Nat.blt 0 f3n) <| ck (fitK (LK.f .f64) (f3g 0)) <| let r9 : Option AV := zq [AV.int .u8 qjm,AV.agg [AV.int .i64 qg6,AV.int .i64 qg8,AV.int .i64 qhf,AV.int .i64 qhc,AV.int .i64 qg4,AV.int .i64 qg1],AV.agg [AV.flt .f64 (toF ((toC (getV r4)).headD .dead)),AV.flt .f64 (toF ((toC (getV r4)).tail.headD .dead))],AV.agg [AV.flt .f64 (toF ((toC (getV r8)).headD .dead)),AV.flt .f64 (toF ((toC (getV r8)).tail.headD .dead))],AV.flt .f64 (farith BinOp.mul .f64 (some 4613937818241073152) (farith BinOp.mul .f64 (toF (f0g 6)) (toF (f0g 8)))),AV.flt .f64 (farith BinOp.mul .f64 (farith BinOp.mul .f64 (toF (f1g 0)) (toF (f1g 0))) (toF (f3g 0)))]; ck (okM [RS.agg [LK.i .i64,LK.i .u8,LK.i .i64,LK.i .i64,LK.i .i64,LK.i .i64,LK.i .i64,LK.i .i64,LK.f .f64,LK.f .f64,LK.f .f64]] r9) <| some (AV.agg [AV.int .i64 (toI ((toC (getV r9)).headD .dead)),AV.int .u8 (toI ((toC (getV r9)).tail.headD .dead)),AV.int .i64 (toI ((toC (getV r9)).tail.tail.headD .dead)),AV.int .i64 (toI ((toC (getV r9)).tail.tail.tail.headD .dead)),AV.int .i64 (toI ((toC (getV r9)).tail.tail.tail.tail.headD .dead)),AV.int .i64 (toI ((toC (getV r9)).tail.tail.tail.tail.tail.headD .dead)),AV.int .i64 (toI ((toC (getV r9)).tail.tail.tail.tail.tail.tail.headD .dead)),AV.int .i64 (toI ((toC (getV r9)).tail.tail.tail.tail.tail.tail.tail.headD .dead)),AV.flt .f64 (toF ((toC (getV r9)).tail.tail.tail.tail.tail.tail.tail.tail.headD .dead)),AV.flt .f64 (toF ((toC (getV r9)).tail.tail.tail.tail.tail.tail.tail.tail.tail.headD .dead)),AV.flt .f64 (toF ((toC (getV r9)).tail.tail.tail.tail.tail.tail.tail.tail.tail.tail.headD .dead))])
noncomputable def mbars_springs_c1 (vg zt zq : Mo) (fuel : Nat) (xs : List AV) : Option AV := match xs with
  | [AV.int .u8 qjm,AV.agg [AV.int .i64 qg6,AV.int .i64 qg8,AV.int .i64 qhf,AV.int .i64 qhc,AV.int .i64 qg4,AV.int .i64 qg1],AV.rp f0n f0g,AV.rp f1n f1g,AV.rp f2n f2g,AV.rp f3n f3g] => gbars_springs_c1 vg zt zq fuel qjm qg6 qg8 qhf qhc qg4 qg1 f0n f0g f1n f1g f2n f2g f3n f3g
  | _ => none
abbrev Rbars_springs_c1 : List RS := [RS.agg [LK.i .i64,LK.i .u8,LK.i .i64,LK.i .i64,LK.i .i64,LK.i .i64,LK.i .i64,LK.i .i64,LK.f .f64,LK.f .f64,LK.f .f64]]
theorem gbars_springs_c1_sm (vg zt zq : Mo) (fuel : Nat) (hΓ : GamOk Pr (Gbars_springs_c1 vg zt zq)) (hP : NamesOk Pr) : SmOk Pr 41 (smM Rbars_springs_c1 (mbars_springs_c1 vg zt zq fuel)) := sm0 (fuel := fuel) (d := 7) hΓ hP fun xs v h => by
  unfold mbars_springs_c1 at h
  split at h
  · exact Eq.trans (by kernel_rfl) h
  · cases h
noncomputable def Lbars_springs_a (zk v7 : Mo) (vg zt : Mo) (zq yr vi : Mo) (fuel : Nat) : Lam AV := []
noncomputable def Gbars_springs_a (zk v7 : Mo) (vg zt : Mo) (zq yr vi : Mo) : Gam := [(36,smM [RS.one (LK.i .i64),RS.one (LK.i .i64),RS.one (LK.i .i64)] zk),(37,smM [RS.agg [LK.f .f64,LK.f .f64],RS.one (LK.f .f64)] v7),(40,smM [RS.agg [LK.f .f64,LK.f .f64]] vg),(39,smM [RS.agg [LK.f .f64,LK.f .f64]] zt),(38,smM [RS.agg [LK.i .i64,LK.i .u8,LK.i .i64,LK.i .i64,LK.i .i64,LK.i .i64,LK.i .i64,LK.i .i64,LK.f .f64,LK.f .f64,LK.f .f64]] zq),(42,smM [RS.one LK.b,RS.one LK.b] yr),(41,smM [RS.agg [LK.i .i64,LK.i .u8,LK.i .i64,LK.i .i64,LK.i .i64,LK.i .i64,LK.i .i64,LK.i .i64,LK.f .f64,LK.f .f64,LK.f .f64]] vi)]
noncomputable def gbars_springs_a (zk v7 : Mo) (vg zt : Mo) (zq yr vi : Mo) (fuel qaw qbh : Nat) (yc : Ge) (qav qa5 : Nat) (y4 : Ge) (qkt : ByteArray) (qkq qcz qc0 : Int) (qkn qks : Bool) (qhq qip qiq : Option Nat) : Option AV :=
  ck (decide (0 ≤ qcz)) <| ck (decide (qcz < (↑qaw : Int))) <| ck (fitKs [LK.s,LK.i .i32,LK.i .i32,LK.i .u8] [yc qcz.toNat 0,yc qcz.toNat 1,yc qcz.toNat 2,yc qcz.toNat 3]) <| ck (decide (0 ≤ qc0)) <| ck (decide (qc0 < (↑qaw : Int))) <| ck (fitKs [LK.s,LK.i .i32,LK.i .i32,LK.i .u8] [yc qc0.toNat 0,yc qc0.toNat 1,yc qc0.toNat 2,yc qc0.toNat 3]) <| let r0 : Option AV := zk [AV.agg [AV.str (toS (yc qcz.toNat 0)),AV.int .i32 (toI (yc qcz.toNat 1)),AV.int .i32 (toI (yc qcz.toNat 2)),AV.int .u8 (toI (yc qcz.toNat 3))],AV.agg [AV.str (toS (yc qc0.toNat 0)),AV.int .i32 (toI (yc qc0.toNat 1)),AV.int .i32 (toI (yc qc0.toNat 2)),AV.int .u8 (toI (yc qc0.toNat 3))]]; ck (okM [RS.one (LK.i .i64),RS.one (LK.i .i64),RS.one (LK.i .i64)] r0) <| ck (decide (0 ≤ qcz)) <| ck (decide (qcz < (↑qaw : Int))) <| ck (fitKs [LK.s,LK.i .i32,LK.i .i32,LK.i .u8] [yc qcz.toNat 0,yc qcz.toNat 1,yc qcz.toNat 2,yc qcz.toNat 3]) <| ck (decide (0 ≤ qc0)) <| ck (decide (qc0 < (↑qaw : Int))) <| ck (fitKs [LK.s,LK.i .i32,LK.i .i32,LK.i .u8] [yc qc0.toNat 0,yc qc0.toNat 1,yc qc0.toNat 2,yc qc0.toNat 3]) <| let r1 : Option AV := v7 [AV.agg [AV.str (toS (yc qcz.toNat 0)),AV.int .i32 (toI (yc qcz.toNat 1)),AV.int .i32 (toI (yc qcz.toNat 2)),AV.int .u8 (toI (yc qcz.toNat 3))],AV.agg [AV.str (toS (yc qc0.toNat 0)),AV.int .i32 (toI (yc qc0.toNat 1)),AV.int .i32 (toI (yc qc0.toNat 2)),AV.int .u8 (toI (yc qc0.toNat 3))]]; ck (okM [RS.agg [LK.f .f64,LK.f .f64],RS.one (LK.f .f64)] r1) <| let r2 : Option AV := vg [AV.flt .f64 qhq]; ck (okM [RS.agg [LK.f .f64,LK.f .f64]] r2) <| let r3 : Option AV := vg [AV.flt .f64 qip]; ck (okM [RS.agg [LK.f .f64,LK.f .f64]] r3) <| let r4 : Option AV := zt [AV.ro 2 2 2 fun (i j : Nat) => ([[AV.flt .f64 (toF ((toC (getV r2)).headD .dead)),AV.flt .f64 (toF ((toC (getV r2)).tail.headD .dead))],[AV.flt .f64 (toF ((toC (getV r3)).headD .dead)),AV.flt .f64 (toF ((toC (getV r3)).tail.headD .dead))]].getD i []).getD j AV.dead]; ck (okM [RS.agg [LK.f .f64,LK.f .f64]] r4) <| let r5 : Option AV := vg [AV.flt .f64 (some (FloatKind.f64.nearest (toI ((toT (getV r0)).tail.tail.headD .dead))))]; ck (okM [RS.agg [LK.f .f64,LK.f .f64]] r5) <| let r6 : Option AV := zt [AV.ro 2 2 2 fun (i j : Nat) => ([[AV.flt .f64 (toF ((toC (getV r5)).headD .dead)),AV.flt .f64 (toF ((toC (getV r5)).tail.headD .dead))],[AV.flt .f64 (toF ((toC ((toT (getV r1)).headD .dead)).headD .dead)),AV.flt .f64 (toF ((toC ((toT (getV r1)).headD .dead)).tail.headD .dead))]].getD i []).getD j AV.dead]; ck (okM [RS.agg [LK.f .f64,LK.f .f64]] r6) <| let r7 : Option AV := zq [AV.int .u8 1,AV.agg [AV.int .i64 (IntKind.i64.wrap (0 - toI ((toT (getV r0)).headD .dead))),AV.int .i64 (IntKind.i64.wrap (0 - toI ((toT (getV r0)).tail.headD .dead))),AV.int .i64 0,AV.int .i64 (toI ((toT (getV r0)).headD .dead)),AV.int .i64 (toI ((toT (getV r0)).tail.headD .dead)),AV.int .i64 0],AV.agg [AV.flt .f64 (toF ((toC (getV r4)).headD .dead)),AV.flt .f64 (toF ((toC (getV r4)).tail.headD .dead))],AV.agg [AV.flt .f64 (toF ((toC (getV r6)).headD .dead)),AV.flt .f64 (toF ((toC (getV r6)).tail.headD .dead))],AV.flt .f64 (farith BinOp.mul .f64 qhq qip),AV.flt .f64 (farith BinOp.mul .f64 (some (FloatKind.f64.nearest (toI ((toT (getV r0)).tail.tail.headD .dead)))) (toF ((toT (getV r1)).tail.headD .dead)))]; ck (okM [RS.agg [LK.i .i64,LK.i .u8,LK.i .i64,LK.i .i64,LK.i .i64,LK.i .i64,LK.i .i64,LK.i .i64,LK.f .f64,LK.f .f64,LK.f .f64]] r7) <| let r8 : Option AV := yr [AV.agg [AV.str qkt,AV.int .u8 qkq,AV.int .i64 qcz,AV.int .i64 qc0,AV.bool qkn,AV.bool qks,AV.flt .f64 qhq,AV.flt .f64 qip,AV.flt .f64 qiq]]; ck (okM [RS.one LK.b,RS.one LK.b] r8) <| bif bif toB ((toT (getV r8)).headD .dead) then toB ((toT (getV r8)).tail.headD .dead) else false then let r9 : Option AV := vg [AV.flt .f64 qhq]; ck (okM [RS.agg [LK.f .f64,LK.f .f64]] r9) <| let r10 : Option AV := vg [AV.flt .f64 qiq]; ck (okM [RS.agg [LK.f .f64,LK.f .f64]] r10) <| let r11 : Option AV := zt [AV.ro 2 2 2 fun (i j : Nat) => ([[AV.flt .f64 (toF ((toC (getV r9)).headD .dead)),AV.flt .f64 (toF ((toC (getV r9)).tail.headD .dead))],[AV.flt .f64 (toF ((toC (getV r10)).headD .dead)),AV.flt .f64 (toF ((toC (getV r10)).tail.headD .dead))]].getD i []).getD j AV.dead]; ck (okM [RS.agg [LK.f .f64,LK.f .f64]] r11) <| let r12 : Option AV := zq [AV.int .u8 3,AV.agg [AV.int .i64 0,AV.int .i64 0,AV.int .i64 1,AV.int .i64 0,AV.int .i64 0,AV.int .i64 (-1)],AV.agg [AV.flt .f64 (toF ((toC (getV r11)).headD .dead)),AV.flt .f64 (toF ((toC (getV r11)).tail.headD .dead))],AV.agg [AV.flt .f64 (toF ((toC ((toT (getV r1)).headD .dead)).headD .dead)),AV.flt .f64 (toF ((toC ((toT (getV r1)).headD .dead)).tail.headD .dead))],AV.flt .f64 (farith BinOp.mul .f64 qhq qiq),AV.flt .f64 (toF ((toT (getV r1)).tail.headD .dead))]; ck (okM [RS.agg [LK.i .i64,LK.i .u8,LK.i .i64,LK.i .i64,LK.i .i64,LK.i .i64,LK.i .i64,LK.i .i64,LK.f .f64,LK.f .f64,LK.f .f64]] r12) <| let r13 : Option AV := vi [AV.int .u8 2,AV.agg [AV.int .i64 (IntKind.i64.wrap ((-2) * toI ((toT (getV r0)).tail.headD .dead))),AV.int .i64 (IntKind.i64.wrap (2 * toI ((toT (getV r0)).headD .dead))),AV.int .i64 (toI ((toT (getV r0)).tail.tail.headD .dead)),AV.int .i64 (IntKind.i64.wrap (2 * toI ((toT (getV r0)).tail.headD .dead))),AV.int .i64 (IntKind.i64.wrap ((-2) * toI ((toT (getV r0)).headD .dead))),AV.int .i64 (toI ((toT (getV r0)).tail.tail.headD .dead))],AV.rp ([AV.str qkt,AV.int .u8 qkq,AV.int .i64 qcz,AV.int .i64 qc0,AV.bool qkn,AV.bool qks,AV.flt .f64 qhq,AV.flt .f64 qip,AV.flt .f64 qiq].length - 0) fun (j : Nat) => [AV.str qkt,AV.int .u8 qkq,AV.int .i64 qcz,AV.int .i64 qc0,AV.bool qkn,AV.bool qks,AV.flt .f64 qhq,AV.flt .f64 qip,AV.flt .f64 qiq].getD (0 + j) AV.dead,AV.rp ([AV.flt .f64 (some (FloatKind.f64.nearest (toI ((toT (getV r0)).tail.tail.headD .dead))))].length - 0) fun (j : Nat) => [AV.flt .f64 (some (FloatKind.f64.nearest (toI ((toT (getV r0)).tail.tail.headD .dead))))].getD (0 + j) AV.dead,AV.rp ([AV.flt .f64 (toF ((toC ((toT (getV r1)).headD .dead)).headD .dead)),AV.flt .f64 (toF ((toC ((toT (getV r1)).headD .dead)).tail.headD .dead))].length - 0) fun (j : Nat) => [AV.flt .f64 (toF ((toC ((toT (getV r1)).headD .dead)).headD .dead)),AV.flt .f64 (toF ((toC ((toT (getV r1)).headD .dead)).tail.headD .dead))].getD (0 + j) AV.dead,AV.rp ([AV.flt .f64 (toF ((toT (getV r1)).tail.headD .dead))].length - 0) fun (j : Nat) => [AV.flt .f64 (toF ((toT (getV r1)).tail.headD .dead))].getD (0 + j) AV.dead]; ck (okM [RS.agg [LK.i .i64,LK.i .u8,LK.i .i64,LK.i .i64,LK.i .i64,LK.i .i64,LK.i .i64,LK.i .i64,LK.f .f64,LK.f .f64,LK.f .f64]] r13) <| some (AV.tup [AV.ro 11 [[AV.int .i64 (toI ((toC (getV r7)).headD .dead)),AV.int .u8 (toI ((toC (getV r7)).tail.headD .dead)),AV.int .i64 (toI ((toC (getV r7)).tail.tail.headD .dead)),AV.int .i64 (toI ((toC (getV r7)).tail.tail.tail.headD .dead)),AV.int .i64 (toI ((toC (getV r7)).tail.tail.tail.tail.headD .dead)),AV.int .i64 (toI ((toC (getV r7)).tail.tail.tail.tail.tail.headD .dead)),AV.int .i64 (toI ((toC (getV r7)).tail.tail.tail.tail.tail.tail.headD .dead)),AV.int .i64 (toI ((toC (getV r7)).tail.tail.tail.tail.tail.tail.tail.headD .dead)),AV.flt .f64 (toF ((toC (getV r7)).tail.tail.tail.tail.tail.tail.tail.tail.headD .dead)),AV.flt .f64 (toF ((toC (getV r7)).tail.tail.tail.tail.tail.tail.tail.tail.tail.headD .dead)),AV.flt .f64 (toF ((toC (getV r7)).tail.tail.tail.tail.tail.tail.tail.tail.tail.tail.headD .dead))],[AV.int .i64 (toI ((toC (getV r13)).headD .dead)),AV.int .u8 (toI ((toC (getV r13)).tail.headD .dead)),AV.int .i64 (toI ((toC (getV r13)).tail.tail.headD .dead)),AV.int .i64 (toI ((toC (getV r13)).tail.tail.tail.headD .dead)),AV.int .i64 (toI ((toC (getV r13)).tail.tail.tail.tail.headD .dead)),AV.int .i64 (toI ((toC (getV r13)).tail.tail.tail.tail.tail.headD .dead)),AV.int .i64 (toI ((toC (getV r13)).tail.tail.tail.tail.tail.tail.headD .dead)),AV.int .i64 (toI ((toC (getV r13)).tail.tail.tail.tail.tail.tail.tail.headD .dead)),AV.flt .f64 (toF ((toC (getV r13)).tail.tail.tail.tail.tail.tail.tail.tail.headD .dead)),AV.flt .f64 (toF ((toC (getV r13)).tail.tail.tail.tail.tail.tail.tail.tail.tail.headD .dead)),AV.flt .f64 (toF ((toC (getV r13)).tail.tail.tail.tail.tail.tail.tail.tail.tail.tail.headD .dead))],[AV.int .i64 (toI ((toC (getV r12)).headD .dead)),AV.int .u8 (toI ((toC (getV r12)).tail.headD .dead)),AV.int .i64 (toI ((toC (getV r12)).tail.tail.headD .dead)),AV.int .i64 (toI ((toC (getV r12)).tail.tail.tail.headD .dead)),AV.int .i64 (toI ((toC (getV r12)).tail.tail.tail.tail.headD .dead)),AV.int .i64 (toI ((toC (getV r12)).tail.tail.tail.tail.tail.headD .dead)),AV.int .i64 (toI ((toC (getV r12)).tail.tail.tail.tail.tail.tail.headD .dead)),AV.int .i64 (toI ((toC (getV r12)).tail.tail.tail.tail.tail.tail.tail.headD .dead)),AV.flt .f64 (toF ((toC (getV r12)).tail.tail.tail.tail.tail.tail.tail.tail.headD .dead)),AV.flt .f64 (toF ((toC (getV r12)).tail.tail.tail.tail.tail.tail.tail.tail.tail.headD .dead)),AV.flt .f64 (toF ((toC (getV r12)).tail.tail.tail.tail.tail.tail.tail.tail.tail.tail.headD .dead))]].length [[AV.int .i64 (toI ((toC (getV r7)).headD .dead)),AV.int .u8 (toI ((toC (getV r7)).tail.headD .dead)),AV.int .i64 (toI ((toC (getV r7)).tail.tail.headD .dead)),AV.int .i64 (toI ((toC (getV r7)).tail.tail.tail.headD .dead)),AV.int .i64 (toI ((toC (getV r7)).tail.tail.tail.tail.headD .dead)),AV.int .i64 (toI ((toC (getV r7)).tail.tail.tail.tail.tail.headD .dead)),AV.int .i64 (toI ((toC (getV r7)).tail.tail.tail.tail.tail.tail.headD .dead)),AV.int .i64 (toI ((toC (getV r7)).tail.tail.tail.tail.tail.tail.tail.headD .dead)),AV.flt .f64 (toF ((toC (getV r7)).tail.tail.tail.tail.tail.tail.tail.tail.headD .dead)),AV.flt .f64 (toF ((toC (getV r7)).tail.tail.tail.tail.tail.tail.tail.tail.tail.headD .dead)),AV.flt .f64 (toF ((toC (getV r7)).tail.tail.tail.tail.tail.tail.tail.tail.tail.tail.headD .dead))],[AV.int .i64 (toI ((toC (getV r13)).headD .dead)),AV.int .u8 (toI ((toC (getV r13)).tail.headD .dead)),AV.int .i64 (toI ((toC (getV r13)).tail.tail.headD .dead)),AV.int .i64 (toI ((toC (getV r13)).tail.tail.tail.headD .dead)),AV.int .i64 (toI ((toC (getV r13)).tail.tail.tail.tail.headD .dead)),AV.int .i64 (toI ((toC (getV r13)).tail.tail.tail.tail.tail.headD .dead)),AV.int .i64 (toI ((toC (getV r13)).tail.tail.tail.tail.tail.tail.headD .dead)),AV.int .i64 (toI ((toC (getV r13)).tail.tail.tail.tail.tail.tail.tail.headD .dead)),AV.flt .f64 (toF ((toC (getV r13)).tail.tail.tail.tail.tail.tail.tail.tail.headD .dead)),AV.flt .f64 (toF ((toC (getV r13)).tail.tail.tail.tail.tail.tail.tail.tail.tail.headD .dead)),AV.flt .f64 (toF ((toC (getV r13)).tail.tail.tail.tail.tail.tail.tail.tail.tail.tail.headD .dead))],[AV.int .i64 (toI ((toC (getV r12)).headD .dead)),AV.int .u8 (toI ((toC (getV r12)).tail.headD .dead)),AV.int .i64 (toI ((toC (getV r12)).tail.tail.headD .dead)),AV.int .i64 (toI ((toC (getV r12)).tail.tail.tail.headD .dead)),AV.int .i64 (toI ((toC (getV r12)).tail.tail.tail.tail.headD .dead)),AV.int .i64 (toI ((toC (getV r12)).tail.tail.tail.tail.tail.headD .dead)),AV.int .i64 (toI ((toC (getV r12)).tail.tail.tail.tail.tail.tail.headD .dead)),AV.int .i64 (toI ((toC (getV r12)).tail.tail.tail.tail.tail.tail.tail.headD .dead)),AV.flt .f64 (toF ((toC (getV r12)).tail.tail.tail.tail.tail.tail.tail.tail.headD .dead)),AV.flt .f64 (toF ((toC (getV r12)).tail.tail.tail.tail.tail.tail.tail.tail.tail.headD .dead)),AV.flt .f64 (toF ((toC (getV r12)).tail.tail.tail.tail.tail.tail.tail.tail.tail.tail.headD .dead))]].length fun (i j : Nat) => ([[AV.int .i64 (toI ((toC (getV r7)).headD .dead)),AV.int .u8 (toI ((toC (getV r7)).tail.headD .dead)),AV.int .i64 (toI ((toC (getV r7)).tail.tail.headD .dead)),AV.int .i64 (toI ((toC (getV r7)).tail.tail.tail.headD .dead)),AV.int .i64 (toI ((toC (getV r7)).tail.tail.tail.tail.headD .dead)),AV.int .i64 (toI ((toC (getV r7)).tail.tail.tail.tail.tail.headD .dead)),AV.int .i64 (toI ((toC (getV r7)).tail.tail.tail.tail.tail.tail.headD .dead)),AV.int .i64 (toI ((toC (getV r7)).tail.tail.tail.tail.tail.tail.tail.headD .dead)),AV.flt .f64 (toF ((toC (getV r7)).tail.tail.tail.tail.tail.tail.tail.tail.headD .dead)),AV.flt .f64 (toF ((toC (getV r7)).tail.tail.tail.tail.tail.tail.tail.tail.tail.headD .dead)),AV.flt .f64 (toF ((toC (getV r7)).tail.tail.tail.tail.tail.tail.tail.tail.tail.tail.headD .dead))],[AV.int .i64 (toI ((toC (getV r13)).headD .dead)),AV.int .u8 (toI ((toC (getV r13)).tail.headD .dead)),AV.int .i64 (toI ((toC (getV r13)).tail.tail.headD .dead)),AV.int .i64 (toI ((toC (getV r13)).tail.tail.tail.headD .dead)),AV.int .i64 (toI ((toC (getV r13)).tail.tail.tail.tail.headD .dead)),AV.int .i64 (toI ((toC (getV r13)).tail.tail.tail.tail.tail.headD .dead)),AV.int .i64 (toI ((toC (getV r13)).tail.tail.tail.tail.tail.tail.headD .dead)),AV.int .i64 (toI ((toC (getV r13)).tail.tail.tail.tail.tail.tail.tail.headD .dead)),AV.flt .f64 (toF ((toC (getV r13)).tail.tail.tail.tail.tail.tail.tail.tail.headD .dead)),AV.flt .f64 (toF ((toC (getV r13)).tail.tail.tail.tail.tail.tail.tail.tail.tail.headD .dead)),AV.flt .f64 (toF ((toC (getV r13)).tail.tail.tail.tail.tail.tail.tail.tail.tail.tail.headD .dead))],[AV.int .i64 (toI ((toC (getV r12)).headD .dead)),AV.int .u8 (toI ((toC (getV r12)).tail.headD .dead)),AV.int .i64 (toI ((toC (getV r12)).tail.tail.headD .dead)),AV.int .i64 (toI ((toC (getV r12)).tail.tail.tail.headD .dead)),AV.int .i64 (toI ((toC (getV r12)).tail.tail.tail.tail.headD .dead)),AV.int .i64 (toI ((toC (getV r12)).tail.tail.tail.tail.tail.headD .dead)),AV.int .i64 (toI ((toC (getV r12)).tail.tail.tail.tail.tail.tail.headD .dead)),AV.int .i64 (toI ((toC (getV r12)).tail.tail.tail.tail.tail.tail.tail.headD .dead)),AV.flt .f64 (toF ((toC (getV r12)).tail.tail.tail.tail.tail.tail.tail.tail.headD .dead)),AV.flt .f64 (toF ((toC (getV r12)).tail.tail.tail.tail.tail.tail.tail.tail.tail.headD .dead)),AV.flt .f64 (toF ((toC (getV r12)).tail.tail.tail.tail.tail.tail.tail.tail.tail.tail.headD .dead))]].getD i []).getD j AV.dead])
  else bif toB ((toT (getV r8)).headD .dead) then let r14 : Option AV := vi [AV.int .u8 4,AV.agg [AV.int .i64 (IntKind.i64.wrap (0 - toI ((toT (getV r0)).tail.headD .dead))),AV.int .i64 (toI ((toT (getV r0)).headD .dead)),AV.int .i64 (toI ((toT (getV r0)).tail.tail.headD .dead)),AV.int .i64 (toI ((toT (getV r0)).tail.headD .dead)),AV.int .i64 (IntKind.i64.wrap (0 - toI ((toT (getV r0)).headD .dead))),AV.int .i64 0],AV.rp ([AV.str qkt,AV.int .u8 qkq,AV.int .i64 qcz,AV.int .i64 qc0,AV.bool qkn,AV.bool qks,AV.flt .f64 qhq,AV.flt .f64 qip,AV.flt .f64 qiq].length - 0) fun (j : Nat) => [AV.str qkt,AV.int .u8 qkq,AV.int .i64 qcz,AV.int .i64 qc0,AV.bool qkn,AV.bool qks,AV.flt .f64 qhq,AV.flt .f64 qip,AV.flt .f64 qiq].getD (0 + j) AV.dead,AV.rp ([AV.flt .f64 (some (FloatKind.f64.nearest (toI ((toT (getV r0)).tail.tail.headD .dead))))].length - 0) fun (j : Nat) => [AV.flt .f64 (some (FloatKind.f64.nearest (toI ((toT (getV r0)).tail.tail.headD .dead))))].getD (0 + j) AV.dead,AV.rp ([AV.flt .f64 (toF ((toC ((toT (getV r1)).headD .dead)).headD .dead)),AV.flt .f64 (toF ((toC ((toT (getV r1)).headD .dead)).tail.headD .dead))].length - 0) fun (j : Nat) => [AV.flt .f64 (toF ((toC ((toT (getV r1)).headD .dead)).headD .dead)),AV.flt .f64 (toF ((toC ((toT (getV r1)).headD .dead)).tail.headD .dead))].getD (0 + j) AV.dead,AV.rp ([AV.flt .f64 (toF ((toT (getV r1)).tail.headD .dead))].length - 0) fun (j : Nat) => [AV.flt .f64 (toF ((toT (getV r1)).tail.headD .dead))].getD (0 + j) AV.dead]; ck (okM [RS.agg [LK.i .i64,LK.i .u8,LK.i .i64,LK.i .i64,LK.i .i64,LK.i .i64,LK.i .i64,LK.i .i64,LK.f .f64,LK.f .f64,LK.f .f64]] r14) <| some (AV.tup [AV.ro 11 [[AV.int .i64 (toI ((toC (getV r7)).headD .dead)),AV.int .u8 (toI ((toC (getV r7)).tail.headD .dead)),AV.int .i64 (toI ((toC (getV r7)).tail.tail.headD .dead)),AV.int .i64 (toI ((toC (getV r7)).tail.tail.tail.headD .dead)),AV.int .i64 (toI ((toC (getV r7)).tail.tail.tail.tail.headD .dead)),AV.int .i64 (toI ((toC (getV r7)).tail.tail.tail.tail.tail.headD .dead)),AV.int .i64 (toI ((toC (getV r7)).tail.tail.tail.tail.tail.tail.headD .dead)),AV.int .i64 (toI ((toC (getV r7)).tail.tail.tail.tail.tail.tail.tail.headD .dead)),AV.flt .f64 (toF ((toC (getV r7)).tail.tail.tail.tail.tail.tail.tail.tail.headD .dead)),AV.flt .f64 (toF ((toC (getV r7)).tail.tail.tail.tail.tail.tail.tail.tail.tail.headD .dead)),AV.flt .f64 (toF ((toC (getV r7)).tail.tail.tail.tail.tail.tail.tail.tail.tail.tail.headD .dead))],[AV.int .i64 (toI ((toC (getV r14)).headD .dead)),AV.int .u8 (toI ((toC (getV r14)).tail.headD .dead)),AV.int .i64 (toI ((toC (getV r14)).tail.tail.headD .dead)),AV.int .i64 (toI ((toC (getV r14)).tail.tail.tail.headD .dead)),AV.int .i64 (toI ((toC (getV r14)).tail.tail.tail.tail.headD .dead)),AV.int .i64 (toI ((toC (getV r14)).tail.tail.tail.tail.tail.headD .dead)),AV.int .i64 (toI ((toC (getV r14)).tail.tail.tail.tail.tail.tail.headD .dead)),AV.int .i64 (toI ((toC (getV r14)).tail.tail.tail.tail.tail.tail.tail.headD .dead)),AV.flt .f64 (toF ((toC (getV r14)).tail.tail.tail.tail.tail.tail.tail.tail.headD .dead)),AV.flt .f64 (toF ((toC (getV r14)).tail.tail.tail.tail.tail.tail.tail.tail.tail.headD .dead)),AV.flt .f64 (toF ((toC (getV r14)).tail.tail.tail.tail.tail.tail.tail.tail.tail.tail.headD .dead))]].length [[AV.int .i64 (toI ((toC (getV r7)).headD .dead)),AV.int .u8 (toI ((toC (getV r7)).tail.headD .dead)),AV.int .i64 (toI ((toC (getV r7)).tail.tail.headD .dead)),AV.int .i64 (toI ((toC (getV r7)).tail.tail.tail.headD .dead)),AV.int .i64 (toI ((toC (getV r7)).tail.tail.tail.tail.headD .dead)),AV.int .i64 (toI ((toC (getV r7)).tail.tail.tail.tail.tail.headD .dead)),AV.int .i64 (toI ((toC (getV r7)).tail.tail.tail.tail.tail.tail.headD .dead)),AV.int .i64 (toI ((toC (getV r7)).tail.tail.tail.tail.tail.tail.tail.headD .dead)),AV.flt .f64 (toF ((toC (getV r7)).tail.tail.tail.tail.tail.tail.tail.tail.headD .dead)),AV.flt .f64 (toF ((toC (getV r7)).tail.tail.tail.tail.tail.tail.tail.tail.tail.headD .dead)),AV.flt .f64 (toF ((toC (getV r7)).tail.tail.tail.tail.tail.tail.tail.tail.tail.tail.headD .dead))],[AV.int .i64 (toI ((toC (getV r14)).headD .dead)),AV.int .u8 (toI ((toC (getV r14)).tail.headD .dead)),AV.int .i64 (toI ((toC (getV r14)).tail.tail.headD .dead)),AV.int .i64 (toI ((toC (getV r14)).tail.tail.tail.headD .dead)),AV.int .i64 (toI ((toC (getV r14)).tail.tail.tail.tail.headD .dead)),AV.int .i64 (toI ((toC (getV r14)).tail.tail.tail.tail.tail.headD .dead)),AV.int .i64 (toI ((toC (getV r14)).tail.tail.tail.tail.tail.tail.headD .dead)),AV.int .i64 (toI ((toC (getV r14)).tail.tail.tail.tail.tail.tail.tail.headD .dead)),AV.flt .f64 (toF ((toC (getV r14)).tail.tail.tail.tail.tail.tail.tail.tail.headD .dead)),AV.flt .f64 (toF ((toC (getV r14)).tail.tail.tail.tail.tail.tail.tail.tail.tail.headD .dead)),AV.flt .f64 (toF ((toC (getV r14)).tail.tail.tail.tail.tail.tail.tail.tail.tail.tail.headD .dead))]].length fun (i j : Nat) => ([[AV.int .i64 (toI ((toC (getV r7)).headD .dead)),AV.int .u8 (toI ((toC (getV r7)).tail.headD .dead)),AV.int .i64 (toI ((toC (getV r7)).tail.tail.headD .dead)),AV.int .i64 (toI ((toC (getV r7)).tail.tail.tail.headD .dead)),AV.int .i64 (toI ((toC (getV r7)).tail.tail.tail.tail.headD .dead)),AV.int .i64 (toI ((toC (getV r7)).tail.tail.tail.tail.tail.headD .dead)),AV.int .i64 (toI ((toC (getV r7)).tail.tail.tail.tail.tail.tail.headD .dead)),AV.int .i64 (toI ((toC (getV r7)).tail.tail.tail.tail.tail.tail.tail.headD .dead)),AV.flt .f64 (toF ((toC (getV r7)).tail.tail.tail.tail.tail.tail.tail.tail.headD .dead)),AV.flt .f64 (toF ((toC (getV r7)).tail.tail.tail.tail.tail.tail.tail.tail.tail.headD .dead)),AV.flt .f64 (toF ((toC (getV r7)).tail.tail.tail.tail.tail.tail.tail.tail.tail.tail.headD .dead))],[AV.int .i64 (toI ((toC (getV r14)).headD .dead)),AV.int .u8 (toI ((toC (getV r14)).tail.headD .dead)),AV.int .i64 (toI ((toC (getV r14)).tail.tail.headD .dead)),AV.int .i64 (toI ((toC (getV r14)).tail.tail.tail.headD .dead)),AV.int .i64 (toI ((toC (getV r14)).tail.tail.tail.tail.headD .dead)),AV.int .i64 (toI ((toC (getV r14)).tail.tail.tail.tail.tail.headD .dead)),AV.int .i64 (toI ((toC (getV r14)).tail.tail.tail.tail.tail.tail.headD .dead)),AV.int .i64 (toI ((toC (getV r14)).tail.tail.tail.tail.tail.tail.tail.headD .dead)),AV.flt .f64 (toF ((toC (getV r14)).tail.tail.tail.tail.tail.tail.tail.tail.headD .dead)),AV.flt .f64 (toF ((toC (getV r14)).tail.tail.tail.tail.tail.tail.tail.tail.tail.headD .dead)),AV.flt .f64 (toF ((toC (getV r14)).tail.tail.tail.tail.tail.tail.tail.tail.tail.tail.headD .dead))]].getD i []).getD j AV.dead])
  else bif toB ((toT (getV r8)).tail.headD .dead) then let r15 : Option AV := vi [AV.int .u8 4,AV.agg [AV.int .i64 (IntKind.i64.wrap (0 - toI ((toT (getV r0)).tail.headD .dead))),AV.int .i64 (toI ((toT (getV r0)).headD .dead)),AV.int .i64 0,AV.int .i64 (toI ((toT (getV r0)).tail.headD .dead)),AV.int .i64 (IntKind.i64.wrap (0 - toI ((toT (getV r0)).headD .dead))),AV.int .i64 (toI ((toT (getV r0)).tail.tail.headD .dead))],AV.rp ([AV.str qkt,AV.int .u8 qkq,AV.int .i64 qcz,AV.int .i64 qc0,AV.bool qkn,AV.bool qks,AV.flt .f64 qhq,AV.flt .f64 qip,AV.flt .f64 qiq].length - 0) fun (j : Nat) => [AV.str qkt,AV.int .u8 qkq,AV.int .i64 qcz,AV.int .i64 qc0,AV.bool qkn,AV.bool qks,AV.flt .f64 qhq,AV.flt .f64 qip,AV.flt .f64 qiq].getD (0 + j) AV.dead,AV.rp ([AV.flt .f64 (some (FloatKind.f64.nearest (toI ((toT (getV r0)).tail.tail.headD .dead))))].length - 0) fun (j : Nat) => [AV.flt .f64 (some (FloatKind.f64.nearest (toI ((toT (getV r0)).tail.tail.headD .dead))))].getD (0 + j) AV.dead,AV.rp ([AV.flt .f64 (toF ((toC ((toT (getV r1)).headD .dead)).headD .dead)),AV.flt .f64 (toF ((toC ((toT (getV r1)).headD .dead)).tail.headD .dead))].length - 0) fun (j : Nat) => [AV.flt .f64 (toF ((toC ((toT (getV r1)).headD .dead)).headD .dead)),AV.flt .f64 (toF ((toC ((toT (getV r1)).headD .dead)).tail.headD .dead))].getD (0 + j) AV.dead,AV.rp ([AV.flt .f64 (toF ((toT (getV r1)).tail.headD .dead))].length - 0) fun (j : Nat) => [AV.flt .f64 (toF ((toT (getV r1)).tail.headD .dead))].getD (0 + j) AV.dead]; ck (okM [RS.agg [LK.i .i64,LK.i .u8,LK.i .i64,LK.i .i64,LK.i .i64,LK.i .i64,LK.i .i64,LK.i .i64,LK.f .f64,LK.f .f64,LK.f .f64]] r15) <| some (AV.tup [AV.ro 11 [[AV.int .i64 (toI ((toC (getV r7)).headD .dead)),AV.int .u8 (toI ((toC (getV r7)).tail.headD .dead)),AV.int .i64 (toI ((toC (getV r7)).tail.tail.headD .dead)),AV.int .i64 (toI ((toC (getV r7)).tail.tail.tail.headD .dead)),AV.int .i64 (toI ((toC (getV r7)).tail.tail.tail.tail.headD .dead)),AV.int .i64 (toI ((toC (getV r7)).tail.tail.tail.tail.tail.headD .dead)),AV.int .i64 (toI ((toC (getV r7)).tail.tail.tail.tail.tail.tail.headD .dead)),AV.int .i64 (toI ((toC (getV r7)).tail.tail.tail.tail.tail.tail.tail.headD .dead)),AV.flt .f64 (toF ((toC (getV r7)).tail.tail.tail.tail.tail.tail.tail.tail.headD .dead)),AV.flt .f64 (toF ((toC (getV r7)).tail.tail.tail.tail.tail.tail.tail.tail.tail.headD .dead)),AV.flt .f64 (toF ((toC (getV r7)).tail.tail.tail.tail.tail.tail.tail.tail.tail.tail.headD .dead))],[AV.int .i64 (toI ((toC (getV r15)).headD .dead)),AV.int .u8 (toI ((toC (getV r15)).tail.headD .dead)),AV.int .i64 (toI ((toC (getV r15)).tail.tail.headD .dead)),AV.int .i64 (toI ((toC (getV r15)).tail.tail.tail.headD .dead)),AV.int .i64 (toI ((toC (getV r15)).tail.tail.tail.tail.headD .dead)),AV.int .i64 (toI ((toC (getV r15)).tail.tail.tail.tail.tail.headD .dead)),AV.int .i64 (toI ((toC (getV r15)).tail.tail.tail.tail.tail.tail.headD .dead)),AV.int .i64 (toI ((toC (getV r15)).tail.tail.tail.tail.tail.tail.tail.headD .dead)),AV.flt .f64 (toF ((toC (getV r15)).tail.tail.tail.tail.tail.tail.tail.tail.headD .dead)),AV.flt .f64 (toF ((toC (getV r15)).tail.tail.tail.tail.tail.tail.tail.tail.tail.headD .dead)),AV.flt .f64 (toF ((toC (getV r15)).tail.tail.tail.tail.tail.tail.tail.tail.tail.tail.headD .dead))]].length [[AV.int .i64 (toI ((toC (getV r7)).headD .dead)),AV.int .u8 (toI ((toC (getV r7)).tail.headD .dead)),AV.int .i64 (toI ((toC (getV r7)).tail.tail.headD .dead)),AV.int .i64 (toI ((toC (getV r7)).tail.tail.tail.headD .dead)),AV.int .i64 (toI ((toC (getV r7)).tail.tail.tail.tail.headD .dead)),AV.int .i64 (toI ((toC (getV r7)).tail.tail.tail.tail.tail.headD .dead)),AV.int .i64 (toI ((toC (getV r7)).tail.tail.tail.tail.tail.tail.headD .dead)),AV.int .i64 (toI ((toC (getV r7)).tail.tail.tail.tail.tail.tail.tail.headD .dead)),AV.flt .f64 (toF ((toC (getV r7)).tail.tail.tail.tail.tail.tail.tail.tail.headD .dead)),AV.flt .f64 (toF ((toC (getV r7)).tail.tail.tail.tail.tail.tail.tail.tail.tail.headD .dead)),AV.flt .f64 (toF ((toC (getV r7)).tail.tail.tail.tail.tail.tail.tail.tail.tail.tail.headD .dead))],[AV.int .i64 (toI ((toC (getV r15)).headD .dead)),AV.int .u8 (toI ((toC (getV r15)).tail.headD .dead)),AV.int .i64 (toI ((toC (getV r15)).tail.tail.headD .dead)),AV.int .i64 (toI ((toC (getV r15)).tail.tail.tail.headD .dead)),AV.int .i64 (toI ((toC (getV r15)).tail.tail.tail.tail.headD .dead)),AV.int .i64 (toI ((toC (getV r15)).tail.tail.tail.tail.tail.headD .dead)),AV.int .i64 (toI ((toC (getV r15)).tail.tail.tail.tail.tail.tail.headD .dead)),AV.int .i64 (toI ((toC (getV r15)).tail.tail.tail.tail.tail.tail.tail.headD .dead)),AV.flt .f64 (toF ((toC (getV r15)).tail.tail.tail.tail.tail.tail.tail.tail.headD .dead)),AV.flt .f64 (toF ((toC (getV r15)).tail.tail.tail.tail.tail.tail.tail.tail.tail.headD .dead)),AV.flt .f64 (toF ((toC (getV r15)).tail.tail.tail.tail.tail.tail.tail.tail.tail.tail.headD .dead))]].length fun (i j : Nat) => ([[AV.int .i64 (toI ((toC (getV r7)).headD .dead)),AV.int .u8 (toI ((toC (getV r7)).tail.headD .dead)),AV.int .i64 (toI ((toC (getV r7)).tail.tail.headD .dead)),AV.int .i64 (toI ((toC (getV r7)).tail.tail.tail.headD .dead)),AV.int .i64 (toI ((toC (getV r7)).tail.tail.tail.tail.headD .dead)),AV.int .i64 (toI ((toC (getV r7)).tail.tail.tail.tail.tail.headD .dead)),AV.int .i64 (toI ((toC (getV r7)).tail.tail.tail.tail.tail.tail.headD .dead)),AV.int .i64 (toI ((toC (getV r7)).tail.tail.tail.tail.tail.tail.tail.headD .dead)),AV.flt .f64 (toF ((toC (getV r7)).tail.tail.tail.tail.tail.tail.tail.tail.headD .dead)),AV.flt .f64 (toF ((toC (getV r7)).tail.tail.tail.tail.tail.tail.tail.tail.tail.headD .dead)),AV.flt .f64 (toF ((toC (getV r7)).tail.tail.tail.tail.tail.tail.tail.tail.tail.tail.headD .dead))],[AV.int .i64 (toI ((toC (getV r15)).headD .dead)),AV.int .u8 (toI ((toC (getV r15)).tail.headD .dead)),AV.int .i64 (toI ((toC (getV r15)).tail.tail.headD .dead)),AV.int .i64 (toI ((toC (getV r15)).tail.tail.tail.headD .dead)),AV.int .i64 (toI ((toC (getV r15)).tail.tail.tail.tail.headD .dead)),AV.int .i64 (toI ((toC (getV r15)).tail.tail.tail.tail.tail.headD .dead)),AV.int .i64 (toI ((toC (getV r15)).tail.tail.tail.tail.tail.tail.headD .dead)),AV.int .i64 (toI ((toC (getV r15)).tail.tail.tail.tail.tail.tail.tail.headD .dead)),AV.flt .f64 (toF ((toC (getV r15)).tail.tail.tail.tail.tail.tail.tail.tail.headD .dead)),AV.flt .f64 (toF ((toC (getV r15)).tail.tail.tail.tail.tail.tail.tail.tail.tail.headD .dead)),AV.flt .f64 (toF ((toC (getV r15)).tail.tail.tail.tail.tail.tail.tail.tail.tail.tail.headD .dead))]].getD i []).getD j AV.dead])
  else some (AV.tup [AV.ro 11 [[AV.int .i64 (toI ((toC (getV r7)).headD .dead)),AV.int .u8 (toI ((toC (getV r7)).tail.headD .dead)),AV.int .i64 (toI ((toC (getV r7)).tail.tail.headD .dead)),AV.int .i64 (toI ((toC (getV r7)).tail.tail.tail.headD .dead)),AV.int .i64 (toI ((toC (getV r7)).tail.tail.tail.tail.headD .dead)),AV.int .i64 (toI ((toC (getV r7)).tail.tail.tail.tail.tail.headD .dead)),AV.int .i64 (toI ((toC (getV r7)).tail.tail.tail.tail.tail.tail.headD .dead)),AV.int .i64 (toI ((toC (getV r7)).tail.tail.tail.tail.tail.tail.tail.headD .dead)),AV.flt .f64 (toF ((toC (getV r7)).tail.tail.tail.tail.tail.tail.tail.tail.headD .dead)),AV.flt .f64 (toF ((toC (getV r7)).tail.tail.tail.tail.tail.tail.tail.tail.tail.headD .dead)),AV.flt .f64 (toF ((toC (getV r7)).tail.tail.tail.tail.tail.tail.tail.tail.tail.tail.headD .dead))]].length [[AV.int .i64 (toI ((toC (getV r7)).headD .dead)),AV.int .u8 (toI ((toC (getV r7)).tail.headD .dead)),AV.int .i64 (toI ((toC (getV r7)).tail.tail.headD .dead)),AV.int .i64 (toI ((toC (getV r7)).tail.tail.tail.headD .dead)),AV.int .i64 (toI ((toC (getV r7)).tail.tail.tail.tail.headD .dead)),AV.int .i64 (toI ((toC (getV r7)).tail.tail.tail.tail.tail.headD .dead)),AV.int .i64 (toI ((toC (getV r7)).tail.tail.tail.tail.tail.tail.headD .dead)),AV.int .i64 (toI ((toC (getV r7)).tail.tail.tail.tail.tail.tail.tail.headD .dead)),AV.flt .f64 (toF ((toC (getV r7)).tail.tail.tail.tail.tail.tail.tail.tail.headD .dead)),AV.flt .f64 (toF ((toC (getV r7)).tail.tail.tail.tail.tail.tail.tail.tail.tail.headD .dead)),AV.flt .f64 (toF ((toC (getV r7)).tail.tail.tail.tail.tail.tail.tail.tail.tail.tail.headD .dead))]].length fun (i j : Nat) => ([[AV.int .i64 (toI ((toC (getV r7)).headD .dead)),AV.int .u8 (toI ((toC (getV r7)).tail.headD .dead)),AV.int .i64 (toI ((toC (getV r7)).tail.tail.headD .dead)),AV.int .i64 (toI ((toC (getV r7)).tail.tail.tail.headD .dead)),AV.int .i64 (toI ((toC (getV r7)).tail.tail.tail.tail.headD .dead)),AV.int .i64 (toI ((toC (getV r7)).tail.tail.tail.tail.tail.headD .dead)),AV.int .i64 (toI ((toC (getV r7)).tail.tail.tail.tail.tail.tail.headD .dead)),AV.int .i64 (toI ((toC (getV r7)).tail.tail.tail.tail.tail.tail.tail.headD .dead)),AV.flt .f64 (toF ((toC (getV r7)).tail.tail.tail.tail.tail.tail.tail.tail.headD .dead)),AV.flt .f64 (toF ((toC (getV r7)).tail.tail.tail.tail.tail.tail.tail.tail.tail.headD .dead)),AV.flt .f64 (toF ((toC (getV r7)).tail.tail.tail.tail.tail.tail.tail.tail.tail.tail.headD .dead))]].getD i []).getD j AV.dead])
theorem gbars_springs_a_run (zk v7 : Mo) (vg zt : Mo) (zq yr vi : Mo) (fuel qaw qbh : Nat) (yc : Ge) (qav qa5 : Nat) (y4 : Ge) (qkt : ByteArray) (qkq qcz qc0 : Int) (qkn qks : Bool) (qhq qip qiq : Option Nat) : runX Pr (Gbars_springs_a zk v7 vg zt zq yr vi) [((6,19),Lbars_springs_a zk v7 vg zt zq yr vi fuel)] fuel 7 19 Xbars_springs_a [AV.agg [AV.ro 4 qaw qbh yc,AV.ro 9 qav qa5 y4],AV.agg [AV.str qkt,AV.int .u8 qkq,AV.int .i64 qcz,AV.int .i64 qc0,AV.bool qkn,AV.bool qks,AV.flt .f64 qhq,AV.flt .f64 qip,AV.flt .f64 qiq]] [] = gbars_springs_a zk v7 vg zt zq yr vi fuel qaw qbh yc qav qa5 y4 qkt qkq qcz qc0 qkn qks qhq qip qiq := by kernel_rfl
noncomputable def mbars_springs_a (zk v7 : Mo) (vg zt : Mo) (zq yr vi : Mo) (fuel : Nat) (xs : List AV) : Option AV := match xs with
  | [AV.agg [AV.ro 4 qaw qbh yc,AV.ro 9 qav qa5 y4],AV.agg [AV.str qkt,AV.int .u8 qkq,AV.int .i64 qcz,AV.int .i64 qc0,AV.bool qkn,AV.bool qks,AV.flt .f64 qhq,AV.flt .f64 qip,AV.flt .f64 qiq]] => gbars_springs_a zk v7 vg zt zq yr vi fuel qaw qbh yc qav qa5 y4 qkt qkq qcz qc0 qkn qks qhq qip qiq
  | _ => none
theorem gbars_springs_a_sm (zk v7 : Mo) (vg zt : Mo) (zq yr vi : Mo) (fuel : Nat) (hΓ : GamOk Pr (Gbars_springs_a zk v7 vg zt zq yr vi)) (hP : NamesOk Pr) : XOk Pr 19 (smX Rbars_springs_a Xbars_springs_a (mbars_springs_a zk v7 vg zt zq yr vi fuel)) Xbars_springs_a := by
  refine smX_ok (fuel := fuel) hΓ hP (LamOk.of 6 19 (Lbars_springs_a zk v7 vg zt zq yr vi fuel) 0 (by kernel_rfl) (fun i hi => ?_)) 7 19 Rbars_springs_a Xbars_springs_a _ (fun xs0 ys0 v ha hb h => ?_)
  · match i,hi with
    | i + 0,hi => exact absurd hi (by omega)
  · skip
    have ha0 : xs0.length = 2 := ha
    clear ha
    obtain ⟨a0,xs1,rfl,ha1⟩ := len_cons ha0
    clear ha0
    obtain ⟨a1,xs2,rfl,ha2⟩ := len_cons ha1
    clear ha1
    obtain rfl := List.eq_nil_of_length_eq_zero ha2
    have hy0 : ys0.map List.length = [] := hb
    clear hb
    obtain rfl := map_nil' hy0
    have h : mbars_springs_a zk v7 vg zt zq yr vi fuel [a0,a1] = some v := h
    generalize hx0 : [a0,a1] = zs at h
    unfold mbars_springs_a at h
    split at h
    · skip
      obtain ⟨rfl,hx1⟩ := List.cons.inj hx0
      obtain ⟨rfl,hx2⟩ := List.cons.inj hx1
      simp only [List.map_cons,List.map_nil]
      exact (gbars_springs_a_run zk v7 vg zt zq yr vi fuel _ _ _ _ _ _ _ _ _ _ _ _ _ _ _).trans h
    · cases h
noncomputable def Sbars_Springs_a_0 (ui7 : Int) (qd1 qd0 : Nat) (qdr : Ge) (qga qge : Int) (u31 u32 : Int) (qb5 qb3 : Nat) (qcb : Ge) (qb7 qb9 : Nat) (qb4 : Ge) (qaq : List AV) (qar : List (List AV)) (qdm : ByteArray) (qjg qi9 qiy : Int) (qja qi7 : Bool) (qis qiw qiz : Option Nat) (h3z : List AV) (h3e : List (List AV)) : St := { env := [(1,AV.ptr 0 0),(6,AV.lst 1 11),(7,AV.int .i64 ui7),(9,AV.lst 3 11),(20,AV.ro 9 qd1 qd0 qdr),(21,AV.int .i64 qga),(22,AV.int .i64 qge),(31,AV.int .i64 u31),(32,AV.int .i64 u32)],h := [Blk.box [AV.ro 4 qb5 qb3 qcb,AV.ro 9 qb7 qb9 qb4],Blk.fl 11 qaq qar,Blk.box [AV.str qdm,AV.int .u8 qjg,AV.int .i64 qi9,AV.int .i64 qiy,AV.bool qja,AV.bool qi7,AV.flt .f64 qis,AV.flt .f64 qiw,AV.flt .f64 qiz],Blk.fl 11 h3z h3e],kd := [3,1] }
noncomputable def Xbars_Springs_a_0_0 (qqr qrn : Nat) (qrs : Ge) (qte qs3 : Int) (qfl qfk : Nat) (qe7 : Ge) (qfd qfh : Nat) (qfi : Ge) (ql6 : List AV) (ql4 : List (List AV)) (qet : ByteArray) (qgx qgp qgy : Int) (qkk qj0 : Bool) (qj4 qj7 qj1 : Option Nat) (qhy : List AV) (qh2 : List (List AV)) : St := { env := [(1,AV.ptr 0 0),(6,AV.lst 1 11),(9,AV.lst 3 11),(20,AV.ro 9 qqr qrn qrs),(21,AV.int .i64 qte),(22,AV.int .i64 qs3)],h := [Blk.box [AV.ro 4 qfl qfk qe7,AV.ro 9 qfd qfh qfi],Blk.fl 11 ql6 ql4,Blk.box [AV.str qet,AV.int .u8 qgx,AV.int .i64 qgp,AV.int .i64 qgy,AV.bool qkk,AV.bool qj0,AV.flt .f64 qj4,AV.flt .f64 qj7,AV.flt .f64 qj1],Blk.fl 11 qhy qh2],kd := [3,1] }
noncomputable def gbars_Springs_a_l0_step (wc qs : Mo) (fuel : Nat) (kn : Int → List (List AV) → Option AV) (kx0 : Nat → Nat → Ge → Int → Int → Nat → Nat → Ge → Nat → Nat → Ge → List AV → List (List AV) → ByteArray → Int → Int → Int → Bool → Bool → Option Nat → Option Nat → Option Nat → List AV → List (List AV) → Option AV) (ui7 : Int) (qd1 qd0 : Nat) (qdr : Ge) (qga qge u31 : Int) (qb5 qb3 : Nat) (qcb : Ge) (qb7 qb9 : Nat) (qb4 : Ge) (qaq : List AV) (qar : List (List AV)) (qdm : ByteArray) (qjg qi9 qiy : Int) (qja qi7 : Bool) (qis qiw qiz : Option Nat) (h3z : List AV) (u32 : Int) (h3e : List (List AV)) : Option AV :=
  bif decide (u32 < u31) then ck (decide (0 ≤ u32)) <| ck (decide (u32 < (↑h3e.length : Int))) <| kn (IntKind.i64.wrap (u32 + 1)) (h3e.set u32.toNat (AV.int .i64 ui7 :: List.drop (0 + [AV.int .i64 ui7].length) (h3e.getD u32.toNat h3z)))
  else kx0 qd1 qd0 qdr qga qge qb5 qb3 qcb qb7 qb9 qb4 qaq qar qdm qjg qi9 qiy qja qi7 qis qiw qiz h3z h3e
noncomputable def gbars_Springs_a_l0 (wc qs : Mo) (fuel : Nat) (kx0 : Nat → Nat → Ge → Int → Int → Nat → Nat → Ge → Nat → Nat → Ge → List AV → List (List AV) → ByteArray → Int → Int → Int → Bool → Bool → Option Nat → Option Nat → Option Nat → List AV → List (List AV) → Option AV) (ui7 : Int) (qd1 qd0 : Nat) (qdr : Ge) (qga qge u31 : Int) (qb5 qb3 : Nat) (qcb : Ge) (qb7 qb9 : Nat) (qb4 : Ge) (qaq : List AV) (qar : List (List AV)) (qdm : ByteArray) (qjg qi9 qiy : Int) (qja qi7 : Bool) (qis qiw qiz : Option Nat) (h3z : List AV) : Nat → Int → List (List AV) → Option AV
  | 0,_,_ => none
  | n' + 1,u32,h3e => gbars_Springs_a_l0_step wc qs fuel (gbars_Springs_a_l0 wc qs fuel kx0 ui7 qd1 qd0 qdr qga qge u31 qb5 qb3 qcb qb7 qb9 qb4 qaq qar qdm qjg qi9 qiy qja qi7 qis qiw qiz h3z n') kx0 ui7 qd1 qd0 qdr qga qge u31 qb5 qb3 qcb qb7 qb9 qb4 qaq qar qdm qjg qi9 qiy qja qi7 qis qiw qiz h3z u32 h3e
termination_by structural k => k
noncomputable def Tbars_Springs_a_0 : TS' := ⟨[(1,TA.ptr 0 0),(6,TA.lst 1 11),(7,TA.i .i64),(9,TA.lst 3 11),(20,TA.ro 9),(21,TA.i .i64),(22,TA.i .i64),(31,TA.i .i64),(32,TA.i .i64)],[TB.box [TA.ro 4,TA.ro 9],TB.fl 11,TB.box [TA.s,TA.i .u8,TA.i .i64,TA.i .i64,TA.b,TA.b,TA.f .f64,TA.f .f64,TA.f .f64],TB.fl 11],[3,1]⟩
noncomputable def Fbars_Springs_a_0 (wc qs : Mo) (fuel : Nat) (ps : List Pay) (K : Ex → St → Option AV) : Option AV := match ps with
  | .i ui7 :: .n qd1 :: .n qd0 :: .g qdr :: .i qga :: .i qge :: .i u31 :: .i u32 :: .n qb5 :: .n qb3 :: .g qcb :: .n qb7 :: .n qb9 :: .g qb4 :: .z qaq :: .e qar :: .s qdm :: .i qjg :: .i qi9 :: .i qiy :: .b qja :: .b qi7 :: .o qis :: .o qiw :: .o qiz :: .z h3z :: .e h3e :: [] => gbars_Springs_a_l0 wc qs fuel (fun qqr qrn qrs qte qs3 qfl qfk qe7 qfd qfh qfi ql6 ql4 qet qgx qgp qgy qkk qj0 qj4 qj7 qj1 qhy qh2 => K (Ex.exit 2) (Xbars_Springs_a_0_0 qqr qrn qrs qte qs3 qfl qfk qe7 qfd qfh qfi ql6 ql4 qet qgx qgp qgy qkk qj0 qj4 qj7 qj1 qhy qh2)) ui7 qd1 qd0 qdr qga qge u31 qb5 qb3 qcb qb7 qb9 qb4 qaq qar qdm qjg qi9 qiy qja qi7 qis qiw qiz h3z fuel u32 h3e
  | _ => none
noncomputable def Sbars_Springs_a_1 (qjh qjr : Nat) (qc3 : Ge) (u21 u22 : Int) (yo yp : Nat) (ym : Ge) (q5 q8 : Nat) (q7 : Ge) (h1z : List AV) (h1e : List (List AV)) : St := { env := [(1,AV.ptr 0 0),(6,AV.lst 1 11),(20,AV.ro 9 qjh qjr qc3),(21,AV.int .i64 u21),(22,AV.int .i64 u22)],h := [Blk.box [AV.ro 4 yo yp ym,AV.ro 9 q5 q8 q7],Blk.fl 11 h1z h1e],kd := [1] }
noncomputable def Xbars_Springs_a_1_0 (qe8 qe6 : Nat) (qfa : Ge) (qfc qfe : Nat) (qfj : Ge) (qou : List AV) (qn7 : List (List AV)) : St := { env := [(6,AV.lst 1 11)],h := [Blk.box [AV.ro 4 qe8 qe6 qfa,AV.ro 9 qfc qfe qfj],Blk.fl 11 qou qn7],kd := [1] }
noncomputable def gbars_Springs_a_l1_step (wc qs : Mo) (fuel : Nat) (kn : Nat → Nat → Ge → Int → Int → Nat → Nat → Ge → Nat → Nat → Ge → List AV → List (List AV) → Option AV) (kx0 : Nat → Nat → Ge → Nat → Nat → Ge → List AV → List (List AV) → Option AV) (qjh qjr : Nat) (qc3 : Ge) (u21 u22 : Int) (yo yp : Nat) (ym : Ge) (q5 q8 : Nat) (q7 : Ge) (h1z : List AV) (h1e : List (List AV)) : Option AV :=
  bif decide (u22 < u21) then ck (decide (0 ≤ u22)) <| ck (decide (u22 < (↑qjh : Int))) <| ck (fitKs [LK.s,LK.i .u8,LK.i .i64,LK.i .i64,LK.b,LK.b,LK.f .f64,LK.f .f64,LK.f .f64] [qc3 u22.toNat 0,qc3 u22.toNat 1,qc3 u22.toNat 2,qc3 u22.toNat 3,qc3 u22.toNat 4,qc3 u22.toNat 5,qc3 u22.toNat 6,qc3 u22.toNat 7,qc3 u22.toNat 8]) <| let r1 : Option AV := qs [AV.agg [AV.ro 4 yo yp ym,AV.ro 9 q5 q8 q7],AV.agg [AV.str (toS (qc3 u22.toNat 0)),AV.int .u8 (toI (qc3 u22.toNat 1)),AV.int .i64 (toI (qc3 u22.toNat 2)),AV.int .i64 (toI (qc3 u22.toNat 3)),AV.bool (toB (qc3 u22.toNat 4)),AV.bool (toB (qc3 u22.toNat 5)),AV.flt .f64 (toF (qc3 u22.toNat 6)),AV.flt .f64 (toF (qc3 u22.toNat 7)),AV.flt .f64 (toF (qc3 u22.toNat 8))]]; ck (okX [RS.one (LK.l 11)] r1) <| gbars_Springs_a_l0 wc qs fuel
      (fun (qm9 qnl : Nat) (qn6 : Ge) (qsr qss : Int) (p9 p8 : Nat) (qaa : Ge) (zx zv : Nat) (zw : Ge) (qdf : List AV) (qci : List (List AV)) (_ : ByteArray) (_ _ _ : Int) (_ _ : Bool) (_ _ _ : Option Nat) (qi4 : List AV) (qhs : List (List AV)) => ck (decide ((qci.length + qhs.length) * 88 < 70368744177664)) <| ck (decide (qci.length + qhs.length < 4611686018427387904)) <| kn qm9 qnl qn6 qsr (IntKind.i64.wrap (qss + 1)) p9 p8 qaa zx zv zw qdf (qci ++ rows 11 qhs.length fun (i j : Nat) => (qhs.getD i qi4).getD j AV.dead))
      u22
      qjh
      qjr
      qc3
      u21
      u22
      ((↑(rows 11 (match (toT (getV r1)).headD .dead with | AV.ro sz n rd get => n | x => 0) (toG (AV.ro 11 (toN ((toT (getV r1)).headD .dead)) (toR ((toT (getV r1)).headD .dead)) (toG ((toT (getV r1)).headD .dead))))).length : Int))
      yo
      yp
      ym
      q5
      q8
      q7
      h1z
      h1e
      (toS (qc3 u22.toNat 0))
      (toI (qc3 u22.toNat 1))
      (toI (qc3 u22.toNat 2))
      (toI (qc3 u22.toNat 3))
      (toB (qc3 u22.toNat 4))
      (toB (qc3 u22.toNat 5))
      (toF (qc3 u22.toNat 6))
      (toF (qc3 u22.toNat 7))
      (toF (qc3 u22.toNat 8))
      ([AV.int .i64 0,AV.int .u8 0,AV.int .i64 0,AV.int .i64 0,AV.int .i64 0,AV.int .i64 0,AV.int .i64 0,AV.int .i64 0,AV.flt .f64 (some 0),AV.flt .f64 (some 0),AV.flt .f64 (some 0)]) fuel (0) (rows 11 (match (toT (getV r1)).headD .dead with | AV.ro sz n rd get => n | x => 0) (toG (AV.ro 11 (toN ((toT (getV r1)).headD .dead)) (toR ((toT (getV r1)).headD .dead)) (toG ((toT (getV r1)).headD .dead)))))
  else kx0 yo yp ym q5 q8 q7 h1z h1e
noncomputable def gbars_Springs_a_l1 (wc qs : Mo) (fuel : Nat) (kx0 : Nat → Nat → Ge → Nat → Nat → Ge → List AV → List (List AV) → Option AV) : Nat → Nat → Nat → Ge → Int → Int → Nat → Nat → Ge → Nat → Nat → Ge → List AV → List (List AV) → Option AV
  | 0,_,_,_,_,_,_,_,_,_,_,_,_,_ => none
  | n' + 1,qjh,qjr,qc3,u21,u22,yo,yp,ym,q5,q8,q7,h1z,h1e => gbars_Springs_a_l1_step wc qs fuel (gbars_Springs_a_l1 wc qs fuel kx0 n') kx0 qjh qjr qc3 u21 u22 yo yp ym q5 q8 q7 h1z h1e
termination_by structural k => k
noncomputable def Tbars_Springs_a_1 : TS' := ⟨[(1,TA.ptr 0 0),(6,TA.lst 1 11),(20,TA.ro 9),(21,TA.i .i64),(22,TA.i .i64)],[TB.box [TA.ro 4,TA.ro 9],TB.fl 11],[1]⟩
noncomputable def Fbars_Springs_a_1 (wc qs : Mo) (fuel : Nat) (ps : List Pay) (K : Ex → St → Option AV) : Option AV := match ps with
  | .n qjh :: .n qjr :: .g qc3 :: .i u21 :: .i u22 :: .n yo :: .n yp :: .g ym :: .n q5 :: .n q8 :: .g q7 :: .z h1z :: .e h1e :: [] => gbars_Springs_a_l1 wc qs fuel (fun qe8 qe6 qfa qfc qfe qfj qou qn7 => K (Ex.exit 0) (Xbars_Springs_a_1_0 qe8 qe6 qfa qfc qfe qfj qou qn7)) fuel qjh qjr qc3 u21 u22 yo yp ym q5 q8 q7 h1z h1e
  | _ => none
noncomputable def Lbars_Springs_a (wc qs : Mo) (fuel : Nat) : Lam AV := [(2194728289280,lam Tbars_Springs_a_0 (Fbars_Springs_a_0 wc qs fuel)),(35184367896512,lam Tbars_Springs_a_1 (Fbars_Springs_a_1 wc qs fuel))]
noncomputable def Gbars_Springs_a (wc qs : Mo) : Gam := [(6,smM [RS.one (LK.i .i64),RS.one (LK.i .i64)] wc),(19,smX Rbars_springs_a Xbars_springs_a qs)]
theorem gbars_Springs_a_l0_eq (wc qs : Mo) (fuel : Nat) (kn : St → Option AV) (K : Ex → St → Option AV) (ui7 : Int) (qd1 qd0 : Nat) (qdr : Ge) (qga qge u31 : Int) (qb5 qb3 : Nat) (qcb : Ge) (qb7 qb9 : Nat) (qb4 : Ge) (qaq : List AV) (qar : List (List AV)) (qdm : ByteArray) (qjg qi9 qiy : Int) (qja qi7 : Bool) (qis qiw qiz : Option Nat) (h3z : List AV) (qty : Int) (ql9 : List (List AV)) (u32 : Int) (h3e : List (List AV)) :
    bX Pr (Gbars_Springs_a wc qs) (Lbars_Springs_a wc qs fuel) 6 9 1 fuel (Sbars_Springs_a_0 ui7 qd1 qd0 qdr qga qge u31 u32 qb5 qb3 qcb qb7 qb9 qb4 qaq qar qdm qjg qi9 qiy qja qi7 qis qiw qiz h3z h3e) (fun e s => match e with | .normal => kn (hX Pr 9 1 (Sbars_Springs_a_0 ui7 qd1 qd0 qdr qga qge u31 qty qb5 qb3 qcb qb7 qb9 qb4 qaq qar qdm qjg qi9 qiy qja qi7 qis qiw qiz h3z ql9) s) | e => K e s) =
    gbars_Springs_a_l0_step wc qs fuel (fun u32 h3e => kn (Sbars_Springs_a_0 ui7 qd1 qd0 qdr qga qge u31 u32 qb5 qb3 qcb qb7 qb9 qb4 qaq qar qdm qjg qi9 qiy qja qi7 qis qiw qiz h3z h3e)) (fun qm9 qnl qn6 qsr qss p9 p8 qaa zx zv zw qdf qci qez xh2_1 xh2_2 xh2_3 xh2_4 xh2_5 xh2_6 xh2_7 xh2_8 qi4 qhs => K (Ex.exit 2) (Xbars_Springs_a_0_0 qm9 qnl qn6 qsr qss p9 p8 qaa zx zv zw qdf qci qez xh2_1 xh2_2 xh2_3 xh2_4 xh2_5 xh2_6 xh2_7 xh2_8 qi4 qhs)) ui7 qd1 qd0 qdr qga qge u31 qb5 qb3 qcb qb7 qb9 qb4 qaq qar qdm qjg qi9 qiy qja qi7 qis qiw qiz h3z u32 h3e := by kernel_rfl
theorem gbars_Springs_a_l0_ok (wc qs : Mo) (fuel : Nat) (K : Ex → St → Option AV) (ui7 : Int) (qd1 qd0 : Nat) (qdr : Ge) (qga qge u31 : Int) (qb5 qb3 : Nat) (qcb : Ge) (qb7 qb9 : Nat) (qb4 : Ge) (qaq : List AV) (qar : List (List AV)) (qdm : ByteArray) (qjg qi9 qiy : Int) (qja qi7 : Bool) (qis qiw qiz : Option Nat) (h3z : List AV) (qty : Int) (ql9 : List (List AV)) : ∀ (n' : Nat) (u32 : Int) (h3e : List (List AV)),
    loopK (bX Pr (Gbars_Springs_a wc qs) (Lbars_Springs_a wc qs fuel) 6 9 1 fuel) (hX Pr 9 1 (Sbars_Springs_a_0 ui7 qd1 qd0 qdr qga qge u31 qty qb5 qb3 qcb qb7 qb9 qb4 qaq qar qdm qjg qi9 qiy qja qi7 qis qiw qiz h3z ql9)) n' (Sbars_Springs_a_0 ui7 qd1 qd0 qdr qga qge u31 u32 qb5 qb3 qcb qb7 qb9 qb4 qaq qar qdm qjg qi9 qiy qja qi7 qis qiw qiz h3z h3e) K = gbars_Springs_a_l0 wc qs fuel (fun qm9 qnl qn6 qsr qss p9 p8 qaa zx zv zw qdf qci qez xh2_1 xh2_2 xh2_3 xh2_4 xh2_5 xh2_6 xh2_7 xh2_8 qi4 qhs => K (Ex.exit 2) (Xbars_Springs_a_0_0 qm9 qnl qn6 qsr qss p9 p8 qaa zx zv zw qdf qci qez xh2_1 xh2_2 xh2_3 xh2_4 xh2_5 xh2_6 xh2_7 xh2_8 qi4 qhs)) ui7 qd1 qd0 qdr qga qge u31 qb5 qb3 qcb qb7 qb9 qb4 qaq qar qdm qjg qi9 qiy qja qi7 qis qiw qiz h3z n' u32 h3e
  | 0,_,_ => rfl
  | n' + 1,u32,h3e => (gbars_Springs_a_l0_eq wc qs fuel (fun s => loopK (bX Pr (Gbars_Springs_a wc qs) (Lbars_Springs_a wc qs fuel) 6 9 1 fuel) (hX Pr 9 1 (Sbars_Springs_a_0 ui7 qd1 qd0 qdr qga qge u31 qty qb5 qb3 qcb qb7 qb9 qb4 qaq qar qdm qjg qi9 qiy qja qi7 qis qiw qiz h3z ql9)) n' s K) K ui7 qd1 qd0 qdr qga qge u31 qb5 qb3 qcb qb7 qb9 qb4 qaq qar qdm qjg qi9 qiy qja qi7 qis qiw qiz h3z qty ql9 u32 h3e).trans
    (congrArg (fun kn => gbars_Springs_a_l0_step wc qs fuel kn _ ui7 qd1 qd0 qdr qga qge u31 qb5 qb3 qcb qb7 qb9 qb4 qaq qar qdm qjg qi9 qiy qja qi7 qis qiw qiz h3z u32 h3e) (funext fun u32 => funext fun h3e => gbars_Springs_a_l0_ok wc qs fuel K ui7 qd1 qd0 qdr qga qge u31 qb5 qb3 qcb qb7 qb9 qb4 qaq qar qdm qjg qi9 qiy qja qi7 qis qiw qiz h3z qty ql9 n' u32 h3e))
theorem gbars_Springs_a_L0 (wc qs : Mo) (fuel : Nat) : LX Pr (Gbars_Springs_a wc qs) (Lbars_Springs_a wc qs fuel) 6 9 1 fuel := by
  refine .of Tbars_Springs_a_0 (Fbars_Springs_a_0 wc qs fuel) (fun L h => ?_) (fun ps st K r he hr => ?_)
  · have e : (Lbars_Springs_a wc qs fuel).get (writes (lp Pr 9 1).1) = some (lam Tbars_Springs_a_0 (Fbars_Springs_a_0 wc qs fuel)) := by kernel_rfl
    exact (Option.some.inj (e.symm.trans h)).symm
  · unfold Fbars_Springs_a_0 at hr
    split at hr
    · obtain rfl := (Option.some.inj he).symm
      exact (gbars_Springs_a_l0_ok wc qs fuel K _ _ _ _ _ _ _ _ _ _ _ _ _ _ _ _ _ _ _ _ _ _ _ _ _ _ _ fuel _ _).trans hr
    · cases hr
theorem gbars_Springs_a_l1_eq (wc qs : Mo) (fuel : Nat) (kn : St → Option AV) (K : Ex → St → Option AV) (qpe qpi : Nat) (qpr : Ge) (qt2 qtr : Int) (ql3 qmc : Nat) (qml : Ge) (qg5 qg3 : Nat) (qha : Ge) (qmq : List AV) (qjn : List (List AV)) (qjh qjr : Nat) (qc3 : Ge) (u21 u22 : Int) (yo yp : Nat) (ym : Ge) (q5 q8 : Nat) (q7 : Ge) (h1z : List AV) (h1e : List (List AV)) :
    bX Pr (Gbars_Springs_a wc qs) (Lbars_Springs_a wc qs fuel) 6 9 0 fuel (Sbars_Springs_a_1 qjh qjr qc3 u21 u22 yo yp ym q5 q8 q7 h1z h1e) (fun e s => match e with | .normal => kn (hX Pr 9 0 (Sbars_Springs_a_1 qpe qpi qpr qt2 qtr ql3 qmc qml qg5 qg3 qha qmq qjn) s) | e => K e s) =
    gbars_Springs_a_l1_step wc qs fuel (fun qjh qjr qc3 u21 u22 yo yp ym q5 q8 q7 h1z h1e => kn (Sbars_Springs_a_1 qjh qjr qc3 u21 u22 yo yp ym q5 q8 q7 h1z h1e)) (fun p9 p8 qaa zx zv zw qdf qci => K (Ex.exit 0) (Xbars_Springs_a_1_0 p9 p8 qaa zx zv zw qdf qci)) qjh qjr qc3 u21 u22 yo yp ym q5 q8 q7 h1z h1e := by kernel_rfl
theorem gbars_Springs_a_l1_ok (wc qs : Mo) (fuel : Nat) (K : Ex → St → Option AV) (qpe qpi : Nat) (qpr : Ge) (qt2 qtr : Int) (ql3 qmc : Nat) (qml : Ge) (qg5 qg3 : Nat) (qha : Ge) (qmq : List AV) (qjn : List (List AV)) : ∀ (n' qjh qjr : Nat) (qc3 : Ge) (u21 u22 : Int) (yo yp : Nat) (ym : Ge) (q5 q8 : Nat) (q7 : Ge) (h1z : List AV) (h1e : List (List AV)),
    loopK (bX Pr (Gbars_Springs_a wc qs) (Lbars_Springs_a wc qs fuel) 6 9 0 fuel) (hX Pr 9 0 (Sbars_Springs_a_1 qpe qpi qpr qt2 qtr ql3 qmc qml qg5 qg3 qha qmq qjn)) n' (Sbars_Springs_a_1 qjh qjr qc3 u21 u22 yo yp ym q5 q8 q7 h1z h1e) K = gbars_Springs_a_l1 wc qs fuel (fun p9 p8 qaa zx zv zw qdf qci => K (Ex.exit 0) (Xbars_Springs_a_1_0 p9 p8 qaa zx zv zw qdf qci)) n' qjh qjr qc3 u21 u22 yo yp ym q5 q8 q7 h1z h1e
  | 0,_,_,_,_,_,_,_,_,_,_,_,_,_ => rfl
  | n' + 1,qjh,qjr,qc3,u21,u22,yo,yp,ym,q5,q8,q7,h1z,h1e => (gbars_Springs_a_l1_eq wc qs fuel (fun s => loopK (bX Pr (Gbars_Springs_a wc qs) (Lbars_Springs_a wc qs fuel) 6 9 0 fuel) (hX Pr 9 0 (Sbars_Springs_a_1 qpe qpi qpr qt2 qtr ql3 qmc qml qg5 qg3 qha qmq qjn)) n' s K) K qpe qpi qpr qt2 qtr ql3 qmc qml qg5 qg3 qha qmq qjn qjh qjr qc3 u21 u22 yo yp ym q5 q8 q7 h1z h1e).trans
    (congrArg (fun kn => gbars_Springs_a_l1_step wc qs fuel kn _ qjh qjr qc3 u21 u22 yo yp ym q5 q8 q7 h1z h1e) (funext fun qjh => funext fun qjr => funext fun qc3 => funext fun u21 => funext fun u22 => funext fun yo => funext fun yp => funext fun ym => funext fun q5 => funext fun q8 => funext fun q7 => funext fun h1z => funext fun h1e => gbars_Springs_a_l1_ok wc qs fuel K qpe qpi qpr qt2 qtr ql3 qmc qml qg5 qg3 qha qmq qjn n' qjh qjr qc3 u21 u22 yo yp ym q5 q8 q7 h1z h1e))
termination_by structural k => k
theorem gbars_Springs_a_L1 (wc qs : Mo) (fuel : Nat) : LX Pr (Gbars_Springs_a wc qs) (Lbars_Springs_a wc qs fuel) 6 9 0 fuel := by
  refine .of Tbars_Springs_a_1 (Fbars_Springs_a_1 wc qs fuel) (fun L h => ?_) (fun ps st K r he hr => ?_)
  · have e : (Lbars_Springs_a wc qs fuel).get (writes (lp Pr 9 0).1) = some (lam Tbars_Springs_a_1 (Fbars_Springs_a_1 wc qs fuel)) := by kernel_rfl
    exact (Option.some.inj (e.symm.trans h)).symm
  · unfold Fbars_Springs_a_1 at hr
    split at hr
    · obtain rfl := (Option.some.inj he).symm
      exact (gbars_Springs_a_l1_ok wc qs fuel K _ _ _ _ _ _ _ _ _ _ _ _ _ fuel _ _ _ _ _ _ _ _ _ _ _ _ _).trans hr
    · cases hr
noncomputable def gbars_Springs_a (wc qs : Mo) (fuel qaw qbh : Nat) (yc : Ge) (qav qa5 : Nat) (y4 : Ge) : Option AV :=
  let r0 : Option AV := wc [AV.agg [AV.ro 4 qaw qbh yc,AV.ro 9 qav qa5 y4]]; ck (okM [RS.one (LK.i .i64),RS.one (LK.i .i64)] r0) <| bif toI ((toT (getV r0)).headD .dead) != 0 then none
  else gbars_Springs_a_l1 wc qs fuel
    (fun (_ _ : Nat) (_ : Ge) (_ _ : Nat) (_ : Ge) (_ : List AV) (qh5 : List (List AV)) => some (AV.tup [AV.ro 11 qh5.length qh5.length fun (i j : Nat) => (qh5.getD i []).getD j AV.dead,AV.int .i64 0])) fuel qav qa5 y4 ((↑qav : Int)) (0) qaw qbh yc qav qa5 y4 ([AV.int .i64 0,AV.int .u8 0,AV.int .i64 0,AV.int .i64 0,AV.int .i64 0,AV.int .i64 0,AV.int .i64 0,AV.int .i64 0,AV.flt .f64 (some 0),AV.flt .f64 (some 0),AV.flt .f64 (some 0)]) ([])
theorem gbars_Springs_a_run (wc qs : Mo) (fuel qaw qbh : Nat) (yc : Ge) (qav qa5 : Nat) (y4 : Ge) : runX Pr (Gbars_Springs_a wc qs) [((6,9),Lbars_Springs_a wc qs fuel)] fuel 7 9 Xbars_Springs_a [AV.agg [AV.ro 4 qaw qbh yc,AV.ro 9 qav qa5 y4]] [] = gbars_Springs_a wc qs fuel qaw qbh yc qav qa5 y4 := by kernel_rfl
noncomputable def mbars_Springs_a (wc qs : Mo) (fuel : Nat) (xs : List AV) : Option AV := match xs with
  | [AV.agg [AV.ro 4 qaw qbh yc,AV.ro 9 qav qa5 y4]] => gbars_Springs_a wc qs fuel qaw qbh yc qav qa5 y4
  | _ => none
theorem gbars_Springs_a_sm (wc qs : Mo) (fuel : Nat) (hΓ : GamOk Pr (Gbars_Springs_a wc qs)) (hP : NamesOk Pr) : XOk Pr 9 (smX Rbars_Springs_a Xbars_Springs_a (mbars_Springs_a wc qs fuel)) Xbars_Springs_a := by
  refine smX_ok (fuel := fuel) hΓ hP (LamOk.of 6 9 (Lbars_Springs_a wc qs fuel) 2 (by kernel_rfl) (fun i hi => ?_)) 7 9 Rbars_Springs_a Xbars_Springs_a _ (fun xs0 ys0 v ha hb h => ?_)
  · match i,hi with
    | 1,_ => exact gbars_Springs_a_L0 wc qs fuel
    | 0,_ => exact gbars_Springs_a_L1 wc qs fuel
    | i + 2,hi => exact absurd hi (by omega)
  · skip
    have ha0 : xs0.length = 1 := ha
    clear ha
    obtain ⟨a0,xs1,rfl,ha1⟩ := len_cons ha0
    clear ha0
    obtain rfl := List.eq_nil_of_length_eq_zero ha1
    have hy0 : ys0.map List.length = [] := hb
    clear hb
    obtain rfl := map_nil' hy0
    have h : mbars_Springs_a wc qs fuel [a0] = some v := h
    generalize hx0 : [a0] = zs at h
    unfold mbars_Springs_a at h
    split at h
    · skip
      obtain ⟨rfl,hx1⟩ := List.cons.inj hx0
      simp only [List.map_cons,List.map_nil]
      exact (gbars_Springs_a_run wc qs fuel _ _ _ _ _ _).trans h
    · cases h
end Go.Proofs.Tryz
end
