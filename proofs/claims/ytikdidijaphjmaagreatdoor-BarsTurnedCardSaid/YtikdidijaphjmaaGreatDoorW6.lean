/- Part 6 of the proof: models of the functions, and laws on them. -/
import Derived.Test.YtikdidijaphjmaaGreatDoorW5
import Derived.Laws.Bits64
import Derived.Laws.BitsLemmas
import Derived.Laws.RangeAny
import Derived.Laws.RangeString
import Derived.MapKept
import Derived.KernelRfl
set_option linter.unusedVariables false
set_option linter.unusedSimpArgs false
set_option linter.unusedSectionVars false
section
namespace Go.Proofs.Tryz
open Go Go.Am
set_option maxRecDepth 1000000
def NN : Nat := 1125899906842624
def namesB (P : Program) : Bool := P.funcs.toList.all fun fn => !(fn.body.isSome) || !(fn.name == "runtime.NumGoroutine")
theorem names_of {P : Program} (h : namesB P = true) : NamesOk P := by
  intro f fn hf hb
  have := List.all_eq_true.1 h fn (by
    have : P.funcs.toList[f]? = some fn := by simpa using hf
    exact List.mem_of_getElem? this)
  simp only [hb, Bool.not_true, Bool.false_or, Bool.not_eq_true'] at this
  exact this
theorem namesA : NamesOk Pr := names_of (by decide +kernel)
theorem stub_ok (f : Nat) (rs : List RS) : SmOk Pr f (smM rs fun _ => none) :=
  ⟨fun args vs w S _ _ _ _ h => (by cases h), fun _ args h => (by cases h)⟩
theorem ext55 : SmOk Pr 55 sBits := bits_ok (fn := f55) (by kernel_rfl) (by kernel_rfl) (by kernel_rfl) (by kernel_rfl) (by kernel_rfl)
theorem ext76 : SmOk Pr 76 sFma := fma_ok (fn := f76) (by kernel_rfl) (by kernel_rfl) (by kernel_rfl) (by kernel_rfl) (by kernel_rfl)
theorem ext88 : SmOk Pr 88 sSqrt := sqrt_ok (fn := f88) (by kernel_rfl) (by kernel_rfl) (by kernel_rfl) (by kernel_rfl) (by kernel_rfl)
theorem ext101 : SmOk Pr 101 sFrom := from_ok (fn := f101) (by kernel_rfl) (by kernel_rfl) (by kernel_rfl) (by kernel_rfl) (by kernel_rfl)
def kround_cmp : Mo := fun _ => none
def kround_of : Mo := fun _ => none
def kround_times : Mo := fun _ => none
noncomputable def kkit_Pick : Mo := mkit_Pick  NN
theorem okkit_Pick : SmOk Pr 13 (smM Rkit_Pick kkit_Pick) := gkit_Pick_sm  NN (show GamOk Pr (Gkit_Pick ) from GamOk.nil) namesA
noncomputable def kmade_name : Mo := mmade_name  NN
theorem okmade_name : SmOk Pr 16 (smM Rmade_name kmade_name) := gmade_name_sm  NN (show GamOk Pr (Gmade_name ) from GamOk.nil) namesA
noncomputable def kmade_part : Mo := mmade_part  NN
theorem okmade_part : SmOk Pr 17 (smM Rmade_part kmade_part) := gmade_part_sm  NN (show GamOk Pr (Gmade_part ) from GamOk.nil) namesA
noncomputable def kmade_Number : Mo := mmade_Number  NN
theorem okmade_Number : SmOk Pr 35 (smM Rmade_Number kmade_Number) := gmade_Number_sm  NN (show GamOk Pr (Gmade_Number ) from GamOk.nil) namesA
noncomputable def kmade_number : Mo := mmade_number kmade_Number NN
theorem okmade_number : SmOk Pr 18 (smM Rmade_number kmade_number) := gmade_number_sm kmade_Number NN (show GamOk Pr (Gmade_number kmade_Number) from (.cons (okmade_Number) rfl GamOk.nil)) namesA
noncomputable def kmade_Sketch_Plan : Mo := mmade_Sketch_Plan kkit_Pick kmade_name kmade_part kmade_number NN
theorem okmade_Sketch_Plan : SmOk Pr 5 (smM Rmade_Sketch_Plan kmade_Sketch_Plan) := gmade_Sketch_Plan_sm kkit_Pick kmade_name kmade_part kmade_number NN (show GamOk Pr (Gmade_Sketch_Plan kkit_Pick kmade_name kmade_part kmade_number) from (.cons (okkit_Pick) rfl (.cons (okmade_name) rfl (.cons (okmade_part) rfl (.cons (okmade_number) rfl GamOk.nil))))) namesA
noncomputable def kjoints_named : Mo := mjoints_named  NN
theorem okjoints_named : SmOk Pr 56 (smM Rjoints_named kjoints_named) := gjoints_named_sm  NN (show GamOk Pr (Gjoints_named ) from GamOk.nil) namesA
noncomputable def kjoints_near : Mo := mjoints_near  NN
theorem okjoints_near : SmOk Pr 57 (smM Rjoints_near kjoints_near) := gjoints_near_sm  NN (show GamOk Pr (Gjoints_near ) from GamOk.nil) namesA
noncomputable def kjoints_Check : Mo := mjoints_Check kjoints_named kjoints_near NN
theorem okjoints_Check : SmOk Pr 36 (smM Rjoints_Check kjoints_Check) := gjoints_Check_sm kjoints_named kjoints_near NN (show GamOk Pr (Gjoints_Check kjoints_named kjoints_near) from (.cons (okjoints_named) rfl (.cons (okjoints_near) rfl GamOk.nil))) namesA
noncomputable def kbars_named : Mo := mbars_named  NN
theorem okbars_named : SmOk Pr 58 (smM Rbars_named kbars_named) := gbars_named_sm  NN (show GamOk Pr (Gbars_named ) from GamOk.nil) namesA
noncomputable def kbars_number : Mo := mbars_number  NN
theorem okbars_number : SmOk Pr 59 (smM Rbars_number kbars_number) := gbars_number_sm  NN (show GamOk Pr (Gbars_number ) from GamOk.nil) namesA
noncomputable def kbars_may : Mo := mbars_may kbars_named kbars_number NN
theorem okbars_may : SmOk Pr 37 (smM Rbars_may kbars_may) := gbars_may_sm kbars_named kbars_number NN (show GamOk Pr (Gbars_may kbars_named kbars_number) from (.cons (okbars_named) rfl (.cons (okbars_number) rfl (.cons ext55 rfl GamOk.nil)))) namesA
noncomputable def kbars_Check : Mo := mbars_Check kjoints_Check kbars_may NN
theorem okbars_Check : SmOk Pr 19 (smM Rbars_Check kbars_Check) := gbars_Check_sm kjoints_Check kbars_may NN (show GamOk Pr (Gbars_Check kjoints_Check kbars_may) from (.cons (okjoints_Check) rfl (.cons (okbars_may) rfl GamOk.nil))) namesA
noncomputable def kjoints_Apart : Mo := mjoints_Apart kjoints_near NN
theorem okjoints_Apart : SmOk Pr 38 (smM Rjoints_Apart kjoints_Apart) := gjoints_Apart_sm kjoints_near NN (show GamOk Pr (Gjoints_Apart kjoints_near) from (.cons (okjoints_near) rfl GamOk.nil)) namesA
noncomputable def kround_way : Mo := mround_way  NN
theorem okround_way : SmOk Pr 70 (smM Rround_way kround_way) := ground_way_sm  NN (show GamOk Pr (Ground_way ) from GamOk.nil) namesA
noncomputable def kmath_Sqrt : Mo := mmath_Sqrt  NN
theorem okmath_Sqrt : SmOk Pr 71 (smM Rmath_Sqrt kmath_Sqrt) := gmath_Sqrt_sm  NN (show GamOk Pr (Gmath_Sqrt ) from (.cons ext88 rfl GamOk.nil)) namesA
noncomputable def kmath_IsNaN : Mo := mmath_IsNaN  NN
theorem okmath_IsNaN : SmOk Pr 89 (smM Rmath_IsNaN kmath_IsNaN) := gmath_IsNaN_sm  NN (show GamOk Pr (Gmath_IsNaN ) from GamOk.nil) namesA
noncomputable def kmath_Abs : Mo := mmath_Abs  NN
theorem okmath_Abs : SmOk Pr 100 (smM Rmath_Abs kmath_Abs) := gmath_Abs_sm  NN (show GamOk Pr (Gmath_Abs ) from (.cons ext55 rfl (.cons ext101 rfl GamOk.nil))) namesA
noncomputable def kmath_IsInf : Mo := mmath_IsInf kmath_Abs NN
theorem okmath_IsInf : SmOk Pr 90 (smM Rmath_IsInf kmath_IsInf) := gmath_IsInf_sm kmath_Abs NN (show GamOk Pr (Gmath_IsInf kmath_Abs) from (.cons (okmath_Abs) rfl GamOk.nil)) namesA
noncomputable def kround_finite : Mo := mround_finite kmath_IsNaN kmath_IsInf NN
theorem okround_finite : SmOk Pr 72 (smM Rround_finite kround_finite) := ground_finite_sm kmath_IsNaN kmath_IsInf NN (show GamOk Pr (Ground_finite kmath_IsNaN kmath_IsInf) from (.cons (okmath_IsNaN) rfl (.cons (okmath_IsInf) rfl GamOk.nil))) namesA
noncomputable def kround_plain : Mo := mround_plain  NN
theorem okround_plain : SmOk Pr 73 (smM Rround_plain kround_plain) := ground_plain_sm  NN (show GamOk Pr (Ground_plain ) from (.cons ext55 rfl GamOk.nil)) namesA
noncomputable def kround_sign : Mo := mround_sign  NN
theorem okround_sign : SmOk Pr 75 (smM Rround_sign kround_sign) := ground_sign_sm  NN (show GamOk Pr (Ground_sign ) from GamOk.nil) namesA
noncomputable def kmath_Signbit : Mo := mmath_Signbit  NN
theorem okmath_Signbit : SmOk Pr 91 (smM Rmath_Signbit kmath_Signbit) := gmath_Signbit_sm  NN (show GamOk Pr (Gmath_Signbit ) from (.cons ext55 rfl GamOk.nil)) namesA
noncomputable def kmath_Copysign : Mo := mmath_Copysign  NN
theorem okmath_Copysign : SmOk Pr 92 (smM Rmath_Copysign kmath_Copysign) := gmath_Copysign_sm  NN (show GamOk Pr (Gmath_Copysign ) from (.cons ext55 rfl (.cons ext101 rfl GamOk.nil))) namesA
noncomputable def kround_step : Mo := mround_step  NN
theorem okround_step : SmOk Pr 93 (smM Rround_step kround_step) := ground_step_sm  NN (show GamOk Pr (Ground_step ) from (.cons ext55 rfl (.cons ext101 rfl GamOk.nil))) namesA
noncomputable def kround_settle : Mo := mround_settle kmath_Signbit kmath_IsInf kmath_Copysign kround_step NN
theorem okround_settle : SmOk Pr 74 (smM Rround_settle kround_settle) := ground_settle_sm kmath_Signbit kmath_IsInf kmath_Copysign kround_step NN (show GamOk Pr (Ground_settle kmath_Signbit kmath_IsInf kmath_Copysign kround_step) from (.cons (okmath_Signbit) rfl (.cons (okmath_IsInf) rfl (.cons (okmath_Copysign) rfl (.cons (okround_step) rfl GamOk.nil))))) namesA
noncomputable def kround_Sqrt : Mo := mround_Sqrt kround_way kmath_Sqrt kround_finite kround_plain kround_sign kround_settle kround_of kround_times kround_cmp NN
theorem okround_Sqrt : SmOk Pr 60 (smM Rround_Sqrt kround_Sqrt) := ground_Sqrt_sm kround_way kmath_Sqrt kround_finite kround_plain kround_sign kround_settle kround_of kround_times kround_cmp NN (show GamOk Pr (Ground_Sqrt kround_way kmath_Sqrt kround_finite kround_plain kround_sign kround_settle kround_of kround_times kround_cmp) from (.cons (okround_way) rfl (.cons (okmath_Sqrt) rfl (.cons (okround_finite) rfl (.cons (okround_plain) rfl (.cons (okround_sign) rfl (.cons (okround_settle) rfl (.cons (stub_ok _ _) rfl (.cons (stub_ok _ _) rfl (.cons (stub_ok _ _) rfl (.cons ext76 rfl GamOk.nil))))))))))) namesA
noncomputable def kjoints_Length : Mo := mjoints_Length kjoints_Apart kround_Sqrt NN
theorem okjoints_Length : SmOk Pr 39 (smM Rjoints_Length kjoints_Length) := gjoints_Length_sm kjoints_Apart kround_Sqrt NN (show GamOk Pr (Gjoints_Length kjoints_Apart kround_Sqrt) from (.cons (okjoints_Apart) rfl (.cons (okround_Sqrt) rfl GamOk.nil))) namesA
noncomputable def kbars_one : Mo := mbars_one  NN
theorem okbars_one : SmOk Pr 42 (smM Rbars_one kbars_one) := gbars_one_sm  NN (show GamOk Pr (Gbars_one ) from GamOk.nil) namesA
noncomputable def kmath_Inf : Mo := mmath_Inf  NN
theorem okmath_Inf : SmOk Pr 111 (smM Rmath_Inf kmath_Inf) := gmath_Inf_sm  NN (show GamOk Pr (Gmath_Inf ) from (.cons ext101 rfl GamOk.nil)) namesA
noncomputable def kspan_Right : Mo := mspan_Right kmath_Inf NN
theorem okspan_Right : SmOk Pr 97 (smM Rspan_Right kspan_Right) := gspan_Right_sm kmath_Inf NN (show GamOk Pr (Gspan_Right kmath_Inf) from (.cons (okmath_Inf) rfl GamOk.nil)) namesA
noncomputable def kspan_right : Mo := mspan_right kspan_Right NN
theorem okspan_right : SmOk Pr 80 (smM Rspan_right kspan_right) := gspan_right_sm kspan_Right NN (show GamOk Pr (Gspan_right kspan_Right) from (.cons (okspan_Right) rfl GamOk.nil)) namesA
noncomputable def kbits_Place : Mo := mbits_Place kmath_Abs NN
theorem okbits_Place : SmOk Pr 152 (smM Rbits_Place kbits_Place) := gbits_Place_sm kmath_Abs NN (show GamOk Pr (Gbits_Place kmath_Abs) from (.cons (okmath_Abs) rfl (.cons ext55 rfl GamOk.nil))) namesA
noncomputable def kbits_rank : Mo := mbits_rank kbits_Place kmath_Signbit NN
theorem okbits_rank : SmOk Pr 132 (smM Rbits_rank kbits_rank) := gbits_rank_sm kbits_Place kmath_Signbit NN (show GamOk Pr (Gbits_rank kbits_Place kmath_Signbit) from (.cons (okbits_Place) rfl (.cons (okmath_Signbit) rfl GamOk.nil))) namesA
noncomputable def kcmp_isNaN_int64 : Mo := mcmp_isNaN_int64  NN
theorem okcmp_isNaN_int64 : SmOk Pr 153 (smM Rcmp_isNaN_int64 kcmp_isNaN_int64) := gcmp_isNaN_int64_sm  NN (show GamOk Pr (Gcmp_isNaN_int64 ) from GamOk.nil) namesA
noncomputable def kcmp_Compare_int64 : Mo := mcmp_Compare_int64 kcmp_isNaN_int64 NN
theorem okcmp_Compare_int64 : SmOk Pr 134 (smM Rcmp_Compare_int64 kcmp_Compare_int64) := gcmp_Compare_int64_sm kcmp_isNaN_int64 NN (show GamOk Pr (Gcmp_Compare_int64 kcmp_isNaN_int64) from (.cons (okcmp_isNaN_int64) rfl GamOk.nil)) namesA
noncomputable def kcmp_isNaN_int : Mo := mcmp_isNaN_int  NN
theorem okcmp_isNaN_int : SmOk Pr 154 (smM Rcmp_isNaN_int kcmp_isNaN_int) := gcmp_isNaN_int_sm  NN (show GamOk Pr (Gcmp_isNaN_int ) from GamOk.nil) namesA
noncomputable def kcmp_Compare_int : Mo := mcmp_Compare_int kcmp_isNaN_int NN
theorem okcmp_Compare_int : SmOk Pr 135 (smM Rcmp_Compare_int kcmp_Compare_int) := gcmp_Compare_int_sm kcmp_isNaN_int NN (show GamOk Pr (Gcmp_Compare_int kcmp_isNaN_int) from (.cons (okcmp_isNaN_int) rfl GamOk.nil)) namesA
noncomputable def kcmp_Or_int : Mo := mcmp_Or_int  NN
theorem okcmp_Or_int : SmOk Pr 133 (smM Rcmp_Or_int kcmp_Or_int) := gcmp_Or_int_sm  NN (show GamOk Pr (Gcmp_Or_int ) from GamOk.nil) namesA
noncomputable def kbits_Order : Mo := mbits_Order kbits_rank kcmp_Compare_int64 kcmp_Compare_int kcmp_Or_int NN
theorem okbits_Order : SmOk Pr 112 (smM Rbits_Order kbits_Order) := gbits_Order_sm kbits_rank kcmp_Compare_int64 kcmp_Compare_int kcmp_Or_int NN (show GamOk Pr (Gbits_Order kbits_rank kcmp_Compare_int64 kcmp_Compare_int kcmp_Or_int) from (.cons (okbits_rank) rfl (.cons (okcmp_Compare_int64) rfl (.cons (okcmp_Compare_int) rfl (.cons (okcmp_Or_int) rfl GamOk.nil))))) namesA
noncomputable def kspan_lesser : Mo := mspan_lesser kbits_Order NN
theorem okspan_lesser : SmOk Pr 98 (smM Rspan_lesser kspan_lesser) := gspan_lesser_sm kbits_Order NN (show GamOk Pr (Gspan_lesser kbits_Order) from (.cons (okbits_Order) rfl GamOk.nil)) namesA
noncomputable def kspan_greater : Mo := mspan_greater kbits_Order NN
theorem okspan_greater : SmOk Pr 99 (smM Rspan_greater kspan_greater) := gspan_greater_sm kbits_Order NN (show GamOk Pr (Gspan_greater kbits_Order) from (.cons (okbits_Order) rfl GamOk.nil)) namesA
noncomputable def kround_Mul : Mo := mround_Mul kround_way kround_finite kround_plain kround_sign kround_settle kmath_IsInf kround_of kround_times kround_cmp NN
theorem okround_Mul : SmOk Pr 85 (smM Rround_Mul kround_Mul) := ground_Mul_sm kround_way kround_finite kround_plain kround_sign kround_settle kmath_IsInf kround_of kround_times kround_cmp NN (show GamOk Pr (Ground_Mul kround_way kround_finite kround_plain kround_sign kround_settle kmath_IsInf kround_of kround_times kround_cmp) from (.cons (okround_way) rfl (.cons (okround_finite) rfl (.cons (okround_plain) rfl (.cons (okround_sign) rfl (.cons (okround_settle) rfl (.cons (okmath_IsInf) rfl (.cons (stub_ok _ _) rfl (.cons (stub_ok _ _) rfl (.cons (stub_ok _ _) rfl (.cons ext76 rfl GamOk.nil))))))))))) namesA
noncomputable def kspan_Mul_c1 : Mo := mspan_Mul_c1 kround_Mul NN
theorem okspan_Mul_c1 : SmOk Pr 84 (smM Rspan_Mul_c1 kspan_Mul_c1) := gspan_Mul_c1_sm kround_Mul NN (show GamOk Pr (Gspan_Mul_c1 kround_Mul) from (.cons (okround_Mul) rfl GamOk.nil)) namesA
noncomputable def kround_Div : Mo := mround_Div kround_way kround_finite kround_plain kround_sign kround_settle kmath_IsInf kround_of kround_times kround_cmp NN
theorem okround_Div : SmOk Pr 83 (smM Rround_Div kround_Div) := ground_Div_sm kround_way kround_finite kround_plain kround_sign kround_settle kmath_IsInf kround_of kround_times kround_cmp NN (show GamOk Pr (Ground_Div kround_way kround_finite kround_plain kround_sign kround_settle kmath_IsInf kround_of kround_times kround_cmp) from (.cons (okround_way) rfl (.cons (okround_finite) rfl (.cons (okround_plain) rfl (.cons (okround_sign) rfl (.cons (okround_settle) rfl (.cons (okmath_IsInf) rfl (.cons (stub_ok _ _) rfl (.cons (stub_ok _ _) rfl (.cons (stub_ok _ _) rfl (.cons ext76 rfl GamOk.nil))))))))))) namesA
noncomputable def kspan_Div_c1 : Mo := mspan_Div_c1 kround_Div NN
theorem okspan_Div_c1 : SmOk Pr 82 (smM Rspan_Div_c1 kspan_Div_c1) := gspan_Div_c1_sm kround_Div NN (show GamOk Pr (Gspan_Div_c1 kround_Div) from (.cons (okround_Div) rfl GamOk.nil)) namesA
noncomputable def kspan_corners_a : Mo := mspan_corners_a kspan_lesser kspan_greater kspan_Mul_c1 kspan_Div_c1 NN
theorem okspan_corners_a : XOk Pr 81 (smX Rspan_corners_a Xspan_corners_a kspan_corners_a) Xspan_corners_a := gspan_corners_a_sm kspan_lesser kspan_greater kspan_Mul_c1 kspan_Div_c1 NN (show GamOk Pr (Gspan_corners_a kspan_lesser kspan_greater kspan_Mul_c1 kspan_Div_c1) from (.cons (okspan_lesser) rfl (.cons (okspan_greater) rfl (.cons (okspan_Mul_c1) rfl (.cons (okspan_Div_c1) rfl GamOk.nil))))) namesA
noncomputable def kspan_corners_b : Mo := mspan_corners_b kspan_lesser kspan_greater kspan_Mul_c1 kspan_Div_c1 NN
theorem okspan_corners_b : XOk Pr 81 (smX Rspan_corners_b Xspan_corners_b kspan_corners_b) Xspan_corners_b := gspan_corners_b_sm kspan_lesser kspan_greater kspan_Mul_c1 kspan_Div_c1 NN (show GamOk Pr (Gspan_corners_b kspan_lesser kspan_greater kspan_Mul_c1 kspan_Div_c1) from (.cons (okspan_lesser) rfl (.cons (okspan_greater) rfl (.cons (okspan_Mul_c1) rfl (.cons (okspan_Div_c1) rfl GamOk.nil))))) namesA
noncomputable def kspan_Mul : Mo := mspan_Mul kspan_right kspan_Mul_c1 kspan_corners_a kspan_corners_b NN
theorem okspan_Mul : SmOk Pr 62 (smM Rspan_Mul kspan_Mul) := gspan_Mul_sm kspan_right kspan_Mul_c1 kspan_corners_a kspan_corners_b NN (show GamOk Pr (Gspan_Mul kspan_right kspan_Mul_c1 kspan_corners_a kspan_corners_b) from (.cons (okspan_right) rfl (.cons (okspan_Mul_c1) rfl (.consX rfl okspan_corners_a (.consX rfl okspan_corners_b GamOk.nil))))) namesA
noncomputable def kbars_times : Mo := mbars_times kspan_Mul NN
theorem okbars_times : SmOk Pr 41 (smM Rbars_times kbars_times) := gbars_times_sm kspan_Mul NN (show GamOk Pr (Gbars_times kspan_Mul) from (.cons (okspan_Mul) rfl GamOk.nil)) namesA
noncomputable def kspan_Div : Mo := mspan_Div kspan_right kspan_Div_c1 kspan_corners_a kspan_corners_b NN
theorem okspan_Div : SmOk Pr 61 (smM Rspan_Div kspan_Div) := gspan_Div_sm kspan_right kspan_Div_c1 kspan_corners_a kspan_corners_b NN (show GamOk Pr (Gspan_Div kspan_right kspan_Div_c1 kspan_corners_a kspan_corners_b) from (.cons (okspan_right) rfl (.cons (okspan_Div_c1) rfl (.consX rfl okspan_corners_a (.consX rfl okspan_corners_b GamOk.nil))))) namesA
noncomputable def kbars_spring : Mo := mbars_spring kspan_Div NN
theorem okbars_spring : SmOk Pr 40 (smM Rbars_spring kbars_spring) := gbars_spring_sm kspan_Div NN (show GamOk Pr (Gbars_spring kspan_Div) from (.cons (okspan_Div) rfl GamOk.nil)) namesA
noncomputable def kbars_stands : Mo := mbars_stands  NN
theorem okbars_stands : SmOk Pr 44 (smM Rbars_stands kbars_stands) := gbars_stands_sm  NN (show GamOk Pr (Gbars_stands ) from GamOk.nil) namesA
noncomputable def kbars_springs_c1 : Mo := mbars_springs_c1 kbars_one kbars_times kbars_spring NN
theorem okbars_springs_c1 : SmOk Pr 43 (smM Rbars_springs_c1 kbars_springs_c1) := gbars_springs_c1_sm kbars_one kbars_times kbars_spring NN (show GamOk Pr (Gbars_springs_c1 kbars_one kbars_times kbars_spring) from (.cons (okbars_one) rfl (.cons (okbars_times) rfl (.cons (okbars_spring) rfl GamOk.nil)))) namesA
noncomputable def kbars_springs_a : Mo := mbars_springs_a kjoints_Apart kjoints_Length kbars_one kbars_times kbars_spring kbars_stands kbars_springs_c1 NN
theorem okbars_springs_a : XOk Pr 20 (smX Rbars_springs_a Xbars_springs_a kbars_springs_a) Xbars_springs_a := gbars_springs_a_sm kjoints_Apart kjoints_Length kbars_one kbars_times kbars_spring kbars_stands kbars_springs_c1 NN (show GamOk Pr (Gbars_springs_a kjoints_Apart kjoints_Length kbars_one kbars_times kbars_spring kbars_stands kbars_springs_c1) from (.cons (okjoints_Apart) rfl (.cons (okjoints_Length) rfl (.cons (okbars_one) rfl (.cons (okbars_times) rfl (.cons (okbars_spring) rfl (.cons (okbars_stands) rfl (.cons (okbars_springs_c1) rfl GamOk.nil)))))))) namesA
noncomputable def kbars_Springs_a : Mo := mbars_Springs_a kbars_Check kbars_springs_a NN
theorem okbars_Springs_a : XOk Pr 6 (smX Rbars_Springs_a Xbars_Springs_a kbars_Springs_a) Xbars_Springs_a := gbars_Springs_a_sm kbars_Check kbars_springs_a NN (show GamOk Pr (Gbars_Springs_a kbars_Check kbars_springs_a) from (.cons (okbars_Check) rfl (.consX rfl okbars_springs_a GamOk.nil))) namesA
noncomputable def kkit_CopyJoints_a : Mo := mkit_CopyJoints_a  NN
theorem okkit_CopyJoints_a : XOk Pr 31 (smX Rkit_CopyJoints_a Xkit_CopyJoints_a kkit_CopyJoints_a) Xkit_CopyJoints_a := gkit_CopyJoints_a_sm  NN (show GamOk Pr (Gkit_CopyJoints_a ) from GamOk.nil) namesA
noncomputable def kkit_CopyMembers_a : Mo := mkit_CopyMembers_a  NN
theorem okkit_CopyMembers_a : XOk Pr 32 (smX Rkit_CopyMembers_a Xkit_CopyMembers_a kkit_CopyMembers_a) Xkit_CopyMembers_a := gkit_CopyMembers_a_sm  NN (show GamOk Pr (Gkit_CopyMembers_a ) from GamOk.nil) namesA
noncomputable def kkit_SameFloat : Mo := mkit_SameFloat  NN
theorem okkit_SameFloat : SmOk Pr 34 (smM Rkit_SameFloat kkit_SameFloat) := gkit_SameFloat_sm  NN (show GamOk Pr (Gkit_SameFloat ) from (.cons ext55 rfl GamOk.nil)) namesA
noncomputable def kkit_SameSpan : Mo := mkit_SameSpan kkit_SameFloat NN
theorem okkit_SameSpan : SmOk Pr 33 (smM Rkit_SameSpan kkit_SameSpan) := gkit_SameSpan_sm kkit_SameFloat NN (show GamOk Pr (Gkit_SameSpan kkit_SameFloat) from (.cons (okkit_SameFloat) rfl GamOk.nil)) namesA
noncomputable def kkit_SameSpring : Mo := mkit_SameSpring kkit_SameSpan kkit_SameFloat NN
theorem okkit_SameSpring : SmOk Pr 15 (smM Rkit_SameSpring kkit_SameSpring) := gkit_SameSpring_sm kkit_SameSpan kkit_SameFloat NN (show GamOk Pr (Gkit_SameSpring kkit_SameSpan kkit_SameFloat) from (.cons (okkit_SameSpan) rfl (.cons (okkit_SameFloat) rfl GamOk.nil))) namesA
noncomputable def kkit_SameSprings : Mo := mkit_SameSprings kkit_SameSpring NN
theorem okkit_SameSprings : SmOk Pr 14 (smM Rkit_SameSprings kkit_SameSprings) := gkit_SameSprings_sm kkit_SameSpring NN (show GamOk Pr (Gkit_SameSprings kkit_SameSpring) from (.cons (okkit_SameSpring) rfl GamOk.nil)) namesA
noncomputable def klaw19_beam : Mo := mlaw19_beam  NN
theorem oklaw19_beam : SmOk Pr 29 (smM Rlaw19_beam klaw19_beam) := glaw19_beam_sm  NN (show GamOk Pr (Glaw19_beam ) from GamOk.nil) namesA
noncomputable def klaw19_three : Mo := mlaw19_three  NN
theorem oklaw19_three : SmOk Pr 28 (smM Rlaw19_three klaw19_three) := glaw19_three_sm  NN (show GamOk Pr (Glaw19_three ) from GamOk.nil) namesA
noncomputable def kbars_places : Mo := mbars_places kbars_stands NN
theorem okbars_places : SmOk Pr 54 (smM Rbars_places kbars_places) := gbars_places_sm kbars_stands NN (show GamOk Pr (Gbars_places kbars_stands) from (.cons (okbars_stands) rfl GamOk.nil)) namesA
noncomputable def kbars_Unknowns : Mo := mbars_Unknowns kbars_Check kbars_places NN
theorem okbars_Unknowns : SmOk Pr 30 (smM Rbars_Unknowns kbars_Unknowns) := gbars_Unknowns_sm kbars_Check kbars_places NN (show GamOk Pr (Gbars_Unknowns kbars_Check kbars_places) from (.cons (okbars_Check) rfl (.cons (okbars_places) rfl GamOk.nil))) namesA
noncomputable def klaw19_awake : Mo := mlaw19_awake klaw19_beam klaw19_three kbars_Unknowns kbars_Springs_a NN
theorem oklaw19_awake : SmOk Pr 11 (smM Rlaw19_awake klaw19_awake) := glaw19_awake_sm klaw19_beam klaw19_three kbars_Unknowns kbars_Springs_a NN (show GamOk Pr (Glaw19_awake klaw19_beam klaw19_three kbars_Unknowns kbars_Springs_a) from (.cons (oklaw19_beam) rfl (.cons (oklaw19_three) rfl (.cons (okbars_Unknowns) rfl (.consX rfl okbars_Springs_a GamOk.nil))))) namesA
noncomputable def klaw19_BarsTurned : Mo := mlaw19_BarsTurned kmade_Sketch_Plan kkit_Pick kkit_SameSprings klaw19_awake kkit_SameSpring kbars_Springs_a kkit_CopyJoints_a kkit_CopyMembers_a NN
theorem oklaw19_BarsTurned : SmOk Pr 4 (smM Rlaw19_BarsTurned klaw19_BarsTurned) := glaw19_BarsTurned_sm kmade_Sketch_Plan kkit_Pick kkit_SameSprings klaw19_awake kkit_SameSpring kbars_Springs_a kkit_CopyJoints_a kkit_CopyMembers_a NN (show GamOk Pr (Glaw19_BarsTurned kmade_Sketch_Plan kkit_Pick kkit_SameSprings klaw19_awake kkit_SameSpring kbars_Springs_a kkit_CopyJoints_a kkit_CopyMembers_a) from (.cons (okmade_Sketch_Plan) rfl (.cons (okkit_Pick) rfl (.cons (okkit_SameSprings) rfl (.cons (oklaw19_awake) rfl (.cons (okkit_SameSpring) rfl (.consX rfl okbars_Springs_a (.consX rfl okkit_CopyJoints_a (.consX rfl okkit_CopyMembers_a GamOk.nil))))))))) namesA
end Go.Proofs.Tryz
end
section
namespace Go.Proofs.Tryz
open Go Go.Am Ieee.Pos
set_option maxRecDepth 100000

abbrev F (x : Nat) : AV := .flt .f64 (some x)
/-- A positive normal word whose exponent field lies from lo to hi. -/
def In (lo hi x : Nat) : Prop := Norm x ∧ lo ≤ ex x ∧ ex x ≤ hi
theorem In.mono {a b c d x : Nat} (h : In a b x) (h1 : c ≤ a) (h2 : b ≤ d) : In c d x := ⟨h.1, Nat.le_trans h1 h.2.1, Nat.le_trans h.2.2 h2⟩

theorem ford_d (x y : Nat) : ford .f64 (some x) (some y) = Ieee.double.order x y := rfl
theorem ford_n {x y : Nat} (hx : Norm x) (hy : Norm y) : ford .f64 (some x) (some y) = some (compare x y) := order_norm hx hy
theorem ford_0 {x : Nat} (hx : Norm x) : ford .f64 (some x) (some 0) = some .gt := order_0 hx
theorem ford_s {x : Nat} (hx : Norm x) : ford .f64 (some x) (some x) = some .eq := by rw [ford_n hx hx, cmp_eq]
theorem fsub {x : Nat} (hx : Norm x) : farith .sub .f64 (some x) (some x) = some 0 := sub_self hx
theorem c_lt (a b : Nat) : (some (compare a b) == some Ordering.lt) = decide (a < b) := by
  rcases Nat.lt_trichotomy a b with h | h | h
  · rw [cmp_lt h, decide_eq_true h]; rfl
  · subst h; rw [cmp_eq, decide_eq_false (by omega)]; rfl
  · rw [cmp_gt h, decide_eq_false (by omega)]; rfl
theorem c_gt (a b : Nat) : (some (compare a b) == some Ordering.gt) = decide (b < a) := by
  rcases Nat.lt_trichotomy a b with h | h | h
  · rw [cmp_lt h, decide_eq_false (by omega)]; rfl
  · subst h; rw [cmp_eq, decide_eq_false (by omega)]; rfl
  · rw [cmp_gt h, decide_eq_true h]; rfl
theorem c_eq (a b : Nat) : (some (compare a b) == some Ordering.eq) = decide (a = b) := by
  rcases Nat.lt_trichotomy a b with h | h | h
  · rw [cmp_lt h, decide_eq_false (by omega)]; rfl
  · subst h; rw [cmp_eq, decide_eq_true rfl]; rfl
  · rw [cmp_gt h, decide_eq_false (by omega)]; rfl

theorem wrapu {n : Nat} (h : n < 18446744073709551616) : IntKind.u64.wrap ((n : Nat) : Int) = n := by
  rw [IntKind.wrap_u64]; omega
theorem wrapi {n : Int} (h1 : -9223372036854775808 ≤ n) (h2 : n < 9223372036854775808) : IntKind.i64.wrap n = n := by
  rw [IntKind.wrap_i64]; omega

theorem okF (o : Option Nat) : okM [RS.one (LK.f .f64)] (some (.flt .f64 o)) = true := rfl
theorem okQ (b : Bool) : okM [RS.one LK.b] (some (.bool b)) = true := rfl
theorem okI (n : Int) : okM [RS.one (LK.i .i64)] (some (.int .i64 n)) = true := rfl
theorem okI8 (n : Int) : okM [RS.one (LK.i .i8)] (some (.int .i8 n)) = true := rfl
theorem okIB (n : Int) (b : Bool) : okM [RS.one (LK.i .i64), RS.one LK.b] (some (.tup [.int .i64 n, .bool b])) = true := rfl
theorem okII (n m : Int) : okM [RS.one (LK.i .i64), RS.one (LK.i .i64)] (some (.tup [.int .i64 n, .int .i64 m])) = true := rfl
theorem okFF (o p : Option Nat) : okM [RS.agg [LK.f .f64, LK.f .f64]] (some (.agg [.flt .f64 o, .flt .f64 p])) = true := rfl
theorem okFFI (o p : Option Nat) (n : Int) : okM [RS.agg [LK.f .f64, LK.f .f64], RS.one (LK.i .i64)] (some (.tup [.agg [.flt .f64 o, .flt .f64 p], .int .i64 n])) = true := rfl
theorem gV (v : AV) : getV (some v) = v := rfl
theorem tF (k : FloatKind) (x : Option Nat) : toF (.flt k x) = x := rfl
theorem tB (b : Bool) : toB (.bool b) = b := rfl
theorem tI (k : IntKind) (n : Int) : toI (.int k n) = n := rfl
theorem tC (l : List AV) : toC (.agg l) = l := rfl
theorem tT (l : List AV) : toT (.tup l) = l := rfl
theorem hD (a : AV) (l : List AV) : (a :: l).headD .dead = a := rfl
theorem fF (x : Nat) : fitK (LK.f .f64) (F x) = true := rfl
theorem okBits (x : Nat) : sBits.ok [F x] = true := rfl
theorem okFrom (n : Int) : sFrom.ok [.int .u64 n] = true := rfl
theorem okFma (a b c : Option Nat) : sFma.ok [.flt .f64 a, .flt .f64 b, .flt .f64 c] = true := rfl

section
variable {x : Nat} (hx : Norm x)
include hx
theorem k_abs : kmath_Abs [F x] = some (F x) := by
  show gmath_Abs NN (some x) = _
  unfold gmath_Abs
  rw [okBits, ck_true, okFrom, ck_true, Option.getD_some, abs_word hx.1, wrapu (by have := hx.1; omega)]
  rfl
omit hx in
theorem norm_max : Norm 9218868437227405311 := by unfold Norm ex; omega
theorem k_nan : kmath_IsNaN [F x] = some (.bool false) := by
  show some (AV.bool (ford .f64 (some x) (some x) != some Ordering.eq)) = _
  rw [ford_s hx]; rfl
theorem k_inf0 : kmath_IsInf [F x, .int .i64 0] = some (.bool false) := by
  show gmath_IsInf kmath_Abs NN (some x) 0 = _
  unfold gmath_IsInf
  rw [k_abs hx, okF, ck_true, gV, tF, ford_n hx norm_max, c_gt, decide_eq_false (by have := hx.2.2; unfold ex at this; omega)]
  rfl
theorem k_signbit : kmath_Signbit [F x] = some (.bool false) := by
  show some (AV.bool (decide (IntKind.i64.wrap ((x : Nat) : Int) < 0))) = _
  rw [wrapi (by omega) (by have := hx.1; omega), decide_eq_false (by omega)]
end

theorem wrap_s {i : Nat} (h : i < 4611686018427387904) : IntKind.i64.wrap ((i : Int) + 1) = ((i + 1 : Nat) : Int) := by
  rw [wrapi] <;> omega

theorem finite_all (n r : Nat) (hn : n < 4611686018427387904) (g : Ge) (w : Nat → Nat) (hg : ∀ i, i < n → g i 0 = F (w i)) (hw : ∀ i, i < n → Norm (w i)) (kx0 : Bool → Option AV) (kx1 : Option AV) :
    ∀ (m q i : Nat), i + m = n → ground_finite_l0 kmath_IsNaN kmath_IsInf NN kx0 kx1 n r g n (q + m + 1) i = kx1
  | 0, q, i, h => by
    obtain rfl : i = n := by omega
    show ground_finite_l0_step kmath_IsNaN kmath_IsInf NN _ kx0 kx1 i r g i i = _
    unfold ground_finite_l0_step
    rw [decide_eq_false (by omega), cond_false]
  | m + 1, q, i, h => by
    have ih := finite_all n r hn g w hg hw kx0 kx1 m q (i + 1) (by omega)
    show ground_finite_l0_step kmath_IsNaN kmath_IsInf NN (ground_finite_l0 kmath_IsNaN kmath_IsInf NN kx0 kx1 n r g n (q + m + 1)) kx0 kx1 n r g n i = _
    unfold ground_finite_l0_step
    rw [decide_eq_true (show (i : Int) < n by omega), decide_eq_true (show (0 : Int) ≤ i by omega), wrap_s (by omega), Int.toNat_natCast, hg i (by omega), fF, tF, k_nan (hw i (by omega)), k_inf0 (hw i (by omega)), ih]
    rfl
theorem k_finite (n r : Nat) (hn : n < 1000) (g : Ge) (w : Nat → Nat) (hg : ∀ i, i < n → g i 0 = F (w i)) (hw : ∀ i, i < n → Norm (w i)) : kround_finite [.ro 1 n r g] = some (.bool true) := by
  show ground_finite kmath_IsNaN kmath_IsInf NN n r g = _
  unfold ground_finite
  have e := finite_all n r (by omega) g w hg hw (fun b => some (AV.bool b)) (some (AV.bool true)) n (NN - n - 1) 0 (by omega)
  rw [show NN - n - 1 + n + 1 = NN by unfold NN; omega] at e
  exact e

theorem plain_all (n r : Nat) (hn : n < 4611686018427387904) (g : Ge) (w : Nat → Nat) (hg : ∀ i, i < n → g i 0 = F (w i)) (hw : ∀ i, i < n → In 200 1900 (w i)) (kx0 : Bool → Option AV) (kx1 : Option AV) :
    ∀ (m q i : Nat), i + m = n → ground_plain_l0 NN kx0 kx1 n r g n (q + m + 1) i = kx1
  | 0, q, i, h => by
    obtain rfl : i = n := by omega
    show ground_plain_l0_step NN _ kx0 kx1 i r g i i = _
    unfold ground_plain_l0_step
    rw [decide_eq_false (by omega), cond_false]
  | m + 1, q, i, h => by
    have ih := plain_all n r hn g w hg hw kx0 kx1 m q (i + 1) (by omega)
    show ground_plain_l0_step NN (ground_plain_l0 NN kx0 kx1 n r g n (q + m + 1)) kx0 kx1 n r g n i = _
    unfold ground_plain_l0_step
    obtain ⟨h1, h2, h3⟩ := hw i (by omega)
    have h4 := h1.1
    rw [decide_eq_true (show (i : Int) < n by omega), decide_eq_true (show (0 : Int) ≤ i by omega), wrap_s (by omega), Int.toNat_natCast, hg i (by omega), fF, tF, okBits, Option.getD_some, field_word h1.1, wrapu (by unfold ex at h3; unfold ex; omega), decide_eq_false (show ¬ ((ex (w i) : Nat) : Int) < 200 by omega), decide_eq_false (show ¬ ((ex (w i) : Nat) : Int) > 1900 by omega), ih]
    rfl
theorem k_plain (n r : Nat) (hn : n < 1000) (g : Ge) (w : Nat → Nat) (hg : ∀ i, i < n → g i 0 = F (w i)) (hw : ∀ i, i < n → In 200 1900 (w i)) : kround_plain [.ro 1 n r g] = some (.bool true) := by
  show ground_plain NN n r g = _
  unfold ground_plain
  have e := plain_all n r (by omega) g w hg hw (fun b => some (AV.bool b)) (some (AV.bool true)) n (NN - n - 1) 0 (by omega)
  rw [show NN - n - 1 + n + 1 = NN by unfold NN; omega] at e
  exact e

/-- The sign of a float: 1, -1, or 0. -/
def sg (o : Option Nat) : Int := bif ford .f64 o (some 0) == some Ordering.gt then 1 else bif ford .f64 o (some 0) == some Ordering.lt then -1 else 0
theorem k_sign (o : Option Nat) : kround_sign [.flt .f64 o] = some (.int .i64 (sg o)) := by
  show ground_sign NN o = _
  unfold ground_sign sg
  generalize ford .f64 o (some 0) = c
  rcases c with _ | c
  · rfl
  · cases c <;> rfl
theorem sg_pos {x : Nat} (hx : Norm x) : sg (some x) = 1 := by unfold sg; rw [ford_0 hx]; rfl
theorem sg_wrap (o : Option Nat) {x : Nat} (hx : Norm x) : IntKind.i64.wrap (sg o * sg (some x)) = sg o := by
  rw [sg_pos hx, Int.mul_one]
  unfold sg
  cases ford .f64 o (some 0) == some Ordering.gt <;> cases ford .f64 o (some 0) == some Ordering.lt <;> rfl

/-- The three ways of rounding that are used. -/
def Way (m : Int) : Prop := m = 0 ∨ m = 1 ∨ m = 2
theorem k_way {m : Int} (h : Way m) : kround_way [.int .i8 m] = some (.int .i8 m) := by
  rcases h with rfl | rfl | rfl <;> rfl

theorem k_step {p : Nat} (hp : Norm p) (up : Bool) : kround_step [F p, .bool up] = some (F (bif up then p + 1 else p - 1)) := by
  have h1 := hp.1
  have h2 : 1 ≤ p := by have := hp.2.1; unfold ex at this; omega
  show ground_step NN (some p) up = _
  unfold ground_step
  rw [okBits, ck_true, ford_0 hp, okFrom, okFrom, Option.getD_some, show ((p : Nat) : Int) + 1 = ((p + 1 : Nat) : Int) by omega, show ((p : Nat) : Int) - 1 = ((p - 1 : Nat) : Int) by omega, wrapu (by omega), wrapu (by omega)]
  cases up <;> rfl
theorem k_settle {p : Nat} (hp : Norm p) (off m : Int) (hm : Way m) : kround_settle [F p, .int .i64 off, .int .i8 m] = some (F (adj p off m)) := by
  show ground_settle kmath_Signbit kmath_IsInf kmath_Copysign kround_step NN (some p) off m = _
  unfold ground_settle adj
  rw [k_signbit hp, k_inf0 hp, k_step hp]
  rcases hm with rfl | rfl | rfl
  · cases decide (off < 0) <;> cases decide (off > 0) <;> rfl
  · by_cases h : off < 0
    · rw [decide_eq_true h, decide_eq_false (show ¬ off > 0 by omega)]; rfl
    · rw [decide_eq_false h]; cases decide (off > 0) <;> rfl
  · by_cases h : off < 0
    · rw [decide_eq_true h, decide_eq_false (show ¬ off > 0 by omega)]; rfl
    · rw [decide_eq_false h]; cases decide (off > 0) <;> rfl

theorem neg_w {p : Nat} (hp : p < 9223372036854775808) : Op.negFloat .f64 p = p + 9223372036854775808 := xor_sign hp
theorem neg_b {p : Nat} (hp : p < 9223372036854775808) : Op.negFloat .f64 (p + 9223372036854775808) = p := xor_back hp
end Go.Proofs.Tryz
end
section
namespace Go.Proofs.Tryz
open Go Go.Am Ieee.Pos
set_option maxRecDepth 100000

def adjM (p : Nat) (m : Int) (a b : Nat) : Nat := adj p (sg (Ieee.double.fma a b (Op.negFloat .f64 p))) m
def adjD (q : Nat) (m : Int) (a b : Nat) : Nat := adj q (sg (Ieee.double.fma (Op.negFloat .f64 q) b a)) m
def adjR (r : Nat) (m : Int) (a : Nat) : Nat := adj r (sg (Ieee.double.fma (Op.negFloat .f64 r) r a)) m
/-- Products, quotients, roots, rounded in one of three ways. -/
def mulV (m : Int) (a b : Nat) : Nat := adjM ((Ieee.double.mul a b).getD 0) m a b
def divV (m : Int) (a b : Nat) : Nat := adjD ((Ieee.double.div a b).getD 0) m a b
def rootV (m : Int) (a : Nat) : Nat := adjR ((Ieee.double.sqrt a).getD 0) m a

theorem two {x y : Nat} {P : Nat → Prop} (hx : P x) (hy : P y) : ∀ i, i < 2 → P ([x, y].getD i 0) := fun i hi => by
  have : i = 0 ∨ i = 1 := by omega
  rcases this with rfl | rfl
  · exact hx
  · exact hy
theorem three {x y z : Nat} {P : Nat → Prop} (hx : P x) (hy : P y) (hz : P z) : ∀ i, i < 3 → P ([x, y, z].getD i 0) := fun i hi => by
  have : i = 0 ∨ i = 1 ∨ i = 2 := by omega
  rcases this with rfl | rfl | rfl
  · exact hx
  · exact hy
  · exact hz
theorem one' {x : Nat} {P : Nat → Prop} (hx : P x) : ∀ i, i < 1 → P ([x].getD i 0) := fun i hi => by
  obtain rfl : i = 0 := by omega
  exact hx
theorem l2 (x y : Nat) : ∀ i, i < 2 → (([[F x], [F y]].getD i []).getD 0 AV.dead) = F ([x, y].getD i 0) := fun i hi => by
  have : i = 0 ∨ i = 1 := by omega
  rcases this with rfl | rfl <;> rfl
theorem l3 (x y z : Nat) : ∀ i, i < 3 → (([[F x], [F y], [F z]].getD i []).getD 0 AV.dead) = F ([x, y, z].getD i 0) := fun i hi => by
  have : i = 0 ∨ i = 1 ∨ i = 2 := by omega
  rcases this with rfl | rfl | rfl <;> rfl
theorem l1 (x : Nat) : ∀ i, i < 1 → (([[F x]].getD i []).getD 0 AV.dead) = F ([x].getD i 0) := fun i hi => by
  obtain rfl : i = 0 := by omega
  rfl
theorem gt_eq : (some Ordering.gt == some Ordering.eq) = false := rfl
theorem gt_lt : (some Ordering.gt == some Ordering.lt) = false := rfl

section
variable {a b p : Nat} (ha : In 200 1900 a) (hb : In 200 1900 b)
include ha hb
theorem k_fin2 : kround_finite [.ro 1 2 2 fun i j => ([[F a], [F b]].getD i []).getD j .dead] = some (.bool true) :=
  k_finite 2 2 (by omega) _ (fun i => [a, b].getD i 0) (l2 a b) (two ha.1 hb.1)
theorem k_pl3 (hp : In 200 1900 p) : kround_plain [.ro 1 3 3 fun i j => ([[F a], [F b], [F p]].getD i []).getD j .dead] = some (.bool true) :=
  k_plain 3 3 (by omega) _ (fun i => [a, b, p].getD i 0) (l3 a b p) (three ha hb hp)

theorem k_mul' (e : Ieee.double.mul a b = some p) (hp : In 200 1900 p) {m : Int} (hm : Way m) : kround_Mul [F a, F b, .int .i8 m] = some (F (adjM p m a b)) := by
  have e1 : farith .mul .f64 (some a) (some b) = some p := e
  show ground_Mul kround_way kround_finite kround_plain kround_sign kround_settle kmath_IsInf kround_of kround_times kround_cmp NN (some a) (some b) m = _
  unfold ground_Mul
  rw [e1, k_way hm, okI8, ck_true, k_fin2 ha hb, okQ, ck_true, gV, tB, ford_0 ha.1, ford_0 hb.1, gt_eq, Bool.not_true, cond_false, cond_false, cond_false, k_pl3 ha hb hp, okQ, ck_true, gV, tB, cond_true, okFma, ck_true, k_sign, okI, ck_true, gV, tI, gV, tI, k_settle hp.1 _ _ hm, okF, ck_true, gV, tF]
  rfl
theorem k_div' (e : Ieee.double.div a b = some p) (hp : In 200 1900 p) {m : Int} (hm : Way m) : kround_Div [F a, F b, .int .i8 m] = some (F (adjD p m a b)) := by
  have e1 : farith .quo .f64 (some a) (some b) = some p := e
  show ground_Div kround_way kround_finite kround_plain kround_sign kround_settle kmath_IsInf kround_of kround_times kround_cmp NN (some a) (some b) m = _
  unfold ground_Div
  rw [e1, k_way hm, okI8, ck_true, k_fin2 ha hb, okQ, ck_true, gV, tB, ford_0 ha.1, ford_0 hb.1, gt_eq, Bool.not_true, cond_false, cond_false, cond_false, k_pl3 ha hb hp, okQ, ck_true, gV, tB, cond_true, okFma, ck_true, k_sign, okI, ck_true, k_sign, okI, ck_true, gV, tI, gV, tI, gV, tI, sg_wrap _ hb.1, k_settle hp.1 _ _ hm, okF, ck_true, gV, tF]
  rfl
end
theorem k_sqrt (a : Nat) : kmath_Sqrt [F a] = some (.flt .f64 (Ieee.double.sqrt a)) := rfl
theorem k_root' {a r : Nat} (ha : In 200 1900 a) (e : Ieee.double.sqrt a = some r) (hr : Norm r) {m : Int} (hm : Way m) : kround_Sqrt [F a, .int .i8 m] = some (F (adjR r m a)) := by
  show ground_Sqrt kround_way kmath_Sqrt kround_finite kround_plain kround_sign kround_settle kround_of kround_times kround_cmp NN (some a) m = _
  unfold ground_Sqrt
  have f1 : kround_finite [.ro 1 1 1 fun i j => ([[F a]].getD i []).getD j .dead] = some (.bool true) := k_finite 1 1 (by omega) _ (fun i => [a].getD i 0) (l1 a) (one' ha.1)
  have f2 : kround_plain [.ro 1 1 1 fun i j => ([[F a]].getD i []).getD j .dead] = some (.bool true) := k_plain 1 1 (by omega) _ (fun i => [a].getD i 0) (l1 a) (one' ha)
  rw [k_way hm, okI8, ck_true, k_sqrt, e, okF, ck_true, f1, okQ, ck_true, gV, tB, ford_0 ha.1, gt_eq, gt_lt, Bool.not_true, Bool.or_false, cond_false, cond_false, f2, okQ, ck_true, gV, tB, cond_true, gV, tF, okFma, ck_true, k_sign, okI, ck_true, gV, tI, gV, tI, k_settle hr _ _ hm, okF, ck_true, gV, tF]
  rfl
/-- Where factors lie so, the product is told by both in the same way. -/
theorem mul_all {l1 h1 l2 h2 lo hi a b : Nat} (ha : In l1 h1 a) (hb : In l2 h2 b) (hl : lo + 1024 ≤ l1 + l2) (hh : h1 + h2 ≤ hi + 1020) (c1 : 200 ≤ l1) (c2 : h1 ≤ 1900) (c3 : 200 ≤ l2) (c4 : h2 ≤ 1900) (c5 : 200 ≤ lo) (c6 : hi ≤ 1900) {m : Int} (hm : Way m) :
    kround_Mul [F a, F b, .int .i8 m] = some (F (mulV m a b)) ∧ True ∧ In lo hi (mulV m a b) := by
  obtain ⟨na, a1, a2⟩ := ha
  obtain ⟨nb, b1, b2⟩ := hb
  obtain ⟨p, e, np, p1, p2⟩ := mul_ex na nb (by omega) (by omega)
  have e2 : mulV m a b = adjM p m a b := by unfold mulV; rw [e]; rfl
  obtain ⟨q0, q1, q2⟩ := adj_ex np (by omega) (by omega) (sg (Ieee.double.fma a b (Op.negFloat .f64 p))) m
  rw [e2]
  refine ⟨k_mul' ⟨na, by omega, by omega⟩ ⟨nb, by omega, by omega⟩ e ⟨np, by omega, by omega⟩ hm, trivial, q0, ?_, ?_⟩ <;> unfold adjM <;> omega
theorem div_all {l1 h1 l2 h2 lo hi a b : Nat} (ha : In l1 h1 a) (hb : In l2 h2 b) (hl : lo + h2 ≤ l1 + 1021) (hh : h1 + 1025 ≤ hi + l2) (c1 : 200 ≤ l1) (c2 : h1 ≤ 1900) (c3 : 200 ≤ l2) (c4 : h2 ≤ 1900) (c5 : 200 ≤ lo) (c6 : hi ≤ 1900) {m : Int} (hm : Way m) :
    kround_Div [F a, F b, .int .i8 m] = some (F (divV m a b)) ∧ True ∧ In lo hi (divV m a b) := by
  obtain ⟨na, a1, a2⟩ := ha
  obtain ⟨nb, b1, b2⟩ := hb
  obtain ⟨p, e, np, p1, p2⟩ := div_ex na nb (by omega) (by omega)
  have e2 : divV m a b = adjD p m a b := by unfold divV; rw [e]; rfl
  obtain ⟨q0, q1, q2⟩ := adj_ex np (by omega) (by omega) (sg (Ieee.double.fma (Op.negFloat .f64 p) b a)) m
  rw [e2]
  refine ⟨k_div' ⟨na, by omega, by omega⟩ ⟨nb, by omega, by omega⟩ e ⟨np, by omega, by omega⟩ hm, trivial, q0, ?_, ?_⟩ <;> unfold adjD <;> omega
theorem root_all {a : Nat} (ha : In 1023 1066 a) {m : Int} (hm : Way m) :
    kround_Sqrt [F a, .int .i8 m] = some (F (rootV m a)) ∧ True ∧ In 1022 1046 (rootV m a) := by
  obtain ⟨na, a1, a2⟩ := ha
  obtain ⟨p, e, np, p1, p2⟩ := sqrt_ex na
  have e2 : rootV m a = adjR p m a := by unfold rootV; rw [e]; rfl
  obtain ⟨q0, q1, q2⟩ := adj_ex np (by omega) (by omega) (sg (Ieee.double.fma (Op.negFloat .f64 p) p a)) m
  rw [e2]
  refine ⟨k_root' ⟨na, by omega, by omega⟩ e np hm, trivial, q0, ?_, ?_⟩ <;> unfold adjR <;> omega
end Go.Proofs.Tryz
end
section
namespace Go.Proofs.Tryz
open Go Go.Am Ieee.Pos
set_option maxRecDepth 100000

def ordI (a b : Nat) : Int := bif decide (a < b) then -1 else bif decide (b < a) then 1 else 0
theorem okBI (q : Bool) (n m : Int) : okM [RS.one LK.b, RS.one (LK.i .i64), RS.one (LK.i .u64)] (some (.tup [.bool q, .int .i64 n, .int .u64 m])) = true := rfl
theorem tl (a : AV) (l : List AV) : (a :: l).tail = l := rfl

section
variable {x : Nat} (hx : Norm x)
include hx
theorem k_place : kbits_Place [F x] = some (.tup [.int .i64 x, .bool true]) := by
  show gbits_Place kmath_Abs NN (some x) = _
  unfold gbits_Place
  rw [ford_s hx, k_abs hx, okF, ck_true, gV, tF, okBits, ck_true, ford_0 hx, Option.getD_some, wrapi (n := ((x : Nat) : Int)) (by omega) (by have := hx.1; omega)]
  rfl
theorem pos_x : 0 < x := by have := hx.2.1; unfold ex at this; omega
theorem k_rank : kbits_rank [F x] = some (.tup [.int .i64 x, .int .i64 0]) := by
  have h0 : (((x : Nat) : Int) == 0) = false := by
    have := pos_x hx
    have h : ¬ ((x : Nat) : Int) = 0 := by omega
    simpa using h
  show gbits_rank kbits_Place kmath_Signbit NN (some x) = _
  unfold gbits_rank
  rw [k_place hx]
  dsimp only
  rw [okIB, ck_true, gV, tT, hD, tl, hD, tI, tB, h0]
  rfl
end

theorem k_cmp (a b : Nat) : kcmp_Compare_int64 [.int .i64 a, .int .i64 b] = some (.int .i64 (ordI a b)) := by
  have e : ∀ n : Int, kcmp_isNaN_int64 [.int .i64 n] = some (.bool false) := fun n => by
    show some (AV.bool (n != n)) = _
    rw [bne_self_eq_false]
  show gcmp_Compare_int64 kcmp_isNaN_int64 NN a b = _
  unfold gcmp_Compare_int64 ordI
  rw [e, e, okQ, ck_true, ck_true, gV, tB, cond_false, cond_false]
  have e1 : decide (((a : Nat) : Int) < ((b : Nat) : Int)) = decide (a < b) := decide_eq_decide.2 (by omega)
  have e2 : decide (((a : Nat) : Int) > ((b : Nat) : Int)) = decide (b < a) := decide_eq_decide.2 (by omega)
  rw [e1, e2]
  cases decide (a < b) <;> cases decide (b < a) <;> rfl
theorem k_cmp0 : kcmp_Compare_int [.int .i64 0, .int .i64 0] = some (.int .i64 0) := rfl
theorem or_spec (f : Nat) (c : Int) : gcmp_Or_int (f + 3) 2 2 (fun i j => ([[AV.int .i64 c], [AV.int .i64 0]].getD i []).getD j .dead) = some (.int .i64 c) := by
  unfold gcmp_Or_int
  show gcmp_Or_int_l0_step _ (gcmp_Or_int_l0 _ _ _ 0 2 2 _ 2 (f + 2)) _ _ 0 2 2 _ 2 0 = _
  unfold gcmp_Or_int_l0_step
  by_cases h : c = 0
  · subst h; rfl
  · have h1 : (c != 0) = true := by simpa using h
    show (bif c != 0 then some (AV.int .i64 c) else _) = _
    rw [h1, cond_true]
theorem k_or (c : Int) : kcmp_Or_int [.ro 1 2 2 fun i j => ([[AV.int .i64 c], [AV.int .i64 0]].getD i []).getD j .dead] = some (.int .i64 c) := by
  show gcmp_Or_int NN 2 2 (fun i j => ([[AV.int .i64 c], [AV.int .i64 0]].getD i []).getD j .dead) = _
  have e : NN = 1125899906842621 + 3 := by unfold NN; omega
  rw [e]
  exact or_spec _ c

section
variable {a b : Nat} (ha : Norm a) (hb : Norm b)
include ha hb
theorem k_order : kbits_Order [F a, F b] = some (.int .i64 (ordI a b)) := by
  show gbits_Order kbits_rank kcmp_Compare_int64 kcmp_Compare_int kcmp_Or_int NN (some a) (some b) = _
  unfold gbits_Order
  rw [k_rank ha, k_rank hb]
  dsimp only
  simp only [okII, ck_true, gV, tT, tl, hD, tI, k_cmp, k_cmp0, okI, k_or]
end
theorem ord_lt (a b : Nat) : decide (ordI b a < 0) = decide (b < a) := by
  unfold ordI
  rcases Nat.lt_trichotomy b a with h | h | h
  · rw [decide_eq_true h]; rfl
  · subst h; rw [decide_eq_false (Nat.lt_irrefl b)]; rfl
  · rw [decide_eq_false (show ¬ b < a by omega), decide_eq_true h]; rfl
theorem ord_gt (a b : Nat) : decide (ordI b a > 0) = decide (a < b) := by
  unfold ordI
  rcases Nat.lt_trichotomy b a with h | h | h
  · rw [decide_eq_true h, decide_eq_false (show ¬ a < b by omega)]; rfl
  · subst h; rw [decide_eq_false (Nat.lt_irrefl b)]; rfl
  · rw [decide_eq_false (show ¬ b < a by omega), decide_eq_true h]; rfl
theorem min_b (a b : Nat) : (bif decide (b < a) then some (F b) else some (F a)) = some (F (min a b)) := by
  by_cases h : b < a
  · rw [decide_eq_true h, Nat.min_eq_right (by omega)]; rfl
  · rw [decide_eq_false h, Nat.min_eq_left (by omega)]; rfl
theorem max_b (a b : Nat) : (bif decide (a < b) then some (F b) else some (F a)) = some (F (max a b)) := by
  by_cases h : a < b
  · rw [decide_eq_true h, Nat.max_eq_right (by omega)]; rfl
  · rw [decide_eq_false h, Nat.max_eq_left (by omega)]; rfl
section
variable {a b : Nat} (ha : Norm a) (hb : Norm b)
include ha hb
theorem k_lesser : kspan_lesser [F a, F b] = some (F (min a b)) := by
  show gspan_lesser kbits_Order NN (some a) (some b) = _
  unfold gspan_lesser
  rw [k_order hb ha, okI, ck_true, gV, tI, ord_lt, min_b]
theorem k_greater : kspan_greater [F a, F b] = some (F (max a b)) := by
  show gspan_greater kbits_Order NN (some a) (some b) = _
  unfold gspan_greater
  rw [k_order hb ha, okI, ck_true, gV, tI, ord_gt, max_b]
theorem k_Right (h : a ≤ b) : kspan_Right [.agg [F a, F b]] = some (.bool true) := by
  have i1 : ∀ o, ford .f64 o (some 9218868437227405312) = ford .f64 o (some 9218868437227405312) := fun _ => rfl
  have e1 : kmath_Inf [.int .i64 1] = some (F 9218868437227405312) := rfl
  have e2 : kmath_Inf [.int .i64 (-1)] = some (F 18442240474082181120) := rfl
  show gspan_Right kmath_Inf NN (some a) (some b) = _
  unfold gspan_Right
  rw [e1, e2, okF, okF, gV, gV, tF, tF, ford_n ha hb, ford_d a, order_inf ha, ford_d b, order_minf hb, c_lt, c_eq]
  by_cases h1 : a < b
  · rw [decide_eq_true h1]; rfl
  · rw [decide_eq_false h1, decide_eq_true (show a = b by omega)]; rfl
end
end Go.Proofs.Tryz
end
section
namespace Go.Proofs.Tryz
open Go Go.Am Ieee.Pos
set_option maxRecDepth 100000

/-- A span of positive normal words. -/
def SIn (l h : Nat) (s : Nat × Nat) : Prop := In l h s.1 ∧ In l h s.2 ∧ s.1 ≤ s.2
abbrev SA (s : Nat × Nat) : AV := .agg [F s.1, F s.2]
def corn (f : Int → Nat → Nat → Nat) (s t : Nat × Nat) : Nat × Nat :=
  (min (min (f 1 s.1 t.1) (f 1 s.1 t.2)) (min (f 1 s.2 t.1) (f 1 s.2 t.2)), max (max (f 2 s.1 t.1) (f 2 s.1 t.2)) (max (f 2 s.2 t.1) (f 2 s.2 t.2)))
def mulS : Nat × Nat → Nat × Nat → Nat × Nat := corn mulV
def divS : Nat × Nat → Nat × Nat → Nat × Nat := corn divV
theorem In.min {l h a b : Nat} (ha : In l h a) (hb : In l h b) : In l h (min a b) := by
  rcases Nat.le_total a b with h | h
  · rw [Nat.min_eq_left h]; exact ha
  · rw [Nat.min_eq_right h]; exact hb
theorem In.max {l h a b : Nat} (ha : In l h a) (hb : In l h b) : In l h (max a b) := by
  rcases Nat.le_total a b with h | h
  · rw [Nat.max_eq_right h]; exact hb
  · rw [Nat.max_eq_left h]; exact ha
theorem adj_le (p : Nat) (off : Int) : adj p off 1 ≤ adj p off 2 := by
  unfold adj
  cases decide (off < 0) <;> cases decide (off > 0) <;> simp <;> omega
theorem mulV_le (a b : Nat) : mulV 1 a b ≤ mulV 2 a b := adj_le _ _
theorem divV_le (a b : Nat) : divV 1 a b ≤ divV 2 a b := adj_le _ _
theorem corn_le {f : Int → Nat → Nat → Nat} (h : ∀ a b, f 1 a b ≤ f 2 a b) (s t : Nat × Nat) : (corn f s t).1 ≤ (corn f s t).2 :=
  Nat.le_trans (Nat.le_trans (Nat.min_le_left _ _) (Nat.min_le_left _ _)) (Nat.le_trans (h _ _) (Nat.le_trans (Nat.le_max_left _ _) (Nat.le_max_left _ _)))
theorem w1 : Way 1 := Or.inr (Or.inl rfl)
theorem w2 : Way 2 := Or.inr (Or.inr rfl)
theorem w0 : Way 0 := Or.inl rfl
theorem bne_eq' : (some Ordering.eq != some Ordering.eq) = false := rfl

theorem k_right {a b c d : Nat} (ha : Norm a) (hb : Norm b) (hc : Norm c) (hd : Norm d) (h1 : a ≤ b) (h2 : c ≤ d) :
    kspan_right [.ro 2 2 2 fun i j => ([[F a, F b], [F c, F d]].getD i []).getD j .dead] = some (.bool true) := by
  have e : NN = 1125899906842621 + 3 := by unfold NN; omega
  have hs : ∀ f, gspan_right kspan_Right (f + 3) 2 2 (fun i j => ([[F a, F b], [F c, F d]].getD i []).getD j .dead) = some (.bool true) := fun f => by
    unfold gspan_right
    show gspan_right_l0_step kspan_Right _ (gspan_right_l0 kspan_Right _ _ _ 2 2 _ 2 (f + 2)) _ _ 2 2 _ 2 0 = _
    unfold gspan_right_l0_step
    show ck (okM [RS.one LK.b] (kspan_Right [.agg [F a, F b]])) (bif !toB (getV (kspan_Right [.agg [F a, F b]])) then _ else gspan_right_l0 kspan_Right _ _ _ 2 2 _ 2 (f + 2) 1) = _
    rw [k_Right ha hb h1, okQ, ck_true, gV, tB, Bool.not_true, cond_false]
    show gspan_right_l0_step kspan_Right _ (gspan_right_l0 kspan_Right _ _ _ 2 2 _ 2 (f + 1)) _ _ 2 2 _ 2 1 = _
    unfold gspan_right_l0_step
    show ck (okM [RS.one LK.b] (kspan_Right [.agg [F c, F d]])) (bif !toB (getV (kspan_Right [.agg [F c, F d]])) then _ else gspan_right_l0 kspan_Right _ _ _ 2 2 _ 2 (f + 1) 2) = _
    rw [k_Right hc hd h2]
    rfl
  show gspan_right kspan_Right NN 2 2 (fun i j => ([[F a, F b], [F c, F d]].getD i []).getD j .dead) = _
  rw [e]
  exact hs _
theorem okXS (o p : Option Nat) : okX [RS.agg [LK.f .f64, LK.f .f64]] (some (.tup [.agg [.flt .f64 o, .flt .f64 p]])) = true := rfl

/-! ### Mul -/
theorem k_mulc {a b l1 h1 l2 h2 lo hi : Nat} (ha : In l1 h1 a) (hb : In l2 h2 b) (hl : lo + 1024 ≤ l1 + l2) (hh : h1 + h2 ≤ hi + 1020) (c1 : 200 ≤ l1) (c2 : h1 ≤ 1900) (c3 : 200 ≤ l2) (c4 : h2 ≤ 1900) (c5 : 200 ≤ lo) (c6 : hi ≤ 1900) {m : Int} (hm : Way m) :
    kspan_Mul_c1 [F a, F b, .int .i8 m] = some (F (mulV m a b)) ∧ True ∧ In lo hi (mulV m a b) := by
  obtain ⟨e1, e2, e3⟩ := mul_all ha hb hl hh c1 c2 c3 c4 c5 c6 hm
  refine ⟨?_, ?_, e3⟩
  · show gspan_Mul_c1 kround_Mul NN (some a) (some b) m = _
    unfold gspan_Mul_c1
    rw [e1, okF, ck_true, gV, tF, ford_s e3.1]
    rfl
  · trivial

theorem mulS_all {s t : Nat × Nat} {l1 h1 l2 h2 lo hi : Nat} (hs : SIn l1 h1 s) (ht : SIn l2 h2 t) (hl : lo + 1024 ≤ l1 + l2) (hh : h1 + h2 ≤ hi + 1020) (c1 : 200 ≤ l1) (c2 : h1 ≤ 1900) (c3 : 200 ≤ l2) (c4 : h2 ≤ 1900) (c5 : 200 ≤ lo) (c6 : hi ≤ 1900) :
    kspan_Mul [SA s, SA t] = some (.tup [SA (mulS s t), .int .i64 0]) ∧ True ∧ SIn lo hi (mulS s t) := by
  obtain ⟨s1, s2, sl⟩ := hs
  obtain ⟨t1, t2, tl'⟩ := ht
  obtain ⟨a1, b1, i1⟩ := k_mulc s1 t1 hl hh c1 c2 c3 c4 c5 c6 w1
  obtain ⟨a2, b2, i2⟩ := k_mulc s1 t2 hl hh c1 c2 c3 c4 c5 c6 w1
  obtain ⟨a3, b3, i3⟩ := k_mulc s2 t1 hl hh c1 c2 c3 c4 c5 c6 w1
  obtain ⟨a4, b4, i4⟩ := k_mulc s2 t2 hl hh c1 c2 c3 c4 c5 c6 w1
  obtain ⟨a5, b5, i5⟩ := k_mulc s1 t1 hl hh c1 c2 c3 c4 c5 c6 w2
  obtain ⟨a6, b6, i6⟩ := k_mulc s1 t2 hl hh c1 c2 c3 c4 c5 c6 w2
  obtain ⟨a7, b7, i7⟩ := k_mulc s2 t1 hl hh c1 c2 c3 c4 c5 c6 w2
  obtain ⟨a8, b8, i8⟩ := k_mulc s2 t2 hl hh c1 c2 c3 c4 c5 c6 w2
  have hin : SIn lo hi (mulS s t) := ⟨(i1.min i2).min (i3.min i4), (i5.max i6).max (i7.max i8), corn_le mulV_le s t⟩
  refine ⟨?_, ?_, hin⟩
  · have e : kspan_corners_a [SA s, SA t, .fn (Fn.func 84) [] []] = some (.tup [SA (mulS s t)]) := by
      show gspan_corners_a kspan_lesser kspan_greater kspan_Mul_c1 kspan_Div_c1 NN (some s.1) (some s.2) (some t.1) (some t.2) = _
      unfold gspan_corners_a
      simp only [a1, a2, a3, a4, a5, a6, a7, a8, okF, gV, tF, ck_true, k_lesser i1.1 i2.1, k_lesser (i1.min i2).1 i3.1, k_lesser ((i1.min i2).min i3).1 i4.1, k_greater i5.1 i6.1, k_greater (i5.max i6).1 i7.1, k_greater ((i5.max i6).max i7).1 i8.1]
      unfold mulS corn SA
      simp only [Nat.min_assoc, Nat.max_assoc]
    show gspan_Mul kspan_right kspan_Mul_c1 kspan_corners_a kspan_corners_b NN (some s.1) (some s.2) (some t.1) (some t.2) = _
    unfold gspan_Mul
    rw [k_right s1.1 s2.1 t1.1 t2.1 sl tl', okQ, ck_true, gV, tB, Bool.not_true, cond_false]
    rw [e]
    rfl
  · trivial

/-! ### Div -/
theorem k_divc {a b l1 h1 l2 h2 lo hi : Nat} (ha : In l1 h1 a) (hb : In l2 h2 b) (hl : lo + h2 ≤ l1 + 1021) (hh : h1 + 1025 ≤ hi + l2) (c1 : 200 ≤ l1) (c2 : h1 ≤ 1900) (c3 : 200 ≤ l2) (c4 : h2 ≤ 1900) (c5 : 200 ≤ lo) (c6 : hi ≤ 1900) {m : Int} (hm : Way m) :
    kspan_Div_c1 [F a, F b, .int .i8 m] = some (F (divV m a b)) ∧ True ∧ In lo hi (divV m a b) := by
  obtain ⟨e1, e2, e3⟩ := div_all ha hb hl hh c1 c2 c3 c4 c5 c6 hm
  refine ⟨?_, ?_, e3⟩
  · show gspan_Div_c1 kround_Div NN (some a) (some b) m = _
    unfold gspan_Div_c1
    rw [e1, okF, ck_true, gV, tF, ford_s e3.1]
    rfl
  · trivial

theorem divS_all {s t : Nat × Nat} {l1 h1 l2 h2 lo hi : Nat} (hs : SIn l1 h1 s) (ht : SIn l2 h2 t) (hl : lo + h2 ≤ l1 + 1021) (hh : h1 + 1025 ≤ hi + l2) (c1 : 200 ≤ l1) (c2 : h1 ≤ 1900) (c3 : 200 ≤ l2) (c4 : h2 ≤ 1900) (c5 : 200 ≤ lo) (c6 : hi ≤ 1900) :
    kspan_Div [SA s, SA t] = some (.tup [SA (divS s t), .int .i64 0]) ∧ True ∧ SIn lo hi (divS s t) := by
  obtain ⟨s1, s2, sl⟩ := hs
  obtain ⟨t1, t2, tl'⟩ := ht
  obtain ⟨a1, b1, i1⟩ := k_divc s1 t1 hl hh c1 c2 c3 c4 c5 c6 w1
  obtain ⟨a2, b2, i2⟩ := k_divc s1 t2 hl hh c1 c2 c3 c4 c5 c6 w1
  obtain ⟨a3, b3, i3⟩ := k_divc s2 t1 hl hh c1 c2 c3 c4 c5 c6 w1
  obtain ⟨a4, b4, i4⟩ := k_divc s2 t2 hl hh c1 c2 c3 c4 c5 c6 w1
  obtain ⟨a5, b5, i5⟩ := k_divc s1 t1 hl hh c1 c2 c3 c4 c5 c6 w2
  obtain ⟨a6, b6, i6⟩ := k_divc s1 t2 hl hh c1 c2 c3 c4 c5 c6 w2
  obtain ⟨a7, b7, i7⟩ := k_divc s2 t1 hl hh c1 c2 c3 c4 c5 c6 w2
  obtain ⟨a8, b8, i8⟩ := k_divc s2 t2 hl hh c1 c2 c3 c4 c5 c6 w2
  have hin : SIn lo hi (divS s t) := ⟨(i1.min i2).min (i3.min i4), (i5.max i6).max (i7.max i8), corn_le divV_le s t⟩
  refine ⟨?_, ?_, hin⟩
  · have e : kspan_corners_b [SA s, SA t, .fn (Fn.func 82) [] []] = some (.tup [SA (divS s t)]) := by
      show gspan_corners_b kspan_lesser kspan_greater kspan_Mul_c1 kspan_Div_c1 NN (some s.1) (some s.2) (some t.1) (some t.2) = _
      unfold gspan_corners_b
      simp only [a1, a2, a3, a4, a5, a6, a7, a8, okF, gV, tF, ck_true, k_lesser i1.1 i2.1, k_lesser (i1.min i2).1 i3.1, k_lesser ((i1.min i2).min i3).1 i4.1, k_greater i5.1 i6.1, k_greater (i5.max i6).1 i7.1, k_greater ((i5.max i6).max i7).1 i8.1]
      unfold divS corn SA
      simp only [Nat.min_assoc, Nat.max_assoc]
    show gspan_Div kspan_right kspan_Div_c1 kspan_corners_a kspan_corners_b NN (some s.1) (some s.2) (some t.1) (some t.2) = _
    unfold gspan_Div
    rw [k_right s1.1 s2.1 t1.1 t2.1 sl tl', okQ, ck_true, gV, tB, Bool.not_true, cond_false]
    rw [ford_0 t1.1, ford_0 t2.1, gt_lt, gt_eq, Bool.or_false, cond_false, ck_true, cond_false, cond_false]
    rw [e]
    rfl
  · trivial
end Go.Proofs.Tryz
end
section
namespace Go.Proofs.Tryz
open Go Go.Am

theorem wrap_id {n : Int} (h1 : -9223372036854775808 ≤ n) (h2 : n < 9223372036854775808) : IntKind.i64.wrap n = n := by
  rw [IntKind.wrap_i64]; omega
theorem wrap_succ {i : Nat} (h : i < 4611686018427387904) : IntKind.i64.wrap ((i : Int) + 1) = ((i + 1 : Nat) : Int) := by
  rw [wrap_id] <;> omega
theorem fit_i {k : IntKind} {n : Int} : fitK (.i k) (.int k n) = true := by simp [fitK]
theorem cond_or {b c : Bool} : (bif b then true else c) = (b || c) := by cases b <;> rfl
theorem cond_and {b c : Bool} : (bif b then c else false) = (b && c) := by cases b <;> rfl

def farB (a : Int) : Bool := decide (a < -1048576) || decide (a > 1048576)

theorem near_step (f k : Nat) (kx0 : Bool → Option AV) (kx1 : Option AV) (n r : Nat) (g : Nat → Nat → AV) (i : Nat) (a : Int) (hi : i < n) (hn : n < 4611686018427387904) (hg : g i 0 = .int .i32 a) :
    gjoints_near_l0 f kx0 kx1 n r g n (k + 1) i = bif farB a then kx0 false else gjoints_near_l0 f kx0 kx1 n r g n k ((i + 1 : Nat) : Int) := by
  have h1 : (i : Int) < n := by omega
  show gjoints_near_l0_step f _ kx0 kx1 n r g n i = _
  unfold gjoints_near_l0_step
  try unfold ck
  have hg' : g (Int.toNat (i : Int)) 0 = .int .i32 a := by simpa using hg
  rw [decide_eq_true h1, decide_eq_true (show (0 : Int) ≤ i by omega), cond_true, cond_true, cond_true, hg', fit_i, cond_true, wrap_succ (by omega), cond_or]
  rfl

theorem near_end (f k : Nat) (kx0 : Bool → Option AV) (kx1 : Option AV) (n r : Nat) (g : Nat → Nat → AV) : gjoints_near_l0 f kx0 kx1 n r g n (k + 1) n = kx1 := by
  show gjoints_near_l0_step f _ kx0 kx1 n r g n n = _
  unfold gjoints_near_l0_step
  try unfold ck
  rw [decide_eq_false (by omega), cond_false]

theorem near_spec (f : Nat) (r : Nat) (a b : Int) (g : Nat → Nat → AV) (h0 : g 0 0 = .int .i32 a) (h1 : g 1 0 = .int .i32 b) : gjoints_near (f + 3) 2 r g = some (.bool (!farB a && !farB b)) := by
  unfold gjoints_near
  try unfold ck
  have e0 := near_step (f + 3) (f + 2) (fun b => some (AV.bool b)) (some (.bool true)) 2 r g 0 a (by omega) (by omega) h0
  have e1 := near_step (f + 3) (f + 1) (fun b => some (AV.bool b)) (some (.bool true)) 2 r g 1 b (by omega) (by omega) h1
  have e2 := near_end (f + 3) f (fun b => some (AV.bool b)) (some (.bool true)) 2 r g
  refine e0.trans ?_
  cases ha : farB a
  · rw [cond_false]
    refine e1.trans ?_
    cases hb : farB b
    · rw [cond_false]; exact e2
    · rfl
  · rfl
end Go.Proofs.Tryz
end
section
namespace Go.Proofs.Tryz
open Go Go.Am

def letB (b : Int) : Bool := decide (b ≥ 97) && decide (b ≤ 122)
def digB (b : Int) : Bool := decide (b ≥ 48) && decide (b ≤ 57)
def okB (s : ByteArray) (i : Nat) : Bool := letB (sbyte s i) || (digB (sbyte s i) && decide (0 < i))
def allB (s : ByteArray) : Nat → Nat → Bool
  | 0, _ => true
  | k + 1, i => okB s i && allB s k (i + 1)
def nameB (s : ByteArray) : Bool := decide (1 ≤ s.size) && decide (s.size ≤ 8) && allB s s.size 0

theorem beq_zero {i : Nat} : ((i : Int) == 0) = !decide (0 < i) := by
  cases i with
  | zero => rfl
  | succ k =>
    rw [decide_eq_true (by omega)]
    have : ¬ ((k + 1 : Nat) : Int) = 0 := by omega
    simpa using this

/-- The test, as the program has it, of a byte. -/
theorem test_a (b : Int) (i : Nat) (q : Bool) : (bif bif !bif decide (b ≥ 97) then decide (b ≤ 122) else false then bif !bif decide (b ≥ 48) then decide (b ≤ 57) else false then true else q else false then true else false) =
    !(letB b || (digB b && !q)) := by
  unfold letB digB
  cases decide (b ≥ 97) <;> cases decide (b ≤ 122) <;> cases decide (b ≥ 48) <;> cases decide (b ≤ 57) <;> cases q <;> rfl

theorem gbars_named_step (f k : Nat) (kx0 : Bool → Option AV) (kx1 : ByteArray → Option AV) (s : ByteArray) (i : Nat) (hi : i < s.size) (hn : s.size < 4611686018427387904) :
    gbars_named_l0 f kx0 kx1 s s.size (k + 1) i = bif okB s i then gbars_named_l0 f kx0 kx1 s s.size k ((i + 1 : Nat) : Int) else kx0 false := by
  have h1 : (i : Int) < s.size := by omega
  show gbars_named_l0_step f _ kx0 kx1 s s.size i = _
  unfold gbars_named_l0_step
  try unfold ck
  rw [decide_eq_true h1, decide_eq_true (show (0 : Int) ≤ i by omega), wrap_succ (by omega), beq_zero, Int.toNat_natCast]
  unfold okB letB digB
  generalize sbyte s i = b
  cases decide (b ≥ 97) <;> cases decide (b ≤ 122) <;> cases decide (b ≥ 48) <;> cases decide (b ≤ 57) <;> cases decide (0 < i) <;> rfl

theorem gbars_named_all (f : Nat) (kx0 : Bool → Option AV) (kx1 : ByteArray → Option AV) (s : ByteArray) (hn : s.size < 4611686018427387904) : ∀ (r k i : Nat), i + r = s.size → gbars_named_l0 f kx0 kx1 s s.size (k + r + 1) i = bif allB s r i then kx1 s else kx0 false
  | 0, k, i, h => by
    obtain rfl : i = s.size := by omega
    show gbars_named_l0_step f _ kx0 kx1 s s.size s.size = _
    unfold gbars_named_l0_step
    try unfold ck
    rw [decide_eq_false (by omega), cond_false]
    rfl
  | r + 1, k, i, h => by
    rw [show k + (r + 1) + 1 = (k + r + 1) + 1 by omega, gbars_named_step f _ kx0 kx1 s i (by omega) hn, gbars_named_all f kx0 kx1 s hn r k (i + 1) (by omega)]
    simp only [allB]
    cases okB s i <;> rfl

theorem name30 (f : Nat) (s : ByteArray) (hf : s.size < f) (hn : s.size < 4611686018427387904) : gbars_named f s = some (.bool (nameB s)) := by
  unfold gbars_named nameB
  try unfold ck
  have := gbars_named_all f (fun b => some (AV.bool b)) (fun s => some (AV.bool (bif decide ((s.size : Int) ≥ 1) then decide ((s.size : Int) ≤ 8) else false))) s hn s.size (f - s.size - 1) 0 (by omega)
  rw [show f - s.size - 1 + s.size + 1 = f by omega] at this
  refine this.trans ?_
  have e1 : decide ((s.size : Int) ≥ 1) = decide (1 ≤ s.size) := decide_eq_decide.2 (by omega)
  have e2 : decide ((s.size : Int) ≤ 8) = decide (s.size ≤ 8) := decide_eq_decide.2 (by omega)
  rw [e1, e2]
  cases allB s s.size 0 <;> cases decide (1 ≤ s.size) <;> cases decide (s.size ≤ 8) <;> rfl

theorem sbyte_get {s : ByteArray} {i : Nat} (h : i < s.size) : sbyte s i = ((s[i]'h).toNat : Int) := by
  unfold sbyte
  have : s.data[i]? = some (s[i]'h) := by
    rw [Array.getElem?_eq_getElem h]; rfl
  rw [this]; rfl

theorem gjoints_named_all (f : Nat) (kx0 : Bool → ByteArray → Nat → Option AV) (kx1 : ByteArray → Nat → Option AV) (s : ByteArray) : ∀ (r k i : Nat), i + r = s.size → ∃ p, gjoints_named_l0 f kx0 kx1 s (k + r + 1) i = bif allB s r i then kx1 s s.size else kx0 false s p
  | 0, k, i, h => by
    obtain rfl : i = s.size := by omega
    refine ⟨0, ?_⟩
    show gjoints_named_l0_step f _ kx0 kx1 s s.size = _
    unfold gjoints_named_l0_step
    try unfold ck
    have : Nat.blt s.size s.size = false := by
      cases hb : Nat.blt s.size s.size with
      | false => rfl
      | true => rw [Nat.blt_eq] at hb; omega
    rw [this]; rfl
  | r + 1, k, i, h => by
    have hi : i < s.size := by omega
    obtain ⟨p, ih⟩ := gjoints_named_all f kx0 kx1 s r k (i + 1) (by omega)
    have hb : Nat.blt i s.size = true := by simpa using hi
    have hst : gjoints_named_l0 f kx0 kx1 s (k + (r + 1) + 1) i = gjoints_named_l0_step f (gjoints_named_l0 f kx0 kx1 s (k + r + 1)) kx0 kx1 s i := rfl
    rw [hst]
    unfold gjoints_named_l0_step
    try unfold ck
    rw [hb, cond_true]
    have hsb := sbyte_get hi
    simp only [allB, okB]
    rw [hsb]
    by_cases hlo : (s[i]'hi).toNat < 128
    · rw [decode_ascii s i hi hlo]
      simp only
      have e1 : decide ((i : Int) > 0) = decide (0 < i) := decide_eq_decide.2 (by omega)
      rw [e1]
      refine ⟨if letB ((s[i]'hi).toNat : Int) || (digB ((s[i]'hi).toNat : Int) && decide (0 < i)) then p else i + 1, ?_⟩
      rw [ih]
      unfold letB digB
      generalize ((s[i]'hi).toNat : Int) = b
      cases decide (b ≥ 97) <;> cases decide (b ≤ 122) <;> cases decide (b ≥ 48) <;> cases decide (b ≤ 57) <;> cases decide (0 < i) <;> cases allB s r (i + 1) <;> rfl
    · have hd := decode_high s i hi (by omega)
      refine ⟨i + (Utf8.decode s i).2, ?_⟩
      have e1 : letB ((s[i]'hi).toNat : Int) = false := by
        unfold letB
        rw [decide_eq_false (show ¬ ((s[i]'hi).toNat : Int) ≤ 122 by omega), Bool.and_false]
      have e2 : digB ((s[i]'hi).toNat : Int) = false := by
        unfold digB
        rw [decide_eq_false (show ¬ ((s[i]'hi).toNat : Int) ≤ 57 by omega), Bool.and_false]
      rw [e1, e2, decide_eq_false (show ¬ (((Utf8.decode s i).1 : Nat) : Int) ≤ 122 by have := hd.1; omega), decide_eq_false (show ¬ (((Utf8.decode s i).1 : Nat) : Int) ≤ 57 by have := hd.1; omega)]
      cases decide ((((Utf8.decode s i).1 : Nat) : Int) ≥ 97) <;> cases decide ((((Utf8.decode s i).1 : Nat) : Int) ≥ 48) <;> rfl
end Go.Proofs.Tryz
end
section
namespace Go.Proofs.Tryz
open Go Go.Am

theorem strEq_iff (a b : ByteArray) : strEq a b = true ↔ a = b := by
  unfold strEq
  rw [← beq_toListBytes]
  exact MapKept.bytes_beq a b
theorem strEq_comm (a b : ByteArray) : strEq a b = strEq b a := by
  apply Bool.eq_iff_iff.2
  rw [strEq_iff, strEq_iff]
  exact eq_comm
theorem strEq_nil (s : ByteArray) : strEq s { data := #[] } = !decide (1 ≤ s.size) := by
  apply Bool.eq_iff_iff.2
  rw [strEq_iff]
  constructor
  · rintro rfl; rfl
  · intro h
    have h0 : s.size = 0 := by
      have : ¬ 1 ≤ s.size := by simpa using h
      omega
    exact ByteArray.size_eq_zero_iff.1 h0

theorem name28 (f : Nat) (s : ByteArray) (hf : s.size < f) : gjoints_named f s = some (.bool (nameB s)) := by
  unfold gjoints_named nameB
  try unfold ck
  rw [strEq_nil]
  have e2 : decide ((s.size : Int) > 8) = !decide (s.size ≤ 8) := by
    by_cases h : s.size ≤ 8
    · rw [decide_eq_true h, decide_eq_false (by omega)]; rfl
    · rw [decide_eq_false h, decide_eq_true (by omega)]; rfl
  rw [e2]
  cases decide (1 ≤ s.size)
  · rfl
  cases decide (s.size ≤ 8)
  · rfl
  obtain ⟨p, hp⟩ := gjoints_named_all f (fun b _ _ => some (AV.bool b)) (fun _ _ => some (.bool true)) s s.size (f - s.size - 1) 0 (by omega)
  rw [show f - s.size - 1 + s.size + 1 = f by omega] at hp
  refine hp.trans ?_
  cases allB s s.size 0 <;> rfl

def okL (s : ByteArray) (i : Nat) : Bool := letB (sbyte s i) || digB (sbyte s i)
def allL (s : ByteArray) : Nat → Nat → Bool
  | 0, _ => true
  | k + 1, i => okL s i && allL s k (i + 1)

theorem lt_ge (b c : Int) : decide (b < c) = !decide (b ≥ c) := by
  by_cases h : b < c
  · rw [decide_eq_true h, decide_eq_false (by omega)]; rfl
  · rw [decide_eq_false h, decide_eq_true (by omega)]; rfl
theorem gt_le (b c : Int) : decide (b > c) = !decide (b ≤ c) := by
  by_cases h : b > c
  · rw [decide_eq_true h, decide_eq_false (by omega)]; rfl
  · rw [decide_eq_false h, decide_eq_true (by omega)]; rfl

theorem allL_eq (s : ByteArray) : ∀ (r i : Nat), 0 < i → allL s r i = allB s r i
  | 0, _, _ => rfl
  | r + 1, i, h => by
    simp only [allL, allB, okL, okB, decide_eq_true h, Bool.and_true, allL_eq s r (i + 1) (by omega)]

end Go.Proofs.Tryz
end
section
namespace Go.Proofs.Tryz
open Go Go.Am
set_option maxRecDepth 100000

/-- Joints, as the program reads them. -/
structure JS where
  n : Nat
  nm : Nat → ByteArray
  x : Nat → Int
  y : Nat → Int
  fx : Nat → Int
def JS.Ok (J : JS) (g : Nat → Nat → AV) : Prop := ∀ i, i < J.n → g i 0 = .str (J.nm i) ∧ g i 1 = .int .i32 (J.x i) ∧ g i 2 = .int .i32 (J.y i) ∧ g i 3 = .int .u8 (J.fx i)

def anyLt (p : Nat → Bool) : Nat → Bool
  | 0 => false
  | k + 1 => anyLt p k || p k
def JS.bad (J : JS) (i : Nat) : Bool :=
  anyLt (fun k => strEq (J.nm i) (J.nm k)) i || anyLt (fun k => J.x i == J.x k && J.y i == J.y k) i || !nameB (J.nm i) || (farB (J.x i) || farB (J.y i)) || decide (J.fx i > 7)
def first (p : Nat → Bool) : Nat → Nat → Option Nat
  | 0, _ => none
  | r + 1, i => bif p i then some i else first p r (i + 1)
def JS.check (J : JS) : Int × Int := bif decide (J.n > 16) then (3, 0) else match first J.bad J.n 0 with
  | some i => (280, (i : Int))
  | none => (0, 0)

theorem okM_b (q : Bool) : okM [RS.one LK.b] (some (.bool q)) = true := rfl
theorem getV_b (q : Bool) : toB (getV (some (.bool q))) = q := rfl

theorem key9 (a b : ByteArray) : keyEq prog 9 (.str a) (.str b) = some (strEq a b) := by kernel_rfl
theorem key91 (a b c d : Int) : keyEq prog 114 (.agg [.int .i32 a, .int .i32 b]) (.agg [.int .i32 c, .int .i32 d]) = some (bif a == c then (bif b == d then true else false) else false) := by kernel_rfl
theorem fit3 (k : Int) : fit1 prog 3 (.int .i64 k) = true := by kernel_rfl

theorem findM_append (P : Program) (kt : Nat) (k : AV) (p : AV × AV) : ∀ l : List (AV × AV), (findM P kt k (l ++ [p])).isSome = ((findM P kt k l).isSome || isT (keyEq P kt k p.1))
  | [] => by simp only [List.nil_append, findM]; cases isT (keyEq P kt k p.1) <;> rfl
  | q :: l => by
    simp only [List.cons_append, findM]
    cases isT (keyEq P kt k q.1)
    · exact findM_append P kt k p l
    · rfl

def IntVals (l : List (AV × AV)) : Prop := ∀ p ∈ l, ∃ n, p.2 = .int .i64 n
theorem findM_fit (kt : Nat) (k : AV) : ∀ (l : List (AV × AV)), IntVals l → fit1 prog 3 ((findM prog kt k l).getD (.int .i64 0)) = true
  | [], _ => fit3 0
  | q :: l, h => by
    simp only [findM]
    cases isT (keyEq prog kt k q.1)
    · exact findM_fit kt k l (fun p hp => h p (List.mem_cons_of_mem _ hp))
    · obtain ⟨n, hn⟩ := h q (List.mem_cons_self ..)
      show fit1 prog 3 q.2 = true
      rw [hn]; exact fit3 n

section
variable (J : JS)
def JS.nl : Nat → List (AV × AV)
  | 0 => []
  | i + 1 => JS.nl i ++ [(.str (J.nm i), .int .i64 i)]
def JS.pl : Nat → List (AV × AV)
  | 0 => []
  | i + 1 => JS.pl i ++ [(.agg [.int .i32 (J.x i), .int .i32 (J.y i)], .int .i64 i)]
theorem nl_vals : ∀ i, IntVals (J.nl i)
  | 0 => by intro p hp; simp [JS.nl] at hp
  | i + 1 => by
    intro p hp
    simp only [JS.nl, List.mem_append, List.mem_singleton] at hp
    rcases hp with hp | rfl
    · exact nl_vals i p hp
    · exact ⟨_, rfl⟩
theorem pl_vals : ∀ i, IntVals (J.pl i)
  | 0 => by intro p hp; simp [JS.pl] at hp
  | i + 1 => by
    intro p hp
    simp only [JS.pl, List.mem_append, List.mem_singleton] at hp
    rcases hp with hp | rfl
    · exact pl_vals i p hp
    · exact ⟨_, rfl⟩
theorem nl_fit (s : ByteArray) : ∀ i, mapFit prog 9 (.str s) (J.nl i) = true
  | 0 => rfl
  | i + 1 => by
    have := nl_fit s i
    unfold mapFit at this ⊢
    simp only [JS.nl, List.all_append, this, List.all_cons, List.all_nil, key9, Option.isSome_some, Bool.and_self]
theorem pl_fit (a b : Int) : ∀ i, mapFit prog 114 (.agg [.int .i32 a, .int .i32 b]) (J.pl i) = true
  | 0 => rfl
  | i + 1 => by
    have := pl_fit a b i
    unfold mapFit at this ⊢
    simp only [JS.pl, List.all_append, this, List.all_cons, List.all_nil, key91, Option.isSome_some, Bool.and_self]
theorem nl_find (s : ByteArray) : ∀ i, (findM prog 9 (.str s) (J.nl i)).isSome = anyLt (fun k => strEq s (J.nm k)) i
  | 0 => rfl
  | i + 1 => by
    simp only [JS.nl, findM_append, key9, isT, anyLt, nl_find s i]
theorem pl_find (a b : Int) : ∀ i, (findM prog 114 (.agg [.int .i32 a, .int .i32 b]) (J.pl i)).isSome = anyLt (fun k => a == J.x k && b == J.y k) i
  | 0 => rfl
  | i + 1 => by
    simp only [JS.pl, findM_append, key91, isT, anyLt, pl_find a b i]
    cases a == J.x i <;> cases b == J.y i <;> rfl
end

structure Sp28 (M : List AV → Option AV) (B : Nat) : Prop where
  sp : ∀ s : ByteArray, s.size ≤ B → M [.str s] = some (.bool (nameB s))
structure Sp29 (M : List AV → Option AV) : Prop where
  sp : ∀ (r : Nat) (a b : Int) (g : Nat → Nat → AV), g 0 0 = .int .i32 a → g 1 0 = .int .i32 b → M [.ro 1 2 r g] = some (.bool (!farB a && !farB b))

theorem gjoints_Check_step {M28 M29 : List AV → Option AV} {B : Nat} (h28 : Sp28 M28 B) (h29 : Sp29 M29) (J : JS) (hJ : J.n < 4611686018427387904) (f k : Nat)
    (kx0 : Int → Int → List (AV × AV) → List (AV × AV) → ByteArray → Int → Int → Int → Option AV) (kx1 : List (AV × AV) → List (AV × AV) → Option AV) (r : Nat) (g : Nat → Nat → AV) (hg : J.Ok g) (i : Nat) (hi : i < J.n) (hB : (J.nm i).size ≤ B) :
    gjoints_Check_l0 M28 M29 f kx0 kx1 J.n r g J.n (k + 1) i (J.nl i) (J.pl i) = bif J.bad i then kx0 280 i (J.nl i) (J.pl i) (J.nm i) (J.x i) (J.y i) (J.fx i) else
      gjoints_Check_l0 M28 M29 f kx0 kx1 J.n r g J.n k ((i + 1 : Nat) : Int) (J.nl (i + 1)) (J.pl (i + 1)) := by
  have h1 : (i : Int) < J.n := by omega
  obtain ⟨g0, g1, g2, g3⟩ := hg i hi
  show gjoints_Check_l0_step M28 M29 f _ kx0 kx1 J.n r g J.n i (J.nl i) (J.pl i) = _
  unfold gjoints_Check_l0_step
  try unfold ck
  rw [decide_eq_true h1, decide_eq_true (show (0 : Int) ≤ i by omega), wrap_succ (by omega), Int.toNat_natCast, g0, g1, g2, g3]
  simp only [toS, toI]
  have e28 := h28.sp (J.nm i) hB
  have e29 := h29.sp 2 (J.x i) (J.y i) (fun i_1 j => ([[AV.int IntKind.i32 (J.x i)], [AV.int IntKind.i32 (J.y i)]].getD i_1 []).getD j AV.dead) rfl rfl
  have ef : fitKs [LK.s, LK.i IntKind.i32, LK.i IntKind.i32, LK.i IntKind.u8] [.str (J.nm i), .int .i32 (J.x i), .int .i32 (J.y i), .int .u8 (J.fx i)] = true := rfl
  rw [ef, nl_fit, findM_fit _ _ _ (nl_vals J i), pl_fit, findM_fit _ _ _ (pl_vals J i), nl_find, pl_find, e28, e29, okM_b, okM_b, getV_b, getV_b]
  unfold JS.bad
  by_cases h7 : J.fx i > 7 <;> simp only [h7, decide_true, decide_false] <;>
  cases anyLt (fun k => strEq (J.nm i) (J.nm k)) i <;> cases anyLt (fun k => J.x i == J.x k && J.y i == J.y k) i <;> cases nameB (J.nm i) <;> cases farB (J.x i) <;> cases farB (J.y i) <;> rfl

theorem gjoints_Check_all {M28 M29 : List AV → Option AV} {B : Nat} (h28 : Sp28 M28 B) (h29 : Sp29 M29) (J : JS) (hJ : J.n < 4611686018427387904) (f : Nat)
    (kx0 : Int → Int → List (AV × AV) → List (AV × AV) → ByteArray → Int → Int → Int → Option AV) (kx1 : List (AV × AV) → List (AV × AV) → Option AV) (r : Nat) (g : Nat → Nat → AV) (hg : J.Ok g) (hB : ∀ i, i < J.n → (J.nm i).size ≤ B) :
    ∀ (q k i : Nat), i + q = J.n → ∃ a b s x y z, gjoints_Check_l0 M28 M29 f kx0 kx1 J.n r g J.n (k + q + 1) i (J.nl i) (J.pl i) = match first J.bad q i with
      | some j => kx0 280 j a b s x y z
      | none => kx1 a b
  | 0, k, i, h => by
    obtain rfl : i = J.n := by omega
    refine ⟨J.nl J.n, J.pl J.n, ⟨#[]⟩, 0, 0, 0, ?_⟩
    show gjoints_Check_l0_step M28 M29 f _ kx0 kx1 J.n r g J.n J.n _ _ = kx1 (J.nl J.n) (J.pl J.n)
    unfold gjoints_Check_l0_step
    try unfold ck
    rw [decide_eq_false (by omega), cond_false]
  | q + 1, k, i, h => by
    rw [show k + (q + 1) + 1 = (k + q + 1) + 1 by omega, gjoints_Check_step h28 h29 J hJ f _ kx0 kx1 r g hg i (by omega) (hB i (by omega))]
    simp only [first]
    cases J.bad i
    · exact gjoints_Check_all h28 h29 J hJ f kx0 kx1 r g hg hB q k (i + 1) (by omega)
    · exact ⟨J.nl i, J.pl i, J.nm i, J.x i, J.y i, J.fx i, rfl⟩

theorem check14 {M28 M29 : List AV → Option AV} {B : Nat} (h28 : Sp28 M28 B) (h29 : Sp29 M29) (J : JS) (f : Nat) (hf : J.n < f) (hJ : J.n < 4611686018427387904) (r : Nat) (g : Nat → Nat → AV) (hg : J.Ok g) (hB : ∀ i, i < J.n → (J.nm i).size ≤ B) :
    gjoints_Check M28 M29 f J.n r g = some (.tup [.int .i64 J.check.1, .int .i64 J.check.2]) := by
  unfold gjoints_Check JS.check
  try unfold ck
  by_cases h : J.n > 16
  · rw [decide_eq_true (show (J.n : Int) > 16 by omega), decide_eq_true h]; rfl
  · rw [decide_eq_false (show ¬ (J.n : Int) > 16 by omega), decide_eq_false h, cond_false, cond_false]
    obtain ⟨a, b, s, x, y, z, e⟩ := gjoints_Check_all h28 h29 J hJ f (fun xu2 xu3 _ _ _ _ _ _ => some (.tup [.int .i64 xu2, .int .i64 xu3])) (fun _ _ => some (.tup [.int .i64 0, .int .i64 0])) r g hg hB J.n (f - J.n - 1) 0 (by omega)
    rw [show f - J.n - 1 + J.n + 1 = f by omega] at e
    refine e.trans ?_
    cases first J.bad J.n 0 <;> rfl
end Go.Proofs.Tryz
end
section
namespace Go.Proofs.Tryz
open Go Go.Am
set_option maxRecDepth 100000

def mayJ (s : ByteArray) (x y fx : Int) : Bool := nameB s && !farB x && !farB y && decide (fx ≤ 7)

def anyFrom (p : Nat → Bool) : Nat → Nat → Bool
  | 0, _ => false
  | r + 1, k => p k || anyFrom p r (k + 1)
theorem anyFrom_lt (p : Nat → Bool) : ∀ (r k : Nat), anyLt p (k + r) = (anyLt p k || anyFrom p r k)
  | 0, k => by simp [anyFrom]
  | r + 1, k => by
    rw [show k + (r + 1) = (k + 1) + r by omega, anyFrom_lt p r (k + 1)]
    simp only [anyLt, anyFrom, Bool.or_assoc]
theorem anyLt_or (p q : Nat → Bool) : ∀ i, anyLt (fun k => p k || q k) i = (anyLt p i || anyLt q i)
  | 0 => rfl
  | i + 1 => by
    simp only [anyLt, anyLt_or p q i]
    cases anyLt p i <;> cases anyLt q i <;> cases p i <;> cases q i <;> rfl
theorem anyLt_congr {p q : Nat → Bool} (h : ∀ k, p k = q k) : ∀ i, anyLt p i = anyLt q i
  | 0 => rfl
  | i + 1 => by simp only [anyLt, h, anyLt_congr h i]

section
variable (J : JS)
def JS.dup (i k : Nat) : Bool := strEq (J.nm k) (J.nm i) || (J.x k == J.x i && J.y k == J.y i)

theorem bad_eq (i : Nat) : J.bad i = (!mayJ (J.nm i) (J.x i) (J.y i) (J.fx i) || anyFrom (J.dup i) i 0) := by
  have e := anyFrom_lt (J.dup i) i 0
  rw [Nat.zero_add] at e
  simp only [anyLt, Bool.false_or] at e
  rw [← e]
  unfold JS.dup JS.bad mayJ
  rw [anyLt_or, gt_le]
  rw [anyLt_congr (p := fun k => strEq (J.nm k) (J.nm i)) (q := fun k => strEq (J.nm i) (J.nm k)) (fun k => strEq_comm _ _)]
  rw [anyLt_congr (p := fun k => J.x k == J.x i && J.y k == J.y i) (q := fun k => J.x i == J.x k && J.y i == J.y k) (fun k => by
    rw [show (J.x k == J.x i) = (J.x i == J.x k) from Bool.beq_comm, show (J.y k == J.y i) = (J.y i == J.y k) from Bool.beq_comm])]
  cases anyLt (fun k => strEq (J.nm i) (J.nm k)) i <;> cases anyLt (fun k => J.x i == J.x k && J.y i == J.y k) i <;> cases nameB (J.nm i) <;> cases farB (J.x i) <;> cases farB (J.y i) <;> cases decide (J.fx i ≤ 7) <;> rfl

end
end Go.Proofs.Tryz
end
section
namespace Go.Proofs.Tryz
open Go Go.Am
set_option maxRecDepth 100000

/-- Members, as the program reads them. -/
structure MS where
  n : Nat
  nm : Nat → ByteArray
  kd : Nat → Int
  a : Nat → Int
  b : Nat → Int
  ha : Nat → Bool
  hb : Nat → Bool
  e : Nat → Nat
  ar : Nat → Nat
  iv : Nat → Nat
def MS.Ok (M : MS) (g : Nat → Nat → AV) : Prop := ∀ i, i < M.n → g i 0 = .str (M.nm i) ∧ g i 1 = .int .u8 (M.kd i) ∧ g i 2 = .int .i64 (M.a i) ∧ g i 3 = .int .i64 (M.b i) ∧ g i 4 = .bool (M.ha i) ∧ g i 5 = .bool (M.hb i) ∧
  g i 6 = .flt .f64 (some (M.e i)) ∧ g i 7 = .flt .f64 (some (M.ar i)) ∧ g i 8 = .flt .f64 (some (M.iv i))

def numB (x : Option Nat) : Bool :=
  bif ford FloatKind.f64 x (some 4336966441157787648) == some Ordering.gt || ford FloatKind.f64 x (some 4336966441157787648) == some Ordering.eq then ford FloatKind.f64 x (some 4877398396442247168) == some Ordering.lt || ford FloatKind.f64 x (some 4877398396442247168) == some Ordering.eq else false
theorem num31 (f : Nat) (x : Option Nat) : gbars_number f x = some (.bool (numB x)) := rfl
theorem sign36 (f : Nat) (b : Nat) : gmath_Signbit f (some b) = some (.bool (decide (IntKind.i64.wrap ((b : Nat) : Int) < 0))) := rfl

theorem toS_str (s : ByteArray) : toS (.str s) = s := rfl
theorem toI_int (k : IntKind) (n : Int) : toI (.int k n) = n := rfl
theorem toB_bool (b : Bool) : toB (.bool b) = b := rfl
theorem toF_flt (k : FloatKind) (x : Option Nat) : toF (.flt k x) = x := rfl

section
variable (M : MS)
def MS.core (nj i : Nat) : Bool :=
  bif nameB (M.nm i) then bif decide (M.a i < 0) then false else bif decide (M.a i ≥ nj) then false else bif decide (M.b i < 0) then false else bif decide (M.b i ≥ nj) then false else
    bif M.a i == M.b i then false else bif numB (some (M.e i)) then numB (some (M.ar i)) else false
  else false
def MS.may (nj i : Nat) : Bool := bif anyFrom (fun k => strEq (M.nm k) (M.nm i)) i 0 then false else bif M.core nj i then
    (bif M.kd i == 1 then (bif M.ha i then false else bif M.hb i then false else ((M.iv i : Nat) : Int) == 0) else bif M.kd i == 2 then numB (some (M.iv i)) else false)
  else false

structure SpN (N : List AV → Option AV) : Prop where
  sp : ∀ x, N [.flt .f64 x] = some (.bool (numB x))

theorem fitM (s : ByteArray) (k a b : Int) (p q : Bool) (x y z : Option Nat) :
    fitKs [LK.s, LK.i IntKind.u8, LK.i IntKind.i64, LK.i IntKind.i64, LK.b, LK.b, LK.f FloatKind.f64, LK.f FloatKind.f64, LK.f FloatKind.f64] [.str s, .int .u8 k, .int .i64 a, .int .i64 b, .bool p, .bool q, .flt .f64 x, .flt .f64 y, .flt .f64 z] = true := rfl

theorem gbars_may_all {M30 M31 : List AV → Option AV} (hM : M.n < 4611686018427387904) (f : Nat) (kx1 : Nat → Nat → (Nat → Nat → AV) → Nat → Nat → (Nat → Nat → AV) → ByteArray → Int → Int → Int → Bool → Bool → Option Nat → Option Nat → Option Nat → Option AV)
    (r : Nat) (g : Nat → Nat → AV) (hg : M.Ok g) (a1 a2 : Nat) (a3 : Nat → Nat → AV) (a4 a5 : Nat) (a6 : Nat → Nat → AV) (c1 c2 c3 : Int) (d1 d2 : Bool) (o1 o2 o3 : Option Nat) (i : Nat) (hi : i < M.n) :
    ∀ (m q k : Nat), k + m = i → gbars_may_l0 M30 M31 f (fun b _ _ _ _ _ _ _ _ _ _ _ _ _ _ _ _ _ _ _ _ _ _ _ _ => some (.bool b)) kx1 i r g i a1 a2 a3 a4 a5 a6 (M.nm i) c1 c2 c3 d1 d2 o1 o2 o3 (q + m + 1) k =
      bif anyFrom (fun k => strEq (M.nm k) (M.nm i)) m k then some (.bool false) else kx1 a1 a2 a3 a4 a5 a6 (M.nm i) c1 c2 c3 d1 d2 o1 o2 o3
  | 0, q, k, h => by
    obtain rfl : k = i := by omega
    show gbars_may_l0_step M30 M31 f _ _ kx1 k r g k a1 a2 a3 a4 a5 a6 (M.nm k) c1 c2 c3 d1 d2 o1 o2 o3 k = _
    unfold gbars_may_l0_step
    try unfold ck
    rw [decide_eq_false (by omega), cond_false]
    rfl
  | m + 1, q, k, h => by
    have ih := gbars_may_all (M30 := M30) (M31 := M31) hM f kx1 r g hg a1 a2 a3 a4 a5 a6 c1 c2 c3 d1 d2 o1 o2 o3 i hi m q (k + 1) (by omega)
    obtain ⟨k0, k1, k2, k3, k4, k5, k6, k7, k8⟩ := hg k (by omega)
    show gbars_may_l0_step M30 M31 f (gbars_may_l0 M30 M31 f _ kx1 i r g i a1 a2 a3 a4 a5 a6 (M.nm i) c1 c2 c3 d1 d2 o1 o2 o3 (q + m + 1)) _ kx1 i r g i a1 a2 a3 a4 a5 a6 (M.nm i) c1 c2 c3 d1 d2 o1 o2 o3 k = _
    unfold gbars_may_l0_step
    try unfold ck
    rw [decide_eq_true (show (k : Int) < i by omega), decide_eq_true (show (0 : Int) ≤ k by omega), wrap_succ (by omega), Int.toNat_natCast, k0, k1, k2, k3, k4, k5, k6, k7, k8, fitM, ih]
    simp only [anyFrom, toS]
    cases strEq (M.nm k) (M.nm i) <;> rfl

theorem may15 {M30 M31 : List AV → Option AV} {B : Nat} (h30 : Sp28 M30 B) (h31 : SpN M31) (hM : M.n < 4611686018427387904) (f : Nat) (hf : M.n < f) (jn jr : Nat) (jg : Nat → Nat → AV) (r : Nat) (hr : M.n ≤ r) (g : Nat → Nat → AV) (hg : M.Ok g)
    (i : Nat) (hi : i < M.n) (hB : (M.nm i).size ≤ B) : gbars_may M30 M31 f jn jr jg M.n r g i = some (.bool (M.may jn i)) := by
  obtain ⟨g0, g1, g2, g3, g4, g5, g6, g7, g8⟩ := hg i hi
  unfold gbars_may
  try unfold ck
  rw [decide_eq_true (show (i : Int) < M.n by omega), decide_eq_true (show (0 : Int) ≤ i by omega), decide_eq_true (show (i : Int) ≤ r by omega), Int.toNat_natCast, g0, g1, g2, g3, g4, g5, g6, g7, g8, fitM, Nat.sub_zero, Nat.sub_zero]
  have eg : (fun (i : Nat) => g (0 + i)) = g := by funext i; rw [Nat.zero_add]
  rw [eg]
  simp only [toS_str, toI_int, toB_bool, toF_flt, cond_true]
  refine (show gbars_may_l0 M30 M31 f _ _ i r g i _ _ _ _ _ _ (M.nm i) _ _ _ _ _ _ _ _ f ((0 : Nat) : Int) = _ from ?_)
  have ha := fun kx1 => gbars_may_all M (M30 := M30) (M31 := M31) hM f kx1 r g hg jn jr jg M.n r g (M.kd i) (M.a i) (M.b i) (M.ha i) (M.hb i) (some (M.e i)) (some (M.ar i)) (some (M.iv i)) i hi i (f - i - 1) 0 (by omega)
  rw [show f - i - 1 + i + 1 = f by omega] at ha
  refine (ha _).trans ?_
  unfold MS.may
  cases anyFrom (fun k => strEq (M.nm k) (M.nm i)) i 0
  case true => rfl
  simp only [cond_false]
  have e30 := h30.sp (M.nm i) hB
  have es : sBits.ok [AV.flt FloatKind.f64 (some (M.iv i))] = true := rfl
  rw [e30, h31.sp, h31.sp, h31.sp, okM_b, okM_b, okM_b, okM_b, getV_b, getV_b, getV_b, getV_b, es]
  unfold MS.core
  cases nameB (M.nm i)
  · rfl
  cases decide (M.a i < 0)
  case true => rfl
  cases decide (M.a i ≥ jn)
  case true => rfl
  cases decide (M.b i < 0)
  case true => rfl
  cases decide (M.b i ≥ jn)
  case true => rfl
  cases M.a i == M.b i
  case true => rfl
  cases numB (some (M.e i))
  · rfl
  cases numB (some (M.ar i))
  · rfl
  cases M.kd i == 1
  · cases M.kd i == 2 <;> rfl
  · cases M.ha i
    · cases M.hb i <;> rfl
    · rfl
end
end Go.Proofs.Tryz
end
section
namespace Go.Proofs.Tryz
open Go Go.Am
set_option maxRecDepth 100000

def planCheck (J : JS) (M : MS) : Int × Int := bif J.check.1 != 0 then J.check else bif decide (M.n > 48) then (3, 0) else match first (fun i => !M.may J.n i) M.n 0 with
  | some i => (290, (i : Int))
  | none => (0, 0)
def pair (p : Int × Int) : AV := .tup [.int .i64 p.1, .int .i64 p.2]

theorem okM_p (p : Int × Int) : okM [RS.one (LK.i IntKind.i64), RS.one (LK.i IntKind.i64)] (some (pair p)) = true := rfl
theorem getP1 (p : Int × Int) : toI ((toT (getV (some (pair p)))).headD .dead) = p.1 := rfl
theorem getP2 (p : Int × Int) : toI ((toT (getV (some (pair p)))).tail.headD .dead) = p.2 := rfl

theorem gbars_Check_all {M14 M15 : List AV → Option AV} (J : JS) (M : MS) (jr r : Nat) (jg g : Nat → Nat → AV) (h15 : ∀ i : Nat, i < M.n → M15 [.agg [.ro 4 J.n jr jg, .ro 9 M.n r g], .int .i64 i] = some (.bool (M.may J.n i))) (hM : M.n < 4611686018427387904) (f : Nat)
    (kx0 : Int → Int → Nat → Nat → (Nat → Nat → AV) → Nat → Nat → (Nat → Nat → AV) → Option AV) (kx1 : Nat → Nat → (Nat → Nat → AV) → Nat → Nat → (Nat → Nat → AV) → Option AV) :
    ∀ (m q i : Nat), i + m = M.n → gbars_Check_l0 M14 M15 f kx0 kx1 M.n J.n jr jg M.n r g (q + m + 1) i = match first (fun i => !M.may J.n i) m i with
      | some j => kx0 290 j J.n jr jg M.n r g
      | none => kx1 J.n jr jg M.n r g
  | 0, q, i, h => by
    obtain rfl : i = M.n := by omega
    show gbars_Check_l0_step M14 M15 f _ kx0 kx1 M.n J.n jr jg M.n r g M.n = _
    unfold gbars_Check_l0_step
    try unfold ck
    rw [decide_eq_false (by omega), cond_false]
    rfl
  | m + 1, q, i, h => by
    have hi : i < M.n := by omega
    have ih := gbars_Check_all (M14 := M14) J M jr r jg g h15 hM f kx0 kx1 m q (i + 1) (by omega)
    show gbars_Check_l0_step M14 M15 f (gbars_Check_l0 M14 M15 f kx0 kx1 M.n J.n jr jg M.n r g (q + m + 1)) kx0 kx1 M.n J.n jr jg M.n r g i = _
    unfold gbars_Check_l0_step
    try unfold ck
    rw [decide_eq_true (show (i : Int) < M.n by omega), h15 i hi, okM_b, getV_b, wrap_succ (by omega), ih]
    simp only [first]
    cases M.may J.n i <;> rfl

theorem check5 {M14 M15 : List AV → Option AV} (J : JS) (M : MS) (jr r : Nat) (jg g : Nat → Nat → AV) (h14 : M14 [.ro 4 J.n jr jg] = some (pair J.check))
    (h15 : ∀ i : Nat, i < M.n → M15 [.agg [.ro 4 J.n jr jg, .ro 9 M.n r g], .int .i64 i] = some (.bool (M.may J.n i))) (hM : M.n < 4611686018427387904) (f : Nat) (hf : M.n < f) :
    gbars_Check M14 M15 f J.n jr jg M.n r g = some (pair (planCheck J M)) := by
  unfold gbars_Check planCheck
  try unfold ck
  rw [h14]
  dsimp only
  rw [okM_p, getP1, getP2, cond_true]
  cases J.check.1 != 0
  case true => rfl
  rw [cond_false, cond_false]
  by_cases h : M.n > 48
  · rw [decide_eq_true (show (M.n : Int) > 48 by omega), decide_eq_true h]; rfl
  · rw [decide_eq_false (show ¬ (M.n : Int) > 48 by omega), decide_eq_false h, cond_false, cond_false]
    have e := gbars_Check_all (M14 := M14) J M jr r jg g h15 hM f (fun xu2 xu3 _ _ _ _ _ _ => some (.tup [.int .i64 xu2, .int .i64 xu3])) (fun _ _ _ _ _ _ => some (.tup [.int .i64 0, .int .i64 0])) M.n (f - M.n - 1) 0 (by omega)
    rw [show f - M.n - 1 + M.n + 1 = f by omega] at e
    refine e.trans ?_
    cases first (fun i => !M.may J.n i) M.n 0 <;> rfl

end Go.Proofs.Tryz
end
section
namespace Go.Proofs.Tryz
open Go Go.Am
set_option maxRecDepth 100000

def MS.In (M : MS) (jn : Nat) : Prop := ∀ k, k < M.n → ∃ a b : Nat, M.a k = (a : Int) ∧ M.b k = (b : Int) ∧ a < jn ∧ b < jn
theorem first_none {p : Nat → Bool} : ∀ {r i : Nat}, first p r i = none → ∀ k, i ≤ k → k < i + r → p k = false
  | 0, i, _, k, h1, h2 => by omega
  | r + 1, i, h, k, h1, h2 => by
    simp only [first] at h
    cases hp : p i <;> rw [hp] at h
    · by_cases e : k = i
      · subst e; exact hp
      · exact first_none h k (by omega) (by omega)
    · cases h

theorem planCheck_ok {J : JS} {M : MS} (h : ((planCheck J M).1 != 0) = false) : (∀ i, i < J.n → J.fx i ≤ 7) ∧ M.In J.n ∧ J.n ≤ 16 ∧ M.n ≤ 48 := by
  unfold planCheck at h
  cases hc : J.check.1 != 0
  case true => rw [hc] at h; simp only [cond_true] at h; rw [hc] at h; cases h
  rw [hc] at h
  simp only [cond_false] at h
  by_cases h48 : M.n > 48
  · rw [decide_eq_true h48] at h; cases h
  rw [decide_eq_false h48] at h
  simp only [cond_false] at h
  have hm : first (fun i => !M.may J.n i) M.n 0 = none := by
    cases hf : first (fun i => !M.may J.n i) M.n 0 with
    | none => rfl
    | some i => rw [hf] at h; cases h
  unfold JS.check at hc
  by_cases h16 : J.n > 16
  · rw [decide_eq_true h16] at hc; cases hc
  rw [decide_eq_false h16] at hc
  simp only [cond_false] at hc
  have hj : first J.bad J.n 0 = none := by
    cases hf : first J.bad J.n 0 with
    | none => rfl
    | some i => rw [hf] at hc; cases hc
  refine ⟨fun i hi => ?_, fun k hk => ?_, by omega, by omega⟩
  · have := first_none hj i (by omega) (by omega)
    unfold JS.bad at this
    simp only [Bool.or_eq_false_iff, decide_eq_false_iff_not] at this
    omega
  · have := first_none hm k (by omega) (by omega)
    simp only [Bool.not_eq_false'] at this
    unfold MS.may at this
    cases ha : anyFrom (fun k_1 => strEq (M.nm k_1) (M.nm k)) k 0 <;> rw [ha] at this
    case true => cases this
    cases hcore : M.core J.n k <;> rw [hcore] at this
    · cases this
    unfold MS.core at hcore
    cases hn : nameB (M.nm k) <;> rw [hn] at hcore
    · cases hcore
    simp only [cond_true] at hcore
    by_cases a0 : M.a k < 0
    · rw [decide_eq_true a0] at hcore; cases hcore
    rw [decide_eq_false a0] at hcore
    simp only [cond_false] at hcore
    by_cases a1 : M.a k ≥ (J.n : Int)
    · rw [decide_eq_true a1] at hcore; cases hcore
    rw [decide_eq_false a1] at hcore
    simp only [cond_false] at hcore
    by_cases b0 : M.b k < 0
    · rw [decide_eq_true b0] at hcore; cases hcore
    rw [decide_eq_false b0] at hcore
    simp only [cond_false] at hcore
    by_cases b1 : M.b k ≥ (J.n : Int)
    · rw [decide_eq_true b1] at hcore; cases hcore
    exact ⟨(M.a k).toNat, (M.b k).toNat, by omega, by omega, by omega, by omega⟩

end Go.Proofs.Tryz
end
section
namespace Go.Proofs.Tryz
open Go Go.Am Ieee.Pos
set_option maxRecDepth 100000

theorem num_in {w : Nat} (hw : w < 18446744073709551616) (h : numB (some w) = true) : In 963 1083 w := by
  unfold numB at h
  rw [ford_d, ford_d] at h
  have h' : (Ieee.double.order w 4336966441157787648 = some .gt ∨ Ieee.double.order w 4336966441157787648 = some .eq) ∧ (Ieee.double.order w 4877398396442247168 = some .lt ∨ Ieee.double.order w 4877398396442247168 = some .eq) := by
    generalize Ieee.double.order w 4336966441157787648 = a at h
    generalize Ieee.double.order w 4877398396442247168 = b at h
    rcases a with _ | a
    · cases h
    · rcases b with _ | b
      · cases a <;> cases h
      · cases a <;> cases b <;> simp_all
  obtain ⟨a, b, c⟩ := within hw h'.1 h'.2
  exact ⟨a, b, c⟩

theorem near4 (f : Nat) (r : Nat) (a b c d : Int) (g : Ge) (h0 : g 0 0 = .int .i32 a) (h1 : g 1 0 = .int .i32 b) (h2 : g 2 0 = .int .i32 c) (h3 : g 3 0 = .int .i32 d)
    (na : farB a = false) (nb : farB b = false) (nc : farB c = false) (nd : farB d = false) : gjoints_near (f + 5) 4 r g = some (.bool true) := by
  unfold gjoints_near
  have e0 := near_step (f + 5) (f + 4) (fun b => some (AV.bool b)) (some (.bool true)) 4 r g 0 a (by omega) (by omega) h0
  have e1 := near_step (f + 5) (f + 3) (fun b => some (AV.bool b)) (some (.bool true)) 4 r g 1 b (by omega) (by omega) h1
  have e2 := near_step (f + 5) (f + 2) (fun b => some (AV.bool b)) (some (.bool true)) 4 r g 2 c (by omega) (by omega) h2
  have e3 := near_step (f + 5) (f + 1) (fun b => some (AV.bool b)) (some (.bool true)) 4 r g 3 d (by omega) (by omega) h3
  have e4 := near_end (f + 5) f (fun b => some (AV.bool b)) (some (.bool true)) 4 r g
  rw [na, cond_false] at e0
  rw [nb, cond_false] at e1
  rw [nc, cond_false] at e2
  rw [nd, cond_false] at e3
  exact e0.trans (e1.trans (e2.trans (e3.trans e4)))

theorem far_b {a : Int} (h : farB a = false) : -1048576 ≤ a ∧ a ≤ 1048576 := by
  unfold farB at h
  simp only [Bool.or_eq_false_iff, decide_eq_false_iff_not] at h
  omega
theorem wrap32 {n : Int} (h1 : -2147483648 ≤ n) (h2 : n < 2147483648) : IntKind.i32.wrap n = n := by
  simp only [IntKind.wrap, IntKind.bits, IntKind.signed]
  simp
  omega
theorem sq_nn (d : Int) : 0 ≤ d * d := by
  rcases Int.le_total 0 d with h | h
  · exact Int.mul_nonneg h h
  · have := Int.mul_nonneg (show 0 ≤ -d by omega) (show 0 ≤ -d by omega)
    rwa [Int.neg_mul_neg] at this
theorem sq_b {d : Int} (h : -2097152 ≤ d ∧ d ≤ 2097152) : 0 ≤ d * d ∧ d * d ≤ 4398046511104 := by
  constructor
  · exact sq_nn d
  · have h1 : (2097152 - d) * (2097152 + d) ≥ 0 := Int.mul_nonneg (by omega) (by omega)
    have h2 : (2097152 - d) * (2097152 + d) = 4398046511104 - d * d := by
      rw [Int.sub_mul, Int.mul_add, Int.mul_add, Int.mul_comm d 2097152]; omega
    omega
theorem okIII (a b c : Int) : okM [RS.one (LK.i .i64), RS.one (LK.i .i64), RS.one (LK.i .i64)] (some (.tup [.int .i64 a, .int .i64 b, .int .i64 c])) = true := rfl

abbrev JA (s : ByteArray) (x y f : Int) : AV := .agg [.str s, .int .i32 x, .int .i32 y, .int .u8 f]
section
variable {xa ya xb yb : Int} (na : farB xa = false) (nb : farB ya = false) (nc : farB xb = false) (nd : farB yb = false)
include na nb nc nd
theorem k_near4 : kjoints_near [.ro 1 4 4 fun i j => ([[AV.int .i32 xa], [AV.int .i32 ya], [AV.int .i32 xb], [AV.int .i32 yb]].getD i []).getD j .dead] = some (.bool true) := by
  show gjoints_near NN 4 4 (fun i j => ([[AV.int .i32 xa], [AV.int .i32 ya], [AV.int .i32 xb], [AV.int .i32 yb]].getD i []).getD j .dead) = _
  have e : NN = 1125899906842619 + 5 := by unfold NN; omega
  rw [e]
  exact near4 _ 4 xa ya xb yb _ rfl rfl rfl rfl na nb nc nd
theorem k_apart (s t : ByteArray) (f g : Int) : kjoints_Apart [JA s xa ya f, JA t xb yb g] = some (.tup [.int .i64 (xb - xa), .int .i64 (yb - ya), .int .i64 ((xb - xa) * (xb - xa) + (yb - ya) * (yb - ya))]) := by
  have h1 := far_b na
  have h2 := far_b nb
  have h3 := far_b nc
  have h4 := far_b nd
  have q1 := sq_b (d := xb - xa) (by omega)
  have q2 := sq_b (d := yb - ya) (by omega)
  show gjoints_Apart kjoints_near NN s xa ya f t xb yb g = _
  unfold gjoints_Apart
  rw [k_near4 na nb nc nd, okQ, ck_true, gV, tB, Bool.not_true, cond_false, wrap32 (n := xb - xa) (by omega) (by omega), wrap32 (n := yb - ya) (by omega) (by omega), wrapi (n := xb - xa) (by omega) (by omega), wrapi (n := yb - ya) (by omega) (by omega)]
  generalize (xb - xa) * (xb - xa) = p at *
  generalize (yb - ya) * (yb - ya) = q at *
  rw [wrapi (n := p) (by omega) (by omega), wrapi (n := q) (by omega) (by omega), wrapi (n := p + q) (by omega) (by omega)]
end

/-- The float of a length's square. -/
def xw (n : Int) : Nat := FloatKind.f64.nearest n
theorem xw_in {n : Int} (h1 : 1 ≤ n) (h2 : n ≤ 8796093022208) : In 1023 1066 (xw n) := by
  obtain ⟨m, rfl⟩ : ∃ m : Nat, n = m := ⟨n.toNat, by omega⟩
  have hl : m.log2 ≤ 43 := by
    have : m.log2 < 44 := (Nat.log2_lt (by omega)).2 (by omega)
    omega
  obtain ⟨a, b⟩ := int_ex (n := m) (by omega) (by omega)
  have e : xw (m : Int) = Ieee.double.nearest false m 0 := by
    show Ieee.double.nearest (decide (((m : Nat) : Int) < 0)) ((m : Nat) : Int).natAbs 0 = _
    rw [decide_eq_false (by omega), Int.natAbs_natCast]
  rw [e]
  exact ⟨a, by omega, by omega⟩

/-- A length, as a span, and as a float. -/
def lS (x : Nat) : Nat × Nat := (rootV 1 x, rootV 2 x)
def lN (x : Nat) : Nat := rootV 0 x
theorem lS_in {x : Nat} (hx : In 1023 1066 x) : SIn 1022 1046 (lS x) := ⟨(root_all hx w1).2.2, (root_all hx w2).2.2, adj_le _ _⟩
theorem k_length {xa ya xb yb : Int} (na : farB xa = false) (nb : farB ya = false) (nc : farB xb = false) (nd : farB yb = false) (s t : ByteArray) (f g : Int) {n : Int} (hn : n = (xb - xa) * (xb - xa) + (yb - ya) * (yb - ya)) (hx : In 1023 1066 (xw n)) :
    kjoints_Length [JA s xa ya f, JA t xb yb g] = some (.tup [SA (lS (xw n)), F (lN (xw n))]) := by
  show gjoints_Length kjoints_Apart kround_Sqrt NN s xa ya f t xb yb g = _
  unfold gjoints_Length
  rw [k_apart na nb nc nd, ← hn]
  dsimp only
  rw [okIII, ck_true, gV, tT, tl, tl, hD, tI, show FloatKind.f64.nearest n = xw n from rfl, (root_all hx w1).1, (root_all hx w2).1, (root_all hx w0).1]
  rfl
theorem k_one (x : Nat) : kbars_one [F x] = some (SA (x, x)) := rfl
theorem times_sp {s t r : Nat × Nat} (h : kspan_Mul [SA s, SA t] = some (.tup [SA r, .int .i64 0])) (f : Nat) : gbars_times kspan_Mul (f + 3) 2 2 (fun i j => ([[F s.1, F s.2], [F t.1, F t.2]].getD i []).getD j .dead) = some (SA r) := by
  unfold gbars_times
  rw [decide_eq_true (show (0 : Int) < ((2 : Nat) : Int) by omega), ck_true, decide_eq_true (show (1 : Int) ≤ ((2 : Nat) : Int) by omega), ck_true]
  show gbars_times_l0 kspan_Mul _ _ 1 1 _ 1 _ _ (f + 3) 0 (some s.1) (some s.2) = _
  show gbars_times_l0_step kspan_Mul _ (gbars_times_l0 kspan_Mul _ _ 1 1 _ 1 _ _ (f + 2)) _ 1 1 _ 1 _ _ 0 (some s.1) (some s.2) = _
  unfold gbars_times_l0_step
  show ck (okM [RS.agg [LK.f .f64, LK.f .f64], RS.one (LK.i .i64)] (kspan_Mul [SA s, SA t])) (gbars_times_l0 kspan_Mul _ _ 1 1 _ 1 _ _ (f + 2) 1 (toF ((toC ((toT (getV (kspan_Mul [SA s, SA t]))).headD .dead)).headD .dead)) (toF ((toC ((toT (getV (kspan_Mul [SA s, SA t]))).headD .dead)).tail.headD .dead))) = _
  rw [h]
  rfl
theorem k_times {s t r : Nat × Nat} (h : kspan_Mul [SA s, SA t] = some (.tup [SA r, .int .i64 0])) : kbars_times [.ro 2 2 2 fun i j => ([[F s.1, F s.2], [F t.1, F t.2]].getD i []).getD j .dead] = some (SA r) := by
  show gbars_times kspan_Mul NN 2 2 (fun i j => ([[F s.1, F s.2], [F t.1, F t.2]].getD i []).getD j .dead) = _
  have e : NN = 1125899906842621 + 3 := by unfold NN; omega
  rw [e]
  exact times_sp h _
theorem k_spring {o u d : Nat × Nat} (h : kspan_Div [SA o, SA u] = some (.tup [SA d, .int .i64 0])) (k a b c e f g : Int) (p q : Option Nat) :
    kbars_spring [.int .u8 k, .agg [.int .i64 a, .int .i64 b, .int .i64 c, .int .i64 e, .int .i64 f, .int .i64 g], SA o, SA u, .flt .f64 p, .flt .f64 q] =
      some (.agg [.int .i64 0, .int .u8 k, .int .i64 a, .int .i64 b, .int .i64 c, .int .i64 e, .int .i64 f, .int .i64 g, F d.1, F d.2, .flt .f64 (farith .quo .f64 p q)]) := by
  show gbars_spring kspan_Div NN k a b c e f g (some o.1) (some o.2) (some u.1) (some u.2) p q = _
  unfold gbars_spring
  rw [h]
  rfl
end Go.Proofs.Tryz
end
section
namespace Go.Proofs.Tryz
open Go Go.Am Ieee.Pos
set_option maxRecDepth 100000

abbrev c3 : Nat := 4613937818241073152
theorem c3_in : In 1024 1024 c3 := by
  show In 1024 1024 4613937818241073152
  unfold In Norm ex; omega
abbrev MulF (s t : Nat × Nat) (lo hi : Nat) : Prop := kspan_Mul [SA s, SA t] = some (.tup [SA (mulS s t), .int .i64 0]) ∧ True ∧ SIn lo hi (mulS s t)
abbrev DivF (s t : Nat × Nat) (lo hi : Nat) : Prop := kspan_Div [SA s, SA t] = some (.tup [SA (divS s t), .int .i64 0]) ∧ True ∧ SIn lo hi (divS s t)

/-- How stiff a spring of a kind is: as a span; as a float. -/
def stS (E A I x : Nat) (k : Int) : Nat × Nat :=
  bif k == 1 then divS (mulS (E, E) (A, A)) (mulS (x, x) (lS x)) else bif k == 3 then divS (mulS (E, E) (I, I)) (lS x)
  else divS (mulS (c3, c3) (mulS (E, E) (I, I))) (mulS (mulS (x, x) (x, x)) (lS x))
abbrev fm (a b : Option Nat) : Option Nat := farith .mul .f64 a b
abbrev fq (a b : Option Nat) : Option Nat := farith .quo .f64 a b
def stN (E A I x : Nat) (k : Int) : Option Nat :=
  bif k == 1 then fq (fm (some E) (some A)) (fm (some x) (some (lN x))) else bif k == 3 then fq (fm (some E) (some I)) (some (lN x))
  else fq (fm (some c3) (fm (some E) (some I))) (fm (fm (some x) (some x)) (some (lN x)))

theorem SIn.one {l h x : Nat} (hx : In l h x) : SIn l h (x, x) := ⟨hx, hx, Nat.le_refl _⟩
section
variable {E A x : Nat} (hE : In 963 1083 E) (hA : In 963 1083 A) (hx : In 1023 1066 x)
include hE hA in
theorem fEA : MulF (E, E) (A, A) 902 1146 := mulS_all (SIn.one hE) (SIn.one hA) (by omega) (by omega) (by omega) (by omega) (by omega) (by omega) (by omega) (by omega)
include hx in
theorem fXL : MulF (x, x) (lS x) 1021 1092 := mulS_all (SIn.one hx) (lS_in hx) (by omega) (by omega) (by omega) (by omega) (by omega) (by omega) (by omega) (by omega)
include hE hA hx in
theorem fAx : DivF (mulS (E, E) (A, A)) (mulS (x, x) (lS x)) 831 1150 := divS_all (fEA hE hA).2.2 (fXL hx).2.2 (by omega) (by omega) (by omega) (by omega) (by omega) (by omega) (by omega) (by omega)
include hE hA hx in
theorem fEnd : DivF (mulS (E, E) (A, A)) (lS x) 877 1149 := divS_all (fEA hE hA).2.2 (lS_in hx) (by omega) (by omega) (by omega) (by omega) (by omega) (by omega) (by omega) (by omega)
include hE hA in
theorem fTh : MulF (c3, c3) (mulS (E, E) (A, A)) 902 1150 := mulS_all (SIn.one c3_in) (fEA hE hA).2.2 (by omega) (by omega) (by omega) (by omega) (by omega) (by omega) (by omega) (by omega)
include hx in
theorem fXX : MulF (x, x) (x, x) 1022 1112 := mulS_all (SIn.one hx) (SIn.one hx) (by omega) (by omega) (by omega) (by omega) (by omega) (by omega) (by omega) (by omega)
include hx in
theorem fXXL : MulF (mulS (x, x) (x, x)) (lS x) 1020 1138 := mulS_all (fXX hx).2.2 (lS_in hx) (by omega) (by omega) (by omega) (by omega) (by omega) (by omega) (by omega) (by omega)
include hE hA hx in
theorem fBow : DivF (mulS (c3, c3) (mulS (E, E) (A, A))) (mulS (mulS (x, x) (x, x)) (lS x)) 785 1155 := divS_all (fTh hE hA).2.2 (fXXL hx).2.2 (by omega) (by omega) (by omega) (by omega) (by omega) (by omega) (by omega) (by omega)
end

abbrev MA (s : ByteArray) (kd a b : Int) (ha hb : Bool) (E A I : Nat) : AV := .agg [.str s, .int .u8 kd, .int .i64 a, .int .i64 b, .bool ha, .bool hb, F E, F A, F I]
theorem okSF (o p q : Option Nat) : okM [RS.agg [LK.f .f64, LK.f .f64], RS.one (LK.f .f64)] (some (.tup [.agg [.flt .f64 o, .flt .f64 p], .flt .f64 q])) = true := rfl

section
variable {E A I x : Nat} (hE : In 963 1083 E) {n : Int} (hn : xw n = x) (hx : In 1023 1066 x) (s : ByteArray) (kd a b : Int) (ha hb : Bool)
include hE hn hx
end

/-- The row of a spring. -/
def r6 (dx dy n : Int) (k : Int) (back : Bool) : List AV :=
  bif k == 1 then [.int .i64 (IntKind.i64.wrap (0 - dx)), .int .i64 (IntKind.i64.wrap (0 - dy)), .int .i64 0, .int .i64 dx, .int .i64 dy, .int .i64 0]
  else bif k == 2 then [.int .i64 (IntKind.i64.wrap (-2 * dy)), .int .i64 (IntKind.i64.wrap (2 * dx)), .int .i64 n, .int .i64 (IntKind.i64.wrap (2 * dy)), .int .i64 (IntKind.i64.wrap (-2 * dx)), .int .i64 n]
  else bif k == 3 then [.int .i64 0, .int .i64 0, .int .i64 1, .int .i64 0, .int .i64 0, .int .i64 (-1)]
  else bif back then [.int .i64 (IntKind.i64.wrap (0 - dy)), .int .i64 dx, .int .i64 0, .int .i64 dy, .int .i64 (IntKind.i64.wrap (0 - dx)), .int .i64 n]
  else [.int .i64 (IntKind.i64.wrap (0 - dy)), .int .i64 dx, .int .i64 n, .int .i64 dy, .int .i64 (IntKind.i64.wrap (0 - dx)), .int .i64 0]
/-- A spring of a member. -/
def spr (at' : Int) (dx dy n : Int) (E A I : Nat) (back : Bool) (k : Int) : List AV :=
  [.int .i64 at', .int .u8 k] ++ r6 dx dy n k back ++ [F (stS E A I (xw n) k).1, F (stS E A I (xw n) k).2, .flt .f64 (stN E A I (xw n) k)]
/-- The kinds of its springs. -/
def ksOf (kd : Int) (ha hb : Bool) : List Int := bif kd == 1 || (ha && hb) then [1] else bif ha || hb then [1, 4] else [1, 2, 3]
def kAV (l : List Int) : AV := .ro 1 l.length l.length fun i j => ((l.map fun k => [AV.int .u8 k]).getD i [.int .u8 0]).getD j .dead
theorem okSp (a b c d e f g h : Int) (o p q : Option Nat) : okM [RS.agg [LK.i .i64, LK.i .u8, LK.i .i64, LK.i .i64, LK.i .i64, LK.i .i64, LK.i .i64, LK.i .i64, LK.f .f64, LK.f .f64, LK.f .f64]]
    (some (.agg [.int .i64 a, .int .u8 b, .int .i64 c, .int .i64 d, .int .i64 e, .int .i64 f, .int .i64 g, .int .i64 h, .flt .f64 o, .flt .f64 p, .flt .f64 q])) = true := rfl
theorem k_bow {E I x : Nat} (hE : In 963 1083 E) (hI : In 963 1083 I) (hx : In 1023 1066 x) (k a b c d e f : Int) {n0 n1 n2 n3 : Nat} {g0 g1 g2 g3 : Nat → AV}
    (h0 : n0 = 9) (h1 : n1 = 1) (h2 : n2 = 2) (h3 : n3 = 1) (e6 : g0 6 = F E) (e8 : g0 8 = F I) (ex' : g1 0 = F x) (l0 : g2 0 = F (lS x).1) (l1 : g2 1 = F (lS x).2) (ln : g3 0 = F (lN x)) :
    kbars_springs_c1 [.int .u8 k, .agg [.int .i64 a, .int .i64 b, .int .i64 c, .int .i64 d, .int .i64 e, .int .i64 f], .rp n0 g0, .rp n1 g1, .rp n2 g2, .rp n3 g3] =
      some (.agg [.int .i64 0, .int .u8 k, .int .i64 a, .int .i64 b, .int .i64 c, .int .i64 d, .int .i64 e, .int .i64 f, F (divS (mulS (c3, c3) (mulS (E, E) (I, I))) (mulS (mulS (x, x) (x, x)) (lS x))).1, F (divS (mulS (c3, c3) (mulS (E, E) (I, I))) (mulS (mulS (x, x) (x, x)) (lS x))).2,
        .flt .f64 (fq (fm (some c3) (fm (some E) (some I))) (fm (fm (some x) (some x)) (some (lN x))))]) := by
  subst h0 h1 h2 h3
  have t1 : kbars_times [.ro 2 2 2 fun i j => ([[F E, F E], [F I, F I]].getD i []).getD j .dead] = some (SA (mulS (E, E) (I, I))) := k_times (s := (E, E)) (t := (I, I)) (fEA hE hI).1
  have t2 : kbars_times [.ro 2 2 2 fun i j => ([[F c3, F c3], [F (mulS (E, E) (I, I)).1, F (mulS (E, E) (I, I)).2]].getD i []).getD j .dead] = some (SA (mulS (c3, c3) (mulS (E, E) (I, I)))) := k_times (s := (c3, c3)) (t := mulS (E, E) (I, I)) (fTh hE hI).1
  have t3 : kbars_times [.ro 2 2 2 fun i j => ([[F x, F x], [F x, F x]].getD i []).getD j .dead] = some (SA (mulS (x, x) (x, x))) := k_times (s := (x, x)) (t := (x, x)) (fXX hx).1
  have t4 : kbars_times [.ro 2 2 2 fun i j => ([[F (mulS (x, x) (x, x)).1, F (mulS (x, x) (x, x)).2], [F (lS x).1, F (lS x).2]].getD i []).getD j .dead] = some (SA (mulS (mulS (x, x) (x, x)) (lS x))) := k_times (s := mulS (x, x) (x, x)) (t := lS x) (fXXL hx).1
  have t5 := fun k a b c d e f p q => k_spring (fBow hE hI hx).1 k a b c d e f p q
  have o1 : ∀ w, kbars_one [F w] = some (.agg [F w, F w]) := fun _ => rfl
  show gbars_springs_c1 kbars_one kbars_times kbars_spring NN k a b c d e f 9 g0 1 g1 2 g2 1 g3 = _
  unfold gbars_springs_c1
  have b1 : Nat.blt 0 (9 - 6) = true := rfl
  have b2 : Nat.blt 0 (9 - 8) = true := rfl
  have b3 : Nat.blt 0 1 = true := rfl
  have b4 : Nat.ble 2 2 = true := rfl
  have ff : fitKs [LK.f .f64, LK.f .f64] [F (lS x).1, F (lS x).2] = true := rfl
  simp only [e6, e8, ex', l0, l1, ln, b1, b2, b3, b4, ff, fF, o1, okFF, ck_true, gV, tT, tC, hD, tl, tF, tI, t1, t2, t3, t4, t5, okSp]
end Go.Proofs.Tryz
end
section
namespace Go.Proofs.Tryz
open Go Go.Am Ieee.Pos
set_option maxRecDepth 100000

def lAV (l : List (List AV)) : AV := .ro 11 l.length l.length fun i j => (l.getD i []).getD j .dead
theorem k_stands (s : ByteArray) (kd a b : Int) (ha hb : Bool) (E A I : Nat) : kbars_stands [MA s kd a b ha hb E A I] = some (.tup [.bool (bif kd == 2 then !ha else false), .bool (bif kd == 2 then !hb else false)]) := by
  show gbars_stands NN s kd a b ha hb (some E) (some A) (some I) = _
  unfold gbars_stands
  cases kd == 2 <;> rfl
theorem okBB (a b : Bool) : okM [RS.one LK.b, RS.one LK.b] (some (.tup [.bool a, .bool b])) = true := rfl
theorem fJ (s : ByteArray) (x y f : Int) : fitKs [LK.s, LK.i .i32, LK.i .i32, LK.i .u8] [.str s, .int .i32 x, .int .i32 y, .int .u8 f] = true := rfl
theorem tS (s : ByteArray) : toS (.str s) = s := rfl

section
variable {J : JS} {jr : Nat} {jg : Ge} (hj : J.Ok jg) {ia ib : Nat} (hia : ia < J.n) (hib : ib < J.n)
  (na : farB (J.x ia) = false) (nb : farB (J.y ia) = false) (nc : farB (J.x ib) = false) (nd : farB (J.y ib) = false)
  {dx dy n : Int} (edx : dx = J.x ib - J.x ia) (edy : dy = J.y ib - J.y ia) (en : n = dx * dx + dy * dy) (hx : In 1023 1066 (xw n))
  {E A I : Nat} (hE : In 963 1083 E) (hA : In 963 1083 A) (s : ByteArray) {kd : Int} {ha hb : Bool} (mn mr : Nat) (mg : Ge)
include hj hia hib na nb nc nd edx edy en hx hE hA
theorem k_springsA (h : (kd = 1 ∧ ha = false ∧ hb = false) ∨ (kd = 2 ∧ In 963 1083 I)) :
    kbars_springs_a [.agg [.ro 4 J.n jr jg, .ro 9 mn mr mg], MA s kd ia ib ha hb E A I] = some (.tup [lAV ((ksOf kd ha hb).map (spr 0 dx dy n E A I ha))]) := by
  obtain ⟨a0, a1, a2, a3⟩ := hj ia hia
  obtain ⟨b0, b1, b2, b3⟩ := hj ib hib
  have p1 := k_apart na nb nc nd (J.nm ia) (J.nm ib) (J.fx ia) (J.fx ib)
  have p2 := k_length na nb nc nd (J.nm ia) (J.nm ib) (J.fx ia) (J.fx ib) (n := n) (by rw [en, edx, edy]) hx
  rw [← edx, ← edy, ← en] at p1
  have o1 : ∀ w, kbars_one [F w] = some (.agg [F w, F w]) := fun _ => rfl
  have hw : FloatKind.f64.nearest n = xw n := rfl
  have t1 : kbars_times [.ro 2 2 2 fun i j => ([[F E, F E], [F A, F A]].getD i []).getD j .dead] = some (SA (mulS (E, E) (A, A))) := k_times (s := (E, E)) (t := (A, A)) (fEA hE hA).1
  have t2 : kbars_times [.ro 2 2 2 fun i j => ([[F (xw n), F (xw n)], [F (lS (xw n)).1, F (lS (xw n)).2]].getD i []).getD j .dead] = some (SA (mulS (xw n, xw n) (lS (xw n)))) := k_times (s := (xw n, xw n)) (t := lS (xw n)) (fXL hx).1
  have t3 := fun k a b c d e f p q => k_spring (fAx hE hA hx).1 k a b c d e f p q
  have q1 := decide_eq_true (show (0 : Int) ≤ (ia : Int) by omega)
  have q2 := decide_eq_true (show (0 : Int) ≤ (ib : Int) by omega)
  have q3 := decide_eq_true (show (ia : Int) < (J.n : Int) by omega)
  have q4 := decide_eq_true (show (ib : Int) < (J.n : Int) by omega)
  show gbars_springs_a kjoints_Apart kjoints_Length kbars_one kbars_times kbars_spring kbars_stands kbars_springs_c1 NN J.n jr jg mn mr mg s kd ia ib ha hb (some E) (some A) (some I) = _
  unfold gbars_springs_a
  rw [q1, q2, q3, q4, Int.toNat_natCast, Int.toNat_natCast, a0, a1, a2, a3, b0, b1, b2, b3, fJ, fJ]
  simp only [tS, tI, p1, p2, okIII, okSF, okFF, okSp, okBB, ck_true, gV, tT, tC, hD, tl, tF, tB, o1, hw, t1, t2, t3, k_stands]
  rcases h with ⟨rfl, rfl, rfl⟩ | ⟨rfl, hI⟩
  · rfl
  · cases ha
    · cases hb
      · have u1 : kbars_times [.ro 2 2 2 fun i j => ([[F E, F E], [F I, F I]].getD i []).getD j .dead] = some (SA (mulS (E, E) (I, I))) := k_times (s := (E, E)) (t := (I, I)) (fEA hE hI).1
        have u3 := fun k a b c d e f p q => k_spring (fEnd hE hI hx).1 k a b c d e f p q
        have e2 : ((2 : Int) == 2) = true := rfl
        simp only [e2, cond_true, Bool.not_false, u1, u3, okSp, okFF, ck_true, gV, tC, hD, tl, tF, tI]
        rw [k_bow hE hI hx]
        all_goals rfl
      · have e2 : ((2 : Int) == 2) = true := rfl
        simp only [e2, cond_true, cond_false, Bool.not_false, Bool.not_true]
        rw [k_bow hE hI hx]
        all_goals rfl
    · cases hb
      · have e2 : ((2 : Int) == 2) = true := rfl
        simp only [e2, cond_true, cond_false, Bool.not_false, Bool.not_true]
        rw [k_bow hE hI hx]
        all_goals rfl
      · rfl
end
end Go.Proofs.Tryz
end
section
namespace Go.Proofs.Tryz
open Go Go.Am Ieee.Pos
set_option maxRecDepth 100000

/-! ### What a plan's members tell -/
def dxO (J : JS) (M : MS) (i : Nat) : Int := J.x (M.b i).toNat - J.x (M.a i).toNat
def dyO (J : JS) (M : MS) (i : Nat) : Int := J.y (M.b i).toNat - J.y (M.a i).toNat
def nO (J : JS) (M : MS) (i : Nat) : Int := dxO J M i * dxO J M i + dyO J M i * dyO J M i
/-- The springs of a member. -/
def sprO (J : JS) (M : MS) (i : Nat) (at' : Int) : List (List AV) := (ksOf (M.kd i) (M.ha i) (M.hb i)).map (spr at' (dxO J M i) (dyO J M i) (nO J M i) (M.e i) (M.ar i) (M.iv i) (M.ha i))
def allO (J : JS) (M : MS) : Nat → List (List AV)
  | 0 => []
  | i + 1 => allO J M i ++ sprO J M i i
/-- A member that may be. -/
structure MemF (J : JS) (M : MS) (i : Nat) : Prop where
  a0 : 0 ≤ M.a i
  a1 : M.a i < J.n
  b0 : 0 ≤ M.b i
  b1 : M.b i < J.n
  na : farB (J.x (M.a i).toNat) = false
  nb : farB (J.y (M.a i).toNat) = false
  nc : farB (J.x (M.b i).toNat) = false
  nd : farB (J.y (M.b i).toNat) = false
  hx : In 1023 1066 (xw (nO J M i))
  hE : In 963 1083 (M.e i)
  hA : In 963 1083 (M.ar i)
  hI : (M.kd i = 1 ∧ M.ha i = false ∧ M.hb i = false) ∨ (M.kd i = 2 ∧ In 963 1083 (M.iv i))

theorem ksOf_len (kd : Int) (ha hb : Bool) : (ksOf kd ha hb).length ≤ 3 ∧ 1 ≤ (ksOf kd ha hb).length := by
  unfold ksOf
  cases kd == 1 <;> cases ha <;> cases hb <;> decide
theorem allO_len (J : JS) (M : MS) : ∀ i, (allO J M i).length ≤ 3 * i
  | 0 => Nat.le_refl _
  | i + 1 => by
    have := allO_len J M i
    have h := (ksOf_len (M.kd i) (M.ha i) (M.hb i)).1
    simp only [allO, sprO, List.length_append, List.length_map]
    omega

theorem rows_spr (kd : Int) (ha hb : Bool) (at' dx dy n : Int) (E A I : Nat) (z : List AV) :
    rows 11 ((ksOf kd ha hb).map (spr at' dx dy n E A I ha)).length (fun i j => (((ksOf kd ha hb).map (spr at' dx dy n E A I ha)).getD i z).getD j .dead) = (ksOf kd ha hb).map (spr at' dx dy n E A I ha) := by
  unfold ksOf
  cases kd == 1 <;> cases ha <;> cases hb <;> rfl

theorem sp_l0 (f : Nat) (kx0 : Nat → Nat → Ge → Int → Int → Nat → Nat → Ge → Nat → Nat → Ge → List AV → List (List AV) → ByteArray → Int → Int → Int → Bool → Bool → Option Nat → Option Nat → Option Nat → List AV → List (List AV) → Option AV)
    (c1 c2 : Nat) (c3' : Ge) (c4 c5 : Int) (d1 d2 : Nat) (d3 : Ge) (d4 d5 : Nat) (d6 : Ge) (z1 : List AV) (e1 : List (List AV)) (s : ByteArray) (m1 m2 m3 : Int) (p q : Bool) (o1 o2 o3 : Option Nat) (z : List AV)
    (kd : Int) (ha hb : Bool) (at' dx dy n : Int) (E A I : Nat) :
    gbars_Springs_a_l0 kbars_Check kbars_springs_a NN kx0 at' c1 c2 c3' c4 c5 ((((ksOf kd ha hb).map (spr 0 dx dy n E A I ha)).length : Nat) : Int) d1 d2 d3 d4 d5 d6 z1 e1 s m1 m2 m3 p q o1 o2 o3 z (f + 4) 0 ((ksOf kd ha hb).map (spr 0 dx dy n E A I ha)) =
      kx0 c1 c2 c3' c4 c5 d1 d2 d3 d4 d5 d6 z1 e1 s m1 m2 m3 p q o1 o2 o3 z ((ksOf kd ha hb).map (spr at' dx dy n E A I ha)) := by
  unfold ksOf
  cases kd == 1 <;> cases ha <;> cases hb <;> rfl

theorem okXl (l : List (List AV)) : okX [RS.one (LK.l 11)] (some (.tup [lAV l])) = true := by simp [okX, fitRs, fitRS, fitK, lAV]

theorem sp_all {J : JS} {M : MS} {jr mr : Nat} {jg g : Ge} (hj : J.Ok jg) (hm : M.Ok g) (hF : ∀ i, i < M.n → MemF J M i) (h48 : M.n ≤ 48) (kx0 : Nat → Nat → Ge → Nat → Nat → Ge → List AV → List (List AV) → Option AV) (z : List AV) :
    ∀ (m q i : Nat), i + m = M.n → gbars_Springs_a_l1 kbars_Check kbars_springs_a NN kx0 (q + m + 1) M.n mr g M.n i J.n jr jg M.n mr g z (allO J M i) = kx0 J.n jr jg M.n mr g z (allO J M M.n)
  | 0, q, i, h => by
    obtain rfl : i = M.n := by omega
    show gbars_Springs_a_l1_step kbars_Check kbars_springs_a NN _ kx0 M.n mr g M.n M.n J.n jr jg M.n mr g z _ = _
    unfold gbars_Springs_a_l1_step
    rw [decide_eq_false (by omega), cond_false]
  | m + 1, q, i, h => by
    have hi : i < M.n := by omega
    have ih := sp_all (mr := mr) (jr := jr) hj hm hF h48 kx0 z m q (i + 1) (by omega)
    obtain ⟨g0, g1, g2, g3, g4, g5, g6, g7, g8⟩ := hm i hi
    obtain ⟨f1, f2, f3', f4, f5, f6, f7, f8, f9, f10, f11, f12⟩ := hF i hi
    have ea : M.a i = ((M.a i).toNat : Int) := by omega
    have eb : M.b i = ((M.b i).toNat : Int) := by omega
    have hs := k_springsA (dx := dxO J M i) (dy := dyO J M i) (n := nO J M i) hj (by omega) (by omega) f5 f6 f7 f8 rfl rfl rfl f9 f10 f11 (jr := jr) (M.nm i) M.n mr g f12
    rw [← ea, ← eb] at hs
    have hlen := allO_len J M i
    have hk := ksOf_len (M.kd i) (M.ha i) (M.hb i)
    show gbars_Springs_a_l1_step kbars_Check kbars_springs_a NN (gbars_Springs_a_l1 kbars_Check kbars_springs_a NN kx0 (q + m + 1)) kx0 M.n mr g M.n i J.n jr jg M.n mr g z (allO J M i) = _
    unfold gbars_Springs_a_l1_step
    rw [decide_eq_true (show (i : Int) < M.n by omega), decide_eq_true (show (0 : Int) ≤ i by omega), Int.toNat_natCast, g0, g1, g2, g3, g4, g5, g6, g7, g8, fitM]
    simp only [toS_str, toI_int, toB_bool, toF_flt, cond_true]
    rw [hs, okXl]
    simp only [ck_true]
    have er := rows_spr (M.kd i) (M.ha i) (M.hb i) 0 (dxO J M i) (dyO J M i) (nO J M i) (M.e i) (M.ar i) (M.iv i) []
    have eN : NN = 1125899906842620 + 4 := by unfold NN; omega
    have el := fun kx0 => sp_l0 1125899906842620 kx0 M.n mr g M.n i J.n jr jg M.n mr g z (allO J M i) (M.nm i) (M.kd i) (M.a i) (M.b i) (M.ha i) (M.hb i) (some (M.e i)) (some (M.ar i)) (some (M.iv i)) [AV.int .i64 (0 : Int), AV.int .u8 (0 : Int), AV.int .i64 (0 : Int), AV.int .i64 (0 : Int), AV.int .i64 (0 : Int), AV.int .i64 (0 : Int), AV.int .i64 (0 : Int), AV.int .i64 (0 : Int), AV.flt .f64 (some (0 : Nat)), AV.flt .f64 (some (0 : Nat)), AV.flt .f64 (some (0 : Nat))] (M.kd i) (M.ha i) (M.hb i) i (dxO J M i) (dyO J M i) (nO J M i) (M.e i) (M.ar i) (M.iv i)
    rw [← eN] at el
    have tG : ∀ (s n r : Nat) (g : Ge), toG (.ro s n r g) = g := fun _ _ _ _ => rfl
    simp only [gV, tT, hD, lAV, tG]
    rw [er]
    refine (el _).trans ?_
    have er2 := rows_spr (M.kd i) (M.ha i) (M.hb i) i (dxO J M i) (dyO J M i) (nO J M i) (M.e i) (M.ar i) (M.iv i) [AV.int .i64 (0 : Int), AV.int .u8 (0 : Int), AV.int .i64 (0 : Int), AV.int .i64 (0 : Int), AV.int .i64 (0 : Int), AV.int .i64 (0 : Int), AV.int .i64 (0 : Int), AV.int .i64 (0 : Int), AV.flt .f64 (some (0 : Nat)), AV.flt .f64 (some (0 : Nat)), AV.flt .f64 (some (0 : Nat))]
    rw [er2, List.length_map, decide_eq_true (show ((allO J M i).length + (ksOf (M.kd i) (M.ha i) (M.hb i)).length) * 88 < 70368744177664 by omega), decide_eq_true (show (allO J M i).length + (ksOf (M.kd i) (M.ha i) (M.hb i)).length < 4611686018427387904 by omega), ck_true, ck_true, wrap_s (by omega)]
    exact ih
end Go.Proofs.Tryz
end
section
namespace Go.Proofs.Tryz
open Go Go.Am Ieee.Pos
set_option maxRecDepth 100000

theorem r6_eta (dx dy n k : Int) (b : Bool) :
    [AV.int .i64 (toI ((r6 dx dy n k b).headD .dead)), AV.int .i64 (toI ((r6 dx dy n k b).tail.headD .dead)), AV.int .i64 (toI ((r6 dx dy n k b).tail.tail.headD .dead)), AV.int .i64 (toI ((r6 dx dy n k b).tail.tail.tail.headD .dead)), AV.int .i64 (toI ((r6 dx dy n k b).tail.tail.tail.tail.headD .dead)), AV.int .i64 (toI ((r6 dx dy n k b).tail.tail.tail.tail.tail.headD .dead))] = r6 dx dy n k b := by
  unfold r6
  cases k == 1 <;> cases k == 2 <;> cases k == 3 <;> cases b <;> rfl
theorem fm_in {l1 h1 l2 h2 lo hi a b : Nat} (ha : In l1 h1 a) (hb : In l2 h2 b) (hl : lo + 1023 ≤ l1 + l2) (hh : h1 + h2 ≤ hi + 1021) (c1 : 200 ≤ l1) (c2 : h1 ≤ 1900) (c3 : 200 ≤ l2) (c4 : h2 ≤ 1900) (c5 : 200 ≤ lo) (c6 : hi ≤ 1900) : ∃ p, fm (some a) (some b) = some p ∧ In lo hi p := by
  obtain ⟨na, a1, a2⟩ := ha
  obtain ⟨nb, b1, b2⟩ := hb
  obtain ⟨p, e, np, p1, p2⟩ := mul_ex na nb (by omega) (by omega)
  exact ⟨p, e, np, by omega, by omega⟩
theorem fq_in {l1 h1 l2 h2 a b : Nat} (ha : In l1 h1 a) (hb : In l2 h2 b) (c1 : 600 ≤ l1) (c2 : h1 ≤ 1500) (c3 : 600 ≤ l2) (c4 : h2 ≤ 1500) : ∃ p, fq (some a) (some b) = some p := by
  obtain ⟨na, a1, a2⟩ := ha
  obtain ⟨nb, b1, b2⟩ := hb
  obtain ⟨p, e, np, p1, p2⟩ := div_ex na nb (by omega) (by omega)
  exact ⟨p, e⟩
theorem stN_some {J : JS} {M : MS} {i : Nat} (h : MemF J M i) {k : Int} (hk : k ∈ ksOf (M.kd i) (M.ha i) (M.hb i)) : ∃ p, stN (M.e i) (M.ar i) (M.iv i) (xw (nO J M i)) k = some p := by
  have hl := (root_all h.hx w0).2.2
  have hx := h.hx
  have hE := h.hE
  have hA := h.hA
  have h1 : ∃ p, fq (fm (some (M.e i)) (some (M.ar i))) (fm (some (xw (nO J M i))) (some (lN (xw (nO J M i))))) = some p := by
    obtain ⟨p, e1, i1⟩ := fm_in (lo := 903) (hi := 1145) hE hA (by omega) (by omega) (by omega) (by omega) (by omega) (by omega) (by omega) (by omega)
    obtain ⟨q, e2, i2⟩ := fm_in (lo := 1022) (hi := 1091) hx hl (by omega) (by omega) (by omega) (by omega) (by omega) (by omega) (by omega) (by omega)
    show ∃ p, fq _ (fm _ (some (rootV 0 (xw (nO J M i))))) = some p
    rw [e1, e2]
    exact fq_in i1 i2 (by omega) (by omega) (by omega) (by omega)
  have hk1 : k = 1 ∨ In 963 1083 (M.iv i) := by
    rcases h.hI with ⟨a1, a2, a3⟩ | ⟨a1, hI⟩
    · rw [a1, a2, a3] at hk
      have : k ∈ [(1 : Int)] := hk
      simp at this
      exact Or.inl this
    · exact Or.inr hI
  rcases hk1 with rfl | hI
  · exact h1
  · obtain ⟨p, e1, i1⟩ := fm_in (lo := 903) (hi := 1145) hE hI (by omega) (by omega) (by omega) (by omega) (by omega) (by omega) (by omega) (by omega)
    unfold stN
    cases k == 1
    · cases k == 3
      · obtain ⟨p2, e2, i2⟩ := fm_in (lo := 904) (hi := 1148) c3_in i1 (by omega) (by omega) (by omega) (by omega) (by omega) (by omega) (by omega) (by omega)
        obtain ⟨q, e3, i3⟩ := fm_in (lo := 1023) (hi := 1111) hx hx (by omega) (by omega) (by omega) (by omega) (by omega) (by omega) (by omega) (by omega)
        obtain ⟨q2, e4, i4⟩ := fm_in (lo := 1022) (hi := 1136) i3 hl (by omega) (by omega) (by omega) (by omega) (by omega) (by omega) (by omega) (by omega)
        show ∃ p, fq (fm _ _) (fm _ (some (rootV 0 (xw (nO J M i))))) = some p
        rw [e1, e2, e3, e4]
        exact fq_in i2 i4 (by omega) (by omega) (by omega) (by omega)
      · show ∃ p, fq (fm _ _) (some (rootV 0 (xw (nO J M i)))) = some p
        rw [e1]
        exact fq_in i1 hl (by omega) (by omega) (by omega) (by omega)
    · exact h1

/-- The shape of a spring's row. -/
def SprRow (l : List AV) : Prop := ∃ a b c d e f g h : Int, ∃ p q r : Nat, l = [.int .i64 a, .int .u8 b, .int .i64 c, .int .i64 d, .int .i64 e, .int .i64 f, .int .i64 g, .int .i64 h, F p, F q, F r]
theorem spr_row {J : JS} {M : MS} {i : Nat} (h : MemF J M i) {k : Int} (hk : k ∈ ksOf (M.kd i) (M.ha i) (M.hb i)) (at' dx dy : Int) (back : Bool) : SprRow (spr at' dx dy (nO J M i) (M.e i) (M.ar i) (M.iv i) back k) := by
  obtain ⟨p, e⟩ := stN_some h hk
  unfold spr
  rw [e, ← r6_eta]
  exact ⟨_, _, _, _, _, _, _, _, _, _, _, rfl⟩
theorem all_row {J : JS} {M : MS} (hF : ∀ i, i < M.n → MemF J M i) : ∀ (n : Nat), n ≤ M.n → ∀ l ∈ allO J M n, SprRow l
  | 0, _, l, hl => by cases hl
  | n + 1, hn, l, hl => by
    simp only [allO, List.mem_append, sprO, List.mem_map] at hl
    rcases hl with hl | ⟨k, hk, rfl⟩
    · exact all_row hF n (by omega) l hl
    · exact spr_row (hF n (by omega)) hk _ _ _ _

theorem same_float (x : Nat) : kkit_SameFloat [F x, F x] = some (.bool true) := by
  show gkit_SameFloat NN (some x) (some x) = _
  unfold gkit_SameFloat
  rw [okBits, ck_true, ck_true, beq_self_eq_true]
  rfl
theorem same_span (x y : Nat) : kkit_SameSpan [.agg [F x, F y], .agg [F x, F y]] = some (.bool true) := by
  show gkit_SameSpan kkit_SameFloat NN (some x) (some y) (some x) (some y) = _
  unfold gkit_SameSpan
  rw [same_float, same_float]
  rfl
theorem same_spring (a b c d e f g h : Int) (p q r : Nat) : kkit_SameSpring [.agg [.int .i64 a, .int .u8 b, .int .i64 c, .int .i64 d, .int .i64 e, .int .i64 f, .int .i64 g, .int .i64 h, F p, F q, F r], .agg [.int .i64 a, .int .u8 b, .int .i64 c, .int .i64 d, .int .i64 e, .int .i64 f, .int .i64 g, .int .i64 h, F p, F q, F r]] = some (.bool true) := by
  show gkit_SameSpring kkit_SameSpan kkit_SameFloat NN a b c d e f g h (some p) (some q) (some r) a b c d e f g h (some p) (some q) (some r) = _
  unfold gkit_SameSpring
  simp only [beq_self_eq_true, same_span, same_float]
  rfl
def RowG (n : Nat) (g : Ge) : Prop := ∀ i, i < n → ∃ a b c d e f u h : Int, ∃ p q r : Nat, g i 0 = .int .i64 a ∧ g i 1 = .int .u8 b ∧ g i 2 = .int .i64 c ∧ g i 3 = .int .i64 d ∧ g i 4 = .int .i64 e ∧ g i 5 = .int .i64 f ∧ g i 6 = .int .i64 u ∧ g i 7 = .int .i64 h ∧ g i 8 = F p ∧ g i 9 = F q ∧ g i 10 = F r
theorem fitSp (a b c d e f g h : Int) (o p q : Option Nat) : fitKs [LK.i .i64, LK.i .u8, LK.i .i64, LK.i .i64, LK.i .i64, LK.i .i64, LK.i .i64, LK.i .i64, LK.f .f64, LK.f .f64, LK.f .f64] [.int .i64 a, .int .u8 b, .int .i64 c, .int .i64 d, .int .i64 e, .int .i64 f, .int .i64 g, .int .i64 h, .flt .f64 o, .flt .f64 p, .flt .f64 q] = true := rfl
theorem same_all {n : Nat} {g : Ge} (hn : n < 1000000) (hg : RowG n g) (r1 r2 : Nat) (kx0 : Bool → Option AV) (kx1 : Option AV) :
    ∀ (m q i : Nat), i + m = n → gkit_SameSprings_l0 kkit_SameSpring NN kx0 kx1 n r1 g n r2 g (q + m + 1) i = kx1
  | 0, q, i, h => by
    obtain rfl : i = n := by omega
    show gkit_SameSprings_l0_step kkit_SameSpring NN _ kx0 kx1 i r1 g i r2 g i = _
    unfold gkit_SameSprings_l0_step
    rw [decide_eq_false (by omega), cond_false]
  | m + 1, q, i, h => by
    have ih := same_all hn hg r1 r2 kx0 kx1 m q (i + 1) (by omega)
    obtain ⟨a, b, c, d, e, f, u, v, p, q', r, g0, g1, g2, g3, g4, g5, g6, g7, g8, g9, g10⟩ := hg i (by omega)
    show gkit_SameSprings_l0_step kkit_SameSpring NN (gkit_SameSprings_l0 kkit_SameSpring NN kx0 kx1 n r1 g n r2 g (q + m + 1)) kx0 kx1 n r1 g n r2 g i = _
    unfold gkit_SameSprings_l0_step
    rw [decide_eq_true (show (i : Int) < n by omega), decide_eq_true (show (0 : Int) ≤ i by omega), Int.toNat_natCast, g0, g1, g2, g3, g4, g5, g6, g7, g8, g9, g10, fitSp, wrap_s (by omega), ih]
    simp only [tI, tF, same_spring, okQ, ck_true, gV, tB, cond_true, Bool.not_true, cond_false]
theorem same_springs {n : Nat} {g : Ge} (hn : n < 1000000) (hg : RowG n g) (r1 r2 : Nat) : kkit_SameSprings [.ro 11 n r1 g, .ro 11 n r2 g] = some (.bool true) := by
  show gkit_SameSprings kkit_SameSpring NN n r1 g n r2 g = _
  unfold gkit_SameSprings
  rw [bne_self_eq_false, cond_false]
  have e := same_all hn hg r1 r2 (fun b => some (AV.bool b)) (some (AV.bool true)) n (NN - n - 1) 0 (by omega)
  rw [show NN - n - 1 + n + 1 = NN by unfold NN; omega] at e
  exact e
theorem row_g {l : List (List AV)} (h : ∀ x ∈ l, SprRow x) (z : List AV) : RowG l.length fun i j => (l.getD i z).getD j .dead := by
  intro i hi
  obtain ⟨a, b, c, d, e, f, u, v, p, q, r, hr⟩ := h (l[i]'hi) (List.getElem_mem hi)
  have hd : l.getD i z = l[i]'hi := by simp [List.getD, hi]
  refine ⟨a, b, c, d, e, f, u, v, p, q, r, ?_⟩
  simp only [hd, hr]
  exact ⟨rfl, rfl, rfl, rfl, rfl, rfl, rfl, rfl, rfl, rfl, rfl⟩

theorem anyLt_false {p : Nat → Bool} : ∀ {n : Nat}, anyLt p n = false → ∀ k, k < n → p k = false
  | 0, _, k, hk => by omega
  | n + 1, h, k, hk => by
    simp only [anyLt, Bool.or_eq_false_iff] at h
    by_cases e : k = n
    · subst e; exact h.2
    · exact anyLt_false h.1 k (by omega)
theorem sq_pos {d : Int} (h : d ≠ 0) : 1 ≤ d * d := by
  have h1 := sq_nn d
  have h2 : d * d ≠ 0 := fun e => h (by rcases Int.mul_eq_zero.1 e with e | e <;> exact e)
  omega
/-- Every member of a plan that may be is one that may be. -/
theorem planCheck_mem {J : JS} {M : MS} (h : ((planCheck J M).1 != 0) = false) (he : ∀ i, i < M.n → M.e i < 18446744073709551616) (har : ∀ i, i < M.n → M.ar i < 18446744073709551616) (hiv : ∀ i, i < M.n → M.iv i < 18446744073709551616) :
    M.n ≤ 48 ∧ ∀ i, i < M.n → MemF J M i := by
  unfold planCheck at h
  cases hc : J.check.1 != 0
  case true => rw [hc] at h; simp only [cond_true] at h; rw [hc] at h; cases h
  rw [hc] at h
  simp only [cond_false] at h
  by_cases h48 : M.n > 48
  · rw [decide_eq_true h48] at h; cases h
  rw [decide_eq_false h48] at h
  simp only [cond_false] at h
  have hm : first (fun i => !M.may J.n i) M.n 0 = none := by
    cases hf : first (fun i => !M.may J.n i) M.n 0 with
    | none => rfl
    | some i => rw [hf] at h; cases h
  unfold JS.check at hc
  by_cases h16 : J.n > 16
  · rw [decide_eq_true h16] at hc; cases hc
  rw [decide_eq_false h16] at hc
  simp only [cond_false] at hc
  have hj : first J.bad J.n 0 = none := by
    cases hf : first J.bad J.n 0 with
    | none => rfl
    | some i => rw [hf] at hc; cases hc
  refine ⟨by omega, fun k hk => ?_⟩
  have hjb : ∀ i, i < J.n → (∀ l, l < i → (J.x i == J.x l && J.y i == J.y l) = false) ∧ farB (J.x i) = false ∧ farB (J.y i) = false := fun i hi => by
    have := first_none hj i (by omega) (by omega)
    unfold JS.bad at this
    simp only [Bool.or_eq_false_iff] at this
    exact ⟨anyLt_false this.1.1.1.2, this.1.2.1, this.1.2.2⟩
  have := first_none hm k (by omega) (by omega)
  simp only [Bool.not_eq_false'] at this
  unfold MS.may at this
  cases ha : anyFrom (fun k_1 => strEq (M.nm k_1) (M.nm k)) k 0 <;> rw [ha] at this
  case true => cases this
  cases hcore : M.core J.n k <;> rw [hcore] at this
  · cases this
  simp only [cond_true, cond_false] at this
  unfold MS.core at hcore
  cases hn : nameB (M.nm k) <;> rw [hn] at hcore
  · cases hcore
  simp only [cond_true] at hcore
  by_cases a0 : M.a k < 0
  · rw [decide_eq_true a0] at hcore; cases hcore
  rw [decide_eq_false a0] at hcore
  simp only [cond_false] at hcore
  by_cases a1 : M.a k ≥ (J.n : Int)
  · rw [decide_eq_true a1] at hcore; cases hcore
  rw [decide_eq_false a1] at hcore
  simp only [cond_false] at hcore
  by_cases b0 : M.b k < 0
  · rw [decide_eq_true b0] at hcore; cases hcore
  rw [decide_eq_false b0] at hcore
  simp only [cond_false] at hcore
  by_cases b1 : M.b k ≥ (J.n : Int)
  · rw [decide_eq_true b1] at hcore; cases hcore
  rw [decide_eq_false b1] at hcore
  simp only [cond_false] at hcore
  cases hab : M.a k == M.b k <;> rw [hab] at hcore
  case true => cases hcore
  simp only [cond_false] at hcore
  cases hE : numB (some (M.e k)) <;> rw [hE] at hcore
  · cases hcore
  simp only [cond_true] at hcore
  have hne : M.a k ≠ M.b k := by simpa using hab
  obtain ⟨d1, n1, n2⟩ := hjb (M.a k).toNat (by omega)
  obtain ⟨d2, n3, n4⟩ := hjb (M.b k).toNat (by omega)
  have f1 := far_b n1
  have f2 := far_b n2
  have f3 := far_b n3
  have f4 := far_b n4
  have hdiff : dxO J M k ≠ 0 ∨ dyO J M k ≠ 0 := by
    by_cases hx : dxO J M k = 0
    · by_cases hy : dyO J M k = 0
      · exfalso
        unfold dxO at hx
        unfold dyO at hy
        rcases Nat.lt_trichotomy (M.a k).toNat (M.b k).toNat with hl | hl | hl
        · have := d2 _ hl
          rw [show J.x (M.b k).toNat = J.x (M.a k).toNat by omega, show J.y (M.b k).toNat = J.y (M.a k).toNat by omega, beq_self_eq_true, beq_self_eq_true] at this
          cases this
        · omega
        · have := d1 _ hl
          rw [show J.x (M.b k).toNat = J.x (M.a k).toNat by omega, show J.y (M.b k).toNat = J.y (M.a k).toNat by omega, beq_self_eq_true, beq_self_eq_true] at this
          cases this
      · exact Or.inr hy
    · exact Or.inl hx
  have q1 := sq_b (d := dxO J M k) (by unfold dxO; omega)
  have q2 := sq_b (d := dyO J M k) (by unfold dyO; omega)
  have hx : In 1023 1066 (xw (nO J M k)) := xw_in (by
    unfold nO
    rcases hdiff with hd | hd
    · have := sq_pos hd; omega
    · have := sq_pos hd; omega) (by unfold nO; omega)
  refine ⟨by omega, by omega, by omega, by omega, n1, n2, n3, n4, hx, num_in (he k hk) hE, num_in (har k hk) hcore, ?_⟩
  cases k1 : M.kd k == 1 <;> rw [k1] at this
  · simp only [cond_false] at this
    cases k2 : M.kd k == 2 <;> rw [k2] at this
    · cases this
    · exact Or.inr ⟨by simpa using k2, num_in (hiv k hk) this⟩
  · simp only [cond_true] at this
    cases k2 : M.ha k <;> rw [k2] at this
    · cases k3 : M.hb k <;> rw [k3] at this
      · exact Or.inl ⟨by simpa using k1, rfl, rfl⟩
      · cases this
    · cases this
end Go.Proofs.Tryz
end
section
/- Plans made of sketches: parts. -/
namespace Go.Proofs.Tryz
open Go Go.Am Ieee.Pos
set_option maxRecDepth 100000
set_option linter.unusedVariables false
set_option linter.unusedSimpArgs false

theorem pick_sp (x : Int) {n : Int} (hn : 1 ≤ n) (hn2 : n < 4611686018427387904) : ∃ p, kkit_Pick [.int .i64 x, .int .i64 n] = some (.int .i64 p) ∧ 0 ≤ p ∧ p < n := by
  show ∃ p, gkit_Pick NN x n = some (.int .i64 p) ∧ _
  unfold gkit_Pick
  rw [decide_eq_false (show ¬ n < 1 by omega), decide_eq_false (show ¬ n = 0 by omega), cond_false, Bool.not_false, ck_true]
  have h1 : x.tmod n < n := Int.tmod_lt_of_pos x (by omega)
  have h2 : -n < x.tmod n := by
    have := Int.lt_tmod_of_pos x (show 0 < n by omega)
    omega
  by_cases h : x.tmod n < 0
  · rw [decide_eq_true h, cond_true, wrapi (by omega) (by omega)]
    exact ⟨_, rfl, by omega, by omega⟩
  · rw [decide_eq_false h, cond_false]
    exact ⟨_, rfl, by omega, by omega⟩

/-- Whole numbers, as a list that is read. -/
def IntsG (n : Nat) (g : Ge) : Prop := ∀ i, i < n → ∃ a, g i 0 = .int .i64 a
def FltsG (n : Nat) (g : Ge) : Prop := ∀ i, i < n → ∃ a : Nat, g i 0 = F a ∧ a < 18446744073709551616
theorem tmod_b {k : Int} {n : Nat} (h0 : 0 ≤ k) (hn : n ≠ 0) : 0 ≤ k.tmod (n : Int) ∧ k.tmod (n : Int) < n ∧ (k.tmod (n : Int)).toNat < n := by
  have h1 : 0 ≤ k.tmod (n : Int) := Int.tmod_nonneg _ h0
  have h2 : k.tmod (n : Int) < n := Int.tmod_lt_of_pos _ (by omega)
  exact ⟨h1, h2, by omega⟩
theorem part_sp {n r : Nat} {g : Ge} (hg : IntsG n g) {k : Int} (hk : 0 ≤ k) : ∃ v, kmade_part [.ro 1 n r g, .int .i64 k] = some (.int .i64 v) := by
  show ∃ v, gmade_part NN n r g k = _
  unfold gmade_part
  by_cases hn : n = 0
  · subst hn; exact ⟨0, rfl⟩
  · have e : (((n : Nat) : Int) == 0) = false := by
      have h : ¬ ((n : Nat) : Int) = 0 := by omega
      simpa using h
    obtain ⟨t1, t2, t3⟩ := tmod_b hk hn
    obtain ⟨a, ha⟩ := hg _ t3
    rw [e, cond_false, decide_eq_false (show ¬ ((n : Nat) : Int) = 0 by omega), decide_eq_true t1, decide_eq_true t2, ha]
    exact ⟨a, rfl⟩
theorem one_num : numB (some 4607182418800017408) = true := by
  unfold numB
  rw [ford_n (by unfold Norm ex; omega) (by unfold Norm ex; omega), ford_n (by unfold Norm ex; omega) (by unfold Norm ex; omega), c_gt, c_lt]
  rfl
theorem Number_sp {x : Nat} (hx : x < 18446744073709551616) : ∃ w, kmade_Number [F x] = some (F w) ∧ numB (some w) = true ∧ w < 18446744073709551616 := by
  show ∃ w, gmade_Number NN (some x) = some (F w) ∧ _
  unfold gmade_Number
  cases h : numB (some x)
  · unfold numB at h
    rw [h]
    exact ⟨_, rfl, one_num, by omega⟩
  · have h' := h
    unfold numB at h'
    rw [h']
    exact ⟨x, rfl, h, hx⟩
theorem number_sp {n r : Nat} {g : Ge} (hg : FltsG n g) {k : Int} (hk : 0 ≤ k) : ∃ w, kmade_number [.ro 1 n r g, .int .i64 k] = some (F w) ∧ numB (some w) = true ∧ w < 18446744073709551616 := by
  show ∃ w, gmade_number kmade_Number NN n r g k = some (F w) ∧ _
  unfold gmade_number
  by_cases hn : n = 0
  · subst hn; exact ⟨_, rfl, one_num, by omega⟩
  · have e : (((n : Nat) : Int) == 0) = false := by
      have h : ¬ ((n : Nat) : Int) = 0 := by omega
      simpa using h
    obtain ⟨t1, t2, t3⟩ := tmod_b hk hn
    obtain ⟨a, ha, hb⟩ := hg _ t3
    obtain ⟨w, hw, hnum, hlt⟩ := Number_sp hb
    rw [e, cond_false, decide_eq_false (show ¬ ((n : Nat) : Int) = 0 by omega), decide_eq_true t1, decide_eq_true t2, ha, tF]
    exact ⟨w, by rw [hw]; rfl, hnum, hlt⟩

/-- Names of a letter and a digit. -/
noncomputable def nmO (l : Int) (k : Nat) : ByteArray := toS (getV (kmade_name [.int .u8 l, .int .i64 k]))
theorem name_sp (l : Int) (k : Nat) : kmade_name [.int .u8 l, .int .i64 k] = some (.str (nmO l k)) := by
  have : ∃ s, kmade_name [.int .u8 l, .int .i64 k] = some (.str s) := ⟨_, rfl⟩
  obtain ⟨s, hs⟩ := this
  unfold nmO
  rw [hs]; rfl
theorem nm_ok {l : Int} (hl : l = 106 ∨ l = 109) {k : Nat} (hk : k < 6) : nameB (nmO l k) = true ∧ (nmO l k).size = 2 := by
  have h106 : ((List.range 6).all fun a => nameB (nmO 106 a) && (nmO 106 a).size == 2) = true := by kernel_rfl
  have h109 : ((List.range 6).all fun a => nameB (nmO 109 a) && (nmO 109 a).size == 2) = true := by kernel_rfl
  rcases hl with rfl | rfl
  · have := List.all_eq_true.1 h106 k (by simpa using hk)
    simpa using this
  · have := List.all_eq_true.1 h109 k (by simpa using hk)
    simpa using this
theorem nm_ne {l : Int} (hl : l = 106 ∨ l = 109) {a b : Nat} (ha : a < 6) (hb : b < 6) (hab : a ≠ b) : strEq (nmO l a) (nmO l b) = false := by
  have h106 : ((List.range 6).all fun a => (List.range 6).all fun b => a == b || !strEq (nmO 106 a) (nmO 106 b)) = true := by kernel_rfl
  have h109 : ((List.range 6).all fun a => (List.range 6).all fun b => a == b || !strEq (nmO 109 a) (nmO 109 b)) = true := by kernel_rfl
  have e : (a == b) = false := by simpa using hab
  rcases hl with rfl | rfl
  · have := List.all_eq_true.1 (List.all_eq_true.1 h106 a (by simpa using ha)) b (by simpa using hb)
    rw [e] at this
    simpa using this
  · have := List.all_eq_true.1 (List.all_eq_true.1 h109 a (by simpa using ha)) b (by simpa using hb)
    rw [e] at this
    simpa using this
end Go.Proofs.Tryz
end
section
/- Plans made of sketches: joints. -/
namespace Go.Proofs.Tryz
open Go Go.Am Ieee.Pos
set_option maxRecDepth 100000
set_option linter.unusedVariables false
set_option linter.unusedSimpArgs false

noncomputable def jrow (k : Nat) (x y f : Int) : List AV := [.str (nmO 106 k), .int .i32 x, .int .i32 y, .int .u8 f]
noncomputable def jl (X Y Fx : Nat → Int) (i : Nat) : List (List AV) := (List.range i).map fun k => jrow k (X k) (Y k) (Fx k)
theorem jl_len (X Y Fx : Nat → Int) (i : Nat) : (jl X Y Fx i).length = i := by simp [jl]
theorem jl_get (X Y Fx : Nat → Int) {i k : Nat} (h : k < i) (z : List AV) : (jl X Y Fx i).getD k z = jrow k (X k) (Y k) (Fx k) := by
  unfold jl
  simp [List.getD, h]
theorem jl_succ (X Y Fx : Nat → Int) (i : Nat) (x y f : Int) : jl X Y Fx i ++ [jrow i x y f] = jl (fun k => if k = i then x else X k) (fun k => if k = i then y else Y k) (fun k => if k = i then f else Fx k) (i + 1) := by
  unfold jl
  rw [List.range_succ, List.map_append]
  congr 1
  · apply List.map_congr_left
    intro k hk
    have : k ≠ i := by have := List.mem_range.1 hk; omega
    simp [this]
  · simp
structure JInv (X Y Fx : Nat → Int) (i : Nat) : Prop where
  x : ∀ k, k < i → (-8 ≤ X k ∧ X k ≤ 8) ∨ X k = 20 + 3 * k
  y : ∀ k, k < i → -8 ≤ Y k ∧ Y k ≤ 8
  f : ∀ k, k < i → 0 ≤ Fx k ∧ Fx k ≤ 7
  d : ∀ k, k < i → ∀ l, l < k → ¬ (X l = X k ∧ Y l = Y k)
theorem JInv.step {X Y Fx : Nat → Int} {i : Nat} (h : JInv X Y Fx i) {x y f : Int} (hx : (-8 ≤ x ∧ x ≤ 8 ∧ ∀ l, l < i → ¬ (X l = x ∧ Y l = y)) ∨ x = 20 + 3 * i) (hy : -8 ≤ y ∧ y ≤ 8) (hf : 0 ≤ f ∧ f ≤ 7) :
    JInv (fun k => if k = i then x else X k) (fun k => if k = i then y else Y k) (fun k => if k = i then f else Fx k) (i + 1) := by
  refine ⟨fun k hk => ?_, fun k hk => ?_, fun k hk => ?_, fun k hk l hl => ?_⟩
  · by_cases e : k = i
    · simp only [e, if_true]
      rcases hx with h1 | h1
      · exact Or.inl ⟨h1.1, h1.2.1⟩
      · exact Or.inr h1
    · simp only [e, if_false]; exact h.x k (by omega)
  · by_cases e : k = i
    · simp only [e, if_true]; exact hy
    · simp only [e, if_false]; exact h.y k (by omega)
  · by_cases e : k = i
    · simp only [e, if_true]; exact hf
    · simp only [e, if_false]; exact h.f k (by omega)
  · by_cases e : k = i
    · subst e
      have hl' : l ≠ k := by omega
      simp only [hl', if_true, if_false]
      rcases hx with h1 | h1
      · exact h1.2.2 l hl
      · have := h.x l hl
        omega
    · have hl' : l ≠ i := by omega
      simp only [e, hl', if_false]
      exact h.d k (by omega) l hl

section
variable (n N : Int) (a1 a2 : Nat) (a3 : Ge) (b1 b2 : Nat) (b3 : Ge) (c1 c2 : Nat) (c3 : Ge) (d1 d2 : Nat) (d3 : Ge) (z3 : List AV) (e3 : List (List AV)) (z4 : List AV) (e4 : List (List AV)) (z5 : List AV) (z6 : List AV) (e6 : List (List AV)) (s : ByteArray)
theorem pl_inner (X Y Fx : Nat → Int) (i : Nat) (hi : i < 6) (x0 y f : Int) : ∀ (m q k : Nat) (cur : Int), k + m = i → ((cur = x0 ∧ ∀ l, l < k → ¬ (X l = x0 ∧ Y l = y)) ∨ cur = 20 + 3 * i) →
    ∃ cur' : Int, ((cur' = x0 ∧ ∀ l, l < i → ¬ (X l = x0 ∧ Y l = y)) ∨ cur' = 20 + 3 * i) ∧
      ∀ (kx0 : Int → Int → Int → Nat → Nat → Ge → Nat → Nat → Ge → Nat → Nat → Ge → Nat → Nat → Ge → List AV → List (List AV) → List AV → List (List AV) → List AV → List (List AV) → List AV → List (List AV) → ByteArray → Int → Int → Int → Option AV),
      gmade_Sketch_Plan_l0 kkit_Pick kmade_name kmade_part kmade_number NN kx0 n i N a1 a2 a3 b1 b2 b3 c1 c2 c3 d1 d2 d3 z3 e3 z4 e4 z5 (jl X Y Fx i) z6 e6 s y f (q + m + 1) k cur =
        kx0 n i N a1 a2 a3 b1 b2 b3 c1 c2 c3 d1 d2 d3 z3 e3 z4 e4 z5 (jl X Y Fx i) z6 e6 s cur' y f
  | 0, q, k, cur, h, hc => by
    obtain rfl : k = i := by omega
    refine ⟨cur, hc, fun kx0 => ?_⟩
    show gmade_Sketch_Plan_l0_step kkit_Pick kmade_name kmade_part kmade_number NN _ kx0 n k N a1 a2 a3 b1 b2 b3 c1 c2 c3 d1 d2 d3 z3 e3 z4 e4 z5 (jl X Y Fx k) z6 e6 s y f k cur = _
    unfold gmade_Sketch_Plan_l0_step
    rw [decide_eq_false (by omega), cond_false]
  | m + 1, q, k, cur, h, hc => by
    have hk : k < i := by omega
    have f32 : ∀ n, fitK (LK.i .i32) (.int .i32 n) = true := fun _ => rfl
    have g1 : ∀ k x y f, (jrow k x y f).getD 1 .dead = .int .i32 x := fun _ _ _ _ => rfl
    have g2 : ∀ k x y f, (jrow k x y f).getD 2 .dead = .int .i32 y := fun _ _ _ _ => rfl
    have w1 : IntKind.i32.wrap (IntKind.i64.wrap (20 + IntKind.i64.wrap (3 * (i : Int)))) = 20 + 3 * i := by
      rw [wrapi (n := 3 * (i : Int)) (by omega) (by omega), wrapi (by omega) (by omega), wrap32 (by omega) (by omega)]
    obtain ⟨c, h1, h2⟩ := pl_inner X Y Fx i hi x0 y f m q (k + 1) (bif X k == cur && Y k == y then 20 + 3 * i else cur) (by omega) (by
      cases hb : X k == cur && Y k == y
      · refine hc.imp (fun ⟨h1, h2⟩ => ⟨h1, fun l hl => ?_⟩) (fun h => h)
        by_cases hlk : l = k
        · subst hlk
          intro ⟨q1, q2⟩
          rw [h1, q1, q2, beq_self_eq_true, beq_self_eq_true] at hb
          cases hb
        · exact h2 l (by omega)
      · exact Or.inr rfl)
    refine ⟨c, h1, fun kx0 => ?_⟩
    refine Eq.trans ?_ (h2 kx0)
    show gmade_Sketch_Plan_l0_step kkit_Pick kmade_name kmade_part kmade_number NN (gmade_Sketch_Plan_l0 kkit_Pick kmade_name kmade_part kmade_number NN kx0 n i N a1 a2 a3 b1 b2 b3 c1 c2 c3 d1 d2 d3 z3 e3 z4 e4 z5 (jl X Y Fx i) z6 e6 s y f (q + m + 1)) kx0 n i N a1 a2 a3 b1 b2 b3 c1 c2 c3 d1 d2 d3 z3 e3 z4 e4 z5 (jl X Y Fx i) z6 e6 s y f k cur = _
    unfold gmade_Sketch_Plan_l0_step
    rw [decide_eq_true (show (k : Int) < i by omega), decide_eq_true (show (0 : Int) ≤ k by omega), Int.toNat_natCast, jl_len, jl_get X Y Fx hk, g1, g2, f32, f32, wrap_s (by omega), w1, decide_eq_true (show (k : Int) < i by omega), tI, tI]
    cases X k == cur <;> cases Y k == y <;> rfl
end

theorem okS1 (s : ByteArray) : okM [RS.one LK.s] (some (.str s)) = true := rfl
section
variable (kx0 : Int → Int → Nat → Nat → Ge → Nat → Nat → Ge → Nat → Nat → Ge → Nat → Nat → Ge → List AV → List (List AV) → List AV → List (List AV) → List AV → List (List AV) → List AV → List (List AV) → Option AV)
  (N : Int) (a1 a2 : Nat) (a3 : Ge) (b1 b2 : Nat) (b3 : Ge) (c1 c2 : Nat) (c3 : Ge) (d1 d2 : Nat) (d3 : Ge) (z3 : List AV) (e3 : List (List AV)) (z4 : List AV) (e4 : List (List AV)) (z5 : List AV) (z6 : List AV) (e6 : List (List AV)) (hA : IntsG a1 a3) (hB : IntsG b1 b3)
include hA hB
theorem pl_joints (n : Nat) (hn : n < 6) : ∀ (m q i : Nat) (X Y Fx : Nat → Int), i + m = n → JInv X Y Fx i → ∃ X' Y' Fx', JInv X' Y' Fx' n ∧
    gmade_Sketch_Plan_l1 kkit_Pick kmade_name kmade_part kmade_number NN kx0 (q + m + 1) n i N a1 a2 a3 b1 b2 b3 c1 c2 c3 d1 d2 d3 z3 e3 z4 e4 z5 (jl X Y Fx i) z6 e6 =
      kx0 n N a1 a2 a3 b1 b2 b3 c1 c2 c3 d1 d2 d3 z3 e3 z4 e4 z5 (jl X' Y' Fx' n) z6 e6 := by
  intro m
  induction m with
  | zero =>
    intro q i X Y Fx h hI
    obtain rfl : i = n := by omega
    refine ⟨X, Y, Fx, hI, ?_⟩
    show gmade_Sketch_Plan_l1_step kkit_Pick kmade_name kmade_part kmade_number NN _ kx0 i i N a1 a2 a3 b1 b2 b3 c1 c2 c3 d1 d2 d3 z3 e3 z4 e4 z5 (jl X Y Fx i) z6 e6 = _
    unfold gmade_Sketch_Plan_l1_step
    rw [decide_eq_false (by omega), cond_false]
  | succ m IH =>
    intro q i X Y Fx h hI
    have hi : i < n := by omega
    obtain ⟨v1, p1⟩ := part_sp (r := a2) hA (k := 2 * (i : Int)) (by omega)
    obtain ⟨v2, p2⟩ := part_sp (r := a2) hA (k := 2 * (i : Int) + 1) (by omega)
    obtain ⟨v3, p3⟩ := part_sp (r := b2) hB (k := (i : Int)) (by omega)
    obtain ⟨x, p4, x1, x2⟩ := pick_sp v1 (n := 17) (by omega) (by omega)
    obtain ⟨y, p5, y1, y2⟩ := pick_sp v2 (n := 17) (by omega) (by omega)
    obtain ⟨f, p6, f1, f2⟩ := pick_sp v3 (n := 8) (by omega) (by omega)
    have hnm := name_sp 106 i
    show ∃ X' Y' Fx', _ ∧ gmade_Sketch_Plan_l1_step kkit_Pick kmade_name kmade_part kmade_number NN (gmade_Sketch_Plan_l1 kkit_Pick kmade_name kmade_part kmade_number NN kx0 (q + m + 1)) kx0 n i N a1 a2 a3 b1 b2 b3 c1 c2 c3 d1 d2 d3 z3 e3 z4 e4 z5 (jl X Y Fx i) z6 e6 = _
    unfold gmade_Sketch_Plan_l1_step
    have w8 : ∀ {f : Int}, 0 ≤ f → f < 8 → IntKind.u8.wrap f = f := fun h1 h2 => by
      simp only [IntKind.wrap, IntKind.bits, IntKind.signed]
      simp
      omega
    rw [decide_eq_true (show (i : Int) < n by omega), cond_true, wrapi (n := 2 * (i : Int)) (by omega) (by omega), wrapi (n := 2 * (i : Int) + 1) (by omega) (by omega), hnm, okS1, ck_true, p1, okI, ck_true, gV, tI, p4, okI, ck_true, p2, okI, ck_true, gV, tI, p5, okI, ck_true, p3, okI, ck_true, gV, tI, p6, okI, ck_true]
    simp only [gV, tI, tS]
    rw [wrapi (n := x - 8) (by omega) (by omega), wrapi (n := y - 8) (by omega) (by omega), wrap32 (n := x - 8) (by omega) (by omega), wrap32 (n := y - 8) (by omega) (by omega), w8 f1 f2]
    have hin := pl_inner n N a1 a2 a3 b1 b2 b3 c1 c2 c3 d1 d2 d3 z3 e3 z4 e4 z5 z6 e6 (nmO 106 i) X Y Fx i (by omega) (x - 8) (y - 8) f i (NN - i - 1) 0 (x - 8) (by omega) (Or.inl ⟨rfl, fun l hl => by omega⟩)
    rw [show NN - i - 1 + i + 1 = NN by unfold NN; omega] at hin
    obtain ⟨cur', hc, he⟩ := hin
    have h00 : ((0 : Nat) : Int) = 0 := rfl
    rw [h00] at he
    have hst := hI.step (x := cur') (y := y - 8) (f := f) (by
      rcases hc with ⟨c1, c2⟩ | c1
      · exact Or.inl ⟨by omega, by omega, fun l hl => by rw [c1]; exact c2 l hl⟩
      · exact Or.inr c1) (by omega) (by omega)
    obtain ⟨X', Y', Fx', hI', ih⟩ := IH q (i + 1) _ _ _ (by omega) hst
    refine ⟨X', Y', Fx', hI', (he _).trans ?_⟩
    have hl := jl_len X Y Fx i
    rw [hl, decide_eq_true (show (i + 1) * 32 < 70368744177664 by omega), decide_eq_true (show i + 1 < 4611686018427387904 by omega), ck_true, ck_true, wrap_s (by omega)]
    have hj := jl_succ X Y Fx i cur' (y - 8) f
    unfold jrow at hj
    rw [hj]
    exact ih
end
end Go.Proofs.Tryz
end
section
/- Plans made of sketches: members. -/
namespace Go.Proofs.Tryz
open Go Go.Am Ieee.Pos
set_option maxRecDepth 100000
set_option linter.unusedVariables false
set_option linter.unusedSimpArgs false

structure MRec where
  kd : Int
  a : Int
  b : Int
  ha : Bool
  hb : Bool
  e : Nat
  ar : Nat
  iv : Nat
noncomputable def mrow (k : Nat) (r : MRec) : List AV := [.str (nmO 109 k), .int .u8 r.kd, .int .i64 r.a, .int .i64 r.b, .bool r.ha, .bool r.hb, F r.e, F r.ar, F r.iv]
noncomputable def ml (V : Nat → MRec) (i : Nat) : List (List AV) := (List.range i).map fun k => mrow k (V k)
theorem ml_len (V : Nat → MRec) (i : Nat) : (ml V i).length = i := by simp [ml]
theorem ml_get (V : Nat → MRec) {i k : Nat} (h : k < i) (z : List AV) : (ml V i).getD k z = mrow k (V k) := by
  unfold ml
  simp [List.getD, h]
theorem ml_succ (V : Nat → MRec) (i : Nat) (r : MRec) : ml V i ++ [mrow i r] = ml (fun k => if k = i then r else V k) (i + 1) := by
  unfold ml
  rw [List.range_succ, List.map_append]
  congr 1
  · apply List.map_congr_left
    intro k hk
    have : k ≠ i := by have := List.mem_range.1 hk; omega
    simp [this]
  · simp
/-- A member that a sketch makes, in a plan of n joints. -/
structure MOk (n : Int) (r : MRec) : Prop where
  a0 : 0 ≤ r.a
  a1 : r.a < n
  b0 : 0 ≤ r.b
  b1 : r.b < n
  ab : r.a ≠ r.b
  e : numB (some r.e) = true ∧ r.e < 18446744073709551616
  ar : numB (some r.ar) = true ∧ r.ar < 18446744073709551616
  k : (r.kd = 1 ∧ r.ha = false ∧ r.hb = false ∧ r.iv = 0) ∨ (r.kd = 2 ∧ numB (some r.iv) = true ∧ r.iv < 18446744073709551616)

theorem ends_sp {n x : Int} (hn : n = 2 ∨ n = 3 ∨ n = 4) (h0 : 0 ≤ x) (h1 : x < 1000) : 0 ≤ x.tmod n ∧ x.tmod n < n ∧
    0 ≤ (IntKind.i64.wrap (IntKind.i64.wrap (x.tmod n + 1) + (IntKind.i64.wrap (x.tdiv n)).tmod (IntKind.i64.wrap (n - 1)))).tmod n ∧
    (IntKind.i64.wrap (IntKind.i64.wrap (x.tmod n + 1) + (IntKind.i64.wrap (x.tdiv n)).tmod (IntKind.i64.wrap (n - 1)))).tmod n < n ∧
    x.tmod n ≠ (IntKind.i64.wrap (IntKind.i64.wrap (x.tmod n + 1) + (IntKind.i64.wrap (x.tdiv n)).tmod (IntKind.i64.wrap (n - 1)))).tmod n := by
  have hw : IntKind.i64.wrap (n - 1) = n - 1 := wrapi (by omega) (by omega)
  rw [hw]
  rcases hn with rfl | rfl | rfl
  · rw [Int.tmod_eq_emod_of_nonneg h0, Int.tdiv_eq_ediv_of_nonneg h0, wrapi (n := x / 2) (by omega) (by omega), Int.tmod_eq_emod_of_nonneg (a := x / 2) (by omega), wrapi (n := x % 2 + 1) (by omega) (by omega), wrapi (by omega) (by omega), Int.tmod_eq_emod_of_nonneg (by omega)]
    omega
  · rw [Int.tmod_eq_emod_of_nonneg h0, Int.tdiv_eq_ediv_of_nonneg h0, wrapi (n := x / 3) (by omega) (by omega), Int.tmod_eq_emod_of_nonneg (a := x / 3) (by omega), wrapi (n := x % 3 + 1) (by omega) (by omega), wrapi (by omega) (by omega), Int.tmod_eq_emod_of_nonneg (by omega)]
    omega
  · rw [Int.tmod_eq_emod_of_nonneg h0, Int.tdiv_eq_ediv_of_nonneg h0, wrapi (n := x / 4) (by omega) (by omega), Int.tmod_eq_emod_of_nonneg (a := x / 4) (by omega), wrapi (n := x % 4 + 1) (by omega) (by omega), wrapi (by omega) (by omega), Int.tmod_eq_emod_of_nonneg (by omega)]
    omega
theorem bar0 : numB (some 0) = false := by
  unfold numB
  have : ford .f64 (some 0) (some 4336966441157787648) = some .lt := by kernel_rfl
  rw [this]; rfl

section
variable (kx0 : Int → Nat → Nat → Ge → Nat → Nat → Ge → Nat → Nat → Ge → Nat → Nat → Ge → List AV → List (List AV) → List AV → List (List AV) → List AV → List (List AV) → List AV → List (List AV) → Option AV)
  (N : Int) (a1 a2 : Nat) (a3 : Ge) (b1 b2 : Nat) (b3 : Ge) (c1 c2 : Nat) (c3' : Ge) (d1 d2 : Nat) (d3 : Ge) (z3 : List AV) (e3 : List (List AV)) (z4 : List AV) (e4 : List (List AV)) (z5 : List AV) (e5 : List (List AV)) (z6 : List AV) (hC : IntsG c1 c3') (hD : FltsG d1 d3)
include hC hD
theorem pl_step (n : Int) (hn : n = 2 ∨ n = 3 ∨ n = 4) (i : Nat) (hi : i < c1) (hi6 : i < 6) (kn : Int → List (List AV) → Option AV) (acc : List (List AV)) (hacc : acc.length = i) :
    ∃ r, MOk n r ∧ gmade_Sketch_Plan_l2_step kkit_Pick kmade_name kmade_part kmade_number NN kn kx0 n N a1 a2 a3 b1 b2 b3 c1 c2 c3' d1 d2 d3 z3 e3 z4 e4 z5 e5 z6 i acc = kn ((i + 1 : Nat) : Int) (acc ++ [mrow i r]) := by
  obtain ⟨v, hv⟩ := hC i hi
  have hw : IntKind.i64.wrap (IntKind.i64.wrap (16 * n) * IntKind.i64.wrap (n - 1)) = 16 * n * (n - 1) ∧ 1 ≤ 16 * n * (n - 1) ∧ 16 * n * (n - 1) < 1000 := by
    rcases hn with rfl | rfl | rfl <;> decide
  obtain ⟨x, px, x0, x1⟩ := pick_sp v (n := 16 * n * (n - 1)) (by omega) (by omega)
  obtain ⟨w1, q1, n1, l1⟩ := number_sp (r := d2) hD (k := 3 * (i : Int)) (by omega)
  obtain ⟨w2, q2, n2, l2⟩ := number_sp (r := d2) hD (k := 3 * (i : Int) + 1) (by omega)
  obtain ⟨w3, q3, n3, l3⟩ := number_sp (r := d2) hD (k := 3 * (i : Int) + 2) (by omega)
  obtain ⟨A0, A1, B0, B1, AB⟩ := ends_sp hn x0 (by omega)
  have hnm := name_sp 109 i
  have f64' : ∀ n, fitK (LK.i .i64) (.int .i64 n) = true := fun _ => rfl
  have t1 : ∀ b : Bool, (bif b then true else true) = true := fun b => by cases b <;> rfl
  unfold gmade_Sketch_Plan_l2_step
  rw [decide_eq_true (show (i : Int) < (c1 : Int) by omega), decide_eq_true (show (i : Int) < 6 by omega), decide_eq_true (show (0 : Int) ≤ i by omega), cond_true, cond_true, ck_true, ck_true, Int.toNat_natCast, hv, f64', ck_true, hw.1, tI, px, okI, ck_true, gV, tI, hnm, okS1, ck_true, gV, tS, decide_eq_false (show ¬ n = 0 by omega), Bool.not_false, ck_true,
    wrapi (n := 3 * (i : Int)) (by omega) (by omega), wrapi (n := 3 * (i : Int) + 1) (by omega) (by omega), wrapi (n := 3 * (i : Int) + 2) (by omega) (by omega), q1, okF, ck_true, q2, okF, ck_true, ck_true, decide_eq_false (show ¬ IntKind.i64.wrap (n - 1) = 0 by rw [wrapi (by omega) (by omega)]; omega), Bool.not_false, ck_true, ck_true, ck_true, gV, tF, gV, tF, hacc, decide_eq_true (show (i + 1) * 72 < 70368744177664 by omega), decide_eq_true (show i + 1 < 4611686018427387904 by omega), wrap_s (by omega)]
  generalize IntKind.i64.wrap ((IntKind.i64.wrap (x.tdiv n)).tdiv (IntKind.i64.wrap (n - 1))) = Y
  by_cases hY : Y ≥ 4
  · rw [decide_eq_true hY, cond_true, q3, okF, ck_true, t1, ck_true, t1, ck_true, ck_true, ck_true, gV, tF]
    exact ⟨⟨2, _, _, _, _, w1, w2, w3⟩, ⟨A0, A1, B0, B1, AB, ⟨n1, l1⟩, ⟨n2, l2⟩, Or.inr ⟨rfl, n3, l3⟩⟩, rfl⟩
  · rw [decide_eq_false hY, cond_false, ck_true, ck_true]
    exact ⟨⟨1, _, _, false, false, w1, w2, 0⟩, ⟨A0, A1, B0, B1, AB, ⟨n1, l1⟩, ⟨n2, l2⟩, Or.inl ⟨rfl, rfl, rfl, rfl⟩⟩, rfl⟩

theorem pl_members (n : Int) (hn : n = 2 ∨ n = 3 ∨ n = 4) : ∀ (m q i : Nat) (V : Nat → MRec), i + m = 6 → (∀ k, k < i → MOk n (V k)) → ∃ V' c, c ≤ 6 ∧ (∀ k, k < c → MOk n (V' k)) ∧
    gmade_Sketch_Plan_l2 kkit_Pick kmade_name kmade_part kmade_number NN kx0 n N a1 a2 a3 b1 b2 b3 c1 c2 c3' d1 d2 d3 z3 e3 z4 e4 z5 e5 z6 (q + m + 1) i (ml V i) =
      kx0 N a1 a2 a3 b1 b2 b3 c1 c2 c3' d1 d2 d3 z3 e3 z4 e4 z5 e5 z6 (ml V' c) := by
  intro m
  induction m with
  | zero =>
    intro q i V h hV
    refine ⟨V, i, by omega, hV, ?_⟩
    show gmade_Sketch_Plan_l2_step kkit_Pick kmade_name kmade_part kmade_number NN _ kx0 n N a1 a2 a3 b1 b2 b3 c1 c2 c3' d1 d2 d3 z3 e3 z4 e4 z5 e5 z6 i (ml V i) = _
    unfold gmade_Sketch_Plan_l2_step
    rw [decide_eq_false (show ¬ (i : Int) < 6 by omega)]
    cases decide ((i : Int) < (c1 : Int)) <;> rfl
  | succ m IH =>
    intro q i V h hV
    by_cases hi : i < c1
    · obtain ⟨r, hr, he⟩ := pl_step kx0 N a1 a2 a3 b1 b2 b3 c1 c2 c3' d1 d2 d3 z3 e3 z4 e4 z5 e5 z6 hC hD n hn i hi (by omega) (gmade_Sketch_Plan_l2 kkit_Pick kmade_name kmade_part kmade_number NN kx0 n N a1 a2 a3 b1 b2 b3 c1 c2 c3' d1 d2 d3 z3 e3 z4 e4 z5 e5 z6 (q + m + 1)) (ml V i) (ml_len V i)
      obtain ⟨V', c, hc, hV', ih⟩ := IH q (i + 1) (fun k => if k = i then r else V k) (by omega) (fun k hk => by
        by_cases e : k = i
        · simp only [e, if_true]; exact hr
        · simp only [e, if_false]; exact hV k (by omega))
      rw [ml_succ] at he
      exact ⟨V', c, hc, hV', he.trans ih⟩
    · refine ⟨V, i, by omega, hV, ?_⟩
      show gmade_Sketch_Plan_l2_step kkit_Pick kmade_name kmade_part kmade_number NN _ kx0 n N a1 a2 a3 b1 b2 b3 c1 c2 c3' d1 d2 d3 z3 e3 z4 e4 z5 e5 z6 i (ml V i) = _
      unfold gmade_Sketch_Plan_l2_step
      rw [decide_eq_false (show ¬ (i : Int) < (c1 : Int) by omega)]
      rfl
end
end Go.Proofs.Tryz
end
section
/- Plans made of sketches are plans that may be. -/
namespace Go.Proofs.Tryz
open Go Go.Am Ieee.Pos
set_option maxRecDepth 100000
set_option linter.unusedVariables false
set_option linter.unusedSimpArgs false

def BS : Nat := 140737488355328
theorem spJn : Sp28 kjoints_named BS := ⟨fun s h => name28 NN s (by unfold BS at h; unfold NN; omega)⟩
theorem spNear : Sp29 kjoints_near := ⟨fun r a b g h0 h1 => by
  show gjoints_near NN 2 r g = _
  have e : NN = 1125899906842621 + 3 := by unfold NN; omega
  rw [e]
  exact near_spec _ r a b g h0 h1⟩
theorem spBn : Sp28 kbars_named BS := ⟨fun s h => name30 NN s (by unfold BS at h; unfold NN; omega) (by unfold BS at h; omega)⟩
theorem spNum : SpN kbars_number := ⟨fun _ => rfl⟩

/-- A plan that may be, small. -/
structure Good (J : JS) (M : MS) : Prop where
  n16 : J.n ≤ 16
  m48 : M.n ≤ 48
  jnm : ∀ i, i < J.n → nameB (J.nm i) = true ∧ (J.nm i).size ≤ BS
  jds : ∀ i, i < J.n → ∀ k, k < i → strEq (J.nm i) (J.nm k) = false
  near : ∀ i, i < J.n → farB (J.x i) = false ∧ farB (J.y i) = false
  pts : ∀ i, i < J.n → ∀ k, k < i → ¬ (J.x i = J.x k ∧ J.y i = J.y k)
  fx : ∀ i, i < J.n → J.fx i ≤ 7
  mnm : ∀ i, i < M.n → nameB (M.nm i) = true ∧ (M.nm i).size ≤ BS
  mds : ∀ i, i < M.n → ∀ k, k < i → strEq (M.nm k) (M.nm i) = false
  ends : ∀ i, i < M.n → 0 ≤ M.a i ∧ M.a i < J.n ∧ 0 ≤ M.b i ∧ M.b i < J.n ∧ M.a i ≠ M.b i
  e : ∀ i, i < M.n → numB (some (M.e i)) = true ∧ M.e i < 18446744073709551616
  ar : ∀ i, i < M.n → numB (some (M.ar i)) = true ∧ M.ar i < 18446744073709551616
  k : ∀ i, i < M.n → (M.kd i = 1 ∧ M.ha i = false ∧ M.hb i = false ∧ M.iv i = 0) ∨ (M.kd i = 2 ∧ numB (some (M.iv i)) = true ∧ M.iv i < 18446744073709551616)

theorem anyLt_none {p : Nat → Bool} : ∀ {n : Nat}, (∀ k, k < n → p k = false) → anyLt p n = false
  | 0, _ => rfl
  | n + 1, h => by
    simp only [anyLt, h n (by omega), Bool.or_false]
    exact anyLt_none (fun k hk => h k (by omega))
theorem anyFrom_none {p : Nat → Bool} : ∀ {r k : Nat}, (∀ l, k ≤ l → l < k + r → p l = false) → anyFrom p r k = false
  | 0, _, _ => rfl
  | r + 1, k, h => by
    simp only [anyFrom, h k (by omega) (by omega), Bool.false_or]
    exact anyFrom_none (fun l h1 h2 => h l (by omega) (by omega))
theorem first_of {p : Nat → Bool} : ∀ {r i : Nat}, (∀ k, i ≤ k → k < i + r → p k = false) → first p r i = none
  | 0, _, _ => rfl
  | r + 1, i, h => by
    simp only [first, h i (by omega) (by omega), cond_false]
    exact first_of (fun k h1 h2 => h k (by omega) (by omega))

theorem Good.may {J : JS} {M : MS} (h : Good J M) {i : Nat} (hi : i < M.n) : M.may J.n i = true := by
  obtain ⟨a0, a1, b0, b1, ab⟩ := h.ends i hi
  have hd : anyFrom (fun k => strEq (M.nm k) (M.nm i)) i 0 = false := anyFrom_none (fun l _ hl => h.mds i hi l (by omega))
  have hab : (M.a i == M.b i) = false := by simpa using ab
  have hcore : M.core J.n i = true := by
    unfold MS.core
    rw [(h.mnm i hi).1, decide_eq_false (show ¬ M.a i < 0 by omega), decide_eq_false (show ¬ M.a i ≥ (J.n : Int) by omega), decide_eq_false (show ¬ M.b i < 0 by omega), decide_eq_false (show ¬ M.b i ≥ (J.n : Int) by omega), hab, (h.e i hi).1, (h.ar i hi).1]
    rfl
  unfold MS.may
  rw [hd, hcore]
  rcases h.k i hi with ⟨k1, k2, k3, k4⟩ | ⟨k1, k2, _⟩
  · rw [k1, k2, k3, k4]; rfl
  · rw [k1, k2]; rfl
theorem Good.bad {J : JS} {M : MS} (h : Good J M) {i : Nat} (hi : i < J.n) : J.bad i = false := by
  have h1 : anyLt (fun k => strEq (J.nm i) (J.nm k)) i = false := anyLt_none (fun k hk => h.jds i hi k hk)
  have h2 : anyLt (fun k => J.x i == J.x k && J.y i == J.y k) i = false := anyLt_none (fun k hk => by
    have := h.pts i hi k hk
    cases hx : J.x i == J.x k
    · rfl
    · cases hy : J.y i == J.y k
      · rfl
      · exact absurd ⟨by simpa using hx, by simpa using hy⟩ this)
  have := h.fx i hi
  unfold JS.bad
  rw [h1, h2, (h.jnm i hi).1, (h.near i hi).1, (h.near i hi).2, decide_eq_false (by omega)]
  rfl
theorem Good.check {J : JS} {M : MS} (h : Good J M) : planCheck J M = (0, 0) := by
  have h1 : first J.bad J.n 0 = none := first_of (fun k _ hk => h.bad (by omega))
  have h2 : first (fun i => !M.may J.n i) M.n 0 = none := first_of (fun k _ hk => by rw [h.may (by omega)]; rfl)
  have hn := h.n16
  have hm := h.m48
  have hc : J.check = (0, 0) := by
    unfold JS.check
    rw [decide_eq_false (show ¬ J.n > 16 by omega), h1]; rfl
  unfold planCheck
  rw [hc, decide_eq_false (show ¬ M.n > 48 by omega), h2]; rfl
theorem Good.mem {J : JS} {M : MS} (h : Good J M) : ∀ i, i < M.n → MemF J M i := by
  have hc := h.check
  exact (planCheck_mem (by rw [hc]; rfl) (fun i hi => (h.e i hi).2) (fun i hi => (h.ar i hi).2) (fun i hi => by
    rcases h.k i hi with ⟨_, _, _, k4⟩ | ⟨_, _, k3⟩
    · rw [k4]; omega
    · exact k3)).2

theorem Good.springs {J : JS} {M : MS} (h : Good J M) (jr r : Nat) (hr : M.n ≤ r) (jg g : Ge) (hj : J.Ok jg) (hm : M.Ok g) :
    kbars_Springs_a [.agg [.ro 4 J.n jr jg, .ro 9 M.n r g]] = some (.tup [.ro 11 (allO J M M.n).length (allO J M M.n).length fun i j => ((allO J M M.n).getD i []).getD j .dead, .int .i64 0]) := by
  have hn := h.n16
  have hmn := h.m48
  have hck : kbars_Check [.agg [.ro 4 J.n jr jg, .ro 9 M.n r g]] = some (pair (planCheck J M)) := by
    refine check5 (M14 := kjoints_Check) (M15 := kbars_may) J M jr r jg g ?_ (fun i hi => ?_) (by omega) NN (by unfold NN; omega)
    · exact check14 spJn spNear J NN (by unfold NN; omega) (by omega) jr jg hj (fun i hi => (h.jnm i hi).2)
    · exact may15 M spBn spNum (by omega) NN (by unfold NN; omega) J.n jr jg r hr g hm i hi (h.mnm i hi).2
  show gbars_Springs_a kbars_Check kbars_springs_a NN J.n jr jg M.n r g = _
  unfold gbars_Springs_a
  rw [hck, h.check]
  dsimp only
  rw [okM_p, ck_true, getP1]
  have e := fun kx0 => sp_all (jr := jr) (mr := r) hj hm h.mem hmn kx0 [AV.int .i64 (0 : Int), AV.int .u8 (0 : Int), AV.int .i64 (0 : Int), AV.int .i64 (0 : Int), AV.int .i64 (0 : Int), AV.int .i64 (0 : Int), AV.int .i64 (0 : Int), AV.int .i64 (0 : Int), AV.flt .f64 (some (0 : Nat)), AV.flt .f64 (some (0 : Nat)), AV.flt .f64 (some (0 : Nat))] M.n (NN - M.n - 1) 0 (by omega)
  rw [show NN - M.n - 1 + M.n + 1 = NN by unfold NN; omega] at e
  exact e _

/-- The plan that a sketch makes. -/
noncomputable def jsS (X Y Fx : Nat → Int) (n : Nat) : JS := ⟨n, fun i => nmO 106 i, X, Y, Fx⟩
noncomputable def msS (V : Nat → MRec) (c : Nat) : MS := ⟨c, fun i => nmO 109 i, fun i => (V i).kd, fun i => (V i).a, fun i => (V i).b, fun i => (V i).ha, fun i => (V i).hb, fun i => (V i).e, fun i => (V i).ar, fun i => (V i).iv⟩
theorem jsS_ok (X Y Fx : Nat → Int) (n : Nat) (z : List AV) : (jsS X Y Fx n).Ok fun i j => ((jl X Y Fx n).getD i z).getD j .dead := by
  intro i hi
  have hi' : i < n := hi
  have e := jl_get X Y Fx hi' z
  refine ⟨?_, ?_, ?_, ?_⟩ <;> show ((jl X Y Fx n).getD i z).getD _ .dead = _ <;> rw [e] <;> rfl
theorem msS_ok (V : Nat → MRec) (c : Nat) (z : List AV) : (msS V c).Ok fun i j => ((ml V c).getD i z).getD j .dead := by
  intro i hi
  have hi' : i < c := hi
  have e := ml_get V hi' z
  refine ⟨?_, ?_, ?_, ?_, ?_, ?_, ?_, ?_, ?_⟩ <;> show ((ml V c).getD i z).getD _ .dead = _ <;> rw [e] <;> rfl
/-- Where joints stand: apart from each other, near; moved by the same. -/
structure JGood (X Y Fx : Nat → Int) (n : Nat) : Prop where
  near : ∀ i, i < n → farB (X i) = false ∧ farB (Y i) = false
  pts : ∀ i, i < n → ∀ k, k < i → ¬ (X i = X k ∧ Y i = Y k)
  fx : ∀ i, i < n → Fx i ≤ 7
theorem good_of {X Y Fx : Nat → Int} {n : Nat} (hn : n < 6) (h : JGood X Y Fx n) {V : Nat → MRec} {c : Nat} (hc : c ≤ 6) (hV : ∀ k, k < c → MOk n (V k)) : Good (jsS X Y Fx n) (msS V c) := by
  have hj := fun i (hi : i < n) => nm_ok (Or.inl rfl : (106 : Int) = 106 ∨ (106 : Int) = 109) (show i < 6 by omega)
  have hm := fun i (hi : i < c) => nm_ok (Or.inr rfl : (109 : Int) = 106 ∨ (109 : Int) = 109) (show i < 6 by omega)
  refine ⟨by show n ≤ 16; omega, by show c ≤ 48; omega, fun i hi => ⟨(hj i hi).1, ?_⟩, fun i hi k hk => ?_, h.near, h.pts, h.fx, fun i hi => ⟨(hm i hi).1, ?_⟩, fun i hi k hk => ?_, fun i hi => ?_, fun i hi => (hV i hi).e, fun i hi => (hV i hi).ar, fun i hi => (hV i hi).k⟩
  · show (nmO 106 i).size ≤ BS
    rw [(hj i hi).2]; unfold BS; omega
  · have hi' : i < n := hi
    exact nm_ne (Or.inl rfl) (by omega) (by omega) (by omega)
  · show (nmO 109 i).size ≤ BS
    rw [(hm i hi).2]; unfold BS; omega
  · have hi' : i < c := hi
    exact nm_ne (Or.inr rfl) (by omega) (by omega) (by omega)
  · exact ⟨(hV i hi).a0, (hV i hi).a1, (hV i hi).b0, (hV i hi).b1, (hV i hi).ab⟩
theorem far_of {a : Int} (h1 : -1048576 ≤ a) (h2 : a ≤ 1048576) : farB a = false := by
  unfold farB
  rw [decide_eq_false (by omega), decide_eq_false (by omega)]; rfl
theorem JInv.good {X Y Fx : Nat → Int} {n : Nat} (h : JInv X Y Fx n) (hn : n < 6) {DX DY : Int} (d1 : -524288 ≤ DX ∧ DX < 524288) (d2 : -524288 ≤ DY ∧ DY < 524288) : JGood (fun i => X i + DX) (fun i => Y i + DY) Fx n := by
  refine ⟨fun i hi => ?_, fun i hi k hk => ?_, fun i hi => (h.f i hi).2⟩
  · have := h.x i hi
    have := h.y i hi
    exact ⟨far_of (by omega) (by omega), far_of (by omega) (by omega)⟩
  · have := h.d i hi k hk
    omega

def zJ4 : List AV := [AV.str { data := #[] }, AV.int .i32 0, AV.int .i32 0, AV.int .u8 0]
def zM9 : List AV := [AV.str { data := #[] }, AV.int .u8 0, AV.int .i64 0, AV.int .i64 0, AV.bool false, AV.bool false, AV.flt .f64 (some 0), AV.flt .f64 (some 0), AV.flt .f64 (some 0)]
theorem plan_sp (N : Int) {a1 a2 : Nat} {a3 : Ge} {b1 b2 : Nat} {b3 : Ge} {c1 c2 : Nat} {c3' : Ge} {d1 d2 : Nat} {d3 : Ge} (hA : IntsG a1 a3) (hB : IntsG b1 b3) (hC : IntsG c1 c3') (hD : FltsG d1 d3) :
    ∃ (n : Nat) (X Y Fx : Nat → Int) (V : Nat → MRec) (c : Nat), n < 6 ∧ JInv X Y Fx n ∧ c ≤ 6 ∧ (∀ k, k < c → MOk n (V k)) ∧
      kmade_Sketch_Plan [.agg [.int .i64 N, .ro 1 a1 a2 a3, .ro 1 b1 b2 b3, .ro 1 c1 c2 c3', .ro 1 d1 d2 d3]] =
        some (.agg [.ro 4 n n fun i j => ((jl X Y Fx n).getD i zJ4).getD j .dead, .ro 9 c c fun i j => ((ml V c).getD i zM9).getD j .dead]) := by
  obtain ⟨t, pt, t0, t1⟩ := pick_sp N (n := 3) (by omega) (by omega)
  obtain ⟨n, hn⟩ : ∃ n : Nat, 2 + t = n := ⟨(2 + t).toNat, by omega⟩
  show ∃ (n : Nat) (X Y Fx : Nat → Int) (V : Nat → MRec) (c : Nat), n < 6 ∧ JInv X Y Fx n ∧ c ≤ 6 ∧ (∀ k, k < c → MOk n (V k)) ∧ gmade_Sketch_Plan kkit_Pick kmade_name kmade_part kmade_number NN N a1 a2 a3 b1 b2 b3 c1 c2 c3' d1 d2 d3 = _
  unfold gmade_Sketch_Plan
  rw [pt, okI, ck_true, gV, tI, wrapi (n := 2 + t) (by omega) (by omega), hn]
  have hJ := fun kx0 => pl_joints kx0 N a1 a2 a3 b1 b2 b3 c1 c2 c3' d1 d2 d3 zJ4 [] zM9 [] zJ4 zM9 [] hA hB n (by omega) n (NN - n - 1) 0 (fun _ => 0) (fun _ => 0) (fun _ => 0) (by omega) ⟨fun k hk => by omega, fun k hk => by omega, fun k hk => by omega, fun k hk => by omega⟩
  rw [show NN - n - 1 + n + 1 = NN by unfold NN; omega] at hJ
  obtain ⟨X, Y, Fx, hI, he⟩ := hJ _
  have hM := fun kx0 => pl_members kx0 N a1 a2 a3 b1 b2 b3 c1 c2 c3' d1 d2 d3 zJ4 [] zM9 [] zJ4 (jl X Y Fx n) zM9 hC hD (n : Int) (by omega) 6 (NN - 6 - 1) 0 (fun _ => ⟨0, 0, 0, false, false, 0, 0, 0⟩) (by omega) (fun k hk => by omega)
  rw [show NN - 6 - 1 + 6 + 1 = NN by unfold NN; omega] at hM
  obtain ⟨V, c, hc, hV, hm⟩ := hM _
  refine ⟨n, X, Y, Fx, V, c, by omega, hI, hc, hV, (he.trans hm).trans ?_⟩
  simp only [jl_len, ml_len]
end Go.Proofs.Tryz
end
section
/- Members turned about: the rows of their springs. -/
namespace Go.Proofs.Tryz
open Go Go.Am Ieee.Pos
set_option maxRecDepth 100000
set_option linter.unusedVariables false
set_option linter.unusedSimpArgs false

theorem rows_row {L : List (List AV)} (h : ∀ x ∈ L, SprRow x) (z : List AV) : rows 11 L.length (fun i j => (L.getD i z).getD j .dead) = L := by
  unfold rows
  apply List.ext_getElem?
  intro i
  by_cases hi : i < L.length
  · obtain ⟨a, b, c, d, e, f, u, v, p, q, r, hr⟩ := h (L[i]'hi) (List.getElem_mem hi)
    have hd : L.getD i z = L[i]'hi := by simp [List.getD, hi]
    rw [List.getElem?_map, List.getElem?_range hi, Option.map_some, List.getElem?_eq_getElem hi]
    simp only [hd, hr]
    rfl
  · rw [List.getElem?_eq_none (by simp; omega), List.getElem?_eq_none (by omega)]
theorem mask_row {L : List (List AV)} (h : ∀ x ∈ L, SprRow x) : List.map (List.map fun (v : AV) => bif scal v then v else AV.dead) L = L := by
  have : ∀ x ∈ L, (List.map fun (v : AV) => bif scal v then v else AV.dead) x = x := fun x hx => by
    obtain ⟨a, b, c, d, e, f, u, v, p, q, r, rfl⟩ := h x hx
    rfl
  rw [List.map_congr_left this]
  exact List.map_id' L

theorem allO_congr {J J' : JS} {M M' : MS} (h : ∀ i at', sprO J M i at' = sprO J' M' i at') : ∀ n, allO J M n = allO J' M' n
  | 0 => rfl
  | n + 1 => by simp only [allO, h, allO_congr h n]
theorem shift_all (X Y Fx : Nat → Int) (DX DY : Int) (n : Nat) (M : MS) (k : Nat) : allO (jsS (fun i => X i + DX) (fun i => Y i + DY) Fx n) M k = allO (jsS X Y Fx n) M k := by
  refine allO_congr (fun i at' => ?_) k
  have e1 : dxO (jsS (fun i => X i + DX) (fun i => Y i + DY) Fx n) M i = dxO (jsS X Y Fx n) M i := by unfold dxO; show X _ + DX - (X _ + DX) = X _ - X _; omega
  have e2 : dyO (jsS (fun i => X i + DX) (fun i => Y i + DY) Fx n) M i = dyO (jsS X Y Fx n) M i := by unfold dyO; show Y _ + DY - (Y _ + DY) = Y _ - Y _; omega
  unfold sprO nO
  rw [e1, e2]

def turn (r : MRec) : MRec := ⟨r.kd, r.b, r.a, r.hb, r.ha, r.e, r.ar, r.iv⟩
theorem turn_ok {n : Int} {r : MRec} (h : MOk n r) : MOk n (turn r) := by
  refine ⟨h.b0, h.b1, h.a0, h.a1, fun e => h.ab e.symm, h.e, h.ar, ?_⟩
  rcases h.k with ⟨k1, k2, k3, k4⟩ | hk
  · exact Or.inl ⟨k1, k3, k2, k4⟩
  · exact Or.inr hk
def turnAt (V : Nat → MRec) (k : Nat) (i : Nat) : MRec := if i = k then turn (V k) else V i

/-- How a spring of a plan, of which member k is turned about, stands to the spring of the plan. -/
def TRow (k : Nat) (t l : List AV) : Prop := ∃ a b c d e f g h a' b' c' d' e' f' : Int, ∃ p q r : Nat,
  l = [.int .i64 a, .int .u8 b, .int .i64 c, .int .i64 d, .int .i64 e, .int .i64 f, .int .i64 g, .int .i64 h, F p, F q, F r] ∧
  t = [.int .i64 a, .int .u8 b, .int .i64 a', .int .i64 b', .int .i64 c', .int .i64 d', .int .i64 e', .int .i64 f', F p, F q, F r] ∧
  (a ≠ k → c = a' ∧ d = b' ∧ e = c' ∧ f = d' ∧ g = e' ∧ h = f') ∧
  (a = k → (b = 3 → c = 0 ∧ d = 0 ∧ e = IntKind.i64.wrap (0 - f') ∧ f = 0 ∧ g = 0 ∧ h = IntKind.i64.wrap (0 - c')) ∧ (b ≠ 3 → c = d' ∧ d = e' ∧ e = f' ∧ f = a' ∧ g = b' ∧ h = c'))
theorem TRow.same {k : Nat} {l : List AV} (h : SprRow l) (hk : ∀ a, l.getD 0 .dead = .int .i64 a → a ≠ k) : TRow k l l := by
  obtain ⟨a, b, c, d, e, f, g, h, p, q, r, rfl⟩ := h
  exact ⟨a, b, c, d, e, f, g, h, c, d, e, f, g, h, p, q, r, rfl, rfl, fun _ => ⟨rfl, rfl, rfl, rfl, rfl, rfl⟩, fun e => absurd e (hk a rfl)⟩

theorem ksOf_turn (kd : Int) (ha hb : Bool) : ksOf kd hb ha = ksOf kd ha hb := by
  unfold ksOf
  cases kd == 1 <;> cases ha <;> cases hb <;> rfl

/-- A spring of the member that is turned. -/
theorem TRow.turn {k : Nat} {dx dy n : Int} (hx : -3000000 ≤ dx ∧ dx ≤ 3000000) (hy : -3000000 ≤ dy ∧ dy ≤ 3000000) {E A I : Nat} {kd : Int} {ha hb : Bool} {kk : Int} (hk : kk ∈ ksOf kd ha hb) (hkd : kd = 1 ∨ kd = 2) {w : Nat} (hw : stN E A I (xw n) kk = some w) :
    TRow k (spr k (-dx) (-dy) n E A I hb kk) (spr k dx dy n E A I ha kk) := by
  unfold spr
  rw [hw]
  have e1 : IntKind.i64.wrap (0 - dx) = -dx := by rw [wrapi (by omega) (by omega)]; omega
  have e2 : IntKind.i64.wrap (0 - dy) = -dy := by rw [wrapi (by omega) (by omega)]; omega
  have e3 : IntKind.i64.wrap (0 - -dx) = dx := by rw [wrapi (by omega) (by omega)]; omega
  have e4 : IntKind.i64.wrap (0 - -dy) = dy := by rw [wrapi (by omega) (by omega)]; omega
  have cases' : kk = 1 ∨ kk = 2 ∨ kk = 3 ∨ (kk = 4 ∧ ha = !hb) := by
    unfold ksOf at hk
    cases h1 : kd == 1 <;> cases ha <;> cases hb <;> rw [h1] at hk
    all_goals first
      | (have : kk ∈ [(1 : Int)] := hk
         simp at this; omega)
      | (have : kk ∈ [(1 : Int), 4] := hk
         simp at this
         rcases this with h | h
         · exact Or.inl h
         · exact Or.inr (Or.inr (Or.inr ⟨h, rfl⟩)))
      | (have : kk ∈ [(1 : Int), 2, 3] := hk
         simp at this; omega)
  rcases cases' with rfl | rfl | rfl | ⟨rfl, hab⟩
  · refine ⟨k, 1, IntKind.i64.wrap (0 - dx), IntKind.i64.wrap (0 - dy), 0, dx, dy, 0, IntKind.i64.wrap (0 - -dx), IntKind.i64.wrap (0 - -dy), 0, -dx, -dy, 0, _, _, w, rfl, rfl, fun h => absurd rfl h, fun _ => ⟨fun h => by omega, fun _ => ⟨e1, e2, rfl, e3.symm, e4.symm, rfl⟩⟩⟩
  · refine ⟨k, 2, IntKind.i64.wrap (-2 * dy), IntKind.i64.wrap (2 * dx), n, IntKind.i64.wrap (2 * dy), IntKind.i64.wrap (-2 * dx), n, IntKind.i64.wrap (-2 * -dy), IntKind.i64.wrap (2 * -dx), n, IntKind.i64.wrap (2 * -dy), IntKind.i64.wrap (-2 * -dx), n, _, _, w, rfl, rfl, fun h => absurd rfl h, fun _ => ⟨fun h => by omega, fun _ => ⟨?_, ?_, rfl, ?_, ?_, rfl⟩⟩⟩ <;> congr 1 <;> omega
  · refine ⟨k, 3, 0, 0, 1, 0, 0, -1, 0, 0, 1, 0, 0, -1, _, _, w, rfl, rfl, fun h => absurd rfl h, fun _ => ⟨fun _ => ⟨rfl, rfl, rfl, rfl, rfl, rfl⟩, fun h => absurd rfl h⟩⟩
  · cases hb
    · have : ha = true := hab
      subst this
      refine ⟨k, 4, IntKind.i64.wrap (0 - dy), dx, 0, dy, IntKind.i64.wrap (0 - dx), n, IntKind.i64.wrap (0 - -dy), -dx, n, -dy, IntKind.i64.wrap (0 - -dx), 0, _, _, w, rfl, rfl, fun h => absurd rfl h, fun _ => ⟨fun h => by omega, fun _ => ⟨e2, e3.symm, rfl, e4.symm, e1, rfl⟩⟩⟩
    · have : ha = false := hab
      subst this
      refine ⟨k, 4, IntKind.i64.wrap (0 - dy), dx, n, dy, IntKind.i64.wrap (0 - dx), 0, IntKind.i64.wrap (0 - -dy), -dx, 0, -dy, IntKind.i64.wrap (0 - -dx), n, _, _, w, rfl, rfl, fun h => absurd rfl h, fun _ => ⟨fun h => by omega, fun _ => ⟨e2, e3.symm, rfl, e4.symm, e1, rfl⟩⟩⟩

/-- Two rows of springs, one by one. -/
def TAll (k : Nat) (T L : List (List AV)) : Prop := T.length = L.length ∧ ∀ i z, i < L.length → TRow k (T.getD i z) (L.getD i z)
theorem TAll.append {k : Nat} {T L T' L' : List (List AV)} (h : TAll k T L) (h' : TAll k T' L') : TAll k (T ++ T') (L ++ L') := by
  refine ⟨by rw [List.length_append, List.length_append, h.1, h'.1], fun i z hi => ?_⟩
  by_cases hl : i < L.length
  · have e1 : (T ++ T').getD i z = T.getD i z := by simp only [List.getD]; rw [List.getElem?_append_left (by rw [h.1]; exact hl)]
    have e2 : (L ++ L').getD i z = L.getD i z := by simp only [List.getD]; rw [List.getElem?_append_left hl]
    rw [e1, e2]; exact h.2 i z hl
  · have e1 : (T ++ T').getD i z = T'.getD (i - L.length) z := by simp only [List.getD]; rw [List.getElem?_append_right (by rw [h.1]; omega), h.1]
    have e2 : (L ++ L').getD i z = L'.getD (i - L.length) z := by simp only [List.getD]; rw [List.getElem?_append_right (by omega)]
    rw [e1, e2]
    refine h'.2 _ z ?_
    rw [List.length_append] at hi
    omega
theorem TAll.map {k : Nat} {l : List Int} {f g : Int → List AV} (h : ∀ x ∈ l, TRow k (f x) (g x)) : TAll k (l.map f) (l.map g) := by
  refine ⟨by simp, fun i z hi => ?_⟩
  rw [List.length_map] at hi
  have e1 : (l.map f).getD i z = f (l[i]'hi) := by simp [List.getD, hi]
  have e2 : (l.map g).getD i z = g (l[i]'hi) := by simp [List.getD, hi]
  rw [e1, e2]
  exact h _ (List.getElem_mem hi)

theorem turned_all {X Y Fx : Nat → Int} {n : Nat} {V : Nat → MRec} {c k : Nat} (hG : Good (jsS X Y Fx n) (msS V c)) (hV : ∀ i, i < c → MOk n (V i)) (hk : k < c) : ∀ m, m ≤ c → TAll k (allO (jsS X Y Fx n) (msS (turnAt V k) c) m) (allO (jsS X Y Fx n) (msS V c) m)
  | 0, _ => ⟨rfl, fun i z hi => by simp [allO] at hi⟩
  | m + 1, hm => by
    simp only [allO]
    refine (turned_all hG hV hk m (by omega)).append ?_
    have hM := hG.mem m (by show m < c; omega)
    by_cases e : m = k
    · subst e
      have d1 : dxO (jsS X Y Fx n) (msS (turnAt V m) c) m = -dxO (jsS X Y Fx n) (msS V c) m := by
        unfold dxO
        show X (turnAt V m m).b.toNat - X (turnAt V m m).a.toNat = -(X (V m).b.toNat - X (V m).a.toNat)
        unfold turnAt turn
        simp only [if_true]
        omega
      have d2 : dyO (jsS X Y Fx n) (msS (turnAt V m) c) m = -dyO (jsS X Y Fx n) (msS V c) m := by
        unfold dyO
        show Y (turnAt V m m).b.toNat - Y (turnAt V m m).a.toNat = -(Y (V m).b.toNat - Y (V m).a.toNat)
        unfold turnAt turn
        simp only [if_true]
        omega
      have d3 : nO (jsS X Y Fx n) (msS (turnAt V m) c) m = nO (jsS X Y Fx n) (msS V c) m := by
        unfold nO
        rw [d1, d2, Int.neg_mul_neg, Int.neg_mul_neg]
      have tm : turnAt V m m = turn (V m) := by unfold turnAt; rw [if_pos rfl]
      unfold sprO
      rw [d1, d2, d3]
      have k1 : ksOf ((msS (turnAt V m) c).kd m) ((msS (turnAt V m) c).ha m) ((msS (turnAt V m) c).hb m) = ksOf ((msS V c).kd m) ((msS V c).ha m) ((msS V c).hb m) := by
        show ksOf (turnAt V m m).kd (turnAt V m m).ha (turnAt V m m).hb = ksOf (V m).kd (V m).ha (V m).hb
        rw [tm]
        exact ksOf_turn _ _ _
      rw [k1]
      have g1 : (msS (turnAt V m) c).e m = (V m).e := by show (turnAt V m m).e = _; rw [tm]; rfl
      have g2 : (msS (turnAt V m) c).ar m = (V m).ar := by show (turnAt V m m).ar = _; rw [tm]; rfl
      have g3 : (msS (turnAt V m) c).iv m = (V m).iv := by show (turnAt V m m).iv = _; rw [tm]; rfl
      have g4 : (msS (turnAt V m) c).ha m = (V m).hb := by show (turnAt V m m).ha = _; rw [tm]; rfl
      rw [g1, g2, g3, g4]
      have f1 := far_b hM.na
      have f2 := far_b hM.nb
      have f3 := far_b hM.nc
      have f4 := far_b hM.nd
      refine TAll.map (fun x hx => ?_)
      obtain ⟨w, hw⟩ := stN_some hM hx
      have hkd : (V m).kd = 1 ∨ (V m).kd = 2 := by
        rcases (hV m (by omega)).k with h | h
        · exact Or.inl h.1
        · exact Or.inr h.1
      have b1 : -3000000 ≤ dxO (jsS X Y Fx n) (msS V c) m ∧ dxO (jsS X Y Fx n) (msS V c) m ≤ 3000000 := by unfold dxO; omega
      have b2 : -3000000 ≤ dyO (jsS X Y Fx n) (msS V c) m ∧ dyO (jsS X Y Fx n) (msS V c) m ≤ 3000000 := by unfold dyO; omega
      exact TRow.turn b1 b2 hx hkd hw
    · have tm : turnAt V k m = V m := by unfold turnAt; rw [if_neg e]
      have hs : sprO (jsS X Y Fx n) (msS (turnAt V k) c) m m = sprO (jsS X Y Fx n) (msS V c) m m := by
        have d1 : dxO (jsS X Y Fx n) (msS (turnAt V k) c) m = dxO (jsS X Y Fx n) (msS V c) m := by
          unfold dxO
          show X (turnAt V k m).b.toNat - X (turnAt V k m).a.toNat = X (V m).b.toNat - X (V m).a.toNat
          rw [tm]
        have d2 : dyO (jsS X Y Fx n) (msS (turnAt V k) c) m = dyO (jsS X Y Fx n) (msS V c) m := by
          unfold dyO
          show Y (turnAt V k m).b.toNat - Y (turnAt V k m).a.toNat = Y (V m).b.toNat - Y (V m).a.toNat
          rw [tm]
        unfold sprO nO
        rw [d1, d2]
        show (ksOf (turnAt V k m).kd (turnAt V k m).ha (turnAt V k m).hb).map (spr m _ _ _ (turnAt V k m).e (turnAt V k m).ar (turnAt V k m).iv (turnAt V k m).ha) = _
        rw [tm]
        rfl
      rw [hs]
      unfold sprO
      refine TAll.map (fun x hx => TRow.same (spr_row hM hx _ _ _ _) (fun a ha => ?_))
      have : AV.int .i64 (m : Int) = .int .i64 a := ha
      injection this with _ h2
      omega
end Go.Proofs.Tryz
end
section
namespace Go.Proofs.Tryz
open Go Go.Am
set_option maxRecDepth 1000000
theorem awake9 : klaw19_awake [] = some (.bool true) := by kernel_rfl
end Go.Proofs.Tryz
end
section
/- Members turned about: the law's loops. -/
namespace Go.Proofs.Tryz
open Go Go.Am Ieee.Pos
set_option maxRecDepth 100000
set_option linter.unusedVariables false
set_option linter.unusedSimpArgs false

theorem set_get {α : Type} {l : List α} {k : Nat} (h : k < l.length) (a z : α) : (l.set k a).getD k z = a := by simp [List.getD, h]
theorem jl_set (X Y Fx : Nat → Int) {n k : Nat} (hk : k < n) (x y : Int) : (jl X Y Fx n).set k (jrow k x y (Fx k)) = jl (fun j => if j = k then x else X j) (fun j => if j = k then y else Y j) Fx n := by
  unfold jl
  apply List.ext_getElem?
  intro i
  rw [List.getElem?_set]
  by_cases hi : i < n
  · by_cases e : k = i
    · subst e
      simp [hi]
    · have e' : ¬ i = k := fun h => e h.symm
      simp [hi, e, e']
  · by_cases e : k = i
    · subst e; omega
    · simp [hi, e]
theorem jl_congr {X Y X' Y' Fx : Nat → Int} {n : Nat} (h : ∀ k, k < n → X k = X' k ∧ Y k = Y' k) : jl X Y Fx n = jl X' Y' Fx n := by
  unfold jl
  apply List.map_congr_left
  intro k hk
  obtain ⟨h1, h2⟩ := h k (List.mem_range.1 hk)
  rw [h1, h2]
theorem ml_set (V : Nat → MRec) {c k : Nat} (hk : k < c) : (ml V c).set k (mrow k (turn (V k))) = ml (turnAt V k) c := by
  unfold ml
  apply List.ext_getElem?
  intro i
  rw [List.getElem?_set]
  by_cases hi : i < c
  · by_cases e : k = i
    · subst e
      simp [hi, turnAt]
    · have e' : ¬ i = k := fun h => e h.symm
      simp [hi, e, e', turnAt]
  · by_cases e : k = i
    · subst e; omega
    · simp [hi, e]
theorem rows_jl (X Y Fx : Nat → Int) (n : Nat) (z : List AV) : rows 4 n (fun i j => ((jl X Y Fx n).getD i z).getD j .dead) = jl X Y Fx n := by
  unfold rows
  conv => rhs; unfold jl
  apply List.map_congr_left
  intro i hi
  have e := jl_get X Y Fx (List.mem_range.1 hi) z
  simp only [e]
  rfl
theorem rows_ml (V : Nat → MRec) (c : Nat) (z : List AV) : rows 9 c (fun i j => ((ml V c).getD i z).getD j .dead) = ml V c := by
  unfold rows
  conv => rhs; unfold ml
  apply List.map_congr_left
  intro i hi
  have e := ml_get V (List.mem_range.1 hi) z
  simp only [e]
  rfl
theorem copyJ (X Y Fx : Nat → Int) {n : Nat} (hn : n < 6) (z : List AV) : kkit_CopyJoints_a [.ro 4 n n fun i j => ((jl X Y Fx n).getD i z).getD j .dead] = some (.tup [.ro 4 n n fun i j => ((jl X Y Fx n).getD i []).getD j .dead]) := by
  show gkit_CopyJoints_a NN n n (fun i j => ((jl X Y Fx n).getD i z).getD j .dead) = _
  unfold gkit_CopyJoints_a
  rw [decide_eq_true (show n * 32 < 70368744177664 by omega), decide_eq_true (show n < 4611686018427387904 by omega), ck_true, ck_true, rows_jl, jl_len]
theorem copyM (V : Nat → MRec) {c : Nat} (hc : c ≤ 6) (z : List AV) : kkit_CopyMembers_a [.ro 9 c c fun i j => ((ml V c).getD i z).getD j .dead] = some (.tup [.ro 9 c c fun i j => ((ml V c).getD i []).getD j .dead]) := by
  show gkit_CopyMembers_a NN c c (fun i j => ((ml V c).getD i z).getD j .dead) = _
  unfold gkit_CopyMembers_a
  rw [decide_eq_true (show c * 72 < 70368744177664 by omega), decide_eq_true (show c < 4611686018427387904 by omega), ck_true, ck_true, rows_ml, ml_len]

section
variable (kx0 : Int → Int → Int → Nat → Nat → Ge → Nat → Nat → Ge → Nat → Nat → Ge → Nat → Nat → Ge → Nat → Nat → Ge → Nat → Nat → Ge → List AV → List (List AV) → List AV → List (List AV) → List AV → List (List AV) → Option AV)
  (wh dx dy er N : Int) (a1 a2 : Nat) (a3 : Ge) (b1 b2 : Nat) (b3 : Ge) (c1 c2 : Nat) (c3' : Ge) (d1 d2 : Nat) (d3 : Ge) (p1 p2 : Nat) (p3 : Ge) (q1 q2 : Nat) (q3 : Ge) (z2 : List AV) (e2 : List (List AV)) (z5 z6 : List AV) (e6 : List (List AV))
theorem shift_loop {X Y Fx : Nat → Int} {n : Nat} (hn : n < 6) (hI : JInv X Y Fx n) {DX DY : Int} (hx : kkit_Pick [.int .i64 dx, .int .i64 1048576] = some (.int .i64 (DX + 524288))) (hy : kkit_Pick [.int .i64 dy, .int .i64 1048576] = some (.int .i64 (DY + 524288)))
    (h1 : -524288 ≤ DX ∧ DX < 524288) (h2 : -524288 ≤ DY ∧ DY < 524288) : ∀ (m q k : Nat), k + m = n →
    glaw19_BarsTurned_l0 kmade_Sketch_Plan kkit_Pick kkit_SameSprings klaw19_awake kkit_SameSpring kbars_Springs_a kkit_CopyJoints_a kkit_CopyMembers_a NN kx0 wh dx dy er N a1 a2 a3 b1 b2 b3 c1 c2 c3' d1 d2 d3 p1 p2 p3 q1 q2 q3 z2 e2 z5 z6 e6 (q + m + 1) k
        (jl (fun j => if j < k then X j + DX else X j) (fun j => if j < k then Y j + DY else Y j) Fx n) =
      kx0 wh er N a1 a2 a3 b1 b2 b3 c1 c2 c3' d1 d2 d3 p1 p2 p3 q1 q2 q3 z2 e2 z5 (jl (fun i => X i + DX) (fun i => Y i + DY) Fx n) z6 e6
  | 0, q, k, h => by
    obtain rfl : k = n := by omega
    show glaw19_BarsTurned_l0_step kmade_Sketch_Plan kkit_Pick kkit_SameSprings klaw19_awake kkit_SameSpring kbars_Springs_a kkit_CopyJoints_a kkit_CopyMembers_a NN _ kx0 wh dx dy er N a1 a2 a3 b1 b2 b3 c1 c2 c3' d1 d2 d3 p1 p2 p3 q1 q2 q3 z2 e2 z5 z6 e6 k _ = _
    unfold glaw19_BarsTurned_l0_step
    rw [jl_len, decide_eq_false (by omega), cond_false, jl_congr (X := fun j => if j < k then X j + DX else X j) (Y := fun j => if j < k then Y j + DY else Y j) (X' := fun i => X i + DX) (Y' := fun i => Y i + DY) (fun j hj => by simp [hj])]
  | m + 1, q, k, h => by
    have hk : k < n := by omega
    have ih := shift_loop hn hI hx hy h1 h2 m q (k + 1) (by omega)
    have f32 : ∀ n, fitK (LK.i .i32) (.int .i32 n) = true := fun _ => rfl
    have g1 : ∀ k x y f, (jrow k x y f).getD 1 .dead = .int .i32 x := fun _ _ _ _ => rfl
    have g2 : ∀ k x y f, (jrow k x y f).getD 2 .dead = .int .i32 y := fun _ _ _ _ => rfl
    have s1 : ∀ k x y f v, splice (jrow k x y f) 1 [.int .i32 v] = jrow k v y f := fun _ _ _ _ _ => rfl
    have s2 : ∀ k x y f v, splice (jrow k x y f) 2 [.int .i32 v] = jrow k x v f := fun _ _ _ _ _ => rfl
    have gk : ∀ z, (jl (fun j => if j < k then X j + DX else X j) (fun j => if j < k then Y j + DY else Y j) Fx n).getD k z = jrow k (X k) (Y k) (Fx k) := fun z => by
      rw [jl_get _ _ _ hk]; simp
    have hl := jl_len (fun j => if j < k then X j + DX else X j) (fun j => if j < k then Y j + DY else Y j) Fx n
    have bx := hI.x k hk
    have by' := hI.y k hk
    show glaw19_BarsTurned_l0_step kmade_Sketch_Plan kkit_Pick kkit_SameSprings klaw19_awake kkit_SameSpring kbars_Springs_a kkit_CopyJoints_a kkit_CopyMembers_a NN (glaw19_BarsTurned_l0 kmade_Sketch_Plan kkit_Pick kkit_SameSprings klaw19_awake kkit_SameSpring kbars_Springs_a kkit_CopyJoints_a kkit_CopyMembers_a NN kx0 wh dx dy er N a1 a2 a3 b1 b2 b3 c1 c2 c3' d1 d2 d3 p1 p2 p3 q1 q2 q3 z2 e2 z5 z6 e6 (q + m + 1)) kx0 wh dx dy er N a1 a2 a3 b1 b2 b3 c1 c2 c3' d1 d2 d3 p1 p2 p3 q1 q2 q3 z2 e2 z5 z6 e6 k _ = _
    unfold glaw19_BarsTurned_l0_step
    rw [Int.toNat_natCast, gk, hx, hy, gV, tI, gV, tI, g1, tI, s1, set_get (by rw [hl]; exact hk), g2, tI, s2, List.length_set, hl, decide_eq_true (show (k : Int) < n by omega), decide_eq_true (show (0 : Int) ≤ k by omega), f32, f32, okI, okI, List.set_set, wrap_s (by omega)]
    rw [wrap32 (n := DX + 524288) (by omega) (by omega), wrap32 (n := DY + 524288) (by omega) (by omega), show DX + 524288 - 524288 = DX by omega, show DY + 524288 - 524288 = DY by omega, wrap32 (n := DX) (by omega) (by omega), wrap32 (n := DY) (by omega) (by omega), wrap32 (n := X k + DX) (by omega) (by omega), wrap32 (n := Y k + DY) (by omega) (by omega)]
    rw [jl_set _ _ _ hk, ← ih]
    simp only [ck_true, cond_true]
    congr 1
    refine jl_congr (fun j hj => ?_)
    by_cases e : j = k
    · subst e
      simp
    · by_cases e2 : j < k
      · have : j < k + 1 := by omega
        simp [e, e2, this]
      · have : ¬ j < k + 1 := by omega
        simp [e, e2, this]
end
end Go.Proofs.Tryz
end
section
/- Members turned about: the law. -/
namespace Go.Proofs.Tryz
open Go Go.Am Ieee.Pos
set_option maxRecDepth 100000
set_option linter.unusedVariables false
set_option linter.unusedSimpArgs false

theorem tk11 (a b c d e f g h i j k : AV) : List.take 11 (List.drop 0 [a, b, c, d, e, f, g, h, i, j, k]) = [a, b, c, d, e, f, g, h, i, j, k] := rfl
section
variable (kx0 : Bool → Int → Nat → Nat → Ge → Nat → Nat → Ge → Nat → Nat → Ge → Nat → Nat → Ge → Nat → Nat → Ge → Nat → Nat → Ge → List AV → List (List AV) → List AV → List (List AV) → List AV → List (List AV) → List AV → List (List AV) → List AV → List (List AV) → Int → Int → Int → Int → Int → Int → Int → Int → Option Nat → Option Nat → Option Nat → Int → Int → Int → Int → Int → Int → Option AV)
  (kx1 : Bool → Int → Nat → Nat → Ge → Nat → Nat → Ge → Nat → Nat → Ge → Nat → Nat → Ge → Nat → Nat → Ge → Nat → Nat → Ge → List AV → List (List AV) → List AV → List (List AV) → List AV → List (List AV) → List AV → List (List AV) → List AV → List (List AV) → Int → Int → Int → Int → Int → Int → Int → Int → Option Nat → Option Nat → Option Nat → Option AV)
  (kx2 : Int → Nat → Nat → Ge → Nat → Nat → Ge → Nat → Nat → Ge → Nat → Nat → Ge → Nat → Nat → Ge → Nat → Nat → Ge → List AV → List (List AV) → List AV → List (List AV) → List AV → List (List AV) → List AV → List (List AV) → List AV → List (List AV) → Option AV)
  (N : Int) (a1 a2 : Nat) (a3 : Ge) (b1 b2 : Nat) (b3 : Ge) (c1 c2 : Nat) (c3' : Ge) (d1 d2 : Nat) (d3 : Ge) (p1 p2 : Nat) (p3 : Ge) (q1 q2 : Nat) (q3 : Ge) (z2 z5 : List AV) (e5 : List (List AV)) (z6 : List AV) (e6 : List (List AV)) (z8 : List AV) (e8 : List (List AV)) (z9 : List AV)
theorem turn_loop {k : Nat} {T L : List (List AV)} (hT : TAll k T L) (hL : L.length < 1000) : ∀ (m q i : Nat), i + m = L.length →
    glaw19_BarsTurned_l1 kmade_Sketch_Plan kkit_Pick kkit_SameSprings klaw19_awake kkit_SameSpring kbars_Springs_a kkit_CopyJoints_a kkit_CopyMembers_a NN kx0 kx1 kx2 k N a1 a2 a3 b1 b2 b3 c1 c2 c3' d1 d2 d3 p1 p2 p3 q1 q2 q3 z2 L z5 e5 z6 e6 z8 e8 z9 T (q + m + 1) i =
      kx2 N a1 a2 a3 b1 b2 b3 c1 c2 c3' d1 d2 d3 p1 p2 p3 q1 q2 q3 z2 L z5 e5 z6 e6 z8 e8 z9 T
  | 0, q, i, h => by
    obtain rfl : i = L.length := by omega
    show glaw19_BarsTurned_l1_step kmade_Sketch_Plan kkit_Pick kkit_SameSprings klaw19_awake kkit_SameSpring kbars_Springs_a kkit_CopyJoints_a kkit_CopyMembers_a NN _ kx0 kx1 kx2 k N a1 a2 a3 b1 b2 b3 c1 c2 c3' d1 d2 d3 p1 p2 p3 q1 q2 q3 z2 L z5 e5 z6 e6 z8 e8 z9 T L.length = _
    unfold glaw19_BarsTurned_l1_step
    rw [decide_eq_false (by omega), cond_false]
  | m + 1, q, i, h => by
    have hi : i < L.length := by omega
    have ih := turn_loop hT hL m q (i + 1) (by omega)
    obtain ⟨a, b, c, d, e, f, g, u, a', b', c', d', e', f', p, r, s, hl, ht, h1, h2⟩ := hT.2 i z2 hi
    have ht9 : T.getD i z9 = T.getD i z2 := by
      have : i < T.length := by rw [hT.1]; exact hi
      simp [List.getD, this]
    show glaw19_BarsTurned_l1_step kmade_Sketch_Plan kkit_Pick kkit_SameSprings klaw19_awake kkit_SameSpring kbars_Springs_a kkit_CopyJoints_a kkit_CopyMembers_a NN (glaw19_BarsTurned_l1 kmade_Sketch_Plan kkit_Pick kkit_SameSprings klaw19_awake kkit_SameSpring kbars_Springs_a kkit_CopyJoints_a kkit_CopyMembers_a NN kx0 kx1 kx2 k N a1 a2 a3 b1 b2 b3 c1 c2 c3' d1 d2 d3 p1 p2 p3 q1 q2 q3 z2 L z5 e5 z6 e6 z8 e8 z9 T (q + m + 1)) kx0 kx1 kx2 k N a1 a2 a3 b1 b2 b3 c1 c2 c3' d1 d2 d3 p1 p2 p3 q1 q2 q3 z2 L z5 e5 z6 e6 z8 e8 z9 T i = _
    unfold glaw19_BarsTurned_l1_step
    rw [Int.toNat_natCast, ht9, hl, ht, tk11, tk11, hT.1, decide_eq_true (show (i : Int) < (L.length : Nat) by omega), decide_eq_true (show (0 : Int) ≤ i by omega), fitSp, fitSp, wrap_s (by omega), ih]
    simp only [tC, List.getD_cons_zero, List.getD_cons_succ, tI, tF, ck_true, cond_true]
    by_cases hk : a = k
    · have hb : (a == (k : Int)) = true := by simpa using hk
      rw [hb]
      by_cases h3 : b = 3
      · have hb3 : (b == (3 : Int)) = true := by simpa using h3
        obtain ⟨rfl, rfl, rfl, rfl, rfl, rfl⟩ := (h2 hk).1 h3
        rw [hb3, same_spring, okQ, ck_true, gV, tB]
        rfl
      · have hb3 : (b == (3 : Int)) = false := by simpa using h3
        obtain ⟨rfl, rfl, rfl, rfl, rfl, rfl⟩ := (h2 hk).2 h3
        rw [hb3, cond_true, cond_false, same_spring, okQ, ck_true, gV, tB]
        rfl
    · have hb : (a == (k : Int)) = false := by simpa using hk
      obtain ⟨rfl, rfl, rfl, rfl, rfl, rfl⟩ := h1 hk
      rw [hb, cond_false, same_spring, okQ, ck_true, gV, tB]
      rfl
end

theorem okX11 (n r : Nat) (g : Ge) (e : Int) : okX [RS.one (LK.l 11), RS.one (LK.i .i64)] (some (.tup [.ro 11 n r g, .int .i64 e])) = true := by simp [okX, fitRs, fitRS, fitK]
theorem okX4 (n r : Nat) (g : Ge) : okX [RS.one (LK.l 4)] (some (.tup [.ro 4 n r g])) = true := by simp [okX, fitRs, fitRS, fitK]
theorem okX9 (n r : Nat) (g : Ge) : okX [RS.one (LK.l 9)] (some (.tup [.ro 9 n r g])) = true := by simp [okX, fitRs, fitRS, fitK]
theorem okLL (n r : Nat) (g : Ge) (n' r' : Nat) (g' : Ge) : okM [RS.agg [LK.l 4, LK.l 9]] (some (.agg [.ro 4 n r g, .ro 9 n' r' g'])) = true := rfl
theorem tG (s n r : Nat) (g : Ge) : toG (.ro s n r g) = g := rfl
theorem tN (s n r : Nat) (g : Ge) : toN (.ro s n r g) = n := rfl
theorem tR (s n r : Nat) (g : Ge) : toR (.ro s n r g) = r := rfl
abbrev zSp : List AV := [AV.int .i64 (0 : Int), AV.int .u8 (0 : Int), AV.int .i64 (0 : Int), AV.int .i64 (0 : Int), AV.int .i64 (0 : Int), AV.int .i64 (0 : Int), AV.int .i64 (0 : Int), AV.int .i64 (0 : Int), AV.flt .f64 (some (0 : Nat)), AV.flt .f64 (some (0 : Nat)), AV.flt .f64 (some (0 : Nat))]

/-- THE LAW: true of every sketch. -/
theorem law4 (N wh dx dy : Int) {a1 a2 : Nat} {a3 : Ge} {b1 b2 : Nat} {b3 : Ge} {c1 c2 : Nat} {c3' : Ge} {d1 d2 : Nat} {d3 : Ge} (hA : IntsG a1 a3) (hB : IntsG b1 b3) (hC : IntsG c1 c3') (hD : FltsG d1 d3) :
    klaw19_BarsTurned [.agg [.int .i64 N, .ro 1 a1 a2 a3, .ro 1 b1 b2 b3, .ro 1 c1 c2 c3', .ro 1 d1 d2 d3], .int .i64 wh, .int .i64 dx, .int .i64 dy] = some (.bool true) := by
  obtain ⟨n, X, Y, Fx, V, c, hn, hI, hc, hV, hP⟩ := plan_sp N hA hB hC hD (a2 := a2) (b2 := b2) (c2 := c2) (d2 := d2)
  obtain ⟨tx, px, x0, x1⟩ := pick_sp dx (n := 1048576) (by omega) (by omega)
  obtain ⟨ty, py, y0, y1⟩ := pick_sp dy (n := 1048576) (by omega) (by omega)
  obtain ⟨DX, rfl⟩ : ∃ DX, tx = DX + 524288 := ⟨tx - 524288, by omega⟩
  obtain ⟨DY, rfl⟩ : ∃ DY, ty = DY + 524288 := ⟨ty - 524288, by omega⟩
  have hG0 : JGood X Y Fx n := by
    have := hI.good hn (DX := 0) (DY := 0) (by omega) (by omega)
    simpa using this
  have hG := good_of hn hG0 hc hV
  have hG1 := good_of hn (hI.good hn (DX := DX) (DY := DY) (by omega) (by omega)) hc hV
  have hS0 := hG.springs n c (Nat.le_refl _) _ _ (jsS_ok X Y Fx n zJ4) (msS_ok V c zM9)
  have hS1 := hG1.springs n c (Nat.le_refl _) _ _ (jsS_ok (fun i => X i + DX) (fun i => Y i + DY) Fx n zJ4) (msS_ok V c zM9)
  rw [shift_all] at hS1
  have hrow := all_row hG.mem c (Nat.le_refl _)
  have hlen := allO_len (jsS X Y Fx n) (msS V c) c
  have hS0' : kbars_Springs_a [.agg [.ro 4 n n fun i j => ((jl X Y Fx n).getD i zJ4).getD j .dead, .ro 9 c c fun i j => ((ml V c).getD i zM9).getD j .dead]] = some (.tup [.ro 11 (allO (jsS X Y Fx n) (msS V c) c).length (allO (jsS X Y Fx n) (msS V c) c).length fun i j => ((allO (jsS X Y Fx n) (msS V c) c).getD i []).getD j .dead, .int .i64 0]) := hS0
  have hS1' : kbars_Springs_a [.agg [.ro 4 n n fun i j => ((jl (fun i => X i + DX) (fun i => Y i + DY) Fx n).getD i zJ4).getD j .dead, .ro 9 c c fun i j => ((ml V c).getD i zM9).getD j .dead]] = some (.tup [.ro 11 (allO (jsS X Y Fx n) (msS V c) c).length (allO (jsS X Y Fx n) (msS V c) c).length fun i j => ((allO (jsS X Y Fx n) (msS V c) c).getD i []).getD j .dead, .int .i64 0]) := hS1
  show glaw19_BarsTurned kmade_Sketch_Plan kkit_Pick kkit_SameSprings klaw19_awake kkit_SameSpring kbars_Springs_a kkit_CopyJoints_a kkit_CopyMembers_a NN N a1 a2 a3 b1 b2 b3 c1 c2 c3' d1 d2 d3 wh dx dy = _
  unfold glaw19_BarsTurned
  rw [hP]
  simp only [gV, tC, Go.Proofs.Tryz.hD, tl, tN, tR, tG]
  rw [hS0', copyJ X Y Fx hn, copyM V hc, okLL, okX11, okX4, okX9]
  simp only [gV, tC, tT, tI, Go.Proofs.Tryz.hD, tl, tN, tR, tG]
  rw [rows_row hrow, mask_row hrow, rows_jl, rows_ml, ck_true, ck_true, ck_true, ck_true]
  have hsh := fun kx0 => shift_loop kx0 wh dx dy 0 N a1 a2 a3 b1 b2 b3 c1 c2 c3' d1 d2 d3 n n (fun i j => ((jl X Y Fx n).getD i zJ4).getD j .dead) c c (fun i j => ((ml V c).getD i zM9).getD j .dead) zSp (allO (jsS X Y Fx n) (msS V c) c) zJ4 zM9 (ml V c) hn hI px py (by omega) (by omega) n (NN - n - 1) 0 (by omega)
  rw [show NN - n - 1 + n + 1 = NN by unfold NN; omega, jl_congr (X := fun j => if j < 0 then X j + DX else X j) (Y := fun j => if j < 0 then Y j + DY else Y j) (X' := X) (Y' := Y) (fun j hj => by simp)] at hsh
  refine (hsh _).trans ?_
  have z0 : ((0 : Int) != 0) = false := rfl
  have hsame : kkit_SameSprings [.ro 11 (allO (jsS X Y Fx n) (msS V c) c).length (allO (jsS X Y Fx n) (msS V c) c).length fun i j => ((allO (jsS X Y Fx n) (msS V c) c).getD i zSp).getD j .dead, .ro 11 (allO (jsS X Y Fx n) (msS V c) c).length (allO (jsS X Y Fx n) (msS V c) c).length fun i j => ((allO (jsS X Y Fx n) (msS V c) c).getD i zSp).getD j .dead] = some (.bool true) := same_springs (by omega) (row_g hrow zSp) _ _
  rw [jl_len, ml_len, hS1', okX11]
  simp only [gV, tT, tI, Go.Proofs.Tryz.hD, tl, tG]
  rw [rows_row hrow, mask_row hrow, hsame, okQ, ck_true, gV, tB, z0, cond_false, Bool.not_false, cond_true, ck_true, cond_false, Bool.not_true, cond_false]
  by_cases hc0 : c = 0
  · have e : (((c : Nat) : Int) == 0) = true := by simpa using hc0
    rw [e, cond_true, awake9]
    rfl
  have e : (((c : Nat) : Int) == 0) = false := by simpa using hc0
  obtain ⟨kk, pk, k0, k1⟩ := pick_sp wh (n := (c : Int)) (by omega) (by omega)
  obtain ⟨k, rfl⟩ : ∃ k : Nat, kk = k := ⟨kk.toNat, by omega⟩
  have hk : k < c := by omega
  have hV' : ∀ i, i < c → MOk n (turnAt V k i) := fun i hi => by
    unfold turnAt
    split
    · exact turn_ok (hV k hk)
    · exact hV i hi
  have hG2 := good_of hn hG0 hc hV'
  have hG3 := good_of hn (hI.good hn (DX := DX) (DY := DY) (by omega) (by omega)) hc hV'
  have hS3 := hG3.springs n c (Nat.le_refl _) _ _ (jsS_ok (fun i => X i + DX) (fun i => Y i + DY) Fx n zJ4) (msS_ok (turnAt V k) c zM9)
  rw [shift_all] at hS3
  have hS3' : kbars_Springs_a [.agg [.ro 4 n n fun i j => ((jl (fun i => X i + DX) (fun i => Y i + DY) Fx n).getD i zJ4).getD j .dead, .ro 9 c c fun i j => ((ml (turnAt V k) c).getD i zM9).getD j .dead]] = some (.tup [.ro 11 (allO (jsS X Y Fx n) (msS (turnAt V k) c) c).length (allO (jsS X Y Fx n) (msS (turnAt V k) c) c).length fun i j => ((allO (jsS X Y Fx n) (msS (turnAt V k) c) c).getD i []).getD j .dead, .int .i64 0]) := hS3
  have hrowT := all_row hG2.mem c (Nat.le_refl _)
  have hTA := turned_all hG hV hk c (Nat.le_refl _)
  rw [e, cond_false, pk, okI, ck_true, gV, tI, decide_eq_true (show (0 : Int) ≤ (k : Int) by omega), decide_eq_true (show (k : Int) < (c : Int) by omega), ck_true, ck_true, Int.toNat_natCast]
  have gk : (ml V c).getD k zM9 = mrow k (V k) := ml_get V hk zM9
  have gs : ∀ a, ((ml V c).set k a).getD k zM9 = a := fun a => set_get (by rw [ml_len]; exact hk) _ _
  have m2 : ∀ r, (mrow k r).getD 2 .dead = .int .i64 r.a := fun _ => rfl
  have m3 : ∀ r, (mrow k r).getD 3 .dead = .int .i64 r.b := fun _ => rfl
  have m4 : ∀ r, (mrow k r).getD 4 .dead = .bool r.ha := fun _ => rfl
  have m5 : ∀ r, (mrow k r).getD 5 .dead = .bool r.hb := fun _ => rfl
  have s2 : ∀ r v, splice (mrow k r) 2 [.int .i64 v] = mrow k { r with a := v } := fun _ _ => rfl
  have s3 : ∀ r v, splice (mrow k r) 3 [.int .i64 v] = mrow k { r with b := v } := fun _ _ => rfl
  have s4 : ∀ r v, splice (mrow k r) 4 [.bool v] = mrow k { r with ha := v } := fun _ _ => rfl
  have s5 : ∀ r v, splice (mrow k r) 5 [.bool v] = mrow k { r with hb := v } := fun _ _ => rfl
  have hset : (ml V c).set k (mrow k { kd := (V k).kd, a := (V k).b, b := (V k).a, ha := (V k).hb, hb := (V k).ha, e := (V k).e, ar := (V k).ar, iv := (V k).iv }) = ml (turnAt V k) c := ml_set V hk
  simp only [gk, gs, m2, m3, m4, m5, s2, s3, s4, s5, tI, tB, List.set_set, hset, ml_len]
  have fI : ∀ n, fitK (LK.i .i64) (.int .i64 n) = true := fun _ => rfl
  have fB : ∀ b, fitK LK.b (.bool b) = true := fun _ => rfl
  rw [fI, fI, fB, fB, ck_true, ck_true, ck_true, ck_true, hS3', okX11, ck_true]
  simp only [gV, tT, tI, Go.Proofs.Tryz.hD, tl, tG]
  rw [rows_row hrowT, mask_row hrowT, z0, cond_false, hTA.1, bne_self_eq_false, cond_false]
  have hl := fun kx0 kx1 kx2 => turn_loop kx0 kx1 kx2 N a1 a2 a3 b1 b2 b3 c1 c2 c3' d1 d2 d3 n n (fun i j => ((jl X Y Fx n).getD i zJ4).getD j .dead) c c (fun i j => ((ml V c).getD i zM9).getD j .dead) zSp zJ4 (jl (fun i => X i + DX) (fun i => Y i + DY) Fx n) zM9 (ml (turnAt V k) c) zSp (allO (jsS X Y Fx n) (msS V c) c) zSp hTA (by omega) (allO (jsS X Y Fx n) (msS V c) c).length (NN - (allO (jsS X Y Fx n) (msS V c) c).length - 1) 0 (by omega)
  rw [show NN - (allO (jsS X Y Fx n) (msS V c) c).length - 1 + (allO (jsS X Y Fx n) (msS V c) c).length + 1 = NN by unfold NN; omega] at hl
  refine (hl _ _ _).trans ?_
  rw [awake9]
  rfl
end Go.Proofs.Tryz
end
section
namespace Go.Proofs.Tryz
open Go Go.Am Ieee.Pos
set_option maxRecDepth 100000
set_option linter.unusedVariables false
set_option linter.unusedSimpArgs false

theorem calls4 {N wh dx dy : Int} {a1 a2 : Nat} {a3 : Ge} {b1 b2 : Nat} {b3 : Ge} {c1 c2 : Nat} {c3' : Ge} {d1 d2 : Nat} {d3 : Ge} (hA : IntsG a1 a3) (hB : IntsG b1 b3) (hC : IntsG c1 c3') (hD : FltsG d1 d3)
    (w : World) (S : Nat → Prop) (hS : ∀ b, S b → b < w.heap.size) (v0 v1 v2 v3 : Value) (h0 : Rd w S none v0 (.agg [.int .i64 N, .ro 1 a1 a2 a3, .ro 1 b1 b2 b3, .ro 1 c1 c2 c3', .ro 1 d1 d2 d3])) (h1 : Rd w S none v1 (.int .i64 wh)) (h2 : Rd w S none v2 (.int .i64 dx)) (h3 : Rd w S none v3 (.int .i64 dy)) :
    Calls prog 4 #[v0, v1, v2, v3] w fun e w' => e = .returned (.bool true) ∧ Ev w.heap.size (fun _ => False) w w' := by
  have hl := law4 N wh dx dy hA hB hC hD (a2 := a2) (b2 := b2) (c2 := c2) (d2 := d2)
  have hrun := oklaw19_BarsTurned.run [.agg [.int .i64 N, .ro 1 a1 a2 a3, .ro 1 b1 b2 b3, .ro 1 c1 c2 c3', .ro 1 d1 d2 d3], .int .i64 wh, .int .i64 dx, .int .i64 dy] #[v0, v1, v2, v3] w S rfl (fun j u a hu ha => by
    rcases j with _ | _ | _ | _ | j
    · simp at hu ha; subst hu ha; exact h0
    · simp at hu ha; subst hu ha; exact h1
    · simp at hu ha; subst hu ha; exact h2
    · simp at hu ha; subst hu ha; exact h3
    · simp at hu) hS (Glob.nil rfl w S) (by
      show okM Rlaw19_BarsTurned (klaw19_BarsTurned _) = true
      rw [hl]; rfl)
  have hf : prog.funcs[4]? = some f4 := by kernel_rfl
  have hb : f4.body.isSome = true := by kernel_rfl
  obtain ⟨c, hc⟩ := Option.isSome_iff_exists.1 hb
  have hnm : ¬ f4.name = "runtime.NumGoroutine" := by simpa using namesA 4 f4 hf hb
  have hcall : (callFunc 4 #[v0, v1, v2, v3]).run prog w = .ok (.enter 4 #[v0, v1, v2, v3]) w := by simp [callFunc, hf, hc, hnm]
  unfold CallOk at hrun
  rw [hcall] at hrun
  refine hrun.mono fun e w' ⟨v', he, S', h1, _, _, _, h5⟩ => ?_
  have hval : (smM Rlaw19_BarsTurned klaw19_BarsTurned).val [.agg [.int .i64 N, .ro 1 a1 a2 a3, .ro 1 b1 b2 b3, .ro 1 c1 c2 c3', .ro 1 d1 d2 d3], .int .i64 wh, .int .i64 dx, .int .i64 dy] = .bool true := by
    show valM Rlaw19_BarsTurned (klaw19_BarsTurned _) = _
    rw [hl]; rfl
  rw [hval] at h1
  obtain rfl := rd_bool h1
  exact ⟨he, h5⟩

theorem sizeT : prog.types.size = 215 := by kernel_rfl
theorem laidT : laidOutB prog = true := by kernel_rfl
theorem posT : ∀ t e, t < prog.types.size → prog.underlying t = some (.slice e) → 0 < prog.cellsOf e := by
  have h : ((List.range 215).all fun t => match prog.underlying t with | some (.slice e) => decide (0 < prog.cellsOf e) | _ => true) = true := by kernel_rfl
  intro t e ht hu
  rw [sizeT] at ht
  have := List.all_eq_true.1 h t (by simpa using ht)
  rw [hu] at this
  simpa using this
theorem c3e : prog.cellsOf 3 = 1 := by kernel_rfl
theorem c36 : prog.cellsOf 36 = 1 := by kernel_rfl

section
variable {H : Type}
theorem sh_int {n : Nat} {d : DataW H} {t : TypeId} {k : IntKind} (hu : prog.underlying t = some (.int k)) (h : Sh prog n t d) : ∃ m, avL prog n t d = [.int k m] := by
  cases n with
  | zero => exact h.elim
  | succ n => simp only [Sh, hu] at h; obtain ⟨m, rfl, hw⟩ := h; exact ⟨m, by simp [avL, hu]⟩
theorem sh_flt {n : Nat} {d : DataW H} {t : TypeId} {k : FloatKind} (hu : prog.underlying t = some (.float k)) (h : Sh prog n t d) : ∃ m, (Lit.float k m).wf = true ∧ avL prog n t d = [.flt k (some m)] := by
  cases n with
  | zero => exact h.elim
  | succ n => simp only [Sh, hu] at h; obtain ⟨m, rfl, hw⟩ := h; exact ⟨m, hw, by simp [avL, hu]⟩
theorem sh_ints {n : Nat} {d : DataW H} (h : Sh prog n 22 d) : ∃ k g, avL prog n 22 d = [.ro 1 k k g] ∧ IntsG k g := by
  cases n with
  | zero => exact h.elim
  | succ n =>
    simp only [Sh, underlying22] at h
    rcases h with rfl | ⟨es, sp, rfl, hw, he⟩
    · exact ⟨0, _, by simp only [avL, underlying22, c3e]; rfl, fun i hi => absurd hi (by omega)⟩
    · refine ⟨es.length, _, by simp only [avL, underlying22, c3e]; rfl, fun i hi => ?_⟩
      have hel : Sh prog n 3 (es.getD i .nil) := he _ (by
        have : es.getD i .nil = es[i] := by simp [List.getD, hi]
        rw [this]; exact List.getElem_mem hi)
      obtain ⟨m, e⟩ := sh_int underlying3 hel
      refine ⟨m, ?_⟩
      rw [e]; rfl
theorem sh_flts {n : Nat} {d : DataW H} (h : Sh prog n 23 d) : ∃ k g, avL prog n 23 d = [.ro 1 k k g] ∧ FltsG k g := by
  cases n with
  | zero => exact h.elim
  | succ n =>
    simp only [Sh, underlying23] at h
    rcases h with rfl | ⟨es, sp, rfl, hw, he⟩
    · exact ⟨0, _, by simp only [avL, underlying23, c36]; rfl, fun i hi => absurd hi (by omega)⟩
    · refine ⟨es.length, _, by simp only [avL, underlying23, c36]; rfl, fun i hi => ?_⟩
      have hel : Sh prog n 36 (es.getD i .nil) := he _ (by
        have : es.getD i .nil = es[i] := by simp [List.getD, hi]
        rw [this]; exact List.getElem_mem hi)
      obtain ⟨m, hw, e⟩ := sh_flt underlying36 hel
      refine ⟨m, ?_, by simpa [Lit.wf] using hw⟩
      rw [e]; rfl
theorem sh_sketch {n : Nat} {d : DataW H} (h : Sh prog n 25 d) : ∃ N k1 g1 k2 g2 k3 g3 k4 g4, avL prog n 25 d = [.int .i64 N, .ro 1 k1 k1 g1, .ro 1 k2 k2 g2, .ro 1 k3 k3 g3, .ro 1 k4 k4 g4] ∧ IntsG k1 g1 ∧ IntsG k2 g2 ∧ IntsG k3 g3 ∧ FltsG k4 g4 := by
  cases n with
  | zero => exact h.elim
  | succ n =>
    simp only [Sh, underlying25] at h
    obtain ⟨ds, rfl, hl, hf⟩ := h
    obtain ⟨d0, d1, d2, d3, d4, rfl⟩ : ∃ a b c d e, ds = [a, b, c, d, e] := by
      match ds, hl with
      | [a, b, c, d, e], _ => exact ⟨a, b, c, d, e, rfl⟩
    obtain ⟨N, e0⟩ := sh_int underlying3 (hf 0 _ _ rfl rfl)
    obtain ⟨k1, g1, e1, o1⟩ := sh_ints (hf 1 _ _ rfl rfl)
    obtain ⟨k2, g2, e2, o2⟩ := sh_ints (hf 2 _ _ rfl rfl)
    obtain ⟨k3, g3, e3, o3⟩ := sh_ints (hf 3 _ _ rfl rfl)
    obtain ⟨k4, g4, e4, o4⟩ := sh_flts (hf 4 _ _ rfl rfl)
    refine ⟨N, k1, g1, k2, g2, k3, g3, k4, g4, ?_, o1, o2, o3, o4⟩
    simp only [avL, underlying25]
    simp only [List.zip_cons_cons, List.zip_nil_right, List.flatMap_cons, List.flatMap_nil, e0, e1, e2, e3, e4]
    rfl
end
end Go.Proofs.Tryz
end
