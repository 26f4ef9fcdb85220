/- Part 6 of the proof: models of the functions, and laws on them. -/
import Derived.Test.YtikdidijaphjmaaGreatDoorW5
import Derived.Laws.Bits64
import Derived.Laws.BitsLemmas
import Derived.Laws.RangeAny
import Derived.Laws.RangeString
import Derived.MapKept
set_option linter.unusedVariables false
set_option linter.unusedSimpArgs false
set_option linter.unusedSectionVars false
section
namespace Go.Proofs.Tryz
open Go Go.Am
set_option maxRecDepth 1000000
def NN : Nat := 1125899906842624
def namesB (P : Program) : Bool := P.funcs.toList.all fun fn => !(fn.body.isSome) || !(fn.name == "runtime.NumGoroutine")
theorem names_of {P : Program} (h : namesB P = true) : NamesOk P := by
  intro f fn hf hb
  have := List.all_eq_true.1 h fn (by
    have : P.funcs.toList[f]? = some fn := by simpa using hf
    exact List.mem_of_getElem? this)
  simp only [hb, Bool.not_true, Bool.false_or, Bool.not_eq_true'] at this
  exact this
theorem namesA : NamesOk Pr := names_of (by decide +kernel)
theorem stub_ok (f : Nat) (rs : List RS) : SmOk Pr f (smM rs fun _ => none) :=
  ⟨fun args vs w S _ _ _ _ h => (by cases h), fun _ args h => (by cases h)⟩
theorem ext55 : SmOk Pr 55 sBits := bits_ok (fn := f55) (by kernel_rfl) (by kernel_rfl) (by kernel_rfl) (by kernel_rfl) (by kernel_rfl)
theorem ext76 : SmOk Pr 76 sFma := fma_ok (fn := f76) (by kernel_rfl) (by kernel_rfl) (by kernel_rfl) (by kernel_rfl) (by kernel_rfl)
theorem ext88 : SmOk Pr 88 sSqrt := sqrt_ok (fn := f88) (by kernel_rfl) (by kernel_rfl) (by kernel_rfl) (by kernel_rfl) (by kernel_rfl)
theorem ext101 : SmOk Pr 101 sFrom := from_ok (fn := f101) (by kernel_rfl) (by kernel_rfl) (by kernel_rfl) (by kernel_rfl) (by kernel_rfl)
def kround_cmp : Mo := fun _ => none
def kround_of : Mo := fun _ => none
def kround_times : Mo := fun _ => none
noncomputable def kkit_Pick : Mo := mkit_Pick  NN
theorem okkit_Pick : SmOk Pr 13 (smM Rkit_Pick kkit_Pick) := gkit_Pick_sm  NN (show GamOk Pr (Gkit_Pick ) from GamOk.nil) namesA
noncomputable def kmade_name : Mo := mmade_name  NN
theorem okmade_name : SmOk Pr 16 (smM Rmade_name kmade_name) := gmade_name_sm  NN (show GamOk Pr (Gmade_name ) from GamOk.nil) namesA
noncomputable def kmade_part : Mo := mmade_part  NN
theorem okmade_part : SmOk Pr 17 (smM Rmade_part kmade_part) := gmade_part_sm  NN (show GamOk Pr (Gmade_part ) from GamOk.nil) namesA
noncomputable def kmade_Number : Mo := mmade_Number  NN
theorem okmade_Number : SmOk Pr 35 (smM Rmade_Number kmade_Number) := gmade_Number_sm  NN (show GamOk Pr (Gmade_Number ) from GamOk.nil) namesA
noncomputable def kmade_number : Mo := mmade_number kmade_Number NN
theorem okmade_number : SmOk Pr 18 (smM Rmade_number kmade_number) := gmade_number_sm kmade_Number NN (show GamOk Pr (Gmade_number kmade_Number) from (.cons (okmade_Number) rfl GamOk.nil)) namesA
noncomputable def kmade_Sketch_Plan : Mo := mmade_Sketch_Plan kkit_Pick kmade_name kmade_part kmade_number NN
theorem okmade_Sketch_Plan : SmOk Pr 5 (smM Rmade_Sketch_Plan kmade_Sketch_Plan) := gmade_Sketch_Plan_sm kkit_Pick kmade_name kmade_part kmade_number NN (show GamOk Pr (Gmade_Sketch_Plan kkit_Pick kmade_name kmade_part kmade_number) from (.cons (okkit_Pick) rfl (.cons (okmade_name) rfl (.cons (okmade_part) rfl (.cons (okmade_number) rfl GamOk.nil))))) namesA
noncomputable def kjoints_named : Mo := mjoints_named  NN
theorem okjoints_named : SmOk Pr 56 (smM Rjoints_named kjoints_named) := gjoints_named_sm  NN (show GamOk Pr (Gjoints_named ) from GamOk.nil) namesA
noncomputable def kjoints_near : Mo := mjoints_near  NN
theorem okjoints_near : SmOk Pr 57 (smM Rjoints_near kjoints_near) := gjoints_near_sm  NN (show GamOk Pr (Gjoints_near ) from GamOk.nil) namesA
noncomputable def kjoints_Check : Mo := mjoints_Check kjoints_named kjoints_near NN
theorem okjoints_Check : SmOk Pr 36 (smM Rjoints_Check kjoints_Check) := gjoints_Check_sm kjoints_named kjoints_near NN (show GamOk Pr (Gjoints_Check kjoints_named kjoints_near) from (.cons (okjoints_named) rfl (.cons (okjoints_near) rfl GamOk.nil))) namesA
noncomputable def kbars_named : Mo := mbars_named  NN
theorem okbars_named : SmOk Pr 58 (smM Rbars_named kbars_named) := gbars_named_sm  NN (show GamOk Pr (Gbars_named ) from GamOk.nil) namesA
noncomputable def kbars_number : Mo := mbars_number  NN
theorem okbars_number : SmOk Pr 59 (smM Rbars_number kbars_number) := gbars_number_sm  NN (show GamOk Pr (Gbars_number ) from GamOk.nil) namesA
noncomputable def kbars_may : Mo := mbars_may kbars_named kbars_number NN
theorem okbars_may : SmOk Pr 37 (smM Rbars_may kbars_may) := gbars_may_sm kbars_named kbars_number NN (show GamOk Pr (Gbars_may kbars_named kbars_number) from (.cons (okbars_named) rfl (.cons (okbars_number) rfl (.cons ext55 rfl GamOk.nil)))) namesA
noncomputable def kbars_Check : Mo := mbars_Check kjoints_Check kbars_may NN
theorem okbars_Check : SmOk Pr 19 (smM Rbars_Check kbars_Check) := gbars_Check_sm kjoints_Check kbars_may NN (show GamOk Pr (Gbars_Check kjoints_Check kbars_may) from (.cons (okjoints_Check) rfl (.cons (okbars_may) rfl GamOk.nil))) namesA
noncomputable def kjoints_Apart : Mo := mjoints_Apart kjoints_near NN
theorem okjoints_Apart : SmOk Pr 38 (smM Rjoints_Apart kjoints_Apart) := gjoints_Apart_sm kjoints_near NN (show GamOk Pr (Gjoints_Apart kjoints_near) from (.cons (okjoints_near) rfl GamOk.nil)) namesA
noncomputable def kround_way : Mo := mround_way  NN
theorem okround_way : SmOk Pr 70 (smM Rround_way kround_way) := ground_way_sm  NN (show GamOk Pr (Ground_way ) from GamOk.nil) namesA
noncomputable def kmath_Sqrt : Mo := mmath_Sqrt  NN
theorem okmath_Sqrt : SmOk Pr 71 (smM Rmath_Sqrt kmath_Sqrt) := gmath_Sqrt_sm  NN (show GamOk Pr (Gmath_Sqrt ) from (.cons ext88 rfl GamOk.nil)) namesA
noncomputable def kmath_IsNaN : Mo := mmath_IsNaN  NN
theorem okmath_IsNaN : SmOk Pr 89 (smM Rmath_IsNaN kmath_IsNaN) := gmath_IsNaN_sm  NN (show GamOk Pr (Gmath_IsNaN ) from GamOk.nil) namesA
noncomputable def kmath_Abs : Mo := mmath_Abs  NN
theorem okmath_Abs : SmOk Pr 100 (smM Rmath_Abs kmath_Abs) := gmath_Abs_sm  NN (show GamOk Pr (Gmath_Abs ) from (.cons ext55 rfl (.cons ext101 rfl GamOk.nil))) namesA
noncomputable def kmath_IsInf : Mo := mmath_IsInf kmath_Abs NN
theorem okmath_IsInf : SmOk Pr 90 (smM Rmath_IsInf kmath_IsInf) := gmath_IsInf_sm kmath_Abs NN (show GamOk Pr (Gmath_IsInf kmath_Abs) from (.cons (okmath_Abs) rfl GamOk.nil)) namesA
noncomputable def kround_finite : Mo := mround_finite kmath_IsNaN kmath_IsInf NN
theorem okround_finite : SmOk Pr 72 (smM Rround_finite kround_finite) := ground_finite_sm kmath_IsNaN kmath_IsInf NN (show GamOk Pr (Ground_finite kmath_IsNaN kmath_IsInf) from (.cons (okmath_IsNaN) rfl (.cons (okmath_IsInf) rfl GamOk.nil))) namesA
noncomputable def kround_plain : Mo := mround_plain  NN
theorem okround_plain : SmOk Pr 73 (smM Rround_plain kround_plain) := ground_plain_sm  NN (show GamOk Pr (Ground_plain ) from (.cons ext55 rfl GamOk.nil)) namesA
noncomputable def kround_sign : Mo := mround_sign  NN
theorem okround_sign : SmOk Pr 75 (smM Rround_sign kround_sign) := ground_sign_sm  NN (show GamOk Pr (Ground_sign ) from GamOk.nil) namesA
noncomputable def kmath_Signbit : Mo := mmath_Signbit  NN
theorem okmath_Signbit : SmOk Pr 91 (smM Rmath_Signbit kmath_Signbit) := gmath_Signbit_sm  NN (show GamOk Pr (Gmath_Signbit ) from (.cons ext55 rfl GamOk.nil)) namesA
noncomputable def kmath_Copysign : Mo := mmath_Copysign  NN
theorem okmath_Copysign : SmOk Pr 92 (smM Rmath_Copysign kmath_Copysign) := gmath_Copysign_sm  NN (show GamOk Pr (Gmath_Copysign ) from (.cons ext55 rfl (.cons ext101 rfl GamOk.nil))) namesA
noncomputable def kround_step : Mo := mround_step  NN
theorem okround_step : SmOk Pr 93 (smM Rround_step kround_step) := ground_step_sm  NN (show GamOk Pr (Ground_step ) from (.cons ext55 rfl (.cons ext101 rfl GamOk.nil))) namesA
noncomputable def kround_settle : Mo := mround_settle kmath_Signbit kmath_IsInf kmath_Copysign kround_step NN
theorem okround_settle : SmOk Pr 74 (smM Rround_settle kround_settle) := ground_settle_sm kmath_Signbit kmath_IsInf kmath_Copysign kround_step NN (show GamOk Pr (Ground_settle kmath_Signbit kmath_IsInf kmath_Copysign kround_step) from (.cons (okmath_Signbit) rfl (.cons (okmath_IsInf) rfl (.cons (okmath_Copysign) rfl (.cons (okround_step) rfl GamOk.nil))))) namesA
noncomputable def kround_Sqrt : Mo := mround_Sqrt kround_way kmath_Sqrt kround_finite kround_plain kround_sign kround_settle kround_of kround_times kround_cmp NN
theorem okround_Sqrt : SmOk Pr 60 (smM Rround_Sqrt kround_Sqrt) := ground_Sqrt_sm kround_way kmath_Sqrt kround_finite kround_plain kround_sign kround_settle kround_of kround_times kround_cmp NN (show GamOk Pr (Ground_Sqrt kround_way kmath_Sqrt kround_finite kround_plain kround_sign kround_settle kround_of kround_times kround_cmp) from (.cons (okround_way) rfl (.cons (okmath_Sqrt) rfl (.cons (okround_finite) rfl (.cons (okround_plain) rfl (.cons (okround_sign) rfl (.cons (okround_settle) rfl (.cons (stub_ok _ _) rfl (.cons (stub_ok _ _) rfl (.cons (stub_ok _ _) rfl (.cons ext76 rfl GamOk.nil))))))))))) namesA
noncomputable def kjoints_Length : Mo := mjoints_Length kjoints_Apart kround_Sqrt NN
theorem okjoints_Length : SmOk Pr 39 (smM Rjoints_Length kjoints_Length) := gjoints_Length_sm kjoints_Apart kround_Sqrt NN (show GamOk Pr (Gjoints_Length kjoints_Apart kround_Sqrt) from (.cons (okjoints_Apart) rfl (.cons (okround_Sqrt) rfl GamOk.nil))) namesA
noncomputable def kbars_one : Mo := mbars_one  NN
theorem okbars_one : SmOk Pr 42 (smM Rbars_one kbars_one) := gbars_one_sm  NN (show GamOk Pr (Gbars_one ) from GamOk.nil) namesA
noncomputable def kmath_Inf : Mo := mmath_Inf  NN
theorem okmath_Inf : SmOk Pr 111 (smM Rmath_Inf kmath_Inf) := gmath_Inf_sm  NN (show GamOk Pr (Gmath_Inf ) from (.cons ext101 rfl GamOk.nil)) namesA
noncomputable def kspan_Right : Mo := mspan_Right kmath_Inf NN
theorem okspan_Right : SmOk Pr 97 (smM Rspan_Right kspan_Right) := gspan_Right_sm kmath_Inf NN (show GamOk Pr (Gspan_Right kmath_Inf) from (.cons (okmath_Inf) rfl GamOk.nil)) namesA
noncomputable def kspan_right : Mo := mspan_right kspan_Right NN
theorem okspan_right : SmOk Pr 80 (smM Rspan_right kspan_right) := gspan_right_sm kspan_Right NN (show GamOk Pr (Gspan_right kspan_Right) from (.cons (okspan_Right) rfl GamOk.nil)) namesA
noncomputable def kbits_Place : Mo := mbits_Place kmath_Abs NN
theorem okbits_Place : SmOk Pr 152 (smM Rbits_Place kbits_Place) := gbits_Place_sm kmath_Abs NN (show GamOk Pr (Gbits_Place kmath_Abs) from (.cons (okmath_Abs) rfl (.cons ext55 rfl GamOk.nil))) namesA
noncomputable def kbits_rank : Mo := mbits_rank kbits_Place kmath_Signbit NN
theorem okbits_rank : SmOk Pr 132 (smM Rbits_rank kbits_rank) := gbits_rank_sm kbits_Place kmath_Signbit NN (show GamOk Pr (Gbits_rank kbits_Place kmath_Signbit) from (.cons (okbits_Place) rfl (.cons (okmath_Signbit) rfl GamOk.nil))) namesA
noncomputable def kcmp_isNaN_int64 : Mo := mcmp_isNaN_int64  NN
theorem okcmp_isNaN_int64 : SmOk Pr 153 (smM Rcmp_isNaN_int64 kcmp_isNaN_int64) := gcmp_isNaN_int64_sm  NN (show GamOk Pr (Gcmp_isNaN_int64 ) from GamOk.nil) namesA
noncomputable def kcmp_Compare_int64 : Mo := mcmp_Compare_int64 kcmp_isNaN_int64 NN
theorem okcmp_Compare_int64 : SmOk Pr 134 (smM Rcmp_Compare_int64 kcmp_Compare_int64) := gcmp_Compare_int64_sm kcmp_isNaN_int64 NN (show GamOk Pr (Gcmp_Compare_int64 kcmp_isNaN_int64) from (.cons (okcmp_isNaN_int64) rfl GamOk.nil)) namesA
noncomputable def kcmp_isNaN_int : Mo := mcmp_isNaN_int  NN
theorem okcmp_isNaN_int : SmOk Pr 154 (smM Rcmp_isNaN_int kcmp_isNaN_int) := gcmp_isNaN_int_sm  NN (show GamOk Pr (Gcmp_isNaN_int ) from GamOk.nil) namesA
noncomputable def kcmp_Compare_int : Mo := mcmp_Compare_int kcmp_isNaN_int NN
theorem okcmp_Compare_int : SmOk Pr 135 (smM Rcmp_Compare_int kcmp_Compare_int) := gcmp_Compare_int_sm kcmp_isNaN_int NN (show GamOk Pr (Gcmp_Compare_int kcmp_isNaN_int) from (.cons (okcmp_isNaN_int) rfl GamOk.nil)) namesA
noncomputable def kcmp_Or_int : Mo := mcmp_Or_int  NN
theorem okcmp_Or_int : SmOk Pr 133 (smM Rcmp_Or_int kcmp_Or_int) := gcmp_Or_int_sm  NN (show GamOk Pr (Gcmp_Or_int ) from GamOk.nil) namesA
noncomputable def kbits_Order : Mo := mbits_Order kbits_rank kcmp_Compare_int64 kcmp_Compare_int kcmp_Or_int NN
theorem okbits_Order : SmOk Pr 112 (smM Rbits_Order kbits_Order) := gbits_Order_sm kbits_rank kcmp_Compare_int64 kcmp_Compare_int kcmp_Or_int NN (show GamOk Pr (Gbits_Order kbits_rank kcmp_Compare_int64 kcmp_Compare_int kcmp_Or_int) from (.cons (okbits_rank) rfl (.cons (okcmp_Compare_int64) rfl (.cons (okcmp_Compare_int) rfl (.cons (okcmp_Or_int) rfl GamOk.nil))))) namesA
noncomputable def kspan_lesser : Mo := mspan_lesser kbits_Order NN
theorem okspan_lesser : SmOk Pr 98 (smM Rspan_lesser kspan_lesser) := gspan_lesser_sm kbits_Order NN (show GamOk Pr (Gspan_lesser kbits_Order) from (.cons (okbits_Order) rfl GamOk.nil)) namesA
noncomputable def kspan_greater : Mo := mspan_greater kbits_Order NN
theorem okspan_greater : SmOk Pr 99 (smM Rspan_greater kspan_greater) := gspan_greater_sm kbits_Order NN (show GamOk Pr (Gspan_greater kbits_Order) from (.cons (okbits_Order) rfl GamOk.nil)) namesA
noncomputable def kround_Mul : Mo := mround_Mul kround_way kround_finite kround_plain kround_sign kround_settle kmath_IsInf kround_of kround_times kround_cmp NN
theorem okround_Mul : SmOk Pr 85 (smM Rround_Mul kround_Mul) := ground_Mul_sm kround_way kround_finite kround_plain kround_sign kround_settle kmath_IsInf kround_of kround_times kround_cmp NN (show GamOk Pr (Ground_Mul kround_way kround_finite kround_plain kround_sign kround_settle kmath_IsInf kround_of kround_times kround_cmp) from (.cons (okround_way) rfl (.cons (okround_finite) rfl (.cons (okround_plain) rfl (.cons (okround_sign) rfl (.cons (okround_settle) rfl (.cons (okmath_IsInf) rfl (.cons (stub_ok _ _) rfl (.cons (stub_ok _ _) rfl (.cons (stub_ok _ _) rfl (.cons ext76 rfl GamOk.nil))))))))))) namesA
noncomputable def kspan_Mul_c1 : Mo := mspan_Mul_c1 kround_Mul NN
theorem okspan_Mul_c1 : SmOk Pr 84 (smM Rspan_Mul_c1 kspan_Mul_c1) := gspan_Mul_c1_sm kround_Mul NN (show GamOk Pr (Gspan_Mul_c1 kround_Mul) from (.cons (okround_Mul) rfl GamOk.nil)) namesA
noncomputable def kround_Div : Mo := mround_Div kround_way kround_finite kround_plain kround_sign kround_settle kmath_IsInf kround_of kround_times kround_cmp NN
theorem okround_Div : SmOk Pr 83 (smM Rround_Div kround_Div) := ground_Div_sm kround_way kround_finite kround_plain kround_sign kround_settle kmath_IsInf kround_of kround_times kround_cmp NN (show GamOk Pr (Ground_Div kround_way kround_finite kround_plain kround_sign kround_settle kmath_IsInf kround_of kround_times kround_cmp) from (.cons (okround_way) rfl (.cons (okround_finite) rfl (.cons (okround_plain) rfl (.cons (okround_sign) rfl (.cons (okround_settle) rfl (.cons (okmath_IsInf) rfl (.cons (stub_ok _ _) rfl (.cons (stub_ok _ _) rfl (.cons (stub_ok _ _) rfl (.cons ext76 rfl GamOk.nil))))))))))) namesA
noncomputable def kspan_Div_c1 : Mo := mspan_Div_c1 kround_Div NN
theorem okspan_Div_c1 : SmOk Pr 82 (smM Rspan_Div_c1 kspan_Div_c1) := gspan_Div_c1_sm kround_Div NN (show GamOk Pr (Gspan_Div_c1 kround_Div) from (.cons (okround_Div) rfl GamOk.nil)) namesA
noncomputable def kspan_corners_a : Mo := mspan_corners_a kspan_lesser kspan_greater kspan_Mul_c1 kspan_Div_c1 NN
theorem okspan_corners_a : XOk Pr 81 (smX Rspan_corners_a Xspan_corners_a kspan_corners_a) Xspan_corners_a := gspan_corners_a_sm kspan_lesser kspan_greater kspan_Mul_c1 kspan_Div_c1 NN (show GamOk Pr (Gspan_corners_a kspan_lesser kspan_greater kspan_Mul_c1 kspan_Div_c1) from (.cons (okspan_lesser) rfl (.cons (okspan_greater) rfl (.cons (okspan_Mul_c1) rfl (.cons (okspan_Div_c1) rfl GamOk.nil))))) namesA
noncomputable def kspan_corners_b : Mo := mspan_corners_b kspan_lesser kspan_greater kspan_Mul_c1 kspan_Div_c1 NN
theorem okspan_corners_b : XOk Pr 81 (smX Rspan_corners_b Xspan_corners_b kspan_corners_b) Xspan_corners_b := gspan_corners_b_sm kspan_lesser kspan_greater kspan_Mul_c1 kspan_Div_c1 NN (show GamOk Pr (Gspan_corners_b kspan_lesser kspan_greater kspan_Mul_c1 kspan_Div_c1) from (.cons (okspan_lesser) rfl (.cons (okspan_greater) rfl (.cons (okspan_Mul_c1) rfl (.cons (okspan_Div_c1) rfl GamOk.nil))))) namesA
noncomputable def kspan_Mul : Mo := mspan_Mul kspan_right kspan_Mul_c1 kspan_corners_a kspan_corners_b NN
theorem okspan_Mul : SmOk Pr 62 (smM Rspan_Mul kspan_Mul) := gspan_Mul_sm kspan_right kspan_Mul_c1 kspan_corners_a kspan_corners_b NN (show GamOk Pr (Gspan_Mul kspan_right kspan_Mul_c1 kspan_corners_a kspan_corners_b) from (.cons (okspan_right) rfl (.cons (okspan_Mul_c1) rfl (.consX rfl okspan_corners_a (.consX rfl okspan_corners_b GamOk.nil))))) namesA
noncomputable def kbars_times : Mo := mbars_times kspan_Mul NN
theorem okbars_times : SmOk Pr 41 (smM Rbars_times kbars_times) := gbars_times_sm kspan_Mul NN (show GamOk Pr (Gbars_times kspan_Mul) from (.cons (okspan_Mul) rfl GamOk.nil)) namesA
noncomputable def kspan_Div : Mo := mspan_Div kspan_right kspan_Div_c1 kspan_corners_a kspan_corners_b NN
theorem okspan_Div : SmOk Pr 61 (smM Rspan_Div kspan_Div) := gspan_Div_sm kspan_right kspan_Div_c1 kspan_corners_a kspan_corners_b NN (show GamOk Pr (Gspan_Div kspan_right kspan_Div_c1 kspan_corners_a kspan_corners_b) from (.cons (okspan_right) rfl (.cons (okspan_Div_c1) rfl (.consX rfl okspan_corners_a (.consX rfl okspan_corners_b GamOk.nil))))) namesA
noncomputable def kbars_spring : Mo := mbars_spring kspan_Div NN
theorem okbars_spring : SmOk Pr 40 (smM Rbars_spring kbars_spring) := gbars_spring_sm kspan_Div NN (show GamOk Pr (Gbars_spring kspan_Div) from (.cons (okspan_Div) rfl GamOk.nil)) namesA
noncomputable def kbars_stands : Mo := mbars_stands  NN
theorem okbars_stands : SmOk Pr 44 (smM Rbars_stands kbars_stands) := gbars_stands_sm  NN (show GamOk Pr (Gbars_stands ) from GamOk.nil) namesA
noncomputable def kbars_springs_c1 : Mo := mbars_springs_c1 kbars_one kbars_times kbars_spring NN
theorem okbars_springs_c1 : SmOk Pr 43 (smM Rbars_springs_c1 kbars_springs_c1) := gbars_springs_c1_sm kbars_one kbars_times kbars_spring NN (show GamOk Pr (Gbars_springs_c1 kbars_one kbars_times kbars_spring) from (.cons (okbars_one) rfl (.cons (okbars_times) rfl (.cons (okbars_spring) rfl GamOk.nil)))) namesA
noncomputable def kbars_springs_a : Mo := mbars_springs_a kjoints_Apart kjoints_Length kbars_one kbars_times kbars_spring kbars_stands kbars_springs_c1 NN
theorem okbars_springs_a : XOk Pr 20 (smX Rbars_springs_a Xbars_springs_a kbars_springs_a) Xbars_springs_a := gbars_springs_a_sm kjoints_Apart kjoints_Length kbars_one kbars_times kbars_spring kbars_stands kbars_springs_c1 NN (show GamOk Pr (Gbars_springs_a kjoints_Apart kjoints_Length kbars_one kbars_times kbars_spring kbars_stands kbars_springs_c1) from (.cons (okjoints_Apart) rfl (.cons (okjoints_Length) rfl (.cons (okbars_one) rfl (.cons (okbars_times) rfl (.cons (okbars_spring) rfl (.cons (okbars_stands) rfl (.cons (okbars_springs_c1) rfl GamOk.nil)))))))) namesA
noncomputable def kbars_Springs : Mo := mbars_Springs kbars_Check kbars_springs_a NN
theorem okbars_Springs : SmOk Pr 6 (smM Rbars_Springs kbars_Springs) := gbars_Springs_sm kbars_Check kbars_springs_a NN (show GamOk Pr (Gbars_Springs kbars_Check kbars_springs_a) from (.cons (okbars_Check) rfl (.consX rfl okbars_springs_a GamOk.nil))) namesA
noncomputable def kref02_NatTrim : Mo := mref02_NatTrim  NN
theorem okref02_NatTrim : SmOk Pr 63 (smM Rref02_NatTrim kref02_NatTrim) := gref02_NatTrim_sm  NN (show GamOk Pr (Gref02_NatTrim ) from GamOk.nil) namesA
noncomputable def kref02_NatOf : Mo := mref02_NatOf kref02_NatTrim NN
theorem okref02_NatOf : SmOk Pr 45 (smM Rref02_NatOf kref02_NatOf) := gref02_NatOf_sm kref02_NatTrim NN (show GamOk Pr (Gref02_NatOf kref02_NatTrim) from (.cons (okref02_NatTrim) rfl GamOk.nil)) namesA
noncomputable def kref02_Whole : Mo := mref02_Whole kref02_NatOf NN
theorem okref02_Whole : SmOk Pr 21 (smM Rref02_Whole kref02_Whole) := gref02_Whole_sm kref02_NatOf NN (show GamOk Pr (Gref02_Whole kref02_NatOf) from (.cons (okref02_NatOf) rfl GamOk.nil)) namesA
noncomputable def kref01_fields : Mo := mref01_fields  NN
theorem okref01_fields : SmOk Pr 68 (smM Rref01_fields kref01_fields) := gref01_fields_sm  NN (show GamOk Pr (Gref01_fields ) from (.cons ext55 rfl GamOk.nil)) namesA
noncomputable def kref01_Kind : Mo := mref01_Kind kref01_fields NN
theorem okref01_Kind : SmOk Pr 87 (smM Rref01_Kind kref01_Kind) := gref01_Kind_sm kref01_fields NN (show GamOk Pr (Gref01_Kind kref01_fields) from (.cons (okref01_fields) rfl GamOk.nil)) namesA
noncomputable def kref01_Finite : Mo := mref01_Finite kref01_Kind NN
theorem okref01_Finite : SmOk Pr 67 (smM Rref01_Finite kref01_Finite) := gref01_Finite_sm kref01_Kind NN (show GamOk Pr (Gref01_Finite kref01_Kind) from (.cons (okref01_Kind) rfl GamOk.nil)) namesA
noncomputable def kref01_Split : Mo := mref01_Split kref01_Finite kref01_fields NN
theorem okref01_Split : SmOk Pr 47 (smM Rref01_Split kref01_Split) := gref01_Split_sm kref01_Finite kref01_fields NN (show GamOk Pr (Gref01_Split kref01_Finite kref01_fields) from (.cons (okref01_Finite) rfl (.cons (okref01_fields) rfl GamOk.nil))) namesA
noncomputable def kref02_Float : Mo := mref02_Float kref01_Split kref02_NatOf NN
theorem okref02_Float : SmOk Pr 23 (smM Rref02_Float kref02_Float) := gref02_Float_sm kref01_Split kref02_NatOf NN (show GamOk Pr (Gref02_Float kref01_Split kref02_NatOf) from (.cons (okref01_Split) rfl (.cons (okref02_NatOf) rfl GamOk.nil))) namesA
noncomputable def klaw19_exact : Mo := mlaw19_exact kref02_Float NN
theorem oklaw19_exact : SmOk Pr 9 (smM Rlaw19_exact klaw19_exact) := glaw19_exact_sm kref02_Float NN (show GamOk Pr (Glaw19_exact kref02_Float) from (.cons (okref02_Float) rfl GamOk.nil)) namesA
noncomputable def kref02_low : Mo := mref02_low  NN
theorem okref02_low : SmOk Pr 86 (smM Rref02_low kref02_low) := gref02_low_sm  NN (show GamOk Pr (Gref02_low ) from GamOk.nil) namesA
noncomputable def kref02_halves : Mo := mref02_halves kref02_low NN
theorem okref02_halves : SmOk Pr 66 (smM Rref02_halves kref02_halves) := gref02_halves_sm kref02_low NN (show GamOk Pr (Gref02_halves kref02_low) from (.cons (okref02_low) rfl GamOk.nil)) namesA
noncomputable def kref02_product : Mo := mref02_product kref02_low NN
theorem okref02_product : SmOk Pr 65 (smM Rref02_product kref02_product) := gref02_product_sm kref02_low NN (show GamOk Pr (Gref02_product kref02_low) from (.cons (okref02_low) rfl GamOk.nil)) namesA
noncomputable def kref02_limbs : Mo := mref02_limbs kref02_NatTrim NN
theorem okref02_limbs : SmOk Pr 64 (smM Rref02_limbs kref02_limbs) := gref02_limbs_sm kref02_NatTrim NN (show GamOk Pr (Gref02_limbs kref02_NatTrim) from (.cons (okref02_NatTrim) rfl GamOk.nil)) namesA
noncomputable def kref02_NatMul : Mo := mref02_NatMul kref02_halves kref02_product kref02_limbs NN
theorem okref02_NatMul : SmOk Pr 46 (smM Rref02_NatMul kref02_NatMul) := gref02_NatMul_sm kref02_halves kref02_product kref02_limbs NN (show GamOk Pr (Gref02_NatMul kref02_halves kref02_product kref02_limbs) from (.cons (okref02_halves) rfl (.cons (okref02_product) rfl (.cons (okref02_limbs) rfl GamOk.nil)))) namesA
noncomputable def kref02_Times : Mo := mref02_Times kref02_NatMul NN
theorem okref02_Times : SmOk Pr 22 (smM Rref02_Times kref02_Times) := gref02_Times_sm kref02_NatMul NN (show GamOk Pr (Gref02_Times kref02_NatMul) from (.cons (okref02_NatMul) rfl GamOk.nil)) namesA
noncomputable def klaw19_times : Mo := mlaw19_times kref02_Whole kref02_Times NN
theorem oklaw19_times : SmOk Pr 8 (smM Rlaw19_times klaw19_times) := glaw19_times_sm kref02_Whole kref02_Times NN (show GamOk Pr (Glaw19_times kref02_Whole kref02_Times) from (.cons (okref02_Whole) rfl (.cons (okref02_Times) rfl GamOk.nil))) namesA
noncomputable def klaw19_true2 : Mo := mlaw19_true2 kref02_Whole klaw19_exact klaw19_times NN
theorem oklaw19_true2 : SmOk Pr 7 (smM Rlaw19_true2 klaw19_true2) := glaw19_true2_sm kref02_Whole klaw19_exact klaw19_times NN (show GamOk Pr (Glaw19_true2 kref02_Whole klaw19_exact klaw19_times) from (.cons (okref02_Whole) rfl (.cons (oklaw19_exact) rfl (.cons (oklaw19_times) rfl GamOk.nil)))) namesA
noncomputable def kref02_NatBits : Mo := mref02_NatBits kref02_NatTrim NN
theorem okref02_NatBits : SmOk Pr 49 (smM Rref02_NatBits kref02_NatBits) := gref02_NatBits_sm kref02_NatTrim NN (show GamOk Pr (Gref02_NatBits kref02_NatTrim) from (.cons (okref02_NatTrim) rfl GamOk.nil)) namesA
noncomputable def kref02_Num_Zero : Mo := mref02_Num_Zero kref02_NatBits NN
theorem okref02_Num_Zero : SmOk Pr 48 (smM Rref02_Num_Zero kref02_Num_Zero) := gref02_Num_Zero_sm kref02_NatBits NN (show GamOk Pr (Gref02_Num_Zero kref02_NatBits) from (.cons (okref02_NatBits) rfl GamOk.nil)) namesA
noncomputable def kref02_Num_Sign : Mo := mref02_Num_Sign kref02_Num_Zero NN
theorem okref02_Num_Sign : SmOk Pr 24 (smM Rref02_Num_Sign kref02_Num_Sign) := gref02_Num_Sign_sm kref02_Num_Zero NN (show GamOk Pr (Gref02_Num_Sign kref02_Num_Zero) from (.cons (okref02_Num_Zero) rfl GamOk.nil)) namesA
noncomputable def kref02_Num_top : Mo := mref02_Num_top kref02_NatBits NN
theorem okref02_Num_top : SmOk Pr 25 (smM Rref02_Num_top kref02_Num_top) := gref02_Num_top_sm kref02_NatBits NN (show GamOk Pr (Gref02_Num_top kref02_NatBits) from (.cons (okref02_NatBits) rfl GamOk.nil)) namesA
noncomputable def kref02_Minus : Mo := mref02_Minus  NN
theorem okref02_Minus : SmOk Pr 27 (smM Rref02_Minus kref02_Minus) := gref02_Minus_sm  NN (show GamOk Pr (Gref02_Minus ) from GamOk.nil) namesA
noncomputable def kref02_NatUp : Mo := mref02_NatUp kref02_halves kref02_limbs NN
theorem okref02_NatUp : SmOk Pr 50 (smM Rref02_NatUp kref02_NatUp) := gref02_NatUp_sm kref02_halves kref02_limbs NN (show GamOk Pr (Gref02_NatUp kref02_halves kref02_limbs) from (.cons (okref02_halves) rfl (.cons (okref02_limbs) rfl GamOk.nil))) namesA
noncomputable def kref02_digit : Mo := mref02_digit  NN
theorem okref02_digit : SmOk Pr 69 (smM Rref02_digit kref02_digit) := gref02_digit_sm  NN (show GamOk Pr (Gref02_digit ) from GamOk.nil) namesA
noncomputable def kref02_NatAdd : Mo := mref02_NatAdd kref02_halves kref02_digit kref02_limbs NN
theorem okref02_NatAdd : SmOk Pr 51 (smM Rref02_NatAdd kref02_NatAdd) := gref02_NatAdd_sm kref02_halves kref02_digit kref02_limbs NN (show GamOk Pr (Gref02_NatAdd kref02_halves kref02_digit kref02_limbs) from (.cons (okref02_halves) rfl (.cons (okref02_digit) rfl (.cons (okref02_limbs) rfl GamOk.nil)))) namesA
noncomputable def kref02_NatCmp : Mo := mref02_NatCmp kref02_NatTrim NN
theorem okref02_NatCmp : SmOk Pr 52 (smM Rref02_NatCmp kref02_NatCmp) := gref02_NatCmp_sm kref02_NatTrim NN (show GamOk Pr (Gref02_NatCmp kref02_NatTrim) from (.cons (okref02_NatTrim) rfl GamOk.nil)) namesA
noncomputable def kref02_NatSub : Mo := mref02_NatSub kref02_halves kref02_digit kref02_limbs NN
theorem okref02_NatSub : SmOk Pr 53 (smM Rref02_NatSub kref02_NatSub) := gref02_NatSub_sm kref02_halves kref02_digit kref02_limbs NN (show GamOk Pr (Gref02_NatSub kref02_halves kref02_digit kref02_limbs) from (.cons (okref02_halves) rfl (.cons (okref02_digit) rfl (.cons (okref02_limbs) rfl GamOk.nil)))) namesA
noncomputable def kref02_Plus : Mo := mref02_Plus kref02_Num_Zero kref02_NatUp kref02_NatAdd kref02_NatCmp kref02_NatSub NN
theorem okref02_Plus : SmOk Pr 26 (smM Rref02_Plus kref02_Plus) := gref02_Plus_sm kref02_Num_Zero kref02_NatUp kref02_NatAdd kref02_NatCmp kref02_NatSub NN (show GamOk Pr (Gref02_Plus kref02_Num_Zero kref02_NatUp kref02_NatAdd kref02_NatCmp kref02_NatSub) from (.cons (okref02_Num_Zero) rfl (.cons (okref02_NatUp) rfl (.cons (okref02_NatAdd) rfl (.cons (okref02_NatCmp) rfl (.cons (okref02_NatSub) rfl GamOk.nil)))))) namesA
noncomputable def kref02_Compare : Mo := mref02_Compare kref02_Num_Sign kref02_Num_top kref02_Minus kref02_Plus NN
theorem okref02_Compare : SmOk Pr 10 (smM Rref02_Compare kref02_Compare) := gref02_Compare_sm kref02_Num_Sign kref02_Num_top kref02_Minus kref02_Plus NN (show GamOk Pr (Gref02_Compare kref02_Num_Sign kref02_Num_top kref02_Minus kref02_Plus) from (.cons (okref02_Num_Sign) rfl (.cons (okref02_Num_top) rfl (.cons (okref02_Minus) rfl (.cons (okref02_Plus) rfl GamOk.nil))))) namesA
noncomputable def klaw19_beam : Mo := mlaw19_beam  NN
theorem oklaw19_beam : SmOk Pr 29 (smM Rlaw19_beam klaw19_beam) := glaw19_beam_sm  NN (show GamOk Pr (Glaw19_beam ) from GamOk.nil) namesA
noncomputable def klaw19_three : Mo := mlaw19_three  NN
theorem oklaw19_three : SmOk Pr 28 (smM Rlaw19_three klaw19_three) := glaw19_three_sm  NN (show GamOk Pr (Glaw19_three ) from GamOk.nil) namesA
noncomputable def kbars_places : Mo := mbars_places kbars_stands NN
theorem okbars_places : SmOk Pr 54 (smM Rbars_places kbars_places) := gbars_places_sm kbars_stands NN (show GamOk Pr (Gbars_places kbars_stands) from (.cons (okbars_stands) rfl GamOk.nil)) namesA
noncomputable def kbars_Unknowns : Mo := mbars_Unknowns kbars_Check kbars_places NN
theorem okbars_Unknowns : SmOk Pr 30 (smM Rbars_Unknowns kbars_Unknowns) := gbars_Unknowns_sm kbars_Check kbars_places NN (show GamOk Pr (Gbars_Unknowns kbars_Check kbars_places) from (.cons (okbars_Check) rfl (.cons (okbars_places) rfl GamOk.nil))) namesA
noncomputable def klaw19_awake : Mo := fun xs => match xs with
  | [] => some (AV.bool true)
  | _ => none
theorem oklaw19_awake : SmOk Pr 11 (smM Rlaw19_awake klaw19_awake) := sm0 (fuel := NN) (d := 7) (show GamOk Pr (Glaw19_awake klaw19_beam klaw19_three kbars_Springs kbars_Unknowns) from (.cons (oklaw19_beam) rfl (.cons (oklaw19_three) rfl (.cons (okbars_Springs) rfl (.cons (okbars_Unknowns) rfl GamOk.nil))))) namesA fun xs v h => by
  unfold klaw19_awake at h
  split at h
  · exact Eq.trans (by kernel_rfl) h
  · cases h
noncomputable def klaw19_BarsTrue : Mo := mlaw19_BarsTrue kmade_Sketch_Plan kbars_Springs klaw19_true2 klaw19_exact klaw19_times kref02_Compare klaw19_awake NN
theorem oklaw19_BarsTrue : SmOk Pr 3 (smM Rlaw19_BarsTrue klaw19_BarsTrue) := glaw19_BarsTrue_sm kmade_Sketch_Plan kbars_Springs klaw19_true2 klaw19_exact klaw19_times kref02_Compare klaw19_awake NN (show GamOk Pr (Glaw19_BarsTrue kmade_Sketch_Plan kbars_Springs klaw19_true2 klaw19_exact klaw19_times kref02_Compare klaw19_awake) from (.cons (okmade_Sketch_Plan) rfl (.cons (okbars_Springs) rfl (.cons (oklaw19_true2) rfl (.cons (oklaw19_exact) rfl (.cons (oklaw19_times) rfl (.cons (okref02_Compare) rfl (.cons (oklaw19_awake) rfl GamOk.nil)))))))) namesA
end Go.Proofs.Tryz
end
section
namespace Go.Proofs.Tryz
open Go Go.Am Ieee.Pos
set_option maxRecDepth 100000

abbrev F (x : Nat) : AV := .flt .f64 (some x)
/-- A positive normal word whose exponent field lies from lo to hi. -/
def In (lo hi x : Nat) : Prop := Norm x ∧ lo ≤ ex x ∧ ex x ≤ hi
theorem In.mono {a b c d x : Nat} (h : In a b x) (h1 : c ≤ a) (h2 : b ≤ d) : In c d x := ⟨h.1, Nat.le_trans h1 h.2.1, Nat.le_trans h.2.2 h2⟩

theorem ford_d (x y : Nat) : ford .f64 (some x) (some y) = Ieee.double.order x y := rfl
theorem ford_n {x y : Nat} (hx : Norm x) (hy : Norm y) : ford .f64 (some x) (some y) = some (compare x y) := order_norm hx hy
theorem ford_0 {x : Nat} (hx : Norm x) : ford .f64 (some x) (some 0) = some .gt := order_0 hx
theorem ford_s {x : Nat} (hx : Norm x) : ford .f64 (some x) (some x) = some .eq := by rw [ford_n hx hx, cmp_eq]
theorem c_lt (a b : Nat) : (some (compare a b) == some Ordering.lt) = decide (a < b) := by
  rcases Nat.lt_trichotomy a b with h | h | h
  · rw [cmp_lt h, decide_eq_true h]; rfl
  · subst h; rw [cmp_eq, decide_eq_false (by omega)]; rfl
  · rw [cmp_gt h, decide_eq_false (by omega)]; rfl
theorem c_gt (a b : Nat) : (some (compare a b) == some Ordering.gt) = decide (b < a) := by
  rcases Nat.lt_trichotomy a b with h | h | h
  · rw [cmp_lt h, decide_eq_false (by omega)]; rfl
  · subst h; rw [cmp_eq, decide_eq_false (by omega)]; rfl
  · rw [cmp_gt h, decide_eq_true h]; rfl
theorem c_eq (a b : Nat) : (some (compare a b) == some Ordering.eq) = decide (a = b) := by
  rcases Nat.lt_trichotomy a b with h | h | h
  · rw [cmp_lt h, decide_eq_false (by omega)]; rfl
  · subst h; rw [cmp_eq, decide_eq_true rfl]; rfl
  · rw [cmp_gt h, decide_eq_false (by omega)]; rfl

theorem wrapu {n : Nat} (h : n < 18446744073709551616) : IntKind.u64.wrap ((n : Nat) : Int) = n := by
  rw [IntKind.wrap_u64]; omega
theorem wrapi {n : Int} (h1 : -9223372036854775808 ≤ n) (h2 : n < 9223372036854775808) : IntKind.i64.wrap n = n := by
  rw [IntKind.wrap_i64]; omega

theorem okF (o : Option Nat) : okM [RS.one (LK.f .f64)] (some (.flt .f64 o)) = true := rfl
theorem okQ (b : Bool) : okM [RS.one LK.b] (some (.bool b)) = true := rfl
theorem okI (n : Int) : okM [RS.one (LK.i .i64)] (some (.int .i64 n)) = true := rfl
theorem okI8 (n : Int) : okM [RS.one (LK.i .i8)] (some (.int .i8 n)) = true := rfl
theorem okIB (n : Int) (b : Bool) : okM [RS.one (LK.i .i64), RS.one LK.b] (some (.tup [.int .i64 n, .bool b])) = true := rfl
theorem okII (n m : Int) : okM [RS.one (LK.i .i64), RS.one (LK.i .i64)] (some (.tup [.int .i64 n, .int .i64 m])) = true := rfl
theorem okFF (o p : Option Nat) : okM [RS.agg [LK.f .f64, LK.f .f64]] (some (.agg [.flt .f64 o, .flt .f64 p])) = true := rfl
theorem gV (v : AV) : getV (some v) = v := rfl
theorem tF (k : FloatKind) (x : Option Nat) : toF (.flt k x) = x := rfl
theorem tB (b : Bool) : toB (.bool b) = b := rfl
theorem tI (k : IntKind) (n : Int) : toI (.int k n) = n := rfl
theorem tC (l : List AV) : toC (.agg l) = l := rfl
theorem tT (l : List AV) : toT (.tup l) = l := rfl
theorem hD (a : AV) (l : List AV) : (a :: l).headD .dead = a := rfl
theorem fF (x : Nat) : fitK (LK.f .f64) (F x) = true := rfl
theorem okBits (x : Nat) : sBits.ok [F x] = true := rfl
theorem okFrom (n : Int) : sFrom.ok [.int .u64 n] = true := rfl
theorem okFma (a b c : Option Nat) : sFma.ok [.flt .f64 a, .flt .f64 b, .flt .f64 c] = true := rfl

section
variable {x : Nat} (hx : Norm x)
include hx
theorem k_abs : kmath_Abs [F x] = some (F x) := by
  show gmath_Abs NN (some x) = _
  unfold gmath_Abs
  rw [okBits, ck_true, okFrom, ck_true, Option.getD_some, abs_word hx.1, wrapu (by have := hx.1; omega)]
  rfl
omit hx in
theorem norm_max : Norm 9218868437227405311 := by unfold Norm ex; omega
theorem k_nan : kmath_IsNaN [F x] = some (.bool false) := by
  show some (AV.bool (ford .f64 (some x) (some x) != some Ordering.eq)) = _
  rw [ford_s hx]; rfl
theorem k_inf0 : kmath_IsInf [F x, .int .i64 0] = some (.bool false) := by
  show gmath_IsInf kmath_Abs NN (some x) 0 = _
  unfold gmath_IsInf
  rw [k_abs hx, okF, ck_true, gV, tF, ford_n hx norm_max, c_gt, decide_eq_false (by have := hx.2.2; unfold ex at this; omega)]
  rfl
theorem k_signbit : kmath_Signbit [F x] = some (.bool false) := by
  show some (AV.bool (decide (IntKind.i64.wrap ((x : Nat) : Int) < 0))) = _
  rw [wrapi (by omega) (by have := hx.1; omega), decide_eq_false (by omega)]
end

theorem wrap_s {i : Nat} (h : i < 4611686018427387904) : IntKind.i64.wrap ((i : Int) + 1) = ((i + 1 : Nat) : Int) := by
  rw [wrapi] <;> omega

theorem finite_all (n r : Nat) (hn : n < 4611686018427387904) (g : Ge) (w : Nat → Nat) (hg : ∀ i, i < n → g i 0 = F (w i)) (hw : ∀ i, i < n → Norm (w i)) (kx0 : Bool → Option AV) (kx1 : Option AV) :
    ∀ (m q i : Nat), i + m = n → ground_finite_l0 kmath_IsNaN kmath_IsInf NN kx0 kx1 n r g n (q + m + 1) i = kx1
  | 0, q, i, h => by
    obtain rfl : i = n := by omega
    show ground_finite_l0_step kmath_IsNaN kmath_IsInf NN _ kx0 kx1 i r g i i = _
    unfold ground_finite_l0_step
    rw [decide_eq_false (by omega), cond_false]
  | m + 1, q, i, h => by
    have ih := finite_all n r hn g w hg hw kx0 kx1 m q (i + 1) (by omega)
    show ground_finite_l0_step kmath_IsNaN kmath_IsInf NN (ground_finite_l0 kmath_IsNaN kmath_IsInf NN kx0 kx1 n r g n (q + m + 1)) kx0 kx1 n r g n i = _
    unfold ground_finite_l0_step
    rw [decide_eq_true (show (i : Int) < n by omega), decide_eq_true (show (0 : Int) ≤ i by omega), wrap_s (by omega), Int.toNat_natCast, hg i (by omega), fF, tF, k_nan (hw i (by omega)), k_inf0 (hw i (by omega)), ih]
    rfl
theorem k_finite (n r : Nat) (hn : n < 1000) (g : Ge) (w : Nat → Nat) (hg : ∀ i, i < n → g i 0 = F (w i)) (hw : ∀ i, i < n → Norm (w i)) : kround_finite [.ro 1 n r g] = some (.bool true) := by
  show ground_finite kmath_IsNaN kmath_IsInf NN n r g = _
  unfold ground_finite
  have e := finite_all n r (by omega) g w hg hw (fun b => some (AV.bool b)) (some (AV.bool true)) n (NN - n - 1) 0 (by omega)
  rw [show NN - n - 1 + n + 1 = NN by unfold NN; omega] at e
  exact e

theorem plain_all (n r : Nat) (hn : n < 4611686018427387904) (g : Ge) (w : Nat → Nat) (hg : ∀ i, i < n → g i 0 = F (w i)) (hw : ∀ i, i < n → In 200 1900 (w i)) (kx0 : Bool → Option AV) (kx1 : Option AV) :
    ∀ (m q i : Nat), i + m = n → ground_plain_l0 NN kx0 kx1 n r g n (q + m + 1) i = kx1
  | 0, q, i, h => by
    obtain rfl : i = n := by omega
    show ground_plain_l0_step NN _ kx0 kx1 i r g i i = _
    unfold ground_plain_l0_step
    rw [decide_eq_false (by omega), cond_false]
  | m + 1, q, i, h => by
    have ih := plain_all n r hn g w hg hw kx0 kx1 m q (i + 1) (by omega)
    show ground_plain_l0_step NN (ground_plain_l0 NN kx0 kx1 n r g n (q + m + 1)) kx0 kx1 n r g n i = _
    unfold ground_plain_l0_step
    obtain ⟨h1, h2, h3⟩ := hw i (by omega)
    have h4 := h1.1
    rw [decide_eq_true (show (i : Int) < n by omega), decide_eq_true (show (0 : Int) ≤ i by omega), wrap_s (by omega), Int.toNat_natCast, hg i (by omega), fF, tF, okBits, Option.getD_some, field_word h1.1, wrapu (by unfold ex at h3; unfold ex; omega), decide_eq_false (show ¬ ((ex (w i) : Nat) : Int) < 200 by omega), decide_eq_false (show ¬ ((ex (w i) : Nat) : Int) > 1900 by omega), ih]
    rfl
theorem k_plain (n r : Nat) (hn : n < 1000) (g : Ge) (w : Nat → Nat) (hg : ∀ i, i < n → g i 0 = F (w i)) (hw : ∀ i, i < n → In 200 1900 (w i)) : kround_plain [.ro 1 n r g] = some (.bool true) := by
  show ground_plain NN n r g = _
  unfold ground_plain
  have e := plain_all n r (by omega) g w hg hw (fun b => some (AV.bool b)) (some (AV.bool true)) n (NN - n - 1) 0 (by omega)
  rw [show NN - n - 1 + n + 1 = NN by unfold NN; omega] at e
  exact e

/-- The sign of a float: 1, -1, or 0. -/
def sg (o : Option Nat) : Int := bif ford .f64 o (some 0) == some Ordering.gt then 1 else bif ford .f64 o (some 0) == some Ordering.lt then -1 else 0
theorem k_sign (o : Option Nat) : kround_sign [.flt .f64 o] = some (.int .i64 (sg o)) := by
  show ground_sign NN o = _
  unfold ground_sign sg
  generalize ford .f64 o (some 0) = c
  rcases c with _ | c
  · rfl
  · cases c <;> rfl
theorem sg_pos {x : Nat} (hx : Norm x) : sg (some x) = 1 := by unfold sg; rw [ford_0 hx]; rfl
theorem sg_wrap (o : Option Nat) {x : Nat} (hx : Norm x) : IntKind.i64.wrap (sg o * sg (some x)) = sg o := by
  rw [sg_pos hx, Int.mul_one]
  unfold sg
  cases ford .f64 o (some 0) == some Ordering.gt <;> cases ford .f64 o (some 0) == some Ordering.lt <;> rfl

/-- The three ways of rounding that are used. -/
def Way (m : Int) : Prop := m = 0 ∨ m = 1 ∨ m = 2
theorem k_way {m : Int} (h : Way m) : kround_way [.int .i8 m] = some (.int .i8 m) := by
  rcases h with rfl | rfl | rfl <;> rfl

theorem k_step {p : Nat} (hp : Norm p) (up : Bool) : kround_step [F p, .bool up] = some (F (bif up then p + 1 else p - 1)) := by
  have h1 := hp.1
  have h2 : 1 ≤ p := by have := hp.2.1; unfold ex at this; omega
  show ground_step NN (some p) up = _
  unfold ground_step
  rw [okBits, ck_true, ford_0 hp, okFrom, okFrom, Option.getD_some, show ((p : Nat) : Int) + 1 = ((p + 1 : Nat) : Int) by omega, show ((p : Nat) : Int) - 1 = ((p - 1 : Nat) : Int) by omega, wrapu (by omega), wrapu (by omega)]
  cases up <;> rfl
theorem k_settle {p : Nat} (hp : Norm p) (off m : Int) (hm : Way m) : kround_settle [F p, .int .i64 off, .int .i8 m] = some (F (adj p off m)) := by
  show ground_settle kmath_Signbit kmath_IsInf kmath_Copysign kround_step NN (some p) off m = _
  unfold ground_settle adj
  rw [k_signbit hp, k_inf0 hp, k_step hp]
  rcases hm with rfl | rfl | rfl
  · cases decide (off < 0) <;> cases decide (off > 0) <;> rfl
  · by_cases h : off < 0
    · rw [decide_eq_true h, decide_eq_false (show ¬ off > 0 by omega)]; rfl
    · rw [decide_eq_false h]; cases decide (off > 0) <;> rfl
  · by_cases h : off < 0
    · rw [decide_eq_true h, decide_eq_false (show ¬ off > 0 by omega)]; rfl
    · rw [decide_eq_false h]; cases decide (off > 0) <;> rfl

theorem neg_w {p : Nat} (hp : p < 9223372036854775808) : Op.negFloat .f64 p = p + 9223372036854775808 := xor_sign hp
end Go.Proofs.Tryz
end
section
namespace Go.Proofs.Tryz
open Go Go.Am Ieee.Pos
set_option maxRecDepth 100000

def adjM (p : Nat) (m : Int) (a b : Nat) : Nat := adj p (sg (Ieee.double.fma a b (Op.negFloat .f64 p))) m
def adjD (q : Nat) (m : Int) (a b : Nat) : Nat := adj q (sg (Ieee.double.fma (Op.negFloat .f64 q) b a)) m
def adjR (r : Nat) (m : Int) (a : Nat) : Nat := adj r (sg (Ieee.double.fma (Op.negFloat .f64 r) r a)) m
/-- Products, quotients, roots, rounded in one of three ways. -/
def mulV (m : Int) (a b : Nat) : Nat := adjM ((Ieee.double.mul a b).getD 0) m a b
def divV (m : Int) (a b : Nat) : Nat := adjD ((Ieee.double.div a b).getD 0) m a b
def rootV (m : Int) (a : Nat) : Nat := adjR ((Ieee.double.sqrt a).getD 0) m a

theorem two {x y : Nat} {P : Nat → Prop} (hx : P x) (hy : P y) : ∀ i, i < 2 → P ([x, y].getD i 0) := fun i hi => by
  have : i = 0 ∨ i = 1 := by omega
  rcases this with rfl | rfl
  · exact hx
  · exact hy
theorem three {x y z : Nat} {P : Nat → Prop} (hx : P x) (hy : P y) (hz : P z) : ∀ i, i < 3 → P ([x, y, z].getD i 0) := fun i hi => by
  have : i = 0 ∨ i = 1 ∨ i = 2 := by omega
  rcases this with rfl | rfl | rfl
  · exact hx
  · exact hy
  · exact hz
theorem one' {x : Nat} {P : Nat → Prop} (hx : P x) : ∀ i, i < 1 → P ([x].getD i 0) := fun i hi => by
  obtain rfl : i = 0 := by omega
  exact hx
theorem l2 (x y : Nat) : ∀ i, i < 2 → (([[F x], [F y]].getD i []).getD 0 AV.dead) = F ([x, y].getD i 0) := fun i hi => by
  have : i = 0 ∨ i = 1 := by omega
  rcases this with rfl | rfl <;> rfl
theorem l3 (x y z : Nat) : ∀ i, i < 3 → (([[F x], [F y], [F z]].getD i []).getD 0 AV.dead) = F ([x, y, z].getD i 0) := fun i hi => by
  have : i = 0 ∨ i = 1 ∨ i = 2 := by omega
  rcases this with rfl | rfl | rfl <;> rfl
theorem l1 (x : Nat) : ∀ i, i < 1 → (([[F x]].getD i []).getD 0 AV.dead) = F ([x].getD i 0) := fun i hi => by
  obtain rfl : i = 0 := by omega
  rfl
theorem gt_eq : (some Ordering.gt == some Ordering.eq) = false := rfl
theorem gt_lt : (some Ordering.gt == some Ordering.lt) = false := rfl

section
variable {a b p : Nat} (ha : In 200 1900 a) (hb : In 200 1900 b)
include ha hb
theorem k_fin2 : kround_finite [.ro 1 2 2 fun i j => ([[F a], [F b]].getD i []).getD j .dead] = some (.bool true) :=
  k_finite 2 2 (by omega) _ (fun i => [a, b].getD i 0) (l2 a b) (two ha.1 hb.1)
theorem k_pl3 (hp : In 200 1900 p) : kround_plain [.ro 1 3 3 fun i j => ([[F a], [F b], [F p]].getD i []).getD j .dead] = some (.bool true) :=
  k_plain 3 3 (by omega) _ (fun i => [a, b, p].getD i 0) (l3 a b p) (three ha hb hp)

theorem k_mul' (e : Ieee.double.mul a b = some p) (hp : In 200 1900 p) {m : Int} (hm : Way m) : kround_Mul [F a, F b, .int .i8 m] = some (F (adjM p m a b)) := by
  have e1 : farith .mul .f64 (some a) (some b) = some p := e
  show ground_Mul kround_way kround_finite kround_plain kround_sign kround_settle kmath_IsInf kround_of kround_times kround_cmp NN (some a) (some b) m = _
  unfold ground_Mul
  rw [e1, k_way hm, okI8, ck_true, k_fin2 ha hb, okQ, ck_true, gV, tB, ford_0 ha.1, ford_0 hb.1, gt_eq, Bool.not_true, cond_false, cond_false, cond_false, k_pl3 ha hb hp, okQ, ck_true, gV, tB, cond_true, okFma, ck_true, k_sign, okI, ck_true, gV, tI, gV, tI, k_settle hp.1 _ _ hm, okF, ck_true, gV, tF]
  rfl
theorem k_div' (e : Ieee.double.div a b = some p) (hp : In 200 1900 p) {m : Int} (hm : Way m) : kround_Div [F a, F b, .int .i8 m] = some (F (adjD p m a b)) := by
  have e1 : farith .quo .f64 (some a) (some b) = some p := e
  show ground_Div kround_way kround_finite kround_plain kround_sign kround_settle kmath_IsInf kround_of kround_times kround_cmp NN (some a) (some b) m = _
  unfold ground_Div
  rw [e1, k_way hm, okI8, ck_true, k_fin2 ha hb, okQ, ck_true, gV, tB, ford_0 ha.1, ford_0 hb.1, gt_eq, Bool.not_true, cond_false, cond_false, cond_false, k_pl3 ha hb hp, okQ, ck_true, gV, tB, cond_true, okFma, ck_true, k_sign, okI, ck_true, k_sign, okI, ck_true, gV, tI, gV, tI, gV, tI, sg_wrap _ hb.1, k_settle hp.1 _ _ hm, okF, ck_true, gV, tF]
  rfl
end
theorem k_sqrt (a : Nat) : kmath_Sqrt [F a] = some (.flt .f64 (Ieee.double.sqrt a)) := rfl
theorem k_root' {a r : Nat} (ha : In 200 1900 a) (e : Ieee.double.sqrt a = some r) (hr : Norm r) {m : Int} (hm : Way m) : kround_Sqrt [F a, .int .i8 m] = some (F (adjR r m a)) := by
  show ground_Sqrt kround_way kmath_Sqrt kround_finite kround_plain kround_sign kround_settle kround_of kround_times kround_cmp NN (some a) m = _
  unfold ground_Sqrt
  have f1 : kround_finite [.ro 1 1 1 fun i j => ([[F a]].getD i []).getD j .dead] = some (.bool true) := k_finite 1 1 (by omega) _ (fun i => [a].getD i 0) (l1 a) (one' ha.1)
  have f2 : kround_plain [.ro 1 1 1 fun i j => ([[F a]].getD i []).getD j .dead] = some (.bool true) := k_plain 1 1 (by omega) _ (fun i => [a].getD i 0) (l1 a) (one' ha)
  rw [k_way hm, okI8, ck_true, k_sqrt, e, okF, ck_true, f1, okQ, ck_true, gV, tB, ford_0 ha.1, gt_eq, gt_lt, Bool.not_true, Bool.or_false, cond_false, cond_false, f2, okQ, ck_true, gV, tB, cond_true, gV, tF, okFma, ck_true, k_sign, okI, ck_true, gV, tI, gV, tI, k_settle hr _ _ hm, okF, ck_true, gV, tF]
  rfl
/-- Where factors lie so, the product is told by both in the same way. -/
theorem mul_all {l1 h1 l2 h2 lo hi a b : Nat} (ha : In l1 h1 a) (hb : In l2 h2 b) (hl : lo + 1024 ≤ l1 + l2) (hh : h1 + h2 ≤ hi + 1020) (c1 : 200 ≤ l1) (c2 : h1 ≤ 1900) (c3 : 200 ≤ l2) (c4 : h2 ≤ 1900) (c5 : 200 ≤ lo) (c6 : hi ≤ 1900) {m : Int} (hm : Way m) :
    kround_Mul [F a, F b, .int .i8 m] = some (F (mulV m a b)) ∧ True ∧ In lo hi (mulV m a b) := by
  obtain ⟨na, a1, a2⟩ := ha
  obtain ⟨nb, b1, b2⟩ := hb
  obtain ⟨p, e, np, p1, p2⟩ := mul_ex na nb (by omega) (by omega)
  have e2 : mulV m a b = adjM p m a b := by unfold mulV; rw [e]; rfl
  obtain ⟨q0, q1, q2⟩ := adj_ex np (by omega) (by omega) (sg (Ieee.double.fma a b (Op.negFloat .f64 p))) m
  rw [e2]
  refine ⟨k_mul' ⟨na, by omega, by omega⟩ ⟨nb, by omega, by omega⟩ e ⟨np, by omega, by omega⟩ hm, trivial, q0, ?_, ?_⟩ <;> unfold adjM <;> omega
theorem div_all {l1 h1 l2 h2 lo hi a b : Nat} (ha : In l1 h1 a) (hb : In l2 h2 b) (hl : lo + h2 ≤ l1 + 1021) (hh : h1 + 1025 ≤ hi + l2) (c1 : 200 ≤ l1) (c2 : h1 ≤ 1900) (c3 : 200 ≤ l2) (c4 : h2 ≤ 1900) (c5 : 200 ≤ lo) (c6 : hi ≤ 1900) {m : Int} (hm : Way m) :
    kround_Div [F a, F b, .int .i8 m] = some (F (divV m a b)) ∧ True ∧ In lo hi (divV m a b) := by
  obtain ⟨na, a1, a2⟩ := ha
  obtain ⟨nb, b1, b2⟩ := hb
  obtain ⟨p, e, np, p1, p2⟩ := div_ex na nb (by omega) (by omega)
  have e2 : divV m a b = adjD p m a b := by unfold divV; rw [e]; rfl
  obtain ⟨q0, q1, q2⟩ := adj_ex np (by omega) (by omega) (sg (Ieee.double.fma (Op.negFloat .f64 p) b a)) m
  rw [e2]
  refine ⟨k_div' ⟨na, by omega, by omega⟩ ⟨nb, by omega, by omega⟩ e ⟨np, by omega, by omega⟩ hm, trivial, q0, ?_, ?_⟩ <;> unfold adjD <;> omega
theorem root_all {a : Nat} (ha : In 1023 1066 a) {m : Int} (hm : Way m) :
    kround_Sqrt [F a, .int .i8 m] = some (F (rootV m a)) ∧ True ∧ In 1022 1046 (rootV m a) := by
  obtain ⟨na, a1, a2⟩ := ha
  obtain ⟨p, e, np, p1, p2⟩ := sqrt_ex na
  have e2 : rootV m a = adjR p m a := by unfold rootV; rw [e]; rfl
  obtain ⟨q0, q1, q2⟩ := adj_ex np (by omega) (by omega) (sg (Ieee.double.fma (Op.negFloat .f64 p) p a)) m
  rw [e2]
  refine ⟨k_root' ⟨na, by omega, by omega⟩ e np hm, trivial, q0, ?_, ?_⟩ <;> unfold adjR <;> omega
end Go.Proofs.Tryz
end
section
namespace Go.Proofs.Tryz
open Go Go.Am Ieee.Pos
set_option maxRecDepth 100000

def ordI (a b : Nat) : Int := bif decide (a < b) then -1 else bif decide (b < a) then 1 else 0
theorem tl (a : AV) (l : List AV) : (a :: l).tail = l := rfl

section
variable {x : Nat} (hx : Norm x)
include hx
theorem k_place : kbits_Place [F x] = some (.tup [.int .i64 x, .bool true]) := by
  show gbits_Place kmath_Abs NN (some x) = _
  unfold gbits_Place
  rw [ford_s hx, k_abs hx, okF, ck_true, gV, tF, okBits, ck_true, ford_0 hx, Option.getD_some, wrapi (n := ((x : Nat) : Int)) (by omega) (by have := hx.1; omega)]
  rfl
theorem pos_x : 0 < x := by have := hx.2.1; unfold ex at this; omega
theorem k_rank : kbits_rank [F x] = some (.tup [.int .i64 x, .int .i64 0]) := by
  have h0 : (((x : Nat) : Int) == 0) = false := by
    have := pos_x hx
    have h : ¬ ((x : Nat) : Int) = 0 := by omega
    simpa using h
  show gbits_rank kbits_Place kmath_Signbit NN (some x) = _
  unfold gbits_rank
  rw [k_place hx]
  dsimp only
  rw [okIB, ck_true, gV, tT, hD, tl, hD, tI, tB, h0]
  rfl
end

theorem k_cmp (a b : Nat) : kcmp_Compare_int64 [.int .i64 a, .int .i64 b] = some (.int .i64 (ordI a b)) := by
  have e : ∀ n : Int, kcmp_isNaN_int64 [.int .i64 n] = some (.bool false) := fun n => by
    show some (AV.bool (n != n)) = _
    rw [bne_self_eq_false]
  show gcmp_Compare_int64 kcmp_isNaN_int64 NN a b = _
  unfold gcmp_Compare_int64 ordI
  rw [e, e, okQ, ck_true, ck_true, gV, tB, cond_false, cond_false]
  have e1 : decide (((a : Nat) : Int) < ((b : Nat) : Int)) = decide (a < b) := decide_eq_decide.2 (by omega)
  have e2 : decide (((a : Nat) : Int) > ((b : Nat) : Int)) = decide (b < a) := decide_eq_decide.2 (by omega)
  rw [e1, e2]
  cases decide (a < b) <;> cases decide (b < a) <;> rfl
theorem k_cmp0 : kcmp_Compare_int [.int .i64 0, .int .i64 0] = some (.int .i64 0) := rfl
theorem or_spec (f : Nat) (c : Int) : gcmp_Or_int (f + 3) 2 2 (fun i j => ([[AV.int .i64 c], [AV.int .i64 0]].getD i []).getD j .dead) = some (.int .i64 c) := by
  unfold gcmp_Or_int
  show gcmp_Or_int_l0_step _ (gcmp_Or_int_l0 _ _ _ 0 2 2 _ 2 (f + 2)) _ _ 0 2 2 _ 2 0 = _
  unfold gcmp_Or_int_l0_step
  by_cases h : c = 0
  · subst h; rfl
  · have h1 : (c != 0) = true := by simpa using h
    show (bif c != 0 then some (AV.int .i64 c) else _) = _
    rw [h1, cond_true]
theorem k_or (c : Int) : kcmp_Or_int [.ro 1 2 2 fun i j => ([[AV.int .i64 c], [AV.int .i64 0]].getD i []).getD j .dead] = some (.int .i64 c) := by
  show gcmp_Or_int NN 2 2 (fun i j => ([[AV.int .i64 c], [AV.int .i64 0]].getD i []).getD j .dead) = _
  have e : NN = 1125899906842621 + 3 := by unfold NN; omega
  rw [e]
  exact or_spec _ c

section
variable {a b : Nat} (ha : Norm a) (hb : Norm b)
include ha hb
theorem k_order : kbits_Order [F a, F b] = some (.int .i64 (ordI a b)) := by
  show gbits_Order kbits_rank kcmp_Compare_int64 kcmp_Compare_int kcmp_Or_int NN (some a) (some b) = _
  unfold gbits_Order
  rw [k_rank ha, k_rank hb]
  dsimp only
  simp only [okII, ck_true, gV, tT, tl, hD, tI, k_cmp, k_cmp0, okI, k_or]
end
theorem ord_lt (a b : Nat) : decide (ordI b a < 0) = decide (b < a) := by
  unfold ordI
  rcases Nat.lt_trichotomy b a with h | h | h
  · rw [decide_eq_true h]; rfl
  · subst h; rw [decide_eq_false (Nat.lt_irrefl b)]; rfl
  · rw [decide_eq_false (show ¬ b < a by omega), decide_eq_true h]; rfl
theorem ord_gt (a b : Nat) : decide (ordI b a > 0) = decide (a < b) := by
  unfold ordI
  rcases Nat.lt_trichotomy b a with h | h | h
  · rw [decide_eq_true h, decide_eq_false (show ¬ a < b by omega)]; rfl
  · subst h; rw [decide_eq_false (Nat.lt_irrefl b)]; rfl
  · rw [decide_eq_false (show ¬ b < a by omega), decide_eq_true h]; rfl
theorem min_b (a b : Nat) : (bif decide (b < a) then some (F b) else some (F a)) = some (F (min a b)) := by
  by_cases h : b < a
  · rw [decide_eq_true h, Nat.min_eq_right (by omega)]; rfl
  · rw [decide_eq_false h, Nat.min_eq_left (by omega)]; rfl
theorem max_b (a b : Nat) : (bif decide (a < b) then some (F b) else some (F a)) = some (F (max a b)) := by
  by_cases h : a < b
  · rw [decide_eq_true h, Nat.max_eq_right (by omega)]; rfl
  · rw [decide_eq_false h, Nat.max_eq_left (by omega)]; rfl
section
variable {a b : Nat} (ha : Norm a) (hb : Norm b)
include ha hb
theorem k_lesser : kspan_lesser [F a, F b] = some (F (min a b)) := by
  show gspan_lesser kbits_Order NN (some a) (some b) = _
  unfold gspan_lesser
  rw [k_order hb ha, okI, ck_true, gV, tI, ord_lt, min_b]
theorem k_greater : kspan_greater [F a, F b] = some (F (max a b)) := by
  show gspan_greater kbits_Order NN (some a) (some b) = _
  unfold gspan_greater
  rw [k_order hb ha, okI, ck_true, gV, tI, ord_gt, max_b]
theorem k_Right (h : a ≤ b) : kspan_Right [.agg [F a, F b]] = some (.bool true) := by
  have i1 : ∀ o, ford .f64 o (some 9218868437227405312) = ford .f64 o (some 9218868437227405312) := fun _ => rfl
  have e1 : kmath_Inf [.int .i64 1] = some (F 9218868437227405312) := rfl
  have e2 : kmath_Inf [.int .i64 (-1)] = some (F 18442240474082181120) := rfl
  show gspan_Right kmath_Inf NN (some a) (some b) = _
  unfold gspan_Right
  rw [e1, e2, okF, okF, gV, gV, tF, tF, ford_n ha hb, ford_d a, order_inf ha, ford_d b, order_minf hb, c_lt, c_eq]
  by_cases h1 : a < b
  · rw [decide_eq_true h1]; rfl
  · rw [decide_eq_false h1, decide_eq_true (show a = b by omega)]; rfl
end
end Go.Proofs.Tryz
end
section
namespace Go.Proofs.Tryz
open Go Go.Am Ieee.Pos
set_option maxRecDepth 100000

/-- A span of positive normal words. -/
def SIn (l h : Nat) (s : Nat × Nat) : Prop := In l h s.1 ∧ In l h s.2 ∧ s.1 ≤ s.2
abbrev SA (s : Nat × Nat) : AV := .agg [F s.1, F s.2]
def corn (f : Int → Nat → Nat → Nat) (s t : Nat × Nat) : Nat × Nat :=
  (min (min (f 1 s.1 t.1) (f 1 s.1 t.2)) (min (f 1 s.2 t.1) (f 1 s.2 t.2)), max (max (f 2 s.1 t.1) (f 2 s.1 t.2)) (max (f 2 s.2 t.1) (f 2 s.2 t.2)))
def mulS : Nat × Nat → Nat × Nat → Nat × Nat := corn mulV
def divS : Nat × Nat → Nat × Nat → Nat × Nat := corn divV
theorem In.min {l h a b : Nat} (ha : In l h a) (hb : In l h b) : In l h (min a b) := by
  rcases Nat.le_total a b with h | h
  · rw [Nat.min_eq_left h]; exact ha
  · rw [Nat.min_eq_right h]; exact hb
theorem In.max {l h a b : Nat} (ha : In l h a) (hb : In l h b) : In l h (max a b) := by
  rcases Nat.le_total a b with h | h
  · rw [Nat.max_eq_right h]; exact hb
  · rw [Nat.max_eq_left h]; exact ha
theorem adj_le (p : Nat) (off : Int) : adj p off 1 ≤ adj p off 2 := by
  unfold adj
  cases decide (off < 0) <;> cases decide (off > 0) <;> simp <;> omega
theorem mulV_le (a b : Nat) : mulV 1 a b ≤ mulV 2 a b := adj_le _ _
theorem divV_le (a b : Nat) : divV 1 a b ≤ divV 2 a b := adj_le _ _
theorem corn_le {f : Int → Nat → Nat → Nat} (h : ∀ a b, f 1 a b ≤ f 2 a b) (s t : Nat × Nat) : (corn f s t).1 ≤ (corn f s t).2 :=
  Nat.le_trans (Nat.le_trans (Nat.min_le_left _ _) (Nat.min_le_left _ _)) (Nat.le_trans (h _ _) (Nat.le_trans (Nat.le_max_left _ _) (Nat.le_max_left _ _)))
theorem w1 : Way 1 := Or.inr (Or.inl rfl)
theorem w2 : Way 2 := Or.inr (Or.inr rfl)
theorem w0 : Way 0 := Or.inl rfl

theorem k_right {a b c d : Nat} (ha : Norm a) (hb : Norm b) (hc : Norm c) (hd : Norm d) (h1 : a ≤ b) (h2 : c ≤ d) :
    kspan_right [.ro 2 2 2 fun i j => ([[F a, F b], [F c, F d]].getD i []).getD j .dead] = some (.bool true) := by
  have e : NN = 1125899906842621 + 3 := by unfold NN; omega
  have hs : ∀ f, gspan_right kspan_Right (f + 3) 2 2 (fun i j => ([[F a, F b], [F c, F d]].getD i []).getD j .dead) = some (.bool true) := fun f => by
    unfold gspan_right
    show gspan_right_l0_step kspan_Right _ (gspan_right_l0 kspan_Right _ _ _ 2 2 _ 2 (f + 2)) _ _ 2 2 _ 2 0 = _
    unfold gspan_right_l0_step
    show ck (okM [RS.one LK.b] (kspan_Right [.agg [F a, F b]])) (bif !toB (getV (kspan_Right [.agg [F a, F b]])) then _ else gspan_right_l0 kspan_Right _ _ _ 2 2 _ 2 (f + 2) 1) = _
    rw [k_Right ha hb h1, okQ, ck_true, gV, tB, Bool.not_true, cond_false]
    show gspan_right_l0_step kspan_Right _ (gspan_right_l0 kspan_Right _ _ _ 2 2 _ 2 (f + 1)) _ _ 2 2 _ 2 1 = _
    unfold gspan_right_l0_step
    show ck (okM [RS.one LK.b] (kspan_Right [.agg [F c, F d]])) (bif !toB (getV (kspan_Right [.agg [F c, F d]])) then _ else gspan_right_l0 kspan_Right _ _ _ 2 2 _ 2 (f + 1) 2) = _
    rw [k_Right hc hd h2]
    rfl
  show gspan_right kspan_Right NN 2 2 (fun i j => ([[F a, F b], [F c, F d]].getD i []).getD j .dead) = _
  rw [e]
  exact hs _

/-! ### Mul -/
theorem k_mulc {a b l1 h1 l2 h2 lo hi : Nat} (ha : In l1 h1 a) (hb : In l2 h2 b) (hl : lo + 1024 ≤ l1 + l2) (hh : h1 + h2 ≤ hi + 1020) (c1 : 200 ≤ l1) (c2 : h1 ≤ 1900) (c3 : 200 ≤ l2) (c4 : h2 ≤ 1900) (c5 : 200 ≤ lo) (c6 : hi ≤ 1900) {m : Int} (hm : Way m) :
    kspan_Mul_c1 [F a, F b, .int .i8 m] = some (F (mulV m a b)) ∧ True ∧ In lo hi (mulV m a b) := by
  obtain ⟨e1, e2, e3⟩ := mul_all ha hb hl hh c1 c2 c3 c4 c5 c6 hm
  refine ⟨?_, ?_, e3⟩
  · show gspan_Mul_c1 kround_Mul NN (some a) (some b) m = _
    unfold gspan_Mul_c1
    rw [e1, okF, ck_true, gV, tF, ford_s e3.1]
    rfl
  · trivial

theorem mulS_all {s t : Nat × Nat} {l1 h1 l2 h2 lo hi : Nat} (hs : SIn l1 h1 s) (ht : SIn l2 h2 t) (hl : lo + 1024 ≤ l1 + l2) (hh : h1 + h2 ≤ hi + 1020) (c1 : 200 ≤ l1) (c2 : h1 ≤ 1900) (c3 : 200 ≤ l2) (c4 : h2 ≤ 1900) (c5 : 200 ≤ lo) (c6 : hi ≤ 1900) :
    kspan_Mul [SA s, SA t] = some (.tup [SA (mulS s t), .int .i64 0]) ∧ True ∧ SIn lo hi (mulS s t) := by
  obtain ⟨s1, s2, sl⟩ := hs
  obtain ⟨t1, t2, tl'⟩ := ht
  obtain ⟨a1, b1, i1⟩ := k_mulc s1 t1 hl hh c1 c2 c3 c4 c5 c6 w1
  obtain ⟨a2, b2, i2⟩ := k_mulc s1 t2 hl hh c1 c2 c3 c4 c5 c6 w1
  obtain ⟨a3, b3, i3⟩ := k_mulc s2 t1 hl hh c1 c2 c3 c4 c5 c6 w1
  obtain ⟨a4, b4, i4⟩ := k_mulc s2 t2 hl hh c1 c2 c3 c4 c5 c6 w1
  obtain ⟨a5, b5, i5⟩ := k_mulc s1 t1 hl hh c1 c2 c3 c4 c5 c6 w2
  obtain ⟨a6, b6, i6⟩ := k_mulc s1 t2 hl hh c1 c2 c3 c4 c5 c6 w2
  obtain ⟨a7, b7, i7⟩ := k_mulc s2 t1 hl hh c1 c2 c3 c4 c5 c6 w2
  obtain ⟨a8, b8, i8⟩ := k_mulc s2 t2 hl hh c1 c2 c3 c4 c5 c6 w2
  have hin : SIn lo hi (mulS s t) := ⟨(i1.min i2).min (i3.min i4), (i5.max i6).max (i7.max i8), corn_le mulV_le s t⟩
  refine ⟨?_, ?_, hin⟩
  · have e : kspan_corners_a [SA s, SA t, .fn (Fn.func 84) [] []] = some (.tup [SA (mulS s t)]) := by
      show gspan_corners_a kspan_lesser kspan_greater kspan_Mul_c1 kspan_Div_c1 NN (some s.1) (some s.2) (some t.1) (some t.2) = _
      unfold gspan_corners_a
      simp only [a1, a2, a3, a4, a5, a6, a7, a8, okF, gV, tF, ck_true, k_lesser i1.1 i2.1, k_lesser (i1.min i2).1 i3.1, k_lesser ((i1.min i2).min i3).1 i4.1, k_greater i5.1 i6.1, k_greater (i5.max i6).1 i7.1, k_greater ((i5.max i6).max i7).1 i8.1]
      unfold mulS corn SA
      simp only [Nat.min_assoc, Nat.max_assoc]
    show gspan_Mul kspan_right kspan_Mul_c1 kspan_corners_a kspan_corners_b NN (some s.1) (some s.2) (some t.1) (some t.2) = _
    unfold gspan_Mul
    rw [k_right s1.1 s2.1 t1.1 t2.1 sl tl', okQ, ck_true, gV, tB, Bool.not_true, cond_false]
    rw [e]
    rfl
  · trivial

/-! ### Div -/
theorem k_divc {a b l1 h1 l2 h2 lo hi : Nat} (ha : In l1 h1 a) (hb : In l2 h2 b) (hl : lo + h2 ≤ l1 + 1021) (hh : h1 + 1025 ≤ hi + l2) (c1 : 200 ≤ l1) (c2 : h1 ≤ 1900) (c3 : 200 ≤ l2) (c4 : h2 ≤ 1900) (c5 : 200 ≤ lo) (c6 : hi ≤ 1900) {m : Int} (hm : Way m) :
    kspan_Div_c1 [F a, F b, .int .i8 m] = some (F (divV m a b)) ∧ True ∧ In lo hi (divV m a b) := by
  obtain ⟨e1, e2, e3⟩ := div_all ha hb hl hh c1 c2 c3 c4 c5 c6 hm
  refine ⟨?_, ?_, e3⟩
  · show gspan_Div_c1 kround_Div NN (some a) (some b) m = _
    unfold gspan_Div_c1
    rw [e1, okF, ck_true, gV, tF, ford_s e3.1]
    rfl
  · trivial

theorem divS_all {s t : Nat × Nat} {l1 h1 l2 h2 lo hi : Nat} (hs : SIn l1 h1 s) (ht : SIn l2 h2 t) (hl : lo + h2 ≤ l1 + 1021) (hh : h1 + 1025 ≤ hi + l2) (c1 : 200 ≤ l1) (c2 : h1 ≤ 1900) (c3 : 200 ≤ l2) (c4 : h2 ≤ 1900) (c5 : 200 ≤ lo) (c6 : hi ≤ 1900) :
    kspan_Div [SA s, SA t] = some (.tup [SA (divS s t), .int .i64 0]) ∧ True ∧ SIn lo hi (divS s t) := by
  obtain ⟨s1, s2, sl⟩ := hs
  obtain ⟨t1, t2, tl'⟩ := ht
  obtain ⟨a1, b1, i1⟩ := k_divc s1 t1 hl hh c1 c2 c3 c4 c5 c6 w1
  obtain ⟨a2, b2, i2⟩ := k_divc s1 t2 hl hh c1 c2 c3 c4 c5 c6 w1
  obtain ⟨a3, b3, i3⟩ := k_divc s2 t1 hl hh c1 c2 c3 c4 c5 c6 w1
  obtain ⟨a4, b4, i4⟩ := k_divc s2 t2 hl hh c1 c2 c3 c4 c5 c6 w1
  obtain ⟨a5, b5, i5⟩ := k_divc s1 t1 hl hh c1 c2 c3 c4 c5 c6 w2
  obtain ⟨a6, b6, i6⟩ := k_divc s1 t2 hl hh c1 c2 c3 c4 c5 c6 w2
  obtain ⟨a7, b7, i7⟩ := k_divc s2 t1 hl hh c1 c2 c3 c4 c5 c6 w2
  obtain ⟨a8, b8, i8⟩ := k_divc s2 t2 hl hh c1 c2 c3 c4 c5 c6 w2
  have hin : SIn lo hi (divS s t) := ⟨(i1.min i2).min (i3.min i4), (i5.max i6).max (i7.max i8), corn_le divV_le s t⟩
  refine ⟨?_, ?_, hin⟩
  · have e : kspan_corners_b [SA s, SA t, .fn (Fn.func 82) [] []] = some (.tup [SA (divS s t)]) := by
      show gspan_corners_b kspan_lesser kspan_greater kspan_Mul_c1 kspan_Div_c1 NN (some s.1) (some s.2) (some t.1) (some t.2) = _
      unfold gspan_corners_b
      simp only [a1, a2, a3, a4, a5, a6, a7, a8, okF, gV, tF, ck_true, k_lesser i1.1 i2.1, k_lesser (i1.min i2).1 i3.1, k_lesser ((i1.min i2).min i3).1 i4.1, k_greater i5.1 i6.1, k_greater (i5.max i6).1 i7.1, k_greater ((i5.max i6).max i7).1 i8.1]
      unfold divS corn SA
      simp only [Nat.min_assoc, Nat.max_assoc]
    show gspan_Div kspan_right kspan_Div_c1 kspan_corners_a kspan_corners_b NN (some s.1) (some s.2) (some t.1) (some t.2) = _
    unfold gspan_Div
    rw [k_right s1.1 s2.1 t1.1 t2.1 sl tl', okQ, ck_true, gV, tB, Bool.not_true, cond_false]
    rw [ford_0 t1.1, ford_0 t2.1, gt_lt, gt_eq, Bool.or_false, cond_false, ck_true, cond_false, cond_false]
    rw [e]
    rfl
  · trivial
end Go.Proofs.Tryz
end
section
namespace Go.Proofs.Tryz
open Go Go.Am

theorem wrap_id {n : Int} (h1 : -9223372036854775808 ≤ n) (h2 : n < 9223372036854775808) : IntKind.i64.wrap n = n := by
  rw [IntKind.wrap_i64]; omega
theorem wrap_succ {i : Nat} (h : i < 4611686018427387904) : IntKind.i64.wrap ((i : Int) + 1) = ((i + 1 : Nat) : Int) := by
  rw [wrap_id] <;> omega
theorem fit_i {k : IntKind} {n : Int} : fitK (.i k) (.int k n) = true := by simp [fitK]
theorem cond_or {b c : Bool} : (bif b then true else c) = (b || c) := by cases b <;> rfl

def farB (a : Int) : Bool := decide (a < -1048576) || decide (a > 1048576)

theorem near_step (f k : Nat) (kx0 : Bool → Option AV) (kx1 : Option AV) (n r : Nat) (g : Nat → Nat → AV) (i : Nat) (a : Int) (hi : i < n) (hn : n < 4611686018427387904) (hg : g i 0 = .int .i32 a) :
    gjoints_near_l0 f kx0 kx1 n r g n (k + 1) i = bif farB a then kx0 false else gjoints_near_l0 f kx0 kx1 n r g n k ((i + 1 : Nat) : Int) := by
  have h1 : (i : Int) < n := by omega
  show gjoints_near_l0_step f _ kx0 kx1 n r g n i = _
  unfold gjoints_near_l0_step
  try unfold ck
  have hg' : g (Int.toNat (i : Int)) 0 = .int .i32 a := by simpa using hg
  rw [decide_eq_true h1, decide_eq_true (show (0 : Int) ≤ i by omega), cond_true, cond_true, cond_true, hg', fit_i, cond_true, wrap_succ (by omega), cond_or]
  rfl

theorem near_end (f k : Nat) (kx0 : Bool → Option AV) (kx1 : Option AV) (n r : Nat) (g : Nat → Nat → AV) : gjoints_near_l0 f kx0 kx1 n r g n (k + 1) n = kx1 := by
  show gjoints_near_l0_step f _ kx0 kx1 n r g n n = _
  unfold gjoints_near_l0_step
  try unfold ck
  rw [decide_eq_false (by omega), cond_false]

theorem near_spec (f : Nat) (r : Nat) (a b : Int) (g : Nat → Nat → AV) (h0 : g 0 0 = .int .i32 a) (h1 : g 1 0 = .int .i32 b) : gjoints_near (f + 3) 2 r g = some (.bool (!farB a && !farB b)) := by
  unfold gjoints_near
  try unfold ck
  have e0 := near_step (f + 3) (f + 2) (fun b => some (AV.bool b)) (some (.bool true)) 2 r g 0 a (by omega) (by omega) h0
  have e1 := near_step (f + 3) (f + 1) (fun b => some (AV.bool b)) (some (.bool true)) 2 r g 1 b (by omega) (by omega) h1
  have e2 := near_end (f + 3) f (fun b => some (AV.bool b)) (some (.bool true)) 2 r g
  refine e0.trans ?_
  cases ha : farB a
  · rw [cond_false]
    refine e1.trans ?_
    cases hb : farB b
    · rw [cond_false]; exact e2
    · rfl
  · rfl
end Go.Proofs.Tryz
end
section
namespace Go.Proofs.Tryz
open Go Go.Am

def letB (b : Int) : Bool := decide (b ≥ 97) && decide (b ≤ 122)
def digB (b : Int) : Bool := decide (b ≥ 48) && decide (b ≤ 57)
def okB (s : ByteArray) (i : Nat) : Bool := letB (sbyte s i) || (digB (sbyte s i) && decide (0 < i))
def allB (s : ByteArray) : Nat → Nat → Bool
  | 0, _ => true
  | k + 1, i => okB s i && allB s k (i + 1)
def nameB (s : ByteArray) : Bool := decide (1 ≤ s.size) && decide (s.size ≤ 8) && allB s s.size 0

theorem beq_zero {i : Nat} : ((i : Int) == 0) = !decide (0 < i) := by
  cases i with
  | zero => rfl
  | succ k =>
    rw [decide_eq_true (by omega)]
    have : ¬ ((k + 1 : Nat) : Int) = 0 := by omega
    simpa using this


theorem gbars_named_step (f k : Nat) (kx0 : Bool → Option AV) (kx1 : ByteArray → Option AV) (s : ByteArray) (i : Nat) (hi : i < s.size) (hn : s.size < 4611686018427387904) :
    gbars_named_l0 f kx0 kx1 s s.size (k + 1) i = bif okB s i then gbars_named_l0 f kx0 kx1 s s.size k ((i + 1 : Nat) : Int) else kx0 false := by
  have h1 : (i : Int) < s.size := by omega
  show gbars_named_l0_step f _ kx0 kx1 s s.size i = _
  unfold gbars_named_l0_step
  try unfold ck
  rw [decide_eq_true h1, decide_eq_true (show (0 : Int) ≤ i by omega), wrap_succ (by omega), beq_zero, Int.toNat_natCast]
  unfold okB letB digB
  generalize sbyte s i = b
  cases decide (b ≥ 97) <;> cases decide (b ≤ 122) <;> cases decide (b ≥ 48) <;> cases decide (b ≤ 57) <;> cases decide (0 < i) <;> rfl

theorem gbars_named_all (f : Nat) (kx0 : Bool → Option AV) (kx1 : ByteArray → Option AV) (s : ByteArray) (hn : s.size < 4611686018427387904) : ∀ (r k i : Nat), i + r = s.size → gbars_named_l0 f kx0 kx1 s s.size (k + r + 1) i = bif allB s r i then kx1 s else kx0 false
  | 0, k, i, h => by
    obtain rfl : i = s.size := by omega
    show gbars_named_l0_step f _ kx0 kx1 s s.size s.size = _
    unfold gbars_named_l0_step
    try unfold ck
    rw [decide_eq_false (by omega), cond_false]
    rfl
  | r + 1, k, i, h => by
    rw [show k + (r + 1) + 1 = (k + r + 1) + 1 by omega, gbars_named_step f _ kx0 kx1 s i (by omega) hn, gbars_named_all f kx0 kx1 s hn r k (i + 1) (by omega)]
    simp only [allB]
    cases okB s i <;> rfl

theorem name30 (f : Nat) (s : ByteArray) (hf : s.size < f) (hn : s.size < 4611686018427387904) : gbars_named f s = some (.bool (nameB s)) := by
  unfold gbars_named nameB
  try unfold ck
  have := gbars_named_all f (fun b => some (AV.bool b)) (fun s => some (AV.bool (bif decide ((s.size : Int) ≥ 1) then decide ((s.size : Int) ≤ 8) else false))) s hn s.size (f - s.size - 1) 0 (by omega)
  rw [show f - s.size - 1 + s.size + 1 = f by omega] at this
  refine this.trans ?_
  have e1 : decide ((s.size : Int) ≥ 1) = decide (1 ≤ s.size) := decide_eq_decide.2 (by omega)
  have e2 : decide ((s.size : Int) ≤ 8) = decide (s.size ≤ 8) := decide_eq_decide.2 (by omega)
  rw [e1, e2]
  cases allB s s.size 0 <;> cases decide (1 ≤ s.size) <;> cases decide (s.size ≤ 8) <;> rfl

theorem sbyte_get {s : ByteArray} {i : Nat} (h : i < s.size) : sbyte s i = ((s[i]'h).toNat : Int) := by
  unfold sbyte
  have : s.data[i]? = some (s[i]'h) := by
    rw [Array.getElem?_eq_getElem h]; rfl
  rw [this]; rfl

theorem gjoints_named_all (f : Nat) (kx0 : Bool → ByteArray → Nat → Option AV) (kx1 : ByteArray → Nat → Option AV) (s : ByteArray) : ∀ (r k i : Nat), i + r = s.size → ∃ p, gjoints_named_l0 f kx0 kx1 s (k + r + 1) i = bif allB s r i then kx1 s s.size else kx0 false s p
  | 0, k, i, h => by
    obtain rfl : i = s.size := by omega
    refine ⟨0, ?_⟩
    show gjoints_named_l0_step f _ kx0 kx1 s s.size = _
    unfold gjoints_named_l0_step
    try unfold ck
    have : Nat.blt s.size s.size = false := by
      cases hb : Nat.blt s.size s.size with
      | false => rfl
      | true => rw [Nat.blt_eq] at hb; omega
    rw [this]; rfl
  | r + 1, k, i, h => by
    have hi : i < s.size := by omega
    obtain ⟨p, ih⟩ := gjoints_named_all f kx0 kx1 s r k (i + 1) (by omega)
    have hb : Nat.blt i s.size = true := by simpa using hi
    have hst : gjoints_named_l0 f kx0 kx1 s (k + (r + 1) + 1) i = gjoints_named_l0_step f (gjoints_named_l0 f kx0 kx1 s (k + r + 1)) kx0 kx1 s i := rfl
    rw [hst]
    unfold gjoints_named_l0_step
    try unfold ck
    rw [hb, cond_true]
    have hsb := sbyte_get hi
    simp only [allB, okB]
    rw [hsb]
    by_cases hlo : (s[i]'hi).toNat < 128
    · rw [decode_ascii s i hi hlo]
      simp only
      have e1 : decide ((i : Int) > 0) = decide (0 < i) := decide_eq_decide.2 (by omega)
      rw [e1]
      refine ⟨if letB ((s[i]'hi).toNat : Int) || (digB ((s[i]'hi).toNat : Int) && decide (0 < i)) then p else i + 1, ?_⟩
      rw [ih]
      unfold letB digB
      generalize ((s[i]'hi).toNat : Int) = b
      cases decide (b ≥ 97) <;> cases decide (b ≤ 122) <;> cases decide (b ≥ 48) <;> cases decide (b ≤ 57) <;> cases decide (0 < i) <;> cases allB s r (i + 1) <;> rfl
    · have hd := decode_high s i hi (by omega)
      refine ⟨i + (Utf8.decode s i).2, ?_⟩
      have e1 : letB ((s[i]'hi).toNat : Int) = false := by
        unfold letB
        rw [decide_eq_false (show ¬ ((s[i]'hi).toNat : Int) ≤ 122 by omega), Bool.and_false]
      have e2 : digB ((s[i]'hi).toNat : Int) = false := by
        unfold digB
        rw [decide_eq_false (show ¬ ((s[i]'hi).toNat : Int) ≤ 57 by omega), Bool.and_false]
      rw [e1, e2, decide_eq_false (show ¬ (((Utf8.decode s i).1 : Nat) : Int) ≤ 122 by have := hd.1; omega), decide_eq_false (show ¬ (((Utf8.decode s i).1 : Nat) : Int) ≤ 57 by have := hd.1; omega)]
      cases decide ((((Utf8.decode s i).1 : Nat) : Int) ≥ 97) <;> cases decide ((((Utf8.decode s i).1 : Nat) : Int) ≥ 48) <;> rfl
end Go.Proofs.Tryz
end
section
namespace Go.Proofs.Tryz
open Go Go.Am

theorem strEq_iff (a b : ByteArray) : strEq a b = true ↔ a = b := by
  unfold strEq
  rw [← beq_toListBytes]
  exact MapKept.bytes_beq a b
theorem strEq_nil (s : ByteArray) : strEq s { data := #[] } = !decide (1 ≤ s.size) := by
  apply Bool.eq_iff_iff.2
  rw [strEq_iff]
  constructor
  · rintro rfl; rfl
  · intro h
    have h0 : s.size = 0 := by
      have : ¬ 1 ≤ s.size := by simpa using h
      omega
    exact ByteArray.size_eq_zero_iff.1 h0

theorem name28 (f : Nat) (s : ByteArray) (hf : s.size < f) : gjoints_named f s = some (.bool (nameB s)) := by
  unfold gjoints_named nameB
  try unfold ck
  rw [strEq_nil]
  have e2 : decide ((s.size : Int) > 8) = !decide (s.size ≤ 8) := by
    by_cases h : s.size ≤ 8
    · rw [decide_eq_true h, decide_eq_false (by omega)]; rfl
    · rw [decide_eq_false h, decide_eq_true (by omega)]; rfl
  rw [e2]
  cases decide (1 ≤ s.size)
  · rfl
  cases decide (s.size ≤ 8)
  · rfl
  obtain ⟨p, hp⟩ := gjoints_named_all f (fun b _ _ => some (AV.bool b)) (fun _ _ => some (.bool true)) s s.size (f - s.size - 1) 0 (by omega)
  rw [show f - s.size - 1 + s.size + 1 = f by omega] at hp
  refine hp.trans ?_
  cases allB s s.size 0 <;> rfl




end Go.Proofs.Tryz
end
section
namespace Go.Proofs.Tryz
open Go Go.Am
set_option maxRecDepth 100000

/-- Joints, as the program reads them. -/
structure JS where
  n : Nat
  nm : Nat → ByteArray
  x : Nat → Int
  y : Nat → Int
  fx : Nat → Int
def JS.Ok (J : JS) (g : Nat → Nat → AV) : Prop := ∀ i, i < J.n → g i 0 = .str (J.nm i) ∧ g i 1 = .int .i32 (J.x i) ∧ g i 2 = .int .i32 (J.y i) ∧ g i 3 = .int .u8 (J.fx i)

def anyLt (p : Nat → Bool) : Nat → Bool
  | 0 => false
  | k + 1 => anyLt p k || p k
def JS.bad (J : JS) (i : Nat) : Bool :=
  anyLt (fun k => strEq (J.nm i) (J.nm k)) i || anyLt (fun k => J.x i == J.x k && J.y i == J.y k) i || !nameB (J.nm i) || (farB (J.x i) || farB (J.y i)) || decide (J.fx i > 7)
def first (p : Nat → Bool) : Nat → Nat → Option Nat
  | 0, _ => none
  | r + 1, i => bif p i then some i else first p r (i + 1)
def JS.check (J : JS) : Int × Int := bif decide (J.n > 16) then (3, 0) else match first J.bad J.n 0 with
  | some i => (280, (i : Int))
  | none => (0, 0)

theorem okM_b (q : Bool) : okM [RS.one LK.b] (some (.bool q)) = true := rfl
theorem getV_b (q : Bool) : toB (getV (some (.bool q))) = q := rfl

theorem key9 (a b : ByteArray) : keyEq prog 9 (.str a) (.str b) = some (strEq a b) := by kernel_rfl
theorem key91 (a b c d : Int) : keyEq prog 114 (.agg [.int .i32 a, .int .i32 b]) (.agg [.int .i32 c, .int .i32 d]) = some (bif a == c then (bif b == d then true else false) else false) := by kernel_rfl
theorem fit3 (k : Int) : fit1 prog 3 (.int .i64 k) = true := by kernel_rfl

theorem findM_append (P : Program) (kt : Nat) (k : AV) (p : AV × AV) : ∀ l : List (AV × AV), (findM P kt k (l ++ [p])).isSome = ((findM P kt k l).isSome || isT (keyEq P kt k p.1))
  | [] => by simp only [List.nil_append, findM]; cases isT (keyEq P kt k p.1) <;> rfl
  | q :: l => by
    simp only [List.cons_append, findM]
    cases isT (keyEq P kt k q.1)
    · exact findM_append P kt k p l
    · rfl

def IntVals (l : List (AV × AV)) : Prop := ∀ p ∈ l, ∃ n, p.2 = .int .i64 n
theorem findM_fit (kt : Nat) (k : AV) : ∀ (l : List (AV × AV)), IntVals l → fit1 prog 3 ((findM prog kt k l).getD (.int .i64 0)) = true
  | [], _ => fit3 0
  | q :: l, h => by
    simp only [findM]
    cases isT (keyEq prog kt k q.1)
    · exact findM_fit kt k l (fun p hp => h p (List.mem_cons_of_mem _ hp))
    · obtain ⟨n, hn⟩ := h q (List.mem_cons_self ..)
      show fit1 prog 3 q.2 = true
      rw [hn]; exact fit3 n

section
variable (J : JS)
def JS.nl : Nat → List (AV × AV)
  | 0 => []
  | i + 1 => JS.nl i ++ [(.str (J.nm i), .int .i64 i)]
def JS.pl : Nat → List (AV × AV)
  | 0 => []
  | i + 1 => JS.pl i ++ [(.agg [.int .i32 (J.x i), .int .i32 (J.y i)], .int .i64 i)]
theorem nl_vals : ∀ i, IntVals (J.nl i)
  | 0 => by intro p hp; simp [JS.nl] at hp
  | i + 1 => by
    intro p hp
    simp only [JS.nl, List.mem_append, List.mem_singleton] at hp
    rcases hp with hp | rfl
    · exact nl_vals i p hp
    · exact ⟨_, rfl⟩
theorem pl_vals : ∀ i, IntVals (J.pl i)
  | 0 => by intro p hp; simp [JS.pl] at hp
  | i + 1 => by
    intro p hp
    simp only [JS.pl, List.mem_append, List.mem_singleton] at hp
    rcases hp with hp | rfl
    · exact pl_vals i p hp
    · exact ⟨_, rfl⟩
theorem nl_fit (s : ByteArray) : ∀ i, mapFit prog 9 (.str s) (J.nl i) = true
  | 0 => rfl
  | i + 1 => by
    have := nl_fit s i
    unfold mapFit at this ⊢
    simp only [JS.nl, List.all_append, this, List.all_cons, List.all_nil, key9, Option.isSome_some, Bool.and_self]
theorem pl_fit (a b : Int) : ∀ i, mapFit prog 114 (.agg [.int .i32 a, .int .i32 b]) (J.pl i) = true
  | 0 => rfl
  | i + 1 => by
    have := pl_fit a b i
    unfold mapFit at this ⊢
    simp only [JS.pl, List.all_append, this, List.all_cons, List.all_nil, key91, Option.isSome_some, Bool.and_self]
theorem nl_find (s : ByteArray) : ∀ i, (findM prog 9 (.str s) (J.nl i)).isSome = anyLt (fun k => strEq s (J.nm k)) i
  | 0 => rfl
  | i + 1 => by
    simp only [JS.nl, findM_append, key9, isT, anyLt, nl_find s i]
theorem pl_find (a b : Int) : ∀ i, (findM prog 114 (.agg [.int .i32 a, .int .i32 b]) (J.pl i)).isSome = anyLt (fun k => a == J.x k && b == J.y k) i
  | 0 => rfl
  | i + 1 => by
    simp only [JS.pl, findM_append, key91, isT, anyLt, pl_find a b i]
    cases a == J.x i <;> cases b == J.y i <;> rfl
end

structure Sp28 (M : List AV → Option AV) (B : Nat) : Prop where
  sp : ∀ s : ByteArray, s.size ≤ B → M [.str s] = some (.bool (nameB s))
structure Sp29 (M : List AV → Option AV) : Prop where
  sp : ∀ (r : Nat) (a b : Int) (g : Nat → Nat → AV), g 0 0 = .int .i32 a → g 1 0 = .int .i32 b → M [.ro 1 2 r g] = some (.bool (!farB a && !farB b))

theorem gjoints_Check_step {M28 M29 : List AV → Option AV} {B : Nat} (h28 : Sp28 M28 B) (h29 : Sp29 M29) (J : JS) (hJ : J.n < 4611686018427387904) (f k : Nat)
    (kx0 : Int → Int → List (AV × AV) → List (AV × AV) → ByteArray → Int → Int → Int → Option AV) (kx1 : List (AV × AV) → List (AV × AV) → Option AV) (r : Nat) (g : Nat → Nat → AV) (hg : J.Ok g) (i : Nat) (hi : i < J.n) (hB : (J.nm i).size ≤ B) :
    gjoints_Check_l0 M28 M29 f kx0 kx1 J.n r g J.n (k + 1) i (J.nl i) (J.pl i) = bif J.bad i then kx0 280 i (J.nl i) (J.pl i) (J.nm i) (J.x i) (J.y i) (J.fx i) else
      gjoints_Check_l0 M28 M29 f kx0 kx1 J.n r g J.n k ((i + 1 : Nat) : Int) (J.nl (i + 1)) (J.pl (i + 1)) := by
  have h1 : (i : Int) < J.n := by omega
  obtain ⟨g0, g1, g2, g3⟩ := hg i hi
  show gjoints_Check_l0_step M28 M29 f _ kx0 kx1 J.n r g J.n i (J.nl i) (J.pl i) = _
  unfold gjoints_Check_l0_step
  try unfold ck
  rw [decide_eq_true h1, decide_eq_true (show (0 : Int) ≤ i by omega), wrap_succ (by omega), Int.toNat_natCast, g0, g1, g2, g3]
  simp only [toS, toI]
  have e28 := h28.sp (J.nm i) hB
  have e29 := h29.sp 2 (J.x i) (J.y i) (fun i_1 j => ([[AV.int IntKind.i32 (J.x i)], [AV.int IntKind.i32 (J.y i)]].getD i_1 []).getD j AV.dead) rfl rfl
  have ef : fitKs [LK.s, LK.i IntKind.i32, LK.i IntKind.i32, LK.i IntKind.u8] [.str (J.nm i), .int .i32 (J.x i), .int .i32 (J.y i), .int .u8 (J.fx i)] = true := rfl
  rw [ef, nl_fit, findM_fit _ _ _ (nl_vals J i), pl_fit, findM_fit _ _ _ (pl_vals J i), nl_find, pl_find, e28, e29, okM_b, okM_b, getV_b, getV_b]
  unfold JS.bad
  by_cases h7 : J.fx i > 7 <;> simp only [h7, decide_true, decide_false] <;>
  cases anyLt (fun k => strEq (J.nm i) (J.nm k)) i <;> cases anyLt (fun k => J.x i == J.x k && J.y i == J.y k) i <;> cases nameB (J.nm i) <;> cases farB (J.x i) <;> cases farB (J.y i) <;> rfl

theorem gjoints_Check_all {M28 M29 : List AV → Option AV} {B : Nat} (h28 : Sp28 M28 B) (h29 : Sp29 M29) (J : JS) (hJ : J.n < 4611686018427387904) (f : Nat)
    (kx0 : Int → Int → List (AV × AV) → List (AV × AV) → ByteArray → Int → Int → Int → Option AV) (kx1 : List (AV × AV) → List (AV × AV) → Option AV) (r : Nat) (g : Nat → Nat → AV) (hg : J.Ok g) (hB : ∀ i, i < J.n → (J.nm i).size ≤ B) :
    ∀ (q k i : Nat), i + q = J.n → ∃ a b s x y z, gjoints_Check_l0 M28 M29 f kx0 kx1 J.n r g J.n (k + q + 1) i (J.nl i) (J.pl i) = match first J.bad q i with
      | some j => kx0 280 j a b s x y z
      | none => kx1 a b
  | 0, k, i, h => by
    obtain rfl : i = J.n := by omega
    refine ⟨J.nl J.n, J.pl J.n, ⟨#[]⟩, 0, 0, 0, ?_⟩
    show gjoints_Check_l0_step M28 M29 f _ kx0 kx1 J.n r g J.n J.n _ _ = kx1 (J.nl J.n) (J.pl J.n)
    unfold gjoints_Check_l0_step
    try unfold ck
    rw [decide_eq_false (by omega), cond_false]
  | q + 1, k, i, h => by
    rw [show k + (q + 1) + 1 = (k + q + 1) + 1 by omega, gjoints_Check_step h28 h29 J hJ f _ kx0 kx1 r g hg i (by omega) (hB i (by omega))]
    simp only [first]
    cases J.bad i
    · exact gjoints_Check_all h28 h29 J hJ f kx0 kx1 r g hg hB q k (i + 1) (by omega)
    · exact ⟨J.nl i, J.pl i, J.nm i, J.x i, J.y i, J.fx i, rfl⟩

theorem check14 {M28 M29 : List AV → Option AV} {B : Nat} (h28 : Sp28 M28 B) (h29 : Sp29 M29) (J : JS) (f : Nat) (hf : J.n < f) (hJ : J.n < 4611686018427387904) (r : Nat) (g : Nat → Nat → AV) (hg : J.Ok g) (hB : ∀ i, i < J.n → (J.nm i).size ≤ B) :
    gjoints_Check M28 M29 f J.n r g = some (.tup [.int .i64 J.check.1, .int .i64 J.check.2]) := by
  unfold gjoints_Check JS.check
  try unfold ck
  by_cases h : J.n > 16
  · rw [decide_eq_true (show (J.n : Int) > 16 by omega), decide_eq_true h]; rfl
  · rw [decide_eq_false (show ¬ (J.n : Int) > 16 by omega), decide_eq_false h, cond_false, cond_false]
    obtain ⟨a, b, s, x, y, z, e⟩ := gjoints_Check_all h28 h29 J hJ f (fun xu2 xu3 _ _ _ _ _ _ => some (.tup [.int .i64 xu2, .int .i64 xu3])) (fun _ _ => some (.tup [.int .i64 0, .int .i64 0])) r g hg hB J.n (f - J.n - 1) 0 (by omega)
    rw [show f - J.n - 1 + J.n + 1 = f by omega] at e
    refine e.trans ?_
    cases first J.bad J.n 0 <;> rfl
end Go.Proofs.Tryz
end
section
namespace Go.Proofs.Tryz
open Go Go.Am
set_option maxRecDepth 100000


def anyFrom (p : Nat → Bool) : Nat → Nat → Bool
  | 0, _ => false
  | r + 1, k => p k || anyFrom p r (k + 1)

section
variable (J : JS)


end
end Go.Proofs.Tryz
end
section
namespace Go.Proofs.Tryz
open Go Go.Am
set_option maxRecDepth 100000

/-- Members, as the program reads them. -/
structure MS where
  n : Nat
  nm : Nat → ByteArray
  kd : Nat → Int
  a : Nat → Int
  b : Nat → Int
  ha : Nat → Bool
  hb : Nat → Bool
  e : Nat → Nat
  ar : Nat → Nat
  iv : Nat → Nat
def MS.Ok (M : MS) (g : Nat → Nat → AV) : Prop := ∀ i, i < M.n → g i 0 = .str (M.nm i) ∧ g i 1 = .int .u8 (M.kd i) ∧ g i 2 = .int .i64 (M.a i) ∧ g i 3 = .int .i64 (M.b i) ∧ g i 4 = .bool (M.ha i) ∧ g i 5 = .bool (M.hb i) ∧
  g i 6 = .flt .f64 (some (M.e i)) ∧ g i 7 = .flt .f64 (some (M.ar i)) ∧ g i 8 = .flt .f64 (some (M.iv i))

def numB (x : Option Nat) : Bool :=
  bif ford FloatKind.f64 x (some 4336966441157787648) == some Ordering.gt || ford FloatKind.f64 x (some 4336966441157787648) == some Ordering.eq then ford FloatKind.f64 x (some 4877398396442247168) == some Ordering.lt || ford FloatKind.f64 x (some 4877398396442247168) == some Ordering.eq else false

theorem toS_str (s : ByteArray) : toS (.str s) = s := rfl
theorem toI_int (k : IntKind) (n : Int) : toI (.int k n) = n := rfl
theorem toB_bool (b : Bool) : toB (.bool b) = b := rfl
theorem toF_flt (k : FloatKind) (x : Option Nat) : toF (.flt k x) = x := rfl

section
variable (M : MS)
def MS.core (nj i : Nat) : Bool :=
  bif nameB (M.nm i) then bif decide (M.a i < 0) then false else bif decide (M.a i ≥ nj) then false else bif decide (M.b i < 0) then false else bif decide (M.b i ≥ nj) then false else
    bif M.a i == M.b i then false else bif numB (some (M.e i)) then numB (some (M.ar i)) else false
  else false
def MS.may (nj i : Nat) : Bool := bif anyFrom (fun k => strEq (M.nm k) (M.nm i)) i 0 then false else bif M.core nj i then
    (bif M.kd i == 1 then (bif M.ha i then false else bif M.hb i then false else ((M.iv i : Nat) : Int) == 0) else bif M.kd i == 2 then numB (some (M.iv i)) else false)
  else false

structure SpN (N : List AV → Option AV) : Prop where
  sp : ∀ x, N [.flt .f64 x] = some (.bool (numB x))

theorem fitM (s : ByteArray) (k a b : Int) (p q : Bool) (x y z : Option Nat) :
    fitKs [LK.s, LK.i IntKind.u8, LK.i IntKind.i64, LK.i IntKind.i64, LK.b, LK.b, LK.f FloatKind.f64, LK.f FloatKind.f64, LK.f FloatKind.f64] [.str s, .int .u8 k, .int .i64 a, .int .i64 b, .bool p, .bool q, .flt .f64 x, .flt .f64 y, .flt .f64 z] = true := rfl

theorem gbars_may_all {M30 M31 : List AV → Option AV} (hM : M.n < 4611686018427387904) (f : Nat) (kx1 : Nat → Nat → (Nat → Nat → AV) → Nat → Nat → (Nat → Nat → AV) → ByteArray → Int → Int → Int → Bool → Bool → Option Nat → Option Nat → Option Nat → Option AV)
    (r : Nat) (g : Nat → Nat → AV) (hg : M.Ok g) (a1 a2 : Nat) (a3 : Nat → Nat → AV) (a4 a5 : Nat) (a6 : Nat → Nat → AV) (c1 c2 c3 : Int) (d1 d2 : Bool) (o1 o2 o3 : Option Nat) (i : Nat) (hi : i < M.n) :
    ∀ (m q k : Nat), k + m = i → gbars_may_l0 M30 M31 f (fun b _ _ _ _ _ _ _ _ _ _ _ _ _ _ _ _ _ _ _ _ _ _ _ _ => some (.bool b)) kx1 i r g i a1 a2 a3 a4 a5 a6 (M.nm i) c1 c2 c3 d1 d2 o1 o2 o3 (q + m + 1) k =
      bif anyFrom (fun k => strEq (M.nm k) (M.nm i)) m k then some (.bool false) else kx1 a1 a2 a3 a4 a5 a6 (M.nm i) c1 c2 c3 d1 d2 o1 o2 o3
  | 0, q, k, h => by
    obtain rfl : k = i := by omega
    show gbars_may_l0_step M30 M31 f _ _ kx1 k r g k a1 a2 a3 a4 a5 a6 (M.nm k) c1 c2 c3 d1 d2 o1 o2 o3 k = _
    unfold gbars_may_l0_step
    try unfold ck
    rw [decide_eq_false (by omega), cond_false]
    rfl
  | m + 1, q, k, h => by
    have ih := gbars_may_all (M30 := M30) (M31 := M31) hM f kx1 r g hg a1 a2 a3 a4 a5 a6 c1 c2 c3 d1 d2 o1 o2 o3 i hi m q (k + 1) (by omega)
    obtain ⟨k0, k1, k2, k3, k4, k5, k6, k7, k8⟩ := hg k (by omega)
    show gbars_may_l0_step M30 M31 f (gbars_may_l0 M30 M31 f _ kx1 i r g i a1 a2 a3 a4 a5 a6 (M.nm i) c1 c2 c3 d1 d2 o1 o2 o3 (q + m + 1)) _ kx1 i r g i a1 a2 a3 a4 a5 a6 (M.nm i) c1 c2 c3 d1 d2 o1 o2 o3 k = _
    unfold gbars_may_l0_step
    try unfold ck
    rw [decide_eq_true (show (k : Int) < i by omega), decide_eq_true (show (0 : Int) ≤ k by omega), wrap_succ (by omega), Int.toNat_natCast, k0, k1, k2, k3, k4, k5, k6, k7, k8, fitM, ih]
    simp only [anyFrom, toS]
    cases strEq (M.nm k) (M.nm i) <;> rfl

theorem may15 {M30 M31 : List AV → Option AV} {B : Nat} (h30 : Sp28 M30 B) (h31 : SpN M31) (hM : M.n < 4611686018427387904) (f : Nat) (hf : M.n < f) (jn jr : Nat) (jg : Nat → Nat → AV) (r : Nat) (hr : M.n ≤ r) (g : Nat → Nat → AV) (hg : M.Ok g)
    (i : Nat) (hi : i < M.n) (hB : (M.nm i).size ≤ B) : gbars_may M30 M31 f jn jr jg M.n r g i = some (.bool (M.may jn i)) := by
  obtain ⟨g0, g1, g2, g3, g4, g5, g6, g7, g8⟩ := hg i hi
  unfold gbars_may
  try unfold ck
  rw [decide_eq_true (show (i : Int) < M.n by omega), decide_eq_true (show (0 : Int) ≤ i by omega), decide_eq_true (show (i : Int) ≤ r by omega), Int.toNat_natCast, g0, g1, g2, g3, g4, g5, g6, g7, g8, fitM, Nat.sub_zero, Nat.sub_zero]
  have eg : (fun (i : Nat) => g (0 + i)) = g := by funext i; rw [Nat.zero_add]
  rw [eg]
  simp only [toS_str, toI_int, toB_bool, toF_flt, cond_true]
  refine (show gbars_may_l0 M30 M31 f _ _ i r g i _ _ _ _ _ _ (M.nm i) _ _ _ _ _ _ _ _ f ((0 : Nat) : Int) = _ from ?_)
  have ha := fun kx1 => gbars_may_all M (M30 := M30) (M31 := M31) hM f kx1 r g hg jn jr jg M.n r g (M.kd i) (M.a i) (M.b i) (M.ha i) (M.hb i) (some (M.e i)) (some (M.ar i)) (some (M.iv i)) i hi i (f - i - 1) 0 (by omega)
  rw [show f - i - 1 + i + 1 = f by omega] at ha
  refine (ha _).trans ?_
  unfold MS.may
  cases anyFrom (fun k => strEq (M.nm k) (M.nm i)) i 0
  case true => rfl
  simp only [cond_false]
  have e30 := h30.sp (M.nm i) hB
  have es : sBits.ok [AV.flt FloatKind.f64 (some (M.iv i))] = true := rfl
  rw [e30, h31.sp, h31.sp, h31.sp, okM_b, okM_b, okM_b, okM_b, getV_b, getV_b, getV_b, getV_b, es]
  unfold MS.core
  cases nameB (M.nm i)
  · rfl
  cases decide (M.a i < 0)
  case true => rfl
  cases decide (M.a i ≥ jn)
  case true => rfl
  cases decide (M.b i < 0)
  case true => rfl
  cases decide (M.b i ≥ jn)
  case true => rfl
  cases M.a i == M.b i
  case true => rfl
  cases numB (some (M.e i))
  · rfl
  cases numB (some (M.ar i))
  · rfl
  cases M.kd i == 1
  · cases M.kd i == 2 <;> rfl
  · cases M.ha i
    · cases M.hb i <;> rfl
    · rfl
end
end Go.Proofs.Tryz
end
section
namespace Go.Proofs.Tryz
open Go Go.Am
set_option maxRecDepth 100000

def planCheck (J : JS) (M : MS) : Int × Int := bif J.check.1 != 0 then J.check else bif decide (M.n > 48) then (3, 0) else match first (fun i => !M.may J.n i) M.n 0 with
  | some i => (290, (i : Int))
  | none => (0, 0)
def pair (p : Int × Int) : AV := .tup [.int .i64 p.1, .int .i64 p.2]

theorem okM_p (p : Int × Int) : okM [RS.one (LK.i IntKind.i64), RS.one (LK.i IntKind.i64)] (some (pair p)) = true := rfl
theorem getP1 (p : Int × Int) : toI ((toT (getV (some (pair p)))).headD .dead) = p.1 := rfl
theorem getP2 (p : Int × Int) : toI ((toT (getV (some (pair p)))).tail.headD .dead) = p.2 := rfl

theorem gbars_Check_all {M14 M15 : List AV → Option AV} (J : JS) (M : MS) (jr r : Nat) (jg g : Nat → Nat → AV) (h15 : ∀ i : Nat, i < M.n → M15 [.agg [.ro 4 J.n jr jg, .ro 9 M.n r g], .int .i64 i] = some (.bool (M.may J.n i))) (hM : M.n < 4611686018427387904) (f : Nat)
    (kx0 : Int → Int → Nat → Nat → (Nat → Nat → AV) → Nat → Nat → (Nat → Nat → AV) → Option AV) (kx1 : Nat → Nat → (Nat → Nat → AV) → Nat → Nat → (Nat → Nat → AV) → Option AV) :
    ∀ (m q i : Nat), i + m = M.n → gbars_Check_l0 M14 M15 f kx0 kx1 M.n J.n jr jg M.n r g (q + m + 1) i = match first (fun i => !M.may J.n i) m i with
      | some j => kx0 290 j J.n jr jg M.n r g
      | none => kx1 J.n jr jg M.n r g
  | 0, q, i, h => by
    obtain rfl : i = M.n := by omega
    show gbars_Check_l0_step M14 M15 f _ kx0 kx1 M.n J.n jr jg M.n r g M.n = _
    unfold gbars_Check_l0_step
    try unfold ck
    rw [decide_eq_false (by omega), cond_false]
    rfl
  | m + 1, q, i, h => by
    have hi : i < M.n := by omega
    have ih := gbars_Check_all (M14 := M14) J M jr r jg g h15 hM f kx0 kx1 m q (i + 1) (by omega)
    show gbars_Check_l0_step M14 M15 f (gbars_Check_l0 M14 M15 f kx0 kx1 M.n J.n jr jg M.n r g (q + m + 1)) kx0 kx1 M.n J.n jr jg M.n r g i = _
    unfold gbars_Check_l0_step
    try unfold ck
    rw [decide_eq_true (show (i : Int) < M.n by omega), h15 i hi, okM_b, getV_b, wrap_succ (by omega), ih]
    simp only [first]
    cases M.may J.n i <;> rfl

theorem check5 {M14 M15 : List AV → Option AV} (J : JS) (M : MS) (jr r : Nat) (jg g : Nat → Nat → AV) (h14 : M14 [.ro 4 J.n jr jg] = some (pair J.check))
    (h15 : ∀ i : Nat, i < M.n → M15 [.agg [.ro 4 J.n jr jg, .ro 9 M.n r g], .int .i64 i] = some (.bool (M.may J.n i))) (hM : M.n < 4611686018427387904) (f : Nat) (hf : M.n < f) :
    gbars_Check M14 M15 f J.n jr jg M.n r g = some (pair (planCheck J M)) := by
  unfold gbars_Check planCheck
  try unfold ck
  rw [h14]
  dsimp only
  rw [okM_p, getP1, getP2, cond_true]
  cases J.check.1 != 0
  case true => rfl
  rw [cond_false, cond_false]
  by_cases h : M.n > 48
  · rw [decide_eq_true (show (M.n : Int) > 48 by omega), decide_eq_true h]; rfl
  · rw [decide_eq_false (show ¬ (M.n : Int) > 48 by omega), decide_eq_false h, cond_false, cond_false]
    have e := gbars_Check_all (M14 := M14) J M jr r jg g h15 hM f (fun xu2 xu3 _ _ _ _ _ _ => some (.tup [.int .i64 xu2, .int .i64 xu3])) (fun _ _ _ _ _ _ => some (.tup [.int .i64 0, .int .i64 0])) M.n (f - M.n - 1) 0 (by omega)
    rw [show f - M.n - 1 + M.n + 1 = f by omega] at e
    refine e.trans ?_
    cases first (fun i => !M.may J.n i) M.n 0 <;> rfl

end Go.Proofs.Tryz
end
section
namespace Go.Proofs.Tryz
open Go Go.Am
set_option maxRecDepth 100000

def MS.In (M : MS) (jn : Nat) : Prop := ∀ k, k < M.n → ∃ a b : Nat, M.a k = (a : Int) ∧ M.b k = (b : Int) ∧ a < jn ∧ b < jn
theorem first_none {p : Nat → Bool} : ∀ {r i : Nat}, first p r i = none → ∀ k, i ≤ k → k < i + r → p k = false
  | 0, i, _, k, h1, h2 => by omega
  | r + 1, i, h, k, h1, h2 => by
    simp only [first] at h
    cases hp : p i <;> rw [hp] at h
    · by_cases e : k = i
      · subst e; exact hp
      · exact first_none h k (by omega) (by omega)
    · cases h


end Go.Proofs.Tryz
end
section
namespace Go.Proofs.Tryz
open Go Go.Am Ieee.Pos
set_option maxRecDepth 100000

theorem num_in {w : Nat} (hw : w < 18446744073709551616) (h : numB (some w) = true) : In 963 1083 w := by
  unfold numB at h
  rw [ford_d, ford_d] at h
  have h' : (Ieee.double.order w 4336966441157787648 = some .gt ∨ Ieee.double.order w 4336966441157787648 = some .eq) ∧ (Ieee.double.order w 4877398396442247168 = some .lt ∨ Ieee.double.order w 4877398396442247168 = some .eq) := by
    generalize Ieee.double.order w 4336966441157787648 = a at h
    generalize Ieee.double.order w 4877398396442247168 = b at h
    rcases a with _ | a
    · cases h
    · rcases b with _ | b
      · cases a <;> cases h
      · cases a <;> cases b <;> simp_all
  obtain ⟨a, b, c⟩ := within hw h'.1 h'.2
  exact ⟨a, b, c⟩

theorem near4 (f : Nat) (r : Nat) (a b c d : Int) (g : Ge) (h0 : g 0 0 = .int .i32 a) (h1 : g 1 0 = .int .i32 b) (h2 : g 2 0 = .int .i32 c) (h3 : g 3 0 = .int .i32 d)
    (na : farB a = false) (nb : farB b = false) (nc : farB c = false) (nd : farB d = false) : gjoints_near (f + 5) 4 r g = some (.bool true) := by
  unfold gjoints_near
  have e0 := near_step (f + 5) (f + 4) (fun b => some (AV.bool b)) (some (.bool true)) 4 r g 0 a (by omega) (by omega) h0
  have e1 := near_step (f + 5) (f + 3) (fun b => some (AV.bool b)) (some (.bool true)) 4 r g 1 b (by omega) (by omega) h1
  have e2 := near_step (f + 5) (f + 2) (fun b => some (AV.bool b)) (some (.bool true)) 4 r g 2 c (by omega) (by omega) h2
  have e3 := near_step (f + 5) (f + 1) (fun b => some (AV.bool b)) (some (.bool true)) 4 r g 3 d (by omega) (by omega) h3
  have e4 := near_end (f + 5) f (fun b => some (AV.bool b)) (some (.bool true)) 4 r g
  rw [na, cond_false] at e0
  rw [nb, cond_false] at e1
  rw [nc, cond_false] at e2
  rw [nd, cond_false] at e3
  exact e0.trans (e1.trans (e2.trans (e3.trans e4)))

theorem far_b {a : Int} (h : farB a = false) : -1048576 ≤ a ∧ a ≤ 1048576 := by
  unfold farB at h
  simp only [Bool.or_eq_false_iff, decide_eq_false_iff_not] at h
  omega
theorem wrap32 {n : Int} (h1 : -2147483648 ≤ n) (h2 : n < 2147483648) : IntKind.i32.wrap n = n := by
  simp only [IntKind.wrap, IntKind.bits, IntKind.signed]
  simp
  omega
theorem sq_nn (d : Int) : 0 ≤ d * d := by
  rcases Int.le_total 0 d with h | h
  · exact Int.mul_nonneg h h
  · have := Int.mul_nonneg (show 0 ≤ -d by omega) (show 0 ≤ -d by omega)
    rwa [Int.neg_mul_neg] at this
theorem sq_b {d : Int} (h : -2097152 ≤ d ∧ d ≤ 2097152) : 0 ≤ d * d ∧ d * d ≤ 4398046511104 := by
  constructor
  · exact sq_nn d
  · have h1 : (2097152 - d) * (2097152 + d) ≥ 0 := Int.mul_nonneg (by omega) (by omega)
    have h2 : (2097152 - d) * (2097152 + d) = 4398046511104 - d * d := by
      rw [Int.sub_mul, Int.mul_add, Int.mul_add, Int.mul_comm d 2097152]; omega
    omega
theorem okIII (a b c : Int) : okM [RS.one (LK.i .i64), RS.one (LK.i .i64), RS.one (LK.i .i64)] (some (.tup [.int .i64 a, .int .i64 b, .int .i64 c])) = true := rfl

abbrev JA (s : ByteArray) (x y f : Int) : AV := .agg [.str s, .int .i32 x, .int .i32 y, .int .u8 f]
section
variable {xa ya xb yb : Int} (na : farB xa = false) (nb : farB ya = false) (nc : farB xb = false) (nd : farB yb = false)
include na nb nc nd
theorem k_near4 : kjoints_near [.ro 1 4 4 fun i j => ([[AV.int .i32 xa], [AV.int .i32 ya], [AV.int .i32 xb], [AV.int .i32 yb]].getD i []).getD j .dead] = some (.bool true) := by
  show gjoints_near NN 4 4 (fun i j => ([[AV.int .i32 xa], [AV.int .i32 ya], [AV.int .i32 xb], [AV.int .i32 yb]].getD i []).getD j .dead) = _
  have e : NN = 1125899906842619 + 5 := by unfold NN; omega
  rw [e]
  exact near4 _ 4 xa ya xb yb _ rfl rfl rfl rfl na nb nc nd
theorem k_apart (s t : ByteArray) (f g : Int) : kjoints_Apart [JA s xa ya f, JA t xb yb g] = some (.tup [.int .i64 (xb - xa), .int .i64 (yb - ya), .int .i64 ((xb - xa) * (xb - xa) + (yb - ya) * (yb - ya))]) := by
  have h1 := far_b na
  have h2 := far_b nb
  have h3 := far_b nc
  have h4 := far_b nd
  have q1 := sq_b (d := xb - xa) (by omega)
  have q2 := sq_b (d := yb - ya) (by omega)
  show gjoints_Apart kjoints_near NN s xa ya f t xb yb g = _
  unfold gjoints_Apart
  rw [k_near4 na nb nc nd, okQ, ck_true, gV, tB, Bool.not_true, cond_false, wrap32 (n := xb - xa) (by omega) (by omega), wrap32 (n := yb - ya) (by omega) (by omega), wrapi (n := xb - xa) (by omega) (by omega), wrapi (n := yb - ya) (by omega) (by omega)]
  generalize (xb - xa) * (xb - xa) = p at *
  generalize (yb - ya) * (yb - ya) = q at *
  rw [wrapi (n := p) (by omega) (by omega), wrapi (n := q) (by omega) (by omega), wrapi (n := p + q) (by omega) (by omega)]
end

/-- The float of a length's square. -/
def xw (n : Int) : Nat := FloatKind.f64.nearest n
theorem xw_in {n : Int} (h1 : 1 ≤ n) (h2 : n ≤ 8796093022208) : In 1023 1066 (xw n) := by
  obtain ⟨m, rfl⟩ : ∃ m : Nat, n = m := ⟨n.toNat, by omega⟩
  have hl : m.log2 ≤ 43 := by
    have : m.log2 < 44 := (Nat.log2_lt (by omega)).2 (by omega)
    omega
  obtain ⟨a, b⟩ := int_ex (n := m) (by omega) (by omega)
  have e : xw (m : Int) = Ieee.double.nearest false m 0 := by
    show Ieee.double.nearest (decide (((m : Nat) : Int) < 0)) ((m : Nat) : Int).natAbs 0 = _
    rw [decide_eq_false (by omega), Int.natAbs_natCast]
  rw [e]
  exact ⟨a, by omega, by omega⟩

/-- A length, as a span, and as a float. -/
def lS (x : Nat) : Nat × Nat := (rootV 1 x, rootV 2 x)
def lN (x : Nat) : Nat := rootV 0 x
theorem lS_in {x : Nat} (hx : In 1023 1066 x) : SIn 1022 1046 (lS x) := ⟨(root_all hx w1).2.2, (root_all hx w2).2.2, adj_le _ _⟩
theorem k_length {xa ya xb yb : Int} (na : farB xa = false) (nb : farB ya = false) (nc : farB xb = false) (nd : farB yb = false) (s t : ByteArray) (f g : Int) {n : Int} (hn : n = (xb - xa) * (xb - xa) + (yb - ya) * (yb - ya)) (hx : In 1023 1066 (xw n)) :
    kjoints_Length [JA s xa ya f, JA t xb yb g] = some (.tup [SA (lS (xw n)), F (lN (xw n))]) := by
  show gjoints_Length kjoints_Apart kround_Sqrt NN s xa ya f t xb yb g = _
  unfold gjoints_Length
  rw [k_apart na nb nc nd, ← hn]
  dsimp only
  rw [okIII, ck_true, gV, tT, tl, tl, hD, tI, show FloatKind.f64.nearest n = xw n from rfl, (root_all hx w1).1, (root_all hx w2).1, (root_all hx w0).1]
  rfl
theorem times_sp {s t r : Nat × Nat} (h : kspan_Mul [SA s, SA t] = some (.tup [SA r, .int .i64 0])) (f : Nat) : gbars_times kspan_Mul (f + 3) 2 2 (fun i j => ([[F s.1, F s.2], [F t.1, F t.2]].getD i []).getD j .dead) = some (SA r) := by
  unfold gbars_times
  rw [decide_eq_true (show (0 : Int) < ((2 : Nat) : Int) by omega), ck_true, decide_eq_true (show (1 : Int) ≤ ((2 : Nat) : Int) by omega), ck_true]
  show gbars_times_l0 kspan_Mul _ _ 1 1 _ 1 _ _ (f + 3) 0 (some s.1) (some s.2) = _
  show gbars_times_l0_step kspan_Mul _ (gbars_times_l0 kspan_Mul _ _ 1 1 _ 1 _ _ (f + 2)) _ 1 1 _ 1 _ _ 0 (some s.1) (some s.2) = _
  unfold gbars_times_l0_step
  show ck (okM [RS.agg [LK.f .f64, LK.f .f64], RS.one (LK.i .i64)] (kspan_Mul [SA s, SA t])) (gbars_times_l0 kspan_Mul _ _ 1 1 _ 1 _ _ (f + 2) 1 (toF ((toC ((toT (getV (kspan_Mul [SA s, SA t]))).headD .dead)).headD .dead)) (toF ((toC ((toT (getV (kspan_Mul [SA s, SA t]))).headD .dead)).tail.headD .dead))) = _
  rw [h]
  rfl
theorem k_times {s t r : Nat × Nat} (h : kspan_Mul [SA s, SA t] = some (.tup [SA r, .int .i64 0])) : kbars_times [.ro 2 2 2 fun i j => ([[F s.1, F s.2], [F t.1, F t.2]].getD i []).getD j .dead] = some (SA r) := by
  show gbars_times kspan_Mul NN 2 2 (fun i j => ([[F s.1, F s.2], [F t.1, F t.2]].getD i []).getD j .dead) = _
  have e : NN = 1125899906842621 + 3 := by unfold NN; omega
  rw [e]
  exact times_sp h _
theorem k_spring {o u d : Nat × Nat} (h : kspan_Div [SA o, SA u] = some (.tup [SA d, .int .i64 0])) (k a b c e f g : Int) (p q : Option Nat) :
    kbars_spring [.int .u8 k, .agg [.int .i64 a, .int .i64 b, .int .i64 c, .int .i64 e, .int .i64 f, .int .i64 g], SA o, SA u, .flt .f64 p, .flt .f64 q] =
      some (.agg [.int .i64 0, .int .u8 k, .int .i64 a, .int .i64 b, .int .i64 c, .int .i64 e, .int .i64 f, .int .i64 g, F d.1, F d.2, .flt .f64 (farith .quo .f64 p q)]) := by
  show gbars_spring kspan_Div NN k a b c e f g (some o.1) (some o.2) (some u.1) (some u.2) p q = _
  unfold gbars_spring
  rw [h]
  rfl
end Go.Proofs.Tryz
end
section
namespace Go.Proofs.Tryz
open Go Go.Am Ieee.Pos
set_option maxRecDepth 100000

abbrev c3 : Nat := 4613937818241073152
theorem c3_in : In 1024 1024 c3 := by
  show In 1024 1024 4613937818241073152
  unfold In Norm ex; omega
abbrev MulF (s t : Nat × Nat) (lo hi : Nat) : Prop := kspan_Mul [SA s, SA t] = some (.tup [SA (mulS s t), .int .i64 0]) ∧ True ∧ SIn lo hi (mulS s t)
abbrev DivF (s t : Nat × Nat) (lo hi : Nat) : Prop := kspan_Div [SA s, SA t] = some (.tup [SA (divS s t), .int .i64 0]) ∧ True ∧ SIn lo hi (divS s t)

/-- How stiff a spring of a kind is: as a span; as a float. -/
def stS (E A I x : Nat) (k : Int) : Nat × Nat :=
  bif k == 1 then divS (mulS (E, E) (A, A)) (mulS (x, x) (lS x)) else bif k == 3 then divS (mulS (E, E) (I, I)) (lS x)
  else divS (mulS (c3, c3) (mulS (E, E) (I, I))) (mulS (mulS (x, x) (x, x)) (lS x))
abbrev fm (a b : Option Nat) : Option Nat := farith .mul .f64 a b
abbrev fq (a b : Option Nat) : Option Nat := farith .quo .f64 a b
def stN (E A I x : Nat) (k : Int) : Option Nat :=
  bif k == 1 then fq (fm (some E) (some A)) (fm (some x) (some (lN x))) else bif k == 3 then fq (fm (some E) (some I)) (some (lN x))
  else fq (fm (some c3) (fm (some E) (some I))) (fm (fm (some x) (some x)) (some (lN x)))

theorem SIn.one {l h x : Nat} (hx : In l h x) : SIn l h (x, x) := ⟨hx, hx, Nat.le_refl _⟩
section
variable {E A x : Nat} (hE : In 963 1083 E) (hA : In 963 1083 A) (hx : In 1023 1066 x)
include hE hA in
theorem fEA : MulF (E, E) (A, A) 902 1146 := mulS_all (SIn.one hE) (SIn.one hA) (by omega) (by omega) (by omega) (by omega) (by omega) (by omega) (by omega) (by omega)
include hx in
theorem fXL : MulF (x, x) (lS x) 1021 1092 := mulS_all (SIn.one hx) (lS_in hx) (by omega) (by omega) (by omega) (by omega) (by omega) (by omega) (by omega) (by omega)
include hE hA hx in
theorem fAx : DivF (mulS (E, E) (A, A)) (mulS (x, x) (lS x)) 831 1150 := divS_all (fEA hE hA).2.2 (fXL hx).2.2 (by omega) (by omega) (by omega) (by omega) (by omega) (by omega) (by omega) (by omega)
include hE hA hx in
theorem fEnd : DivF (mulS (E, E) (A, A)) (lS x) 877 1149 := divS_all (fEA hE hA).2.2 (lS_in hx) (by omega) (by omega) (by omega) (by omega) (by omega) (by omega) (by omega) (by omega)
include hE hA in
theorem fTh : MulF (c3, c3) (mulS (E, E) (A, A)) 902 1150 := mulS_all (SIn.one c3_in) (fEA hE hA).2.2 (by omega) (by omega) (by omega) (by omega) (by omega) (by omega) (by omega) (by omega)
include hx in
theorem fXX : MulF (x, x) (x, x) 1022 1112 := mulS_all (SIn.one hx) (SIn.one hx) (by omega) (by omega) (by omega) (by omega) (by omega) (by omega) (by omega) (by omega)
include hx in
theorem fXXL : MulF (mulS (x, x) (x, x)) (lS x) 1020 1138 := mulS_all (fXX hx).2.2 (lS_in hx) (by omega) (by omega) (by omega) (by omega) (by omega) (by omega) (by omega) (by omega)
include hE hA hx in
theorem fBow : DivF (mulS (c3, c3) (mulS (E, E) (A, A))) (mulS (mulS (x, x) (x, x)) (lS x)) 785 1155 := divS_all (fTh hE hA).2.2 (fXXL hx).2.2 (by omega) (by omega) (by omega) (by omega) (by omega) (by omega) (by omega) (by omega)
end

abbrev MA (s : ByteArray) (kd a b : Int) (ha hb : Bool) (E A I : Nat) : AV := .agg [.str s, .int .u8 kd, .int .i64 a, .int .i64 b, .bool ha, .bool hb, F E, F A, F I]
theorem okSF (o p q : Option Nat) : okM [RS.agg [LK.f .f64, LK.f .f64], RS.one (LK.f .f64)] (some (.tup [.agg [.flt .f64 o, .flt .f64 p], .flt .f64 q])) = true := rfl

section
variable {E A I x : Nat} (hE : In 963 1083 E) {n : Int} (hn : xw n = x) (hx : In 1023 1066 x) (s : ByteArray) (kd a b : Int) (ha hb : Bool)
include hE hn hx
end

/-- The row of a spring. -/
def r6 (dx dy n : Int) (k : Int) (back : Bool) : List AV :=
  bif k == 1 then [.int .i64 (IntKind.i64.wrap (0 - dx)), .int .i64 (IntKind.i64.wrap (0 - dy)), .int .i64 0, .int .i64 dx, .int .i64 dy, .int .i64 0]
  else bif k == 2 then [.int .i64 (IntKind.i64.wrap (-2 * dy)), .int .i64 (IntKind.i64.wrap (2 * dx)), .int .i64 n, .int .i64 (IntKind.i64.wrap (2 * dy)), .int .i64 (IntKind.i64.wrap (-2 * dx)), .int .i64 n]
  else bif k == 3 then [.int .i64 0, .int .i64 0, .int .i64 1, .int .i64 0, .int .i64 0, .int .i64 (-1)]
  else bif back then [.int .i64 (IntKind.i64.wrap (0 - dy)), .int .i64 dx, .int .i64 0, .int .i64 dy, .int .i64 (IntKind.i64.wrap (0 - dx)), .int .i64 n]
  else [.int .i64 (IntKind.i64.wrap (0 - dy)), .int .i64 dx, .int .i64 n, .int .i64 dy, .int .i64 (IntKind.i64.wrap (0 - dx)), .int .i64 0]
/-- A spring of a member. -/
def spr (at' : Int) (dx dy n : Int) (E A I : Nat) (back : Bool) (k : Int) : List AV :=
  [.int .i64 at', .int .u8 k] ++ r6 dx dy n k back ++ [F (stS E A I (xw n) k).1, F (stS E A I (xw n) k).2, .flt .f64 (stN E A I (xw n) k)]
/-- The kinds of its springs. -/
def ksOf (kd : Int) (ha hb : Bool) : List Int := bif kd == 1 || (ha && hb) then [1] else bif ha || hb then [1, 4] else [1, 2, 3]
theorem okSp (a b c d e f g h : Int) (o p q : Option Nat) : okM [RS.agg [LK.i .i64, LK.i .u8, LK.i .i64, LK.i .i64, LK.i .i64, LK.i .i64, LK.i .i64, LK.i .i64, LK.f .f64, LK.f .f64, LK.f .f64]]
    (some (.agg [.int .i64 a, .int .u8 b, .int .i64 c, .int .i64 d, .int .i64 e, .int .i64 f, .int .i64 g, .int .i64 h, .flt .f64 o, .flt .f64 p, .flt .f64 q])) = true := rfl
theorem k_bow {E I x : Nat} (hE : In 963 1083 E) (hI : In 963 1083 I) (hx : In 1023 1066 x) (k a b c d e f : Int) {n0 n1 n2 n3 : Nat} {g0 g1 g2 g3 : Nat → AV}
    (h0 : n0 = 9) (h1 : n1 = 1) (h2 : n2 = 2) (h3 : n3 = 1) (e6 : g0 6 = F E) (e8 : g0 8 = F I) (ex' : g1 0 = F x) (l0 : g2 0 = F (lS x).1) (l1 : g2 1 = F (lS x).2) (ln : g3 0 = F (lN x)) :
    kbars_springs_c1 [.int .u8 k, .agg [.int .i64 a, .int .i64 b, .int .i64 c, .int .i64 d, .int .i64 e, .int .i64 f], .rp n0 g0, .rp n1 g1, .rp n2 g2, .rp n3 g3] =
      some (.agg [.int .i64 0, .int .u8 k, .int .i64 a, .int .i64 b, .int .i64 c, .int .i64 d, .int .i64 e, .int .i64 f, F (divS (mulS (c3, c3) (mulS (E, E) (I, I))) (mulS (mulS (x, x) (x, x)) (lS x))).1, F (divS (mulS (c3, c3) (mulS (E, E) (I, I))) (mulS (mulS (x, x) (x, x)) (lS x))).2,
        .flt .f64 (fq (fm (some c3) (fm (some E) (some I))) (fm (fm (some x) (some x)) (some (lN x))))]) := by
  subst h0 h1 h2 h3
  have t1 : kbars_times [.ro 2 2 2 fun i j => ([[F E, F E], [F I, F I]].getD i []).getD j .dead] = some (SA (mulS (E, E) (I, I))) := k_times (s := (E, E)) (t := (I, I)) (fEA hE hI).1
  have t2 : kbars_times [.ro 2 2 2 fun i j => ([[F c3, F c3], [F (mulS (E, E) (I, I)).1, F (mulS (E, E) (I, I)).2]].getD i []).getD j .dead] = some (SA (mulS (c3, c3) (mulS (E, E) (I, I)))) := k_times (s := (c3, c3)) (t := mulS (E, E) (I, I)) (fTh hE hI).1
  have t3 : kbars_times [.ro 2 2 2 fun i j => ([[F x, F x], [F x, F x]].getD i []).getD j .dead] = some (SA (mulS (x, x) (x, x))) := k_times (s := (x, x)) (t := (x, x)) (fXX hx).1
  have t4 : kbars_times [.ro 2 2 2 fun i j => ([[F (mulS (x, x) (x, x)).1, F (mulS (x, x) (x, x)).2], [F (lS x).1, F (lS x).2]].getD i []).getD j .dead] = some (SA (mulS (mulS (x, x) (x, x)) (lS x))) := k_times (s := mulS (x, x) (x, x)) (t := lS x) (fXXL hx).1
  have t5 := fun k a b c d e f p q => k_spring (fBow hE hI hx).1 k a b c d e f p q
  have o1 : ∀ w, kbars_one [F w] = some (.agg [F w, F w]) := fun _ => rfl
  show gbars_springs_c1 kbars_one kbars_times kbars_spring NN k a b c d e f 9 g0 1 g1 2 g2 1 g3 = _
  unfold gbars_springs_c1
  have b1 : Nat.blt 0 (9 - 6) = true := rfl
  have b2 : Nat.blt 0 (9 - 8) = true := rfl
  have b3 : Nat.blt 0 1 = true := rfl
  have b4 : Nat.ble 2 2 = true := rfl
  have ff : fitKs [LK.f .f64, LK.f .f64] [F (lS x).1, F (lS x).2] = true := rfl
  simp only [e6, e8, ex', l0, l1, ln, b1, b2, b3, b4, ff, fF, o1, okFF, ck_true, gV, tT, tC, hD, tl, tF, tI, t1, t2, t3, t4, t5, okSp]
end Go.Proofs.Tryz
end
section
namespace Go.Proofs.Tryz
open Go Go.Am Ieee.Pos
set_option maxRecDepth 100000

def lAV (l : List (List AV)) : AV := .ro 11 l.length l.length fun i j => (l.getD i []).getD j .dead
theorem k_stands (s : ByteArray) (kd a b : Int) (ha hb : Bool) (E A I : Nat) : kbars_stands [MA s kd a b ha hb E A I] = some (.tup [.bool (bif kd == 2 then !ha else false), .bool (bif kd == 2 then !hb else false)]) := by
  show gbars_stands NN s kd a b ha hb (some E) (some A) (some I) = _
  unfold gbars_stands
  cases kd == 2 <;> rfl
theorem okBB (a b : Bool) : okM [RS.one LK.b, RS.one LK.b] (some (.tup [.bool a, .bool b])) = true := rfl
theorem fJ (s : ByteArray) (x y f : Int) : fitKs [LK.s, LK.i .i32, LK.i .i32, LK.i .u8] [.str s, .int .i32 x, .int .i32 y, .int .u8 f] = true := rfl
theorem tS (s : ByteArray) : toS (.str s) = s := rfl

section
variable {J : JS} {jr : Nat} {jg : Ge} (hj : J.Ok jg) {ia ib : Nat} (hia : ia < J.n) (hib : ib < J.n)
  (na : farB (J.x ia) = false) (nb : farB (J.y ia) = false) (nc : farB (J.x ib) = false) (nd : farB (J.y ib) = false)
  {dx dy n : Int} (edx : dx = J.x ib - J.x ia) (edy : dy = J.y ib - J.y ia) (en : n = dx * dx + dy * dy) (hx : In 1023 1066 (xw n))
  {E A I : Nat} (hE : In 963 1083 E) (hA : In 963 1083 A) (s : ByteArray) {kd : Int} {ha hb : Bool} (mn mr : Nat) (mg : Ge)
include hj hia hib na nb nc nd edx edy en hx hE hA
theorem k_springsA (h : (kd = 1 ∧ ha = false ∧ hb = false) ∨ (kd = 2 ∧ In 963 1083 I)) :
    kbars_springs_a [.agg [.ro 4 J.n jr jg, .ro 9 mn mr mg], MA s kd ia ib ha hb E A I] = some (.tup [lAV ((ksOf kd ha hb).map (spr 0 dx dy n E A I ha))]) := by
  obtain ⟨a0, a1, a2, a3⟩ := hj ia hia
  obtain ⟨b0, b1, b2, b3⟩ := hj ib hib
  have p1 := k_apart na nb nc nd (J.nm ia) (J.nm ib) (J.fx ia) (J.fx ib)
  have p2 := k_length na nb nc nd (J.nm ia) (J.nm ib) (J.fx ia) (J.fx ib) (n := n) (by rw [en, edx, edy]) hx
  rw [← edx, ← edy, ← en] at p1
  have o1 : ∀ w, kbars_one [F w] = some (.agg [F w, F w]) := fun _ => rfl
  have hw : FloatKind.f64.nearest n = xw n := rfl
  have t1 : kbars_times [.ro 2 2 2 fun i j => ([[F E, F E], [F A, F A]].getD i []).getD j .dead] = some (SA (mulS (E, E) (A, A))) := k_times (s := (E, E)) (t := (A, A)) (fEA hE hA).1
  have t2 : kbars_times [.ro 2 2 2 fun i j => ([[F (xw n), F (xw n)], [F (lS (xw n)).1, F (lS (xw n)).2]].getD i []).getD j .dead] = some (SA (mulS (xw n, xw n) (lS (xw n)))) := k_times (s := (xw n, xw n)) (t := lS (xw n)) (fXL hx).1
  have t3 := fun k a b c d e f p q => k_spring (fAx hE hA hx).1 k a b c d e f p q
  have q1 := decide_eq_true (show (0 : Int) ≤ (ia : Int) by omega)
  have q2 := decide_eq_true (show (0 : Int) ≤ (ib : Int) by omega)
  have q3 := decide_eq_true (show (ia : Int) < (J.n : Int) by omega)
  have q4 := decide_eq_true (show (ib : Int) < (J.n : Int) by omega)
  show gbars_springs_a kjoints_Apart kjoints_Length kbars_one kbars_times kbars_spring kbars_stands kbars_springs_c1 NN J.n jr jg mn mr mg s kd ia ib ha hb (some E) (some A) (some I) = _
  unfold gbars_springs_a
  rw [q1, q2, q3, q4, Int.toNat_natCast, Int.toNat_natCast, a0, a1, a2, a3, b0, b1, b2, b3, fJ, fJ]
  simp only [tS, tI, p1, p2, okIII, okSF, okFF, okSp, okBB, ck_true, gV, tT, tC, hD, tl, tF, tB, o1, hw, t1, t2, t3, k_stands]
  rcases h with ⟨rfl, rfl, rfl⟩ | ⟨rfl, hI⟩
  · rfl
  · cases ha
    · cases hb
      · have u1 : kbars_times [.ro 2 2 2 fun i j => ([[F E, F E], [F I, F I]].getD i []).getD j .dead] = some (SA (mulS (E, E) (I, I))) := k_times (s := (E, E)) (t := (I, I)) (fEA hE hI).1
        have u3 := fun k a b c d e f p q => k_spring (fEnd hE hI hx).1 k a b c d e f p q
        have e2 : ((2 : Int) == 2) = true := rfl
        simp only [e2, cond_true, Bool.not_false, u1, u3, okSp, okFF, ck_true, gV, tC, hD, tl, tF, tI]
        rw [k_bow hE hI hx]
        all_goals rfl
      · have e2 : ((2 : Int) == 2) = true := rfl
        simp only [e2, cond_true, cond_false, Bool.not_false, Bool.not_true]
        rw [k_bow hE hI hx]
        all_goals rfl
    · cases hb
      · have e2 : ((2 : Int) == 2) = true := rfl
        simp only [e2, cond_true, cond_false, Bool.not_false, Bool.not_true]
        rw [k_bow hE hI hx]
        all_goals rfl
      · rfl
end
end Go.Proofs.Tryz
end
section
namespace Go.Proofs.Tryz
open Go Go.Am Ieee.Pos
set_option maxRecDepth 100000

/-! ### What a plan's members tell -/
def dxO (J : JS) (M : MS) (i : Nat) : Int := J.x (M.b i).toNat - J.x (M.a i).toNat
def dyO (J : JS) (M : MS) (i : Nat) : Int := J.y (M.b i).toNat - J.y (M.a i).toNat
def nO (J : JS) (M : MS) (i : Nat) : Int := dxO J M i * dxO J M i + dyO J M i * dyO J M i
/-- The springs of a member. -/
def sprO (J : JS) (M : MS) (i : Nat) (at' : Int) : List (List AV) := (ksOf (M.kd i) (M.ha i) (M.hb i)).map (spr at' (dxO J M i) (dyO J M i) (nO J M i) (M.e i) (M.ar i) (M.iv i) (M.ha i))
def allO (J : JS) (M : MS) : Nat → List (List AV)
  | 0 => []
  | i + 1 => allO J M i ++ sprO J M i i
/-- A member that may be. -/
structure MemF (J : JS) (M : MS) (i : Nat) : Prop where
  a0 : 0 ≤ M.a i
  a1 : M.a i < J.n
  b0 : 0 ≤ M.b i
  b1 : M.b i < J.n
  na : farB (J.x (M.a i).toNat) = false
  nb : farB (J.y (M.a i).toNat) = false
  nc : farB (J.x (M.b i).toNat) = false
  nd : farB (J.y (M.b i).toNat) = false
  hx : In 1023 1066 (xw (nO J M i))
  hE : In 963 1083 (M.e i)
  hA : In 963 1083 (M.ar i)
  hI : (M.kd i = 1 ∧ M.ha i = false ∧ M.hb i = false) ∨ (M.kd i = 2 ∧ In 963 1083 (M.iv i))

theorem ksOf_len (kd : Int) (ha hb : Bool) : (ksOf kd ha hb).length ≤ 3 ∧ 1 ≤ (ksOf kd ha hb).length := by
  unfold ksOf
  cases kd == 1 <;> cases ha <;> cases hb <;> decide
theorem allO_len (J : JS) (M : MS) : ∀ i, (allO J M i).length ≤ 3 * i
  | 0 => Nat.le_refl _
  | i + 1 => by
    have := allO_len J M i
    have h := (ksOf_len (M.kd i) (M.ha i) (M.hb i)).1
    simp only [allO, sprO, List.length_append, List.length_map]
    omega

theorem rows_spr (kd : Int) (ha hb : Bool) (at' dx dy n : Int) (E A I : Nat) (z : List AV) :
    rows 11 ((ksOf kd ha hb).map (spr at' dx dy n E A I ha)).length (fun i j => (((ksOf kd ha hb).map (spr at' dx dy n E A I ha)).getD i z).getD j .dead) = (ksOf kd ha hb).map (spr at' dx dy n E A I ha) := by
  unfold ksOf
  cases kd == 1 <;> cases ha <;> cases hb <;> rfl

theorem sp_l0 (f : Nat) (kx0 : Nat → Nat → Ge → Int → Int → Nat → Nat → Ge → Nat → Nat → Ge → List AV → List (List AV) → ByteArray → Int → Int → Int → Bool → Bool → Option Nat → Option Nat → Option Nat → List AV → List (List AV) → Option AV)
    (c1 c2 : Nat) (c3' : Ge) (c4 c5 : Int) (d1 d2 : Nat) (d3 : Ge) (d4 d5 : Nat) (d6 : Ge) (z1 : List AV) (e1 : List (List AV)) (s : ByteArray) (m1 m2 m3 : Int) (p q : Bool) (o1 o2 o3 : Option Nat) (z : List AV)
    (kd : Int) (ha hb : Bool) (at' dx dy n : Int) (E A I : Nat) :
    gbars_Springs_l0 kbars_Check kbars_springs_a NN kx0 at' c1 c2 c3' c4 c5 ((((ksOf kd ha hb).map (spr 0 dx dy n E A I ha)).length : Nat) : Int) d1 d2 d3 d4 d5 d6 z1 e1 s m1 m2 m3 p q o1 o2 o3 z (f + 4) 0 ((ksOf kd ha hb).map (spr 0 dx dy n E A I ha)) =
      kx0 c1 c2 c3' c4 c5 d1 d2 d3 d4 d5 d6 z1 e1 s m1 m2 m3 p q o1 o2 o3 z ((ksOf kd ha hb).map (spr at' dx dy n E A I ha)) := by
  unfold ksOf
  cases kd == 1 <;> cases ha <;> cases hb <;> rfl

theorem okXl (l : List (List AV)) : okX [RS.one (LK.l 11)] (some (.tup [lAV l])) = true := by simp [okX, fitRs, fitRS, fitK, lAV]

theorem sp_all {J : JS} {M : MS} {jr mr : Nat} {jg g : Ge} (hj : J.Ok jg) (hm : M.Ok g) (hF : ∀ i, i < M.n → MemF J M i) (h48 : M.n ≤ 48) (kx0 : Nat → Nat → Ge → Nat → Nat → Ge → List AV → List (List AV) → Option AV) (z : List AV) :
    ∀ (m q i : Nat), i + m = M.n → gbars_Springs_l1 kbars_Check kbars_springs_a NN kx0 (q + m + 1) M.n mr g M.n i J.n jr jg M.n mr g z (allO J M i) = kx0 J.n jr jg M.n mr g z (allO J M M.n)
  | 0, q, i, h => by
    obtain rfl : i = M.n := by omega
    show gbars_Springs_l1_step kbars_Check kbars_springs_a NN _ kx0 M.n mr g M.n M.n J.n jr jg M.n mr g z _ = _
    unfold gbars_Springs_l1_step
    rw [decide_eq_false (by omega), cond_false]
  | m + 1, q, i, h => by
    have hi : i < M.n := by omega
    have ih := sp_all (mr := mr) (jr := jr) hj hm hF h48 kx0 z m q (i + 1) (by omega)
    obtain ⟨g0, g1, g2, g3, g4, g5, g6, g7, g8⟩ := hm i hi
    obtain ⟨f1, f2, f3', f4, f5, f6, f7, f8, f9, f10, f11, f12⟩ := hF i hi
    have ea : M.a i = ((M.a i).toNat : Int) := by omega
    have eb : M.b i = ((M.b i).toNat : Int) := by omega
    have hs := k_springsA (dx := dxO J M i) (dy := dyO J M i) (n := nO J M i) hj (by omega) (by omega) f5 f6 f7 f8 rfl rfl rfl f9 f10 f11 (jr := jr) (M.nm i) M.n mr g f12
    rw [← ea, ← eb] at hs
    have hlen := allO_len J M i
    have hk := ksOf_len (M.kd i) (M.ha i) (M.hb i)
    show gbars_Springs_l1_step kbars_Check kbars_springs_a NN (gbars_Springs_l1 kbars_Check kbars_springs_a NN kx0 (q + m + 1)) kx0 M.n mr g M.n i J.n jr jg M.n mr g z (allO J M i) = _
    unfold gbars_Springs_l1_step
    rw [decide_eq_true (show (i : Int) < M.n by omega), decide_eq_true (show (0 : Int) ≤ i by omega), Int.toNat_natCast, g0, g1, g2, g3, g4, g5, g6, g7, g8, fitM]
    simp only [toS_str, toI_int, toB_bool, toF_flt, cond_true]
    rw [hs, okXl]
    simp only [ck_true]
    have er := rows_spr (M.kd i) (M.ha i) (M.hb i) 0 (dxO J M i) (dyO J M i) (nO J M i) (M.e i) (M.ar i) (M.iv i) []
    have eN : NN = 1125899906842620 + 4 := by unfold NN; omega
    have el := fun kx0 => sp_l0 1125899906842620 kx0 M.n mr g M.n i J.n jr jg M.n mr g z (allO J M i) (M.nm i) (M.kd i) (M.a i) (M.b i) (M.ha i) (M.hb i) (some (M.e i)) (some (M.ar i)) (some (M.iv i)) [AV.int .i64 (0 : Int), AV.int .u8 (0 : Int), AV.int .i64 (0 : Int), AV.int .i64 (0 : Int), AV.int .i64 (0 : Int), AV.int .i64 (0 : Int), AV.int .i64 (0 : Int), AV.int .i64 (0 : Int), AV.flt .f64 (some (0 : Nat)), AV.flt .f64 (some (0 : Nat)), AV.flt .f64 (some (0 : Nat))] (M.kd i) (M.ha i) (M.hb i) i (dxO J M i) (dyO J M i) (nO J M i) (M.e i) (M.ar i) (M.iv i)
    rw [← eN] at el
    have tG : ∀ (s n r : Nat) (g : Ge), toG (.ro s n r g) = g := fun _ _ _ _ => rfl
    simp only [gV, tT, hD, lAV, tG]
    rw [er]
    refine (el _).trans ?_
    have er2 := rows_spr (M.kd i) (M.ha i) (M.hb i) i (dxO J M i) (dyO J M i) (nO J M i) (M.e i) (M.ar i) (M.iv i) [AV.int .i64 (0 : Int), AV.int .u8 (0 : Int), AV.int .i64 (0 : Int), AV.int .i64 (0 : Int), AV.int .i64 (0 : Int), AV.int .i64 (0 : Int), AV.int .i64 (0 : Int), AV.int .i64 (0 : Int), AV.flt .f64 (some (0 : Nat)), AV.flt .f64 (some (0 : Nat)), AV.flt .f64 (some (0 : Nat))]
    rw [er2, List.length_map, decide_eq_true (show ((allO J M i).length + (ksOf (M.kd i) (M.ha i) (M.hb i)).length) * 88 < 70368744177664 by omega), decide_eq_true (show (allO J M i).length + (ksOf (M.kd i) (M.ha i) (M.hb i)).length < 4611686018427387904 by omega), ck_true, ck_true, wrap_s (by omega)]
    exact ih
end Go.Proofs.Tryz
end
section
namespace Go.Proofs.Tryz
open Go Go.Am Ieee.Pos
set_option maxRecDepth 100000

theorem r6_eta (dx dy n k : Int) (b : Bool) :
    [AV.int .i64 (toI ((r6 dx dy n k b).headD .dead)), AV.int .i64 (toI ((r6 dx dy n k b).tail.headD .dead)), AV.int .i64 (toI ((r6 dx dy n k b).tail.tail.headD .dead)), AV.int .i64 (toI ((r6 dx dy n k b).tail.tail.tail.headD .dead)), AV.int .i64 (toI ((r6 dx dy n k b).tail.tail.tail.tail.headD .dead)), AV.int .i64 (toI ((r6 dx dy n k b).tail.tail.tail.tail.tail.headD .dead))] = r6 dx dy n k b := by
  unfold r6
  cases k == 1 <;> cases k == 2 <;> cases k == 3 <;> cases b <;> rfl



theorem anyLt_false {p : Nat → Bool} : ∀ {n : Nat}, anyLt p n = false → ∀ k, k < n → p k = false
  | 0, _, k, hk => by omega
  | n + 1, h, k, hk => by
    simp only [anyLt, Bool.or_eq_false_iff] at h
    by_cases e : k = n
    · subst e; exact h.2
    · exact anyLt_false h.1 k (by omega)
theorem sq_pos {d : Int} (h : d ≠ 0) : 1 ≤ d * d := by
  have h1 := sq_nn d
  have h2 : d * d ≠ 0 := fun e => h (by rcases Int.mul_eq_zero.1 e with e | e <;> exact e)
  omega
/-- Every member of a plan that may be is one that may be. -/
theorem planCheck_mem {J : JS} {M : MS} (h : ((planCheck J M).1 != 0) = false) (he : ∀ i, i < M.n → M.e i < 18446744073709551616) (har : ∀ i, i < M.n → M.ar i < 18446744073709551616) (hiv : ∀ i, i < M.n → M.iv i < 18446744073709551616) :
    M.n ≤ 48 ∧ ∀ i, i < M.n → MemF J M i := by
  unfold planCheck at h
  cases hc : J.check.1 != 0
  case true => rw [hc] at h; simp only [cond_true] at h; rw [hc] at h; cases h
  rw [hc] at h
  simp only [cond_false] at h
  by_cases h48 : M.n > 48
  · rw [decide_eq_true h48] at h; cases h
  rw [decide_eq_false h48] at h
  simp only [cond_false] at h
  have hm : first (fun i => !M.may J.n i) M.n 0 = none := by
    cases hf : first (fun i => !M.may J.n i) M.n 0 with
    | none => rfl
    | some i => rw [hf] at h; cases h
  unfold JS.check at hc
  by_cases h16 : J.n > 16
  · rw [decide_eq_true h16] at hc; cases hc
  rw [decide_eq_false h16] at hc
  simp only [cond_false] at hc
  have hj : first J.bad J.n 0 = none := by
    cases hf : first J.bad J.n 0 with
    | none => rfl
    | some i => rw [hf] at hc; cases hc
  refine ⟨by omega, fun k hk => ?_⟩
  have hjb : ∀ i, i < J.n → (∀ l, l < i → (J.x i == J.x l && J.y i == J.y l) = false) ∧ farB (J.x i) = false ∧ farB (J.y i) = false := fun i hi => by
    have := first_none hj i (by omega) (by omega)
    unfold JS.bad at this
    simp only [Bool.or_eq_false_iff] at this
    exact ⟨anyLt_false this.1.1.1.2, this.1.2.1, this.1.2.2⟩
  have := first_none hm k (by omega) (by omega)
  simp only [Bool.not_eq_false'] at this
  unfold MS.may at this
  cases ha : anyFrom (fun k_1 => strEq (M.nm k_1) (M.nm k)) k 0 <;> rw [ha] at this
  case true => cases this
  cases hcore : M.core J.n k <;> rw [hcore] at this
  · cases this
  simp only [cond_true, cond_false] at this
  unfold MS.core at hcore
  cases hn : nameB (M.nm k) <;> rw [hn] at hcore
  · cases hcore
  simp only [cond_true] at hcore
  by_cases a0 : M.a k < 0
  · rw [decide_eq_true a0] at hcore; cases hcore
  rw [decide_eq_false a0] at hcore
  simp only [cond_false] at hcore
  by_cases a1 : M.a k ≥ (J.n : Int)
  · rw [decide_eq_true a1] at hcore; cases hcore
  rw [decide_eq_false a1] at hcore
  simp only [cond_false] at hcore
  by_cases b0 : M.b k < 0
  · rw [decide_eq_true b0] at hcore; cases hcore
  rw [decide_eq_false b0] at hcore
  simp only [cond_false] at hcore
  by_cases b1 : M.b k ≥ (J.n : Int)
  · rw [decide_eq_true b1] at hcore; cases hcore
  rw [decide_eq_false b1] at hcore
  simp only [cond_false] at hcore
  cases hab : M.a k == M.b k <;> rw [hab] at hcore
  case true => cases hcore
  simp only [cond_false] at hcore
  cases hE : numB (some (M.e k)) <;> rw [hE] at hcore
  · cases hcore
  simp only [cond_true] at hcore
  have hne : M.a k ≠ M.b k := by simpa using hab
  obtain ⟨d1, n1, n2⟩ := hjb (M.a k).toNat (by omega)
  obtain ⟨d2, n3, n4⟩ := hjb (M.b k).toNat (by omega)
  have f1 := far_b n1
  have f2 := far_b n2
  have f3 := far_b n3
  have f4 := far_b n4
  have hdiff : dxO J M k ≠ 0 ∨ dyO J M k ≠ 0 := by
    by_cases hx : dxO J M k = 0
    · by_cases hy : dyO J M k = 0
      · exfalso
        unfold dxO at hx
        unfold dyO at hy
        rcases Nat.lt_trichotomy (M.a k).toNat (M.b k).toNat with hl | hl | hl
        · have := d2 _ hl
          rw [show J.x (M.b k).toNat = J.x (M.a k).toNat by omega, show J.y (M.b k).toNat = J.y (M.a k).toNat by omega, beq_self_eq_true, beq_self_eq_true] at this
          cases this
        · omega
        · have := d1 _ hl
          rw [show J.x (M.b k).toNat = J.x (M.a k).toNat by omega, show J.y (M.b k).toNat = J.y (M.a k).toNat by omega, beq_self_eq_true, beq_self_eq_true] at this
          cases this
      · exact Or.inr hy
    · exact Or.inl hx
  have q1 := sq_b (d := dxO J M k) (by unfold dxO; omega)
  have q2 := sq_b (d := dyO J M k) (by unfold dyO; omega)
  have hx : In 1023 1066 (xw (nO J M k)) := xw_in (by
    unfold nO
    rcases hdiff with hd | hd
    · have := sq_pos hd; omega
    · have := sq_pos hd; omega) (by unfold nO; omega)
  refine ⟨by omega, by omega, by omega, by omega, n1, n2, n3, n4, hx, num_in (he k hk) hE, num_in (har k hk) hcore, ?_⟩
  cases k1 : M.kd k == 1 <;> rw [k1] at this
  · simp only [cond_false] at this
    cases k2 : M.kd k == 2 <;> rw [k2] at this
    · cases this
    · exact Or.inr ⟨by simpa using k2, num_in (hiv k hk) this⟩
  · simp only [cond_true] at this
    cases k2 : M.ha k <;> rw [k2] at this
    · cases k3 : M.hb k <;> rw [k3] at this
      · exact Or.inl ⟨by simpa using k1, rfl, rfl⟩
      · cases this
    · cases this
end Go.Proofs.Tryz
end
section
/- Plans made of sketches: parts. -/
namespace Go.Proofs.Tryz
open Go Go.Am Ieee.Pos
set_option maxRecDepth 100000
set_option linter.unusedVariables false
set_option linter.unusedSimpArgs false

theorem pick_sp (x : Int) {n : Int} (hn : 1 ≤ n) (hn2 : n < 4611686018427387904) : ∃ p, kkit_Pick [.int .i64 x, .int .i64 n] = some (.int .i64 p) ∧ 0 ≤ p ∧ p < n := by
  show ∃ p, gkit_Pick NN x n = some (.int .i64 p) ∧ _
  unfold gkit_Pick
  rw [decide_eq_false (show ¬ n < 1 by omega), decide_eq_false (show ¬ n = 0 by omega), cond_false, Bool.not_false, ck_true]
  have h1 : x.tmod n < n := Int.tmod_lt_of_pos x (by omega)
  have h2 : -n < x.tmod n := by
    have := Int.lt_tmod_of_pos x (show 0 < n by omega)
    omega
  by_cases h : x.tmod n < 0
  · rw [decide_eq_true h, cond_true, wrapi (by omega) (by omega)]
    exact ⟨_, rfl, by omega, by omega⟩
  · rw [decide_eq_false h, cond_false]
    exact ⟨_, rfl, by omega, by omega⟩

/-- Whole numbers, as a list that is read. -/
def IntsG (n : Nat) (g : Ge) : Prop := ∀ i, i < n → ∃ a, g i 0 = .int .i64 a
def FltsG (n : Nat) (g : Ge) : Prop := ∀ i, i < n → ∃ a : Nat, g i 0 = F a ∧ a < 18446744073709551616
theorem tmod_b {k : Int} {n : Nat} (h0 : 0 ≤ k) (hn : n ≠ 0) : 0 ≤ k.tmod (n : Int) ∧ k.tmod (n : Int) < n ∧ (k.tmod (n : Int)).toNat < n := by
  have h1 : 0 ≤ k.tmod (n : Int) := Int.tmod_nonneg _ h0
  have h2 : k.tmod (n : Int) < n := Int.tmod_lt_of_pos _ (by omega)
  exact ⟨h1, h2, by omega⟩
theorem part_sp {n r : Nat} {g : Ge} (hg : IntsG n g) {k : Int} (hk : 0 ≤ k) : ∃ v, kmade_part [.ro 1 n r g, .int .i64 k] = some (.int .i64 v) := by
  show ∃ v, gmade_part NN n r g k = _
  unfold gmade_part
  by_cases hn : n = 0
  · subst hn; exact ⟨0, rfl⟩
  · have e : (((n : Nat) : Int) == 0) = false := by
      have h : ¬ ((n : Nat) : Int) = 0 := by omega
      simpa using h
    obtain ⟨t1, t2, t3⟩ := tmod_b hk hn
    obtain ⟨a, ha⟩ := hg _ t3
    rw [e, cond_false, decide_eq_false (show ¬ ((n : Nat) : Int) = 0 by omega), decide_eq_true t1, decide_eq_true t2, ha]
    exact ⟨a, rfl⟩
theorem one_num : numB (some 4607182418800017408) = true := by
  unfold numB
  rw [ford_n (by unfold Norm ex; omega) (by unfold Norm ex; omega), ford_n (by unfold Norm ex; omega) (by unfold Norm ex; omega), c_gt, c_lt]
  rfl
theorem Number_sp {x : Nat} (hx : x < 18446744073709551616) : ∃ w, kmade_Number [F x] = some (F w) ∧ numB (some w) = true ∧ w < 18446744073709551616 := by
  show ∃ w, gmade_Number NN (some x) = some (F w) ∧ _
  unfold gmade_Number
  cases h : numB (some x)
  · unfold numB at h
    rw [h]
    exact ⟨_, rfl, one_num, by omega⟩
  · have h' := h
    unfold numB at h'
    rw [h']
    exact ⟨x, rfl, h, hx⟩
theorem number_sp {n r : Nat} {g : Ge} (hg : FltsG n g) {k : Int} (hk : 0 ≤ k) : ∃ w, kmade_number [.ro 1 n r g, .int .i64 k] = some (F w) ∧ numB (some w) = true ∧ w < 18446744073709551616 := by
  show ∃ w, gmade_number kmade_Number NN n r g k = some (F w) ∧ _
  unfold gmade_number
  by_cases hn : n = 0
  · subst hn; exact ⟨_, rfl, one_num, by omega⟩
  · have e : (((n : Nat) : Int) == 0) = false := by
      have h : ¬ ((n : Nat) : Int) = 0 := by omega
      simpa using h
    obtain ⟨t1, t2, t3⟩ := tmod_b hk hn
    obtain ⟨a, ha, hb⟩ := hg _ t3
    obtain ⟨w, hw, hnum, hlt⟩ := Number_sp hb
    rw [e, cond_false, decide_eq_false (show ¬ ((n : Nat) : Int) = 0 by omega), decide_eq_true t1, decide_eq_true t2, ha, tF]
    exact ⟨w, by rw [hw]; rfl, hnum, hlt⟩

/-- Names of a letter and a digit. -/
noncomputable def nmO (l : Int) (k : Nat) : ByteArray := toS (getV (kmade_name [.int .u8 l, .int .i64 k]))
theorem name_sp (l : Int) (k : Nat) : kmade_name [.int .u8 l, .int .i64 k] = some (.str (nmO l k)) := by
  have : ∃ s, kmade_name [.int .u8 l, .int .i64 k] = some (.str s) := ⟨_, rfl⟩
  obtain ⟨s, hs⟩ := this
  unfold nmO
  rw [hs]; rfl
theorem nm_ok {l : Int} (hl : l = 106 ∨ l = 109) {k : Nat} (hk : k < 6) : nameB (nmO l k) = true ∧ (nmO l k).size = 2 := by
  have h106 : ((List.range 6).all fun a => nameB (nmO 106 a) && (nmO 106 a).size == 2) = true := by kernel_rfl
  have h109 : ((List.range 6).all fun a => nameB (nmO 109 a) && (nmO 109 a).size == 2) = true := by kernel_rfl
  rcases hl with rfl | rfl
  · have := List.all_eq_true.1 h106 k (by simpa using hk)
    simpa using this
  · have := List.all_eq_true.1 h109 k (by simpa using hk)
    simpa using this
theorem nm_ne {l : Int} (hl : l = 106 ∨ l = 109) {a b : Nat} (ha : a < 6) (hb : b < 6) (hab : a ≠ b) : strEq (nmO l a) (nmO l b) = false := by
  have h106 : ((List.range 6).all fun a => (List.range 6).all fun b => a == b || !strEq (nmO 106 a) (nmO 106 b)) = true := by kernel_rfl
  have h109 : ((List.range 6).all fun a => (List.range 6).all fun b => a == b || !strEq (nmO 109 a) (nmO 109 b)) = true := by kernel_rfl
  have e : (a == b) = false := by simpa using hab
  rcases hl with rfl | rfl
  · have := List.all_eq_true.1 (List.all_eq_true.1 h106 a (by simpa using ha)) b (by simpa using hb)
    rw [e] at this
    simpa using this
  · have := List.all_eq_true.1 (List.all_eq_true.1 h109 a (by simpa using ha)) b (by simpa using hb)
    rw [e] at this
    simpa using this
end Go.Proofs.Tryz
end
section
/- Plans made of sketches: joints. -/
namespace Go.Proofs.Tryz
open Go Go.Am Ieee.Pos
set_option maxRecDepth 100000
set_option linter.unusedVariables false
set_option linter.unusedSimpArgs false

noncomputable def jrow (k : Nat) (x y f : Int) : List AV := [.str (nmO 106 k), .int .i32 x, .int .i32 y, .int .u8 f]
noncomputable def jl (X Y Fx : Nat → Int) (i : Nat) : List (List AV) := (List.range i).map fun k => jrow k (X k) (Y k) (Fx k)
theorem jl_len (X Y Fx : Nat → Int) (i : Nat) : (jl X Y Fx i).length = i := by simp [jl]
theorem jl_get (X Y Fx : Nat → Int) {i k : Nat} (h : k < i) (z : List AV) : (jl X Y Fx i).getD k z = jrow k (X k) (Y k) (Fx k) := by
  unfold jl
  simp [List.getD, h]
theorem jl_succ (X Y Fx : Nat → Int) (i : Nat) (x y f : Int) : jl X Y Fx i ++ [jrow i x y f] = jl (fun k => if k = i then x else X k) (fun k => if k = i then y else Y k) (fun k => if k = i then f else Fx k) (i + 1) := by
  unfold jl
  rw [List.range_succ, List.map_append]
  congr 1
  · apply List.map_congr_left
    intro k hk
    have : k ≠ i := by have := List.mem_range.1 hk; omega
    simp [this]
  · simp
structure JInv (X Y Fx : Nat → Int) (i : Nat) : Prop where
  x : ∀ k, k < i → (-8 ≤ X k ∧ X k ≤ 8) ∨ X k = 20 + 3 * k
  y : ∀ k, k < i → -8 ≤ Y k ∧ Y k ≤ 8
  f : ∀ k, k < i → 0 ≤ Fx k ∧ Fx k ≤ 7
  d : ∀ k, k < i → ∀ l, l < k → ¬ (X l = X k ∧ Y l = Y k)
theorem JInv.step {X Y Fx : Nat → Int} {i : Nat} (h : JInv X Y Fx i) {x y f : Int} (hx : (-8 ≤ x ∧ x ≤ 8 ∧ ∀ l, l < i → ¬ (X l = x ∧ Y l = y)) ∨ x = 20 + 3 * i) (hy : -8 ≤ y ∧ y ≤ 8) (hf : 0 ≤ f ∧ f ≤ 7) :
    JInv (fun k => if k = i then x else X k) (fun k => if k = i then y else Y k) (fun k => if k = i then f else Fx k) (i + 1) := by
  refine ⟨fun k hk => ?_, fun k hk => ?_, fun k hk => ?_, fun k hk l hl => ?_⟩
  · by_cases e : k = i
    · simp only [e, if_true]
      rcases hx with h1 | h1
      · exact Or.inl ⟨h1.1, h1.2.1⟩
      · exact Or.inr h1
    · simp only [e, if_false]; exact h.x k (by omega)
  · by_cases e : k = i
    · simp only [e, if_true]; exact hy
    · simp only [e, if_false]; exact h.y k (by omega)
  · by_cases e : k = i
    · simp only [e, if_true]; exact hf
    · simp only [e, if_false]; exact h.f k (by omega)
  · by_cases e : k = i
    · subst e
      have hl' : l ≠ k := by omega
      simp only [hl', if_true, if_false]
      rcases hx with h1 | h1
      · exact h1.2.2 l hl
      · have := h.x l hl
        omega
    · have hl' : l ≠ i := by omega
      simp only [e, hl', if_false]
      exact h.d k (by omega) l hl

section
variable (n N : Int) (a1 a2 : Nat) (a3 : Ge) (b1 b2 : Nat) (b3 : Ge) (c1 c2 : Nat) (c3 : Ge) (d1 d2 : Nat) (d3 : Ge) (z3 : List AV) (e3 : List (List AV)) (z4 : List AV) (e4 : List (List AV)) (z5 : List AV) (z6 : List AV) (e6 : List (List AV)) (s : ByteArray)
theorem pl_inner (X Y Fx : Nat → Int) (i : Nat) (hi : i < 6) (x0 y f : Int) : ∀ (m q k : Nat) (cur : Int), k + m = i → ((cur = x0 ∧ ∀ l, l < k → ¬ (X l = x0 ∧ Y l = y)) ∨ cur = 20 + 3 * i) →
    ∃ cur' : Int, ((cur' = x0 ∧ ∀ l, l < i → ¬ (X l = x0 ∧ Y l = y)) ∨ cur' = 20 + 3 * i) ∧
      ∀ (kx0 : Int → Int → Int → Nat → Nat → Ge → Nat → Nat → Ge → Nat → Nat → Ge → Nat → Nat → Ge → List AV → List (List AV) → List AV → List (List AV) → List AV → List (List AV) → List AV → List (List AV) → ByteArray → Int → Int → Int → Option AV),
      gmade_Sketch_Plan_l0 kkit_Pick kmade_name kmade_part kmade_number NN kx0 n i N a1 a2 a3 b1 b2 b3 c1 c2 c3 d1 d2 d3 z3 e3 z4 e4 z5 (jl X Y Fx i) z6 e6 s y f (q + m + 1) k cur =
        kx0 n i N a1 a2 a3 b1 b2 b3 c1 c2 c3 d1 d2 d3 z3 e3 z4 e4 z5 (jl X Y Fx i) z6 e6 s cur' y f
  | 0, q, k, cur, h, hc => by
    obtain rfl : k = i := by omega
    refine ⟨cur, hc, fun kx0 => ?_⟩
    show gmade_Sketch_Plan_l0_step kkit_Pick kmade_name kmade_part kmade_number NN _ kx0 n k N a1 a2 a3 b1 b2 b3 c1 c2 c3 d1 d2 d3 z3 e3 z4 e4 z5 (jl X Y Fx k) z6 e6 s y f k cur = _
    unfold gmade_Sketch_Plan_l0_step
    rw [decide_eq_false (by omega), cond_false]
  | m + 1, q, k, cur, h, hc => by
    have hk : k < i := by omega
    have f32 : ∀ n, fitK (LK.i .i32) (.int .i32 n) = true := fun _ => rfl
    have g1 : ∀ k x y f, (jrow k x y f).getD 1 .dead = .int .i32 x := fun _ _ _ _ => rfl
    have g2 : ∀ k x y f, (jrow k x y f).getD 2 .dead = .int .i32 y := fun _ _ _ _ => rfl
    have w1 : IntKind.i32.wrap (IntKind.i64.wrap (20 + IntKind.i64.wrap (3 * (i : Int)))) = 20 + 3 * i := by
      rw [wrapi (n := 3 * (i : Int)) (by omega) (by omega), wrapi (by omega) (by omega), wrap32 (by omega) (by omega)]
    obtain ⟨c, h1, h2⟩ := pl_inner X Y Fx i hi x0 y f m q (k + 1) (bif X k == cur && Y k == y then 20 + 3 * i else cur) (by omega) (by
      cases hb : X k == cur && Y k == y
      · refine hc.imp (fun ⟨h1, h2⟩ => ⟨h1, fun l hl => ?_⟩) (fun h => h)
        by_cases hlk : l = k
        · subst hlk
          intro ⟨q1, q2⟩
          rw [h1, q1, q2, beq_self_eq_true, beq_self_eq_true] at hb
          cases hb
        · exact h2 l (by omega)
      · exact Or.inr rfl)
    refine ⟨c, h1, fun kx0 => ?_⟩
    refine Eq.trans ?_ (h2 kx0)
    show gmade_Sketch_Plan_l0_step kkit_Pick kmade_name kmade_part kmade_number NN (gmade_Sketch_Plan_l0 kkit_Pick kmade_name kmade_part kmade_number NN kx0 n i N a1 a2 a3 b1 b2 b3 c1 c2 c3 d1 d2 d3 z3 e3 z4 e4 z5 (jl X Y Fx i) z6 e6 s y f (q + m + 1)) kx0 n i N a1 a2 a3 b1 b2 b3 c1 c2 c3 d1 d2 d3 z3 e3 z4 e4 z5 (jl X Y Fx i) z6 e6 s y f k cur = _
    unfold gmade_Sketch_Plan_l0_step
    rw [decide_eq_true (show (k : Int) < i by omega), decide_eq_true (show (0 : Int) ≤ k by omega), Int.toNat_natCast, jl_len, jl_get X Y Fx hk, g1, g2, f32, f32, wrap_s (by omega), w1, decide_eq_true (show (k : Int) < i by omega), tI, tI]
    cases X k == cur <;> cases Y k == y <;> rfl
end

theorem okS1 (s : ByteArray) : okM [RS.one LK.s] (some (.str s)) = true := rfl
section
variable (kx0 : Int → Int → Nat → Nat → Ge → Nat → Nat → Ge → Nat → Nat → Ge → Nat → Nat → Ge → List AV → List (List AV) → List AV → List (List AV) → List AV → List (List AV) → List AV → List (List AV) → Option AV)
  (N : Int) (a1 a2 : Nat) (a3 : Ge) (b1 b2 : Nat) (b3 : Ge) (c1 c2 : Nat) (c3 : Ge) (d1 d2 : Nat) (d3 : Ge) (z3 : List AV) (e3 : List (List AV)) (z4 : List AV) (e4 : List (List AV)) (z5 : List AV) (z6 : List AV) (e6 : List (List AV)) (hA : IntsG a1 a3) (hB : IntsG b1 b3)
include hA hB
theorem pl_joints (n : Nat) (hn : n < 6) : ∀ (m q i : Nat) (X Y Fx : Nat → Int), i + m = n → JInv X Y Fx i → ∃ X' Y' Fx', JInv X' Y' Fx' n ∧
    gmade_Sketch_Plan_l1 kkit_Pick kmade_name kmade_part kmade_number NN kx0 (q + m + 1) n i N a1 a2 a3 b1 b2 b3 c1 c2 c3 d1 d2 d3 z3 e3 z4 e4 z5 (jl X Y Fx i) z6 e6 =
      kx0 n N a1 a2 a3 b1 b2 b3 c1 c2 c3 d1 d2 d3 z3 e3 z4 e4 z5 (jl X' Y' Fx' n) z6 e6 := by
  intro m
  induction m with
  | zero =>
    intro q i X Y Fx h hI
    obtain rfl : i = n := by omega
    refine ⟨X, Y, Fx, hI, ?_⟩
    show gmade_Sketch_Plan_l1_step kkit_Pick kmade_name kmade_part kmade_number NN _ kx0 i i N a1 a2 a3 b1 b2 b3 c1 c2 c3 d1 d2 d3 z3 e3 z4 e4 z5 (jl X Y Fx i) z6 e6 = _
    unfold gmade_Sketch_Plan_l1_step
    rw [decide_eq_false (by omega), cond_false]
  | succ m IH =>
    intro q i X Y Fx h hI
    have hi : i < n := by omega
    obtain ⟨v1, p1⟩ := part_sp (r := a2) hA (k := 2 * (i : Int)) (by omega)
    obtain ⟨v2, p2⟩ := part_sp (r := a2) hA (k := 2 * (i : Int) + 1) (by omega)
    obtain ⟨v3, p3⟩ := part_sp (r := b2) hB (k := (i : Int)) (by omega)
    obtain ⟨x, p4, x1, x2⟩ := pick_sp v1 (n := 17) (by omega) (by omega)
    obtain ⟨y, p5, y1, y2⟩ := pick_sp v2 (n := 17) (by omega) (by omega)
    obtain ⟨f, p6, f1, f2⟩ := pick_sp v3 (n := 8) (by omega) (by omega)
    have hnm := name_sp 106 i
    show ∃ X' Y' Fx', _ ∧ gmade_Sketch_Plan_l1_step kkit_Pick kmade_name kmade_part kmade_number NN (gmade_Sketch_Plan_l1 kkit_Pick kmade_name kmade_part kmade_number NN kx0 (q + m + 1)) kx0 n i N a1 a2 a3 b1 b2 b3 c1 c2 c3 d1 d2 d3 z3 e3 z4 e4 z5 (jl X Y Fx i) z6 e6 = _
    unfold gmade_Sketch_Plan_l1_step
    have w8 : ∀ {f : Int}, 0 ≤ f → f < 8 → IntKind.u8.wrap f = f := fun h1 h2 => by
      simp only [IntKind.wrap, IntKind.bits, IntKind.signed]
      simp
      omega
    rw [decide_eq_true (show (i : Int) < n by omega), cond_true, wrapi (n := 2 * (i : Int)) (by omega) (by omega), wrapi (n := 2 * (i : Int) + 1) (by omega) (by omega), hnm, okS1, ck_true, p1, okI, ck_true, gV, tI, p4, okI, ck_true, p2, okI, ck_true, gV, tI, p5, okI, ck_true, p3, okI, ck_true, gV, tI, p6, okI, ck_true]
    simp only [gV, tI, tS]
    rw [wrapi (n := x - 8) (by omega) (by omega), wrapi (n := y - 8) (by omega) (by omega), wrap32 (n := x - 8) (by omega) (by omega), wrap32 (n := y - 8) (by omega) (by omega), w8 f1 f2]
    have hin := pl_inner n N a1 a2 a3 b1 b2 b3 c1 c2 c3 d1 d2 d3 z3 e3 z4 e4 z5 z6 e6 (nmO 106 i) X Y Fx i (by omega) (x - 8) (y - 8) f i (NN - i - 1) 0 (x - 8) (by omega) (Or.inl ⟨rfl, fun l hl => by omega⟩)
    rw [show NN - i - 1 + i + 1 = NN by unfold NN; omega] at hin
    obtain ⟨cur', hc, he⟩ := hin
    have h00 : ((0 : Nat) : Int) = 0 := rfl
    rw [h00] at he
    have hst := hI.step (x := cur') (y := y - 8) (f := f) (by
      rcases hc with ⟨c1, c2⟩ | c1
      · exact Or.inl ⟨by omega, by omega, fun l hl => by rw [c1]; exact c2 l hl⟩
      · exact Or.inr c1) (by omega) (by omega)
    obtain ⟨X', Y', Fx', hI', ih⟩ := IH q (i + 1) _ _ _ (by omega) hst
    refine ⟨X', Y', Fx', hI', (he _).trans ?_⟩
    have hl := jl_len X Y Fx i
    rw [hl, decide_eq_true (show (i + 1) * 32 < 70368744177664 by omega), decide_eq_true (show i + 1 < 4611686018427387904 by omega), ck_true, ck_true, wrap_s (by omega)]
    have hj := jl_succ X Y Fx i cur' (y - 8) f
    unfold jrow at hj
    rw [hj]
    exact ih
end
end Go.Proofs.Tryz
end
section
/- Plans made of sketches: members. -/
namespace Go.Proofs.Tryz
open Go Go.Am Ieee.Pos
set_option maxRecDepth 100000
set_option linter.unusedVariables false
set_option linter.unusedSimpArgs false

structure MRec where
  kd : Int
  a : Int
  b : Int
  ha : Bool
  hb : Bool
  e : Nat
  ar : Nat
  iv : Nat
noncomputable def mrow (k : Nat) (r : MRec) : List AV := [.str (nmO 109 k), .int .u8 r.kd, .int .i64 r.a, .int .i64 r.b, .bool r.ha, .bool r.hb, F r.e, F r.ar, F r.iv]
noncomputable def ml (V : Nat → MRec) (i : Nat) : List (List AV) := (List.range i).map fun k => mrow k (V k)
theorem ml_len (V : Nat → MRec) (i : Nat) : (ml V i).length = i := by simp [ml]
theorem ml_get (V : Nat → MRec) {i k : Nat} (h : k < i) (z : List AV) : (ml V i).getD k z = mrow k (V k) := by
  unfold ml
  simp [List.getD, h]
theorem ml_succ (V : Nat → MRec) (i : Nat) (r : MRec) : ml V i ++ [mrow i r] = ml (fun k => if k = i then r else V k) (i + 1) := by
  unfold ml
  rw [List.range_succ, List.map_append]
  congr 1
  · apply List.map_congr_left
    intro k hk
    have : k ≠ i := by have := List.mem_range.1 hk; omega
    simp [this]
  · simp
/-- A member that a sketch makes, in a plan of n joints. -/
structure MOk (n : Int) (r : MRec) : Prop where
  a0 : 0 ≤ r.a
  a1 : r.a < n
  b0 : 0 ≤ r.b
  b1 : r.b < n
  ab : r.a ≠ r.b
  e : numB (some r.e) = true ∧ r.e < 18446744073709551616
  ar : numB (some r.ar) = true ∧ r.ar < 18446744073709551616
  k : (r.kd = 1 ∧ r.ha = false ∧ r.hb = false ∧ r.iv = 0) ∨ (r.kd = 2 ∧ numB (some r.iv) = true ∧ r.iv < 18446744073709551616)

theorem ends_sp {n x : Int} (hn : n = 2 ∨ n = 3 ∨ n = 4) (h0 : 0 ≤ x) (h1 : x < 1000) : 0 ≤ x.tmod n ∧ x.tmod n < n ∧
    0 ≤ (IntKind.i64.wrap (IntKind.i64.wrap (x.tmod n + 1) + (IntKind.i64.wrap (x.tdiv n)).tmod (IntKind.i64.wrap (n - 1)))).tmod n ∧
    (IntKind.i64.wrap (IntKind.i64.wrap (x.tmod n + 1) + (IntKind.i64.wrap (x.tdiv n)).tmod (IntKind.i64.wrap (n - 1)))).tmod n < n ∧
    x.tmod n ≠ (IntKind.i64.wrap (IntKind.i64.wrap (x.tmod n + 1) + (IntKind.i64.wrap (x.tdiv n)).tmod (IntKind.i64.wrap (n - 1)))).tmod n := by
  have hw : IntKind.i64.wrap (n - 1) = n - 1 := wrapi (by omega) (by omega)
  rw [hw]
  rcases hn with rfl | rfl | rfl
  · rw [Int.tmod_eq_emod_of_nonneg h0, Int.tdiv_eq_ediv_of_nonneg h0, wrapi (n := x / 2) (by omega) (by omega), Int.tmod_eq_emod_of_nonneg (a := x / 2) (by omega), wrapi (n := x % 2 + 1) (by omega) (by omega), wrapi (by omega) (by omega), Int.tmod_eq_emod_of_nonneg (by omega)]
    omega
  · rw [Int.tmod_eq_emod_of_nonneg h0, Int.tdiv_eq_ediv_of_nonneg h0, wrapi (n := x / 3) (by omega) (by omega), Int.tmod_eq_emod_of_nonneg (a := x / 3) (by omega), wrapi (n := x % 3 + 1) (by omega) (by omega), wrapi (by omega) (by omega), Int.tmod_eq_emod_of_nonneg (by omega)]
    omega
  · rw [Int.tmod_eq_emod_of_nonneg h0, Int.tdiv_eq_ediv_of_nonneg h0, wrapi (n := x / 4) (by omega) (by omega), Int.tmod_eq_emod_of_nonneg (a := x / 4) (by omega), wrapi (n := x % 4 + 1) (by omega) (by omega), wrapi (by omega) (by omega), Int.tmod_eq_emod_of_nonneg (by omega)]
    omega

section
variable (kx0 : Int → Nat → Nat → Ge → Nat → Nat → Ge → Nat → Nat → Ge → Nat → Nat → Ge → List AV → List (List AV) → List AV → List (List AV) → List AV → List (List AV) → List AV → List (List AV) → Option AV)
  (N : Int) (a1 a2 : Nat) (a3 : Ge) (b1 b2 : Nat) (b3 : Ge) (c1 c2 : Nat) (c3' : Ge) (d1 d2 : Nat) (d3 : Ge) (z3 : List AV) (e3 : List (List AV)) (z4 : List AV) (e4 : List (List AV)) (z5 : List AV) (e5 : List (List AV)) (z6 : List AV) (hC : IntsG c1 c3') (hD : FltsG d1 d3)
include hC hD
theorem pl_step (n : Int) (hn : n = 2 ∨ n = 3 ∨ n = 4) (i : Nat) (hi : i < c1) (hi6 : i < 6) (kn : Int → List (List AV) → Option AV) (acc : List (List AV)) (hacc : acc.length = i) :
    ∃ r, MOk n r ∧ gmade_Sketch_Plan_l2_step kkit_Pick kmade_name kmade_part kmade_number NN kn kx0 n N a1 a2 a3 b1 b2 b3 c1 c2 c3' d1 d2 d3 z3 e3 z4 e4 z5 e5 z6 i acc = kn ((i + 1 : Nat) : Int) (acc ++ [mrow i r]) := by
  obtain ⟨v, hv⟩ := hC i hi
  have hw : IntKind.i64.wrap (IntKind.i64.wrap (16 * n) * IntKind.i64.wrap (n - 1)) = 16 * n * (n - 1) ∧ 1 ≤ 16 * n * (n - 1) ∧ 16 * n * (n - 1) < 1000 := by
    rcases hn with rfl | rfl | rfl <;> decide
  obtain ⟨x, px, x0, x1⟩ := pick_sp v (n := 16 * n * (n - 1)) (by omega) (by omega)
  obtain ⟨w1, q1, n1, l1⟩ := number_sp (r := d2) hD (k := 3 * (i : Int)) (by omega)
  obtain ⟨w2, q2, n2, l2⟩ := number_sp (r := d2) hD (k := 3 * (i : Int) + 1) (by omega)
  obtain ⟨w3, q3, n3, l3⟩ := number_sp (r := d2) hD (k := 3 * (i : Int) + 2) (by omega)
  obtain ⟨A0, A1, B0, B1, AB⟩ := ends_sp hn x0 (by omega)
  have hnm := name_sp 109 i
  have f64' : ∀ n, fitK (LK.i .i64) (.int .i64 n) = true := fun _ => rfl
  have t1 : ∀ b : Bool, (bif b then true else true) = true := fun b => by cases b <;> rfl
  unfold gmade_Sketch_Plan_l2_step
  rw [decide_eq_true (show (i : Int) < (c1 : Int) by omega), decide_eq_true (show (i : Int) < 6 by omega), decide_eq_true (show (0 : Int) ≤ i by omega), cond_true, cond_true, ck_true, ck_true, Int.toNat_natCast, hv, f64', ck_true, hw.1, tI, px, okI, ck_true, gV, tI, hnm, okS1, ck_true, gV, tS, decide_eq_false (show ¬ n = 0 by omega), Bool.not_false, ck_true,
    wrapi (n := 3 * (i : Int)) (by omega) (by omega), wrapi (n := 3 * (i : Int) + 1) (by omega) (by omega), wrapi (n := 3 * (i : Int) + 2) (by omega) (by omega), q1, okF, ck_true, q2, okF, ck_true, ck_true, decide_eq_false (show ¬ IntKind.i64.wrap (n - 1) = 0 by rw [wrapi (by omega) (by omega)]; omega), Bool.not_false, ck_true, ck_true, ck_true, gV, tF, gV, tF, hacc, decide_eq_true (show (i + 1) * 72 < 70368744177664 by omega), decide_eq_true (show i + 1 < 4611686018427387904 by omega), wrap_s (by omega)]
  generalize IntKind.i64.wrap ((IntKind.i64.wrap (x.tdiv n)).tdiv (IntKind.i64.wrap (n - 1))) = Y
  by_cases hY : Y ≥ 4
  · rw [decide_eq_true hY, cond_true, q3, okF, ck_true, t1, ck_true, t1, ck_true, ck_true, ck_true, gV, tF]
    exact ⟨⟨2, _, _, _, _, w1, w2, w3⟩, ⟨A0, A1, B0, B1, AB, ⟨n1, l1⟩, ⟨n2, l2⟩, Or.inr ⟨rfl, n3, l3⟩⟩, rfl⟩
  · rw [decide_eq_false hY, cond_false, ck_true, ck_true]
    exact ⟨⟨1, _, _, false, false, w1, w2, 0⟩, ⟨A0, A1, B0, B1, AB, ⟨n1, l1⟩, ⟨n2, l2⟩, Or.inl ⟨rfl, rfl, rfl, rfl⟩⟩, rfl⟩

theorem pl_members (n : Int) (hn : n = 2 ∨ n = 3 ∨ n = 4) : ∀ (m q i : Nat) (V : Nat → MRec), i + m = 6 → (∀ k, k < i → MOk n (V k)) → ∃ V' c, c ≤ 6 ∧ (∀ k, k < c → MOk n (V' k)) ∧
    gmade_Sketch_Plan_l2 kkit_Pick kmade_name kmade_part kmade_number NN kx0 n N a1 a2 a3 b1 b2 b3 c1 c2 c3' d1 d2 d3 z3 e3 z4 e4 z5 e5 z6 (q + m + 1) i (ml V i) =
      kx0 N a1 a2 a3 b1 b2 b3 c1 c2 c3' d1 d2 d3 z3 e3 z4 e4 z5 e5 z6 (ml V' c) := by
  intro m
  induction m with
  | zero =>
    intro q i V h hV
    refine ⟨V, i, by omega, hV, ?_⟩
    show gmade_Sketch_Plan_l2_step kkit_Pick kmade_name kmade_part kmade_number NN _ kx0 n N a1 a2 a3 b1 b2 b3 c1 c2 c3' d1 d2 d3 z3 e3 z4 e4 z5 e5 z6 i (ml V i) = _
    unfold gmade_Sketch_Plan_l2_step
    rw [decide_eq_false (show ¬ (i : Int) < 6 by omega)]
    cases decide ((i : Int) < (c1 : Int)) <;> rfl
  | succ m IH =>
    intro q i V h hV
    by_cases hi : i < c1
    · obtain ⟨r, hr, he⟩ := pl_step kx0 N a1 a2 a3 b1 b2 b3 c1 c2 c3' d1 d2 d3 z3 e3 z4 e4 z5 e5 z6 hC hD n hn i hi (by omega) (gmade_Sketch_Plan_l2 kkit_Pick kmade_name kmade_part kmade_number NN kx0 n N a1 a2 a3 b1 b2 b3 c1 c2 c3' d1 d2 d3 z3 e3 z4 e4 z5 e5 z6 (q + m + 1)) (ml V i) (ml_len V i)
      obtain ⟨V', c, hc, hV', ih⟩ := IH q (i + 1) (fun k => if k = i then r else V k) (by omega) (fun k hk => by
        by_cases e : k = i
        · simp only [e, if_true]; exact hr
        · simp only [e, if_false]; exact hV k (by omega))
      rw [ml_succ] at he
      exact ⟨V', c, hc, hV', he.trans ih⟩
    · refine ⟨V, i, by omega, hV, ?_⟩
      show gmade_Sketch_Plan_l2_step kkit_Pick kmade_name kmade_part kmade_number NN _ kx0 n N a1 a2 a3 b1 b2 b3 c1 c2 c3' d1 d2 d3 z3 e3 z4 e4 z5 e5 z6 i (ml V i) = _
      unfold gmade_Sketch_Plan_l2_step
      rw [decide_eq_false (show ¬ (i : Int) < (c1 : Int) by omega)]
      rfl
end
end Go.Proofs.Tryz
end
section
/- Plans made of sketches are plans that may be. -/
namespace Go.Proofs.Tryz
open Go Go.Am Ieee.Pos
set_option maxRecDepth 100000
set_option linter.unusedVariables false
set_option linter.unusedSimpArgs false

def BS : Nat := 140737488355328
theorem spJn : Sp28 kjoints_named BS := ⟨fun s h => name28 NN s (by unfold BS at h; unfold NN; omega)⟩
theorem spNear : Sp29 kjoints_near := ⟨fun r a b g h0 h1 => by
  show gjoints_near NN 2 r g = _
  have e : NN = 1125899906842621 + 3 := by unfold NN; omega
  rw [e]
  exact near_spec _ r a b g h0 h1⟩
theorem spBn : Sp28 kbars_named BS := ⟨fun s h => name30 NN s (by unfold BS at h; unfold NN; omega) (by unfold BS at h; omega)⟩
theorem spNum : SpN kbars_number := ⟨fun _ => rfl⟩

/-- A plan that may be, small. -/
structure Good (J : JS) (M : MS) : Prop where
  n16 : J.n ≤ 16
  m48 : M.n ≤ 48
  jnm : ∀ i, i < J.n → nameB (J.nm i) = true ∧ (J.nm i).size ≤ BS
  jds : ∀ i, i < J.n → ∀ k, k < i → strEq (J.nm i) (J.nm k) = false
  near : ∀ i, i < J.n → farB (J.x i) = false ∧ farB (J.y i) = false
  pts : ∀ i, i < J.n → ∀ k, k < i → ¬ (J.x i = J.x k ∧ J.y i = J.y k)
  fx : ∀ i, i < J.n → J.fx i ≤ 7
  mnm : ∀ i, i < M.n → nameB (M.nm i) = true ∧ (M.nm i).size ≤ BS
  mds : ∀ i, i < M.n → ∀ k, k < i → strEq (M.nm k) (M.nm i) = false
  ends : ∀ i, i < M.n → 0 ≤ M.a i ∧ M.a i < J.n ∧ 0 ≤ M.b i ∧ M.b i < J.n ∧ M.a i ≠ M.b i
  e : ∀ i, i < M.n → numB (some (M.e i)) = true ∧ M.e i < 18446744073709551616
  ar : ∀ i, i < M.n → numB (some (M.ar i)) = true ∧ M.ar i < 18446744073709551616
  k : ∀ i, i < M.n → (M.kd i = 1 ∧ M.ha i = false ∧ M.hb i = false ∧ M.iv i = 0) ∨ (M.kd i = 2 ∧ numB (some (M.iv i)) = true ∧ M.iv i < 18446744073709551616)

theorem anyLt_none {p : Nat → Bool} : ∀ {n : Nat}, (∀ k, k < n → p k = false) → anyLt p n = false
  | 0, _ => rfl
  | n + 1, h => by
    simp only [anyLt, h n (by omega), Bool.or_false]
    exact anyLt_none (fun k hk => h k (by omega))
theorem anyFrom_none {p : Nat → Bool} : ∀ {r k : Nat}, (∀ l, k ≤ l → l < k + r → p l = false) → anyFrom p r k = false
  | 0, _, _ => rfl
  | r + 1, k, h => by
    simp only [anyFrom, h k (by omega) (by omega), Bool.false_or]
    exact anyFrom_none (fun l h1 h2 => h l (by omega) (by omega))
theorem first_of {p : Nat → Bool} : ∀ {r i : Nat}, (∀ k, i ≤ k → k < i + r → p k = false) → first p r i = none
  | 0, _, _ => rfl
  | r + 1, i, h => by
    simp only [first, h i (by omega) (by omega), cond_false]
    exact first_of (fun k h1 h2 => h k (by omega) (by omega))

theorem Good.may {J : JS} {M : MS} (h : Good J M) {i : Nat} (hi : i < M.n) : M.may J.n i = true := by
  obtain ⟨a0, a1, b0, b1, ab⟩ := h.ends i hi
  have hd : anyFrom (fun k => strEq (M.nm k) (M.nm i)) i 0 = false := anyFrom_none (fun l _ hl => h.mds i hi l (by omega))
  have hab : (M.a i == M.b i) = false := by simpa using ab
  have hcore : M.core J.n i = true := by
    unfold MS.core
    rw [(h.mnm i hi).1, decide_eq_false (show ¬ M.a i < 0 by omega), decide_eq_false (show ¬ M.a i ≥ (J.n : Int) by omega), decide_eq_false (show ¬ M.b i < 0 by omega), decide_eq_false (show ¬ M.b i ≥ (J.n : Int) by omega), hab, (h.e i hi).1, (h.ar i hi).1]
    rfl
  unfold MS.may
  rw [hd, hcore]
  rcases h.k i hi with ⟨k1, k2, k3, k4⟩ | ⟨k1, k2, _⟩
  · rw [k1, k2, k3, k4]; rfl
  · rw [k1, k2]; rfl
theorem Good.bad {J : JS} {M : MS} (h : Good J M) {i : Nat} (hi : i < J.n) : J.bad i = false := by
  have h1 : anyLt (fun k => strEq (J.nm i) (J.nm k)) i = false := anyLt_none (fun k hk => h.jds i hi k hk)
  have h2 : anyLt (fun k => J.x i == J.x k && J.y i == J.y k) i = false := anyLt_none (fun k hk => by
    have := h.pts i hi k hk
    cases hx : J.x i == J.x k
    · rfl
    · cases hy : J.y i == J.y k
      · rfl
      · exact absurd ⟨by simpa using hx, by simpa using hy⟩ this)
  have := h.fx i hi
  unfold JS.bad
  rw [h1, h2, (h.jnm i hi).1, (h.near i hi).1, (h.near i hi).2, decide_eq_false (by omega)]
  rfl
theorem Good.check {J : JS} {M : MS} (h : Good J M) : planCheck J M = (0, 0) := by
  have h1 : first J.bad J.n 0 = none := first_of (fun k _ hk => h.bad (by omega))
  have h2 : first (fun i => !M.may J.n i) M.n 0 = none := first_of (fun k _ hk => by rw [h.may (by omega)]; rfl)
  have hn := h.n16
  have hm := h.m48
  have hc : J.check = (0, 0) := by
    unfold JS.check
    rw [decide_eq_false (show ¬ J.n > 16 by omega), h1]; rfl
  unfold planCheck
  rw [hc, decide_eq_false (show ¬ M.n > 48 by omega), h2]; rfl
theorem Good.mem {J : JS} {M : MS} (h : Good J M) : ∀ i, i < M.n → MemF J M i := by
  have hc := h.check
  exact (planCheck_mem (by rw [hc]; rfl) (fun i hi => (h.e i hi).2) (fun i hi => (h.ar i hi).2) (fun i hi => by
    rcases h.k i hi with ⟨_, _, _, k4⟩ | ⟨_, _, k3⟩
    · rw [k4]; omega
    · exact k3)).2

def zS11 : List AV := [AV.int .i64 (0 : Int), AV.int .u8 (0 : Int), AV.int .i64 (0 : Int), AV.int .i64 (0 : Int), AV.int .i64 (0 : Int), AV.int .i64 (0 : Int), AV.int .i64 (0 : Int), AV.int .i64 (0 : Int), AV.flt .f64 (some (0 : Nat)), AV.flt .f64 (some (0 : Nat)), AV.flt .f64 (some (0 : Nat))]
theorem Good.springs {J : JS} {M : MS} (h : Good J M) (jr r : Nat) (hr : M.n ≤ r) (jg g : Ge) (hj : J.Ok jg) (hm : M.Ok g) :
    kbars_Springs [.agg [.ro 4 J.n jr jg, .ro 9 M.n r g]] = some (.tup [.ro 11 (allO J M M.n).length (allO J M M.n).length fun i j => ((allO J M M.n).getD i zS11).getD j .dead, .int .i64 0]) := by
  have hn := h.n16
  have hmn := h.m48
  have hck : kbars_Check [.agg [.ro 4 J.n jr jg, .ro 9 M.n r g]] = some (pair (planCheck J M)) := by
    refine check5 (M14 := kjoints_Check) (M15 := kbars_may) J M jr r jg g ?_ (fun i hi => ?_) (by omega) NN (by unfold NN; omega)
    · exact check14 spJn spNear J NN (by unfold NN; omega) (by omega) jr jg hj (fun i hi => (h.jnm i hi).2)
    · exact may15 M spBn spNum (by omega) NN (by unfold NN; omega) J.n jr jg r hr g hm i hi (h.mnm i hi).2
  show gbars_Springs kbars_Check kbars_springs_a NN J.n jr jg M.n r g = _
  unfold gbars_Springs
  rw [hck, h.check]
  dsimp only
  rw [okM_p, ck_true, getP1]
  have e := fun kx0 => sp_all (jr := jr) (mr := r) hj hm h.mem hmn kx0 [AV.int .i64 (0 : Int), AV.int .u8 (0 : Int), AV.int .i64 (0 : Int), AV.int .i64 (0 : Int), AV.int .i64 (0 : Int), AV.int .i64 (0 : Int), AV.int .i64 (0 : Int), AV.int .i64 (0 : Int), AV.flt .f64 (some (0 : Nat)), AV.flt .f64 (some (0 : Nat)), AV.flt .f64 (some (0 : Nat))] M.n (NN - M.n - 1) 0 (by omega)
  rw [show NN - M.n - 1 + M.n + 1 = NN by unfold NN; omega] at e
  rw [show ((((0 : Int), (0 : Int)) : Int × Int).fst != 0) = false from rfl, cond_false]
  exact e _

/-- The plan that a sketch makes. -/
noncomputable def jsS (X Y Fx : Nat → Int) (n : Nat) : JS := ⟨n, fun i => nmO 106 i, X, Y, Fx⟩
noncomputable def msS (V : Nat → MRec) (c : Nat) : MS := ⟨c, fun i => nmO 109 i, fun i => (V i).kd, fun i => (V i).a, fun i => (V i).b, fun i => (V i).ha, fun i => (V i).hb, fun i => (V i).e, fun i => (V i).ar, fun i => (V i).iv⟩
theorem jsS_ok (X Y Fx : Nat → Int) (n : Nat) (z : List AV) : (jsS X Y Fx n).Ok fun i j => ((jl X Y Fx n).getD i z).getD j .dead := by
  intro i hi
  have hi' : i < n := hi
  have e := jl_get X Y Fx hi' z
  refine ⟨?_, ?_, ?_, ?_⟩ <;> show ((jl X Y Fx n).getD i z).getD _ .dead = _ <;> rw [e] <;> rfl
theorem msS_ok (V : Nat → MRec) (c : Nat) (z : List AV) : (msS V c).Ok fun i j => ((ml V c).getD i z).getD j .dead := by
  intro i hi
  have hi' : i < c := hi
  have e := ml_get V hi' z
  refine ⟨?_, ?_, ?_, ?_, ?_, ?_, ?_, ?_, ?_⟩ <;> show ((ml V c).getD i z).getD _ .dead = _ <;> rw [e] <;> rfl
/-- Where joints stand: apart from each other, near; moved by the same. -/
structure JGood (X Y Fx : Nat → Int) (n : Nat) : Prop where
  near : ∀ i, i < n → farB (X i) = false ∧ farB (Y i) = false
  pts : ∀ i, i < n → ∀ k, k < i → ¬ (X i = X k ∧ Y i = Y k)
  fx : ∀ i, i < n → Fx i ≤ 7
theorem good_of {X Y Fx : Nat → Int} {n : Nat} (hn : n < 6) (h : JGood X Y Fx n) {V : Nat → MRec} {c : Nat} (hc : c ≤ 6) (hV : ∀ k, k < c → MOk n (V k)) : Good (jsS X Y Fx n) (msS V c) := by
  have hj := fun i (hi : i < n) => nm_ok (Or.inl rfl : (106 : Int) = 106 ∨ (106 : Int) = 109) (show i < 6 by omega)
  have hm := fun i (hi : i < c) => nm_ok (Or.inr rfl : (109 : Int) = 106 ∨ (109 : Int) = 109) (show i < 6 by omega)
  refine ⟨by show n ≤ 16; omega, by show c ≤ 48; omega, fun i hi => ⟨(hj i hi).1, ?_⟩, fun i hi k hk => ?_, h.near, h.pts, h.fx, fun i hi => ⟨(hm i hi).1, ?_⟩, fun i hi k hk => ?_, fun i hi => ?_, fun i hi => (hV i hi).e, fun i hi => (hV i hi).ar, fun i hi => (hV i hi).k⟩
  · show (nmO 106 i).size ≤ BS
    rw [(hj i hi).2]; unfold BS; omega
  · have hi' : i < n := hi
    exact nm_ne (Or.inl rfl) (by omega) (by omega) (by omega)
  · show (nmO 109 i).size ≤ BS
    rw [(hm i hi).2]; unfold BS; omega
  · have hi' : i < c := hi
    exact nm_ne (Or.inr rfl) (by omega) (by omega) (by omega)
  · exact ⟨(hV i hi).a0, (hV i hi).a1, (hV i hi).b0, (hV i hi).b1, (hV i hi).ab⟩
theorem far_of {a : Int} (h1 : -1048576 ≤ a) (h2 : a ≤ 1048576) : farB a = false := by
  unfold farB
  rw [decide_eq_false (by omega), decide_eq_false (by omega)]; rfl
theorem JInv.good {X Y Fx : Nat → Int} {n : Nat} (h : JInv X Y Fx n) (hn : n < 6) {DX DY : Int} (d1 : -524288 ≤ DX ∧ DX < 524288) (d2 : -524288 ≤ DY ∧ DY < 524288) : JGood (fun i => X i + DX) (fun i => Y i + DY) Fx n := by
  refine ⟨fun i hi => ?_, fun i hi k hk => ?_, fun i hi => (h.f i hi).2⟩
  · have := h.x i hi
    have := h.y i hi
    exact ⟨far_of (by omega) (by omega), far_of (by omega) (by omega)⟩
  · have := h.d i hi k hk
    omega

def zJ4 : List AV := [AV.str { data := #[] }, AV.int .i32 0, AV.int .i32 0, AV.int .u8 0]
def zM9 : List AV := [AV.str { data := #[] }, AV.int .u8 0, AV.int .i64 0, AV.int .i64 0, AV.bool false, AV.bool false, AV.flt .f64 (some 0), AV.flt .f64 (some 0), AV.flt .f64 (some 0)]
theorem plan_sp (N : Int) {a1 a2 : Nat} {a3 : Ge} {b1 b2 : Nat} {b3 : Ge} {c1 c2 : Nat} {c3' : Ge} {d1 d2 : Nat} {d3 : Ge} (hA : IntsG a1 a3) (hB : IntsG b1 b3) (hC : IntsG c1 c3') (hD : FltsG d1 d3) :
    ∃ (n : Nat) (X Y Fx : Nat → Int) (V : Nat → MRec) (c : Nat), n < 6 ∧ JInv X Y Fx n ∧ c ≤ 6 ∧ (∀ k, k < c → MOk n (V k)) ∧
      kmade_Sketch_Plan [.agg [.int .i64 N, .ro 1 a1 a2 a3, .ro 1 b1 b2 b3, .ro 1 c1 c2 c3', .ro 1 d1 d2 d3]] =
        some (.agg [.ro 4 n n fun i j => ((jl X Y Fx n).getD i zJ4).getD j .dead, .ro 9 c c fun i j => ((ml V c).getD i zM9).getD j .dead]) := by
  obtain ⟨t, pt, t0, t1⟩ := pick_sp N (n := 3) (by omega) (by omega)
  obtain ⟨n, hn⟩ : ∃ n : Nat, 2 + t = n := ⟨(2 + t).toNat, by omega⟩
  show ∃ (n : Nat) (X Y Fx : Nat → Int) (V : Nat → MRec) (c : Nat), n < 6 ∧ JInv X Y Fx n ∧ c ≤ 6 ∧ (∀ k, k < c → MOk n (V k)) ∧ gmade_Sketch_Plan kkit_Pick kmade_name kmade_part kmade_number NN N a1 a2 a3 b1 b2 b3 c1 c2 c3' d1 d2 d3 = _
  unfold gmade_Sketch_Plan
  rw [pt, okI, ck_true, gV, tI, wrapi (n := 2 + t) (by omega) (by omega), hn]
  have hJ := fun kx0 => pl_joints kx0 N a1 a2 a3 b1 b2 b3 c1 c2 c3' d1 d2 d3 zJ4 [] zM9 [] zJ4 zM9 [] hA hB n (by omega) n (NN - n - 1) 0 (fun _ => 0) (fun _ => 0) (fun _ => 0) (by omega) ⟨fun k hk => by omega, fun k hk => by omega, fun k hk => by omega, fun k hk => by omega⟩
  rw [show NN - n - 1 + n + 1 = NN by unfold NN; omega] at hJ
  obtain ⟨X, Y, Fx, hI, he⟩ := hJ _
  have hM := fun kx0 => pl_members kx0 N a1 a2 a3 b1 b2 b3 c1 c2 c3' d1 d2 d3 zJ4 [] zM9 [] zJ4 (jl X Y Fx n) zM9 hC hD (n : Int) (by omega) 6 (NN - 6 - 1) 0 (fun _ => ⟨0, 0, 0, false, false, 0, 0, 0⟩) (by omega) (fun k hk => by omega)
  rw [show NN - 6 - 1 + 6 + 1 = NN by unfold NN; omega] at hM
  obtain ⟨V, c, hc, hV, hm⟩ := hM _
  refine ⟨n, X, Y, Fx, V, c, by omega, hI, hc, hV, (he.trans hm).trans ?_⟩
  simp only [jl_len, ml_len]
end Go.Proofs.Tryz
end
section
/- Numbers by their digits. -/
namespace Go.Proofs.Tryz
open Go Go.Am Ieee.Pos
set_option maxRecDepth 100000

def val (B : Nat) (d : Nat → Nat) : Nat → Nat
  | 0 => 0
  | n + 1 => val B d n + d n * B ^ n
theorem val_congr {B : Nat} {d e : Nat → Nat} : ∀ {n : Nat}, (∀ i, i < n → d i = e i) → val B d n = val B e n
  | 0, _ => rfl
  | n + 1, h => by rw [val, val, val_congr (fun i hi => h i (by omega)), h n (by omega)]
theorem val_lt {B : Nat} {d : Nat → Nat} : ∀ {n : Nat}, (∀ i, i < n → d i < B) → val B d n < B ^ n
  | 0, _ => by simp [val]
  | n + 1, h => by
    have ih := val_lt (B := B) (d := d) (n := n) (fun i hi => h i (by omega))
    have h1 : (d n + 1) * B ^ n ≤ B * B ^ n := Nat.mul_le_mul_right _ (h n (by omega))
    rw [val, Nat.pow_succ, Nat.mul_comm (B ^ n) B]
    rw [Nat.add_mul, Nat.one_mul] at h1
    omega
theorem val_top {B : Nat} {d : Nat → Nat} {n : Nat} (h : 0 < d n) : B ^ n ≤ val B d (n + 1) := by
  rw [val]
  exact Nat.le_trans (Nat.le_mul_of_pos_left _ h) (Nat.le_add_left _ _)
/-- Digits of half the size. -/
theorem val_half {H : Nat} (d : Nat → Nat) (e : Nat → Nat) (h : ∀ i, e (2 * i) + H * e (2 * i + 1) = d i) : ∀ n, val H e (2 * n) = val (H * H) d n
  | 0 => rfl
  | n + 1 => by
    rw [show 2 * (n + 1) = 2 * n + 1 + 1 by omega, val, val, val, val_half d e h n, ← h n, Nat.pow_succ, Nat.mul_pow, ← Nat.pow_add, show n + n = 2 * n by omega, Nat.add_mul, Nat.add_assoc]
    congr 1
    rw [Nat.mul_comm H (e (2 * n + 1)), Nat.mul_assoc, Nat.mul_comm H]
def upd (o : Nat → Nat) (p v : Nat) : Nat → Nat := fun i => if i = p then v else o i
theorem upd_self (o : Nat → Nat) (p v : Nat) : upd o p v p = v := if_pos rfl
theorem upd_ne {o : Nat → Nat} {p v i : Nat} (h : i ≠ p) : upd o p v i = o i := if_neg h
theorem val_upd {B : Nat} {o : Nat → Nat} {p v : Nat} : ∀ {n : Nat}, p < n → val B (upd o p v) n + o p * B ^ p = val B o n + v * B ^ p
  | n + 1, h => by
    rw [val, val]
    by_cases e : p = n
    · subst e
      rw [upd_self, val_congr (e := o) (fun i hi => upd_ne (by omega))]
      omega
    · have ih := val_upd (B := B) (o := o) (v := v) (show p < n by omega)
      rw [upd_ne (by omega)]
      omega
theorem val_up {B : Nat} (d : Nat → Nat) (n v : Nat) : val B (upd d n v) (n + 1) = val B d n + v * B ^ n := by
  rw [val, upd_self, val_congr (e := d) (fun i hi => upd_ne (by omega))]
theorem val_zero {B : Nat} : ∀ n, val B (fun _ => 0) n = 0
  | 0 => rfl
  | n + 1 => by rw [val, val_zero n]; simp

/-- How many digits a number has. -/
theorem len_le {B : Nat} (hB : 2 ≤ B) {d : Nat → Nat} {n k : Nat} (h : n = 0 ∨ 0 < d (n - 1)) (hv : val B d n < B ^ k) : n ≤ k := by
  rcases h with rfl | h
  · exact Nat.zero_le _
  · rcases Nat.lt_or_ge k n with hk | hk
    · exfalso
      obtain ⟨m, rfl⟩ : ∃ m, n = m + 1 := ⟨n - 1, by omega⟩
      have h1 := val_top (B := B) (d := d) (n := m) (by simpa using h)
      have h2 : B ^ k ≤ B ^ m := Nat.pow_le_pow_right (by omega) (by omega)
      omega
    · exact hk
theorem len_zero {B : Nat} (hB : 2 ≤ B) {d : Nat → Nat} {n : Nat} (h : n = 0 ∨ 0 < d (n - 1)) : n = 0 ↔ val B d n = 0 := by
  constructor
  · rintro rfl; rfl
  · intro hv
    have := len_le hB (k := 0) h (by rw [hv]; simp)
    omega
/-- Held against each other from the top. -/
theorem val_cmp {B : Nat} {d e : Nat → Nat} {k n : Nat} (hd : ∀ i, i < n → d i < B) (hk : k < n) (h : d k < e k) (hs : ∀ i, k < i → i < n → d i = e i) : val B d n < val B e n := by
  induction n with
  | zero => omega
  | succ n ih =>
    rw [val, val]
    by_cases ek : k = n
    · subst ek
      have h1 := val_lt (B := B) (d := d) (n := k) (fun i hi => hd i (by omega))
      have h2 : (d k + 1) * B ^ k ≤ e k * B ^ k := Nat.mul_le_mul_right _ h
      rw [Nat.add_mul, Nat.one_mul] at h2
      omega
    · have := ih (fun i hi => hd i (by omega)) (by omega) (fun i h1 h2 => hs i h1 (by omega))
      rw [hs n (by omega) (by omega)]
      omega
end Go.Proofs.Tryz
end
section
/- girderref02's natural numbers: trimming; digits of 32 bits. -/
namespace Go.Proofs.Tryz
open Go Go.Am Ieee.Pos
set_option maxRecDepth 100000
set_option linter.unusedVariables false

def ol (o : Nat → Nat) (n : Nat) : List (List AV) := (List.range n).map fun j => [AV.int .u64 ((o j : Nat) : Int)]
theorem ol_len (o : Nat → Nat) (n : Nat) : (ol o n).length = n := by simp [ol]
theorem ol_get (o : Nat → Nat) {n i : Nat} (h : i < n) (z : List AV) : (ol o n).getD i z = [AV.int .u64 ((o i : Nat) : Int)] := by simp [ol, List.getD, h]
theorem ol_succ (o : Nat → Nat) (n v : Nat) : ol o n ++ [[AV.int .u64 (v : Int)]] = ol (upd o n v) (n + 1) := by
  unfold ol
  rw [List.range_succ, List.map_append]
  congr 1
  · refine List.map_congr_left fun i hi => ?_
    rw [upd_ne (by have := List.mem_range.1 hi; omega)]
  · simp [upd_self]
theorem ol_set (o : Nat → Nat) {n p : Nat} (h : p < n) (v : Nat) : (ol o n).set p [AV.int .u64 (v : Int)] = ol (upd o p v) n := by
  apply List.ext_getElem (by simp [ol])
  intro i h1 h2
  simp only [ol, List.length_set, List.length_map, List.length_range] at h1
  rw [List.getElem_set]
  by_cases e : p = i
  · subst e; rw [if_pos rfl]; simp [ol, upd_self]
  · rw [if_neg e]; simp [ol, upd_ne (o := o) (v := v) (show i ≠ p from fun h => e h.symm)]
def Dg (B n r : Nat) (g : Ge) (d : Nat → Nat) : Prop := n ≤ r ∧ n ≤ 100000 ∧ ∀ i, i < n → g i 0 = .int .u64 ((d i : Nat) : Int) ∧ d i < B
theorem dg_ol {B n : Nat} {o : Nat → Nat} (z : List AV) (hn : n ≤ 100000) (h : ∀ i, i < n → o i < B) : Dg B n n (fun i j => ((ol o n).getD i z).getD j .dead) o :=
  ⟨Nat.le_refl _, hn, fun i hi => ⟨by show ((ol o n).getD i z).getD 0 .dead = _; rw [ol_get o hi z]; rfl, h i hi⟩⟩
theorem Dg.cut {B n r : Nat} {g : Ge} {d : Nat → Nat} (h : Dg B n r g d) {m : Nat} (hm : m ≤ n) : Dg B m r g d :=
  ⟨Nat.le_trans hm h.1, Nat.le_trans hm h.2.1, fun i hi => h.2.2 i (by omega)⟩
/-- A number told without noughts at its end. -/
def Tr (B N : Nat) (v : AV) : Prop := ∃ n r g d, v = .ro 1 n r g ∧ Dg B n r g d ∧ val B d n = N ∧ (n = 0 ∨ 0 < d (n - 1))
theorem okL1 (n r : Nat) (g : Ge) : okM [RS.one (LK.l 1)] (some (.ro 1 n r g)) = true := rfl
theorem okU (x : Int) : okM [RS.one (LK.i .u64)] (some (.int .u64 x)) = true := rfl
theorem fU (x : Int) : fitK (LK.i .u64) (.int .u64 x) = true := rfl
theorem tG1 (s n r : Nat) (g : Ge) : toG (.ro s n r g) = g := rfl
theorem tN1 (s n r : Nat) (g : Ge) : toN (.ro s n r g) = n := rfl
theorem tR1 (s n r : Nat) (g : Ge) : toR (.ro s n r g) = r := rfl
theorem w_pred {k : Nat} (h : k < 4611686018427387904) : IntKind.i64.wrap (((k + 1 : Nat) : Int) - 1) = ((k : Nat) : Int) := by rw [wrapi] <;> omega
theorem rows1 (n : Nat) (g : Ge) (d : Nat → Nat) (h : ∀ i, i < n → g i 0 = .int .u64 ((d i : Nat) : Int)) : rows 1 n g = ol d n := by
  unfold rows ol
  refine List.map_congr_left fun i hi => ?_
  rw [← h i (List.mem_range.1 hi)]
  rfl

theorem NatTrim_l0 {B n r : Nat} {g : Ge} {d : Nat → Nat} (hd : Dg B n r g d) (kx0 : Nat → Nat → Ge → Int → Option AV) : ∀ (k q : Nat), k ≤ n →
    ∃ k', k' ≤ k ∧ (k' = 0 ∨ 0 < d (k' - 1)) ∧ val B d k' = val B d k ∧ gref02_NatTrim_l0 NN kx0 n r g (q + k + 1) (k : Int) = kx0 n r g (k' : Int)
  | 0, q, _ => ⟨0, Nat.le_refl _, .inl rfl, rfl, by
    show gref02_NatTrim_l0_step NN _ kx0 n r g ((0 : Nat) : Int) = _
    unfold gref02_NatTrim_l0_step
    rw [decide_eq_false (show ¬ ((0 : Nat) : Int) > 0 by omega)]
    simp only [cond_false, ck_true]⟩
  | k + 1, q, h => by
    have hn := hd.2.1
    obtain ⟨e1, e2⟩ := hd.2.2 k (by omega)
    have es : gref02_NatTrim_l0 NN kx0 n r g (q + (k + 1) + 1) ((k + 1 : Nat) : Int) = bif ((d k : Nat) : Int) == 0 then gref02_NatTrim_l0 NN kx0 n r g (q + k + 1) (k : Int) else kx0 n r g ((k + 1 : Nat) : Int) := by
      show gref02_NatTrim_l0_step NN (gref02_NatTrim_l0 NN kx0 n r g (q + k + 1)) kx0 n r g ((k + 1 : Nat) : Int) = _
      unfold gref02_NatTrim_l0_step
      rw [decide_eq_true (show ((k + 1 : Nat) : Int) > 0 by omega), w_pred (by omega), decide_eq_true (show (0 : Int) ≤ (k : Nat) by omega), decide_eq_true (show ((k : Nat) : Int) < (n : Nat) by omega), Int.toNat_natCast, e1, fU, tI]
      rfl
    rw [es]
    by_cases h0 : d k = 0
    · obtain ⟨k', a1, a2, a3, a4⟩ := NatTrim_l0 hd kx0 k q (by omega)
      refine ⟨k', by omega, a2, ?_, ?_⟩
      · rw [a3, val, h0]; omega
      · rw [show (((d k : Nat) : Int) == 0) = true by rw [h0]; rfl, cond_true]
        exact a4
    · refine ⟨k + 1, Nat.le_refl _, .inr (by simpa using Nat.pos_of_ne_zero h0), rfl, ?_⟩
      have hq : (((d k : Nat) : Int) == 0) = false := by
        have : ¬ ((d k : Nat) : Int) = 0 := by omega
        simpa using this
      rw [hq, cond_false]

theorem low_l0 {B n r : Nat} {g : Ge} {d : Nat → Nat} (hd : Dg B n r g d) (kx0 : Nat → Nat → Ge → Int → Option AV) : ∀ (k q : Nat), k ≤ n →
    ∃ k', k' ≤ k ∧ (k' = 0 ∨ 0 < d (k' - 1)) ∧ val B d k' = val B d k ∧ gref02_low_l0 NN kx0 n r g (q + k + 1) (k : Int) = kx0 n r g (k' : Int)
  | 0, q, _ => ⟨0, Nat.le_refl _, .inl rfl, rfl, by
    show gref02_low_l0_step NN _ kx0 n r g ((0 : Nat) : Int) = _
    unfold gref02_low_l0_step
    rw [decide_eq_false (show ¬ ((0 : Nat) : Int) > 0 by omega)]
    simp only [cond_false, ck_true]⟩
  | k + 1, q, h => by
    have hn := hd.2.1
    obtain ⟨e1, e2⟩ := hd.2.2 k (by omega)
    have es : gref02_low_l0 NN kx0 n r g (q + (k + 1) + 1) ((k + 1 : Nat) : Int) = bif ((d k : Nat) : Int) == 0 then gref02_low_l0 NN kx0 n r g (q + k + 1) (k : Int) else kx0 n r g ((k + 1 : Nat) : Int) := by
      show gref02_low_l0_step NN (gref02_low_l0 NN kx0 n r g (q + k + 1)) kx0 n r g ((k + 1 : Nat) : Int) = _
      unfold gref02_low_l0_step
      rw [decide_eq_true (show ((k + 1 : Nat) : Int) > 0 by omega), w_pred (by omega), decide_eq_true (show (0 : Int) ≤ (k : Nat) by omega), decide_eq_true (show ((k : Nat) : Int) < (n : Nat) by omega), Int.toNat_natCast, e1, fU, tI]
      rfl
    rw [es]
    by_cases h0 : d k = 0
    · obtain ⟨k', a1, a2, a3, a4⟩ := low_l0 hd kx0 k q (by omega)
      refine ⟨k', by omega, a2, ?_, ?_⟩
      · rw [a3, val, h0]; omega
      · rw [show (((d k : Nat) : Int) == 0) = true by rw [h0]; rfl, cond_true]
        exact a4
    · refine ⟨k + 1, Nat.le_refl _, .inr (by simpa using Nat.pos_of_ne_zero h0), rfl, ?_⟩
      have hq : (((d k : Nat) : Int) == 0) = false := by
        have : ¬ ((d k : Nat) : Int) = 0 := by omega
        simpa using this
      rw [hq, cond_false]

theorem k_low {B n r : Nat} {g : Ge} {d : Nat → Nat} (hd : Dg B n r g d) : ∃ v, kref02_low [.ro 1 n r g] = some v ∧ Tr B (val B d n) v := by
  have hn := hd.2.1
  obtain ⟨k', a1, a2, a3, a4⟩ := low_l0 hd (fun (_ : Nat) (r' : Nat) (g' : Ge) (x : Int) => ck (decide ((0 : Int) ≤ x)) <| ck (decide (x ≤ (r' : Int))) <| some (AV.ro 1 (x.toNat - 0) (r' - 0) fun i => g' (0 + i))) n (NN - n - 1) (Nat.le_refl _)
  rw [show NN - n - 1 + n + 1 = NN by unfold NN; omega] at a4
  have hr := hd.1
  rw [decide_eq_true (show (0 : Int) ≤ (k' : Nat) by omega), decide_eq_true (show ((k' : Nat) : Int) ≤ (r : Nat) by omega)] at a4
  refine ⟨_, a4, k', r, fun i => g (0 + i), d, ?_, ?_, a3, a2⟩
  · rfl
  · exact ⟨by omega, by omega, fun i hi => by show g (0 + i) 0 = _ ∧ _; rw [Nat.zero_add]; exact hd.2.2 i (by omega)⟩

theorem k_trim {B n r : Nat} {g : Ge} {d : Nat → Nat} (hd : Dg B n r g d) : ∃ v, kref02_NatTrim [.ro 1 n r g] = some v ∧ Tr B (val B d n) v := by
  have hn := hd.2.1
  have hr := hd.1
  obtain ⟨k', a1, a2, a3, a4⟩ := NatTrim_l0 hd (fun (_ : Nat) (r' : Nat) (g' : Ge) (x : Int) => ck (decide ((0 : Int) ≤ x)) <| ck (decide (x ≤ (r' : Int))) <| ck (decide ((x.toNat - 0) * 8 < 70368744177664)) <| ck (decide (x.toNat - 0 < 4611686018427387904)) <| some (AV.ro 1 (rows 1 (x.toNat - 0) fun i => g' (0 + i)).length (rows 1 (x.toNat - 0) fun i => g' (0 + i)).length fun i j => ((rows 1 (x.toNat - 0) fun i => g' (0 + i)).getD i [AV.int .u64 0]).getD j AV.dead)) n (NN - n - 1) (Nat.le_refl _)
  rw [show NN - n - 1 + n + 1 = NN by unfold NN; omega] at a4
  have er : (rows 1 k' fun i => g (0 + i)) = ol d k' := rows1 k' _ d (fun i hi => by rw [Nat.zero_add]; exact (hd.2.2 i (by omega)).1)
  rw [decide_eq_true (show (0 : Int) ≤ (k' : Nat) by omega), decide_eq_true (show ((k' : Nat) : Int) ≤ (r : Nat) by omega), Int.toNat_natCast, Nat.sub_zero, er, ol_len,
    decide_eq_true (show k' * 8 < 70368744177664 by omega), decide_eq_true (show k' < 4611686018427387904 by omega)] at a4
  exact ⟨_, a4, k', k', _, d, rfl, dg_ol _ (by omega) (fun i hi => (hd.2.2 i (by omega)).2), a3, a2⟩

theorem k_of {x : Nat} (hx : x < 18446744073709551616) : ∃ v, kref02_NatOf [.int .u64 (x : Int)] = some v ∧ Tr 18446744073709551616 x v := by
  have hd : Dg 18446744073709551616 1 1 (fun i j => ([[AV.int .u64 ((x : Nat) : Int)]].getD i []).getD j .dead) (fun _ => x) := ⟨Nat.le_refl _, by omega, fun i hi => by
    obtain rfl : i = 0 := by omega
    exact ⟨rfl, hx⟩⟩
  obtain ⟨v, e, h⟩ := k_trim hd
  have hv : val 18446744073709551616 (fun _ => x) 1 = x := by simp [val]
  rw [hv] at h
  obtain ⟨n, r, g, d, rfl, h'⟩ := h
  refine ⟨_, ?_, n, r, g, d, rfl, h'⟩
  show gref02_NatOf kref02_NatTrim NN x = _
  unfold gref02_NatOf
  rw [e]
  rfl

theorem halves_l0 {n r : Nat} {g : Ge} {d : Nat → Nat} (hd : Dg 18446744073709551616 n r g d) (kx0 : List AV → List (List AV) → Option AV) (z : List AV) : ∀ (m q i : Nat) (o : Nat → Nat), i + m = n → (∀ j, j < i → o (2 * j) = d j % 4294967296 ∧ o (2 * j + 1) = d j / 4294967296) →
    ∃ o', (∀ j, j < n → o' (2 * j) = d j % 4294967296 ∧ o' (2 * j + 1) = d j / 4294967296) ∧ gref02_halves_l0 kref02_low NN kx0 n r g z (q + m + 1) (i : Int) (ol o (2 * i)) = kx0 z (ol o' (2 * n))
  | 0, q, i, o, h, ho => ⟨o, by rw [← h]; exact ho, by
    obtain rfl : i = n := by omega
    show gref02_halves_l0_step kref02_low NN _ kx0 i r g z (i : Int) _ = _
    unfold gref02_halves_l0_step
    rw [decide_eq_false (by omega), cond_false]⟩
  | m + 1, q, i, o, h, ho => by
    have hn := hd.2.1
    obtain ⟨e1, e2⟩ := hd.2.2 i (by omega)
    obtain ⟨o', a1, a2⟩ := halves_l0 hd kx0 z m q (i + 1) (upd (upd o (2 * i) (d i % 4294967296)) (2 * i + 1) (d i / 4294967296)) (by omega) (fun j hj => by
      by_cases e : j = i
      · subst e
        exact ⟨by rw [upd_ne (by omega), upd_self], by rw [upd_self]⟩
      · rw [upd_ne (by omega), upd_ne (by omega), upd_ne (by omega), upd_ne (by omega)]
        exact ho j (by omega))
    refine ⟨o', a1, Eq.trans ?_ a2⟩
    show gref02_halves_l0_step kref02_low NN (gref02_halves_l0 kref02_low NN kx0 n r g z (q + m + 1)) kx0 n r g z (i : Int) _ = _
    unfold gref02_halves_l0_step
    have t1 : ((d i : Nat) : Int).tmod 4294967296 = ((d i % 4294967296 : Nat) : Int) := by rw [Int.tmod_eq_emod_of_nonneg (by omega)]; omega
    have t2 : IntKind.u64.wrap (((d i : Nat) : Int).tdiv 4294967296) = ((d i / 4294967296 : Nat) : Int) := by
      rw [Int.tdiv_eq_ediv_of_nonneg (by omega), show ((d i : Nat) : Int) / 4294967296 = ((d i / 4294967296 : Nat) : Int) by omega, wrapu (by omega)]
    rw [decide_eq_true (show (i : Int) < n by omega), cond_true, decide_eq_true (show (0 : Int) ≤ i by omega), Int.toNat_natCast, e1, fU, tI, ol_len, decide_eq_true (show (2 * i + 2) * 8 < 70368744177664 by omega), decide_eq_true (show 2 * i + 2 < 4611686018427387904 by omega), wrap_s (by omega), t1, t2]
    simp only [ck_true]
    have : ol o (2 * i) ++ [[AV.int .u64 ((d i % 4294967296 : Nat) : Int)], [AV.int .u64 ((d i / 4294967296 : Nat) : Int)]] = ol (upd (upd o (2 * i) (d i % 4294967296)) (2 * i + 1) (d i / 4294967296)) (2 * (i + 1)) := by
      rw [show 2 * (i + 1) = 2 * i + 1 + 1 by omega, ← ol_succ, ← ol_succ, List.append_assoc]; rfl
    rw [this]

theorem k_halves {N : Nat} {n r : Nat} {g : Ge} {d : Nat → Nat} (hd : Dg 18446744073709551616 n r g d) (hn : n ≤ 40000) (hN : val 18446744073709551616 d n = N) : ∃ v, kref02_halves [.ro 1 n r g] = some v ∧ Tr 4294967296 N v := by
  have e := fun kx0 => halves_l0 hd kx0 [AV.int .u64 0] n (NN - n - 1) 0 (fun _ => 0) (by omega) (fun j hj => by omega)
  rw [show NN - n - 1 + n + 1 = NN by unfold NN; omega] at e
  obtain ⟨o, h1, h2⟩ := e (fun z e => let r0 : Option AV := kref02_low [AV.ro 1 e.length e.length fun i j => (e.getD i z).getD j AV.dead]; ck (okM [RS.one (LK.l 1)] r0) <| some (AV.ro 1 (toN (getV r0)) (toR (getV r0)) (toG (getV r0))))
  have hlt : ∀ i, i < 2 * n → o i < 4294967296 := fun i hi => by
    have h3 := h1 (i / 2) (by omega)
    have h4 := (hd.2.2 (i / 2) (by omega)).2
    rcases Nat.mod_two_eq_zero_or_one i with hm | hm
    · have e : i = 2 * (i / 2) := by omega
      rw [e, h3.1]; exact Nat.mod_lt _ (by decide)
    · have e : i = 2 * (i / 2) + 1 := by omega
      rw [e, h3.2]
      exact Nat.div_lt_of_lt_mul (by rw [show 4294967296 * 4294967296 = 18446744073709551616 from rfl]; exact h4)
  obtain ⟨v, e1, e2⟩ := k_low (dg_ol (z := [AV.int .u64 0]) (by omega) hlt)
  have hv : val 4294967296 o (2 * n) = N := by
    obtain ⟨F, hF⟩ : ∃ F : Nat → Nat, F = fun i => if i / 2 < n then o i else (if i % 2 = 0 then d (i / 2) % 4294967296 else d (i / 2) / 4294967296) := ⟨_, rfl⟩
    have hh : ∀ i, F (2 * i) + 4294967296 * F (2 * i + 1) = d i := by
      intro i
      have q1 : 2 * i / 2 = i := by omega
      have q2 : (2 * i + 1) / 2 = i := by omega
      rw [hF]
      dsimp only
      rw [q1, q2]
      by_cases hi : i < n
      · rw [if_pos hi, if_pos hi, (h1 i hi).1, (h1 i hi).2]
        omega
      · rw [if_neg hi, if_neg hi, if_pos (by omega), if_neg (by omega)]
        omega
    have hc : val 4294967296 o (2 * n) = val 4294967296 F (2 * n) := val_congr fun i hi => by
      rw [hF]; dsimp only; rw [if_pos (by omega)]
    rw [hc, val_half d F hh]
    exact hN
  rw [hv] at e2
  obtain ⟨n', r', g', d', rfl, e3⟩ := e2
  refine ⟨_, ?_, n', r', g', d', rfl, e3⟩
  show gref02_halves kref02_low NN n r g = _
  unfold gref02_halves
  refine h2.trans ?_
  dsimp only
  rw [ol_len, e1]
  rfl

theorem limbs_l0 {n r : Nat} {g : Ge} {d : Nat → Nat} (hd : Dg 4294967296 n r g d) (hdz : ∀ i, n ≤ i → d i = 0) (kx0 : List AV → List (List AV) → Option AV) (z : List AV) : ∀ (m q i : Nat) (o : Nat → Nat), (n + 1) / 2 = i + m → (∀ j, j < i → o j = d (2 * j) + 4294967296 * d (2 * j + 1)) →
    ∃ o', (∀ j, j < (n + 1) / 2 → o' j = d (2 * j) + 4294967296 * d (2 * j + 1)) ∧ gref02_limbs_l0 kref02_NatTrim NN kx0 n r g z (q + m + 1) ((2 * i : Nat) : Int) (ol o i) = kx0 z (ol o' ((n + 1) / 2))
  | 0, q, i, o, h, ho => ⟨o, by rw [h]; exact ho, by
    obtain rfl : i = (n + 1) / 2 := by omega
    show gref02_limbs_l0_step kref02_NatTrim NN _ kx0 n r g z _ _ = _
    unfold gref02_limbs_l0_step
    rw [decide_eq_false (by omega), cond_false]⟩
  | m + 1, q, i, o, h, ho => by
    have hn := hd.2.1
    obtain ⟨e1, e2⟩ := hd.2.2 (2 * i) (by omega)
    obtain ⟨o', a1, a2⟩ := limbs_l0 hd hdz kx0 z m q (i + 1) (upd o i (d (2 * i) + 4294967296 * d (2 * i + 1))) (by omega) (fun j hj => by
      by_cases e : j = i
      · subst e; rw [upd_self]
      · rw [upd_ne (by omega)]; exact ho j (by omega))
    refine ⟨o', a1, Eq.trans ?_ a2⟩
    show gref02_limbs_l0_step kref02_NatTrim NN (gref02_limbs_l0 kref02_NatTrim NN kx0 n r g z (q + m + 1)) kx0 n r g z ((2 * i : Nat) : Int) _ = _
    unfold gref02_limbs_l0_step
    have w1 : IntKind.i64.wrap (((2 * i : Nat) : Int) + 1) = ((2 * i + 1 : Nat) : Int) := by rw [wrapi] <;> omega
    have w2 : IntKind.i64.wrap (((2 * i : Nat) : Int) + 2) = ((2 * (i + 1) : Nat) : Int) := by rw [wrapi] <;> omega
    rw [w1, w2, decide_eq_true (show ((2 * i : Nat) : Int) < n by omega), cond_true, decide_eq_true (show (0 : Int) ≤ ((2 * i : Nat) : Int) by omega), Int.toNat_natCast, Int.toNat_natCast, e1, fU, tI, ol_len,
      decide_eq_true (show (i + 1) * 8 < 70368744177664 by omega), decide_eq_true (show i + 1 < 4611686018427387904 by omega)]
    simp only [ck_true]
    by_cases hlt : 2 * i + 1 < n
    · obtain ⟨f1, f2⟩ := hd.2.2 (2 * i + 1) hlt
      have u1 : IntKind.u64.wrap (((d (2 * i) : Nat) : Int) + IntKind.u64.wrap (4294967296 * ((d (2 * i + 1) : Nat) : Int))) = ((d (2 * i) + 4294967296 * d (2 * i + 1) : Nat) : Int) := by
        have := wrapu (n := 4294967296 * d (2 * i + 1)) (by omega)
        rw [show (4294967296 * ((d (2 * i + 1) : Nat) : Int)) = ((4294967296 * d (2 * i + 1) : Nat) : Int) by omega, this]
        have := wrapu (n := d (2 * i) + 4294967296 * d (2 * i + 1)) (by omega)
        rw [← this]; congr 1
      rw [decide_eq_true (show ((2 * i + 1 : Nat) : Int) < n by omega), decide_eq_true (show (0 : Int) ≤ ((2 * i + 1 : Nat) : Int) by omega), f1, fU, tI, u1, ol_succ]
      rfl
    · have f0 := hdz (2 * i + 1) (by omega)
      rw [decide_eq_false (show ¬ ((2 * i + 1 : Nat) : Int) < n by omega), cond_false, ol_succ, f0]
      rfl

theorem k_limbs {N : Nat} {n r : Nat} {g : Ge} {d : Nat → Nat} (hd0 : Dg 4294967296 n r g d) (hN : val 4294967296 d n = N) : ∃ v, kref02_limbs [.ro 1 n r g] = some v ∧ Tr 18446744073709551616 N v := by
  -- digits behind the end count as noughts
  generalize hdd : (fun i => if i < n then d i else 0) = dd
  have hd : Dg 4294967296 n r g dd := ⟨hd0.1, hd0.2.1, fun i hi => by
    have := hd0.2.2 i hi
    rw [← hdd]; dsimp only; rw [if_pos hi]; exact this⟩
  have hdz : ∀ i, n ≤ i → dd i = 0 := fun i hi => by rw [← hdd]; exact if_neg (by omega)
  have hv : val 4294967296 dd n = N := by
    rw [← hN]
    exact val_congr fun i hi => by rw [← hdd]; exact if_pos hi
  have hn := hd.2.1
  have e := fun kx0 => limbs_l0 hd hdz kx0 [AV.int .u64 0] ((n + 1) / 2) (NN - (n + 1) / 2 - 1) 0 (fun _ => 0) (by omega) (fun j hj => by omega)
  rw [show NN - (n + 1) / 2 - 1 + (n + 1) / 2 + 1 = NN by unfold NN; omega] at e
  obtain ⟨o, h1, h2⟩ := e (fun z e => let r0 : Option AV := kref02_NatTrim [AV.ro 1 e.length e.length fun i j => (e.getD i z).getD j AV.dead]; ck (okM [RS.one (LK.l 1)] r0) <| some (AV.ro 1 (toN (getV r0)) (toR (getV r0)) (toG (getV r0))))
  have hdl : ∀ i, dd i < 4294967296 := fun i => by
    rcases Nat.lt_or_ge i n with h | h
    · exact (hd.2.2 i h).2
    · rw [hdz i h]; decide
  have hlt : ∀ i, i < (n + 1) / 2 → o i < 18446744073709551616 := fun i hi => by
    rw [h1 i hi]
    have a := hdl (2 * i)
    have b := hdl (2 * i + 1)
    omega
  obtain ⟨v, e1, e2⟩ := k_trim (dg_ol (z := [AV.int .u64 0]) (by omega) hlt)
  have hvo : val 18446744073709551616 o ((n + 1) / 2) = N := by
    rw [val_congr (e := fun i => dd (2 * i) + 4294967296 * dd (2 * i + 1)) (fun i hi => h1 i hi), show 18446744073709551616 = 4294967296 * 4294967296 from rfl, ← val_half (H := 4294967296) _ dd (fun i => rfl)]
    by_cases hp : n % 2 = 0
    · rw [show 2 * ((n + 1) / 2) = n by omega]; exact hv
    · rw [show 2 * ((n + 1) / 2) = n + 1 by omega, val, hdz n (Nat.le_refl _), hv]; omega
  rw [hvo] at e2
  obtain ⟨n', r', g', d', rfl, e3⟩ := e2
  refine ⟨_, ?_, n', r', g', d', rfl, e3⟩
  show gref02_limbs kref02_NatTrim NN n r g = _
  unfold gref02_limbs
  refine h2.trans ?_
  dsimp only
  rw [ol_len, e1]
  rfl
end Go.Proofs.Tryz
end
section
/- girderref02's natural numbers: products. -/
namespace Go.Proofs.Tryz
open Go Go.Am Ieee.Pos
set_option maxRecDepth 100000
set_option linter.unusedVariables false

theorem Tr.get {B N k : Nat} {v : AV} (h : Tr B N v) (hB : 2 ≤ B) (hN : N < B ^ k) : ∃ n r g d, v = .ro 1 n r g ∧ Dg B n r g d ∧ val B d n = N ∧ (n = 0 ∨ 0 < d (n - 1)) ∧ n ≤ k := by
  obtain ⟨n, r, g, d, rfl, h1, h2, h3⟩ := h
  exact ⟨n, r, g, d, rfl, h1, h2, h3, len_le hB h3 (by rw [h2]; exact hN)⟩

section
variable {nx rx ny ry : Nat} {gx gy : Ge} {x y : Nat → Nat} (hx : Dg 4294967296 nx rx gx x) (hy : Dg 4294967296 ny ry gy y)
include hx hy
theorem prod_l0 {i : Nat} (hi : i < nx) (hN : nx + ny ≤ 100000) (kx0 : Nat → Nat → Ge → Nat → Nat → Ge → Nat → Nat → Nat → Int → Int → List AV → List (List AV) → Option AV) (z : List AV) (cN : Nat) :
    ∀ (m q k : Nat) (o : Nat → Nat) (c : Nat), k + m = ny → (∀ j, j < nx + ny → o j < 4294967296) → c < 4294967296 →
      ∃ (o' : Nat → Nat) (c' : Nat), c' < 4294967296 ∧ (∀ j, j < nx + ny → o' j < 4294967296) ∧ (∀ j, i + ny ≤ j → o' j = o j) ∧
        val 4294967296 o' (nx + ny) + c' * 4294967296 ^ (i + ny) + x i * val 4294967296 y k * 4294967296 ^ i = val 4294967296 o (nx + ny) + c * 4294967296 ^ (i + k) + x i * val 4294967296 y ny * 4294967296 ^ i ∧
        gref02_product_l0 kref02_low NN kx0 nx rx gx ny ry gy 0 (nx + ny) cN (i : Int) z (q + m + 1) (c : Int) (k : Int) (ol o (nx + ny)) = kx0 nx rx gx ny ry gy 0 (nx + ny) cN (i : Int) (c' : Int) z (ol o' (nx + ny))
  | 0, q, k, o, c, h, ho, hc => ⟨o, c, hc, ho, fun _ _ => rfl, by
    obtain rfl : k = ny := by omega
    rfl, by
    obtain rfl : k = ny := by omega
    show gref02_product_l0_step kref02_low NN _ kx0 nx rx gx k ry gy 0 (nx + k) cN (i : Int) z (c : Int) (k : Int) _ = _
    unfold gref02_product_l0_step
    rw [decide_eq_false (by omega), cond_false]⟩
  | m + 1, q, k, o, c, h, ho, hc => by
    obtain ⟨e1, e2⟩ := hx.2.2 i hi
    obtain ⟨f1, f2⟩ := hy.2.2 k (by omega)
    have g2 := ho (i + k) (by omega)
    have hxy : x i * y k ≤ 4294967295 * 4294967295 := Nat.mul_le_mul (by omega) (by omega)
    obtain ⟨s, hs⟩ : ∃ s, s = x i * y k + o (i + k) + c := ⟨_, rfl⟩
    have hsl : s < 18446744073709551616 := by omega
    have hdm := Nat.div_add_mod s 4294967296
    obtain ⟨o', c', a1, a2, a3, a4, a5⟩ := prod_l0 hi hN kx0 z cN m q (k + 1) (upd o (i + k) (s % 4294967296)) (s / 4294967296) (by omega) (fun j hj => by
      by_cases e : j = i + k
      · subst e; rw [upd_self]; exact Nat.mod_lt _ (by decide)
      · rw [upd_ne e]; exact ho j hj) (by omega)
    refine ⟨o', c', a1, a2, fun j hj => by rw [a3 j hj, upd_ne (by omega)], ?_, Eq.trans ?_ a5⟩
    · have hu := val_upd (B := 4294967296) (o := o) (v := s % 4294967296) (show i + k < nx + ny by omega)
      have hp : 4294967296 ^ (i + (k + 1)) = 4294967296 ^ (i + k) * 4294967296 := by rw [← Nat.add_assoc, Nat.pow_succ]
      have hp2 : 4294967296 ^ (i + k) = 4294967296 ^ k * 4294967296 ^ i := by rw [Nat.add_comm i k, Nat.pow_add]
      rw [hp, val] at a4
      have t1 : s * 4294967296 ^ (i + k) = s / 4294967296 * (4294967296 ^ (i + k) * 4294967296) + s % 4294967296 * 4294967296 ^ (i + k) := by
        rw [Nat.mul_comm (4294967296 ^ (i + k)) 4294967296, ← Nat.mul_assoc, ← Nat.add_mul, Nat.mul_comm (s / 4294967296) 4294967296, hdm]
      have t2 : s * 4294967296 ^ (i + k) = x i * y k * 4294967296 ^ (i + k) + o (i + k) * 4294967296 ^ (i + k) + c * 4294967296 ^ (i + k) := by rw [hs, Nat.add_mul, Nat.add_mul]
      have t3 : x i * (val 4294967296 y k + y k * 4294967296 ^ k) * 4294967296 ^ i = x i * val 4294967296 y k * 4294967296 ^ i + x i * y k * 4294967296 ^ (i + k) := by
        rw [Nat.mul_add, Nat.add_mul, hp2]
        simp only [Nat.mul_assoc]
      rw [t3] at a4
      omega
    · show gref02_product_l0_step kref02_low NN (gref02_product_l0 kref02_low NN kx0 nx rx gx ny ry gy 0 (nx + ny) cN (i : Int) z (q + m + 1)) kx0 nx rx gx ny ry gy 0 (nx + ny) cN (i : Int) z (c : Int) (k : Int) _ = _
      unfold gref02_product_l0_step
      have w1 : IntKind.i64.wrap ((i : Int) + (k : Int)) = ((i + k : Nat) : Int) := by rw [wrapi] <;> omega
      have w2 : IntKind.u64.wrap (((x i : Nat) : Int) * ((y k : Nat) : Int)) = ((x i * y k : Nat) : Int) := by
        rw [show ((x i : Nat) : Int) * ((y k : Nat) : Int) = ((x i * y k : Nat) : Int) by rw [Int.natCast_mul], wrapu (by omega)]
      have w3 : IntKind.u64.wrap (((x i * y k : Nat) : Int) + ((o (i + k) : Nat) : Int)) = ((x i * y k + o (i + k) : Nat) : Int) := by
        rw [show ((x i * y k : Nat) : Int) + ((o (i + k) : Nat) : Int) = ((x i * y k + o (i + k) : Nat) : Int) by omega, wrapu (by omega)]
      have w4 : IntKind.u64.wrap (((x i * y k + o (i + k) : Nat) : Int) + (c : Int)) = (s : Int) := by
        rw [show ((x i * y k + o (i + k) : Nat) : Int) + (c : Int) = (s : Int) by omega, wrapu (by omega)]
      have w5 : IntKind.u64.wrap ((s : Int).tdiv 4294967296) = ((s / 4294967296 : Nat) : Int) := by
        rw [Int.tdiv_eq_ediv_of_nonneg (by omega), show (s : Int) / 4294967296 = ((s / 4294967296 : Nat) : Int) by omega, wrapu (by omega)]
      have w6 : (s : Int).tmod 4294967296 = ((s % 4294967296 : Nat) : Int) := by rw [Int.tmod_eq_emod_of_nonneg (by omega)]; omega
      rw [w1, Int.toNat_natCast, Int.toNat_natCast, Int.toNat_natCast, Nat.zero_add, ol_get o (show i + k < nx + ny by omega) z, e1, f1, fU, fU]
      have hc0 : ∀ v : AV, [v].getD 0 AV.dead = v := fun _ => rfl
      rw [hc0, fU, tI, tI, tI, w2, w3, w4, w5, w6, decide_eq_true (show (k : Int) < ny by omega), cond_true, decide_eq_true (show (0 : Int) ≤ i by omega), decide_eq_true (show (i : Int) < nx by omega), decide_eq_true (show (0 : Int) ≤ k by omega),
        decide_eq_true (show (0 : Int) ≤ ((i + k : Nat) : Int) by omega), decide_eq_true (show ((i + k : Nat) : Int) < ((nx + ny : Nat) : Int) by omega), wrap_s (by omega)]
      simp only [ck_true]
      have hd0 : ∀ a b : AV, a :: List.drop (0 + [a].length) [b] = [a] := fun _ _ => rfl
      rw [hd0, ol_set o (show i + k < nx + ny by omega)]

theorem prod_l1 (hN : nx + ny ≤ 100000) (kx0 : Nat → Nat → Nat → List AV → List (List AV) → Option AV) (z : List AV) (cN : Nat) :
    ∀ (m q i : Nat) (o : Nat → Nat), i + m = nx → (∀ j, j < nx + ny → o j < 4294967296) → (∀ j, i + ny ≤ j → o j = 0) → val 4294967296 o (nx + ny) = val 4294967296 x i * val 4294967296 y ny →
      ∃ (o' : Nat → Nat), (∀ j, j < nx + ny → o' j < 4294967296) ∧ val 4294967296 o' (nx + ny) = val 4294967296 x nx * val 4294967296 y ny ∧
        gref02_product_l1 kref02_low NN kx0 (q + m + 1) nx rx gx ny ry gy 0 (nx + ny) cN (i : Int) z (ol o (nx + ny)) = kx0 0 (nx + ny) cN z (ol o' (nx + ny))
  | 0, q, i, o, h, ho, hz, hv => ⟨o, ho, by
    obtain rfl : i = nx := by omega
    exact hv, by
    obtain rfl : i = nx := by omega
    show gref02_product_l1_step kref02_low NN _ kx0 i rx gx ny ry gy 0 (i + ny) cN (i : Int) z _ = _
    unfold gref02_product_l1_step
    rw [decide_eq_false (by omega), cond_false]⟩
  | m + 1, q, i, o, h, ho, hz, hv => by
    obtain ⟨o1, c1, a1, a2, a3, a4, a5⟩ := prod_l0 hx hy (show i < nx by omega) hN (fun (xux0n : Nat) (xux0r : Nat) (xux0g : Ge) (xuy1n : Nat) (xuy1r : Nat) (xuy1g : Ge) (xout5o : Nat) (xout5n : Nat) (xout5c : Nat) (xui6 : Int) (xcarry7 : Int) (xh0z : List AV) (xh0e : List (List AV)) => ck (decide ((0 : Int) ≤ IntKind.i64.wrap (xui6 + (↑xuy1n : Int)))) <| ck (decide (IntKind.i64.wrap (xui6 + (↑xuy1n : Int)) < (↑xout5n : Int))) <| gref02_product_l1 kref02_low NN kx0 (q + m + 1) (xux0n) (xux0r) (xux0g) (xuy1n) (xuy1r) (xuy1g) (xout5o) (xout5n) (xout5c) (IntKind.i64.wrap (xui6 + (1 : Int))) (xh0z) (xh0e.set (xout5o + (IntKind.i64.wrap (xui6 + (↑xuy1n : Int))).toNat) (AV.int .u64 xcarry7 :: List.drop ((0 : Nat) + [AV.int .u64 xcarry7].length) (xh0e.getD (xout5o + (IntKind.i64.wrap (xui6 + (↑xuy1n : Int))).toNat) xh0z)))) z cN ny (NN - ny - 1) 0 o 0 (by omega) ho (by decide)
    rw [show NN - ny - 1 + ny + 1 = NN by have := hy.2.1; unfold NN; omega] at a5
    have w1 : IntKind.i64.wrap ((i : Int) + (ny : Int)) = ((i + ny : Nat) : Int) := by rw [wrapi] <;> omega
    have hd0 : ∀ a b : AV, a :: List.drop (0 + [a].length) [b] = [a] := fun _ _ => rfl
    obtain ⟨o', b1, b2, b3⟩ := prod_l1 hN kx0 z cN m q (i + 1) (upd o1 (i + ny) c1) (by omega) (fun j hj => by
      by_cases e : j = i + ny
      · subst e; rw [upd_self]; exact a1
      · rw [upd_ne e]; exact a2 j hj) (fun j hj => by rw [upd_ne (by omega), a3 j (by omega)]; exact hz j (by omega)) (by
      have hu := val_upd (B := 4294967296) (o := o1) (v := c1) (show i + ny < nx + ny by omega)
      rw [a3 (i + ny) (Nat.le_refl _), hz (i + ny) (Nat.le_refl _)] at hu
      have h0 : val 4294967296 y 0 = 0 := rfl
      rw [h0, hv] at a4
      rw [val, Nat.add_mul, Nat.mul_right_comm (x i)]
      omega)
    refine ⟨o', b1, b2, Eq.trans ?_ b3⟩
    show gref02_product_l1_step kref02_low NN (gref02_product_l1 kref02_low NN kx0 (q + m + 1)) kx0 nx rx gx ny ry gy 0 (nx + ny) cN (i : Int) z _ = _
    unfold gref02_product_l1_step
    rw [decide_eq_true (show (i : Int) < nx by omega), cond_true]
    refine a5.trans ?_
    rw [w1, Int.toNat_natCast, Nat.zero_add, ol_get o1 (show i + ny < nx + ny by omega) z, hd0, ol_set o1 (show i + ny < nx + ny by omega), decide_eq_true (show (0 : Int) ≤ ((i + ny : Nat) : Int) by omega), decide_eq_true (show ((i + ny : Nat) : Int) < ((nx + ny : Nat) : Int) by omega), wrap_s (by omega)]
    simp only [ck_true]

theorem k_product (hN : nx + ny ≤ 100000) : ∃ v, kref02_product [.ro 1 nx rx gx, .ro 1 ny ry gy] = some v ∧ Tr 4294967296 (val 4294967296 x nx * val 4294967296 y ny) v := by
  have e := fun kx0 => prod_l1 hx hy hN kx0 [AV.int .u64 0] (nx + ny) nx (NN - nx - 1) 0 (fun _ => 0) (by omega) (fun j hj => by decide) (fun _ _ => rfl) (by rw [val_zero, show val 4294967296 x 0 = 0 from rfl, Nat.zero_mul])
  rw [show NN - nx - 1 + nx + 1 = NN by have := hx.2.1; unfold NN; omega] at e
  obtain ⟨o, h1, h2, h3⟩ := e (fun (xout5o_1 : Nat) (xout5n_1 : Nat) (xout5c_1 : Nat) (xh0z_1 : List AV) (xh0e_1 : List (List AV)) => let r0 : Option AV := kref02_low [AV.ro (1 : Nat) xout5n_1 xout5c_1 fun (i j : Nat) => (xh0e_1.getD (xout5o_1 + i) xh0z_1).getD j AV.dead]; ck (okM [RS.one (LK.l (1 : Nat))] r0) <| some (AV.ro (1 : Nat) (toN (getV r0)) (toR (getV r0)) (toG (getV r0))))
  obtain ⟨v, e1, e2⟩ := k_low (dg_ol (z := [AV.int .u64 0]) hN h1)
  rw [h2] at e2
  obtain ⟨n', r', g', d', rfl, e3⟩ := e2
  refine ⟨_, ?_, n', r', g', d', rfl, e3⟩
  have w1 : IntKind.i64.wrap ((nx : Int) + (ny : Int)) = ((nx + ny : Nat) : Int) := by rw [wrapi] <;> omega
  have hrep : List.replicate (nx + ny) [AV.int .u64 (0 : Int)] = ol (fun _ => 0) (nx + ny) := by
    unfold ol
    rw [List.map_const', List.length_range]; rfl
  show gref02_product kref02_low NN nx rx gx ny ry gy = _
  unfold gref02_product
  rw [w1, Int.toNat_natCast, decide_eq_true (show (0 : Int) ≤ ((nx + ny : Nat) : Int) by omega), decide_eq_true (Int.le_refl _), Nat.ble_eq_true_of_le (show 8 * (nx + ny) ≤ 281474976710656 by omega), Nat.ble_eq_true_of_le (show nx + ny + 1 ≤ 4611686018427387904 by omega), hrep, ck_true, ck_true, ck_true, ck_true]
  refine h3.trans ?_
  simp only [Nat.zero_add]
  rw [e1]
  rfl
end

/-- The product of two numbers of at most 300 limbs. -/
theorem k_mul {A C : Nat} {a b : AV} (ha : Tr 18446744073709551616 A a) (hb : Tr 18446744073709551616 C b) (hA : A < 18446744073709551616 ^ 300) (hC : C < 18446744073709551616 ^ 300) : ∃ v, kref02_NatMul [a, b] = some v ∧ Tr 18446744073709551616 (A * C) v := by
  obtain ⟨n, r, g, d, rfl, h1, h2, h3, h4⟩ := ha.get (by decide) hA
  obtain ⟨n', r', g', d', rfl, h1', h2', h3', h4'⟩ := hb.get (by decide) hC
  obtain ⟨v0, e0, t0⟩ := k_halves h1 (by omega) h2
  obtain ⟨v1, e1, t1⟩ := k_halves h1' (by omega) h2'
  have up : ∀ {n : Nat} {d : Nat → Nat} {N : Nat}, (∀ i, i < n → d i < 18446744073709551616) → val 18446744073709551616 d n = N → N < 4294967296 ^ (2 * n) := fun {n d N} hd hN => by
    rw [← hN, Nat.pow_mul]
    exact val_lt hd
  obtain ⟨m, s, k, x, rfl, x1, x2, x3, x4⟩ := t0.get (by decide) (up (fun i hi => (h1.2.2 i hi).2) h2)
  obtain ⟨m', s', k', y, rfl, y1, y2, y3, y4⟩ := t1.get (by decide) (up (fun i hi => (h1'.2.2 i hi).2) h2')
  obtain ⟨v2, e2, t2⟩ := k_product x1 y1 (by omega)
  rw [x2, y2] at t2
  obtain ⟨p, q, u, z, rfl, z1, z2, z3⟩ := t2
  obtain ⟨v3, e3, t3⟩ := k_limbs z1 z2
  obtain ⟨p', q', u', z', rfl, hz'⟩ := t3
  refine ⟨_, ?_, p', q', u', z', rfl, hz'⟩
  show gref02_NatMul kref02_halves kref02_product kref02_limbs NN n r g n' r' g' = _
  unfold gref02_NatMul
  dsimp only
  rw [e0, e1, okL1, ck_true, okL1, ck_true, gV, gV, tN1, tR1, tG1, tN1, tR1, tG1, e2, okL1, ck_true, gV, tN1, tR1, tG1, e3]
  rfl
end Go.Proofs.Tryz
end
section
/- girderref02's natural numbers: bits, powers of two, order, differences. -/
namespace Go.Proofs.Tryz
open Go Go.Am Ieee.Pos
set_option maxRecDepth 100000
set_option linter.unusedVariables false

theorem bits_l0 (kx0 : Int → Option AV) : ∀ (m q t c : Nat), t < 2 ^ m → m ≤ 64 → c + m ≤ 1000000 → ∃ b, b ≤ m ∧ t < 2 ^ b ∧ (b = 0 ∨ 2 ^ (b - 1) ≤ t) ∧ gref02_NatBits_l0 kref02_NatTrim NN kx0 (q + m + 1) (c : Int) (t : Int) = kx0 ((c + b : Nat) : Int)
  | 0, q, t, c, h, _, _ => ⟨0, Nat.le_refl _, h, .inl rfl, by
    obtain rfl : t = 0 := by simpa using h
    show gref02_NatBits_l0_step kref02_NatTrim NN _ kx0 (c : Int) ((0 : Nat) : Int) = _
    unfold gref02_NatBits_l0_step
    rw [decide_eq_false (by omega), cond_false, Nat.add_zero]⟩
  | m + 1, q, t, c, h, hm, hc => by
    rcases Nat.eq_zero_or_pos t with rfl | ht
    · refine ⟨0, Nat.zero_le _, by simp, .inl rfl, ?_⟩
      show gref02_NatBits_l0_step kref02_NatTrim NN _ kx0 (c : Int) ((0 : Nat) : Int) = _
      unfold gref02_NatBits_l0_step
      rw [decide_eq_false (by omega), cond_false, Nat.add_zero]
    · rw [Nat.pow_succ] at h
      have hp : 2 ^ m ≤ 2 ^ 64 := Nat.pow_le_pow_right (by decide) (by omega)
      obtain ⟨b, b1, b2, b3, b4⟩ := bits_l0 kx0 m q (t / 2) (c + 1) (by omega) (by omega) (by omega)
      refine ⟨b + 1, by omega, ?_, .inr ?_, Eq.trans ?_ (b4.trans (by rw [show c + 1 + b = c + (b + 1) by omega]))⟩
      · rw [Nat.pow_succ]; omega
      · rw [Nat.add_sub_cancel]
        rcases b3 with rfl | b3
        · show 2 ^ 0 ≤ t; rw [Nat.pow_zero]; exact ht
        · rcases Nat.eq_zero_or_pos b with rfl | hb
          · show 2 ^ 0 ≤ t; rw [Nat.pow_zero]; exact ht
          · obtain ⟨b', rfl⟩ : ∃ b', b = b' + 1 := ⟨b - 1, by omega⟩
            rw [Nat.add_sub_cancel] at b3
            rw [Nat.pow_succ]; omega
      · show gref02_NatBits_l0_step kref02_NatTrim NN (gref02_NatBits_l0 kref02_NatTrim NN kx0 (q + m + 1)) kx0 (c : Int) (t : Int) = _
        unfold gref02_NatBits_l0_step
        have w1 : IntKind.i64.wrap ((c : Int) + 1) = ((c + 1 : Nat) : Int) := by rw [wrapi] <;> omega
        have w2 : IntKind.u64.wrap ((t : Int).tdiv 2) = ((t / 2 : Nat) : Int) := by
          rw [Int.tdiv_eq_ediv_of_nonneg (by omega), show (t : Int) / 2 = ((t / 2 : Nat) : Int) by omega, wrapu (by omega)]
        rw [decide_eq_true (by omega), cond_true, w1, w2]

theorem k_bits {N : Nat} {a : AV} (ha : Tr 18446744073709551616 N a) (hN : N < 18446744073709551616 ^ 300) : ∃ b : Nat, b ≤ 20000 ∧ kref02_NatBits [a] = some (.int .i64 (b : Int)) ∧ (N = 0 → b = 0) ∧ (N ≠ 0 → 0 < b ∧ 2 ^ (b - 1) ≤ N) ∧ N < 2 ^ b := by
  obtain ⟨n0, r0, g0, d0, rfl, h1, h2, h3, h4⟩ := ha.get (by decide) hN
  obtain ⟨v, e, t⟩ := k_trim h1
  rw [h2] at t
  obtain ⟨n, r, g, d, rfl, x1, x2, x3, x4⟩ := t.get (by decide) hN
  have hz := len_zero (B := 18446744073709551616) (by decide) x3
  rw [x2] at hz
  have hstart : kref02_NatBits [.ro 1 n0 r0 g0] = gref02_NatBits kref02_NatTrim NN n0 r0 g0 := rfl
  rcases Nat.eq_zero_or_pos n with rfl | hn
  · refine ⟨0, by omega, ?_, fun _ => rfl, fun h => absurd (hz.1 rfl) h, by rw [hz.1 rfl]; decide⟩
    rw [hstart]
    unfold gref02_NatBits
    dsimp only
    rw [e, okL1, ck_true, gV, tN1]
    rfl
  · obtain ⟨m, rfl⟩ : ∃ m, n = m + 1 := ⟨n - 1, by omega⟩
    have htop : 0 < d m := by rcases x3 with h | h; omega; simpa using h
    obtain ⟨f1, f2⟩ := x1.2.2 m (by omega)
    obtain ⟨b, b1, b2, b3, b4⟩ := bits_l0 (fun (xun4 : Int) => some (AV.int .i64 xun4)) 64 (NN - 65) (d m) (64 * m) (by exact f2) (Nat.le_refl _) (by omega)
    rw [show NN - 65 + 64 + 1 = NN by unfold NN; omega] at b4
    have b5 : 0 < b := by
      rcases Nat.eq_zero_or_pos b with h | h
      · subst h; simp at b2; omega
      · exact h
    have hW : 18446744073709551616 ^ m = 2 ^ (64 * m) := by rw [Nat.pow_mul]
    have hlow := val_lt (B := 18446744073709551616) (d := d) (n := m) (fun i hi => (x1.2.2 i (by omega)).2)
    rw [val] at x2
    refine ⟨64 * m + b, by omega, ?_, fun h => by rw [h] at x2; have : 0 < d m * 18446744073709551616 ^ m := Nat.mul_pos htop (Nat.pow_pos (by decide)); omega, fun _ => ⟨by omega, ?_⟩, ?_⟩
    · rw [hstart]
      unfold gref02_NatBits
      dsimp only
      have hne : ((((m + 1 : Nat) : Nat) : Int) == 0) = false := by
        have : ¬ ((m + 1 : Nat) : Int) = 0 := by omega
        simpa using this
      rw [e, okL1, ck_true, gV, tN1, hne, cond_false, w_pred (by omega), tG1, Int.toNat_natCast, f1, fU, tI, decide_eq_true (show (0 : Int) ≤ m by omega), decide_eq_true (show (m : Int) < ((m + 1 : Nat) : Int) by omega), ck_true, ck_true, ck_true,
        show ((64 : Int) * (m : Int)) = ((64 * m : Nat) : Int) by omega, wrapi (n := ((64 * m : Nat) : Int)) (by omega) (by omega)]
      exact b4
    · rw [← x2, show 64 * m + b - 1 = b - 1 + 64 * m by omega, Nat.pow_add, ← hW]
      have : 2 ^ (b - 1) * 18446744073709551616 ^ m ≤ d m * 18446744073709551616 ^ m := Nat.mul_le_mul_right _ (by rcases b3 with h | h; omega; exact h)
      omega
    · rw [← x2, Nat.add_comm (64 * m), Nat.pow_add, ← hW]
      have : (d m + 1) * 18446744073709551616 ^ m ≤ 2 ^ b * 18446744073709551616 ^ m := Nat.mul_le_mul_right _ b2
      rw [Nat.add_mul, Nat.one_mul] at this
      omega

theorem up_l0 (kx0 : Nat → Nat → Ge → Nat → Nat → Nat → Int → Int → List AV → List (List AV) → Option AV) (k : Nat) (dn dr : Nat) (dg : Ge) (oo on oc : Nat) (cy : Int) (z : List AV) (e : List (List AV)) :
    ∀ (m q i by' : Nat), i + m = k % 32 → by' = 2 ^ i → gref02_NatUp_l0 kref02_halves kref02_limbs NN kx0 (k : Int) dn dr dg oo on oc cy z e (q + m + 1) (by' : Int) (i : Int) = kx0 dn dr dg oo on oc cy ((2 ^ (k % 32) : Nat) : Int) z e
  | 0, q, i, by', h, hb => by
    have t : (k : Int).tmod 32 = ((k % 32 : Nat) : Int) := by rw [Int.tmod_eq_emod_of_nonneg (by omega)]; omega
    show gref02_NatUp_l0_step kref02_halves kref02_limbs NN _ kx0 (k : Int) dn dr dg oo on oc cy z e (by' : Int) (i : Int) = _
    unfold gref02_NatUp_l0_step
    rw [t, decide_eq_false (by omega), cond_false, hb, show i = k % 32 by omega]
  | m + 1, q, i, by', h, hb => by
    have t : (k : Int).tmod 32 = ((k % 32 : Nat) : Int) := by rw [Int.tmod_eq_emod_of_nonneg (by omega)]; omega
    have hp : 2 ^ i ≤ 2 ^ 31 := Nat.pow_le_pow_right (by decide) (by omega)
    show gref02_NatUp_l0_step kref02_halves kref02_limbs NN (gref02_NatUp_l0 kref02_halves kref02_limbs NN kx0 (k : Int) dn dr dg oo on oc cy z e (q + m + 1)) kx0 (k : Int) dn dr dg oo on oc cy z e (by' : Int) (i : Int) = _
    unfold gref02_NatUp_l0_step
    rw [t, decide_eq_true (by omega), cond_true, wrap_s (by omega), show (2 : Int) * (by' : Int) = ((2 * by' : Nat) : Int) by omega, wrapu (by omega)]
    exact up_l0 kx0 k dn dr dg oo on oc cy z e m q (i + 1) (2 * by') (by omega) (by rw [hb, Nat.pow_succ]; omega)

section
variable {nx rx : Nat} {gx : Ge} {x : Nat → Nat} (hx : Dg 4294967296 nx rx gx x)
include hx
theorem up_l1 {f p : Nat} (hf : f ≤ 2147483648) (hp : p + nx ≤ 50000) (kx0 : Int → List AV → List (List AV) → Option AV) (z : List AV) :
    ∀ (m q i : Nat) (o : Nat → Nat) (c : Nat), i + m = nx → (∀ j, j < p + i → o j < 4294967296) → c < 4294967296 →
      ∃ (o' : Nat → Nat) (c' : Nat), c' < 4294967296 ∧ (∀ j, j < p + nx → o' j < 4294967296) ∧ val 4294967296 o' (p + nx) + c' * 4294967296 ^ (p + nx) + f * val 4294967296 x i * 4294967296 ^ p = val 4294967296 o (p + i) + c * 4294967296 ^ (p + i) + f * val 4294967296 x nx * 4294967296 ^ p ∧
        gref02_NatUp_l1 kref02_halves kref02_limbs NN kx0 nx rx gx (f : Int) z (q + m + 1) (c : Int) (i : Int) (ol o (p + i)) = kx0 (c' : Int) z (ol o' (p + nx))
  | 0, q, i, o, c, h, ho, hc => ⟨o, c, hc, by
    obtain rfl : i = nx := by omega
    exact ho, by
    obtain rfl : i = nx := by omega
    rfl, by
    obtain rfl : i = nx := by omega
    show gref02_NatUp_l1_step kref02_halves kref02_limbs NN _ kx0 i rx gx (f : Int) z (c : Int) (i : Int) _ = _
    unfold gref02_NatUp_l1_step
    rw [decide_eq_false (by omega), cond_false]⟩
  | m + 1, q, i, o, c, h, ho, hc => by
    obtain ⟨e1, e2⟩ := hx.2.2 i (by omega)
    have hxf : x i * f ≤ 4294967295 * 2147483648 := Nat.mul_le_mul (by omega) hf
    obtain ⟨s, hs⟩ : ∃ s, s = x i * f + c := ⟨_, rfl⟩
    have hdm := Nat.div_add_mod s 4294967296
    obtain ⟨o', c', a1, a2, a4, a5⟩ := up_l1 hf hp kx0 z m q (i + 1) (upd o (p + i) (s % 4294967296)) (s / 4294967296) (by omega) (fun j hj => by
      by_cases e : j = p + i
      · subst e; rw [upd_self]; exact Nat.mod_lt _ (by decide)
      · rw [upd_ne e]; exact ho j (by omega)) (by omega)
    refine ⟨o', c', a1, a2, ?_, Eq.trans ?_ a5⟩
    · have hu := val_up (B := 4294967296) o (p + i) (s % 4294967296)
      have hp' : 4294967296 ^ (p + (i + 1)) = 4294967296 ^ (p + i) * 4294967296 := by rw [← Nat.add_assoc, Nat.pow_succ]
      have hp2 : 4294967296 ^ (p + i) = 4294967296 ^ i * 4294967296 ^ p := by rw [Nat.add_comm p i, Nat.pow_add]
      rw [hp', val, show p + (i + 1) = p + i + 1 from rfl, hu] at a4
      have t1 : s * 4294967296 ^ (p + i) = s / 4294967296 * (4294967296 ^ (p + i) * 4294967296) + s % 4294967296 * 4294967296 ^ (p + i) := by
        rw [Nat.mul_comm (4294967296 ^ (p + i)) 4294967296, ← Nat.mul_assoc, ← Nat.add_mul, Nat.mul_comm (s / 4294967296) 4294967296, hdm]
      have t2 : s * 4294967296 ^ (p + i) = f * x i * 4294967296 ^ (p + i) + c * 4294967296 ^ (p + i) := by rw [hs, Nat.add_mul, Nat.mul_comm (x i) f]
      have t3 : f * (val 4294967296 x i + x i * 4294967296 ^ i) * 4294967296 ^ p = f * val 4294967296 x i * 4294967296 ^ p + f * x i * 4294967296 ^ (p + i) := by
        rw [Nat.mul_add, Nat.add_mul, hp2]
        simp only [Nat.mul_assoc]
      rw [t3] at a4
      omega
    · show gref02_NatUp_l1_step kref02_halves kref02_limbs NN (gref02_NatUp_l1 kref02_halves kref02_limbs NN kx0 nx rx gx (f : Int) z (q + m + 1)) kx0 nx rx gx (f : Int) z (c : Int) (i : Int) _ = _
      unfold gref02_NatUp_l1_step
      have w2 : IntKind.u64.wrap (((x i : Nat) : Int) * (f : Int)) = ((x i * f : Nat) : Int) := by
        rw [show ((x i : Nat) : Int) * (f : Int) = ((x i * f : Nat) : Int) by rw [Int.natCast_mul], wrapu (by omega)]
      have w4 : IntKind.u64.wrap (((x i * f : Nat) : Int) + (c : Int)) = (s : Int) := by
        rw [show ((x i * f : Nat) : Int) + (c : Int) = (s : Int) by omega, wrapu (by omega)]
      have w5 : IntKind.u64.wrap ((s : Int).tdiv 4294967296) = ((s / 4294967296 : Nat) : Int) := by
        rw [Int.tdiv_eq_ediv_of_nonneg (by omega), show (s : Int) / 4294967296 = ((s / 4294967296 : Nat) : Int) by omega, wrapu (by omega)]
      have w6 : (s : Int).tmod 4294967296 = ((s % 4294967296 : Nat) : Int) := by rw [Int.tmod_eq_emod_of_nonneg (by omega)]; omega
      rw [Int.toNat_natCast, e1, fU, tI, w2, w4, w5, w6, ol_len, decide_eq_true (show (i : Int) < nx by omega), cond_true, decide_eq_true (show (0 : Int) ≤ i by omega), decide_eq_true (show (p + i + 1) * 8 < 70368744177664 by omega), decide_eq_true (show p + i + 1 < 4611686018427387904 by omega), wrap_s (by omega), ol_succ]
      simp only [ck_true]
      rfl
end

theorem k_up {N k : Nat} {a : AV} (ha : Tr 18446744073709551616 N a) (hN : N < 18446744073709551616 ^ 300) (h0 : N ≠ 0) (hk : k ≤ 100000) : ∃ v, kref02_NatUp [a, .int .i64 (k : Int)] = some v ∧ Tr 18446744073709551616 (N * 2 ^ k) v := by
  obtain ⟨n, r, g, d, rfl, h1, h2, h3, h4⟩ := ha.get (by decide) hN
  obtain ⟨v0, e0, t0⟩ := k_halves h1 (by omega) h2
  have up : N < 4294967296 ^ (2 * n) := by
    rw [← h2, Nat.pow_mul]
    exact val_lt (fun i hi => (h1.2.2 i hi).2)
  obtain ⟨m, s, gg, x, rfl, x1, x2, x3, x4⟩ := t0.get (by decide) up
  have hm0 : m ≠ 0 := fun h => h0 (by have := (len_zero (B := 4294967296) (by decide) x3).1 h; omega)
  obtain ⟨p, hp⟩ : ∃ p, p = k / 32 := ⟨_, rfl⟩
  have hf : 2 ^ (k % 32) ≤ 2147483648 := by
    have : 2 ^ (k % 32) ≤ 2 ^ 31 := Nat.pow_le_pow_right (by decide) (by omega)
    omega
  have e1 := fun kx0 => up_l1 x1 (f := 2 ^ (k % 32)) (p := p) hf (by omega) kx0 [AV.int .u64 0] m (NN - m - 1) 0 (fun _ => 0) 0 (by omega) (fun j hj => by decide) (by decide)
  rw [show NN - m - 1 + m + 1 = NN by unfold NN; omega] at e1
  obtain ⟨o, c, c1, c2, c3, c4⟩ := e1 (fun (xcarry7_1 : Int) (xh1z : List AV) (xh1e : List (List AV)) => ck (decide ((xh1e.length + (1 : Nat)) * (8 : Nat) < (70368744177664 : Nat))) <| ck (decide (xh1e.length + (1 : Nat) < (4611686018427387904 : Nat))) <| let r1 : Option AV := kref02_limbs [AV.ro (1 : Nat) (xh1e ++ [[AV.int .u64 xcarry7_1]]).length (xh1e ++ [[AV.int .u64 xcarry7_1]]).length fun (i j : Nat) => ((xh1e ++ [[AV.int .u64 xcarry7_1]]).getD i xh1z).getD j AV.dead]; ck (okM [RS.one (LK.l (1 : Nat))] r1) <| some (AV.ro (1 : Nat) (toN (getV r1)) (toR (getV r1)) (toG (getV r1))))
  have hd2 : ∀ j, j < p + m + 1 → upd o (p + m) c j < 4294967296 := fun j hj => by
    by_cases e : j = p + m
    · subst e; rw [upd_self]; exact c1
    · rw [upd_ne e]; exact c2 j (by omega)
  obtain ⟨v3, e3, t3⟩ := k_limbs (dg_ol (z := [AV.int .u64 0]) (by omega) hd2) rfl
  have hval : val 4294967296 (upd o (p + m) c) (p + m + 1) = N * 2 ^ k := by
    rw [val_up]
    rw [x2, show val 4294967296 x 0 = 0 from rfl, val_zero] at c3
    have hk2 : 2 ^ k = 2 ^ (k % 32) * 4294967296 ^ p := by
      rw [show 4294967296 = 2 ^ 32 from rfl, ← Nat.pow_mul, ← Nat.pow_add]
      congr 1; omega
    rw [hk2, ← Nat.mul_assoc, Nat.mul_comm N]
    omega
  rw [hval] at t3
  obtain ⟨p', q', u', z', rfl, hz'⟩ := t3
  refine ⟨_, ?_, p', q', u', z', rfl, hz'⟩
  have w1 : IntKind.i64.wrap ((k : Int).tdiv 32) = (p : Int) := by
    rw [Int.tdiv_eq_ediv_of_nonneg (by omega), show (k : Int) / 32 = (p : Int) by omega, wrapi (by omega) (by omega)]
  have hrep : List.take p (List.replicate p [AV.int .u64 (0 : Int)]) = ol (fun _ => 0) (p + 0) := by
    unfold ol
    rw [List.map_const', List.length_range, List.take_replicate, Nat.min_self]; rfl
  have hne : (((m : Nat) : Int) == 0) = false := by
    have : ¬ ((m : Nat) : Int) = 0 := by omega
    simpa using this
  have hu := fun kx0 dr dg z e => up_l0 kx0 k m dr dg 0 p p 0 z e (k % 32) (NN - k % 32 - 1) 0 1 (by omega) rfl
  rw [show NN - k % 32 - 1 + k % 32 + 1 = NN by unfold NN; omega] at hu
  show gref02_NatUp kref02_halves kref02_limbs NN n r g (k : Int) = _
  unfold gref02_NatUp
  dsimp only
  rw [e0, okL1, ck_true, gV, tN1, hne, cond_false, w1, Int.toNat_natCast, decide_eq_true (show (0 : Int) ≤ p by omega), decide_eq_true (Int.le_refl _), Nat.ble_eq_true_of_le (show 8 * p ≤ 281474976710656 by omega), Nat.ble_eq_true_of_le (show p + 1 ≤ 4611686018427387904 by omega), ck_true, ck_true, ck_true, ck_true]
  refine (hu _ _ _ _ _).trans ?_
  rw [decide_eq_true (show (0 : Nat) = 0 from rfl), ck_true, hrep, tR1, tG1]
  refine c4.trans ?_
  dsimp only
  rw [ol_succ, ol_len, ol_len, decide_eq_true (show (p + m + 1) * 8 < 70368744177664 by omega), decide_eq_true (show p + m + 1 < 4611686018427387904 by omega), e3]
  rfl
end Go.Proofs.Tryz
end
section
/- girderref02's natural numbers: order, differences. -/
namespace Go.Proofs.Tryz
open Go Go.Am Ieee.Pos
set_option maxRecDepth 100000
set_option linter.unusedVariables false

section
variable {n rx ry : Nat} {gx gy : Ge} {x y : Nat → Nat} (hx : Dg 18446744073709551616 n rx gx x) (hy : Dg 18446744073709551616 n ry gy y)
include hx hy
theorem cmp_l0 : ∀ (k q : Nat), k ≤ n → (∀ i, k ≤ i → i < n → x i = y i) →
    ∃ c : Int, gref02_NatCmp_l0 kref02_NatTrim NN (fun (xu4 : Int) => some (AV.int .i64 xu4)) (some (AV.int .i64 (0 : Int))) n rx gx n ry gy (q + k + 1) ((k : Int) - 1) = some (.int .i64 c) ∧ ((c = -1 ∧ val 18446744073709551616 x n < val 18446744073709551616 y n) ∨ (c = 0 ∧ val 18446744073709551616 x n = val 18446744073709551616 y n) ∨ (c = 1 ∧ val 18446744073709551616 y n < val 18446744073709551616 x n))
  | 0, q, _, he => ⟨0, by
    show gref02_NatCmp_l0_step kref02_NatTrim NN _ _ _ n rx gx n ry gy (((0 : Nat) : Int) - 1) = _
    unfold gref02_NatCmp_l0_step
    rw [decide_eq_false (by omega), cond_false], .inr (.inl ⟨rfl, val_congr fun i hi => he i (Nat.zero_le _) hi⟩)⟩
  | k + 1, q, h, he => by
    have hn := hx.2.1
    obtain ⟨e1, e2⟩ := hx.2.2 k (by omega)
    obtain ⟨f1, f2⟩ := hy.2.2 k (by omega)
    have hs : gref02_NatCmp_l0 kref02_NatTrim NN (fun (xu4 : Int) => some (AV.int .i64 xu4)) (some (AV.int .i64 (0 : Int))) n rx gx n ry gy (q + (k + 1) + 1) (((k + 1 : Nat) : Int) - 1) =
        (bif decide (((x k : Nat) : Int) < ((y k : Nat) : Int)) then some (AV.int .i64 (-1)) else bif decide (((x k : Nat) : Int) > ((y k : Nat) : Int)) then some (AV.int .i64 1) else
          gref02_NatCmp_l0 kref02_NatTrim NN (fun (xu4 : Int) => some (AV.int .i64 xu4)) (some (AV.int .i64 (0 : Int))) n rx gx n ry gy (q + k + 1) ((k : Int) - 1)) := by
      show gref02_NatCmp_l0_step kref02_NatTrim NN (gref02_NatCmp_l0 kref02_NatTrim NN _ _ n rx gx n ry gy (q + k + 1)) _ _ n rx gx n ry gy (((k + 1 : Nat) : Int) - 1) = _
      unfold gref02_NatCmp_l0_step
      rw [show (((k + 1 : Nat) : Int) - 1) = (k : Int) by omega, decide_eq_true (show (k : Int) ≥ 0 by omega), cond_true, decide_eq_true (show (k : Int) < n by omega), Int.toNat_natCast, e1, f1, fU, fU, tI, tI, wrapi (n := (k : Int) - 1) (by omega) (by omega)]
      simp only [ck_true]
    rw [hs]
    rcases Nat.lt_trichotomy (x k) (y k) with h1 | h1 | h1
    · refine ⟨-1, ?_, .inl ⟨rfl, val_cmp (fun i hi => (hx.2.2 i hi).2) (show k < n by omega) h1 (fun i h2 h3 => he i (by omega) h3)⟩⟩
      rw [decide_eq_true (by omega), cond_true]
    · rw [decide_eq_false (by omega), decide_eq_false (by omega), cond_false, cond_false]
      exact cmp_l0 k q (by omega) (fun i h2 h3 => by
        by_cases e : i = k
        · subst e; exact h1
        · exact he i (by omega) h3)
    · refine ⟨1, ?_, .inr (.inr ⟨rfl, val_cmp (fun i hi => (hy.2.2 i hi).2) (show k < n by omega) h1 (fun i h2 h3 => (he i (by omega) h3).symm)⟩)⟩
      rw [decide_eq_false (by omega), decide_eq_true (by omega), cond_false, cond_true]
end

theorem k_cmpN {A C : Nat} {a b : AV} (ha : Tr 18446744073709551616 A a) (hb : Tr 18446744073709551616 C b) :
    ∃ c : Int, kref02_NatCmp [a, b] = some (.int .i64 c) ∧ ((c = -1 ∧ A < C) ∨ (c = 0 ∧ A = C) ∨ (c = 1 ∧ C < A)) := by
  obtain ⟨n, r, g, d, rfl, h1, h2, h3⟩ := ha
  obtain ⟨n', r', g', d', rfl, h1', h2', h3'⟩ := hb
  obtain ⟨v, e, t⟩ := k_trim h1
  obtain ⟨v', e', t'⟩ := k_trim h1'
  rw [h2] at t
  rw [h2'] at t'
  obtain ⟨m, s, u, x, rfl, x1, x2, x3⟩ := t
  obtain ⟨m', s', u', y, rfl, y1, y2, y3⟩ := t'
  have hm := x1.2.1
  have hm' := y1.2.1
  have hstart : kref02_NatCmp [.ro 1 n r g, .ro 1 n' r' g'] = gref02_NatCmp kref02_NatTrim NN n r g n' r' g' := rfl
  have lt : ∀ {m m' : Nat} {x y : Nat → Nat}, (∀ i, i < m → x i < 18446744073709551616) → (m' = 0 ∨ 0 < y (m' - 1)) → m < m' → val 18446744073709551616 x m < val 18446744073709551616 y m' := fun {m m' x y} hx hy hlt => by
    obtain ⟨k, rfl⟩ : ∃ k, m' = k + 1 := ⟨m' - 1, by omega⟩
    have h1 := val_lt hx
    have h2 := val_top (B := 18446744073709551616) (d := y) (n := k) (by rcases hy with h | h; omega; simpa using h)
    have h3 : 18446744073709551616 ^ m ≤ 18446744073709551616 ^ k := Nat.pow_le_pow_right (by decide) (by omega)
    omega
  rcases Nat.lt_trichotomy m m' with h | h | h
  · refine ⟨-1, ?_, .inl ⟨rfl, ?_⟩⟩
    · rw [hstart]
      unfold gref02_NatCmp
      dsimp only
      have hne : ((m : Int) != (m' : Int)) = true := by
        have : ¬ (m : Int) = (m' : Int) := by omega
        simpa using this
      rw [e, e', okL1, okL1, ck_true, ck_true, gV, gV, tN1, tN1, hne, cond_true, decide_eq_true (by omega), cond_true]
    · rw [← x2, ← y2]
      exact lt (fun i hi => (x1.2.2 i hi).2) y3 h
  · subst h
    obtain ⟨c, c1, c2⟩ := cmp_l0 x1 y1 m (NN - m - 1) (Nat.le_refl _) (fun i h1 h2 => by omega)
    rw [show NN - m - 1 + m + 1 = NN by unfold NN; omega] at c1
    rw [x2, y2] at c2
    refine ⟨c, ?_, c2⟩
    rw [hstart]
    unfold gref02_NatCmp
    dsimp only
    have hne : ((m : Int) != (m : Int)) = false := by simp
    rw [e, e', okL1, okL1, ck_true, ck_true, gV, gV, tN1, tN1, hne, cond_false, wrapi (n := (m : Int) - 1) (by omega) (by omega)]
    exact c1
  · refine ⟨1, ?_, .inr (.inr ⟨rfl, ?_⟩)⟩
    · rw [hstart]
      unfold gref02_NatCmp
      dsimp only
      have hne : ((m : Int) != (m' : Int)) = true := by
        have : ¬ (m : Int) = (m' : Int) := by omega
        simpa using this
      rw [e, e', okL1, okL1, ck_true, ck_true, gV, gV, tN1, tN1, hne, cond_true, decide_eq_false (by omega), cond_false]
    · rw [← x2, ← y2]
      exact lt (fun i hi => (y1.2.2 i hi).2) x3 h

section
variable {nx rx ny ry : Nat} {gx gy : Ge} {x y : Nat → Nat} (hx : Dg 4294967296 nx rx gx x) (hy : Dg 4294967296 ny ry gy y)
include hy
theorem k_digit {i : Nat} : kref02_digit [.ro 1 ny ry gy, .int .i64 (i : Int)] = some (.int .u64 (((if i < ny then y i else 0 : Nat)) : Int)) := by
  show gref02_digit NN ny ry gy (i : Int) = _
  unfold gref02_digit
  by_cases h : i < ny
  · obtain ⟨e1, e2⟩ := hy.2.2 i h
    rw [decide_eq_true (show (i : Int) < ny by omega), cond_true, decide_eq_true (show (0 : Int) ≤ i by omega), Int.toNat_natCast, e1, fU, tI, if_pos h]
    rfl
  · rw [decide_eq_false (show ¬ (i : Int) < ny by omega), cond_false, if_neg h]
    rfl
include hx
theorem sub_l0 (kx0 : List AV → List (List AV) → Option AV) (z : List AV) : ∀ (m q i : Nat) (o : Nat → Nat) (c : Nat), i + m = nx → (∀ j, j < i → o j < 4294967296) → c ≤ 1 →
      val 4294967296 o i + val 4294967296 (fun i => if i < ny then y i else 0) i = val 4294967296 x i + c * 4294967296 ^ i →
      ∃ (o' : Nat → Nat) (c' : Nat), c' ≤ 1 ∧ (∀ j, j < nx → o' j < 4294967296) ∧ val 4294967296 o' nx + val 4294967296 (fun i => if i < ny then y i else 0) nx = val 4294967296 x nx + c' * 4294967296 ^ nx ∧
        gref02_NatSub_l0 kref02_halves kref02_digit kref02_limbs NN kx0 nx rx gx ny ry gy z (q + m + 1) (c : Int) (i : Int) (ol o i) = kx0 z (ol o' nx)
  | 0, q, i, o, c, h, ho, hc, hv => ⟨o, c, hc, by
    obtain rfl : i = nx := by omega
    exact ho, by
    obtain rfl : i = nx := by omega
    exact hv, by
    obtain rfl : i = nx := by omega
    show gref02_NatSub_l0_step kref02_halves kref02_digit kref02_limbs NN _ kx0 i rx gx ny ry gy z (c : Int) (i : Int) _ = _
    unfold gref02_NatSub_l0_step
    rw [decide_eq_false (by omega), cond_false]⟩
  | m + 1, q, i, o, c, h, ho, hc, hv => by
    have hn := hx.2.1
    obtain ⟨e1, e2⟩ := hx.2.2 i (by omega)
    obtain ⟨yi, hyi⟩ : ∃ yi, yi = (if i < ny then y i else 0) := ⟨_, rfl⟩
    have hyb : yi < 4294967296 := by
      rw [hyi]
      by_cases h : i < ny
      · rw [if_pos h]; exact (hy.2.2 i h).2
      · rw [if_neg h]; decide
    obtain ⟨s, hs⟩ : ∃ s, s = 4294967296 + x i - yi - c := ⟨_, rfl⟩
    have hdm := Nat.div_add_mod s 4294967296
    have hsb : s / 4294967296 ≤ 1 := by omega
    obtain ⟨o', c', a1, a2, a3, a4⟩ := sub_l0 kx0 z m q (i + 1) (upd o i (s % 4294967296)) (1 - s / 4294967296) (by omega) (fun j hj => by
      by_cases e : j = i
      · subst e; rw [upd_self]; exact Nat.mod_lt _ (by decide)
      · rw [upd_ne e]; exact ho j (by omega)) (by omega) (by
      rw [val_up, val, val, Nat.pow_succ, ← hyi, Nat.mul_comm (4294967296 ^ i) 4294967296, ← Nat.mul_assoc]
      have t : s % 4294967296 * 4294967296 ^ i + yi * 4294967296 ^ i + c * 4294967296 ^ i = x i * 4294967296 ^ i + (1 - s / 4294967296) * 4294967296 * 4294967296 ^ i := by
        rw [← Nat.add_mul, ← Nat.add_mul, ← Nat.add_mul]
        congr 1
        omega
      omega)
    refine ⟨o', c', a1, a2, a3, Eq.trans ?_ a4⟩
    show gref02_NatSub_l0_step kref02_halves kref02_digit kref02_limbs NN (gref02_NatSub_l0 kref02_halves kref02_digit kref02_limbs NN kx0 nx rx gx ny ry gy z (q + m + 1)) kx0 nx rx gx ny ry gy z (c : Int) (i : Int) _ = _
    unfold gref02_NatSub_l0_step
    have w1 : IntKind.u64.wrap ((4294967296 : Int) + ((x i : Nat) : Int)) = ((4294967296 + x i : Nat) : Int) := by
      rw [show (4294967296 : Int) + ((x i : Nat) : Int) = ((4294967296 + x i : Nat) : Int) by omega, wrapu (by omega)]
    have w2 : IntKind.u64.wrap (((4294967296 + x i : Nat) : Int) - (yi : Int)) = ((4294967296 + x i - yi : Nat) : Int) := by
      rw [show ((4294967296 + x i : Nat) : Int) - (yi : Int) = ((4294967296 + x i - yi : Nat) : Int) by omega, wrapu (by omega)]
    have w3 : IntKind.u64.wrap (((4294967296 + x i - yi : Nat) : Int) - (c : Int)) = (s : Int) := by
      rw [show ((4294967296 + x i - yi : Nat) : Int) - (c : Int) = (s : Int) by omega, wrapu (by omega)]
    have w5 : IntKind.u64.wrap ((s : Int).tdiv 4294967296) = ((s / 4294967296 : Nat) : Int) := by
      rw [Int.tdiv_eq_ediv_of_nonneg (by omega), show (s : Int) / 4294967296 = ((s / 4294967296 : Nat) : Int) by omega, wrapu (by omega)]
    have w6 : (s : Int).tmod 4294967296 = ((s % 4294967296 : Nat) : Int) := by rw [Int.tmod_eq_emod_of_nonneg (by omega)]; omega
    have w7 : IntKind.u64.wrap ((1 : Int) - ((s / 4294967296 : Nat) : Int)) = ((1 - s / 4294967296 : Nat) : Int) := by
      rw [show (1 : Int) - ((s / 4294967296 : Nat) : Int) = ((1 - s / 4294967296 : Nat) : Int) by omega, wrapu (by omega)]
    rw [k_digit hy, ← hyi, okU, gV, tI, Int.toNat_natCast, e1, fU, tI, w1, w2, w3, w5, w6, w7, ol_len, decide_eq_true (show (i : Int) < nx by omega), cond_true, decide_eq_true (show (0 : Int) ≤ i by omega), decide_eq_true (show (i + 1) * 8 < 70368744177664 by omega), decide_eq_true (show i + 1 < 4611686018427387904 by omega), wrap_s (by omega), ol_succ]
    simp only [ck_true]
end

theorem k_subN {A C : Nat} {a b : AV} (ha : Tr 18446744073709551616 A a) (hb : Tr 18446744073709551616 C b) (hA : A < 18446744073709551616 ^ 300) (hC : C ≤ A) : ∃ v, kref02_NatSub [a, b] = some v ∧ Tr 18446744073709551616 (A - C) v := by
  obtain ⟨n, r, g, d, rfl, h1, h2, h3, h4⟩ := ha.get (by decide) hA
  obtain ⟨n', r', g', d', rfl, h1', h2', h3', h4'⟩ := hb.get (by decide) (Nat.lt_of_le_of_lt hC hA)
  obtain ⟨v0, e0, t0⟩ := k_halves h1 (by omega) h2
  obtain ⟨v1, e1, t1⟩ := k_halves h1' (by omega) h2'
  have up : A < 4294967296 ^ (2 * n) := by
    rw [← h2, Nat.pow_mul]
    exact val_lt (fun i hi => (h1.2.2 i hi).2)
  obtain ⟨nx, s, k, x, rfl, x1, x2, x3, x4⟩ := t0.get (by decide) up
  have hxl := val_lt (B := 4294967296) (d := x) (n := nx) (fun i hi => (x1.2.2 i hi).2)
  obtain ⟨ny, s', k', y, rfl, y1, y2, y3, y4⟩ := t1.get (k := nx) (by decide) (by omega)
  obtain ⟨o, c, c1, c2, c3, c4⟩ := sub_l0 x1 y1 (fun (xh0z : List AV) (xh0e : List (List AV)) => let r2 : Option AV := kref02_limbs [AV.ro (1 : Nat) xh0e.length xh0e.length fun (i j : Nat) => (xh0e.getD i xh0z).getD j AV.dead]; ck (okM [RS.one (LK.l (1 : Nat))] r2) <| some (AV.ro (1 : Nat) (toN (getV r2)) (toR (getV r2)) (toG (getV r2)))) [AV.int .u64 0] nx (NN - nx - 1) 0 (fun _ => 0) 0 (by omega) (fun j hj => by omega) (by omega) rfl
  rw [show NN - nx - 1 + nx + 1 = NN by unfold NN; omega] at c4
  have hvy : val 4294967296 (fun i => if i < ny then y i else 0) nx = C := by
    rw [← y2]
    have ext : ∀ k, val 4294967296 (fun i => if i < ny then y i else 0) (ny + k) = val 4294967296 (fun i => if i < ny then y i else 0) ny := fun k => by
      induction k with
      | zero => rfl
      | succ k ih => rw [← Nat.add_assoc, val, ih, if_neg (by omega)]; omega
    rw [show nx = ny + (nx - ny) by omega, ext]
    exact val_congr fun i hi => if_pos hi
  have hol := val_lt (B := 4294967296) (d := o) (n := nx) c2
  have hc0 : c = 0 := by
    rcases Nat.eq_zero_or_pos c with h | h
    · exact h
    · have : c = 1 := by omega
      subst this
      rw [hvy, x2] at c3
      omega
  have hvo : val 4294967296 o nx = A - C := by rw [hvy, x2, hc0] at c3; omega
  obtain ⟨v3, e3, t3⟩ := k_limbs (dg_ol (z := [AV.int .u64 0]) (by omega) c2) hvo
  obtain ⟨p', q', u', z', rfl, hz'⟩ := t3
  refine ⟨_, ?_, p', q', u', z', rfl, hz'⟩
  show gref02_NatSub kref02_halves kref02_digit kref02_limbs NN n r g n' r' g' = _
  unfold gref02_NatSub
  dsimp only
  rw [e0, e1, okL1, okL1, ck_true, ck_true, gV, gV, tN1, tR1, tG1, tN1, tR1, tG1]
  refine c4.trans ?_
  dsimp only
  rw [ol_len, e3]
  rfl
end Go.Proofs.Tryz
end
section
/- girderref02's exact numbers: signs, tops, comparing. -/
namespace Go.Proofs.Tryz
open Go Go.Am Ieee.Pos
set_option exponentiation.threshold 20000
set_option maxRecDepth 100000
set_option linter.unusedVariables false

/-- An exact number, as it lies in memory. -/
abbrev NA (s : Bool) (n r : Nat) (g : Ge) (e : Int) : AV := .agg [.bool s, .ro 1 n r g, .int .i64 e]
theorem okNA (s : Bool) (n r : Nat) (g : Ge) (e : Int) : okM [RS.agg [LK.b, LK.l 1, LK.i .i64]] (some (NA s n r g e)) = true := rfl
theorem hH (a : AV) (l : List AV) : (a :: l).headD .dead = a := rfl
theorem hT (a : AV) (l : List AV) : (a :: l).tail = l := rfl
theorem W300 {a : Nat} {c : Nat} (h : a ≤ 18446744073709551616 ^ c) (hc : c < 300) : a < 18446744073709551616 ^ 300 := Nat.lt_of_le_of_lt h (Nat.pow_lt_pow_right (by decide) hc)

section
variable {m n r : Nat} {g : Ge} (ht : Tr 18446744073709551616 m (.ro 1 n r g)) (hm : m < 18446744073709551616 ^ 300)
include ht hm
theorem k_zeroN (s : Bool) (e : Int) : kref02_Num_Zero [NA s n r g e] = some (.bool (decide (m = 0))) := by
  obtain ⟨b, b1, b2, b3, b4, b5⟩ := k_bits ht hm
  show gref02_Num_Zero kref02_NatBits NN s n r g e = _
  unfold gref02_Num_Zero
  rw [b2, okI, ck_true, gV, tI]
  congr 2
  by_cases h : m = 0
  · rw [b3 h, decide_eq_true h]; rfl
  · have := (b4 h).1
    rw [decide_eq_false h]
    have : ¬ (b : Int) = 0 := by omega
    simpa using this
theorem k_signN (s : Bool) (e : Int) : kref02_Num_Sign [NA s n r g e] = some (.int .i64 (if m = 0 then 0 else bif s then -1 else 1)) := by
  show gref02_Num_Sign kref02_Num_Zero NN s n r g e = _
  unfold gref02_Num_Sign
  rw [k_zeroN ht hm, okQ, ck_true, gV, tB]
  by_cases h : m = 0
  · rw [decide_eq_true h, if_pos h, cond_true]
  · rw [decide_eq_false h, if_neg h, cond_false]
    cases s <;> rfl
theorem k_topN (s : Bool) {e : Int} (he : -100000 ≤ e ∧ e ≤ 100000) : ∃ b : Nat, b ≤ 20000 ∧ kref02_Num_top [NA s n r g e] = some (.int .i64 (e + b)) ∧ (m ≠ 0 → 0 < b ∧ 2 ^ (b - 1) ≤ m) ∧ m < 2 ^ b := by
  obtain ⟨b, b1, b2, b3, b4, b5⟩ := k_bits ht hm
  refine ⟨b, b1, ?_, b4, b5⟩
  show gref02_Num_top kref02_NatBits NN s n r g e = _
  unfold gref02_Num_top
  rw [b2, okI, ck_true, gV, tI, wrapi (by omega) (by omega)]
end


/-- The difference of two numbers above 0, the second less than 0: its sign. -/
theorem k_plus {mx nx rx my ny ry : Nat} {gx gy : Ge} {ex ey : Int} (hx : Tr 18446744073709551616 mx (.ro 1 nx rx gx)) (hy : Tr 18446744073709551616 my (.ro 1 ny ry gy)) (bx : mx ≤ 18446744073709551616 ^ 20) (by' : my ≤ 18446744073709551616 ^ 20) (px : 0 < mx) (py : 0 < my)
    (e1 : -5000 ≤ ex ∧ ex ≤ 5000) (e2 : -5000 ≤ ey ∧ ey ≤ 5000) (hle : mx * 2 ^ (ex + 5000).toNat ≤ my * 2 ^ (ey + 5000).toNat) :
    ∃ (s : Bool) (n r : Nat) (g : Ge) (e : Int) (m : Nat), kref02_Plus [NA false nx rx gx ex, NA true ny ry gy ey] = some (NA s n r g e) ∧ Tr 18446744073709551616 m (.ro 1 n r g) ∧ m < 18446744073709551616 ^ 300 ∧ (m = 0 ∨ s = true) := by
  have zx := fun s e => k_zeroN hx (W300 bx (by omega)) s e
  have zy := fun s e => k_zeroN hy (W300 by' (by omega)) s e
  have hstart : kref02_Plus [NA false nx rx gx ex, NA true ny ry gy ey] = gref02_Plus kref02_Num_Zero kref02_NatUp kref02_NatAdd kref02_NatCmp kref02_NatSub NN false nx rx gx ex true ny ry gy ey := rfl
  have two : ∀ {a k : Nat}, a ≤ 18446744073709551616 ^ 20 → k ≤ 10000 → a * 2 ^ k < 18446744073709551616 ^ 300 := fun {a k} h hk => by
    refine W300 (c := 20 + 157) ?_ (by omega)
    rw [Nat.pow_add]
    refine Nat.mul_le_mul h ?_
    rw [show 18446744073709551616 = 2 ^ 64 from rfl, ← Nat.pow_mul]
    exact Nat.pow_le_pow_right (by decide) (by omega)
  have hz : ∀ {a : Nat}, 0 < a → decide (a = 0) = false := fun h => decide_eq_false (by omega)
  rcases Int.lt_or_le ey ex with hlt | hge
  · obtain ⟨k, hk⟩ : ∃ k : Nat, ex - ey = k := ⟨(ex - ey).toNat, by omega⟩
    have hle2 : mx * 2 ^ k ≤ my := by
      have h1 : (ex + 5000).toNat = (ey + 5000).toNat + k := by omega
      rw [h1, Nat.pow_add, Nat.mul_comm (2 ^ (ey + 5000).toNat), ← Nat.mul_assoc] at hle
      exact Nat.le_of_mul_le_mul_right hle (Nat.two_pow_pos _)
    obtain ⟨v, u1, u2⟩ := k_up hx (W300 bx (by omega)) (by omega) (show k ≤ 100000 by omega)
    have u2' := u2
    obtain ⟨n, r, g, d, rfl, -⟩ := u2'
    obtain ⟨c, c1, c2⟩ := k_cmpN hy u2
    obtain ⟨v', s1, s2⟩ := k_subN hy u2 (W300 by' (by omega)) hle2
    have s2' := s2
    obtain ⟨n', r', g', d', rfl, -⟩ := s2'
    refine ⟨true, n', r', g', ey, my - mx * 2 ^ k, ?_, s2, Nat.lt_of_le_of_lt (Nat.sub_le _ _) (W300 by' (by omega)), .inr rfl⟩
    rw [hstart]
    unfold gref02_Plus
    dsimp only
    rw [zx, zy, hz px, hz py, okQ, ck_true, gV, tB, cond_false, ck_true, cond_false, decide_eq_true (show ex > ey by omega), cond_true, ck_true, cond_false, ck_true, cond_false, decide_eq_false (show ¬ ey > ex by omega), cond_false, wrapi (n := ex - ey) (by omega) (by omega), hk, u1, okL1, ck_true,
      show (true == false) = false from rfl, cond_false, gV, tN1, tR1, tG1, c1, okI, ck_true, gV, tI, decide_eq_true (show c ≥ 0 by omega), cond_true, s1]
    rfl
  · obtain ⟨k, hk⟩ : ∃ k : Nat, ey - ex = k := ⟨(ey - ex).toNat, by omega⟩
    have hle2 : mx ≤ my * 2 ^ k := by
      have h1 : (ey + 5000).toNat = (ex + 5000).toNat + k := by omega
      rw [h1, Nat.pow_add, Nat.mul_comm (2 ^ (ex + 5000).toNat), ← Nat.mul_assoc] at hle
      exact Nat.le_of_mul_le_mul_right hle (Nat.two_pow_pos _)
    obtain ⟨v, u1, u2⟩ := k_up hy (W300 by' (by omega)) (by omega) (show k ≤ 100000 by omega)
    have u2' := u2
    obtain ⟨n, r, g, d, rfl, -⟩ := u2'
    have hb := two by' (show k ≤ 10000 by omega)
    obtain ⟨c, c1, c2⟩ := k_cmpN hx u2
    rcases Int.lt_or_le c 0 with hc | hc
    · obtain ⟨v', s1, s2⟩ := k_subN u2 hx hb hle2
      have s2' := s2
      obtain ⟨n', r', g', d', rfl, -⟩ := s2'
      refine ⟨true, n', r', g', ex, my * 2 ^ k - mx, ?_, s2, Nat.lt_of_le_of_lt (Nat.sub_le _ _) hb, .inr rfl⟩
      rw [hstart]
      unfold gref02_Plus
      dsimp only
      rw [zx, zy, hz px, hz py, okQ, ck_true, gV, tB, cond_false, ck_true, cond_false, decide_eq_false (show ¬ ex > ey by omega), cond_false, wrapi (n := ey - ex) (by omega) (by omega), hk, u1, okL1, ck_true,
        show (false == true) = false from rfl, cond_false, gV, tN1, tR1, tG1, c1, okI, ck_true, gV, tI, decide_eq_false (show ¬ c ≥ 0 by omega), cond_false, s1]
      rfl
    · have heq : mx = my * 2 ^ k := by omega
      obtain ⟨v', s1, s2⟩ := k_subN hx u2 (W300 bx (by omega)) (by omega)
      have s2' := s2
      obtain ⟨n', r', g', d', rfl, -⟩ := s2'
      refine ⟨false, n', r', g', ex, mx - my * 2 ^ k, ?_, s2, Nat.lt_of_le_of_lt (Nat.sub_le _ _) (W300 bx (by omega)), .inl (by omega)⟩
      rw [hstart]
      unfold gref02_Plus
      dsimp only
      rw [zx, zy, hz px, hz py, okQ, ck_true, gV, tB, cond_false, ck_true, cond_false, decide_eq_false (show ¬ ex > ey by omega), cond_false, wrapi (n := ey - ex) (by omega) (by omega), hk, u1, okL1, ck_true,
        show (false == true) = false from rfl, cond_false, gV, tN1, tR1, tG1, c1, okI, ck_true, gV, tI, decide_eq_true (show c ≥ 0 by omega), cond_true, s1]
      rfl

/-- What is not above is not told as above. -/
theorem k_compare {mx nx rx my ny ry : Nat} {gx gy : Ge} {ex ey : Int} (hx : Tr 18446744073709551616 mx (.ro 1 nx rx gx)) (hy : Tr 18446744073709551616 my (.ro 1 ny ry gy)) (bx : mx ≤ 18446744073709551616 ^ 20) (by' : my ≤ 18446744073709551616 ^ 20) (px : 0 < mx) (py : 0 < my)
    (e1 : -5000 ≤ ex ∧ ex ≤ 5000) (e2 : -5000 ≤ ey ∧ ey ≤ 5000) (hle : mx * 2 ^ (ex + 5000).toNat ≤ my * 2 ^ (ey + 5000).toNat) :
    ∃ c : Int, kref02_Compare [NA false nx rx gx ex, NA false ny ry gy ey] = some (.int .i64 c) ∧ c ≤ 0 := by
  have sx := fun s e => k_signN hx (W300 bx (by omega)) s e
  have sy := fun s e => k_signN hy (W300 by' (by omega)) s e
  obtain ⟨b, b1, b2, b3, b4⟩ := k_topN hx (W300 bx (by omega)) false (e := ex) (by omega)
  obtain ⟨b', b1', b2', b3', b4'⟩ := k_topN hy (W300 by' (by omega)) false (e := ey) (by omega)
  have hstart : kref02_Compare [NA false nx rx gx ex, NA false ny ry gy ey] = gref02_Compare kref02_Num_Sign kref02_Num_top kref02_Minus kref02_Plus NN false nx rx gx ex false ny ry gy ey := rfl
  have i1 : (if mx = 0 then (0 : Int) else bif false then -1 else 1) = 1 := if_neg (by omega)
  have i2 : (if my = 0 then (0 : Int) else bif false then -1 else 1) = 1 := if_neg (by omega)
  by_cases htop : ex + (b : Int) = ey + (b' : Int)
  · obtain ⟨s, n, r, g, e, m, q1, q2, q3, q4⟩ := k_plus hx hy bx by' px py e1 e2 hle
    refine ⟨if m = 0 then 0 else bif s then -1 else 1, ?_, ?_⟩
    · rw [hstart]
      unfold gref02_Compare
      dsimp only
      rw [sx, sy, i1, i2, okI, ck_true, ck_true, gV, tI, show ((1 : Int) != 1) = false from rfl, cond_false, show ((1 : Int) == 0) = false from rfl, cond_false, b2, b2', okI, okI, ck_true, ck_true, gV, gV, tI, tI,
        show ((ex + (b : Int)) != (ey + (b' : Int))) = false by rw [htop]; simp, cond_false, show kref02_Minus [NA false ny ry gy ey] = some (NA true ny ry gy ey) from rfl, okNA, ck_true, gV, tC, hT, hT, hH, hH, hH, tB, tN1, tR1, tG1, tI, q1, okNA, ck_true, gV, tC, hT, hT, hH, hH, hH, tB, tN1, tR1, tG1, tI, k_signN q2 q3, okI, ck_true, gV, tI]
    · rcases q4 with h | h
      · rw [if_pos h]; omega
      · by_cases hm : m = 0
        · rw [if_pos hm]; omega
        · rw [if_neg hm, h, cond_true]; omega
  · have hlt : ex + (b : Int) < ey + (b' : Int) := by
      rcases Int.lt_or_le (ex + (b : Int)) (ey + (b' : Int)) with h | h
      · exact h
      · exfalso
        obtain ⟨p1, p2⟩ := b3 (by omega)
        -- mx is at least 2^(b-1), my below 2^b'
        have h1 : 2 ^ (b - 1) * 2 ^ (ex + 5000).toNat ≤ mx * 2 ^ (ex + 5000).toNat := Nat.mul_le_mul_right _ p2
        have h2 : my * 2 ^ (ey + 5000).toNat < 2 ^ b' * 2 ^ (ey + 5000).toNat := Nat.mul_lt_mul_of_pos_right b4' (Nat.two_pow_pos _)
        rw [← Nat.pow_add] at h1 h2
        have h3 : 2 ^ (b' + (ey + 5000).toNat) ≤ 2 ^ (b - 1 + (ex + 5000).toNat) := Nat.pow_le_pow_right (by decide) (by omega)
        omega
    refine ⟨-1, ?_, by omega⟩
    rw [hstart]
    unfold gref02_Compare
    dsimp only
    have hne : ((ex + (b : Int)) != (ey + (b' : Int))) = true := by simpa using htop
    rw [sx, sy, i1, i2, okI, ck_true, ck_true, gV, tI, show ((1 : Int) != 1) = false from rfl, cond_false, show ((1 : Int) == 0) = false from rfl, cond_false, b2, b2', okI, okI, ck_true, ck_true, gV, gV, tI, tI, hne, cond_true, ck_true, ck_true, decide_eq_true hlt, cond_true]
    rfl
end Go.Proofs.Tryz
end
section
/- girderref02's exact numbers: products; whole numbers and floats. -/
namespace Go.Proofs.Tryz
open Go Go.Am Ieee.Pos
set_option maxRecDepth 100000
set_option linter.unusedVariables false
set_option exponentiation.threshold 2000

theorem okBI3 (q : Bool) (n m : Int) : okM [RS.one LK.b, RS.one (LK.i .i64), RS.one (LK.i .u64)] (some (.tup [.bool q, .int .i64 n, .int .u64 m])) = true := rfl
theorem tl3 (a : AV) (l : List AV) : (a :: l).tail = l := rfl
theorem okSp3 (q p : Bool) (n m : Int) : okM [RS.agg [LK.b, LK.i .u64, LK.i .i64], RS.one LK.b] (some (.tup [.agg [.bool q, .int .u64 n, .int .i64 m], .bool p])) = true := rfl
theorem NN_succ : NN = (NN - 1) + 1 := by unfold NN; omega
structure NR where
  n : Nat
  r : Nat
  g : Ge
  m : Nat
  e : Int
abbrev NR.v (a : NR) : AV := .ro 1 a.n a.r a.g
abbrev NR.A (a : NR) : AV := NA false a.n a.r a.g a.e
def NR.Ok (a : NR) (c : Nat) (E : Int) : Prop := Tr 18446744073709551616 a.m a.v ∧ a.m ≤ 18446744073709551616 ^ c ∧ -E ≤ a.e ∧ a.e ≤ E
def rowsN (l : List NR) : List (List AV) := l.map fun a => [.bool false, .ro 1 a.n a.r a.g, .int .i64 a.e]
def prodN (l : List NR) (p : Nat) : Nat := l.foldl (fun p a => p * a.m) p
def sumN (l : List NR) (p : Int) : Int := l.foldl (fun p a => p + a.e) p

theorem k_Times {a b : NR} {c : Nat} {E : Int} (ha : a.Ok c E) (hb : b.Ok c E) (hc : c < 300) (hE : E ≤ 10000000) : ∃ v : NR, kref02_Times [a.A, b.A] = some v.A ∧ Tr 18446744073709551616 v.m v.v ∧ v.m = a.m * b.m ∧ v.e = a.e + b.e := by
  obtain ⟨v, e, t⟩ := k_mul ha.1 hb.1 (W300 ha.2.1 hc) (W300 hb.2.1 hc)
  have t' := t
  obtain ⟨n, r, g, d, rfl, -⟩ := t'
  obtain ⟨-, -, a1, a2⟩ := ha
  obtain ⟨-, -, b1, b2⟩ := hb
  refine ⟨⟨n, r, g, a.m * b.m, a.e + b.e⟩, ?_, t, rfl, rfl⟩
  show gref02_Times kref02_NatMul NN false a.n a.r a.g a.e false b.n b.r b.g b.e = _
  unfold gref02_Times
  dsimp only
  rw [e, okL1, ck_true, gV, tN1, tR1, tG1, wrapi (by omega) (by omega)]
  rfl

theorem times_l0 {l : List NR} {c : Nat} {E : Int} (hl : ∀ a ∈ l, a.Ok c E) (hn : l.length ≤ 10) (hc : c ≤ 20) (hE : 0 ≤ E ∧ E ≤ 100000) (kx0 : Bool → Int → Bool → Nat → Nat → Ge → Int → List AV → List (List AV) → Option AV) (z : List AV) (ee : List (List AV)) :
    ∀ (m q i : Nat) (P : NR), i + m = l.length → Tr 18446744073709551616 P.m P.v → P.m ≤ 18446744073709551616 ^ (c * i) → -(E * i) ≤ P.e ∧ P.e ≤ E * i →
      ∃ R : NR, glaw19_times_l0 kref02_Whole kref02_Times NN kx0 l.length l.length (fun i j => ((rowsN l).getD i []).getD j .dead) false 0 z ee (q + m + 1) (i : Int) false P.n P.r P.g P.e = kx0 false 0 false R.n R.r R.g R.e z ee ∧
        Tr 18446744073709551616 R.m R.v ∧ R.m = prodN (l.drop i) P.m ∧ R.e = sumN (l.drop i) P.e ∧ R.m ≤ 18446744073709551616 ^ (c * l.length)
  | 0, q, i, P, h, hP, hb, he => ⟨P, by
      show glaw19_times_l0_step kref02_Whole kref02_Times NN _ kx0 l.length l.length _ false 0 z ee (i : Int) false P.n P.r P.g P.e = _
      unfold glaw19_times_l0_step
      rw [decide_eq_false (by omega), cond_false], hP, by rw [show i = l.length by omega, List.drop_length]; rfl, by rw [show i = l.length by omega, List.drop_length]; rfl, by rw [show i = l.length by omega] at hb; exact hb⟩
  | m + 1, q, i, P, h, hP, hb, he => by
    have hi : i < l.length := by omega
    have ha := hl _ (List.getElem_mem hi)
    have hEi : E * i ≤ 1000000 := by
      have h1 : E * (i : Int) ≤ 100000 * (i : Int) := Int.mul_le_mul_of_nonneg_right hE.2 (by omega)
      omega
    have hEi0 : 0 ≤ E * (i : Int) := Int.mul_nonneg hE.1 (by omega)
    have hci : c * i < 300 := by
      have : c * i ≤ 20 * 10 := Nat.mul_le_mul hc (by omega)
      omega
    have hcc : 18446744073709551616 ^ (c * i) ≤ 18446744073709551616 ^ 299 := Nat.pow_le_pow_right (by decide) (by omega)
    have hcd : 18446744073709551616 ^ c ≤ 18446744073709551616 ^ 299 := Nat.pow_le_pow_right (by decide) (by omega)
    obtain ⟨v, v1, v2, v3, v4⟩ := k_Times (a := P) (b := l[i]) (c := 299) (E := 10000000) ⟨hP, Nat.le_trans hb hcc, by omega, by omega⟩ ⟨ha.1, Nat.le_trans ha.2.1 hcd, by have := ha.2.2; omega, by have := ha.2.2; omega⟩ (by omega) (by omega)
    obtain ⟨R, r1, r2, r3, r4, r5⟩ := times_l0 hl hn hc hE kx0 z ee m q (i + 1) v (by omega) v2 (by
      rw [v3, Nat.mul_add, Nat.mul_one, Nat.pow_add]
      exact Nat.mul_le_mul hb ha.2.1) (by
      have h1 := ha.2.2
      have h2 : E * ((i + 1 : Nat) : Int) = E * i + E := by rw [Int.natCast_add, Int.mul_add]; omega
      rw [v4, h2]
      omega)
    refine ⟨R, Eq.trans ?_ r1, r2, ?_, ?_, r5⟩
    · show glaw19_times_l0_step kref02_Whole kref02_Times NN (glaw19_times_l0 kref02_Whole kref02_Times NN kx0 l.length l.length (fun i j => ((rowsN l).getD i []).getD j .dead) false 0 z ee (q + m + 1)) kx0 l.length l.length _ false 0 z ee (i : Int) false P.n P.r P.g P.e = _
      unfold glaw19_times_l0_step
      dsimp only
      have hrow : (rowsN l).getD i [] = [.bool false, .ro 1 l[i].n l[i].r l[i].g, .int .i64 l[i].e] := by simp [rowsN, List.getD, hi]
      rw [Int.toNat_natCast, hrow]
      have g0 : ∀ a b c : AV, [a, b, c].getD 0 .dead = a := fun _ _ _ => rfl
      have g1 : ∀ a b c : AV, [a, b, c].getD 1 .dead = b := fun _ _ _ => rfl
      have g2 : ∀ a b c : AV, [a, b, c].getD 2 .dead = c := fun _ _ _ => rfl
      rw [g0, g1, g2, tB, tN1, tR1, tG1, tI, v1, decide_eq_true (show (i : Int) < (l.length : Nat) by omega), cond_true, decide_eq_true (show (0 : Int) ≤ i by omega), ck_true, ck_true,
        show fitKs [LK.b, LK.l 1, LK.i .i64] [AV.bool false, .ro 1 l[i].n l[i].r l[i].g, .int .i64 l[i].e] = true from rfl, ck_true, okNA, ck_true, gV, tC, hT, hT, hH, hH, hH, tB, tN1, tR1, tG1, tI, wrap_s (by omega)]
    · rw [r3, List.drop_eq_getElem_cons hi, v3]; rfl
    · rw [r4, List.drop_eq_getElem_cons hi, v4]; rfl

theorem k_whole {x : Nat} (hx : x < 9223372036854775808) : ∃ v : NR, kref02_Whole [.int .i64 (x : Int)] = some v.A ∧ Tr 18446744073709551616 v.m v.v ∧ v.m = x ∧ v.e = 0 := by
  obtain ⟨v, e, t⟩ := k_of (x := x) (by omega)
  have t' := t
  obtain ⟨n, r, g, d, rfl, -⟩ := t'
  refine ⟨⟨n, r, g, x, 0⟩, ?_, t, rfl, rfl⟩
  show gref02_Whole kref02_NatOf NN (x : Int) = _
  unfold gref02_Whole
  dsimp only
  rw [decide_eq_false (show ¬ (x : Int) < 0 by omega), cond_false, wrapu (by omega), e, okL1, ck_true, gV, tN1, tR1, tG1]

theorem mtimes_eq (A B : Mo) (n r : Nat) (g : Ge) : mlaw19_times A B NN [.ro 3 n r g] = glaw19_times A B NN n r g := rfl
/-- Products of lists of numbers. -/
theorem k_timesL {l : List NR} {c : Nat} {E : Int} (hl : ∀ a ∈ l, a.Ok c E) (hn : l.length ≤ 10) (hc : c ≤ 20) (hE : 0 ≤ E ∧ E ≤ 100000) :
    ∃ R : NR, klaw19_times [.ro 3 l.length l.length fun i j => ((rowsN l).getD i []).getD j .dead] = some R.A ∧ Tr 18446744073709551616 R.m R.v ∧ R.m = prodN l 1 ∧ R.e = sumN l 0 ∧ R.m ≤ 18446744073709551616 ^ (c * l.length) := by
  obtain ⟨w, w1, w2, w3, w4⟩ := k_whole (x := 1) (by decide)
  obtain ⟨R, r1, r2⟩ := times_l0 hl hn hc hE (fun (_ : Bool) (_ : Int) (xh1_0 : Bool) (xh1_1n : Nat) (xh1_1r : Nat) (xh1_1g : Ge) (xh1_2 : Int) (_ : List AV) (_ : List (List AV)) => some (AV.agg [AV.bool xh1_0, AV.ro (1 : Nat) xh1_1n xh1_1r xh1_1g, AV.int .i64 xh1_2])) [.int .u64 0] [] l.length (NN - l.length - 1) 0 w (by omega) w2 (by rw [w3, Nat.mul_zero, Nat.pow_zero]; exact Nat.le_refl _) (by rw [w4]; omega)
  rw [show NN - l.length - 1 + l.length + 1 = NN by unfold NN; omega] at r1
  rw [w3, w4, List.drop_zero] at r2
  refine ⟨R, ?_, r2⟩
  refine (mtimes_eq kref02_Whole kref02_Times l.length l.length _).trans ?_
  unfold glaw19_times
  dsimp only
  rw [show ((1 : Int)) = ((1 : Nat) : Int) from rfl, w1, okNA, ck_true, gV, tC, hT, hT, hH, hH, hH, tB, tN1, tR1, tG1, tI]
  exact r1

section
variable {x : Nat} (hx : Norm x)
include hx
theorem k_fields : kref01_fields [F x] = some (.tup [.bool false, .int .i64 (ex x : Nat), .int .u64 (x % 4503599627370496 : Nat)]) := by
  have hx1 := hx.1
  have hx3 := hx.2.2
  have e1 : ((x : Nat) : Int).fdiv (2 ^ 63) = 0 := by
    rw [Int.fdiv_eq_ediv_of_nonneg _ (by decide)]
    exact Int.ediv_eq_zero_of_lt (by omega) (by omega)
  have e2 : ((x : Nat) : Int).tdiv 4503599627370496 = ((ex x : Nat) : Int) := by
    unfold ex
    rw [Int.tdiv_eq_ediv_of_nonneg (by omega)]
    omega
  have e3 : ((ex x : Nat) : Int).tmod 2048 = ((ex x : Nat) : Int) := by
    rw [Int.tmod_eq_emod_of_nonneg (by omega)]
    omega
  have e4 : ((x : Nat) : Int).tmod 4503599627370496 = ((x % 4503599627370496 : Nat) : Int) := by
    rw [Int.tmod_eq_emod_of_nonneg (by omega)]
    omega
  show gref01_fields NN (some x) = _
  unfold gref01_fields
  rw [okBits, ck_true, Option.getD_some, e1, e2, wrapu (by omega), e3, wrapi (by omega) (by omega), e4]
  rfl
theorem k_Finite1 : kref01_Finite [F x] = some (.bool true) := by
  have hx2 := hx.2.1
  have hx3 := hx.2.2
  have e1 : (((ex x : Nat) : Int) == 2047) = false := by
    have h : ¬ ((ex x : Nat) : Int) = 2047 := by omega
    simpa using h
  have e : kref01_Kind [F x] = some (.int .i64 2) := by
    show gref01_Kind kref01_fields NN (some x) = _
    unfold gref01_Kind
    rw [k_fields hx]
    dsimp only
    rw [okBI3, ck_true, gV, tT, tl3, hD, tI, e1, decide_eq_true (show ((ex x : Nat) : Int) > 0 by omega)]
    rfl
  show gref01_Finite kref01_Kind NN (some x) = _
  unfold gref01_Finite
  rw [e]
  rfl
end
theorem split_l0 (kx0 : Bool → Int → Int → Bool → Int → Int → Option AV) : ∀ (m q f : Nat) (e : Int), 0 < f → f < 2 ^ m → m ≤ 64 → -10000 ≤ e ∧ e + m ≤ 10000 →
    ∃ f' k : Nat, k ≤ m ∧ 0 < f' ∧ f' ≤ f ∧ f' * 2 ^ k = f ∧ gref01_Split_l0 kref01_Finite kref01_fields NN kx0 false 0 0 false (q + m + 1) (f : Int) e = kx0 false 0 0 false (f' : Int) (e + k)
  | 0, q, f, e, h0, h, _, _ => by simp at h; omega
  | m + 1, q, f, e, h0, h, hm, he => by
    have hp : 2 ^ (m + 1) ≤ 2 ^ 64 := Nat.pow_le_pow_right (by decide) (by omega)
    have hne : ((f : Int) != 0) = true := by
      have : ¬ (f : Int) = 0 := by omega
      simpa using this
    have tm : (f : Int).tmod 2 = ((f % 2 : Nat) : Int) := by rw [Int.tmod_eq_emod_of_nonneg (by omega)]; omega
    have hs : gref01_Split_l0 kref01_Finite kref01_fields NN kx0 false 0 0 false (q + (m + 1) + 1) (f : Int) e = bif ((f % 2 : Nat) : Int) == 0 then gref01_Split_l0 kref01_Finite kref01_fields NN kx0 false 0 0 false (q + m + 1) ((f / 2 : Nat) : Int) (e + 1) else kx0 false 0 0 false (f : Int) e := by
      show gref01_Split_l0_step kref01_Finite kref01_fields NN (gref01_Split_l0 kref01_Finite kref01_fields NN kx0 false 0 0 false (q + m + 1)) kx0 false 0 0 false (f : Int) e = _
      unfold gref01_Split_l0_step
      have w2 : IntKind.u64.wrap ((f : Int).tdiv 2) = ((f / 2 : Nat) : Int) := by
        rw [Int.tdiv_eq_ediv_of_nonneg (by omega), show (f : Int) / 2 = ((f / 2 : Nat) : Int) by omega, wrapu (by omega)]
      rw [hne, cond_true, ck_true, cond_true, tm, w2, wrapi (n := e + 1) (by omega) (by omega)]
      simp only [ck_true]
    rw [hs]
    by_cases h2 : f % 2 = 0
    · rw [Nat.pow_succ] at h
      obtain ⟨f', k, k1, k2, k3, k4, k5⟩ := split_l0 kx0 m q (f / 2) (e + 1) (by omega) (by omega) (by omega) (by omega)
      refine ⟨f', k + 1, by omega, k2, by omega, ?_, ?_⟩
      · rw [Nat.pow_succ, ← Nat.mul_assoc, k4]; omega
      · rw [h2, show (((0 : Nat) : Int) == 0) = true from rfl, cond_true, k5, show e + 1 + (k : Int) = e + ((k + 1 : Nat) : Int) by omega]
    · refine ⟨f, 0, by omega, h0, Nat.le_refl _, by simp, ?_⟩
      have : (((f % 2 : Nat) : Int) == 0) = false := by
        have : ¬ ((f % 2 : Nat) : Int) = 0 := by omega
        simpa using this
      rw [this, cond_false, show e + ((0 : Nat) : Int) = e by omega]

/-- A float's number. -/
theorem k_exact {w : Nat} (hw : Norm w) (h1 : 600 ≤ ex w) (h2 : ex w ≤ 1500) : ∃ v : NR, klaw19_exact [F w] = some v.A ∧ v.Ok 1 500 ∧ 0 < v.m ∧ v.m * 2 ^ (v.e + 1075).toNat = nv w ∧ -1075 ≤ v.e := by
  have hw1 := hw.1
  have hmt := mt_b w
  obtain ⟨f', k, k1, k2, k3, k4, k5⟩ := split_l0 (fun (_ : Bool) (_ : Int) (_ : Int) (xh1_0_1 : Bool) (xh1_1_1 : Int) (xh1_2_1 : Int) => some (AV.tup [AV.agg [AV.bool xh1_0_1, AV.int .u64 xh1_1_1, AV.int .i64 xh1_2_1], AV.bool true])) 53 (NN - 54) (Ieee.Pos.mt w) ((ex w : Int) - 1075) (by omega) hmt.2 (by omega) (by omega)
  rw [show NN - 54 + 53 + 1 = NN by unfold NN; omega] at k5
  obtain ⟨v, e, t⟩ := k_of (x := f') (by omega)
  have t' := t
  obtain ⟨n, r, g, d, rfl, -⟩ := t'
  have hsplit : kref01_Split [F w] = some (.tup [.agg [.bool false, .int .u64 (f' : Int), .int .i64 ((ex w : Int) - 1075 + k)], .bool true]) := by
    show gref01_Split kref01_Finite kref01_fields NN (some w) = _
    unfold gref01_Split
    dsimp only
    have hm : ((w % 4503599627370496 : Nat) : Int) + 4503599627370496 = ((Ieee.Pos.mt w : Nat) : Int) := by unfold Ieee.Pos.mt; omega
    have hne : (((Ieee.Pos.mt w : Nat) : Int) == 0) = false := by
      have : ¬ ((Ieee.Pos.mt w : Nat) : Int) = 0 := by omega
      simpa using this
    rw [k_Finite1 hw, okQ, ck_true, gV, tB, Bool.not_true, cond_false, k_fields hw, okBI3, ck_true, gV, tT, tl3, tl3, hD, hD, hD, tI, tI, tB, decide_eq_true (show ((ex w : Nat) : Int) > 0 by omega), cond_true, hm, wrapu (n := Ieee.Pos.mt w) (by omega), hne, cond_false, wrapi (n := ((ex w : Nat) : Int) - 1075) (by omega) (by omega)]
    exact k5
  have hk : k ≤ 53 := k1
  refine ⟨⟨n, r, g, f', (ex w : Int) - 1075 + k⟩, ?_, ⟨t, ?_, by dsimp only; omega, by dsimp only; omega⟩, k2, ?_, by dsimp only; omega⟩
  · show glaw19_exact kref02_Float NN (some w) = _
    have hF : kref02_Float [F w] = some (NA false n r g ((ex w : Int) - 1075 + k)) := by
      show gref02_Float kref01_Split kref02_NatOf NN (some w) = _
      unfold gref02_Float
      dsimp only
      rw [hsplit, okSp3, ck_true, gV, tT, hD, tC, hT, hT, hH, hH, hH, tI, tB, tI, e, okL1, ck_true, gV, tN1, tR1, tG1]
    unfold glaw19_exact
    dsimp only
    rw [hF, okNA, ck_true, gV, tC, hT, hT, hH, hH, hH, tB, tN1, tR1, tG1, tI]
  · show f' ≤ 18446744073709551616 ^ 1
    omega
  · dsimp only
    rw [show ((ex w : Int) - 1075 + k + 1075).toNat = k + ex w by omega, Nat.pow_add, ← Nat.mul_assoc, k4]
    rfl
theorem k_exact0 : ∃ v : NR, klaw19_exact [F 0] = some v.A ∧ v.Ok 1 500 ∧ v.m = 0 := by
  obtain ⟨v, e, t⟩ := k_of (x := 0) (by decide)
  have t' := t
  obtain ⟨n, r, g, d, rfl, -⟩ := t'
  refine ⟨⟨n, r, g, 0, 0⟩, ?_, ⟨t, by dsimp only; omega, by dsimp only; omega, by dsimp only; omega⟩, rfl⟩
  have hsplit : kref01_Split [F 0] = some (.tup [.agg [.bool false, .int .u64 0, .int .i64 0], .bool true]) := by
    have h := NN_succ
    show gref01_Split kref01_Finite kref01_fields NN (some 0) = _
    rw [h]
    rfl
  show glaw19_exact kref02_Float NN (some 0) = _
  have hF : kref02_Float [F 0] = some (NA false n r g 0) := by
    show gref02_Float kref01_Split kref02_NatOf NN (some 0) = _
    unfold gref02_Float
    dsimp only
    rw [hsplit, okSp3, ck_true, gV, tT, hD, tC, hT, hT, hH, hH, hH, tI, tB, tI, show (0 : Int) = ((0 : Nat) : Int) from rfl, e, okL1, ck_true, gV, tN1, tR1, tG1]
  unfold glaw19_exact
  dsimp only
  rw [hF, okNA, ck_true, gV, tC, hT, hT, hH, hH, hH, tB, tN1, tR1, tG1, tI]
end Go.Proofs.Tryz
end
section
/- Spans hold the numbers that they stand for. -/
namespace Go.Proofs.Tryz
open Go Go.Am Ieee.Pos
set_option maxRecDepth 100000
set_option exponentiation.threshold 2000

theorem sg_o {w : Nat} {o : Ordering} (h : Ieee.double.order w 0 = some o) : sg (some w) = sgc o := by
  have e : ford .f64 (some w) (some 0) = some o := h
  unfold sg
  rw [e]
  cases o <;> rfl
theorem mulV_br {a b : Nat} (ha : Norm a) (hb : Norm b) (h1 : 1100 ≤ ex a + ex b) (h2 : ex a + ex b ≤ 3060) :
    nv (mulV 1 a b) * 2 ^ 1075 ≤ nv a * nv b ∧ nv a * nv b ≤ nv (mulV 2 a b) * 2 ^ 1075 ∧ ∃ p, Ieee.double.mul a b = some p ∧ Norm p ∧ mulV 1 a b ≤ p ∧ p ≤ mulV 2 a b := by
  obtain ⟨p, w, o, e1, e2, e3, e4, e5⟩ := mul_br ha hb h1 h2
  obtain ⟨p', e6, np, -, -⟩ := mul_ex ha hb (by omega) h2
  rw [e1] at e6
  obtain rfl := Option.some.inj e6
  unfold mulV adjM
  rw [e1, Option.getD_some, neg_w np.1, e2, sg_o e3]
  exact ⟨e4, e5, p, rfl, np, adj1_le _ _, adj2_ge _ _⟩
theorem divV_br {a b : Nat} (ha : Norm a) (hb : Norm b) (h1 : ex b ≤ ex a + 1000) (h2 : ex a ≤ ex b + 1000) (h3 : 80 ≤ ex a) :
    nv (divV 1 a b) * nv b ≤ nv a * 2 ^ 1075 ∧ nv a * 2 ^ 1075 ≤ nv (divV 2 a b) * nv b ∧ ∃ p, Ieee.double.div a b = some p ∧ Norm p ∧ divV 1 a b ≤ p ∧ p ≤ divV 2 a b := by
  obtain ⟨q, e1, nq, b1, b2⟩ := div_ex ha hb h1 h2
  obtain ⟨w, f1, o, f2, f3, f4⟩ := div_br ha hb h1 h2 e1 nq (by omega)
  unfold divV adjD
  rw [e1, Option.getD_some, neg_w nq.1, f1, sg_o f2]
  exact ⟨f3, f4, q, rfl, nq, adj1_le _ _, adj2_ge _ _⟩
theorem rootV_br {a : Nat} (ha : Norm a) (h1 : 100 ≤ ex a) :
    nv (rootV 1 a) * nv (rootV 1 a) ≤ nv a * 2 ^ 1075 ∧ nv a * 2 ^ 1075 ≤ nv (rootV 2 a) * nv (rootV 2 a) := by
  obtain ⟨r, e1, nr, -, -, w, f1, o, f2, f3, f4⟩ := sqrt_br ha h1
  unfold rootV adjR
  rw [e1, Option.getD_some, neg_w nr.1, f1, sg_o f2]
  exact ⟨f3, f4⟩
theorem adj_0 (p : Nat) (s : Int) : adj p s 0 = p := by
  unfold adj
  cases decide (s < 0) <;> cases decide (s > 0) <;> rfl
theorem root_btw (x : Nat) : rootV 1 x ≤ rootV 0 x ∧ rootV 0 x ≤ rootV 2 x := by
  unfold rootV adjR
  rw [adj_0]
  exact ⟨adj1_le _ _, adj2_ge _ _⟩

def Btw (s : Nat × Nat) (p : Nat) : Prop := s.1 ≤ p ∧ p ≤ s.2
theorem Btw.In {l h p : Nat} {s : Nat × Nat} (hb : Btw s p) (hs : SIn l h s) : In l h p := by
  obtain ⟨⟨a1, a2, a3⟩, ⟨b1, b2, b3⟩, -⟩ := hs
  obtain ⟨h1, h2⟩ := hb
  have := a1.2.1
  have := b1.1
  have := b1.2.2
  unfold Go.Proofs.Tryz.In Norm
  unfold ex at *
  omega
theorem corn_lo (f : Int → Nat → Nat → Nat) (s t : Nat × Nat) : (corn f s t).1 ≤ f 1 s.1 t.1 ∧ (corn f s t).1 ≤ f 1 s.1 t.2 ∧ f 2 s.2 t.2 ≤ (corn f s t).2 ∧ f 2 s.2 t.1 ≤ (corn f s t).2 := by
  unfold corn
  dsimp only
  omega

section
variable {s t : Nat × Nat} {l1 h1 l2 h2 : Nat} (hs : SIn l1 h1 s) (ht : SIn l2 h2 t)
include hs ht
theorem mulS_br (hl : 1100 ≤ l1 + l2) (hh : h1 + h2 ≤ 3060) : nv (mulS s t).1 * 2 ^ 1075 ≤ nv s.1 * nv t.1 ∧ nv s.2 * nv t.2 ≤ nv (mulS s t).2 * 2 ^ 1075 := by
  obtain ⟨⟨a1, a2, a3⟩, ⟨b1, b2, b3⟩, -⟩ := hs
  obtain ⟨⟨c1, c2, c3⟩, ⟨d1, d2, d3⟩, -⟩ := ht
  have q1 := (mulV_br a1 c1 (by omega) (by omega)).1
  have q2 := (mulV_br b1 d1 (by omega) (by omega)).2.1
  obtain ⟨k1, -, k2, -⟩ := corn_lo mulV s t
  exact ⟨Nat.le_trans (Nat.mul_le_mul_right _ (nv_mono k1)) q1, Nat.le_trans q2 (Nat.mul_le_mul_right _ (nv_mono k2))⟩
theorem divS_br (hl : h2 ≤ l1 + 1000) (hh : h1 ≤ l2 + 1000) (h3 : 80 ≤ l1) : nv (divS s t).1 * nv t.2 ≤ nv s.1 * 2 ^ 1075 ∧ nv s.2 * 2 ^ 1075 ≤ nv (divS s t).2 * nv t.1 := by
  obtain ⟨⟨a1, a2, a3⟩, ⟨b1, b2, b3⟩, -⟩ := hs
  obtain ⟨⟨c1, c2, c3⟩, ⟨d1, d2, d3⟩, -⟩ := ht
  have q1 := (divV_br a1 d1 (by omega) (by omega) (by omega)).1
  have q2 := (divV_br b1 c1 (by omega) (by omega) (by omega)).2.1
  obtain ⟨-, k1, -, k2⟩ := corn_lo divV s t
  exact ⟨Nat.le_trans (Nat.mul_le_mul_right _ (nv_mono k1)) q1, Nat.le_trans q2 (Nat.mul_le_mul_right _ (nv_mono k2))⟩
theorem fm_btw (hl : 1100 ≤ l1 + l2) (hh : h1 + h2 ≤ 3060) {p q : Nat} (hp : Btw s p) (hq : Btw t q) : ∃ r, fm (some p) (some q) = some r ∧ Btw (mulS s t) r := by
  obtain ⟨p1, p2, p3⟩ := hp.In hs
  obtain ⟨q1, q2, q3⟩ := hq.In ht
  obtain ⟨⟨a1, a2, a3⟩, ⟨b1, b2, b3⟩, -⟩ := hs
  obtain ⟨⟨c1, c2, c3⟩, ⟨d1, d2, d3⟩, -⟩ := ht
  obtain ⟨-, -, r, er, -, -, -⟩ := mulV_br p1 q1 (by omega) (by omega)
  obtain ⟨-, -, x, ex1, -, x1, -⟩ := mulV_br a1 c1 (by omega) (by omega)
  obtain ⟨-, -, y, ey, -, -, y1⟩ := mulV_br b1 d1 (by omega) (by omega)
  obtain ⟨k1, -, k2, -⟩ := corn_lo mulV s t
  have m1 := mul_le' a1 c1 p1 q1 (by omega) (by omega) (by omega) (by omega) ex1 er hp.1 hq.1
  have m2 := mul_le' p1 q1 b1 d1 (by omega) (by omega) (by omega) (by omega) er ey hp.2 hq.2
  exact ⟨r, er, by unfold mulS; omega, by unfold mulS; omega⟩
theorem fq_btw (hl : h2 ≤ l1 + 1000) (hh : h1 ≤ l2 + 1000) (h3 : 80 ≤ l1) {p q : Nat} (hp : Btw s p) (hq : Btw t q) : ∃ r, fq (some p) (some q) = some r ∧ Btw (divS s t) r := by
  obtain ⟨p1, p2, p3⟩ := hp.In hs
  obtain ⟨q1, q2, q3⟩ := hq.In ht
  obtain ⟨⟨a1, a2, a3⟩, ⟨b1, b2, b3⟩, -⟩ := hs
  obtain ⟨⟨c1, c2, c3⟩, ⟨d1, d2, d3⟩, -⟩ := ht
  obtain ⟨-, -, r, er, -, -, -⟩ := divV_br p1 q1 (by omega) (by omega) (by omega)
  obtain ⟨-, -, x, ex1, -, x1, -⟩ := divV_br a1 d1 (by omega) (by omega) (by omega)
  obtain ⟨-, -, y, ey, -, -, y1⟩ := divV_br b1 c1 (by omega) (by omega) (by omega)
  obtain ⟨-, k1, -, k2⟩ := corn_lo divV s t
  have m1 := div_le' a1 d1 p1 q1 (by omega) (by omega) (by omega) (by omega) ex1 er hp.1 hq.2
  have m2 := div_le' p1 q1 b1 c1 (by omega) (by omega) (by omega) (by omega) er ey hp.2 hq.1
  exact ⟨r, er, by unfold divS; omega, by unfold divS; omega⟩
end

/-! ### The number of a spring -/
theorem low_law {K s n m h f : Nat} (h1 : s * (m * h) ≤ f) (h2 : n * (K * K) ≤ h * h) : s * s * (m * m * n) * (K * K) ≤ f * f := by
  have a := Nat.mul_le_mul h1 h1
  have b := Nat.mul_le_mul_left (s * s * (m * m)) h2
  have e1 : s * s * (m * m) * (n * (K * K)) = s * s * (m * m * n) * (K * K) := by ac_rfl
  have e2 : s * s * (m * m) * (h * h) = s * (m * h) * (s * (m * h)) := by ac_rfl
  rw [e1, e2] at b
  exact Nat.le_trans b a
theorem high_law {K s n m h f : Nat} (h1 : f ≤ s * (m * h)) (h2 : h * h ≤ n * (K * K)) : f * f ≤ s * s * (m * m * n) * (K * K) := by
  have a := Nat.mul_le_mul h1 h1
  have b := Nat.mul_le_mul_left (s * s * (m * m)) h2
  have e1 : s * s * (m * m) * (n * (K * K)) = s * s * (m * m * n) * (K * K) := by ac_rfl
  have e2 : s * s * (m * m) * (h * h) = s * (m * h) * (s * (m * h)) := by ac_rfl
  rw [e1, e2] at b
  exact Nat.le_trans a b

abbrev KK : Nat := 2 ^ 1075
theorem c3_nv : nv c3 = 3 * KK := by
  have e : c3 = Ieee.double.nearest false 3 0 := rfl
  rw [e, nv_int (by omega) (by omega)]
theorem xw_nv {n : Nat} (h1 : 1 ≤ n) (h2 : n ≤ 8796093022208) : nv (xw (n : Int)) = n * KK := by
  have e : xw (n : Int) = Ieee.double.nearest false n 0 := by
    show Ieee.double.nearest (decide (((n : Nat) : Int) < 0)) ((n : Nat) : Int).natAbs 0 = _
    rw [decide_eq_false (by omega), Int.natAbs_natCast]
  rw [e, nv_int h1 (by omega)]
end Go.Proofs.Tryz
end
section
/- A spring's span holds its number; its float lies in it. -/
namespace Go.Proofs.Tryz
open Go Go.Am Ieee.Pos
set_option maxRecDepth 100000
set_option exponentiation.threshold 2000

theorem low1 {D q p h n K e : Nat} (hK : 0 < K) (a : D * q ≤ p * K) (b : p * K ≤ e) (c : n * K * h ≤ q * K) : D * (n * h) ≤ e := by
  have c' : n * h * K ≤ q * K := by rw [Nat.mul_right_comm]; exact c
  exact Nat.le_trans (Nat.mul_le_mul_left _ (Nat.le_of_mul_le_mul_right c' hK)) (Nat.le_trans a b)
theorem high1 {D q p h n K e : Nat} (hK : 0 < K) (a : p * K ≤ D * q) (b : e ≤ p * K) (c : q * K ≤ n * K * h) : e ≤ D * (n * h) := by
  have c' : q * K ≤ n * h * K := by rw [Nat.mul_right_comm n h K]; exact c
  exact Nat.le_trans (Nat.le_trans b a) (Nat.mul_le_mul_left _ (Nat.le_of_mul_le_mul_right c' hK))
theorem low2 {D w t p h n K e y : Nat} (hK : 0 < K) (a : D * w ≤ t * K) (b : t * K ≤ 3 * K * p) (c : p * K ≤ e) (d : n * K * (n * K) ≤ y * K) (f : y * h ≤ w * K) : D * (n * n * h) ≤ 3 * e := by
  have d' : n * n * K ≤ y := by
    have : n * n * K * K ≤ y * K := by rw [show n * n * K * K = n * K * (n * K) by ac_rfl]; exact d
    exact Nat.le_of_mul_le_mul_right this hK
  have f' : n * n * h ≤ w := by
    have : n * n * h * K ≤ w * K := by
      rw [show n * n * h * K = n * n * K * h by ac_rfl]
      exact Nat.le_trans (Nat.mul_le_mul_right _ d') f
    exact Nat.le_of_mul_le_mul_right this hK
  have b' : t * K ≤ 3 * e := Nat.le_trans b (by rw [show 3 * K * p = 3 * (p * K) by ac_rfl]; exact Nat.mul_le_mul_left _ c)
  exact Nat.le_trans (Nat.mul_le_mul_left _ f') (Nat.le_trans a b')
theorem high2 {D w t p h n K e y : Nat} (hK : 0 < K) (a : t * K ≤ D * w) (b : 3 * K * p ≤ t * K) (c : e ≤ p * K) (d : y * K ≤ n * K * (n * K)) (f : w * K ≤ y * h) : 3 * e ≤ D * (n * n * h) := by
  have d' : y ≤ n * n * K := by
    have : y * K ≤ n * n * K * K := by rw [show n * n * K * K = n * K * (n * K) by ac_rfl]; exact d
    exact Nat.le_of_mul_le_mul_right this hK
  have f' : w ≤ n * n * h := by
    have : w * K ≤ n * n * h * K := by
      rw [show n * n * h * K = n * n * K * h by ac_rfl]
      exact Nat.le_trans f (Nat.mul_le_mul_right _ d')
    exact Nat.le_of_mul_le_mul_right this hK
  have b' : 3 * e ≤ t * K := Nat.le_trans (by rw [show 3 * K * p = 3 * (p * K) by ac_rfl]; exact Nat.mul_le_mul_left _ c) b
  exact Nat.le_trans b' (Nat.le_trans a (Nat.mul_le_mul_left _ f'))

/-- What a spring's number, times itself and the second, is: by its kind. -/
def mK (n : Nat) (k : Int) : Nat := bif k == 1 then n else bif k == 3 then 1 else n * n
def fK (E A I : Nat) (k : Int) : Nat := bif k == 1 then nv E * nv A else bif k == 3 then nv E * nv I else 3 * (nv E * nv I)
def Sound (E A I n : Nat) (k : Int) (s : Nat × Nat) : Prop :=
  nv s.1 * nv s.1 * (mK n k * mK n k * n) * (2 ^ 1075 * 2 ^ 1075) ≤ fK E A I k * fK E A I k ∧ fK E A I k * fK E A I k ≤ nv s.2 * nv s.2 * (mK n k * mK n k * n) * (2 ^ 1075 * 2 ^ 1075)

section
variable {E A n x : Nat} (hE : In 963 1083 E) (hA : In 963 1083 A) (hx : In 1023 1066 x) (hn : nv x = n * 2 ^ 1075)
include hx hn
theorem root_lo : n * (2 ^ 1075 * 2 ^ 1075) ≤ nv (lS x).2 * nv (lS x).2 ∧ nv (lS x).1 * nv (lS x).1 ≤ n * (2 ^ 1075 * 2 ^ 1075) := by
  obtain ⟨a, b⟩ := rootV_br hx.1 (by have := hx.2.1; omega)
  rw [hn, Nat.mul_assoc] at a b
  exact ⟨b, a⟩
include hE hA
theorem snd1 (I : Nat) : Sound E A I n 1 (stS E A I x 1) := by
  obtain ⟨r1, r2⟩ := root_lo hx hn
  obtain ⟨d1, d2⟩ := divS_br (fEA hE hA).2.2 (fXL hx).2.2 (by omega) (by omega) (by omega)
  obtain ⟨p1, p2⟩ := mulS_br (SIn.one hE) (SIn.one hA) (by omega) (by omega)
  obtain ⟨q1, q2⟩ := mulS_br (SIn.one hx) (lS_in hx) (by omega) (by omega)
  dsimp only at p1 p2 q1 q2
  rw [hn] at q1 q2
  have hK := Nat.two_pow_pos 1075
  have e : stS E A I x 1 = divS (mulS (E, E) (A, A)) (mulS (x, x) (lS x)) := rfl
  have em : mK n 1 = n := rfl
  have ef : fK E A I 1 = nv E * nv A := rfl
  unfold Sound
  rw [e, em, ef]
  generalize 2 ^ 1075 = K at *
  exact ⟨low_law (low1 hK d1 p1 q2) r1, high_law (high1 hK d2 p2 q1) r2⟩
theorem snd3 (B : Nat) : Sound E B A n 3 (stS E B A x 3) := by
  obtain ⟨r1, r2⟩ := root_lo hx hn
  obtain ⟨d1, d2⟩ := divS_br (fEA hE hA).2.2 (lS_in hx) (by omega) (by omega) (by omega)
  obtain ⟨p1, p2⟩ := mulS_br (SIn.one hE) (SIn.one hA) (by omega) (by omega)
  dsimp only at p1 p2
  have e : stS E B A x 3 = divS (mulS (E, E) (A, A)) (lS x) := rfl
  have em : mK n 3 = 1 := rfl
  have ef : fK E B A 3 = nv E * nv A := rfl
  unfold Sound
  rw [e, em, ef]
  generalize 2 ^ 1075 = K at *
  exact ⟨low_law (by rw [Nat.one_mul]; exact Nat.le_trans d1 p1) r1, high_law (by rw [Nat.one_mul]; exact Nat.le_trans p2 d2) r2⟩
theorem snd2 (B : Nat) {k : Int} (h1 : (k == 1) = false) (h3 : (k == 3) = false) : Sound E B A n k (stS E B A x k) := by
  obtain ⟨r1, r2⟩ := root_lo hx hn
  obtain ⟨d1, d2⟩ := divS_br (fTh hE hA).2.2 (fXXL hx).2.2 (by omega) (by omega) (by omega)
  obtain ⟨t1, t2⟩ := mulS_br (SIn.one c3_in) (fEA hE hA).2.2 (by omega) (by omega)
  obtain ⟨p1, p2⟩ := mulS_br (SIn.one hE) (SIn.one hA) (by omega) (by omega)
  obtain ⟨y1, y2⟩ := mulS_br (SIn.one hx) (SIn.one hx) (by omega) (by omega)
  obtain ⟨w1, w2⟩ := mulS_br (fXX hx).2.2 (lS_in hx) (by omega) (by omega)
  dsimp only at p1 p2 y1 y2 t1 t2
  rw [c3_nv, show KK = 2 ^ 1075 from rfl] at t1 t2
  rw [hn] at y1 y2
  have hK := Nat.two_pow_pos 1075
  have e : stS E B A x k = divS (mulS (c3, c3) (mulS (E, E) (A, A))) (mulS (mulS (x, x) (x, x)) (lS x)) := by unfold stS; rw [h1, h3]; rfl
  have em : mK n k = n * n := by unfold mK; rw [h1, h3]; rfl
  have ef : fK E B A k = 3 * (nv E * nv A) := by unfold fK; rw [h1, h3]; rfl
  unfold Sound
  rw [e, em, ef]
  generalize 2 ^ 1075 = K at *
  exact ⟨low_law (low2 hK d1 t1 p1 y2 w2) r1, high_law (high2 hK d2 t2 p2 y1 w1) r2⟩
end

theorem Btw.self (a : Nat) : Btw (a, a) a := ⟨Nat.le_refl _, Nat.le_refl _⟩
theorem lN_btw (x : Nat) : Btw (lS x) (lN x) := root_btw x
section
variable {E A x : Nat} (hE : In 963 1083 E) (hA : In 963 1083 A) (hx : In 1023 1066 x)
include hE hx
include hA
theorem near1 (I : Nat) : ∃ r, stN E A I x 1 = some r ∧ Btw (stS E A I x 1) r := by
  obtain ⟨p, e1, b1⟩ := fm_btw (SIn.one hE) (SIn.one hA) (by omega) (by omega) (Btw.self E) (Btw.self A)
  obtain ⟨q, e2, b2⟩ := fm_btw (SIn.one hx) (lS_in hx) (by omega) (by omega) (Btw.self x) (lN_btw x)
  obtain ⟨r, e3, b3⟩ := fq_btw (fEA hE hA).2.2 (fXL hx).2.2 (by omega) (by omega) (by omega) b1 b2
  refine ⟨r, ?_, b3⟩
  show fq (fm (some E) (some A)) (fm (some x) (some (lN x))) = some r
  rw [e1, e2, e3]
theorem near3 (B : Nat) : ∃ r, stN E B A x 3 = some r ∧ Btw (stS E B A x 3) r := by
  obtain ⟨p, e1, b1⟩ := fm_btw (SIn.one hE) (SIn.one hA) (by omega) (by omega) (Btw.self E) (Btw.self A)
  obtain ⟨r, e3, b3⟩ := fq_btw (fEA hE hA).2.2 (lS_in hx) (by omega) (by omega) (by omega) b1 (lN_btw x)
  refine ⟨r, ?_, b3⟩
  show fq (fm (some E) (some A)) (some (lN x)) = some r
  rw [e1, e3]
theorem near2 (B : Nat) {k : Int} (h1 : (k == 1) = false) (h3 : (k == 3) = false) : ∃ r, stN E B A x k = some r ∧ Btw (stS E B A x k) r := by
  obtain ⟨p, e1, b1⟩ := fm_btw (SIn.one hE) (SIn.one hA) (by omega) (by omega) (Btw.self E) (Btw.self A)
  obtain ⟨t, e2, b2⟩ := fm_btw (SIn.one c3_in) (fEA hE hA).2.2 (by omega) (by omega) (Btw.self c3) b1
  obtain ⟨y, e3, b3⟩ := fm_btw (SIn.one hx) (SIn.one hx) (by omega) (by omega) (Btw.self x) (Btw.self x)
  obtain ⟨w, e4, b4⟩ := fm_btw (fXX hx).2.2 (lS_in hx) (by omega) (by omega) b3 (lN_btw x)
  obtain ⟨r, e5, b5⟩ := fq_btw (fTh hE hA).2.2 (fXXL hx).2.2 (by omega) (by omega) (by omega) b2 b4
  unfold stN stS
  rw [h1, h3]
  refine ⟨r, ?_, b5⟩
  show fq (fm (some c3) (fm (some E) (some A))) (fm (fm (some x) (some x)) (some (lN x))) = some r
  rw [e1, e2, e3, e4, e5]
end

/-- What a spring of a member is. -/
theorem spr_sound {J : JS} {M : MS} {i : Nat} (h : MemF J M i) {n : Nat} (hn : nO J M i = n) (hn1 : 1 ≤ n) (hn2 : n ≤ 8796093022208) {k : Int} (hk : k ∈ ksOf (M.kd i) (M.ha i) (M.hb i)) :
    Sound (M.e i) (M.ar i) (M.iv i) n k (stS (M.e i) (M.ar i) (M.iv i) (xw (nO J M i)) k) ∧ SIn 785 1155 (stS (M.e i) (M.ar i) (M.iv i) (xw (nO J M i)) k) ∧
      ∃ r, stN (M.e i) (M.ar i) (M.iv i) (xw (nO J M i)) k = some r ∧ Btw (stS (M.e i) (M.ar i) (M.iv i) (xw (nO J M i)) k) r := by
  have hx := h.hx
  have hE := h.hE
  have hA := h.hA
  have hnv : nv (xw (nO J M i)) = n * 2 ^ 1075 := by rw [hn]; exact xw_nv hn1 hn2
  have mono : ∀ {l h s}, SIn l h s → 785 ≤ l → h ≤ 1155 → SIn 785 1155 s := fun h a b => ⟨h.1.mono a b, h.2.1.mono a b, h.2.2⟩
  have hk1 : k = 1 ∨ In 963 1083 (M.iv i) := by
    rcases h.hI with ⟨a1, a2, a3⟩ | ⟨a1, hI⟩
    · rw [a1, a2, a3] at hk
      have : k ∈ [(1 : Int)] := hk
      simp at this
      exact Or.inl this
    · exact Or.inr hI
  rcases hk1 with rfl | hI
  · exact ⟨snd1 hE hA hx hnv _, mono (fAx hE hA hx).2.2 (by omega) (by omega), near1 hE hA hx _⟩
  · by_cases h1 : k = 1
    · subst h1
      exact ⟨snd1 hE hA hx hnv _, mono (fAx hE hA hx).2.2 (by omega) (by omega), near1 hE hA hx _⟩
    · by_cases h3 : k = 3
      · subst h3
        exact ⟨snd3 hE hI hx hnv _, mono (fEnd hE hI hx).2.2 (by omega) (by omega), near3 hE hI hx _⟩
      · have b1 : (k == 1) = false := by simpa using h1
        have b3 : (k == 3) = false := by simpa using h3
        refine ⟨snd2 hE hI hx hnv _ b1 b3, ?_, near2 hE hI hx _ b1 b3⟩
        unfold stS
        rw [b1, b3]
        exact mono (fBow hE hI hx).2.2 (by omega) (by omega)
end Go.Proofs.Tryz
end
section
/- What a spring's number, times itself, is, as exact numbers. -/
namespace Go.Proofs.Tryz
open Go Go.Am Ieee.Pos
set_option maxRecDepth 100000
set_option linter.unusedVariables false
set_option exponentiation.threshold 5000

/-- An exact number of this value (in parts of 2^d to a unit). -/
def Va (R : NR) (c : Nat) (E : Int) (d X : Nat) : Prop := R.Ok c E ∧ -(d : Int) ≤ R.e ∧ R.m * 2 ^ (R.e + d).toNat = X
theorem Va.mono {R : NR} {c c' d X : Nat} {E E' : Int} (h : Va R c E d X) (hc : c ≤ c') (hE : E ≤ E') : Va R c' E' d X :=
  ⟨⟨h.1.1, Nat.le_trans h.1.2.1 (Nat.pow_le_pow_right (by decide) hc), by have := h.1.2.2; omega, by have := h.1.2.2; omega⟩, h.2⟩
abbrev rowN (a : NR) : List AV := [AV.bool false, AV.ro 1 a.n a.r a.g, AV.int .i64 a.e]
theorem va_mul {m1 m2 d1 d2 : Nat} {e1 e2 : Int} (h1 : -(d1 : Int) ≤ e1) (h2 : -(d2 : Int) ≤ e2) : m1 * m2 * 2 ^ (e1 + e2 + ((d1 + d2 : Nat) : Int)).toNat = m1 * 2 ^ (e1 + d1).toNat * (m2 * 2 ^ (e2 + d2).toNat) := by
  rw [show (e1 + e2 + ((d1 + d2 : Nat) : Int)).toNat = (e1 + d1).toNat + (e2 + d2).toNat by omega, Nat.pow_add]
  ac_rfl
theorem ok_two {a b : NR} {c : Nat} {E : Int} (ha : a.Ok c E) (hb : b.Ok c E) (hc : c ≤ 20) (hE : 0 ≤ E ∧ E ≤ 100000) :
    ∃ R : NR, klaw19_times [.ro 3 2 2 fun i j => ([rowN a, rowN b].getD i []).getD j .dead] = some R.A ∧ ∀ d1 d2 X Y, Va a c E d1 X → Va b c E d2 Y → Va R (c * 2) (E * 2) (d1 + d2) (X * Y) := by
  obtain ⟨R, r1, r2, r3, r4, r5⟩ := k_timesL (l := [a, b]) (c := c) (E := E) (fun x hx => by
    simp only [List.mem_cons, List.not_mem_nil, or_false] at hx
    rcases hx with rfl | rfl
    · exact ha
    · exact hb) (by simp) hc hE
  have r3' : R.m = a.m * b.m := by rw [r3]; show 1 * a.m * b.m = _; rw [Nat.one_mul]
  have r4' : R.e = a.e + b.e := by rw [r4]; show 0 + a.e + b.e = _; omega
  have ae := ha.2.2
  have be := hb.2.2
  refine ⟨R, r1, fun d1 d2 X Y h1 h2 => ⟨⟨r2, r5, by omega, by omega⟩, by have := h1.2.1; have := h2.2.1; omega, ?_⟩⟩
  rw [r3', r4', va_mul h1.2.1 h2.2.1, h1.2.2, h2.2.2]
theorem va_two {a b : NR} {c d1 d2 X Y : Nat} {E : Int} (ha : Va a c E d1 X) (hb : Va b c E d2 Y) (hc : c ≤ 20) (hE : 0 ≤ E ∧ E ≤ 100000) :
    ∃ R : NR, klaw19_times [.ro 3 2 2 fun i j => ([rowN a, rowN b].getD i []).getD j .dead] = some R.A ∧ Va R (c * 2) (E * 2) (d1 + d2) (X * Y) := by
  obtain ⟨R, r1, r2⟩ := ok_two ha.1 hb.1 hc hE
  exact ⟨R, r1, r2 _ _ _ _ ha hb⟩
theorem va_three {a b f : NR} {c d1 d2 d3 X Y Z : Nat} {E : Int} (ha : Va a c E d1 X) (hb : Va b c E d2 Y) (hf : Va f c E d3 Z) (hc : c ≤ 20) (hE : 0 ≤ E ∧ E ≤ 100000) :
    ∃ R : NR, klaw19_times [.ro 3 3 3 fun i j => ([rowN a, rowN b, rowN f].getD i []).getD j .dead] = some R.A ∧ Va R (c * 3) (E * 3) (d1 + d2 + d3) (X * Y * Z) := by
  obtain ⟨R, r1, r2, r3, r4, r5⟩ := k_timesL (l := [a, b, f]) (c := c) (E := E) (fun x hx => by
    simp only [List.mem_cons, List.not_mem_nil, or_false] at hx
    rcases hx with rfl | rfl | rfl
    · exact ha.1
    · exact hb.1
    · exact hf.1) (by simp) hc hE
  have r3' : R.m = a.m * b.m * f.m := by rw [r3]; show 1 * a.m * b.m * f.m = _; rw [Nat.one_mul]
  have r4' : R.e = a.e + b.e + f.e := by rw [r4]; show 0 + a.e + b.e + f.e = _; omega
  have ae := ha.1.2.2
  have be := hb.1.2.2
  have fe := hf.1.2.2
  have i1 := ha.2.1
  have i2 := hb.2.1
  have i3 := hf.2.1
  refine ⟨R, r1, ⟨r2, r5, by omega, by omega⟩, by omega, ?_⟩
  rw [r3', r4', va_mul (d1 := d1 + d2) (by omega) hf.2.1, va_mul ha.2.1 hb.2.1, ha.2.2, hb.2.2, hf.2.2]
theorem va_five {a : NR} {c X : Nat} {E : Int} (ha : Va a c E 0 X) (h0 : a.e = 0) (hc : c ≤ 20) (hE : 0 ≤ E ∧ E ≤ 100000) :
    ∃ R : NR, klaw19_times [.ro 3 5 5 fun i j => ([rowN a, rowN a, rowN a, rowN a, rowN a].getD i []).getD j .dead] = some R.A ∧ Va R (c * 5) (E * 5) 0 (X * X * (X * X) * X) := by
  obtain ⟨R, r1, r2, r3, r4, r5⟩ := k_timesL (l := [a, a, a, a, a]) (c := c) (E := E) (fun x hx => by
    simp only [List.mem_cons, List.not_mem_nil, or_false, or_self] at hx
    subst hx
    exact ha.1) (by simp) hc hE
  have hX : a.m = X := by
    have := ha.2.2
    rw [h0] at this
    simpa using this
  have r3' : R.m = X * X * (X * X) * X := by rw [r3]; show 1 * a.m * a.m * a.m * a.m * a.m = _; rw [Nat.one_mul, hX]; ac_rfl
  have r4' : R.e = 0 := by rw [r4]; show 0 + a.e + a.e + a.e + a.e + a.e = _; omega
  refine ⟨R, r1, ⟨r2, r5, by omega, by omega⟩, by omega, ?_⟩
  rw [r3', r4']
  simp
theorem va_whole {x : Nat} (hx : x < 9223372036854775808) : ∃ v : NR, kref02_Whole [.int .i64 (x : Int)] = some v.A ∧ Va v 1 0 0 x ∧ v.e = 0 := by
  obtain ⟨l, l1, l2, l3, l4⟩ := k_whole hx
  refine ⟨l, l1, ⟨⟨l2, by omega, by omega, by omega⟩, by omega, ?_⟩, l4⟩
  rw [l3, l4]
  simp
theorem va_exact {w : Nat} (hw : In 785 1155 w) : ∃ v : NR, klaw19_exact [F w] = some v.A ∧ Va v 1 500 1075 (nv w) := by
  obtain ⟨v, v1, v2, v3, v4, v5⟩ := k_exact hw.1 (by have := hw.2.1; omega) (by have := hw.2.2; omega)
  exact ⟨v, v1, v2, v5, v4⟩
theorem ok_exact {w : Nat} (hw : In 785 1155 w ∨ w = 0) : ∃ v : NR, klaw19_exact [F w] = some v.A ∧ v.Ok 1 500 ∧ (In 785 1155 w → Va v 1 500 1075 (nv w)) := by
  by_cases h : In 785 1155 w
  · obtain ⟨v, v1, v2⟩ := va_exact h
    exact ⟨v, v1, v2.1, fun _ => v2⟩
  · rcases hw with hw | rfl
    · exact absurd hw h
    · obtain ⟨v, v1, v2, v3⟩ := k_exact0
      exact ⟨v, v1, v2, fun a => absurd a h⟩
theorem okNR (v : NR) : okM [RS.agg [LK.b, LK.l 1, LK.i .i64]] (some v.A) = true := rfl
theorem gB (v : NR) : toB ((toC (getV (some v.A))).headD .dead) = false := rfl
theorem gN (v : NR) : toN ((toC (getV (some v.A))).tail.headD .dead) = v.n := rfl
theorem gR (v : NR) : toR ((toC (getV (some v.A))).tail.headD .dead) = v.r := rfl
theorem gG (v : NR) : toG ((toC (getV (some v.A))).tail.headD .dead) = v.g := rfl
theorem gI (v : NR) : toI ((toC (getV (some v.A))).tail.tail.headD .dead) = v.e := rfl

theorem k_true2 {E A I n : Nat} (hE : In 963 1083 E) (hA : In 963 1083 A) {k : Int} (hI : In 963 1083 I ∨ (k = 1 ∧ I = 0)) (hn : n ≤ 8796093022208) (s : ByteArray) (kd a b : Int) (ha hb : Bool) :
    ∃ O U : NR, klaw19_true2 [MA s kd a b ha hb E A I, .int .i64 (n : Int), .int .u8 k] = some (.tup [O.A, U.A]) ∧ Va O 6 3000 4300 (fK E A I k * fK E A I k) ∧ Va U 5 500 0 (mK n k * mK n k * n) := by
  obtain ⟨l, l1, l2, l3⟩ := va_whole (x := n) (by omega)
  obtain ⟨vE, e1, e2⟩ := va_exact (hE.mono (c := 785) (d := 1155) (by omega) (by omega))
  obtain ⟨vI, i1, i2, i3⟩ := ok_exact (w := I) (by
    rcases hI with h | h
    · exact .inl (h.mono (by omega) (by omega))
    · exact .inr h.2)
  obtain ⟨o, o1, o2⟩ := ok_two e2.1 i2 (by omega) (by omega)
  have hstart : klaw19_true2 [MA s kd a b ha hb E A I, .int .i64 (n : Int), .int .u8 k] = glaw19_true2 kref02_Whole klaw19_exact klaw19_times NN s kd a b ha hb (some E) (some A) (some I) n k := rfl
  rw [hstart]
  unfold glaw19_true2
  dsimp only
  rw [l1, okNR, ck_true, e1, okNR, ck_true, i1, okNR, ck_true]
  simp only [gB, gN, gR, gG, gI]
  rw [o1, okNR, ck_true]
  simp only [gB, gN, gR, gG, gI]
  by_cases k1 : k = 1
  · subst k1
    obtain ⟨vA, a1, a2⟩ := va_exact (hA.mono (c := 785) (d := 1155) (by omega) (by omega))
    obtain ⟨p, p1, p2⟩ := va_two e2 a2 (by omega) (by omega)
    obtain ⟨O, q1, q2⟩ := va_two p2 p2 (by omega) (by omega)
    obtain ⟨U, u1, u2⟩ := va_three l2 l2 l2 (by omega) (by omega)
    have ef : fK E A I 1 = nv E * nv A := rfl
    have em : mK n 1 = n := rfl
    rw [show ((1 : Int) == 1) = true from rfl, cond_true, ck_true, a1, okNR, ck_true]
    simp only [gB, gN, gR, gG, gI]
    rw [p1, okNR, ck_true]
    simp only [gB, gN, gR, gG, gI]
    rw [q1, okNR, ck_true, u1, okNR, ck_true]
    simp only [gB, gN, gR, gG, gI]
    rw [ef, em]
    exact ⟨O, U, rfl, q2.mono (by omega) (by omega), u2.mono (by omega) (by omega)⟩
  · have hI' : In 963 1083 I := by
      rcases hI with h | h
      · exact h
      · exact absurd h.1 k1
    have o3 := o2 _ _ _ _ e2 (i3 (hI'.mono (by omega) (by omega)))
    have b1 : (k == 1) = false := by simpa using k1
    rw [b1, cond_false]
    by_cases k3 : k = 3
    · subst k3
      obtain ⟨O, q1, q2⟩ := va_two o3 o3 (by omega) (by omega)
      have ef : fK E A I 3 = nv E * nv I := rfl
      have em : mK n 3 * mK n 3 * n = n := by show 1 * 1 * n = n; simp
      rw [show ((3 : Int) == 3) = true from rfl, cond_true, q1, okNR, ck_true]
      simp only [gB, gN, gR, gG, gI]
      rw [ef, em]
      exact ⟨O, l, rfl, q2.mono (by omega) (by omega), l2.mono (by omega) (by omega)⟩
    · have b3 : (k == 3) = false := by simpa using k3
      obtain ⟨t, t1, t2, t3⟩ := va_whole (x := 9) (by omega)
      obtain ⟨O, q1, q2⟩ := va_three (t2.mono (c' := 2) (E' := 1000) (by omega) (by omega)) (o3.mono (c' := 2) (E' := 1000) (by omega) (by omega)) (o3.mono (c' := 2) (E' := 1000) (by omega) (by omega)) (by omega) (by omega)
      obtain ⟨U, u1, u2⟩ := va_five l2 l3 (by omega) (by omega)
      have ef : fK E A I k * fK E A I k = 9 * (nv E * nv I) * (nv E * nv I) := by
        have : fK E A I k = 3 * (nv E * nv I) := by unfold fK; rw [b1, b3]; rfl
        rw [this]
        generalize nv E * nv I = f
        rw [show 3 * f * (3 * f) = 3 * 3 * f * f by ac_rfl]
      have em : mK n k = n * n := by unfold mK; rw [b1, b3]; rfl
      have t1' : kref02_Whole [.int .i64 9] = some t.A := t1
      rw [b3, cond_false, t1', okNR, ck_true]
      simp only [gB, gN, gR, gG, gI]
      rw [q1, okNR, ck_true, u1, okNR, ck_true]
      simp only [gB, gN, gR, gG, gI]
      rw [ef, em]
      exact ⟨O, U, rfl, q2.mono (by omega) (by omega), u2.mono (by omega) (by omega)⟩
end Go.Proofs.Tryz
end
