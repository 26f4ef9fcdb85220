/- Part 7 of the proof: models of the functions, and laws on them. -/
import Derived.Test.YtdmmdjjpnjejhaaGreatDoorW6
import Derived.KernelRfl
section
namespace Go.Proofs.Tryz
open Go Go.Am Ieee.Pos
set_option maxRecDepth 100000

def lAV (l : List (List AV)) : AV := .ro 11 l.length l.length fun i j => (l.getD i []).getD j .dead
theorem k_stands (s : ByteArray) (kd a b : Int) (ha hb : Bool) (E A I : Nat) : kbars_stands [MA s kd a b ha hb E A I] = some (.tup [.bool (bif kd == 2 then !ha else false), .bool (bif kd == 2 then !hb else false)]) := by
  show gbars_stands NN s kd a b ha hb (some E) (some A) (some I) = _
  unfold gbars_stands
  cases kd == 2 <;> rfl
theorem okBB (a b : Bool) : okM [RS.one LK.b, RS.one LK.b] (some (.tup [.bool a, .bool b])) = true := rfl
theorem fJ (s : ByteArray) (x y f : Int) : fitKs [LK.s, LK.i .i32, LK.i .i32, LK.i .u8] [.str s, .int .i32 x, .int .i32 y, .int .u8 f] = true := rfl
theorem tS (s : ByteArray) : toS (.str s) = s := rfl

section
variable {J : JS} {jr : Nat} {jg : Ge} (hj : J.Ok jg) {ia ib : Nat} (hia : ia < J.n) (hib : ib < J.n)
  (na : farB (J.x ia) = false) (nb : farB (J.y ia) = false) (nc : farB (J.x ib) = false) (nd : farB (J.y ib) = false)
  {dx dy n : Int} (edx : dx = J.x ib - J.x ia) (edy : dy = J.y ib - J.y ia) (en : n = dx * dx + dy * dy) (hx : In 1023 1066 (xw n))
  {E A I : Nat} (hE : In 963 1083 E) (hA : In 963 1083 A) (s : ByteArray) {kd : Int} {ha hb : Bool} (mn mr : Nat) (mg : Ge)
include hj hia hib na nb nc nd edx edy en hx hE hA
theorem k_springsA (h : (kd = 1 ∧ ha = false ∧ hb = false) ∨ (kd = 2 ∧ In 963 1083 I)) :
    kbars_springs_a [.agg [.ro 4 J.n jr jg, .ro 9 mn mr mg], MA s kd ia ib ha hb E A I] = some (.tup [lAV ((ksOf kd ha hb).map (spr 0 dx dy n E A I ha))]) := by
  obtain ⟨a0, a1, a2, a3⟩ := hj ia hia
  obtain ⟨b0, b1, b2, b3⟩ := hj ib hib
  have p1 := k_apart na nb nc nd (J.nm ia) (J.nm ib) (J.fx ia) (J.fx ib)
  have p2 := k_length na nb nc nd (J.nm ia) (J.nm ib) (J.fx ia) (J.fx ib) (n := n) (by rw [en, edx, edy]) hx
  rw [← edx, ← edy, ← en] at p1
  have o1 : ∀ w, kbars_one [F w] = some (.agg [F w, F w]) := fun _ => rfl
  have hw : FloatKind.f64.nearest n = xw n := rfl
  have t1 : kbars_times [.ro 2 2 2 fun i j => ([[F E, F E], [F A, F A]].getD i []).getD j .dead] = some (SA (mulS (E, E) (A, A))) := k_times (s := (E, E)) (t := (A, A)) (fEA hE hA).1
  have t2 : kbars_times [.ro 2 2 2 fun i j => ([[F (xw n), F (xw n)], [F (lS (xw n)).1, F (lS (xw n)).2]].getD i []).getD j .dead] = some (SA (mulS (xw n, xw n) (lS (xw n)))) := k_times (s := (xw n, xw n)) (t := lS (xw n)) (fXL hx).1
  have t3 := fun k a b c d e f p q => k_spring (fAx hE hA hx).1 k a b c d e f p q
  have q1 := decide_eq_true (show (0 : Int) ≤ (ia : Int) by omega)
  have q2 := decide_eq_true (show (0 : Int) ≤ (ib : Int) by omega)
  have q3 := decide_eq_true (show (ia : Int) < (J.n : Int) by omega)
  have q4 := decide_eq_true (show (ib : Int) < (J.n : Int) by omega)
  show gbars_springs_a kjoints_Apart kjoints_Length kbars_one kbars_times kbars_spring kbars_stands kbars_springs_c1 NN J.n jr jg mn mr mg s kd ia ib ha hb (some E) (some A) (some I) = _
  unfold gbars_springs_a
  rw [q1, q2, q3, q4, Int.toNat_natCast, Int.toNat_natCast, a0, a1, a2, a3, b0, b1, b2, b3, fJ, fJ]
  simp only [tS, tI, p1, p2, okIII, okSF, okFF, okSp, okBB, ck_true, gV, tT, tC, hD, tl, tF, tB, o1, hw, t1, t2, t3, k_stands]
  rcases h with ⟨rfl, rfl, rfl⟩ | ⟨rfl, hI⟩
  · rfl
  · cases ha
    · cases hb
      · have u1 : kbars_times [.ro 2 2 2 fun i j => ([[F E, F E], [F I, F I]].getD i []).getD j .dead] = some (SA (mulS (E, E) (I, I))) := k_times (s := (E, E)) (t := (I, I)) (fEA hE hI).1
        have u3 := fun k a b c d e f p q => k_spring (fEnd hE hI hx).1 k a b c d e f p q
        have e2 : ((2 : Int) == 2) = true := rfl
        simp only [e2, cond_true, Bool.not_false, u1, u3, okSp, okFF, ck_true, gV, tC, hD, tl, tF, tI]
        rw [k_bow hE hI hx]
        all_goals rfl
      · have e2 : ((2 : Int) == 2) = true := rfl
        simp only [e2, cond_true, cond_false, Bool.not_false, Bool.not_true]
        rw [k_bow hE hI hx]
        all_goals rfl
    · cases hb
      · have e2 : ((2 : Int) == 2) = true := rfl
        simp only [e2, cond_true, cond_false, Bool.not_false, Bool.not_true]
        rw [k_bow hE hI hx]
        all_goals rfl
      · rfl
end
end Go.Proofs.Tryz
end
section
namespace Go.Proofs.Tryz
open Go Go.Am Ieee.Pos
set_option maxRecDepth 100000

/-! ### What a plan's members tell -/
def dxO (J : JS) (M : MS) (i : Nat) : Int := J.x (M.b i).toNat - J.x (M.a i).toNat
def dyO (J : JS) (M : MS) (i : Nat) : Int := J.y (M.b i).toNat - J.y (M.a i).toNat
def nO (J : JS) (M : MS) (i : Nat) : Int := dxO J M i * dxO J M i + dyO J M i * dyO J M i
/-- The springs of a member. -/
def sprO (J : JS) (M : MS) (i : Nat) (at' : Int) : List (List AV) := (ksOf (M.kd i) (M.ha i) (M.hb i)).map (spr at' (dxO J M i) (dyO J M i) (nO J M i) (M.e i) (M.ar i) (M.iv i) (M.ha i))
def allO (J : JS) (M : MS) : Nat → List (List AV)
  | 0 => []
  | i + 1 => allO J M i ++ sprO J M i i
/-- A member that may be. -/
structure MemF (J : JS) (M : MS) (i : Nat) : Prop where
  a0 : 0 ≤ M.a i
  a1 : M.a i < J.n
  b0 : 0 ≤ M.b i
  b1 : M.b i < J.n
  na : farB (J.x (M.a i).toNat) = false
  nb : farB (J.y (M.a i).toNat) = false
  nc : farB (J.x (M.b i).toNat) = false
  nd : farB (J.y (M.b i).toNat) = false
  hx : In 1023 1066 (xw (nO J M i))
  hE : In 963 1083 (M.e i)
  hA : In 963 1083 (M.ar i)
  hI : (M.kd i = 1 ∧ M.ha i = false ∧ M.hb i = false) ∨ (M.kd i = 2 ∧ In 963 1083 (M.iv i))

theorem ksOf_len (kd : Int) (ha hb : Bool) : (ksOf kd ha hb).length ≤ 3 ∧ 1 ≤ (ksOf kd ha hb).length := by
  unfold ksOf
  cases kd == 1 <;> cases ha <;> cases hb <;> decide
theorem allO_len (J : JS) (M : MS) : ∀ i, (allO J M i).length ≤ 3 * i
  | 0 => Nat.le_refl _
  | i + 1 => by
    have := allO_len J M i
    have h := (ksOf_len (M.kd i) (M.ha i) (M.hb i)).1
    simp only [allO, sprO, List.length_append, List.length_map]
    omega

theorem rows_spr (kd : Int) (ha hb : Bool) (at' dx dy n : Int) (E A I : Nat) (z : List AV) :
    rows 11 ((ksOf kd ha hb).map (spr at' dx dy n E A I ha)).length (fun i j => (((ksOf kd ha hb).map (spr at' dx dy n E A I ha)).getD i z).getD j .dead) = (ksOf kd ha hb).map (spr at' dx dy n E A I ha) := by
  unfold ksOf
  cases kd == 1 <;> cases ha <;> cases hb <;> rfl

theorem sp_l0 (f : Nat) (kx0 : Nat → Nat → Ge → Int → Int → Nat → Nat → Ge → Nat → Nat → Ge → List AV → List (List AV) → ByteArray → Int → Int → Int → Bool → Bool → Option Nat → Option Nat → Option Nat → List AV → List (List AV) → Option AV)
    (c1 c2 : Nat) (c3' : Ge) (c4 c5 : Int) (d1 d2 : Nat) (d3 : Ge) (d4 d5 : Nat) (d6 : Ge) (z1 : List AV) (e1 : List (List AV)) (s : ByteArray) (m1 m2 m3 : Int) (p q : Bool) (o1 o2 o3 : Option Nat) (z : List AV)
    (kd : Int) (ha hb : Bool) (at' dx dy n : Int) (E A I : Nat) :
    gbars_Springs_l0 kbars_Check kbars_springs_a NN kx0 at' c1 c2 c3' c4 c5 ((((ksOf kd ha hb).map (spr 0 dx dy n E A I ha)).length : Nat) : Int) d1 d2 d3 d4 d5 d6 z1 e1 s m1 m2 m3 p q o1 o2 o3 z (f + 4) 0 ((ksOf kd ha hb).map (spr 0 dx dy n E A I ha)) =
      kx0 c1 c2 c3' c4 c5 d1 d2 d3 d4 d5 d6 z1 e1 s m1 m2 m3 p q o1 o2 o3 z ((ksOf kd ha hb).map (spr at' dx dy n E A I ha)) := by
  unfold ksOf
  cases kd == 1 <;> cases ha <;> cases hb <;> rfl

theorem okXl (l : List (List AV)) : okX [RS.one (LK.l 11)] (some (.tup [lAV l])) = true := by simp [okX, fitRs, fitRS, fitK, lAV]

theorem sp_all {J : JS} {M : MS} {jr mr : Nat} {jg g : Ge} (hj : J.Ok jg) (hm : M.Ok g) (hF : ∀ i, i < M.n → MemF J M i) (h48 : M.n ≤ 48) (kx0 : Nat → Nat → Ge → Nat → Nat → Ge → List AV → List (List AV) → Option AV) (z : List AV) :
    ∀ (m q i : Nat), i + m = M.n → gbars_Springs_l1 kbars_Check kbars_springs_a NN kx0 (q + m + 1) M.n mr g M.n i J.n jr jg M.n mr g z (allO J M i) = kx0 J.n jr jg M.n mr g z (allO J M M.n)
  | 0, q, i, h => by
    obtain rfl : i = M.n := by omega
    show gbars_Springs_l1_step kbars_Check kbars_springs_a NN _ kx0 M.n mr g M.n M.n J.n jr jg M.n mr g z _ = _
    unfold gbars_Springs_l1_step
    rw [decide_eq_false (by omega), cond_false]
  | m + 1, q, i, h => by
    have hi : i < M.n := by omega
    have ih := sp_all (mr := mr) (jr := jr) hj hm hF h48 kx0 z m q (i + 1) (by omega)
    obtain ⟨g0, g1, g2, g3, g4, g5, g6, g7, g8⟩ := hm i hi
    obtain ⟨f1, f2, f3', f4, f5, f6, f7, f8, f9, f10, f11, f12⟩ := hF i hi
    have ea : M.a i = ((M.a i).toNat : Int) := by omega
    have eb : M.b i = ((M.b i).toNat : Int) := by omega
    have hs := k_springsA (dx := dxO J M i) (dy := dyO J M i) (n := nO J M i) hj (by omega) (by omega) f5 f6 f7 f8 rfl rfl rfl f9 f10 f11 (jr := jr) (M.nm i) M.n mr g f12
    rw [← ea, ← eb] at hs
    have hlen := allO_len J M i
    have hk := ksOf_len (M.kd i) (M.ha i) (M.hb i)
    show gbars_Springs_l1_step kbars_Check kbars_springs_a NN (gbars_Springs_l1 kbars_Check kbars_springs_a NN kx0 (q + m + 1)) kx0 M.n mr g M.n i J.n jr jg M.n mr g z (allO J M i) = _
    unfold gbars_Springs_l1_step
    rw [decide_eq_true (show (i : Int) < M.n by omega), decide_eq_true (show (0 : Int) ≤ i by omega), Int.toNat_natCast, g0, g1, g2, g3, g4, g5, g6, g7, g8, fitM]
    simp only [toS_str, toI_int, toB_bool, toF_flt, cond_true]
    rw [hs, okXl]
    simp only [ck_true]
    have er := rows_spr (M.kd i) (M.ha i) (M.hb i) 0 (dxO J M i) (dyO J M i) (nO J M i) (M.e i) (M.ar i) (M.iv i) []
    have eN : NN = 1125899906842620 + 4 := by unfold NN; omega
    have el := fun kx0 => sp_l0 1125899906842620 kx0 M.n mr g M.n i J.n jr jg M.n mr g z (allO J M i) (M.nm i) (M.kd i) (M.a i) (M.b i) (M.ha i) (M.hb i) (some (M.e i)) (some (M.ar i)) (some (M.iv i)) [AV.int .i64 (0 : Int), AV.int .u8 (0 : Int), AV.int .i64 (0 : Int), AV.int .i64 (0 : Int), AV.int .i64 (0 : Int), AV.int .i64 (0 : Int), AV.int .i64 (0 : Int), AV.int .i64 (0 : Int), AV.flt .f64 (some (0 : Nat)), AV.flt .f64 (some (0 : Nat)), AV.flt .f64 (some (0 : Nat))] (M.kd i) (M.ha i) (M.hb i) i (dxO J M i) (dyO J M i) (nO J M i) (M.e i) (M.ar i) (M.iv i)
    rw [← eN] at el
    have tG : ∀ (s n r : Nat) (g : Ge), toG (.ro s n r g) = g := fun _ _ _ _ => rfl
    simp only [gV, tT, hD, lAV, tG]
    rw [er]
    refine (el _).trans ?_
    have er2 := rows_spr (M.kd i) (M.ha i) (M.hb i) i (dxO J M i) (dyO J M i) (nO J M i) (M.e i) (M.ar i) (M.iv i) [AV.int .i64 (0 : Int), AV.int .u8 (0 : Int), AV.int .i64 (0 : Int), AV.int .i64 (0 : Int), AV.int .i64 (0 : Int), AV.int .i64 (0 : Int), AV.int .i64 (0 : Int), AV.int .i64 (0 : Int), AV.flt .f64 (some (0 : Nat)), AV.flt .f64 (some (0 : Nat)), AV.flt .f64 (some (0 : Nat))]
    rw [er2, List.length_map, decide_eq_true (show ((allO J M i).length + (ksOf (M.kd i) (M.ha i) (M.hb i)).length) * 88 < 70368744177664 by omega), decide_eq_true (show (allO J M i).length + (ksOf (M.kd i) (M.ha i) (M.hb i)).length < 4611686018427387904 by omega), ck_true, ck_true, wrap_s (by omega)]
    exact ih
end Go.Proofs.Tryz
end
section
namespace Go.Proofs.Tryz
open Go Go.Am Ieee.Pos
set_option maxRecDepth 100000

theorem k_stiff {J : JS} {M : MS} {i : Nat} (h : MemF J M i) {k : Int} (hk : k ∈ ksOf (M.kd i) (M.ha i) (M.hb i)) :
    kref19_stiff [MA (M.nm i) (M.kd i) (M.a i) (M.b i) (M.ha i) (M.hb i) (M.e i) (M.ar i) (M.iv i), .int .i64 (nO J M i), .int .u8 k] =
      some (.tup [SA (stS (M.e i) (M.ar i) (M.iv i) (xw (nO J M i)) k), .flt .f64 (stN (M.e i) (M.ar i) (M.iv i) (xw (nO J M i)) k)]) := by
  rcases h.hI with ⟨h1, h2, h3⟩ | ⟨h1, hI⟩
  · rw [h1, h2, h3] at hk
    have : k ∈ [(1 : Int)] := hk
    simp at this
    subst this
    exact k_stiff1 h.hE rfl h.hx _ _ _ _ _ _ h.hA
  · rw [h1] at hk
    have : k = 1 ∨ k = 4 ∨ k = 2 ∨ k = 3 := by
      unfold ksOf at hk
      cases h2 : M.ha i <;> cases h3 : M.hb i <;> rw [h2, h3] at hk
      · have : k ∈ [(1 : Int), 2, 3] := hk
        simp at this; omega
      · have : k ∈ [(1 : Int), 4] := hk
        simp at this; omega
      · have : k ∈ [(1 : Int), 4] := hk
        simp at this; omega
      · have : k ∈ [(1 : Int)] := hk
        simp at this; omega
    rcases this with rfl | rfl | rfl | rfl
    · exact k_stiff1 h.hE rfl h.hx _ _ _ _ _ _ h.hA
    · exact k_stiff2 h.hE rfl h.hx _ _ _ _ _ _ hI (Or.inr rfl)
    · exact k_stiff2 h.hE rfl h.hx _ _ _ _ _ _ hI (Or.inl rfl)
    · exact k_stiff3 h.hE rfl h.hx _ _ _ _ _ _ hI

theorem k_apart19 {J : JS} {M : MS} {i : Nat} (h : MemF J M i) {jr mr : Nat} {jg g : Ge} (hj : J.Ok jg) :
    kref19_Apart [.agg [.ro 4 J.n jr jg, .ro 9 M.n mr g], MA (M.nm i) (M.kd i) (M.a i) (M.b i) (M.ha i) (M.hb i) (M.e i) (M.ar i) (M.iv i)] = some (.tup [.int .i64 (dxO J M i), .int .i64 (dyO J M i), .int .i64 (nO J M i)]) := by
  obtain ⟨h0, h1, h2, h3, na, nb, nc, nd, -, -, -, -⟩ := h
  obtain ⟨a0, a1, a2, a3⟩ := hj (M.a i).toNat (by omega)
  obtain ⟨b0, b1, b2, b3⟩ := hj (M.b i).toNat (by omega)
  have f1 := far_b na
  have f2 := far_b nb
  have f3 := far_b nc
  have f4 := far_b nd
  have q1 := sq_b (d := dxO J M i) (by unfold dxO; omega)
  have q2 := sq_b (d := dyO J M i) (by unfold dyO; omega)
  show gref19_Apart NN J.n jr jg M.n mr g (M.nm i) (M.kd i) (M.a i) (M.b i) (M.ha i) (M.hb i) (some (M.e i)) (some (M.ar i)) (some (M.iv i)) = _
  unfold gref19_Apart
  have f32 : ∀ n, fitK (LK.i .i32) (.int .i32 n) = true := fun _ => rfl
  rw [decide_eq_true h0, decide_eq_true h1, decide_eq_true h2, decide_eq_true h3, a1, a2, b1, b2, f32, f32, f32, f32]
  simp only [ck_true, tI]
  rw [wrapi (n := J.x (M.a i).toNat) (by omega) (by omega), wrapi (n := J.y (M.a i).toNat) (by omega) (by omega), wrapi (n := J.x (M.b i).toNat) (by omega) (by omega), wrapi (n := J.y (M.b i).toNat) (by omega) (by omega),
    show J.x (M.b i).toNat - J.x (M.a i).toNat = dxO J M i from rfl, show J.y (M.b i).toNat - J.y (M.a i).toNat = dyO J M i from rfl, wrapi (n := dxO J M i) (by unfold dxO; omega) (by unfold dxO; omega), wrapi (n := dyO J M i) (by unfold dyO; omega) (by unfold dyO; omega)]
  unfold nO
  generalize dxO J M i * dxO J M i = p at *
  generalize dyO J M i * dyO J M i = q at *
  rw [wrapi (n := p) (by omega) (by omega), wrapi (n := q) (by omega) (by omega), wrapi (n := p + q) (by omega) (by omega)]

theorem okR6 (dx dy n k : Int) (b : Bool) : okM [RS.agg [LK.i .i64, LK.i .i64, LK.i .i64, LK.i .i64, LK.i .i64, LK.i .i64]] (some (.agg (r6 dx dy n k b))) = true := by
  unfold r6
  cases k == 1 <;> cases k == 2 <;> cases k == 3 <;> cases b <;> rfl
theorem r6_eta (dx dy n k : Int) (b : Bool) :
    [AV.int .i64 (toI ((r6 dx dy n k b).headD .dead)), AV.int .i64 (toI ((r6 dx dy n k b).tail.headD .dead)), AV.int .i64 (toI ((r6 dx dy n k b).tail.tail.headD .dead)), AV.int .i64 (toI ((r6 dx dy n k b).tail.tail.tail.headD .dead)), AV.int .i64 (toI ((r6 dx dy n k b).tail.tail.tail.tail.headD .dead)), AV.int .i64 (toI ((r6 dx dy n k b).tail.tail.tail.tail.tail.headD .dead))] = r6 dx dy n k b := by
  unfold r6
  cases k == 1 <;> cases k == 2 <;> cases k == 3 <;> cases b <;> rfl
theorem spr_eta (at' dx dy n : Int) (E A I : Nat) (b : Bool) (k : Int) :
    [AV.int .i64 at', .int .u8 k, AV.int .i64 (toI ((r6 dx dy n k b).headD .dead)), AV.int .i64 (toI ((r6 dx dy n k b).tail.headD .dead)), AV.int .i64 (toI ((r6 dx dy n k b).tail.tail.headD .dead)), AV.int .i64 (toI ((r6 dx dy n k b).tail.tail.tail.headD .dead)), AV.int .i64 (toI ((r6 dx dy n k b).tail.tail.tail.tail.headD .dead)), AV.int .i64 (toI ((r6 dx dy n k b).tail.tail.tail.tail.tail.headD .dead)),
      F (stS E A I (xw n) k).1, F (stS E A I (xw n) k).2, .flt .f64 (stN E A I (xw n) k)] = spr at' dx dy n E A I b k := by
  unfold spr
  rw [← r6_eta]
  rfl

theorem kAV_get (l : List Int) {j : Nat} (h : j < l.length) : (((l.map fun k => [AV.int .u8 k]).getD j [.int .u8 0]).getD 0 .dead) = .int .u8 (l[j]'h) := by
  simp [List.getD, h]
theorem take_next {α : Type} (l : List α) {j : Nat} (h : j < l.length) : l.take j ++ [l[j]'h] = l.take (j + 1) := by
  rw [List.take_add_one]
  simp [h]

theorem rf_l0 {J : JS} {M : MS} {i : Nat} (hM : MemF J M i)
    (kx0 : Int → Nat → Nat → Ge → Nat → Nat → Ge → List AV → List (List AV) → ByteArray → Int → Int → Int → Bool → Bool → Option Nat → Option Nat → Option Nat → Option AV)
    (d1 d2 : Nat) (d3 : Ge) (d4 d5 : Nat) (d6 : Ge) (z1 : List AV) (acc : List (List AV)) (hacc : acc.length ≤ 1000) (gk : Ge) (hgk : ∀ (j : Nat) (h : j < (ksOf (M.kd i) (M.ha i) (M.hb i)).length), gk j 0 = AV.int .u8 ((ksOf (M.kd i) (M.ha i) (M.hb i))[j]'h)) :
    ∀ (m q j : Nat), j + m = (ksOf (M.kd i) (M.ha i) (M.hb i)).length → gref19_Springs_l0 kref19_Check kref19_Apart kref19_kinds kref19_stiff kref19_row NN kx0 i (dxO J M i) (dyO J M i) (nO J M i) (ksOf (M.kd i) (M.ha i) (M.hb i)).length (ksOf (M.kd i) (M.ha i) (M.hb i)).length
        gk d1 d2 d3 d4 d5 d6 z1 (M.nm i) (M.kd i) (M.a i) (M.b i) (M.ha i) (M.hb i) (some (M.e i)) (some (M.ar i)) (some (M.iv i)) (q + m + 1) j (acc ++ ((ksOf (M.kd i) (M.ha i) (M.hb i)).take j).map (spr i (dxO J M i) (dyO J M i) (nO J M i) (M.e i) (M.ar i) (M.iv i) (M.ha i))) =
      kx0 i d1 d2 d3 d4 d5 d6 z1 (acc ++ sprO J M i i) (M.nm i) (M.kd i) (M.a i) (M.b i) (M.ha i) (M.hb i) (some (M.e i)) (some (M.ar i)) (some (M.iv i))
  | 0, q, j, h => by
    obtain rfl : j = (ksOf (M.kd i) (M.ha i) (M.hb i)).length := by omega
    show gref19_Springs_l0_step kref19_Check kref19_Apart kref19_kinds kref19_stiff kref19_row NN _ kx0 i (dxO J M i) (dyO J M i) (nO J M i) (ksOf (M.kd i) (M.ha i) (M.hb i)).length _ _ d1 d2 d3 d4 d5 d6 z1 (M.nm i) (M.kd i) (M.a i) (M.b i) (M.ha i) (M.hb i) _ _ _ (ksOf (M.kd i) (M.ha i) (M.hb i)).length _ = _
    unfold gref19_Springs_l0_step
    rw [decide_eq_false (by omega), cond_false, List.take_length]
    rfl
  | m + 1, q, j, h => by
    have hjl : j < (ksOf (M.kd i) (M.ha i) (M.hb i)).length := by omega
    have ih := rf_l0 hM kx0 d1 d2 d3 d4 d5 d6 z1 acc hacc gk hgk m q (j + 1) (by omega)
    have hk := ksOf_len (M.kd i) (M.ha i) (M.hb i)
    have hst := k_stiff hM (List.getElem_mem hjl)
    have hg := hgk j hjl
    have ht := take_next _ hjl
    have f8 : ∀ n, fitK (LK.i .u8) (.int .u8 n) = true := fun _ => rfl
    show gref19_Springs_l0_step kref19_Check kref19_Apart kref19_kinds kref19_stiff kref19_row NN (gref19_Springs_l0 kref19_Check kref19_Apart kref19_kinds kref19_stiff kref19_row NN kx0 i (dxO J M i) (dyO J M i) (nO J M i) (ksOf (M.kd i) (M.ha i) (M.hb i)).length _ _ d1 d2 d3 d4 d5 d6 z1 (M.nm i) (M.kd i) (M.a i) (M.b i) (M.ha i) (M.hb i) _ _ _ (q + m + 1)) kx0 i (dxO J M i) (dyO J M i) (nO J M i) (ksOf (M.kd i) (M.ha i) (M.hb i)).length _ _ d1 d2 d3 d4 d5 d6 z1 (M.nm i) (M.kd i) (M.a i) (M.b i) (M.ha i) (M.hb i) _ _ _ j _ = _
    unfold gref19_Springs_l0_step
    rw [decide_eq_true (show (j : Int) < ((ksOf (M.kd i) (M.ha i) (M.hb i)).length : Nat) by omega), decide_eq_true (show (0 : Int) ≤ j by omega), Int.toNat_natCast, hg, f8, wrap_s (by omega)]
    simp only [ck_true, cond_true, tI, hst, okSF, k_row, okR6, gV, tT, tC, hD, tl, tF]
    have hl : (acc ++ ((ksOf (M.kd i) (M.ha i) (M.hb i)).take j).map (spr i (dxO J M i) (dyO J M i) (nO J M i) (M.e i) (M.ar i) (M.iv i) (M.ha i))).length ≤ 1000 + 3 := by
      rw [List.length_append, List.length_map, List.length_take]
      omega
    rw [decide_eq_true (show ((acc ++ ((ksOf (M.kd i) (M.ha i) (M.hb i)).take j).map (spr i (dxO J M i) (dyO J M i) (nO J M i) (M.e i) (M.ar i) (M.iv i) (M.ha i))).length + 1) * 88 < 70368744177664 by omega),
      decide_eq_true (show (acc ++ ((ksOf (M.kd i) (M.ha i) (M.hb i)).take j).map (spr i (dxO J M i) (dyO J M i) (nO J M i) (M.e i) (M.ar i) (M.iv i) (M.ha i))).length + 1 < 4611686018427387904 by omega), ck_true, ck_true, spr_eta, List.append_assoc]
    rw [← ht, List.map_append] at ih
    exact ih

theorem okKl (l : List Int) : okM [RS.one (LK.l 1)] (some (kAV l)) = true := by simp [okM, fitRS, fitK, kAV]
theorem rf_all {J : JS} {M : MS} {jr mr : Nat} {jg g : Ge} (hj : J.Ok jg) (hm : M.Ok g) (hF : ∀ i, i < M.n → MemF J M i) (h48 : M.n ≤ 48) (kx0 : Nat → Nat → Ge → Nat → Nat → Ge → List AV → List (List AV) → Option AV) (z : List AV) :
    ∀ (m q i : Nat), i + m = M.n → gref19_Springs_l1 kref19_Check kref19_Apart kref19_kinds kref19_stiff kref19_row NN kx0 (q + m + 1) i J.n jr jg M.n mr g z (allO J M i) = kx0 J.n jr jg M.n mr g z (allO J M M.n)
  | 0, q, i, h => by
    obtain rfl : i = M.n := by omega
    show gref19_Springs_l1_step kref19_Check kref19_Apart kref19_kinds kref19_stiff kref19_row NN _ kx0 M.n J.n jr jg M.n mr g z _ = _
    unfold gref19_Springs_l1_step
    rw [decide_eq_false (by omega), cond_false]
  | m + 1, q, i, h => by
    have hi : i < M.n := by omega
    have ih := rf_all (mr := mr) (jr := jr) hj hm hF h48 kx0 z m q (i + 1) (by omega)
    obtain ⟨g0, g1, g2, g3, g4, g5, g6, g7, g8⟩ := hm i hi
    have hMi := hF i hi
    have hap := k_apart19 hMi (jr := jr) (mr := mr) (g := g) hj
    have hki := k_kinds (M.nm i) (M.kd i) (M.a i) (M.b i) (M.ha i) (M.hb i) (M.e i) (M.ar i) (M.iv i)
    have hlen := allO_len J M i
    have hk := ksOf_len (M.kd i) (M.ha i) (M.hb i)
    show gref19_Springs_l1_step kref19_Check kref19_Apart kref19_kinds kref19_stiff kref19_row NN (gref19_Springs_l1 kref19_Check kref19_Apart kref19_kinds kref19_stiff kref19_row NN kx0 (q + m + 1)) kx0 i J.n jr jg M.n mr g z (allO J M i) = _
    unfold gref19_Springs_l1_step
    rw [decide_eq_true (show (i : Int) < M.n by omega), decide_eq_true (show (0 : Int) ≤ i by omega), Int.toNat_natCast, g0, g1, g2, g3, g4, g5, g6, g7, g8, fitM]
    simp only [toS_str, toI_int, toB_bool, toF_flt, cond_true]
    rw [hap, hki, okIII, okKl]
    have tG : ∀ (s n r : Nat) (g : Ge), toG (.ro s n r g) = g := fun _ _ _ _ => rfl
    have tN : ∀ (s n r : Nat) (g : Ge), toN (.ro s n r g) = n := fun _ _ _ _ => rfl
    have tR : ∀ (s n r : Nat) (g : Ge), toR (.ro s n r g) = r := fun _ _ _ _ => rfl
    simp only [ck_true, gV, tT, hD, tl, tI, kAV, tG, tN, tR]
    have el := fun kx0 => rf_l0 hMi kx0 J.n jr jg M.n mr g z (allO J M i) (by omega) (fun i' j => (((ksOf (M.kd i) (M.ha i) (M.hb i)).map fun k => [AV.int .u8 k]).getD i' [.int .u8 0]).getD j .dead) (fun j h => kAV_get _ h) (ksOf (M.kd i) (M.ha i) (M.hb i)).length (NN - (ksOf (M.kd i) (M.ha i) (M.hb i)).length - 1) 0 (by omega)
    rw [show NN - (ksOf (M.kd i) (M.ha i) (M.hb i)).length - 1 + (ksOf (M.kd i) (M.ha i) (M.hb i)).length + 1 = NN by unfold NN; omega] at el
    simp only [List.take_zero, List.map_nil, List.append_nil] at el
    refine (el _).trans ?_
    rw [wrap_s (by omega)]
    exact ih
end Go.Proofs.Tryz
end
section
namespace Go.Proofs.Tryz
open Go Go.Am Ieee.Pos
set_option maxRecDepth 100000

theorem fm_in {l1 h1 l2 h2 lo hi a b : Nat} (ha : In l1 h1 a) (hb : In l2 h2 b) (hl : lo + 1023 ≤ l1 + l2) (hh : h1 + h2 ≤ hi + 1021) (c1 : 200 ≤ l1) (c2 : h1 ≤ 1900) (c3 : 200 ≤ l2) (c4 : h2 ≤ 1900) (c5 : 200 ≤ lo) (c6 : hi ≤ 1900) : ∃ p, fm (some a) (some b) = some p ∧ In lo hi p := by
  obtain ⟨na, a1, a2⟩ := ha
  obtain ⟨nb, b1, b2⟩ := hb
  obtain ⟨p, e, np, p1, p2⟩ := mul_ex na nb (by omega) (by omega)
  exact ⟨p, e, np, by omega, by omega⟩
theorem fq_in {l1 h1 l2 h2 a b : Nat} (ha : In l1 h1 a) (hb : In l2 h2 b) (c1 : 600 ≤ l1) (c2 : h1 ≤ 1500) (c3 : 600 ≤ l2) (c4 : h2 ≤ 1500) : ∃ p, fq (some a) (some b) = some p := by
  obtain ⟨na, a1, a2⟩ := ha
  obtain ⟨nb, b1, b2⟩ := hb
  obtain ⟨p, e, np, p1, p2⟩ := div_ex na nb (by omega) (by omega)
  exact ⟨p, e⟩
theorem stN_some {J : JS} {M : MS} {i : Nat} (h : MemF J M i) {k : Int} (hk : k ∈ ksOf (M.kd i) (M.ha i) (M.hb i)) : ∃ p, stN (M.e i) (M.ar i) (M.iv i) (xw (nO J M i)) k = some p := by
  have hl := (root_all h.hx w0).2.2
  have hx := h.hx
  have hE := h.hE
  have hA := h.hA
  have h1 : ∃ p, fq (fm (some (M.e i)) (some (M.ar i))) (fm (some (xw (nO J M i))) (some (lN (xw (nO J M i))))) = some p := by
    obtain ⟨p, e1, i1⟩ := fm_in (lo := 903) (hi := 1145) hE hA (by omega) (by omega) (by omega) (by omega) (by omega) (by omega) (by omega) (by omega)
    obtain ⟨q, e2, i2⟩ := fm_in (lo := 1022) (hi := 1091) hx hl (by omega) (by omega) (by omega) (by omega) (by omega) (by omega) (by omega) (by omega)
    show ∃ p, fq _ (fm _ (some (rootV 0 (xw (nO J M i))))) = some p
    rw [e1, e2]
    exact fq_in i1 i2 (by omega) (by omega) (by omega) (by omega)
  have hk1 : k = 1 ∨ In 963 1083 (M.iv i) := by
    rcases h.hI with ⟨a1, a2, a3⟩ | ⟨a1, hI⟩
    · rw [a1, a2, a3] at hk
      have : k ∈ [(1 : Int)] := hk
      simp at this
      exact Or.inl this
    · exact Or.inr hI
  rcases hk1 with rfl | hI
  · exact h1
  · obtain ⟨p, e1, i1⟩ := fm_in (lo := 903) (hi := 1145) hE hI (by omega) (by omega) (by omega) (by omega) (by omega) (by omega) (by omega) (by omega)
    unfold stN
    cases k == 1
    · cases k == 3
      · obtain ⟨p2, e2, i2⟩ := fm_in (lo := 904) (hi := 1148) c3_in i1 (by omega) (by omega) (by omega) (by omega) (by omega) (by omega) (by omega) (by omega)
        obtain ⟨q, e3, i3⟩ := fm_in (lo := 1023) (hi := 1111) hx hx (by omega) (by omega) (by omega) (by omega) (by omega) (by omega) (by omega) (by omega)
        obtain ⟨q2, e4, i4⟩ := fm_in (lo := 1022) (hi := 1136) i3 hl (by omega) (by omega) (by omega) (by omega) (by omega) (by omega) (by omega) (by omega)
        show ∃ p, fq (fm _ _) (fm _ (some (rootV 0 (xw (nO J M i))))) = some p
        rw [e1, e2, e3, e4]
        exact fq_in i2 i4 (by omega) (by omega) (by omega) (by omega)
      · show ∃ p, fq (fm _ _) (some (rootV 0 (xw (nO J M i)))) = some p
        rw [e1]
        exact fq_in i1 hl (by omega) (by omega) (by omega) (by omega)
    · exact h1

/-- The shape of a spring's row. -/
def SprRow (l : List AV) : Prop := ∃ a b c d e f g h : Int, ∃ p q r : Nat, l = [.int .i64 a, .int .u8 b, .int .i64 c, .int .i64 d, .int .i64 e, .int .i64 f, .int .i64 g, .int .i64 h, F p, F q, F r]
theorem spr_row {J : JS} {M : MS} {i : Nat} (h : MemF J M i) {k : Int} (hk : k ∈ ksOf (M.kd i) (M.ha i) (M.hb i)) (at' dx dy : Int) (back : Bool) : SprRow (spr at' dx dy (nO J M i) (M.e i) (M.ar i) (M.iv i) back k) := by
  obtain ⟨p, e⟩ := stN_some h hk
  unfold spr
  rw [e, ← r6_eta]
  exact ⟨_, _, _, _, _, _, _, _, _, _, _, rfl⟩
theorem all_row {J : JS} {M : MS} (hF : ∀ i, i < M.n → MemF J M i) : ∀ (n : Nat), n ≤ M.n → ∀ l ∈ allO J M n, SprRow l
  | 0, _, l, hl => by cases hl
  | n + 1, hn, l, hl => by
    simp only [allO, List.mem_append, sprO, List.mem_map] at hl
    rcases hl with hl | ⟨k, hk, rfl⟩
    · exact all_row hF n (by omega) l hl
    · exact spr_row (hF n (by omega)) hk _ _ _ _

theorem same_float (x : Nat) : kkit_SameFloat [F x, F x] = some (.bool true) := by
  show gkit_SameFloat NN (some x) (some x) = _
  unfold gkit_SameFloat
  rw [okBits, ck_true, ck_true, beq_self_eq_true]
  rfl
theorem same_span (x y : Nat) : kkit_SameSpan [.agg [F x, F y], .agg [F x, F y]] = some (.bool true) := by
  show gkit_SameSpan kkit_SameFloat NN (some x) (some y) (some x) (some y) = _
  unfold gkit_SameSpan
  rw [same_float, same_float]
  rfl
theorem same_spring (a b c d e f g h : Int) (p q r : Nat) : kkit_SameSpring [.agg [.int .i64 a, .int .u8 b, .int .i64 c, .int .i64 d, .int .i64 e, .int .i64 f, .int .i64 g, .int .i64 h, F p, F q, F r], .agg [.int .i64 a, .int .u8 b, .int .i64 c, .int .i64 d, .int .i64 e, .int .i64 f, .int .i64 g, .int .i64 h, F p, F q, F r]] = some (.bool true) := by
  show gkit_SameSpring kkit_SameSpan kkit_SameFloat NN a b c d e f g h (some p) (some q) (some r) a b c d e f g h (some p) (some q) (some r) = _
  unfold gkit_SameSpring
  simp only [beq_self_eq_true, same_span, same_float]
  rfl
def RowG (n : Nat) (g : Ge) : Prop := ∀ i, i < n → ∃ a b c d e f u h : Int, ∃ p q r : Nat, g i 0 = .int .i64 a ∧ g i 1 = .int .u8 b ∧ g i 2 = .int .i64 c ∧ g i 3 = .int .i64 d ∧ g i 4 = .int .i64 e ∧ g i 5 = .int .i64 f ∧ g i 6 = .int .i64 u ∧ g i 7 = .int .i64 h ∧ g i 8 = F p ∧ g i 9 = F q ∧ g i 10 = F r
theorem fitSp (a b c d e f g h : Int) (o p q : Option Nat) : fitKs [LK.i .i64, LK.i .u8, LK.i .i64, LK.i .i64, LK.i .i64, LK.i .i64, LK.i .i64, LK.i .i64, LK.f .f64, LK.f .f64, LK.f .f64] [.int .i64 a, .int .u8 b, .int .i64 c, .int .i64 d, .int .i64 e, .int .i64 f, .int .i64 g, .int .i64 h, .flt .f64 o, .flt .f64 p, .flt .f64 q] = true := rfl
theorem same_all {n : Nat} {g : Ge} (hn : n < 1000000) (hg : RowG n g) (r1 r2 : Nat) (kx0 : Bool → Option AV) (kx1 : Option AV) :
    ∀ (m q i : Nat), i + m = n → gkit_SameSprings_l0 kkit_SameSpring NN kx0 kx1 n r1 g n r2 g (q + m + 1) i = kx1
  | 0, q, i, h => by
    obtain rfl : i = n := by omega
    show gkit_SameSprings_l0_step kkit_SameSpring NN _ kx0 kx1 i r1 g i r2 g i = _
    unfold gkit_SameSprings_l0_step
    rw [decide_eq_false (by omega), cond_false]
  | m + 1, q, i, h => by
    have ih := same_all hn hg r1 r2 kx0 kx1 m q (i + 1) (by omega)
    obtain ⟨a, b, c, d, e, f, u, v, p, q', r, g0, g1, g2, g3, g4, g5, g6, g7, g8, g9, g10⟩ := hg i (by omega)
    show gkit_SameSprings_l0_step kkit_SameSpring NN (gkit_SameSprings_l0 kkit_SameSpring NN kx0 kx1 n r1 g n r2 g (q + m + 1)) kx0 kx1 n r1 g n r2 g i = _
    unfold gkit_SameSprings_l0_step
    rw [decide_eq_true (show (i : Int) < n by omega), decide_eq_true (show (0 : Int) ≤ i by omega), Int.toNat_natCast, g0, g1, g2, g3, g4, g5, g6, g7, g8, g9, g10, fitSp, wrap_s (by omega), ih]
    simp only [tI, tF, same_spring, okQ, ck_true, gV, tB, cond_true, Bool.not_true, cond_false]
theorem same_springs {n : Nat} {g : Ge} (hn : n < 1000000) (hg : RowG n g) (r1 r2 : Nat) : kkit_SameSprings [.ro 11 n r1 g, .ro 11 n r2 g] = some (.bool true) := by
  show gkit_SameSprings kkit_SameSpring NN n r1 g n r2 g = _
  unfold gkit_SameSprings
  rw [bne_self_eq_false, cond_false]
  have e := same_all hn hg r1 r2 (fun b => some (AV.bool b)) (some (AV.bool true)) n (NN - n - 1) 0 (by omega)
  rw [show NN - n - 1 + n + 1 = NN by unfold NN; omega] at e
  exact e
theorem row_g {l : List (List AV)} (h : ∀ x ∈ l, SprRow x) (z : List AV) : RowG l.length fun i j => (l.getD i z).getD j .dead := by
  intro i hi
  obtain ⟨a, b, c, d, e, f, u, v, p, q, r, hr⟩ := h (l[i]'hi) (List.getElem_mem hi)
  have hd : l.getD i z = l[i]'hi := by simp [List.getD, hi]
  refine ⟨a, b, c, d, e, f, u, v, p, q, r, ?_⟩
  simp only [hd, hr]
  exact ⟨rfl, rfl, rfl, rfl, rfl, rfl, rfl, rfl, rfl, rfl, rfl⟩

theorem anyLt_false {p : Nat → Bool} : ∀ {n : Nat}, anyLt p n = false → ∀ k, k < n → p k = false
  | 0, _, k, hk => by omega
  | n + 1, h, k, hk => by
    simp only [anyLt, Bool.or_eq_false_iff] at h
    by_cases e : k = n
    · subst e; exact h.2
    · exact anyLt_false h.1 k (by omega)
theorem sq_pos {d : Int} (h : d ≠ 0) : 1 ≤ d * d := by
  have h1 := sq_nn d
  have h2 : d * d ≠ 0 := fun e => h (by rcases Int.mul_eq_zero.1 e with e | e <;> exact e)
  omega
/-- Every member of a plan that may be is one that may be. -/
theorem planCheck_mem {J : JS} {M : MS} (h : ((planCheck J M).1 != 0) = false) (he : ∀ i, i < M.n → M.e i < 18446744073709551616) (har : ∀ i, i < M.n → M.ar i < 18446744073709551616) (hiv : ∀ i, i < M.n → M.iv i < 18446744073709551616) :
    M.n ≤ 48 ∧ ∀ i, i < M.n → MemF J M i := by
  unfold planCheck at h
  cases hc : J.check.1 != 0
  case true => rw [hc] at h; simp only [cond_true] at h; rw [hc] at h; cases h
  rw [hc] at h
  simp only [cond_false] at h
  by_cases h48 : M.n > 48
  · rw [decide_eq_true h48] at h; cases h
  rw [decide_eq_false h48] at h
  simp only [cond_false] at h
  have hm : first (fun i => !M.may J.n i) M.n 0 = none := by
    cases hf : first (fun i => !M.may J.n i) M.n 0 with
    | none => rfl
    | some i => rw [hf] at h; cases h
  unfold JS.check at hc
  by_cases h16 : J.n > 16
  · rw [decide_eq_true h16] at hc; cases hc
  rw [decide_eq_false h16] at hc
  simp only [cond_false] at hc
  have hj : first J.bad J.n 0 = none := by
    cases hf : first J.bad J.n 0 with
    | none => rfl
    | some i => rw [hf] at hc; cases hc
  refine ⟨by omega, fun k hk => ?_⟩
  have hjb : ∀ i, i < J.n → (∀ l, l < i → (J.x i == J.x l && J.y i == J.y l) = false) ∧ farB (J.x i) = false ∧ farB (J.y i) = false := fun i hi => by
    have := first_none hj i (by omega) (by omega)
    unfold JS.bad at this
    simp only [Bool.or_eq_false_iff] at this
    exact ⟨anyLt_false this.1.1.1.2, this.1.2.1, this.1.2.2⟩
  have := first_none hm k (by omega) (by omega)
  simp only [Bool.not_eq_false'] at this
  unfold MS.may at this
  cases ha : anyFrom (fun k_1 => strEq (M.nm k_1) (M.nm k)) k 0 <;> rw [ha] at this
  case true => cases this
  cases hcore : M.core J.n k <;> rw [hcore] at this
  · cases this
  simp only [cond_true, cond_false] at this
  unfold MS.core at hcore
  cases hn : nameB (M.nm k) <;> rw [hn] at hcore
  · cases hcore
  simp only [cond_true] at hcore
  by_cases a0 : M.a k < 0
  · rw [decide_eq_true a0] at hcore; cases hcore
  rw [decide_eq_false a0] at hcore
  simp only [cond_false] at hcore
  by_cases a1 : M.a k ≥ (J.n : Int)
  · rw [decide_eq_true a1] at hcore; cases hcore
  rw [decide_eq_false a1] at hcore
  simp only [cond_false] at hcore
  by_cases b0 : M.b k < 0
  · rw [decide_eq_true b0] at hcore; cases hcore
  rw [decide_eq_false b0] at hcore
  simp only [cond_false] at hcore
  by_cases b1 : M.b k ≥ (J.n : Int)
  · rw [decide_eq_true b1] at hcore; cases hcore
  rw [decide_eq_false b1] at hcore
  simp only [cond_false] at hcore
  cases hab : M.a k == M.b k <;> rw [hab] at hcore
  case true => cases hcore
  simp only [cond_false] at hcore
  cases hE : numB (some (M.e k)) <;> rw [hE] at hcore
  · cases hcore
  simp only [cond_true] at hcore
  have hne : M.a k ≠ M.b k := by simpa using hab
  obtain ⟨d1, n1, n2⟩ := hjb (M.a k).toNat (by omega)
  obtain ⟨d2, n3, n4⟩ := hjb (M.b k).toNat (by omega)
  have f1 := far_b n1
  have f2 := far_b n2
  have f3 := far_b n3
  have f4 := far_b n4
  have hdiff : dxO J M k ≠ 0 ∨ dyO J M k ≠ 0 := by
    by_cases hx : dxO J M k = 0
    · by_cases hy : dyO J M k = 0
      · exfalso
        unfold dxO at hx
        unfold dyO at hy
        rcases Nat.lt_trichotomy (M.a k).toNat (M.b k).toNat with hl | hl | hl
        · have := d2 _ hl
          rw [show J.x (M.b k).toNat = J.x (M.a k).toNat by omega, show J.y (M.b k).toNat = J.y (M.a k).toNat by omega, beq_self_eq_true, beq_self_eq_true] at this
          cases this
        · omega
        · have := d1 _ hl
          rw [show J.x (M.b k).toNat = J.x (M.a k).toNat by omega, show J.y (M.b k).toNat = J.y (M.a k).toNat by omega, beq_self_eq_true, beq_self_eq_true] at this
          cases this
      · exact Or.inr hy
    · exact Or.inl hx
  have q1 := sq_b (d := dxO J M k) (by unfold dxO; omega)
  have q2 := sq_b (d := dyO J M k) (by unfold dyO; omega)
  have hx : In 1023 1066 (xw (nO J M k)) := xw_in (by
    unfold nO
    rcases hdiff with hd | hd
    · have := sq_pos hd; omega
    · have := sq_pos hd; omega) (by unfold nO; omega)
  refine ⟨by omega, by omega, by omega, by omega, n1, n2, n3, n4, hx, num_in (he k hk) hE, num_in (har k hk) hcore, ?_⟩
  cases k1 : M.kd k == 1 <;> rw [k1] at this
  · simp only [cond_false] at this
    cases k2 : M.kd k == 2 <;> rw [k2] at this
    · cases this
    · exact Or.inr ⟨by simpa using k2, num_in (hiv k hk) this⟩
  · simp only [cond_true] at this
    cases k2 : M.ha k <;> rw [k2] at this
    · cases k3 : M.hb k <;> rw [k3] at this
      · exact Or.inl ⟨by simpa using k1, rfl, rfl⟩
      · cases this
    · cases this
end Go.Proofs.Tryz
end
section
namespace Go.Proofs.Tryz
open Go Go.Am
set_option maxRecDepth 1000000
theorem awake9 : klaw19_awake [] = some (.bool true) := by kernel_rfl
end Go.Proofs.Tryz
end
section
namespace Go.Proofs.Tryz
open Go Go.Am Ieee.Pos
set_option maxRecDepth 100000

/-- The marks' texts. -/
noncomputable def mkS (k : Int) : ByteArray := toS (getV (kkit_markText [.int .i64 1, .int .i64 k]))
theorem kText_sp (k : Int) : kkit_markText [.int .i64 1, .int .i64 k] = some (.str (mkS k)) := by
  have : ∃ s, kkit_markText [.int .i64 1, .int .i64 k] = some (.str s) := ⟨_, rfl⟩
  obtain ⟨s, hs⟩ := this
  unfold mkS
  rw [hs]; rfl
theorem kJoint_sp (k : Int) : kkit_markJoint [.int .i64 1, .int .i64 k] = some (.agg [.str (mkS k), .int .i32 0, .int .i32 0, .int .u8 0]) := by
  show gkit_markJoint kkit_markText NN 1 k = _
  unfold gkit_markJoint
  rw [kText_sp]
  rfl
theorem kMember_sp (k : Int) : kkit_markMember [.int .i64 1, .int .i64 k] = some (.agg (mM (mkS k))) := by
  show gkit_markMember kkit_markText NN 1 k = _
  unfold gkit_markMember
  rw [kText_sp]
  rfl

def BS : Nat := 140737488355328
theorem spJn : Sp28 kjoints_named BS := ⟨fun s h => name28 NN s (by unfold BS at h; unfold NN; omega)⟩
theorem spNear : Sp29 kjoints_near := ⟨fun r a b g h0 h1 => by
  show gjoints_near NN 2 r g = _
  have e : NN = 1125899906842621 + 3 := by unfold NN; omega
  rw [e]
  exact near_spec _ r a b g h0 h1⟩
theorem spBn : Sp28 kbars_named BS := ⟨fun s h => name30 NN s (by unfold BS at h; unfold NN; omega) (by unfold BS at h; omega)⟩
theorem sp18 : Sp28 kref18_Name BS := ⟨fun s h => name43 NN s (by unfold BS at h; unfold NN; omega) (by unfold BS at h; omega)⟩
theorem sp19 : Sp28 kref19_Named BS := ⟨fun s h => name34 NN s (by unfold BS at h; unfold NN; omega) (by unfold BS at h; omega)⟩
theorem spNum : SpN kbars_number := ⟨fun _ => rfl⟩
theorem spNum19 : SpN kref19_Number := ⟨fun _ => rfl⟩
theorem spSign (b : Nat) : kmath_Signbit [.flt .f64 (some b)] = some (.bool (decide (IntKind.i64.wrap ((b : Nat) : Int) < 0))) := rfl
theorem spMay (s : ByteArray) (x y fx : Int) (h : s.size ≤ BS) : kref18_May [.agg [.str s, .int .i32 x, .int .i32 y, .int .u8 fx]] = some (.bool (mayJ s x y fx)) := may33 sp18 (near44 NN) NN s x y fx h
theorem spMem (s : ByteArray) (kd a b : Int) (ha hb : Bool) (x y z : Nat) : kkit_SameMember [.agg [.str s, .int .u8 kd, .int .i64 a, .int .i64 b, .bool ha, .bool hb, .flt .f64 (some x), .flt .f64 (some y), .flt .f64 (some z)], .agg [.str s, .int .u8 kd, .int .i64 a, .int .i64 b, .bool ha, .bool hb, .flt .f64 (some x), .flt .f64 (some y), .flt .f64 (some z)]] = some (.bool true) :=
  member40 (fun b => float45 NN b) NN s kd a b ha hb x y z

/-- A plan within the form's reach. -/
structure Fine (J : JS) (M : MS) : Prop where
  jn : J.n < 4398046511200
  mn : M.n < 3000000000000
  js : ∀ i, i < J.n → (J.nm i).size ≤ BS
  ms : ∀ i, i < M.n → (M.nm i).size ≤ BS
  fx : ∀ i, i < J.n → 0 ≤ J.fx i
  e : ∀ i, i < M.n → M.e i < 18446744073709551616
  ar : ∀ i, i < M.n → M.ar i < 18446744073709551616
  iv : ∀ i, i < M.n → M.iv i < 18446744073709551616

def zSp : List AV := [AV.int .i64 (0 : Int), AV.int .u8 (0 : Int), AV.int .i64 (0 : Int), AV.int .i64 (0 : Int), AV.int .i64 (0 : Int), AV.int .i64 (0 : Int), AV.int .i64 (0 : Int), AV.int .i64 (0 : Int), AV.flt .f64 (some (0 : Nat)), AV.flt .f64 (some (0 : Nat)), AV.flt .f64 (some (0 : Nat))]
/-- What 'Springs' answers. -/
def sprAV (J : JS) (M : MS) : AV := bif (planCheck J M).1 != 0 then .tup [.ro 11 0 0 fun _ j => zSp.getD j .dead, .int .i64 (planCheck J M).1]
  else .tup [.ro 11 (allO J M M.n).length (allO J M M.n).length fun i j => ((allO J M M.n).getD i zSp).getD j .dead, .int .i64 0]

theorem okLl (n r : Nat) (g : Ge) (e : Int) : okM [RS.one (LK.l 11), RS.one (LK.i .i64)] (some (.tup [.ro 11 n r g, .int .i64 e])) = true := by simp [okM, fitRs, fitRS, fitK]
theorem okLL (n r : Nat) (g : Ge) (n' r' : Nat) (g' : Ge) : okM [RS.agg [LK.l 4, LK.l 9]] (some (.agg [.ro 4 n r g, .ro 9 n' r' g'])) = true := rfl
theorem tG (s n r : Nat) (g : Ge) : toG (.ro s n r g) = g := rfl
theorem tN (s n r : Nat) (g : Ge) : toN (.ro s n r g) = n := rfl
theorem tR (s n r : Nat) (g : Ge) : toR (.ro s n r g) = r := rfl

section
variable {J : JS} {M : MS} (H : Fine J M)
include H
theorem spCheck (jr r : Nat) (hr : M.n ≤ r) (jg g : Nat → Nat → AV) (hj : J.Ok jg) (hm : M.Ok g) : kbars_Check [.agg [.ro 4 J.n jr jg, .ro 9 M.n r g]] = some (pair (planCheck J M)) := by
  have h1 := H.jn
  have h2 := H.mn
  refine check5 (M14 := kjoints_Check) (M15 := kbars_may) J M jr r jg g ?_ (fun i hi => ?_) (by omega) NN (by unfold NN; omega)
  · exact check14 spJn spNear J NN (by unfold NN; omega) (by omega) jr jg hj H.js
  · exact may15 M spBn spNum (by omega) NN (by unfold NN; omega) J.n jr jg r hr g hm i hi (H.ms i hi)
theorem spRef (jr r : Nat) (jg g : Nat → Nat → AV) (hj : J.Ok jg) (hm : M.Ok g) : kref19_Check [.agg [.ro 4 J.n jr jg, .ro 9 M.n r g]] = some (pair (planCheck J M)) := by
  have h1 := H.jn
  have h2 := H.mn
  refine check6 (M16 := kref18_Check) (M17 := kref19_may) J M jr r jg g ?_ (fun i hi => ?_) (by omega) NN (by unfold NN; omega)
  · exact check16 J (fun s x y fx h => spMay s x y fx h) (by omega) NN (by unfold NN; omega) jr jg hj H.js
  · exact may17 M sp19 spNum19 spSign (by omega) NN (by unfold NN; omega) J.n jr jg r g hm i hi (H.ms i hi) (H.iv i hi)
theorem spSprings (jr r : Nat) (hr : M.n ≤ r) (jg g : Nat → Nat → AV) (hj : J.Ok jg) (hm : M.Ok g) : kbars_Springs [.agg [.ro 4 J.n jr jg, .ro 9 M.n r g]] = some (sprAV J M) := by
  show gbars_Springs kbars_Check kbars_springs_a NN J.n jr jg M.n r g = _
  unfold gbars_Springs sprAV
  rw [spCheck H jr r hr jg g hj hm]
  dsimp only
  rw [okM_p, ck_true, getP1]
  cases hc : (planCheck J M).1 != 0
  · obtain ⟨h48, hF⟩ := planCheck_mem hc H.e H.ar H.iv
    have e := fun kx0 => sp_all (jr := jr) (mr := r) hj hm hF h48 kx0 zSp M.n (NN - M.n - 1) 0 (by omega)
    rw [show NN - M.n - 1 + M.n + 1 = NN by unfold NN; omega] at e
    exact e _
  · rfl
theorem spSprings19 (jr r : Nat) (jg g : Nat → Nat → AV) (hj : J.Ok jg) (hm : M.Ok g) : kref19_Springs [.agg [.ro 4 J.n jr jg, .ro 9 M.n r g]] = some (sprAV J M) := by
  show gref19_Springs kref19_Check kref19_Apart kref19_kinds kref19_stiff kref19_row NN J.n jr jg M.n r g = _
  unfold gref19_Springs sprAV
  rw [spRef H jr r jg g hj hm]
  dsimp only
  rw [okM_p, ck_true, getP1]
  cases hc : (planCheck J M).1 != 0
  · obtain ⟨h48, hF⟩ := planCheck_mem hc H.e H.ar H.iv
    have e := fun kx0 => rf_all (jr := jr) (mr := r) hj hm hF h48 kx0 zSp M.n (NN - M.n - 1) 0 (by omega)
    rw [show NN - M.n - 1 + M.n + 1 = NN by unfold NN; omega] at e
    exact e _
  · rfl
theorem spSame : ∃ (n : Nat) (gg : Ge) (e : Int), sprAV J M = .tup [.ro 11 n n gg, .int .i64 e] ∧ kkit_SameSprings [.ro 11 n n gg, .ro 11 n n gg] = some (.bool true) := by
  unfold sprAV
  cases hc : (planCheck J M).1 != 0
  · obtain ⟨h48, hF⟩ := planCheck_mem hc H.e H.ar H.iv
    have hl := allO_len J M M.n
    exact ⟨_, _, _, rfl, same_springs (by omega) (row_g (all_row hF M.n (Nat.le_refl _)) zSp) _ _⟩
  · exact ⟨0, _, _, rfl, same_springs (by omega) (fun i hi => by omega) _ _⟩

/-- THE LAW: true of every plan within the form's reach. -/
theorem law3 (jr r : Nat) (jg g : Nat → Nat → AV) (hj : J.Ok jg) (hm : M.Ok g) : klaw19_BarsSprings [.agg [.ro 4 J.n jr jg, .ro 9 M.n r g]] = some (.bool true) := by
  have h1 := H.jn
  have h2 := H.mn
  obtain ⟨jg', hj', e12⟩ := lent12 (M26 := kkit_markJoint) mkS kJoint_sp J (by omega) NN (by unfold NN; omega) jr jg hj
  obtain ⟨g', hm', e13⟩ := lent13 (M27 := kkit_markMember) mkS kMember_sp M (by omega) NN (by unfold NN; omega) r g hm
  have hjJ : J.Ok jg' := by
    intro i hi
    have := hj' i (by show i < J.n + 12; omega)
    simpa [JS.ext, hi] using this
  have hmM : M.Ok g' := by
    intro i hi
    have := hm' i (by show i < M.n + 12; omega)
    simpa [MS.ext, hi] using this
  obtain ⟨n, gg, e, hu, h9⟩ := spSame H
  have h7 := spSprings H (J.n + 12) (M.n + 12) (by omega) jg' g' hjJ hmM
  have h8 := spSprings19 H jr r jg g hj hm
  rw [hu] at h7 h8
  have h4 : kkit_LentPlan [.agg [.ro 4 J.n jr jg, .ro 9 M.n r g]] = some (.agg [.ro 4 J.n (J.n + 12) jg', .ro 9 M.n (M.n + 12) g']) := lent4 (M12 := kkit_LentJoints) (M13 := kkit_LentMembers) NN J.n jr r jg g M.n _ _ jg' g' e12 e13
  have h10 : kkit_KeptPlan [.agg [.ro 4 J.n (J.n + 12) jg', .ro 9 M.n (M.n + 12) g'], .agg [.ro 4 J.n jr jg, .ro 9 M.n r g]] = some (.bool true) := by
    refine kept10 (M20 := kkit_SamePlan) (M21 := kkit_KeptJoints) (M22 := kkit_KeptMembers) NN J.n (J.n + 12) jr jg' jg M.n (M.n + 12) r g' g ?_ ?_ ?_
    · exact same20 (M38 := kkit_SameJoints) (M39 := kkit_SameMembers) NN J.n (J.n + 12) jr jg' jg M.n (M.n + 12) r g' g (same38 J (by omega) NN (J.n + 12) jr (by unfold NN; omega) jg' jg hjJ hj) (same39 (M40 := kkit_SameMember) spMem M (by omega) NN (M.n + 12) r (by unfold NN; omega) g' g hmM hm)
    · exact kept21 (M26 := kkit_markJoint) mkS kJoint_sp J (by omega) NN (by unfold NN; omega) jr jg jg' hj hj'
    · exact kept22 (M27 := kkit_markMember) (M40 := kkit_SameMember) mkS kMember_sp spMem M (by omega) NN (by unfold NN; omega) r g g' hm hm'
  show glaw19_BarsSprings kkit_LentPlan kbars_Springs kref19_Springs kkit_SameSprings kkit_KeptPlan klaw19_awake NN J.n jr jg M.n r g = _
  unfold glaw19_BarsSprings
  simp only [h4, okLL, h7, h8, okLl, gV, tC, tT, hD, tl, tG, tN, tR, tI, beq_self_eq_true, cond_true, h9, h10, awake9, okQ, tB, ck_true]
end

theorem calls3 {J : JS} {M : MS} (H : Fine J M) (w : World) (S : Nat → Prop) (hS : ∀ b, S b → b < w.heap.size) (v : Value) (jr r : Nat) (jg g : Nat → Nat → AV) (hj : J.Ok jg) (hm : M.Ok g) (hv : Rd w S none v (.agg [.ro 4 J.n jr jg, .ro 9 M.n r g])) :
    Calls prog 3 #[v] w fun e w' => e = .returned (.bool true) ∧ Ev w.heap.size (fun _ => False) w w' := by
  have hl := law3 H jr r jg g hj hm
  have hrun := oklaw19_BarsSprings.run [.agg [.ro 4 J.n jr jg, .ro 9 M.n r g]] #[v] w S rfl (fun j u a hu ha => by
    rcases j with _ | j
    · simp at hu ha; subst hu ha; exact hv
    · simp at hu) hS (Glob.nil rfl w S) (by
      show okM Rlaw19_BarsSprings (klaw19_BarsSprings _) = true
      rw [hl]; rfl)
  have hf : prog.funcs[3]? = some f3 := by kernel_rfl
  have hb : f3.body.isSome = true := by kernel_rfl
  obtain ⟨c, hc⟩ := Option.isSome_iff_exists.1 hb
  have hnm : ¬ f3.name = "runtime.NumGoroutine" := by simpa using namesA 3 f3 hf hb
  have hcall : (callFunc 3 #[v]).run prog w = .ok (.enter 3 #[v]) w := by simp [callFunc, hf, hc, hnm]
  unfold CallOk at hrun
  rw [hcall] at hrun
  refine hrun.mono fun e w' ⟨v', he, S', h1, _, _, _, h5⟩ => ?_
  have hval : (smM Rlaw19_BarsSprings klaw19_BarsSprings).val [.agg [.ro 4 J.n jr jg, .ro 9 M.n r g]] = .bool true := by
    show valM Rlaw19_BarsSprings (klaw19_BarsSprings _) = _
    rw [hl]; rfl
  rw [hval] at h1
  obtain rfl := rd_bool h1
  exact ⟨he, h5⟩
end Go.Proofs.Tryz
end
section
/- A plan, read: from the datum to the joints and members that the program reads. -/
namespace Go.Proofs.Tryz
open Go Go.Am
set_option maxRecDepth 100000

theorem c46 : prog.cellsOf 68 = 4 := by kernel_rfl
theorem c56 : prog.cellsOf 42 = 9 := by kernel_rfl
theorem b46 : prog.bytesOf 68 = 32 := by kernel_rfl
theorem b56 : prog.bytesOf 42 = 72 := by kernel_rfl
theorem sizeT : prog.types.size = 217 := by kernel_rfl
theorem laidT : laidOutB prog = true := by kernel_rfl
theorem posT : ∀ t e, t < prog.types.size → prog.underlying t = some (.slice e) → 0 < prog.cellsOf e := by
  have h : ((List.range 217).all fun t => match prog.underlying t with | some (.slice e) => decide (0 < prog.cellsOf e) | _ => true) = true := by kernel_rfl
  intro t e ht hu
  rw [sizeT] at ht
  have := List.all_eq_true.1 h t (by simpa using ht)
  rw [hu] at this
  simpa using this

section
variable {H : Type}

def txt (d : DataW H) : ByteArray := match d with | .lit (.string s) => ⟨s.toArray⟩ | _ => ⟨#[]⟩
def num (d : DataW H) : Int := match d with | .lit (.int _ m) => m | _ => 0
def bol (d : DataW H) : Bool := match d with | .lit (.bool b) => b | _ => false
def fl (d : DataW H) : Nat := match d with | .lit (.float _ b) => b | _ => 0
def part (d : DataW H) (j : Nat) : DataW H := match d with | .agg ds => ds.getD j .nil | _ => .nil
def els (d : DataW H) : List (DataW H) := match d with | .slice es _ => es | _ => []

/-- The joints that a row of data tells. -/
def jsOf (es : List (DataW H)) : JS := ⟨es.length, fun i => txt (part (es.getD i .nil) 0), fun i => num (part (es.getD i .nil) 1), fun i => num (part (es.getD i .nil) 2), fun i => num (part (es.getD i .nil) 3)⟩
/-- The members that a row of data tells. -/
def msOf (es : List (DataW H)) : MS :=
  ⟨es.length, fun i => txt (part (es.getD i .nil) 0), fun i => num (part (es.getD i .nil) 1), fun i => num (part (es.getD i .nil) 2), fun i => num (part (es.getD i .nil) 3),
   fun i => bol (part (es.getD i .nil) 4), fun i => bol (part (es.getD i .nil) 5), fun i => fl (part (es.getD i .nil) 6), fun i => fl (part (es.getD i .nil) 7), fun i => fl (part (es.getD i .nil) 8)⟩

theorem sh_bool {n : Nat} {d : DataW H} {t : TypeId} (hu : prog.underlying t = some .bool) (h : Sh prog n t d) : ∃ b, d = .lit (.bool b) ∧ avL prog n t d = [.bool b] := by
  cases n with
  | zero => exact h.elim
  | succ n => simp only [Sh, hu] at h; obtain ⟨b, rfl⟩ := h; exact ⟨b, rfl, by simp [avL, hu]⟩
theorem sh_int {n : Nat} {d : DataW H} {t : TypeId} {k : IntKind} (hu : prog.underlying t = some (.int k)) (h : Sh prog n t d) : ∃ m, d = .lit (.int k m) ∧ (Lit.int k m).wf = true ∧ avL prog n t d = [.int k m] := by
  cases n with
  | zero => exact h.elim
  | succ n => simp only [Sh, hu] at h; obtain ⟨m, rfl, hw⟩ := h; exact ⟨m, rfl, hw, by simp [avL, hu]⟩
theorem sh_flt {n : Nat} {d : DataW H} {t : TypeId} {k : FloatKind} (hu : prog.underlying t = some (.float k)) (h : Sh prog n t d) : ∃ m, d = .lit (.float k m) ∧ (Lit.float k m).wf = true ∧ avL prog n t d = [.flt k (some m)] := by
  cases n with
  | zero => exact h.elim
  | succ n => simp only [Sh, hu] at h; obtain ⟨m, rfl, hw⟩ := h; exact ⟨m, rfl, hw, by simp [avL, hu]⟩
theorem sh_str {n : Nat} {d : DataW H} {t : TypeId} (hu : prog.underlying t = some .string) (h : Sh prog n t d) : ∃ s : List UInt8, d = .lit (.string s) ∧ s.length ≤ reachBytes ∧ avL prog n t d = [.str ⟨s.toArray⟩] := by
  cases n with
  | zero => exact h.elim
  | succ n => simp only [Sh, hu] at h; obtain ⟨m, rfl, hw⟩ := h; exact ⟨m, rfl, hw, by simp [avL, hu]⟩

theorem rb : reachBytes = 140737488351232 := by decide

theorem sh_joint {n : Nat} {d : DataW H} (h : Sh prog n 68 d) : ∃ (s : ByteArray) (x y fx : Int), avL prog n 68 d = [.str s, .int .i32 x, .int .i32 y, .int .u8 fx] ∧ txt (part d 0) = s ∧ num (part d 1) = x ∧ num (part d 2) = y ∧ num (part d 3) = fx ∧ s.size ≤ BS ∧ 0 ≤ fx := by
  cases n with
  | zero => exact h.elim
  | succ n =>
    simp only [Sh, underlying68] at h
    obtain ⟨ds, rfl, hl, hf⟩ := h
    obtain ⟨d0, d1, d2, d3, rfl⟩ : ∃ a b c e, ds = [a, b, c, e] := by
      match ds, hl with
      | [a, b, c, e], _ => exact ⟨a, b, c, e, rfl⟩
    obtain ⟨s, rfl, hs, e0⟩ := sh_str underlying9 (hf 0 _ _ rfl rfl)
    obtain ⟨x, rfl, _, e1⟩ := sh_int underlying21 (hf 1 _ _ rfl rfl)
    obtain ⟨y, rfl, _, e2⟩ := sh_int underlying21 (hf 2 _ _ rfl rfl)
    obtain ⟨z, rfl, hz, e3⟩ := sh_int underlying5 (hf 3 _ _ rfl rfl)
    refine ⟨⟨s.toArray⟩, x, y, z, ?_, rfl, rfl, rfl, rfl, ?_, ?_⟩
    · simp only [avL, underlying68]
      simp [e0, e1, e2, e3]
    · rw [rb] at hs
      show s.toArray.size ≤ BS
      simp only [List.size_toArray]
      unfold BS; omega
    · simp only [Lit.wf, IntKind.min, IntKind.max, IntKind.signed, IntKind.bits, Bool.and_eq_true] at hz
      simpa using hz.1

theorem sh_member {n : Nat} {d : DataW H} (h : Sh prog n 42 d) : ∃ (s : ByteArray) (kd a b : Int) (ha hb : Bool) (x y z : Nat), avL prog n 42 d = [.str s, .int .u8 kd, .int .i64 a, .int .i64 b, .bool ha, .bool hb, .flt .f64 (some x), .flt .f64 (some y), .flt .f64 (some z)] ∧
    txt (part d 0) = s ∧ num (part d 1) = kd ∧ num (part d 2) = a ∧ num (part d 3) = b ∧ bol (part d 4) = ha ∧ bol (part d 5) = hb ∧ fl (part d 6) = x ∧ fl (part d 7) = y ∧ fl (part d 8) = z ∧ s.size ≤ BS ∧ (x < 18446744073709551616 ∧ y < 18446744073709551616) ∧ z < 18446744073709551616 := by
  cases n with
  | zero => exact h.elim
  | succ n =>
    simp only [Sh, underlying42] at h
    obtain ⟨ds, rfl, hl, hf⟩ := h
    obtain ⟨d0, d1, d2, d3, d4, d5, d6, d7, d8, rfl⟩ : ∃ a b c e f g h i j, ds = [a, b, c, e, f, g, h, i, j] := by
      match ds, hl with
      | [a, b, c, e, f, g, h, i, j], _ => exact ⟨a, b, c, e, f, g, h, i, j, rfl⟩
    obtain ⟨s, rfl, hs, e0⟩ := sh_str underlying9 (hf 0 _ _ rfl rfl)
    obtain ⟨kd, rfl, _, e1⟩ := sh_int underlying39 (hf 1 _ _ rfl rfl)
    obtain ⟨a, rfl, _, e2⟩ := sh_int underlying3 (hf 2 _ _ rfl rfl)
    obtain ⟨b, rfl, _, e3⟩ := sh_int underlying3 (hf 3 _ _ rfl rfl)
    obtain ⟨ha, rfl, e4⟩ := sh_bool underlying4 (hf 4 _ _ rfl rfl)
    obtain ⟨hb, rfl, e5⟩ := sh_bool underlying4 (hf 5 _ _ rfl rfl)
    obtain ⟨x, rfl, hx, e6⟩ := sh_flt underlying40 (hf 6 _ _ rfl rfl)
    obtain ⟨y, rfl, hy, e7⟩ := sh_flt underlying40 (hf 7 _ _ rfl rfl)
    obtain ⟨z, rfl, hz, e8⟩ := sh_flt underlying40 (hf 8 _ _ rfl rfl)
    refine ⟨⟨s.toArray⟩, kd, a, b, ha, hb, x, y, z, ?_, rfl, rfl, rfl, rfl, rfl, rfl, rfl, rfl, rfl, ?_, ⟨?_, ?_⟩, ?_⟩
    · simp only [avL, underlying42]
      simp [e0, e1, e2, e3, e4, e5, e6, e7, e8]
    · rw [rb] at hs
      show s.toArray.size ≤ BS
      simp only [List.size_toArray]
      unfold BS; omega
    · simpa [Lit.wf] using hx
    · simpa [Lit.wf] using hy
    · simpa [Lit.wf] using hz

theorem sh_joints {n : Nat} {d : DataW H} (h : Sh prog n 22 d) : ∃ g, avL prog n 22 d = [.ro 4 (jsOf (els d)).n (jsOf (els d)).n g] ∧ (jsOf (els d)).Ok g ∧ (jsOf (els d)).n < 4398046511200 ∧ (∀ i, i < (jsOf (els d)).n → ((jsOf (els d)).nm i).size ≤ BS) ∧ (∀ i, i < (jsOf (els d)).n → 0 ≤ (jsOf (els d)).fx i) := by
  cases n with
  | zero => exact h.elim
  | succ n =>
    simp only [Sh, underlying22] at h
    rcases h with rfl | ⟨es, sp, rfl, hw, he⟩
    · refine ⟨_, by simp only [avL, underlying22, c46]; rfl, fun i hi => absurd hi (by show ¬ i < 0; omega), by show 0 < 4398046511200; omega, fun i hi => absurd hi (by show ¬ i < 0; omega), fun i hi => absurd hi (by show ¬ i < 0; omega)⟩
    · rw [b46, rb] at hw
      have hel : ∀ i, i < es.length → Sh prog n 68 (es.getD i .nil) := fun i hi => he _ (by
        have : es.getD i .nil = es[i] := by simp [List.getD, hi]
        rw [this]; exact List.getElem_mem hi)
      refine ⟨_, by simp only [avL, underlying22, c46]; rfl, fun i hi => ?_, ?_, fun i hi => ?_, fun i hi => ?_⟩
      · obtain ⟨s, x, y, fx, e, h0, h1, h2, h3, _⟩ := sh_joint (hel i hi)
        rw [e]
        exact ⟨by rw [← h0]; rfl, by rw [← h1]; rfl, by rw [← h2]; rfl, by rw [← h3]; rfl⟩
      · show es.length < _
        have := Nat.add_mul es.length sp.length 32
        omega
      · obtain ⟨s, x, y, fx, e, h0, h1, h2, h3, h4, h5⟩ := sh_joint (hel i hi)
        show (txt (part (es.getD i .nil) 0)).size ≤ BS
        rw [h0]; exact h4
      · obtain ⟨s, x, y, fx, e, h0, h1, h2, h3, h4, h5⟩ := sh_joint (hel i hi)
        show 0 ≤ num (part (es.getD i .nil) 3)
        rw [h3]; exact h5

theorem sh_members {n : Nat} {d : DataW H} (h : Sh prog n 23 d) : ∃ g, avL prog n 23 d = [.ro 9 (msOf (els d)).n (msOf (els d)).n g] ∧ (msOf (els d)).Ok g ∧ (msOf (els d)).n < 3000000000000 ∧ (∀ i, i < (msOf (els d)).n → ((msOf (els d)).nm i).size ≤ BS) ∧ (∀ i, i < (msOf (els d)).n → (msOf (els d)).e i < 18446744073709551616 ∧ (msOf (els d)).ar i < 18446744073709551616 ∧ (msOf (els d)).iv i < 18446744073709551616) := by
  cases n with
  | zero => exact h.elim
  | succ n =>
    simp only [Sh, underlying23] at h
    rcases h with rfl | ⟨es, sp, rfl, hw, he⟩
    · refine ⟨_, by simp only [avL, underlying23, c56]; rfl, fun i hi => absurd hi (by show ¬ i < 0; omega), by show 0 < 3000000000000; omega, fun i hi => absurd hi (by show ¬ i < 0; omega), fun i hi => absurd hi (by show ¬ i < 0; omega)⟩
    · rw [b56, rb] at hw
      have hel : ∀ i, i < es.length → Sh prog n 42 (es.getD i .nil) := fun i hi => he _ (by
        have : es.getD i .nil = es[i] := by simp [List.getD, hi]
        rw [this]; exact List.getElem_mem hi)
      refine ⟨_, by simp only [avL, underlying23, c56]; rfl, fun i hi => ?_, ?_, fun i hi => ?_, fun i hi => ?_⟩
      · obtain ⟨s, kd, a, b, ha, hb, x, y, z, e, h0, h1, h2, h3, h4, h5, h6, h7, h8, _⟩ := sh_member (hel i hi)
        rw [e]
        exact ⟨by rw [← h0]; rfl, by rw [← h1]; rfl, by rw [← h2]; rfl, by rw [← h3]; rfl, by rw [← h4]; rfl, by rw [← h5]; rfl, by rw [← h6]; rfl, by rw [← h7]; rfl, by rw [← h8]; rfl⟩
      · show es.length < _
        have := Nat.add_mul es.length sp.length 72
        omega
      · obtain ⟨s, kd, a, b, ha, hb, x, y, z, e, h0, h1, h2, h3, h4, h5, h6, h7, h8, h9, h10, h11⟩ := sh_member (hel i hi)
        show (txt (part (es.getD i .nil) 0)).size ≤ BS
        rw [h0]; exact h9
      · obtain ⟨s, kd, a, b, ha, hb, x, y, z, e, h0, h1, h2, h3, h4, h5, h6, h7, h8, h9, h10, h11⟩ := sh_member (hel i hi)
        show fl (part (es.getD i .nil) 6) < _ ∧ fl (part (es.getD i .nil) 7) < _ ∧ fl (part (es.getD i .nil) 8) < _
        rw [h6, h7, h8]; exact ⟨h10.1, h10.2, h11⟩

theorem sh_plan {n : Nat} {d : DataW H} (h : Sh prog n 25 d) : ∃ jg g, avL prog n 25 d = [.ro 4 (jsOf (els (part d 0))).n (jsOf (els (part d 0))).n jg, .ro 9 (msOf (els (part d 1))).n (msOf (els (part d 1))).n g] ∧
    (jsOf (els (part d 0))).Ok jg ∧ (msOf (els (part d 1))).Ok g ∧ Fine (jsOf (els (part d 0))) (msOf (els (part d 1))) := by
  cases n with
  | zero => exact h.elim
  | succ n =>
    simp only [Sh, underlying25] at h
    obtain ⟨ds, rfl, hl, hf⟩ := h
    obtain ⟨d0, d1, rfl⟩ : ∃ a b, ds = [a, b] := by
      match ds, hl with
      | [a, b], _ => exact ⟨a, b, rfl⟩
    obtain ⟨jg, e0, o0, p1, p2, p3⟩ := sh_joints (hf 0 _ _ rfl rfl)
    obtain ⟨g, e1, o1, q1, q2, q3⟩ := sh_members (hf 1 _ _ rfl rfl)
    refine ⟨jg, g, ?_, o0, o1, ⟨p1, q1, p2, q2, p3, fun i hi => (q3 i hi).1, fun i hi => (q3 i hi).2.1, fun i hi => (q3 i hi).2.2⟩⟩
    simp only [avL, underlying25]
    simp only [List.zip_cons_cons, List.zip_nil_right, List.flatMap_cons, List.flatMap_nil, e0, e1]
    rfl
end
end Go.Proofs.Tryz
end
