/- Part 7 of the proof: models of the functions, and laws on them. -/
import Derived.Test.YtikdidijaphjmaaGreatDoorW6
import Derived.KernelRfl
set_option linter.unusedVariables false
set_option linter.unusedSimpArgs false
set_option linter.unusedSectionVars false
section
/- The springs of a member, one by one. -/
namespace Go.Proofs.Tryz
open Go Go.Am Ieee.Pos
set_option maxRecDepth 100000
set_option linter.unusedVariables false
set_option exponentiation.threshold 6000

theorem va_to {R : NR} {c d X : Nat} {E : Int} (h : Va R c E d X) (hd : d ≤ 5000) : R.m * 2 ^ (R.e + 5000).toNat = X * 2 ^ (5000 - d) := by
  have h1 := h.2.1
  rw [← h.2.2, Nat.mul_assoc, ← Nat.pow_add, show (R.e + d).toNat + (5000 - d) = (R.e + 5000).toNat by omega]
theorem va_pos {R : NR} {c d X : Nat} {E : Int} (h : Va R c E d X) (hX : 0 < X) : 0 < R.m := by
  rcases Nat.eq_zero_or_pos R.m with e | e
  · have := h.2.2
    rw [e, Nat.zero_mul] at this
    omega
  · exact e
theorem va_cmp {R S : NR} {c1 c2 d1 d2 X Y : Nat} {E1 E2 : Int} (hR : Va R c1 E1 d1 X) (hS : Va S c2 E2 d2 Y) (b1 : c1 ≤ 20) (b2 : c2 ≤ 20) (b3 : E1 ≤ 5000) (b4 : E2 ≤ 5000) (b5 : d1 ≤ 5000) (b6 : d2 ≤ 5000) (hX : 0 < X) (hY : 0 < Y)
    (h : X * 2 ^ (5000 - d1) ≤ Y * 2 ^ (5000 - d2)) : ∃ c : Int, kref02_Compare [R.A, S.A] = some (.int .i64 c) ∧ c ≤ 0 := by
  have e1 := hR.1.2.2
  have e2 := hS.1.2.2
  have p1 : R.m ≤ 18446744073709551616 ^ 20 := Nat.le_trans hR.1.2.1 (Nat.pow_le_pow_right (by decide) b1)
  have p2 : S.m ≤ 18446744073709551616 ^ 20 := Nat.le_trans hS.1.2.1 (Nat.pow_le_pow_right (by decide) b2)
  exact k_compare hR.1.1 hS.1.1 p1 p2 (va_pos hR hX) (va_pos hS hY) (by omega) (by omega) (by rw [va_to hR b5, va_to hS b6]; exact h)
/-- What is held of a spring: its number lies between its span's ends. -/
theorem spring_cmp {J : JS} {M : MS} {i : Nat} (h : MemF J M i) (h0 : M.kd i = 1 → M.iv i = 0) {n : Nat} (hn : nO J M i = n) (hn1 : 1 ≤ n) (hn2 : n ≤ 8796093022208) {k : Int} (hk : k ∈ ksOf (M.kd i) (M.ha i) (M.hb i)) {s : Nat × Nat}
    (hs : s = stS (M.e i) (M.ar i) (M.iv i) (xw (nO J M i)) k) (nm : ByteArray) (kd a b : Int) (ha hb : Bool) :
    ∃ O U v w R S : NR, ∃ c d : Int, klaw19_true2 [MA nm kd a b ha hb (M.e i) (M.ar i) (M.iv i), .int .i64 (n : Int), .int .u8 k] = some (.tup [O.A, U.A]) ∧
      klaw19_exact [F s.1] = some v.A ∧ klaw19_exact [F s.2] = some w.A ∧
      klaw19_times [.ro 3 3 3 fun i j => ([rowN v, rowN v, rowN U].getD i []).getD j .dead] = some R.A ∧ klaw19_times [.ro 3 3 3 fun i j => ([rowN w, rowN w, rowN U].getD i []).getD j .dead] = some S.A ∧
      kref02_Compare [R.A, O.A] = some (.int .i64 c) ∧ c ≤ 0 ∧ kref02_Compare [O.A, S.A] = some (.int .i64 d) ∧ d ≤ 0 := by
  obtain ⟨snd, sin, -⟩ := spr_sound h hn hn1 hn2 hk
  rw [← hs] at snd sin
  have hI : In 963 1083 (M.iv i) ∨ (k = 1 ∧ M.iv i = 0) := by
    rcases h.hI with ⟨a1, a2, a3⟩ | ⟨a1, hI⟩
    · rw [a1, a2, a3] at hk
      have : k ∈ [(1 : Int)] := hk
      simp at this
      exact .inr ⟨this, h0 a1⟩
    · exact .inl hI
  obtain ⟨O, U, t1, t2, t3⟩ := k_true2 h.hE h.hA hI hn2 nm kd a b ha hb
  obtain ⟨v, v1, v2⟩ := va_exact sin.1
  obtain ⟨w, w1, w2⟩ := va_exact sin.2.1
  obtain ⟨R, r1, r2⟩ := va_three (v2.mono (c' := 5) (E' := 500) (by omega) (by omega)) (v2.mono (c' := 5) (E' := 500) (by omega) (by omega)) t3 (by omega) (by omega)
  obtain ⟨S, s1, s2⟩ := va_three (w2.mono (c' := 5) (E' := 500) (by omega) (by omega)) (w2.mono (c' := 5) (E' := 500) (by omega) (by omega)) t3 (by omega) (by omega)
  have pm : 0 < mK n k := by
    unfold mK
    cases k == 1
    · cases k == 3
      · exact Nat.mul_pos hn1 hn1
      · exact Nat.one_pos
    · exact hn1
  have pf : 0 < fK (M.e i) (M.ar i) (M.iv i) k := by
    have p1 := Nat.mul_pos (nv_pos (M.e i)) (nv_pos (M.ar i))
    have p2 := Nat.mul_pos (nv_pos (M.e i)) (nv_pos (M.iv i))
    unfold fK
    cases k == 1
    · cases k == 3
      · exact Nat.mul_pos (by omega) p2
      · exact p2
    · exact p1
  have pmm := Nat.mul_pos (Nat.mul_pos pm pm) hn1
  have pff := Nat.mul_pos pf pf
  have p1 := Nat.mul_pos (Nat.mul_pos (nv_pos s.1) (nv_pos s.1)) pmm
  have p2 := Nat.mul_pos (Nat.mul_pos (nv_pos s.2) (nv_pos s.2)) pmm
  obtain ⟨h1, h2⟩ := snd
  generalize hX : nv s.1 * nv s.1 * (mK n k * mK n k * n) = X at *
  generalize hY : nv s.2 * nv s.2 * (mK n k * mK n k * n) = Y at *
  generalize hZ : fK (M.e i) (M.ar i) (M.iv i) k * fK (M.e i) (M.ar i) (M.iv i) k = Z at *
  have e1 : (2 : Nat) ^ (5000 - (1075 + 1075 + 0)) = 2 ^ 1075 * 2 ^ 1075 * 2 ^ (5000 - 4300) := by rw [← Nat.pow_add, ← Nat.pow_add]
  obtain ⟨c, c1, c2⟩ := va_cmp r2 t2 (by omega) (by omega) (by omega) (by omega) (by omega) (by omega) p1 pff (by
    rw [e1, ← Nat.mul_assoc]
    exact Nat.mul_le_mul_right _ h1)
  obtain ⟨d, d1, d2⟩ := va_cmp t2 s2 (by omega) (by omega) (by omega) (by omega) (by omega) (by omega) pff p2 (by
    rw [e1, ← Nat.mul_assoc]
    exact Nat.mul_le_mul_right _ h2)
  exact ⟨O, U, v, w, R, S, c, d, t1, v1, w1, r1, s1, c1, c2, d1, d2⟩

theorem okT2 (O U : NR) : okM [RS.agg [LK.b, LK.l 1, LK.i .i64], RS.agg [LK.b, LK.l 1, LK.i .i64]] (some (.tup [O.A, U.A])) = true := rfl
section
variable (O U : NR)
theorem g1B : toB ((toC ((toT (getV (some (.tup [O.A, U.A])))).headD .dead)).headD .dead) = false := rfl
theorem g1N : toN ((toC ((toT (getV (some (.tup [O.A, U.A])))).headD .dead)).tail.headD .dead) = O.n := rfl
theorem g1R : toR ((toC ((toT (getV (some (.tup [O.A, U.A])))).headD .dead)).tail.headD .dead) = O.r := rfl
theorem g1G : toG ((toC ((toT (getV (some (.tup [O.A, U.A])))).headD .dead)).tail.headD .dead) = O.g := rfl
theorem g1I : toI ((toC ((toT (getV (some (.tup [O.A, U.A])))).headD .dead)).tail.tail.headD .dead) = O.e := rfl
theorem g2B : toB ((toC ((toT (getV (some (.tup [O.A, U.A])))).tail.headD .dead)).headD .dead) = false := rfl
theorem g2N : toN ((toC ((toT (getV (some (.tup [O.A, U.A])))).tail.headD .dead)).tail.headD .dead) = U.n := rfl
theorem g2R : toR ((toC ((toT (getV (some (.tup [O.A, U.A])))).tail.headD .dead)).tail.headD .dead) = U.r := rfl
theorem g2G : toG ((toC ((toT (getV (some (.tup [O.A, U.A])))).tail.headD .dead)).tail.headD .dead) = U.g := rfl
theorem g2I : toI ((toC ((toT (getV (some (.tup [O.A, U.A])))).tail.headD .dead)).tail.tail.headD .dead) = U.e := rfl
end
theorem ckb (b : Bool) : (bif b then true else true) = true := by cases b <;> rfl

/-- The kind that is asked for. -/
def askK (n h : Int) : AV := (([[AV.int .u8 1], [AV.int .u8 (toI (([[AV.int .u8 0], [AV.int .u8 0], [AV.int .u8 4], [AV.int .u8 2]].getD n.toNat []).getD 0 AV.dead))], [AV.int .u8 3]].getD h.toNat []).getD 0 AV.dead)
section
variable (kn : Int → Int → Option AV) (kx0 : Bool → Int → Nat → Nat → (Ge) → Nat → Nat → (Ge) → Nat → Nat → (Ge) → Nat → Nat → (Ge) → Nat → Nat → (Ge) → Nat → Nat → (Ge) → ByteArray → Int → Int → Int → Bool → Bool → Option Nat → Option Nat → Option Nat → Option AV) (kx1 : Bool → Int → Nat → Nat → (Ge) → Nat → Nat → (Ge) → Nat → Nat → (Ge) → Nat → Nat → (Ge) → Nat → Nat → (Ge) → Nat → Nat → (Ge) → ByteArray → Int → Int → Int → Bool → Bool → Option Nat → Option Nat → Option Nat → Int → Int → Int → Int → Int → Int → Int → Int → Option Nat → Option Nat → Option Nat → Option AV) (kx2 : Bool → Int → Nat → Nat → (Ge) → Nat → Nat → (Ge) → Nat → Nat → (Ge) → Nat → Nat → (Ge) → Nat → Nat → (Ge) → Nat → Nat → (Ge) → ByteArray → Int → Int → Int → Bool → Bool → Option Nat → Option Nat → Option Nat → Int → Int → Int → Int → Int → Int → Int → Int → Option Nat → Option Nat → Option Nat → Bool → Nat → Nat → (Ge) → Int → Bool → Nat → Nat → (Ge) → Int → Bool → Nat → Nat → (Ge) → Int → Bool → Nat → Nat → (Ge) → Int → Option AV) (kx3 : Nat → Nat → (Ge) → Int → Int → Int → Nat → Nat → (Ge) → Nat → Nat → (Ge) → Nat → Nat → (Ge) → Nat → Nat → (Ge) → Nat → Nat → (Ge) → Nat → Nat → (Ge) → ByteArray → Int → Int → Int → Bool → Bool → Option Nat → Option Nat → Option Nat → Option AV) (pg qcx : Nat) (ww : Ge) (qbn qie : Int) (qhc ym : Int) (wq wp : Nat) (wr : Ge) (vg vk : Nat) (vf : Ge) (vm vh : Nat) (vj : Ge) (vn vl : Nat) (vi : Ge) (qaz qay : Nat) (qa0 : Ge) (qax qav : Nat) (qaw : Ge) (qce : ByteArray) (qb4 qcc qb5 : Int) (qca qb0 : Bool) (qb2 qcf qb1 : Option Nat) (qE qA qI : Nat)
theorem l0_stepK {p h n : Nat} (hp : p < pg) (hh : h < n) (hn : n < 4) {k : Int} (hask : askK n h = .int .u8 k) (hin : qhc = n) (hE : qb2 = some qE) (hA : qcf = some qA) (hI : qb1 = some qI)
    {a2 a3 a4 a5 a6 a7 : Int} {lo hi near : Nat} (r0 : ww p 0 = .int .i64 qbn) (r1 : ww p 1 = .int .u8 k) (r2 : ww p 2 = .int .i64 a2) (r3 : ww p 3 = .int .i64 a3) (r4 : ww p 4 = .int .i64 a4) (r5 : ww p 5 = .int .i64 a5) (r6 : ww p 6 = .int .i64 a6) (r7 : ww p 7 = .int .i64 a7)
    (r8 : ww p 8 = F lo) (r9 : ww p 9 = F hi) (r10 : ww p 10 = F near) (f1 : In 785 1155 lo) (f2 : In 785 1155 hi) (f3 : lo ≤ near) (f4 : near ≤ hi)
    (hc : ∃ O U v w R S : NR, ∃ c d : Int, klaw19_true2 [MA qce qb4 qcc qb5 qca qb0 qE qA qI, .int .i64 qie, .int .u8 k] = some (.tup [O.A, U.A]) ∧
      klaw19_exact [F lo] = some v.A ∧ klaw19_exact [F hi] = some w.A ∧
      klaw19_times [.ro 3 3 3 fun i j => ([rowN v, rowN v, rowN U].getD i []).getD j .dead] = some R.A ∧ klaw19_times [.ro 3 3 3 fun i j => ([rowN w, rowN w, rowN U].getD i []).getD j .dead] = some S.A ∧
      kref02_Compare [R.A, O.A] = some (.int .i64 c) ∧ c ≤ 0 ∧ kref02_Compare [O.A, S.A] = some (.int .i64 d) ∧ d ≤ 0) :
    glaw19_BarsTrue_l0_step kmade_Sketch_Plan kbars_Springs klaw19_true2 klaw19_exact klaw19_times kref02_Compare klaw19_awake NN kn kx0 kx1 kx2 kx3 pg qcx ww qbn qie qhc ym wq wp wr vg vk vf vm vh vj vn vl vi qaz qay qa0 qax qav qaw qce qb4 qcc qb5 qca qb0 qb2 qcf qb1 (p : Int) (h : Int) = kn (IntKind.i64.wrap ((p : Int) + 1)) (IntKind.i64.wrap ((h : Int) + 1)) := by
  obtain ⟨O, U, v, w, R, S, c, d, q1, q2, q3, q4, q5, q6, q7, q8, q9⟩ := hc
  subst hin hE hA hI
  have f5 : In 785 1155 near := Btw.In (s := (lo, hi)) ⟨f3, f4⟩ ⟨f1, f2, Nat.le_trans f3 f4⟩
  have b1 : (ford .f64 (some lo) (some 0) == some Ordering.gt) = true := by rw [ford_0 f1.1]; rfl
  have b2 : (ford .f64 (some lo) (some near) == some Ordering.lt || ford .f64 (some lo) (some near) == some Ordering.eq) = true := by
    rw [ford_n f1.1 f5.1, c_lt, c_eq, Bool.or_eq_true, decide_eq_true_iff, decide_eq_true_iff]; omega
  have b3 : (ford .f64 (some near) (some hi) == some Ordering.lt || ford .f64 (some near) (some hi) == some Ordering.eq) = true := by
    rw [ford_n f5.1 f2.1, c_lt, c_eq, Bool.or_eq_true, decide_eq_true_iff, decide_eq_true_iff]; omega
  have b4 : (ford .f64 (some hi) (some 9110782046170513408) == some Ordering.lt) = true := by
    rw [ford_n f2.1 (by unfold Norm ex; omega), c_lt, decide_eq_true_iff]
    have := f2.2.2
    unfold ex at this
    omega
  have k1 : fitK (LK.i .u8) (askK n h) = true := by rw [hask]; rfl
  have k2 : fitK (LK.i .u8) (([[AV.int .u8 0], [AV.int .u8 0], [AV.int .u8 4], [AV.int .u8 2]].getD (n : Int).toNat []).getD 0 AV.dead) = true := by
    have : n = 0 ∨ n = 1 ∨ n = 2 ∨ n = 3 := by omega
    rcases this with rfl | rfl | rfl | rfl <;> rfl
  have k3 : toI (askK n h) = k := by rw [hask]; rfl
  have fit11 : fitKs [LK.i .i64, LK.i .u8, LK.i .i64, LK.i .i64, LK.i .i64, LK.i .i64, LK.i .i64, LK.i .i64, LK.f .f64, LK.f .f64, LK.f .f64] [.int .i64 qbn, .int .u8 k, .int .i64 a2, .int .i64 a3, .int .i64 a4, .int .i64 a5, .int .i64 a6, .int .i64 a7, F lo, F hi, F near] = true := rfl
  have fi : fitK (LK.i .i64) (.int .i64 qbn) = true := rfl
  have fk : fitK (LK.i .u8) (.int .u8 k) = true := rfl
  unfold askK at k1 k3
  unfold glaw19_BarsTrue_l0_step
  rw [Int.toNat_natCast (n := p), r0, r1, r2, r3, r4, r5, r6, r7, r8, r9, r10, decide_eq_true (show (h : Int) < (n : Int) by omega), cond_true, decide_eq_false (show ¬ (p : Int) ≥ (pg : Int) by omega), decide_eq_true (show (p : Int) < (pg : Int) by omega), decide_eq_true (show (0 : Int) ≤ (p : Int) by omega),
    decide_eq_true (show (0 : Int) ≤ (n : Int) by omega), decide_eq_true (show (0 : Int) ≤ (h : Int) by omega), decide_eq_true (show (n : Int) < 4 by omega), decide_eq_true (show (h : Int) < 3 by omega)]
  simp only [toI_int, toF_flt, bne_self_eq_false, Bool.not_false, Bool.not_true, cond_true, cond_false, k1, k2, k3, fi, fk, fit11, b1, b2, b3, b4, ckb]
  repeat rw [ck_true]
  have cgt : ∀ x : Int, x ≤ 0 → decide (x > 0) = false := fun x hx => decide_eq_false (by omega)
  simp only [q1, q2, q3, okT2, okNR, ck_true, gB, gN, gR, gG, gI, g1B, g1N, g1R, g1G, g1I, g2B, g2N, g2R, g2G, g2I]
  simp only [q4, q5, okNR, ck_true, gB, gN, gR, gG, gI]
  simp only [q6, q8, okI, gV, tI, cgt _ q7, cgt _ q9, ck_true, cond_false, cond_true, Bool.not_false]
end
end Go.Proofs.Tryz
end
section
/- The loops of BarsTrue: the springs of a member, the members of a plan. -/
namespace Go.Proofs.Tryz
open Go Go.Am Ieee.Pos
set_option maxRecDepth 100000
set_option linter.unusedVariables false

theorem Good.nO {J : JS} {M : MS} (h : Good J M) {i : Nat} (hi : i < M.n) : ∃ n : Nat, nO J M i = n ∧ 1 ≤ n ∧ n ≤ 8796093022208 := by
  obtain ⟨a0, a1, b0, b1, ab⟩ := h.ends i hi
  obtain ⟨n1, n2⟩ := h.near (M.a i).toNat (by omega)
  obtain ⟨n3, n4⟩ := h.near (M.b i).toNat (by omega)
  have f1 := far_b n1
  have f2 := far_b n2
  have f3 := far_b n3
  have f4 := far_b n4
  have hd : dxO J M i ≠ 0 ∨ dyO J M i ≠ 0 := by
    unfold dxO dyO
    rcases Nat.lt_trichotomy (M.a i).toNat (M.b i).toNat with hl | hl | hl
    · have := h.pts (M.b i).toNat (by omega) (M.a i).toNat hl
      omega
    · omega
    · have := h.pts (M.a i).toNat (by omega) (M.b i).toNat hl
      omega
  have q1 := sq_b (d := dxO J M i) (by unfold dxO; omega)
  have q2 := sq_b (d := dyO J M i) (by unfold dyO; omega)
  have hp : 1 ≤ Go.Proofs.Tryz.nO J M i := by
    unfold Go.Proofs.Tryz.nO
    rcases hd with hd | hd
    · have := sq_pos hd; omega
    · have := sq_pos hd; omega
  have hu : Go.Proofs.Tryz.nO J M i ≤ 8796093022208 := by unfold Go.Proofs.Tryz.nO; omega
  exact ⟨(Go.Proofs.Tryz.nO J M i).toNat, by omega, by omega, by omega⟩
theorem ask_ks (kd : Int) (ha hb : Bool) : ∀ (h : Nat) (k : Int), (ksOf kd ha hb)[h]? = some k → askK ((ksOf kd ha hb).length : Int) (h : Int) = .int .u8 k := by
  unfold ksOf
  intro h k
  cases kd == 1 <;> cases ha <;> cases hb <;> (rcases h with _ | _ | _ | h) <;> intro e <;> first | (cases e; rfl) | (cases e)
theorem allO_get (J : JS) (M : MS) {i h : Nat} {l : List AV} (hl : (sprO J M i i)[h]? = some l) : ∀ N, i < N → (allO J M N)[(allO J M i).length + h]? = some l
  | N + 1, hN => by
    have hlt : h < (sprO J M i i).length := (List.getElem?_eq_some_iff.1 hl).1
    by_cases e : i = N
    · subst e
      show (allO J M i ++ sprO J M i i)[_]? = _
      rw [List.getElem?_append_right (by omega), show (allO J M i).length + h - (allO J M i).length = h by omega]
      exact hl
    · have ih := allO_get J M hl N (by omega)
      show (allO J M N ++ sprO J M N N)[_]? = _
      rw [List.getElem?_append_left (List.getElem?_eq_some_iff.1 ih).1]
      exact ih
theorem allO_succ (J : JS) (M : MS) (i : Nat) : (allO J M (i + 1)).length = (allO J M i).length + (ksOf (M.kd i) (M.ha i) (M.hb i)).length := by
  show (allO J M i ++ sprO J M i i).length = _
  rw [List.length_append]; unfold sprO; rw [List.length_map]
/-- A spring's row, cell by cell. -/
theorem spr_cells (at' dx dy n : Int) (E A I : Nat) (back : Bool) (k : Int) {r : Nat} (hr : stN E A I (xw n) k = some r) :
    ∃ a2 a3 a4 a5 a6 a7 : Int, spr at' dx dy n E A I back k = [.int .i64 at', .int .u8 k, .int .i64 a2, .int .i64 a3, .int .i64 a4, .int .i64 a5, .int .i64 a6, .int .i64 a7, F (stS E A I (xw n) k).1, F (stS E A I (xw n) k).2, F r] := by
  unfold spr
  rw [hr, ← r6_eta]
  exact ⟨_, _, _, _, _, _, rfl⟩

section
variable (kx0 : Bool → Int → Nat → Nat → (Ge) → Nat → Nat → (Ge) → Nat → Nat → (Ge) → Nat → Nat → (Ge) → Nat → Nat → (Ge) → Nat → Nat → (Ge) → ByteArray → Int → Int → Int → Bool → Bool → Option Nat → Option Nat → Option Nat → Option AV) (kx1 : Bool → Int → Nat → Nat → (Ge) → Nat → Nat → (Ge) → Nat → Nat → (Ge) → Nat → Nat → (Ge) → Nat → Nat → (Ge) → Nat → Nat → (Ge) → ByteArray → Int → Int → Int → Bool → Bool → Option Nat → Option Nat → Option Nat → Int → Int → Int → Int → Int → Int → Int → Int → Option Nat → Option Nat → Option Nat → Option AV) (kx2 : Bool → Int → Nat → Nat → (Ge) → Nat → Nat → (Ge) → Nat → Nat → (Ge) → Nat → Nat → (Ge) → Nat → Nat → (Ge) → Nat → Nat → (Ge) → ByteArray → Int → Int → Int → Bool → Bool → Option Nat → Option Nat → Option Nat → Int → Int → Int → Int → Int → Int → Int → Int → Option Nat → Option Nat → Option Nat → Bool → Nat → Nat → (Ge) → Int → Bool → Nat → Nat → (Ge) → Int → Bool → Nat → Nat → (Ge) → Int → Bool → Nat → Nat → (Ge) → Int → Option AV) (kx3 : Nat → Nat → (Ge) → Int → Int → Int → Nat → Nat → (Ge) → Nat → Nat → (Ge) → Nat → Nat → (Ge) → Nat → Nat → (Ge) → Nat → Nat → (Ge) → Nat → Nat → (Ge) → ByteArray → Int → Int → Int → Bool → Bool → Option Nat → Option Nat → Option Nat → Option AV)
theorem l0_all {J : JS} {M : MS} (hG : Good J M) {i : Nat} (hi : i < M.n) {n P : Nat} (hn : (ksOf (M.kd i) (M.ha i) (M.hb i)).length = n) (hP : P = (allO J M i).length) (ym : Int) (wq : Nat) (wp : Nat) (wr : Ge) (vg : Nat) (vk : Nat) (vf : Ge) (vm : Nat) (vh : Nat) (vj : Ge) (vn : Nat) (vl : Nat) (vi : Ge) (qaz : Nat) (qay : Nat) (qa0 : Ge) (qax : Nat) (qav : Nat) (qaw : Ge) :
    ∀ (m q h : Nat), h + m = n → glaw19_BarsTrue_l0 kmade_Sketch_Plan kbars_Springs klaw19_true2 klaw19_exact klaw19_times kref02_Compare klaw19_awake NN kx0 kx1 kx2 kx3 (allO J M M.n).length (allO J M M.n).length (fun i j => ((allO J M M.n).getD i zS11).getD j .dead) (i : Int) (nO J M i) (n : Int) ym wq wp wr vg vk vf vm vh vj vn vl vi qaz qay qa0 qax qav qaw (M.nm i) (M.kd i) (M.a i) (M.b i) (M.ha i) (M.hb i) (some (M.e i)) (some (M.ar i)) (some (M.iv i)) (q + m + 1) ((P + h : Nat) : Int) (h : Int) = kx3 (allO J M M.n).length (allO J M M.n).length (fun i j => ((allO J M M.n).getD i zS11).getD j .dead) ((P + n : Nat) : Int) (i : Int) ym wq wp wr vg vk vf vm vh vj vn vl vi qaz qay qa0 qax qav qaw (M.nm i) (M.kd i) (M.a i) (M.b i) (M.ha i) (M.hb i) (some (M.e i)) (some (M.ar i)) (some (M.iv i))
  | 0, q, h, hm => by
    obtain rfl : h = n := by omega
    show glaw19_BarsTrue_l0_step kmade_Sketch_Plan kbars_Springs klaw19_true2 klaw19_exact klaw19_times kref02_Compare klaw19_awake NN _ kx0 kx1 kx2 kx3 (allO J M M.n).length (allO J M M.n).length (fun i j => ((allO J M M.n).getD i zS11).getD j .dead) (i : Int) (nO J M i) (h : Int) ym wq wp wr vg vk vf vm vh vj vn vl vi qaz qay qa0 qax qav qaw (M.nm i) (M.kd i) (M.a i) (M.b i) (M.ha i) (M.hb i) (some (M.e i)) (some (M.ar i)) (some (M.iv i)) ((P + h : Nat) : Int) (h : Int) = _
    unfold glaw19_BarsTrue_l0_step
    rw [decide_eq_false (show ¬ (h : Int) < (h : Int) by omega), cond_false]
  | m + 1, q, h, hm => by
    have ih := l0_all hG hi hn hP ym wq wp wr vg vk vf vm vh vj vn vl vi qaz qay qa0 qax qav qaw m q (h + 1) (by omega)
    have hlen := allO_len J M M.n
    have h48 := hG.m48
    have hks := ksOf_len (M.kd i) (M.ha i) (M.hb i)
    have hh : h < (ksOf (M.kd i) (M.ha i) (M.hb i)).length := by omega
    obtain ⟨k, hk⟩ : ∃ k, (ksOf (M.kd i) (M.ha i) (M.hb i))[h]? = some k := ⟨_, List.getElem?_eq_getElem hh⟩
    have hmem : k ∈ ksOf (M.kd i) (M.ha i) (M.hb i) := List.mem_of_getElem? hk
    have hF := hG.mem i hi
    obtain ⟨N, e1, e2, e3⟩ := hG.nO hi
    obtain ⟨snd, sin, r, er, br⟩ := spr_sound hF e1 e2 e3 hmem
    have hrow : (sprO J M i i)[h]? = some (spr i (dxO J M i) (dyO J M i) (nO J M i) (M.e i) (M.ar i) (M.iv i) (M.ha i) k) := by
      unfold sprO
      rw [List.getElem?_map, hk]; rfl
    have hget := allO_get J M hrow M.n hi
    have hlt := (List.getElem?_eq_some_iff.1 hget).1
    obtain ⟨a2, a3, a4, a5, a6, a7, hc⟩ := spr_cells i (dxO J M i) (dyO J M i) (nO J M i) (M.e i) (M.ar i) (M.iv i) (M.ha i) k er
    rw [hc] at hget
    have hgd : (allO J M M.n).getD (P + h) zS11 = [.int .i64 (i : Int), .int .u8 k, .int .i64 a2, .int .i64 a3, .int .i64 a4, .int .i64 a5, .int .i64 a6, .int .i64 a7, F (stS (M.e i) (M.ar i) (M.iv i) (xw (nO J M i)) k).1, F (stS (M.e i) (M.ar i) (M.iv i) (xw (nO J M i)) k).2, F r] := by
      rw [hP, List.getD_eq_getElem?_getD, hget]; rfl
    have hask := ask_ks (M.kd i) (M.ha i) (M.hb i) h k hk
    rw [hn] at hask
    have hcmp := spring_cmp hF (fun e => by
      rcases hG.k i hi with ⟨_, _, _, k4⟩ | ⟨k1, _⟩
      · exact k4
      · omega) e1 e2 e3 hmem rfl (M.nm i) (M.kd i) (M.a i) (M.b i) (M.ha i) (M.hb i)
    rw [← e1] at hcmp
    refine Eq.trans ?_ ih
    have hs := l0_stepK (glaw19_BarsTrue_l0 kmade_Sketch_Plan kbars_Springs klaw19_true2 klaw19_exact klaw19_times kref02_Compare klaw19_awake NN kx0 kx1 kx2 kx3 (allO J M M.n).length (allO J M M.n).length (fun i j => ((allO J M M.n).getD i zS11).getD j .dead) (i : Int) (nO J M i) (n : Int) ym wq wp wr vg vk vf vm vh vj vn vl vi qaz qay qa0 qax qav qaw (M.nm i) (M.kd i) (M.a i) (M.b i) (M.ha i) (M.hb i) (some (M.e i)) (some (M.ar i)) (some (M.iv i)) (q + m + 1)) kx0 kx1 kx2 kx3 (allO J M M.n).length (allO J M M.n).length (fun i j => ((allO J M M.n).getD i zS11).getD j .dead) (i : Int) (nO J M i) (n : Int) ym wq wp wr vg vk vf vm vh vj vn vl vi qaz qay qa0 qax qav qaw (M.nm i) (M.kd i) (M.a i) (M.b i) (M.ha i) (M.hb i) (some (M.e i)) (some (M.ar i)) (some (M.iv i)) (M.e i) (M.ar i) (M.iv i) (p := P + h) (h := h) (n := n) (k := k) (a2 := a2) (a3 := a3) (a4 := a4) (a5 := a5) (a6 := a6) (a7 := a7) (near := r) (lo := (stS (M.e i) (M.ar i) (M.iv i) (xw (nO J M i)) k).1) (hi := (stS (M.e i) (M.ar i) (M.iv i) (xw (nO J M i)) k).2) (by omega) (by omega) (by omega) hask rfl rfl rfl rfl
      (by show ((allO J M M.n).getD (P + h) zS11).getD 0 .dead = _; rw [hgd]; rfl) (by show ((allO J M M.n).getD (P + h) zS11).getD 1 .dead = _; rw [hgd]; rfl) (by show ((allO J M M.n).getD (P + h) zS11).getD 2 .dead = _; rw [hgd]; rfl) (by show ((allO J M M.n).getD (P + h) zS11).getD 3 .dead = _; rw [hgd]; rfl) (by show ((allO J M M.n).getD (P + h) zS11).getD 4 .dead = _; rw [hgd]; rfl) (by show ((allO J M M.n).getD (P + h) zS11).getD 5 .dead = _; rw [hgd]; rfl) (by show ((allO J M M.n).getD (P + h) zS11).getD 6 .dead = _; rw [hgd]; rfl) (by show ((allO J M M.n).getD (P + h) zS11).getD 7 .dead = _; rw [hgd]; rfl) (by show ((allO J M M.n).getD (P + h) zS11).getD 8 .dead = _; rw [hgd]; rfl) (by show ((allO J M M.n).getD (P + h) zS11).getD 9 .dead = _; rw [hgd]; rfl) (by show ((allO J M M.n).getD (P + h) zS11).getD 10 .dead = _; rw [hgd]; rfl) sin.1 sin.2.1 br.1 br.2 hcmp
    rw [wrap_s (i := P + h) (by omega), wrap_s (i := h) (by omega)] at hs
    exact hs
end
end Go.Proofs.Tryz
end
section
namespace Go.Proofs.Tryz
open Go Go.Am
set_option maxRecDepth 1000000
theorem awake9 : klaw19_awake [] = some (.bool true) := by kernel_rfl
end Go.Proofs.Tryz
end
section
/- The law: every spring's number lies in its span. -/
namespace Go.Proofs.Tryz
open Go Go.Am Ieee.Pos
set_option maxRecDepth 100000
set_option linter.unusedVariables false
set_option linter.unusedSimpArgs false

theorem i64w {n : Int} (h1 : -9223372036854775808 ≤ n) (h2 : n < 9223372036854775808) : IntKind.i64.wrap n = n := wrapi h1 h2
theorem nwrap {xa xb ya yb : Int} (na : farB xa = false) (nb : farB xb = false) (nc : farB ya = false) (nd : farB yb = false) :
    IntKind.i64.wrap (IntKind.i64.wrap (IntKind.i64.wrap (IntKind.i64.wrap xb - IntKind.i64.wrap xa) * IntKind.i64.wrap (IntKind.i64.wrap xb - IntKind.i64.wrap xa)) + IntKind.i64.wrap (IntKind.i64.wrap (IntKind.i64.wrap yb - IntKind.i64.wrap ya) * IntKind.i64.wrap (IntKind.i64.wrap yb - IntKind.i64.wrap ya))) =
      (xb - xa) * (xb - xa) + (yb - ya) * (yb - ya) := by
  have h1 := far_b na
  have h2 := far_b nb
  have h3 := far_b nc
  have h4 := far_b nd
  have q1 := sq_b (d := xb - xa) (by omega)
  have q2 := sq_b (d := yb - ya) (by omega)
  rw [i64w (n := xb) (by omega) (by omega), i64w (n := xa) (by omega) (by omega), i64w (n := yb) (by omega) (by omega), i64w (n := ya) (by omega) (by omega), i64w (n := xb - xa) (by omega) (by omega), i64w (n := yb - ya) (by omega) (by omega)]
  generalize (xb - xa) * (xb - xa) = p at *
  generalize (yb - ya) * (yb - ya) = q at *
  rw [i64w (n := p) (by omega) (by omega), i64w (n := q) (by omega) (by omega), i64w (n := p + q) (by omega) (by omega)]
section
variable (kx0 : Bool → Int → Nat → Nat → (Ge) → Nat → Nat → (Ge) → Nat → Nat → (Ge) → Nat → Nat → (Ge) → Nat → Nat → (Ge) → Nat → Nat → (Ge) → ByteArray → Int → Int → Int → Bool → Bool → Option Nat → Option Nat → Option Nat → Option AV) (kx1 : Bool → Int → Nat → Nat → (Ge) → Nat → Nat → (Ge) → Nat → Nat → (Ge) → Nat → Nat → (Ge) → Nat → Nat → (Ge) → Nat → Nat → (Ge) → ByteArray → Int → Int → Int → Bool → Bool → Option Nat → Option Nat → Option Nat → Int → Int → Int → Int → Int → Int → Int → Int → Option Nat → Option Nat → Option Nat → Option AV) (kx2 : Bool → Int → Nat → Nat → (Ge) → Nat → Nat → (Ge) → Nat → Nat → (Ge) → Nat → Nat → (Ge) → Nat → Nat → (Ge) → Nat → Nat → (Ge) → ByteArray → Int → Int → Int → Bool → Bool → Option Nat → Option Nat → Option Nat → Int → Int → Int → Int → Int → Int → Int → Int → Option Nat → Option Nat → Option Nat → Bool → Nat → Nat → (Ge) → Int → Bool → Nat → Nat → (Ge) → Int → Bool → Nat → Nat → (Ge) → Int → Bool → Nat → Nat → (Ge) → Int → Option AV) (kx3 : Nat → Nat → (Ge) → Int → Int → Nat → Nat → (Ge) → Nat → Nat → (Ge) → Nat → Nat → (Ge) → Nat → Nat → (Ge) → Nat → Nat → (Ge) → Nat → Nat → (Ge) → Option AV)
theorem l1_all {J : JS} {M : MS} (hG : Good J M) {jr mr : Nat} {jg g : Ge} (hj : J.Ok jg) (hm : M.Ok g) (vx : Int) (wt : Nat) (wu : Nat) (wv : Ge) (px : Nat) (pv : Nat) (py : Ge) (qaf : Nat) (p9 : Nat) (qab : Ge) (qae : Nat) (qad : Nat) (qag : Ge) :
    ∀ (m q i : Nat), i + m = M.n → glaw19_BarsTrue_l1 kmade_Sketch_Plan kbars_Springs klaw19_true2 klaw19_exact klaw19_times kref02_Compare klaw19_awake NN kx0 kx1 kx2 kx3 (q + m + 1) (allO J M M.n).length (allO J M M.n).length (fun i j => ((allO J M M.n).getD i zS11).getD j .dead) ((allO J M i).length : Int) (i : Int) vx wt wu wv px pv py qaf p9 qab qae qad qag J.n jr jg M.n mr g = kx3 (allO J M M.n).length (allO J M M.n).length (fun i j => ((allO J M M.n).getD i zS11).getD j .dead) ((allO J M M.n).length : Int) vx wt wu wv px pv py qaf p9 qab qae qad qag J.n jr jg M.n mr g
  | 0, q, i, h => by
    obtain rfl : i = M.n := by omega
    show glaw19_BarsTrue_l1_step kmade_Sketch_Plan kbars_Springs klaw19_true2 klaw19_exact klaw19_times kref02_Compare klaw19_awake NN _ kx0 kx1 kx2 kx3 (allO J M M.n).length (allO J M M.n).length (fun i j => ((allO J M M.n).getD i zS11).getD j .dead) ((allO J M M.n).length : Int) (M.n : Int) vx wt wu wv px pv py qaf p9 qab qae qad qag J.n jr jg M.n mr g = _
    unfold glaw19_BarsTrue_l1_step
    rw [decide_eq_false (by omega), cond_false]
  | m + 1, q, i, h => by
    have hi : i < M.n := by omega
    have ih := l1_all hG (jr := jr) (mr := mr) hj hm vx wt wu wv px pv py qaf p9 qab qae qad qag m q (i + 1) (by omega)
    obtain ⟨g0, g1, g2, g3, g4, g5, g6, g7, g8⟩ := hm i hi
    obtain ⟨f1, f2, f3', f4, f5, f6, f7, f8, f9, f10, f11, f12⟩ := hG.mem i hi
    have h48 := hG.m48
    obtain ⟨-, j1, j2, -⟩ := hj (M.a i).toNat (by omega)
    obtain ⟨-, k1, k2, -⟩ := hj (M.b i).toNat (by omega)
    have f32 : ∀ n, fitK (LK.i .i32) (.int .i32 n) = true := fun _ => rfl
    have hnw := nwrap f5 f7 f6 f8
    have hnO : (J.x (M.b i).toNat - J.x (M.a i).toNat) * (J.x (M.b i).toNat - J.x (M.a i).toNat) + (J.y (M.b i).toNat - J.y (M.a i).toNat) * (J.y (M.b i).toNat - J.y (M.a i).toNat) = nO J M i := rfl
    rw [hnO] at hnw
    have hl0 := fun n (hn : (ksOf (M.kd i) (M.ha i) (M.hb i)).length = n) (x0 : Bool → Int → Nat → Nat → (Ge) → Nat → Nat → (Ge) → Nat → Nat → (Ge) → Nat → Nat → (Ge) → Nat → Nat → (Ge) → Nat → Nat → (Ge) → ByteArray → Int → Int → Int → Bool → Bool → Option Nat → Option Nat → Option Nat → Option AV) (x1 : Bool → Int → Nat → Nat → (Ge) → Nat → Nat → (Ge) → Nat → Nat → (Ge) → Nat → Nat → (Ge) → Nat → Nat → (Ge) → Nat → Nat → (Ge) → ByteArray → Int → Int → Int → Bool → Bool → Option Nat → Option Nat → Option Nat → Int → Int → Int → Int → Int → Int → Int → Int → Option Nat → Option Nat → Option Nat → Option AV) (x2 : Bool → Int → Nat → Nat → (Ge) → Nat → Nat → (Ge) → Nat → Nat → (Ge) → Nat → Nat → (Ge) → Nat → Nat → (Ge) → Nat → Nat → (Ge) → ByteArray → Int → Int → Int → Bool → Bool → Option Nat → Option Nat → Option Nat → Int → Int → Int → Int → Int → Int → Int → Int → Option Nat → Option Nat → Option Nat → Bool → Nat → Nat → (Ge) → Int → Bool → Nat → Nat → (Ge) → Int → Bool → Nat → Nat → (Ge) → Int → Bool → Nat → Nat → (Ge) → Int → Option AV) (x3 : Nat → Nat → (Ge) → Int → Int → Int → Nat → Nat → (Ge) → Nat → Nat → (Ge) → Nat → Nat → (Ge) → Nat → Nat → (Ge) → Nat → Nat → (Ge) → Nat → Nat → (Ge) → ByteArray → Int → Int → Int → Bool → Bool → Option Nat → Option Nat → Option Nat → Option AV) => l0_all x0 x1 x2 x3 hG hi hn rfl vx wt wu wv px pv py qaf p9 qab qae qad qag J.n jr jg M.n mr g n (NN - n - 1) 0 (by omega)
    have hsucc := allO_succ J M i
    have hks := ksOf_len (M.kd i) (M.ha i) (M.hb i)
    show glaw19_BarsTrue_l1_step kmade_Sketch_Plan kbars_Springs klaw19_true2 klaw19_exact klaw19_times kref02_Compare klaw19_awake NN (glaw19_BarsTrue_l1 kmade_Sketch_Plan kbars_Springs klaw19_true2 klaw19_exact klaw19_times kref02_Compare klaw19_awake NN kx0 kx1 kx2 kx3 (q + m + 1)) kx0 kx1 kx2 kx3 (allO J M M.n).length (allO J M M.n).length (fun i j => ((allO J M M.n).getD i zS11).getD j .dead) ((allO J M i).length : Int) (i : Int) vx wt wu wv px pv py qaf p9 qab qae qad qag J.n jr jg M.n mr g = _
    unfold glaw19_BarsTrue_l1_step
    rw [decide_eq_true (show (i : Int) < M.n by omega), decide_eq_true (show (0 : Int) ≤ i by omega), Int.toNat_natCast, g0, g1, g2, g3, g4, g5, g6, g7, g8, fitM]
    rw [toI_int, toI_int, toI_int]
    simp only [toS_str, toB_bool, toF_flt, cond_true]
    rw [j1, j2, k1, k2, f32, f32, f32, f32]
    simp only [toI_int]
    rw [hnw, @decide_eq_true _ _ f1, @decide_eq_true _ _ f2, @decide_eq_true _ _ f3', @decide_eq_true _ _ f4]
    iterate 12 rw [ck_true]
    rw [ckb, ckb, ck_true, ck_true]
    have fin : ∀ n : Nat, (ksOf (M.kd i) (M.ha i) (M.hb i)).length = n → glaw19_BarsTrue_l1 kmade_Sketch_Plan kbars_Springs klaw19_true2 klaw19_exact klaw19_times kref02_Compare klaw19_awake NN kx0 kx1 kx2 kx3 (q + m + 1) (allO J M M.n).length (allO J M M.n).length (fun i j => ((allO J M M.n).getD i zS11).getD j .dead) (((allO J M i).length + n : Nat) : Int) (IntKind.i64.wrap ((i : Int) + 1)) vx wt wu wv px pv py qaf p9 qab qae qad qag J.n jr jg M.n mr g = kx3 (allO J M M.n).length (allO J M M.n).length (fun i j => ((allO J M M.n).getD i zS11).getD j .dead) ((allO J M M.n).length : Int) vx wt wu wv px pv py qaf p9 qab qae qad qag J.n jr jg M.n mr g := fun n hn => by
      rw [wrap_s (by omega), show (allO J M i).length + n = (allO J M (i + 1)).length by omega]
      exact ih
    rcases f12 with ⟨a1, a2, a3⟩ | ⟨a1, -⟩
    · have hn : (ksOf (M.kd i) (M.ha i) (M.hb i)).length = 1 := by rw [a1]; rfl
      have c3 : (bif bif M.kd i == 2 then !M.ha i else false then !M.hb i else false) = false := by rw [a1]; rfl
      have c2 : (bif M.kd i == 2 then bif !M.ha i then true else !M.hb i else false) = false := by rw [a1]; rfl
      rw [c3, cond_false, ckb, ck_true, ck_true, c2, cond_false]
      have e := fun x0 x1 x2 x3 => hl0 1 hn x0 x1 x2 x3
      rw [show NN - 1 - 1 + 1 + 1 = NN by unfold NN; omega] at e
      exact (e _ _ _ _).trans (fin 1 hn)
    · rcases Bool.eq_false_or_eq_true (M.ha i) with h1 | h1
      · rcases Bool.eq_false_or_eq_true (M.hb i) with h2 | h2
        · have hn : (ksOf (M.kd i) (M.ha i) (M.hb i)).length = 1 := by rw [a1, h1, h2]; rfl
          have c3 : (bif bif M.kd i == 2 then !M.ha i else false then !M.hb i else false) = false := by rw [a1, h1, h2]; rfl
          have c2 : (bif M.kd i == 2 then bif !M.ha i then true else !M.hb i else false) = false := by rw [a1, h1, h2]; rfl
          rw [c3, cond_false, ckb, ck_true, ck_true, c2, cond_false]
          have e := fun x0 x1 x2 x3 => hl0 1 hn x0 x1 x2 x3
          rw [show NN - 1 - 1 + 1 + 1 = NN by unfold NN; omega] at e
          exact (e _ _ _ _).trans (fin 1 hn)
        · have hn : (ksOf (M.kd i) (M.ha i) (M.hb i)).length = 2 := by rw [a1, h1, h2]; rfl
          have c3 : (bif bif M.kd i == 2 then !M.ha i else false then !M.hb i else false) = false := by rw [a1, h1, h2]; rfl
          have c2 : (bif M.kd i == 2 then bif !M.ha i then true else !M.hb i else false) = true := by rw [a1, h1, h2]; rfl
          rw [c3, cond_false, ckb, ck_true, ck_true, c2, cond_true]
          have e := fun x0 x1 x2 x3 => hl0 2 hn x0 x1 x2 x3
          rw [show NN - 2 - 1 + 2 + 1 = NN by unfold NN; omega] at e
          exact (e _ _ _ _).trans (fin 2 hn)
      · rcases Bool.eq_false_or_eq_true (M.hb i) with h2 | h2
        · have hn : (ksOf (M.kd i) (M.ha i) (M.hb i)).length = 2 := by rw [a1, h1, h2]; rfl
          have c3 : (bif bif M.kd i == 2 then !M.ha i else false then !M.hb i else false) = false := by rw [a1, h1, h2]; rfl
          have c2 : (bif M.kd i == 2 then bif !M.ha i then true else !M.hb i else false) = true := by rw [a1, h1, h2]; rfl
          rw [c3, cond_false, ckb, ck_true, ck_true, c2, cond_true]
          have e := fun x0 x1 x2 x3 => hl0 2 hn x0 x1 x2 x3
          rw [show NN - 2 - 1 + 2 + 1 = NN by unfold NN; omega] at e
          exact (e _ _ _ _).trans (fin 2 hn)
        · have hn : (ksOf (M.kd i) (M.ha i) (M.hb i)).length = 3 := by rw [a1, h1, h2]; rfl
          have c3 : (bif bif M.kd i == 2 then !M.ha i else false then !M.hb i else false) = true := by rw [a1, h1, h2]; rfl
          rw [c3, cond_true]
          have e := fun x0 x1 x2 x3 => hl0 3 hn x0 x1 x2 x3
          rw [show NN - 3 - 1 + 3 + 1 = NN by unfold NN; omega] at e
          exact (e _ _ _ _).trans (fin 3 hn)
end
end Go.Proofs.Tryz
end
section
/- BarsTrue holds of every sketch. -/
namespace Go.Proofs.Tryz
open Go Go.Am Ieee.Pos
set_option maxRecDepth 100000
set_option linter.unusedVariables false
set_option linter.unusedSimpArgs false

theorem okPl (a b : Nat) (g h : Ge) : okM [RS.agg [LK.l 4, LK.l 9]] (some (.agg [.ro 4 a a g, .ro 9 b b h])) = true := by simp [okM, fitRs, fitRS, fitKs, fitK]
theorem okSpr (a : Nat) (g : Ge) (n : Int) : okM [RS.one (LK.l 11), RS.one (LK.i .i64)] (some (.tup [.ro 11 a a g, .int .i64 n])) = true := by simp [okM, fitRs, fitRS, fitKs, fitK]
theorem law3 (N : Int) {a1 a2 : Nat} {a3 : Ge} {b1 b2 : Nat} {b3 : Ge} {c1 c2 : Nat} {c3' : Ge} {d1 d2 : Nat} {d3 : Ge} (hA : IntsG a1 a3) (hB : IntsG b1 b3) (hC : IntsG c1 c3') (hD : FltsG d1 d3) :
    klaw19_BarsTrue [.agg [.int .i64 N, .ro 1 a1 a2 a3, .ro 1 b1 b2 b3, .ro 1 c1 c2 c3', .ro 1 d1 d2 d3]] = some (.bool true) := by
  obtain ⟨n, X, Y, Fx, V, c, hn, hI, hc, hV, hP⟩ := plan_sp N (a2 := a2) (b2 := b2) (c2 := c2) (d2 := d2) hA hB hC hD
  have hJ : JGood X Y Fx n := by
    have := hI.good hn (DX := 0) (DY := 0) (by omega) (by omega)
    simpa using this
  have hG := good_of hn hJ hc hV
  have hS := hG.springs n c (Nat.le_refl _) _ _ (jsS_ok X Y Fx n zJ4) (msS_ok V c zM9)
  have hS' : kbars_Springs [.agg [.ro 4 n n fun i j => ((jl X Y Fx n).getD i zJ4).getD j .dead, .ro 9 c c fun i j => ((ml V c).getD i zM9).getD j .dead]] = some (.tup [.ro 11 (allO (jsS X Y Fx n) (msS V c) c).length (allO (jsS X Y Fx n) (msS V c) c).length fun i j => ((allO (jsS X Y Fx n) (msS V c) c).getD i zS11).getD j .dead, .int .i64 0]) := hS
  show glaw19_BarsTrue kmade_Sketch_Plan kbars_Springs klaw19_true2 klaw19_exact klaw19_times kref02_Compare klaw19_awake NN N a1 a2 a3 b1 b2 b3 c1 c2 c3' d1 d2 d3 = _
  unfold glaw19_BarsTrue
  dsimp only
  rw [hP, okPl, ck_true]
  simp only [gV, tC, Go.Proofs.Tryz.hD, tl, tN1, tR1, tG1]
  rw [hS', okSpr, ck_true]
  simp only [gV, tC, tT, tI, Go.Proofs.Tryz.hD, tl, tN1, tR1, tG1]
  rw [show ((0 : Int) != 0) = false from rfl, cond_false]
  have hl := fun x0 x1 x2 x3 => l1_all x0 x1 x2 x3 hG (jr := n) (mr := c) (jsS_ok X Y Fx n zJ4) (msS_ok V c zM9) N a1 a2 a3 b1 b2 b3 c1 c2 c3' d1 d2 d3 c (NN - c - 1) 0 (by show 0 + c = c; omega)
  rw [show NN - c - 1 + c + 1 = NN by unfold NN; omega] at hl
  refine (hl _ _ _ _).trans ?_
  have e : (((allO (jsS X Y Fx n) (msS V c) (msS V c).n).length : Int) == ((allO (jsS X Y Fx n) (msS V c) (msS V c).n).length : Int)) = true := beq_self_eq_true _
  rw [e, awake9]
  rfl
end Go.Proofs.Tryz
end
section
namespace Go.Proofs.Tryz
open Go Go.Am Ieee.Pos
set_option maxRecDepth 100000
set_option linter.unusedVariables false
set_option linter.unusedSimpArgs false

theorem calls3 {N : Int} {a1 a2 : Nat} {a3 : Ge} {b1 b2 : Nat} {b3 : Ge} {c1 c2 : Nat} {c3' : Ge} {d1 d2 : Nat} {d3 : Ge} (hA : IntsG a1 a3) (hB : IntsG b1 b3) (hC : IntsG c1 c3') (hD : FltsG d1 d3)
    (w : World) (S : Nat → Prop) (hS : ∀ b, S b → b < w.heap.size) (v0 : Value) (h0 : Rd w S none v0 (.agg [.int .i64 N, .ro 1 a1 a2 a3, .ro 1 b1 b2 b3, .ro 1 c1 c2 c3', .ro 1 d1 d2 d3])) :
    Calls prog 3 #[v0] w fun e w' => e = .returned (.bool true) ∧ Ev w.heap.size (fun _ => False) w w' := by
  have hl := law3 N hA hB hC hD (a2 := a2) (b2 := b2) (c2 := c2) (d2 := d2)
  have hrun := oklaw19_BarsTrue.run [.agg [.int .i64 N, .ro 1 a1 a2 a3, .ro 1 b1 b2 b3, .ro 1 c1 c2 c3', .ro 1 d1 d2 d3]] #[v0] w S rfl (fun j u a hu ha => by
    rcases j with _ | j
    · simp at hu ha; subst hu ha; exact h0
    · simp at hu) hS (Glob.nil rfl w S) (by
      show okM Rlaw19_BarsTrue (klaw19_BarsTrue _) = true
      rw [hl]; rfl)
  have hf : prog.funcs[3]? = some f3 := by kernel_rfl
  have hb : f3.body.isSome = true := by kernel_rfl
  obtain ⟨c, hc⟩ := Option.isSome_iff_exists.1 hb
  have hnm : ¬ f3.name = "runtime.NumGoroutine" := by simpa using namesA 3 f3 hf hb
  have hcall : (callFunc 3 #[v0]).run prog w = .ok (.enter 3 #[v0]) w := by simp [callFunc, hf, hc, hnm]
  unfold CallOk at hrun
  rw [hcall] at hrun
  refine hrun.mono fun e w' ⟨v', he, S', h1, _, _, _, h5⟩ => ?_
  have hval : (smM Rlaw19_BarsTrue klaw19_BarsTrue).val [.agg [.int .i64 N, .ro 1 a1 a2 a3, .ro 1 b1 b2 b3, .ro 1 c1 c2 c3', .ro 1 d1 d2 d3]] = .bool true := by
    show valM Rlaw19_BarsTrue (klaw19_BarsTrue _) = _
    rw [hl]; rfl
  rw [hval] at h1
  obtain rfl := rd_bool h1
  exact ⟨he, h5⟩

theorem sizeT : prog.types.size = 215 := by kernel_rfl
theorem laidT : laidOutB prog = true := by kernel_rfl
theorem posT : ∀ t e, t < prog.types.size → prog.underlying t = some (.slice e) → 0 < prog.cellsOf e := by
  have h : ((List.range 215).all fun t => match prog.underlying t with | some (.slice e) => decide (0 < prog.cellsOf e) | _ => true) = true := by kernel_rfl
  intro t e ht hu
  rw [sizeT] at ht
  have := List.all_eq_true.1 h t (by simpa using ht)
  rw [hu] at this
  simpa using this
theorem c3e : prog.cellsOf 3 = 1 := by kernel_rfl
theorem c36 : prog.cellsOf 36 = 1 := by kernel_rfl

section
variable {H : Type}
theorem sh_int {n : Nat} {d : DataW H} {t : TypeId} {k : IntKind} (hu : prog.underlying t = some (.int k)) (h : Sh prog n t d) : ∃ m, avL prog n t d = [.int k m] := by
  cases n with
  | zero => exact h.elim
  | succ n => simp only [Sh, hu] at h; obtain ⟨m, rfl, hw⟩ := h; exact ⟨m, by simp [avL, hu]⟩
theorem sh_flt {n : Nat} {d : DataW H} {t : TypeId} {k : FloatKind} (hu : prog.underlying t = some (.float k)) (h : Sh prog n t d) : ∃ m, (Lit.float k m).wf = true ∧ avL prog n t d = [.flt k (some m)] := by
  cases n with
  | zero => exact h.elim
  | succ n => simp only [Sh, hu] at h; obtain ⟨m, rfl, hw⟩ := h; exact ⟨m, hw, by simp [avL, hu]⟩
theorem sh_ints {n : Nat} {d : DataW H} (h : Sh prog n 22 d) : ∃ k g, avL prog n 22 d = [.ro 1 k k g] ∧ IntsG k g := by
  cases n with
  | zero => exact h.elim
  | succ n =>
    simp only [Sh, underlying22] at h
    rcases h with rfl | ⟨es, sp, rfl, hw, he⟩
    · exact ⟨0, _, by simp only [avL, underlying22, c3e]; rfl, fun i hi => absurd hi (by omega)⟩
    · refine ⟨es.length, _, by simp only [avL, underlying22, c3e]; rfl, fun i hi => ?_⟩
      have hel : Sh prog n 3 (es.getD i .nil) := he _ (by
        have : es.getD i .nil = es[i] := by simp [List.getD, hi]
        rw [this]; exact List.getElem_mem hi)
      obtain ⟨m, e⟩ := sh_int underlying3 hel
      refine ⟨m, ?_⟩
      rw [e]; rfl
theorem sh_flts {n : Nat} {d : DataW H} (h : Sh prog n 23 d) : ∃ k g, avL prog n 23 d = [.ro 1 k k g] ∧ FltsG k g := by
  cases n with
  | zero => exact h.elim
  | succ n =>
    simp only [Sh, underlying23] at h
    rcases h with rfl | ⟨es, sp, rfl, hw, he⟩
    · exact ⟨0, _, by simp only [avL, underlying23, c36]; rfl, fun i hi => absurd hi (by omega)⟩
    · refine ⟨es.length, _, by simp only [avL, underlying23, c36]; rfl, fun i hi => ?_⟩
      have hel : Sh prog n 36 (es.getD i .nil) := he _ (by
        have : es.getD i .nil = es[i] := by simp [List.getD, hi]
        rw [this]; exact List.getElem_mem hi)
      obtain ⟨m, hw, e⟩ := sh_flt underlying36 hel
      refine ⟨m, ?_, by simpa [Lit.wf] using hw⟩
      rw [e]; rfl
theorem sh_sketch {n : Nat} {d : DataW H} (h : Sh prog n 25 d) : ∃ N k1 g1 k2 g2 k3 g3 k4 g4, avL prog n 25 d = [.int .i64 N, .ro 1 k1 k1 g1, .ro 1 k2 k2 g2, .ro 1 k3 k3 g3, .ro 1 k4 k4 g4] ∧ IntsG k1 g1 ∧ IntsG k2 g2 ∧ IntsG k3 g3 ∧ FltsG k4 g4 := by
  cases n with
  | zero => exact h.elim
  | succ n =>
    simp only [Sh, underlying25] at h
    obtain ⟨ds, rfl, hl, hf⟩ := h
    obtain ⟨d0, d1, d2, d3, d4, rfl⟩ : ∃ a b c d e, ds = [a, b, c, d, e] := by
      match ds, hl with
      | [a, b, c, d, e], _ => exact ⟨a, b, c, d, e, rfl⟩
    obtain ⟨N, e0⟩ := sh_int underlying3 (hf 0 _ _ rfl rfl)
    obtain ⟨k1, g1, e1, o1⟩ := sh_ints (hf 1 _ _ rfl rfl)
    obtain ⟨k2, g2, e2, o2⟩ := sh_ints (hf 2 _ _ rfl rfl)
    obtain ⟨k3, g3, e3, o3⟩ := sh_ints (hf 3 _ _ rfl rfl)
    obtain ⟨k4, g4, e4, o4⟩ := sh_flts (hf 4 _ _ rfl rfl)
    refine ⟨N, k1, g1, k2, g2, k3, g3, k4, g4, ?_, o1, o2, o3, o4⟩
    simp only [avL, underlying25]
    simp only [List.zip_cons_cons, List.zip_nil_right, List.flatMap_cons, List.flatMap_nil, e0, e1, e2, e3, e4]
    rfl
end
end Go.Proofs.Tryz
end
