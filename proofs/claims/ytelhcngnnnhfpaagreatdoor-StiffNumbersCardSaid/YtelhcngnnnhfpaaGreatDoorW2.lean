/- Part 2 of the proof: the abstract machine and its soundness. -/
import Derived.Test.YtelhcngnnnhfpaaGreatDoorW1
import Derived.Laws.IdiomCopy
import Derived.Deep.LoopGhost
set_option linter.unusedVariables false
set_option linter.unusedSimpArgs false
set_option linter.unusedSectionVars false
section
/- The abstract machine: maps are made and written; texts are ranged over. -/
namespace Go.Am
section
variable {P : Program} {w w' : World} {S S' Own : Nat → Prop} {l : List Tk} {h : List Blk}

theorem makeMap_ok {ρ : Operand → Value} {o : Oper} {t : TypeId} (H : HRel w S Own l h) (hrun : execOp ρ o = (do Pure.pure (Next.value (← Instr.makeMap t none)))) :
    MOk P ρ o w S Own l ⟨[],.mp h.length,h ++ [.mp []],[]⟩ := by
  have hlen := H.len
  have hb : BRel (w.alloc (.map #[] 0)) S Own (l ++ [(some w.heap.size,0)]) (some w.heap.size,0) (.mp []) :=
    ⟨w.heap.size,#[],0,rfl,heap_alloc_at w _,⟨rfl,by simp⟩,H.notS_size,H.own _ (Nat.le_refl _)⟩
  refine ⟨_,.map (some w.heap.size),w.alloc (.map #[] 0),S,l ++ [(some w.heap.size,0)],?_,.inl rfl,H.push hb,.mp _ _ _ 0 (by rw [← hlen]; simp),.alloc H _ _ (fun _ h => h) (fun _ h => .inl h)⟩
  rw [hrun]
  rfl

theorem range_ok {ρ : Operand → Value} {o : Oper} {t : TypeId} {x : Value} {s : ByteArray} (H : HRel w S Own l h) (hrun : execOp ρ o = (do Pure.pure (Next.value (← Instr.range t x)))) (hu : P.underlying t = some .string) (hx : x = .string s) :
    MOk P ρ o w S Own l ⟨[],.ptr h.length 0,h ++ [.it s 0],[]⟩ := by
  have hlen := H.len
  subst hx
  have hb : BRel (w.alloc (.stringIter s 0)) S Own (l ++ [(some w.heap.size,1)]) (some w.heap.size,1) (.it s 0) :=
    ⟨w.heap.size,rfl,heap_alloc_at w _,H.notS_size,H.own _ (Nat.le_refl _)⟩
  refine ⟨_,.pointer (some ⟨w.heap.size,0,none⟩),w.alloc (.stringIter s 0),S,l ++ [(some w.heap.size,1)],?_,.inl rfl,H.push hb,.ptr _ _ _ _ 1 (by rw [← hlen]; simp),.alloc H _ _ (fun _ h => h) (fun _ h => .inl h)⟩
  rw [hrun]
  unfold Instr.range
  simp only [Sem.run_bind,run_underlying hu w,Result.andThen_ok,Sem.run_pure]
  rfl

theorem HRel.it {t : Nat} {s : ByteArray} {pos : Nat} {b N : Nat} (H : HRel w S Own l h) (hk : hget h t = .it s pos) (hm : l[t]? = some (some b,N)) :
    N = 1 ∧ w.heap[b]? = some (.stringIter s pos) ∧ ¬ S b ∧ Own b := by
  have := H.blk t _ _ hm (hget_some hk rfl)
  obtain ⟨b', h1,h2,h4,h5⟩ := this
  simp only [Prod.mk.injEq,Option.some.injEq] at h1
  obtain ⟨rfl,rfl⟩ := h1
  exact ⟨rfl,h2,h4,h5⟩

theorem pres_put {b : Nat} {o o' : Obj} (hn : ¬ S b) (hb : w.heap[b]? = some o) (hc : ∀ c e f,o ≠ .cells c e f) : Pres S w { w with heap := w.heap.setIfInBounds b o' } := by
  have hlt := heap_lt hb
  refine ⟨fun b' hb' => ?_,fun b' c e f hb' => ?_⟩
  · exact Array.getElem?_setIfInBounds_ne (by rintro rfl; exact hn hb')
  · by_cases he : b' = b
    · subst he
      rw [hb] at hb'
      simp only [Option.some.injEq] at hb'
      exact absurd hb' (hc _ _ _)
    · exact ⟨c,f,by rw [show ({ w with heap := w.heap.setIfInBounds b o' } : World).heap[b']? = w.heap[b']? from Array.getElem?_setIfInBounds_ne (fun e => he e.symm)]; exact hb', rfl⟩

theorem chg_put {b : Nat} {o o' : Obj} (hn : ¬ S b) (hO : Own b) (hb : w.heap[b]? = some o) (hc : ∀ c e f,o ≠ .cells c e f) : Chg Own S S l l [] w { w with heap := w.heap.setIfInBounds b o' } :=
  ⟨rfl,rfl,rfl,by simp,fun b' hb' => Array.getElem?_setIfInBounds_ne (by rintro rfl; exact hb' hO),fun _ h => h,fun _ h => .inl h,pres_put hn hb hc,Nat.le_refl _,agr_refl _ _⟩

theorem put_other {b b' : Nat} {o' : Obj} (h : b' ≠ b) : ({ w with heap := w.heap.setIfInBounds b o' } : World).heap[b']? = w.heap[b']? := Array.getElem?_setIfInBounds_ne (fun e => h e.symm)
theorem put_self {b : Nat} {o o' : Obj} (hb : w.heap[b]? = some o) : ({ w with heap := w.heap.setIfInBounds b o' } : World).heap[b]? = some o' := by
  have hlt := heap_lt hb
  show (w.heap.setIfInBounds b o')[b]? = some o'
  simp [hlt]

theorem mapUpdate_ok {ρ : Operand → Value} {o : Oper} {t kt et : TypeId} {x k v : Value} {t' : Nat} {a b : AV} {es : List (AV × AV)} (H : HRel w S Own l h)
    (hrun : execOp ρ o = (do Instr.mapUpdate t x k v; Pure.pure Next.skip)) (ht : P.underlying t = some (.map kt et)) (hx : Rd w S (some l) x (.mp t')) (hk : Rd w S (some l) k a) (hv : Rd w S (some l) v b)
    (h1 : scal a = true) (h2 : scal b = true) (hm : hget h t' = .mp es) (c1 : keyOk P kt a = true) (c2 : mapFit P kt a es = true) (c3 : (findM P kt a es).isSome = false) :
    MOk P ρ o w S Own l ⟨[keyOk P kt a,mapFit P kt a es,!(findM P kt a es).isSome],.dead,hset h t' (.mp (es ++ [(a,b)])),[]⟩ := by
  obtain ⟨r,N,rfl,hl⟩ := rd_mp hx
  obtain ⟨rfl,E,clk,hb,hE,hnS,hO⟩ := H.mp hm hl
  have hu : P.underlying kt = some (desc P kt) := by
    have k1 := c1
    unfold keyOk at k1
    cases hkt : desc P kt <;> simp only [hkt] at k1 <;> try (cases k1; done)
    all_goals exact und_of_desc hkt (by simp)
  obtain ⟨q,f1,f2⟩ := findKey_ok (P := P) hu hk (ents_list hE) c2
  have hck := checkKey_ok (P := P) (w := w) (S := S) false 9998 hu hk c1
  have hq : q = none := by
    rcases f2 with ⟨_,e⟩ | ⟨v', j,u,e,_⟩
    · exact e
    · rw [e] at c3; cases c3
  subst hq
  have hc : ∀ c e f,Obj.map E clk ≠ .cells c e f := by intro c e f h; cases h
  refine ⟨_,undef,{ w with heap := w.heap.setIfInBounds r (.map (E.push ⟨k,v,clk⟩) (clk + 1)) },S,l,?_,.inr ⟨rfl,rfl⟩,H.setAny hl (hget_some hm rfl) rfl (pres_put hnS hb hc) (by simp) (fun b' hb' => put_other hb') ?_,.dead _ _,chg_put hnS hO hb hc⟩
  · rw [hrun]
    unfold Instr.mapUpdate
    simp only [Sem.run_bind,run_underlying ht w,Result.andThen_ok,MapKept.run_getObj_map hb,hck,f1,MapKept.run_setObj_map _ hb,Sem.run_pure]
  · refine ⟨r,E.push ⟨k,v,clk⟩,clk + 1,rfl,put_self hb,⟨by simp [hE.1],fun j e p he hp => ?_⟩,hnS,hO⟩
    have hE' := hE.pres (pres_put (o' := .map (E.push ⟨k,v,clk⟩) (clk + 1)) hnS hb hc) (fun _ h => h)
    rcases append_get hp with hp | ⟨rfl,rfl⟩
    · have hj : j < es.length := (List.getElem?_eq_some_iff.1 hp).1
      rw [Array.getElem?_push_lt (by have := hE.1; omega)] at he
      exact hE'.2 j e p (by rw [Array.getElem?_eq_getElem (by have := hE.1; omega)]; exact he) hp
    · rw [← hE.1] at he
      simp only [Array.getElem?_push_size,Option.some.injEq] at he
      subst he
      exact ⟨scal_rd hk h1,scal_rd hv h2⟩

theorem nxt_ok {g : Operand → AV} {ρ : Operand → Value} {o : Oper} {c : Bool} {r1 r2 : MR} (H : HRel w S Own l h) (hg : ∀ x,Rd w S (some l) (ρ x) (g x)) (hq : nxt h g o = some (c,r1,r2)) :
    MOk P ρ o w S Own l (bif c then r1 else r2) ∧ (∀ x ∈ r1.ok,x = true) ∧ (∀ x ∈ r2.ok,x = true) := by
  obtain ⟨dst,op,type,pos', after,guard⟩ := o
  cases op <;> simp only [nxt] at hq <;> try (cases hq; done)
  rename_i x str
  cases str <;> simp only at hq <;> try (cases hq; done)
  have hx := hg x
  cases hgx : g x <;> simp only [hgx] at hq hx <;> try (cases hq; done)
  rename_i t off
  cases off <;> simp only at hq <;> try (cases hq; done)
  cases hk : hget h t <;> simp only [hk] at hq <;> try (cases hq; done)
  rename_i s pos
  simp only [Option.some.injEq,Prod.mk.injEq] at hq
  obtain ⟨rfl,rfl,rfl⟩ := hq
  refine ⟨?_,by simp,by simp⟩
  obtain ⟨b,N,e,hm⟩ := rd_ptr hx
  obtain ⟨rfl,hb,hnS,hO⟩ := H.it hk hm
  have hgo : (getObj b).run P w = .ok (.stringIter s pos) w := by simp [getObj,Sem.run,hb]
  have hc : ∀ c e f,Obj.stringIter s pos ≠ .cells c e f := by intro c e f h; cases h
  cases hlt : Nat.blt pos s.size <;> simp only [cond_true,cond_false]
  · have hn : ¬ pos < s.size := fun h' => by
      rw [← Nat.blt_eq] at h'; rw [h'] at hlt; cases hlt
    refine ⟨_,.tuple #[.bool false],w,S,l,?_,.inl rfl,H,.tup _ _ _ rfl (fun j u a hu ha => ?_),.same rfl rfl rfl rfl⟩
    · simp only [execOp,Instr.next,e,Sem.run_bind,hgo,Result.andThen_ok,hn,if_false,Sem.run_pure]
    · rcases j with _ | j
      · simp at hu ha; subst hu ha; exact .bool _ _
      · simp at ha
  · have hn : pos < s.size := by simpa using hlt
    refine ⟨_,.tuple #[.bool true,goInt pos,.int .i32 (Utf8.decode s pos).1],{ w with heap := w.heap.setIfInBounds b (.stringIter s (pos + (Utf8.decode s pos).2)) },S,l,?_,.inl rfl,
      H.setAny hm (hget_some hk rfl) rfl (pres_put hnS hb hc) (by simp) (fun b' hb' => put_other hb') ⟨b,rfl,put_self hb,hnS,hO⟩,.tup _ _ _ rfl (fun j u a hu ha => ?_),chg_put hnS hO hb hc⟩
    · simp only [execOp,Instr.next,e,Sem.run_bind,hgo,Result.andThen_ok,hn,if_true,Sem.run_pure]
      simp [setObj,Sem.run,hb]
    · rcases j with _ | _ | _ | j
      · simp at hu ha; subst hu ha; exact .bool _ _
      · simp at hu ha; subst hu ha; exact .int _ _ _
      · simp at hu ha; subst hu ha; exact .int _ _ _
      · simp at ha
end
end Go.Am
end
section
/- The abstract machine: append. -/
namespace Go.Am
section
variable {P : Program} {w w' : World} {S S' Own : Nat → Prop} {l : List Tk} {h : List Blk}

theorem BRel.kill {x0 : Tk} {k : Blk} (hk : BRel w S Own l x0 k) (t : Nat) (x : Tk) : BRel w S Own (l.set t x) x0 (killB t k) := by
  cases k with
  | gone => trivial
  | box cs =>
    obtain ⟨b,c,e,h0,h1,h2,h3,h4,h5⟩ := hk
    refine ⟨b,c,e,by simpa [killPL_eq] using h0,h1,by simpa [killPL_eq] using h2,fun j u a hu ha => ?_,h4,h5⟩
    rw [killPL_eq,List.getElem?_map,Option.map_eq_some_iff] at ha
    obtain ⟨a', ha', rfl⟩ := ha
    exact (h3 j u a' hu ha').kill t x
  | fx sz z els => exact hk
  | fl sz z els => exact hk
  | it s pos => exact hk
  | mp es => exact hk

theorem killB_live (t : Nat) (k : Blk) : (killB t k).live = k.live := by cases k <;> rfl

/-- A token stands for another block from now on; nothing else speaks of it any more. -/
theorem HRel.renew (H : HRel w S Own l h) {t : Nat} {x : Tk} {k' : Blk} (hp : Pres S w w') (hsz : w.heap.size ≤ w'.heap.size)
    (hoth : ∀ (t' : Nat) x0 k b,t' ≠ t → l[t']? = some x0 → h[t']? = some k → k.live = true → x0.1 = some b → w'.heap[b]? = w.heap[b]? ∧ x.1 ≠ some b)
    (hx : BRel w' S Own (l.set t x) x k') (hxb : ∀ b,x.1 = some b → b < w'.heap.size) (hown : ∀ b,w'.heap.size ≤ b → Own b) :
    HRel w' S Own (l.set t x) (((hset h t .gone).map (killB t)).set t k') := by
  have get : ∀ {t' : Nat} {k1 : Blk},(((hset h t .gone).map (killB t)).set t k')[t']? = some k1 → (t' = t ∧ k1 = k') ∨ (t' ≠ t ∧ ∃ k2,h[t']? = some k2 ∧ k1 = killB t k2) := by
    intro t' k1 hk1
    by_cases e : t' = t
    · subst e
      left
      rw [List.getElem?_set] at hk1
      simp only [if_true] at hk1
      split at hk1
      · simp at hk1; exact ⟨rfl,hk1.symm⟩
      · cases hk1
    · right
      rw [List.getElem?_set_ne (fun e' => e e'.symm),List.getElem?_map,Option.map_eq_some_iff] at hk1
      obtain ⟨k2,hk2,rfl⟩ := hk1
      rcases hset_get hk2 with ⟨rfl,_⟩ | ⟨_,hk2⟩
      · exact absurd rfl e
      · exact ⟨e,k2,hk2,rfl⟩
  refine ⟨by simp [hset,H.len],fun t' x0 k1 hx0 hk1 => ?_,?_,fun b hb => Nat.lt_of_lt_of_le (H.bd b hb) hsz,fun t' b N hm => ?_,hown⟩
  · rcases get hk1 with ⟨rfl,rfl⟩ | ⟨hne,k2,hk2,rfl⟩
    · have : t' < l.length := by
        have := (List.getElem?_eq_some_iff.1 hx0).1; simpa using this
      rw [List.getElem?_set_self this] at hx0
      simp only [Option.some.injEq] at hx0
      subst hx0; exact hx
    · rw [List.getElem?_set_ne (fun e => hne e.symm)] at hx0
      cases hl : k2.live with
      | false => cases k2 <;> simp [Blk.live] at hl; trivial
      | true =>
        have := (H.blk t' x0 k2 hx0 hk2).kill t x
        exact this.move hp (fun _ h => h) ⟨[],by simp⟩ (fun b hb => (hoth t' x0 k2 b hne hx0 hk2 hl hb).1) (fun _ _ h => h)
  · intro t1 t2 b N1 N2 k1 k2 hm1 hm2 hk1 hk2 l1 l2
    have back : ∀ {t' : Nat} {N : Nat},t' ≠ t → (l.set t x)[t']? = some (some b,N) → l[t']? = some (some b,N) := by
      intro t' N hne hm
      rwa [List.getElem?_set_ne (fun e => hne e.symm)] at hm
    have self : ∀ {N : Nat},(l.set t x)[t]? = some (some b,N) → x.1 = some b := by
      intro N hm
      have : t < l.length := by
        have := (List.getElem?_eq_some_iff.1 hm).1; simpa using this
      rw [List.getElem?_set_self this] at hm
      simp only [Option.some.injEq] at hm
      rw [hm]
    rcases get hk1 with ⟨rfl,rfl⟩ | ⟨hne1,q1,hq1,rfl⟩ <;> rcases get hk2 with ⟨rfl,rfl⟩ | ⟨hne2,q2,hq2,rfl⟩
    · rfl
    · rw [killB_live] at l2
      exact absurd (self hm1) (hoth t2 _ q2 b hne2 (back hne2 hm2) hq2 l2 rfl).2
    · rw [killB_live] at l1
      exact absurd (self hm2) (hoth t1 _ q1 b hne1 (back hne1 hm1) hq1 l1 rfl).2
    · rw [killB_live] at l1 l2
      exact H.inj t1 t2 b N1 N2 q1 q2 (back hne1 hm1) (back hne2 hm2) hq1 hq2 l1 l2
  · by_cases e : t' = t
    · subst e
      have : t' < l.length := by
        have := (List.getElem?_eq_some_iff.1 hm).1; simpa using this
      rw [List.getElem?_set_self this] at hm
      simp only [Option.some.injEq] at hm
      exact hxb b (by rw [hm])
    · rw [List.getElem?_set_ne (fun e' => e e'.symm)] at hm
      exact Nat.lt_of_lt_of_le (H.lbd t' b N hm) hsz

/-! ### the built-in itself -/
theorem growBy_le (newLen : Nat) : ∀ (r c : Nat),c ≤ 2 * newLen + 200 → Builtin.growBy newLen r c ≤ 2 * newLen + 200 := by
  intro r
  induction r with
  | zero => intro c hc; exact hc
  | succ r ih =>
    intro c hc
    unfold Builtin.growBy
    split
    · exact hc
    · exact ih _ (by omega)

theorem nextcap_le {need cap : Nat} (h : cap < need) : Builtin.nextslicecap need cap ≤ 2 * need + 200 := by
  unfold Builtin.nextslicecap
  split
  · omega
  · split
    · omega
    · exact growBy_le _ _ _ (by omega)

section run
variable {t t2 e e2 : TypeId}

theorem run_append_head (ht : P.underlying t = some (.slice e)) (ht2 : P.underlying t2 = some (.slice e2)) (he : has P e = true) (ty : TypeId) {sb xb : Option Addr} {n cap m xc : Nat} (hle : n + m ≤ cap) :
    (Builtin.append_ #[t,t2] ty #[.slice sb n cap,.slice xb m xc]).run P w =
      ((Builtin.firstCells (tsz P e) m (.slice xb m xc)).run P w).andThen fun new w' =>
        ((match sb with | some a => storeCells (a.add (n * tsz P e)) new.toList | none => pure ()).run P w').andThen fun _ w'' => .ok (.slice sb (n + m) cap) w'' := by
  simp [Builtin.append_,run_underlying ht w,run_underlying ht2 w,run_sz he,Builtin.lenOf,hle]
  cases sb <;> simp

theorem run_append_grow (ht : P.underlying t = some (.slice e)) (ht2 : P.underlying t2 = some (.slice e2)) (he : has P e = true) (ty : TypeId) {sb xb : Option Addr} {n cap m xc : Nat} (hgt : cap < n + m)
    (hby : tby P e < 2 ^ 30) (hb : (n + m) * tby P e < 2 ^ 46) (h62 : n + m < 2 ^ 62) {old new : Array Value} {z : Value} (hold : ∀ w' : World,w'.heap = w.heap → (Builtin.firstCells (tsz P e) n (.slice sb n cap)).run P w' = .ok old w')
    (hnew : ∀ w' : World,w'.heap = w.heap → (Builtin.firstCells (tsz P e) m (.slice xb m xc)).run P w' = .ok new w') (hz : ∀ w' : World,(zeroValue e).run P w' = .ok z w') :
    ∃ newCap,n + m ≤ newCap ∧ (Builtin.append_ #[t,t2] ty #[.slice sb n cap,.slice xb m xc]).run P w =
      .ok (.slice (some ⟨w.heap.size,0,none⟩) (n + m) newCap) (w.drew.alloc (.cells (old ++ new ++ Builtin.zeroCells z.cells (newCap - (n + m))) e)) := by
  have hi : ∃ i,P.info? e = some i ∧ i.bytes = tby P e := by
    unfold has at he
    cases hi : P.info? e with
    | none => simp [hi] at he
    | some i => exact ⟨i,rfl,by simp [tby,hi]⟩
  obtain ⟨i,hi1,hi2⟩ := hi
  have h1 : ¬ ((n + m : Nat) : Int) > IntKind.i64.max := by
    have : IntKind.i64.max = 2 ^ 63 - 1 := rfl
    rw [this]; omega
  have h2 : ¬ Builtin.nextslicecap (n + m) cap * tby P e > 2 ^ 48 := by
    have h3 := nextcap_le hgt
    have h5 : Builtin.nextslicecap (n + m) cap * tby P e ≤ (2 * (n + m) + 200) * tby P e := Nat.mul_le_mul_right _ h3
    rw [Nat.add_mul,Nat.mul_assoc] at h5
    omega
  have h0 : ¬ n + m ≤ cap := by omega
  refine ⟨(Question.appendCap (n + m) cap e).cut (w.tape w.drawn (.appendCap (n + m) cap e)),by simp [Question.cut],?_⟩
  have hold' := hold w.drew rfl
  have hnew' := hnew w.drew rfl
  have hz' := hz w.drew
  simp [Builtin.append_,run_underlying ht w,run_underlying ht2 w,run_sz he,Builtin.lenOf,h0,typeInfo,hi1,hi2,h2,Question.forced,hold', hnew', hz', newRow]
  intro h _
  omega
end run

theorem zeroCells_size (z : Array Value) (n : Nat) : (Builtin.zeroCells z n).size = n * z.size := by simp [Builtin.zeroCells]

theorem u_seg {sz m : Nat} {u : Nat → Nat → Value} {get : Nat → Nat → AV} (hpos : 0 < sz) (hr : ∀ i j,i < m → j < sz → RdC w S (u i j) (get i j)) :
    Seg w S sz ((List.range (m * sz)).map fun q => u (q / sz) (q % sz)) (rows sz m get) := Seg.rows hr hpos

theorem copySl_ok {ρ : Operand → Value} {o : Oper} {t t2 e ty : TypeId} {x d : Value} {a : AV} {t' off m cap n rd : Nat} {get : Nat → Nat → AV} {z : List AV} {els : List (List AV)} (H : HRel w S Own l h)
    (hrun : execOp ρ o = (do Pure.pure (Next.value (← Builtin.copy_ #[t,t2] ty #[d,x])))) (ht : P.underlying t = some (.slice e)) (he : has P e = true) (h1 : tsz P e = 1)
    (hx : Rd w S (some l) x a) (hd : Rd w S (some l) d (.own t' off 1 m cap)) (hf : frz h 4 a = .ro 1 n rd get) (hk : hget h t' = .fx 1 z els) :
    MOk P ρ o w S Own l ⟨[],.int .i64 (Nat.min n m : Nat),hset h t' (.fx 1 z (els.take off ++ rows 1 (Nat.min n m) get ++ els.drop (off + Nat.min n m))),[]⟩ := by
  have hinf : (P.info? e).map (·.size) = some 1 := by
    unfold has at he
    unfold tsz at h1
    cases hi : P.info? e with
    | none => simp [hi] at he
    | some i => simpa [hi] using h1
  obtain ⟨xb,xc,u,rfl,hcell,hr⟩ := src_ok H hx hf
  obtain ⟨bk,N,rfl,hm,hn,hN⟩ := rd_own hd
  obtain ⟨rfl,c,e', hb,hcs,hE,hnS,hO⟩ := H.fx hk hm
  generalize hK : Nat.min n m = K
  have hKn : K ≤ n := by rw [← hK]; exact Nat.min_le_left _ _
  have hKm : K ≤ m := by rw [← hK]; exact Nat.min_le_right _ _
  by_cases h0 : K = 0
  · subst h0
    have hels : els.take off ++ rows 1 0 get ++ els.drop (off + 0) = els := by simp [rows]
    rw [hels]
    have hset : hset h t' (.fx 1 z els) = h := by
      have hg := hget_some hk rfl
      unfold Am.hset
      apply List.ext_getElem?
      intro j
      by_cases e : t' = j
      · subst e
        rw [List.getElem?_set_self (List.getElem?_eq_some_iff.1 hg).1,hg]
      · rw [List.getElem?_set_ne e]
    rw [hset]
    refine ⟨_,goInt 0,w,S,l,?_,.inl rfl,H,.int _ _ _,.same rfl rfl rfl rfl⟩
    rw [hrun]
    have := run_copy_none (P := P) w t t2 ty e (some ⟨bk,off * 1,none⟩) xb m cap n xc ht hinf hK
    simp only [Sem.run_bind,this,Result.andThen_ok]
    rfl
  · obtain ⟨ad,rfl,hc2⟩ := hcell (by omega)
    have hseg0 : Seg w S 1 c.toList els := by
      have := hE.seg (by omega)
      rwa [← hcs,List.take_of_length_le (by simp)] at this
    have hr' : ∀ i j,i < K → j < 1 → RdC w S (u i j) (get i j) := fun i j hi hj => hr i j (by omega) hj
    have hnews := u_seg (w := w) (S := S) (sz := 1) (by omega) hr'
    generalize hvals : ((List.range (K * 1)).map fun q => u (q / 1) (q % 1)) = vals at hnews
    have hlv : vals.length = K := by rw [← hvals]; simp
    have hseg : Seg w S 1 (c.toList.take (off * 1) ++ vals ++ c.toList.drop ((off + K) * 1)) (els.take off ++ rows 1 K get ++ els.drop (off + K)) :=
      ((hseg0.take off (by omega)).append hnews).append (hseg0.drop (off + K) (by omega))
    have hlen' : (els.take off ++ rows 1 K get ++ els.drop (off + K)).length = els.length := by simp [rows]; omega
    have hnv : ((c.toList.take (off * 1) ++ vals ++ c.toList.drop ((off + K) * 1)).toArray).size = c.size := by
      have := hseg.1
      rw [List.size_toArray,this,hlen', hcs]
    have hp : Pres S w (w.setRow bk (c.toList.take (off * 1) ++ vals ++ c.toList.drop ((off + K) * 1)).toArray) := .setRow hnS hb hnv
    refine ⟨_,goInt K,_,S,l,?_,.inl rfl,
      H.setBlk (k' := .fx 1 z (els.take off ++ rows 1 K get ++ els.drop (off + K))) hm (hget_some hk rfl) rfl hb hnv hnS ?_,.int _ _ _,.setRow hnS hO hb hnv (fun _ h => h) (fun _ h => .inl h)⟩
    · rw [hrun]
      have h2 := run_copy_row (P := P) w t t2 ty e bk (off * 1) m cap ad n xc c e' vals ht hinf hb (by rw [hlv,hK]) (fun j v hj => by
        have hjK : j < K := by rw [← hlv]; exact (List.getElem?_eq_some_iff.1 hj).1
        rw [← hvals,List.getElem?_map,Nat.mul_one,List.getElem?_range hjK] at hj
        simp only [Option.map_some,Option.some.injEq,Nat.div_one,Nat.mod_one] at hj
        have := hc2 j 0 (by omega) (by omega)
        rw [← hj]
        simpa using this) (by rw [hlv,hcs]; omega) (fun v hv => by
        rw [← hvals,List.mem_map] at hv
        obtain ⟨q,hq,rfl⟩ := hv
        rw [List.mem_range] at hq
        exact (hr' (q / 1) (q % 1) (by simpa using hq) (Nat.mod_lt _ (by omega))).2)
      rw [hlv] at h2
      have e9 : (off + K) * 1 = off * 1 + K := by omega
      rw [e9]
      simp only [Sem.run_bind,h2,Result.andThen_ok]
      rfl
    · exact ⟨bk,_,e', by rw [hlen'],setRow_heap w bk c _ e' _ hb,by rw [hnv,hlen']; exact hcs,(by simpa using hseg.els (rest := []) : Els w S _ _ _).pres hp (fun _ h => h),hnS,hO⟩

theorem apSl_ok {ρ : Operand → Value} {o : Oper} {t t2 e e2 ty : TypeId} {x s : Value} {a b : AV} {n rd : Nat} {get : Nat → Nat → AV} {r : MR} (H : HRel w S Own l h)
    (hrun : execOp ρ o = (do Pure.pure (Next.value (← Builtin.append_ #[t,t2] ty #[s,x])))) (ht : P.underlying t = some (.slice e)) (ht2 : P.underlying t2 = some (.slice e2))
    (he : has P e = true) (hpos : 0 < tsz P e) (hz : zok P e = true) (hby : tby P e < 2 ^ 30) (hx : Rd w S (some l) x a) (hs : Rd w S (some l) s b) (hf : frz h 4 a = .ro (tsz P e) n rd get)
    (hq : apSl P h e (tsz P e) n (rows (tsz P e) n get) b = some r) (hc : ∀ c ∈ r.ok,c = true) : MOk P ρ o w S Own l r := by
  have hlen := H.len
  obtain ⟨xb,xc,u,rfl,hcell,hr⟩ := src_ok H hx hf
  obtain ⟨z,hz1,hz2,hz3,hz4⟩ := zseg (P := P) (w := w) (S := S) hz
  have hzr : ∀ w' : World,(zeroValue e).run P w' = .ok z w' := by
    intro w'
    obtain ⟨z', h1,_⟩ := zok_run (w := w') (S := S) (m := none) hz
    have e1 : (zeroValue e).run P w = .ok z' w := by
      unfold zok at hz
      cases hi : P.info? e with
      | none => simp [hi] at hz
      | some i =>
        cases hzz : i.zero with
        | none => simp [hi,hzz] at hz
        | some v =>
          simp [zeroValue,typeInfo,hi,hzz] at h1 ⊢
          exact h1
    rw [e1] at hz1
    simp only [Result.ok.injEq] at hz1
    rw [← hz1.1]; exact h1
  have hnews := u_seg (w := w) (S := S) hpos hr
  have hlv : ((List.range (n * tsz P e)).map fun q => u (q / tsz P e) (q % tsz P e)).length = n * tsz P e := by simp
  generalize hvals : ((List.range (n * tsz P e)).map fun q => u (q / tsz P e) (q % tsz P e)) = vals at hnews hlv
  have hfirst : ∀ w' : World,w'.heap = w.heap → (Builtin.firstCells (tsz P e) n (.slice xb n xc)).run P w' = .ok vals.toArray w' := by
    intro w' hw'
    rw [← hvals]
    refine run_firstCells (w := w') hpos (fun h0 => ?_) n
    obtain ⟨ad,e1,h2⟩ := hcell h0
    exact ⟨ad,e1,fun i j hi hj => by unfold World.cell?; rw [hw']; exact h2 i j hi hj⟩
  have hnl : (rows (tsz P e) n get).length = n := by simp [rows]
  generalize rows (tsz P e) n get = news at *
  -- what a growth comes to
  have grow : ∀ (sb : Option Addr) (N cap : Nat) (old : List Value) (els : List (List AV)),cap < N + n → (N + n) * tby P e < 2 ^ 46 → N + n < 2 ^ 62 → Seg w S (tsz P e) old els → els.length = N →
      (∀ w' : World,w'.heap = w.heap → (Builtin.firstCells (tsz P e) N (.slice sb N cap)).run P w' = .ok old.toArray w') →
      ∃ newCap c,N + n ≤ newCap ∧ (Builtin.append_ #[t,t2] ty #[.slice sb N cap,.slice xb n xc]).run P w = .ok (.slice (some ⟨w.heap.size,0,none⟩) (N + n) newCap) (w.drew.alloc (.cells c e)) ∧
        newCap * tsz P e ≤ c.size ∧ (els ++ news).length * tsz P e ≤ c.size ∧ Els w S c (tsz P e) (els ++ news) := by
    intro sb N cap old els h1 h2 h3 h4 h5 h6
    obtain ⟨newCap,h7,h8⟩ := run_append_grow (P := P) (w := w) ht ht2 he ty h1 hby h2 h3 h6 hfirst hzr
    have hsz : (old.toArray ++ vals.toArray ++ Builtin.zeroCells z.cells (newCap - (N + n))).size = newCap * tsz P e := by
      have := h4.1
      simp only [Array.size_append,List.size_toArray,hlv,zeroCells_size,hz2,this,h5]
      rw [← Nat.add_mul,← Nat.add_mul]
      congr 1
      omega
    refine ⟨newCap,_,h7,h8,by rw [hsz]; exact Nat.le_refl _,?_,?_⟩
    · rw [hsz,List.length_append,h5,hnl]
      exact Nat.mul_le_mul_right _ h7
    · have := (h4.append hnews).els (rest := (Builtin.zeroCells z.cells (newCap - (N + n))).toList)
      have e1 : (old ++ vals ++ (Builtin.zeroCells z.cells (newCap - (N + n))).toList).toArray = old.toArray ++ vals.toArray ++ Builtin.zeroCells z.cells (newCap - (N + n)) := by
        apply Array.ext'; simp
      rw [e1] at this
      exact this
  have hdrew : ∀ (c : Array Value),Pres S w (w.drew.alloc (.cells c e)) := fun c => Pres.trans (b := w.drew) (Pres.same rfl) (Pres.alloc (w := w.drew) H.bd _)
  have Hd : HRel w.drew S Own l h := H.same rfl
  unfold apSl at hq
  cases b <;> simp only at hq <;> try (cases hq; done)
  · -- nil
    rename_i sz' z'
    obtain rfl := rd_nils hs
    simp only [Option.some.injEq] at hq
    subst hq
    have c1 : n * tby P e < 2 ^ 46 := of_decide_eq_true (hc (decide (n * tby P e < 2 ^ 46)) (by simp))
    have c2 : n < 2 ^ 62 := by
      have := hc (decide (n < 2 ^ 62)) (by simp)
      exact of_decide_eq_true this
    rcases Nat.eq_zero_or_pos n with h0 | h0
    · subst h0
      have hnil : news = [] := List.eq_nil_of_length_eq_zero hnl
      subst hnil
      refine ⟨_,.slice none 0 0,w,S,_,?_,.inl rfl,H.pushNil _ _,?_,?_⟩
      · rw [hrun]
        have h1 := run_append_head (P := P) (w := w) ht ht2 he ty (sb := none) (xb := xb) (n := 0) (cap := 0) (m := 0) (xc := xc) (by omega)
        rw [hfirst w rfl] at h1
        simp only [Sem.run_bind,h1]
        rfl
      · refine .lst0 _ _ _ ?_
        rw [← hlen]; simp
      · exact ⟨rfl,rfl,rfl,Nat.le_refl _,fun _ _ => rfl,fun _ h => h,fun _ h => .inl h,.refl _ _,by simp,agr_append _ _ _⟩
    · obtain ⟨newCap,c,h1,h2,h3,h4,h5⟩ := grow none 0 0 [] [] (by omega) (by simpa using c1) (by omega) .nil rfl (by intro w' _; simp [Builtin.firstCells])
      simp only [Nat.zero_add,List.nil_append] at h1 h2 h3 h4 h5
      have hb : BRel (w.drew.alloc (.cells c e)) S Own (l ++ [(some w.drew.heap.size,n)]) (some w.drew.heap.size,n) (.fl (tsz P e) (zav P 16 e) news) :=
        .inr ⟨w.heap.size,c,e,by rw [hnl]; rfl,heap_alloc_at w.drew _,h4,h5.pres (hdrew c) (fun _ h => h),H.notS_size,H.own _ (Nat.le_refl _)⟩
      refine ⟨_,.slice (some ⟨w.heap.size,0,none⟩) n newCap,_,S,_,?_,.inl rfl,Hd.push hb,?_,?_⟩
      · rw [hrun]; simp only [Sem.run_bind,h2]; rfl
      · refine .lst _ _ _ w.heap.size n newCap ?_ h1 ⟨c,e,(0,0),heap_alloc_at w.drew _,h3⟩
        rw [← hlen]
        show (l ++ [(some w.heap.size,n)])[l.length]? = _
        simp
      · have := Chg.alloc (w := w.drew) (S' := S) Hd (.cells c e) [(some w.drew.heap.size,n)] (fun _ h => h) (fun _ h => .inl h)
        exact ⟨this.os,this.tape,this.output,this.size,this.keep,this.sub,this.new,hdrew c,this.len,this.agr⟩
  · -- room of our own
    rename_i t' off sz' m cap
    cases hk : hget h t' <;> simp only [hk] at hq <;> try (cases hq; done)
    rename_i sz'' z' els
    cases hb1 : (!(tsz P e == sz') || !(tsz P e == sz'')) <;> simp only [hb1,cond_true,cond_false] at hq
    case true => cases hq
    simp only [Bool.or_eq_false_iff,Bool.not_eq_false', beq_iff_eq] at hb1
    obtain ⟨rfl,rfl⟩ := hb1
    simp only [Option.some.injEq] at hq
    subst hq
    have c1 : m + n ≤ cap := by simpa using hc _ (List.mem_singleton.2 rfl)
    obtain ⟨bk,N,rfl,hm,hn,hN⟩ := rd_own hs
    obtain ⟨rfl,c,e', hb,hcs,hE,hnS,hO⟩ := H.fx hk hm
    have hseg0 : Seg w S (tsz P e) c.toList els := by
      have := hE.seg (by omega)
      rwa [← hcs,List.take_of_length_le (by simp)] at this
    have hseg : Seg w S (tsz P e) (c.toList.take ((off + m) * tsz P e) ++ vals ++ c.toList.drop ((off + m + n) * tsz P e)) (els.take (off + m) ++ news ++ els.drop (off + m + n)) :=
      ((hseg0.take (off + m) (by omega)).append hnews).append (hseg0.drop (off + m + n) (by omega))
    have hlen' : (els.take (off + m) ++ news ++ els.drop (off + m + n)).length = els.length := by simp [hnl]; omega
    have hnv : ((c.toList.take ((off + m) * tsz P e) ++ vals ++ c.toList.drop ((off + m + n) * tsz P e)).toArray).size = c.size := by
      have := hseg.1
      rw [List.size_toArray,this,hlen', hcs]
    have hp : Pres S w (w.setRow bk (c.toList.take ((off + m) * tsz P e) ++ vals ++ c.toList.drop ((off + m + n) * tsz P e)).toArray) := .setRow hnS hb hnv
    refine ⟨_,.slice (some ⟨bk,off * tsz P e,none⟩) (m + n) cap,_,S,l,?_,.inl rfl,
      H.setBlk (k' := .fx (tsz P e) z' (els.take (off + m) ++ news ++ els.drop (off + m + n))) hm (hget_some hk rfl) rfl hb hnv hnS ?_,.own _ _ _ _ _ _ _ _ hm c1 hN,.setRow hnS hO hb hnv (fun _ h => h) (fun _ h => .inl h)⟩
    · rw [hrun]
      have h1 := run_append_head (P := P) (w := w) ht ht2 he ty (sb := some ⟨bk,off * tsz P e,none⟩) (xb := xb) (n := m) (cap := cap) (m := n) (xc := xc) c1
      rw [hfirst w rfl] at h1
      have h2 : (off + m) * tsz P e + vals.length ≤ c.size := by
        rw [hlv,hcs,← Nat.add_mul]
        exact Nat.mul_le_mul_right _ (by omega)
      have h3 : ∀ v ∈ vals,v.oneCell' = true := by
        intro v hv
        rw [← hvals,List.mem_map] at hv
        obtain ⟨q,hq,rfl⟩ := hv
        rw [List.mem_range] at hq
        exact (hr _ _ (Nat.div_lt_of_lt_mul (by rw [Nat.mul_comm]; exact hq)) (Nat.mod_lt _ hpos)).2
      have h4 := run_storeCells_at (P := P) bk ((off + m) * tsz P e) e' vals 0 c w hb (by omega) h3
      simp only [Nat.add_zero] at h4
      have h5 : (off + m) * tsz P e + vals.length = (off + m + n) * tsz P e := by rw [hlv,← Nat.add_mul]
      rw [h5] at h4
      simp only [Result.andThen_ok,add_cell] at h1
      rw [← Nat.add_mul] at h1
      rw [h4] at h1
      simp [h1]
    · exact ⟨bk,_,e', by rw [hlen'],setRow_heap w bk c _ e' _ hb,by rw [hnv,hlen']; exact hcs,(by simpa using hseg.els (rest := []) : Els w S _ _ _).pres hp (fun _ h => h),hnS,hO⟩
  · -- a list of our own
    rename_i t' sz'
    cases hk : hget h t' <;> simp only [hk] at hq <;> try (cases hq; done)
    rename_i sz'' z' els
    cases hb1 : (!(tsz P e == sz') || !(tsz P e == sz'')) <;> simp only [hb1,cond_true,cond_false] at hq
    case true => cases hq
    simp only [Bool.or_eq_false_iff,Bool.not_eq_false', beq_iff_eq] at hb1
    obtain ⟨rfl,rfl⟩ := hb1
    simp only [Option.some.injEq] at hq
    subst hq
    have c1 : (els.length + n) * tby P e < 2 ^ 46 := of_decide_eq_true (hc (decide ((els.length + n) * tby P e < 2 ^ 46)) (by simp))
    have c2 : els.length + n < 2 ^ 62 := by
      have := hc (decide (els.length + n < 2 ^ 62)) (by simp)
      exact of_decide_eq_true this
    have hkl := hget_some hk rfl
    have htl : t' < l.length := by rw [hlen]; exact (List.getElem?_eq_some_iff.1 hkl).1
    have hself : ∀ x : Tk,(l.set t' x)[t']? = some x := fun x => List.getElem?_set_self htl
    have hl2 : (els ++ news).length = els.length + n := by simp [hnl]
    -- a growth
    have big : ∀ (cap : Nat) (sb : Option Addr) (old : List Value),cap < els.length + n → Seg w S (tsz P e) old els →
        (∀ w' : World,w'.heap = w.heap → (Builtin.firstCells (tsz P e) els.length (.slice sb els.length cap)).run P w' = .ok old.toArray w') → s = .slice sb els.length cap →
        MOk P ρ o w S Own l ⟨[decide ((els.length + n) * tby P e < 2 ^ 46),decide (els.length + n < 2 ^ 62)],.lst t' (tsz P e),((hset h t' .gone).map (killB t')).set t' (.fl (tsz P e) z' (els ++ news)),[t']⟩ := by
      intro cap sb old h1 h2 h3 hsv
      obtain ⟨newCap,c,h4,h5,h6,h7,h8⟩ := grow sb els.length cap old els h1 c1 c2 h2 rfl h3
      have hp := hdrew c
      have hsize : (w.drew.alloc (.cells c e)).heap.size = w.heap.size + 1 := by simp
      have hnew : (w.drew.alloc (.cells c e)).heap[w.heap.size]? = some (.cells c e (0,0)) := heap_alloc_at w.drew _
      have hlt : ∀ b,b < w.heap.size → (w.drew.alloc (.cells c e)).heap[b]? = w.heap[b]? := fun b hb => heap_alloc_lt w.drew _ hb
      refine ⟨_,.slice (some ⟨w.heap.size,0,none⟩) (els.length + n) newCap,_,S,l.set t' (some w.heap.size,els.length + n),?_,.inl rfl,
        H.renew hp (by rw [hsize]; omega) (fun t1 x0 k1 b hne hx0 hk1 hl1 hb => ?_) (.inr ⟨w.heap.size,c,e,by rw [hl2],hnew,h7,h8.pres hp (fun _ h => h),H.notS_size,H.own _ (Nat.le_refl _)⟩)
          (fun b hb => by simp only [Option.some.injEq] at hb; rw [hsize]; omega) (fun b hb => H.own b (by rw [hsize] at hb; omega)),
        .lst _ _ _ _ _ _ (hself _) h4 ⟨c,e,(0,0),hnew,h6⟩,⟨rfl,rfl,rfl,by rw [hsize]; omega,fun b hb => hlt b ?_,fun _ h => h,fun _ h => .inl h,hp,by simp,agr_one _ _ _⟩⟩
      · rw [hrun,hsv]; simp only [Sem.run_bind,h5]; rfl
      · obtain ⟨x1,x2⟩ := x0
        simp only at hb; subst hb
        have := H.lbd t1 b x2 hx0
        exact ⟨hlt b this,by simp; omega⟩
      · rcases Nat.lt_or_ge b w.heap.size with h' | h'
        · exact h'
        · exact absurd (H.own b h') hb
    rcases rd_lst hs with ⟨bk,N,cap,rfl,hm,hn,hcc⟩ | ⟨rfl,hm⟩
    · obtain ⟨rfl,c,e', hb,hcs,hE,hnS,hO⟩ := H.fl hk hm
      have hcap : cap * tsz P e ≤ c.size := by
        obtain ⟨c0,e0,f0,h1,h2⟩ := hcc
        rw [hb] at h1
        simp only [Option.some.injEq,Obj.cells.injEq] at h1
        rw [h1.1]; exact h2
      have hseg0 := hE.seg hcs
      by_cases hroom : els.length + n ≤ cap
      · have h2 : els.length * tsz P e + vals.length ≤ c.size := by
          rw [hlv,← Nat.add_mul]
          exact Nat.le_trans (Nat.mul_le_mul_right _ hroom) hcap
        have hnv : ((c.toList.take (els.length * tsz P e) ++ vals ++ c.toList.drop (els.length * tsz P e + vals.length)).toArray).size = c.size := by simp; omega
        have hp : Pres S w (w.setRow bk (c.toList.take (els.length * tsz P e) ++ vals ++ c.toList.drop (els.length * tsz P e + vals.length)).toArray) := .setRow hnS hb hnv
        have hel := ((hseg0.append hnews).els (rest := c.toList.drop (els.length * tsz P e + vals.length))).pres hp (fun _ h => h)
        have hrow := setRow_heap w bk c (c.toList.take (els.length * tsz P e) ++ vals ++ c.toList.drop (els.length * tsz P e + vals.length)).toArray e' _ hb
        have hl3 : (els ++ news).length * tsz P e ≤ c.size := by
          rw [hl2]
          exact Nat.le_trans (Nat.mul_le_mul_right _ hroom) hcap
        refine ⟨_,.slice (some ⟨bk,0,none⟩) (els.length + n) cap,_,S,l.set t' (some bk,els.length + n),?_,.inl rfl,
          H.renew hp (by simp) (fun t1 x0 k1 b hne hx0 hk1 hl1 hbb => ?_) (.inr ⟨bk,_,e', by rw [hl2],hrow,by rw [hnv]; exact hl3,hel,hnS,hO⟩)
            (fun b hb' => by simp only [Option.some.injEq] at hb'; subst hb'; simpa using heap_lt hb) (fun b hb' => H.own b (by simpa using hb')),
          .lst _ _ _ _ _ _ (hself _) hroom ⟨_,e', (0,0),hrow,by rw [hnv]; exact hcap⟩,⟨rfl,rfl,rfl,by simp,fun b hb' => setRow_other w bk b _ (by rintro rfl; exact hb' hO),fun _ h => h,fun _ h => .inl h,hp,by simp,agr_one _ _ _⟩⟩
        · rw [hrun]
          have h1 := run_append_head (P := P) (w := w) ht ht2 he ty (sb := some ⟨bk,0,none⟩) (xb := xb) (n := els.length) (cap := cap) (m := n) (xc := xc) hroom
          rw [hfirst w rfl] at h1
          have h3 : ∀ v ∈ vals,v.oneCell' = true := by
            intro v hv
            rw [← hvals,List.mem_map] at hv
            obtain ⟨q,hq,rfl⟩ := hv
            rw [List.mem_range] at hq
            exact (hr _ _ (Nat.div_lt_of_lt_mul (by rw [Nat.mul_comm]; exact hq)) (Nat.mod_lt _ hpos)).2
          have h4 := run_storeCells_at (P := P) bk (els.length * tsz P e) e' vals 0 c w hb (by omega) h3
          simp only [Nat.add_zero] at h4
          simp only [Result.andThen_ok,add_cell,Nat.zero_add] at h1
          rw [h4] at h1
          simp only [Sem.run_bind,h1]
          rfl
        · obtain ⟨x1,x2⟩ := x0
          simp only at hbb; subst hbb
          have hbne : b ≠ bk := by
            rintro rfl
            exact hne (H.inj t1 t' b x2 _ k1 _ hx0 hm hk1 hkl hl1 rfl)
          exact ⟨setRow_other w bk b _ hbne,by simp; exact fun e => hbne e.symm⟩
      · refine big cap _ _ (by omega) hseg0 (fun w' hw' => ?_) rfl
        have := run_firstCells (P := P) (w := w') (n := els.length) (base := some ⟨bk,0,none⟩) (cap := cap) (u := fun i j => c.getD (i * tsz P e + j) undef) hpos (fun _ => ⟨_,rfl,fun i j hi hj => ?_⟩) els.length
        · rw [this]
          congr 2
          apply List.ext_getElem?
          intro q
          by_cases hq : q < els.length * tsz P e
          · rw [List.getElem?_map,List.getElem?_range hq,List.getElem?_take,if_pos hq]
            simp only [Option.map_some]
            rw [Nat.mul_comm,Nat.div_add_mod]
            simp [show q < c.size by omega]
          · rw [List.getElem?_eq_none (by simp; omega),List.getElem?_eq_none (by simp; omega)]
        · rw [add_cell]
          unfold World.cell?
          have h1 := idx_lt hi hj
          have h2 : i * tsz P e + j < c.size := by omega
          simp [hw', hb,h2]
    · obtain ⟨_,rfl⟩ := H.fl0 hk hm
      rcases Nat.eq_zero_or_pos n with h0 | h0
      · subst h0
        have hnil : news = [] := List.eq_nil_of_length_eq_zero hnl
        subst hnil
        have hlt0 : l.set t' (none,0) = l := by
          apply List.ext_getElem?
          intro q
          by_cases hq : q = t'
          · subst hq; rw [hself,hm]
          · rw [List.getElem?_set_ne (fun e => hq e.symm)]
        refine ⟨_,.slice none 0 0,w,S,l.set t' (none,0),?_,.inl rfl,
          H.renew (.refl _ _) (Nat.le_refl _) (fun _ _ _ _ _ _ _ _ _ => ⟨rfl,by simp⟩) (.inl ⟨rfl,rfl⟩) (fun b hb => by simp at hb) H.own,.lst0 _ _ _ (hself _),
          ⟨rfl,rfl,rfl,Nat.le_refl _,fun _ _ => rfl,fun _ h => h,fun _ h => .inl h,.refl _ _,by simp,agr_one _ _ _⟩⟩
        rw [hrun]
        have h1 := run_append_head (P := P) (w := w) ht ht2 he ty (sb := none) (xb := xb) (n := 0) (cap := 0) (m := 0) (xc := xc) (by omega)
        rw [hfirst w rfl] at h1
        simp only [Sem.run_bind,h1]
        rfl
      · exact big 0 none [] (by simpa using h0) .nil (by intro w' _; simp [Builtin.firstCells]) rfl

theorem dec2 {a b : Prop} [Decidable a] [Decidable b] {cs : List Bool} (h : ∀ c ∈ decide a :: decide b :: cs,c = true) : a ∧ b :=
  ⟨of_decide_eq_true (h _ (by simp)),of_decide_eq_true (h _ (by simp))⟩

theorem cond_some {b : Bool} {x y r : MR} (h : (bif b then some x else some y) = some r) : r = if b then x else y := by
  cases b <;> simp at h <;> simp [h]

/-- EVERY OPERATION THAT MAKES MEMORY OR WRITES IT does what is said. -/
theorem mop_ok {g : Operand → AV} {ρ : Operand → Value} {o : Oper} {rest : List Oper} {r : MR} (H : HRel w S Own l h) (hg : ∀ x,Rd w S (some l) (ρ x) (g x))
    (hq : mop P h g o rest = some r) (hc : ∀ c ∈ r.ok,c = true) : MOk P ρ o w S Own l r := by
  obtain ⟨dst,op,type,pos,after,guard⟩ := o
  cases op with
  | box t x =>
    simp only [mop] at hq
    cases hb : (isDead (typ P t (g x)) || (cellsOf (typ P t (g x))).length != tsz P t) <;> simp only [hb,cond_true,cond_false] at hq
    case true => cases hq
    simp only [Bool.or_eq_false_iff] at hb
    simp only [Option.some.injEq] at hq
    subst hq
    exact box_ok H rfl (rl_cells (typ_rd _ (hg x)) hb.1)
  | alloc t =>
    simp only [mop] at hq
    cases hz : zok P t <;> simp only [hz,Bool.not_true,Bool.not_false,cond_true,cond_false] at hq
    case false => cases hq
    simp only [Option.some.injEq] at hq
    subst hq
    exact alloc_ok H rfl hz
  | buildSlice t n ps =>
    simp only [mop] at hq
    cases hd : desc P t <;> simp only [hd] at hq <;> try (cases hq; done)
    rename_i e
    have hu := und_of_desc hd (by simp)
    cases hb : (!(has P e) || tsz P e == 0 || !(zok P e) || Nat.blt (2 ^ 24) (n * tsz P e)) <;> simp only [hb,cond_true,cond_false] at hq
    case true => cases hq
    simp only [Bool.or_eq_false_iff,Bool.not_eq_false', beq_eq_false_iff_ne] at hb
    obtain ⟨⟨⟨he,hpos⟩,hz⟩,hn⟩ := hb
    have hn' : n * tsz P e ≤ 2 ^ 24 := by
      rcases Nat.lt_or_ge (2 ^ 24) (n * tsz P e) with h' | h'
      · rw [← Nat.blt_eq] at h'; rw [h'] at hn; cases hn
      · exact h'
    split at hq
    · cases hq
    · rename_i els hf
      have key := buildSlice_ok (P := P) (ρ := ρ) (g := g) (o := ⟨dst,.buildSlice t n ps,type,pos,after,guard⟩) H hg rfl hu he (Nat.pos_of_ne_zero hpos) hz hn' hf
      obtain rfl := cond_some hq
      exact key _
  | makeSlice t ln cp =>
    simp only [mop] at hq
    cases hd : desc P t <;> simp only [hd] at hq <;> try (cases hq; done)
    rename_i e
    have hu := und_of_desc hd (by simp)
    have hx := hg ln
    have hy := hg cp
    cases hgl : g ln <;> simp only [hgl] at hq hx <;> try (cases hq; done)
    cases hgc : g cp <;> simp only [hgc] at hq hy <;> try (cases hq; done)
    cases hb : (!(has P e) || tsz P e == 0 || !(zok P e)) <;> simp only [hb,cond_true,cond_false] at hq
    case true => cases hq
    simp only [Bool.or_eq_false_iff,Bool.not_eq_false', beq_eq_false_iff_ne] at hb
    obtain ⟨⟨he,hpos⟩,hz⟩ := hb
    simp only [Option.some.injEq] at hq
    subst hq
    have c1 := dec2 hc
    rename_i l0 c0
    have c2 : (tby P e : Int) * c0 ≤ 2 ^ 48 ∧ c0 < 2 ^ 62 := by
      have k1 := Nat.le_of_ble_eq_true (hc _ (List.mem_cons_of_mem _ (List.mem_cons_of_mem _ (List.mem_cons_self ..))))
      have k2 := Nat.le_of_ble_eq_true (hc _ (List.mem_cons_of_mem _ (List.mem_cons_of_mem _ (List.mem_cons_of_mem _ (List.mem_cons_self ..)))))
      have h0 : 0 ≤ c0 := by have := c1.1; have := c1.2; omega
      obtain ⟨m,rfl⟩ := Int.eq_ofNat_of_zero_le h0
      simp only [Int.toNat_natCast] at k1 k2
      refine ⟨?_,by omega⟩
      rw [← Int.natCast_mul]
      generalize tby P e * m = q at k1
      omega
    exact makeSlice_ok H rfl hu (rd_int hx) (rd_int hy) he (Nat.pos_of_ne_zero hpos) hz c1.1 c1.2 c2.1 c2.2
  | store t a x =>
    simp only [mop] at hq
    cases ht : has P t <;> simp only [ht,Bool.not_true,Bool.not_false,cond_true,cond_false] at hq
    case false => cases hq
    have hx := hg a
    cases hga : g a <;> (try simp only [hga] at hq hx) <;> try (cases hq; done)
    · rename_i t' off
      cases hk : hget h t' <;> simp only [hk] at hq <;> try (cases hq; done)
      rename_i cs
      cases hb : (!(flat (typ P t (g x))) || (cellsOf (typ P t (g x))).length != tsz P t) <;> simp only [hb,cond_true,cond_false] at hq
      case true => cases hq
      simp only [Bool.or_eq_false_iff,Bool.not_eq_false', bne_eq_false_iff_eq] at hb
      simp only [Option.some.injEq] at hq
      subst hq
      have hle := Nat.le_of_ble_eq_true (hc _ (List.mem_singleton.2 rfl))
      rw [spliceM_eq (by omega)]
      exact storeBox_ok H rfl hx (typ_rd _ (hg x)) hb.1 ht hb.2 hk hle
    · rename_i t' sz i j
      cases hb : (!(flat (frz h 4 (typ P t (g x)))) || (cellsOf (frz h 4 (typ P t (g x)))).length != tsz P t) <;> simp only [hb,cond_true,cond_false] at hq
      case true => cases hq
      simp only [Bool.or_eq_false_iff,Bool.not_eq_false', bne_eq_false_iff_eq] at hb
      exact storeEl_ok H rfl hx (typ_rd _ (hg x)) hb.1 ht hb.2 hq
  | call c =>
    obtain ⟨callee,args,argTypes⟩ := c
    cases callee with
    | builtin b =>
      cases b with
      | append =>
        simp only [mop] at hq
        obtain ⟨la⟩ := args
        obtain ⟨lt⟩ := argTypes
        split at hq
        · rename_i s x t t2 e1 e2
          simp only at e1 e2
          subst e1 e2
          split at hq
          · rename_i e e2 hd hd2
            have hu := und_of_desc hd (by simp)
            have hu2 := und_of_desc hd2 (by simp)
            cases hb : (!(has P e) || tsz P e == 0 || !(zok P e) || !(Nat.blt (tby P e) (2 ^ 30))) <;> simp only [hb,cond_true,cond_false] at hq
            case true => cases hq
            simp only [Bool.or_eq_false_iff,Bool.not_eq_false', beq_eq_false_iff_ne,Nat.blt_eq] at hb
            obtain ⟨⟨⟨he,hpos⟩,hz⟩,hby⟩ := hb
            split at hq
            · rename_i sz n rd get hf
              cases hs : sz == tsz P e <;> simp only [hs,Bool.not_true,Bool.not_false,cond_true,cond_false] at hq
              case false => cases hq
              obtain rfl : sz = tsz P e := by simpa using hs
              refine apSl_ok (t := t) (t2 := t2) (ty := type) H ?_ hu hu2 he (Nat.pos_of_ne_zero hpos) hz hby (typ_rd t (hg x)) (typ_rd t (hg s)) hf hq hc
              simp [execOp,resolve,invoke,builtin]
            · cases hq
          · cases hq
        · cases hq
      | copy =>
        simp only [mop] at hq
        obtain ⟨la⟩ := args
        obtain ⟨lt⟩ := argTypes
        split at hq
        · rename_i d x t t2 e1 e2
          simp only at e1 e2
          subst e1 e2
          split at hq
          · rename_i e hd
            have hu := und_of_desc hd (by simp)
            cases hb : (!(has P e) || !(tsz P e == 1)) <;> simp only [hb,cond_true,cond_false] at hq
            case true => cases hq
            simp only [Bool.or_eq_false_iff,Bool.not_eq_false', beq_iff_eq] at hb
            obtain ⟨he,h1⟩ := hb
            split at hq
            · rename_i sz n rd get hf
              cases hs : sz == 1 <;> simp only [hs,Bool.not_true,Bool.not_false,cond_true,cond_false] at hq
              case false => cases hq
              obtain rfl : sz = 1 := by simpa using hs
              split at hq
              · rename_i t' off sz' m cap hgd
                cases hs' : sz' == 1 <;> simp only [hs', Bool.not_true,Bool.not_false,cond_true,cond_false] at hq
                case false => cases hq
                obtain rfl : sz' = 1 := by simpa using hs'
                split at hq
                · rename_i sz'' z els hk
                  cases hs'' : sz'' == 1 <;> simp only [hs'', Bool.not_true,Bool.not_false,cond_true,cond_false] at hq
                  case false => cases hq
                  obtain rfl : sz'' = 1 := by simpa using hs''
                  simp only [Option.some.injEq] at hq
                  subst hq
                  refine copySl_ok (t := t) (t2 := t2) (ty := type) H ?_ hu he h1 (typ_rd t2 (hg x)) (hgd ▸ hg d) hf hk
                  simp [execOp,resolve,invoke,builtin]
                · cases hq
              · cases hq
            · cases hq
          · cases hq
        · cases hq
      | _ => simp [mop] at hq
    | _ => simp [mop] at hq
  | makeMap t rs =>
    cases rs with
    | some r => simp [mop] at hq
    | none =>
      simp only [mop,Option.some.injEq] at hq
      subst hq
      exact makeMap_ok H rfl
  | range t x =>
    simp only [mop] at hq
    cases hd : desc P t <;> simp only [hd] at hq <;> try (cases hq; done)
    have hx := hg x
    cases hgx : g x <;> simp only [hgx] at hq hx <;> try (cases hq; done)
    simp only [Option.some.injEq] at hq
    subst hq
    exact range_ok H rfl (und_of_desc hd (by simp)) (rd_str hx)
  | mapUpdate t m k v =>
    simp only [mop] at hq
    cases hd : desc P t <;> simp only [hd] at hq <;> try (cases hq; done)
    have hx := hg m
    cases hgx : g m <;> simp only [hgx] at hq hx <;> try (cases hq; done)
    rename_i t'
    cases hk : hget h t' <;> simp only [hk] at hq <;> try (cases hq; done)
    cases hb : (!(scal (g k)) || !(scal (g v))) <;> simp only [hb,cond_true,cond_false] at hq
    case true => cases hq
    simp only [Bool.or_eq_false_iff,Bool.not_eq_false'] at hb
    simp only [Option.some.injEq] at hq
    subst hq
    exact mapUpdate_ok H rfl (und_of_desc hd (by simp)) hx (hg k) (hg v) hb.1 hb.2 hk (hc _ (by simp)) (hc _ (by simp)) (by simpa using hc (!(findM P _ (g k) _).isSome) (by simp))
  | _ => simp [mop] at hq

theorem scal_reach {n : Nat} : ∀ {a : AV},scal a = true → reach h n a = [] := by
  induction n with
  | zero => intro a _; rfl
  | succ n ih =>
    have L : ∀ cs : List AV,scalL cs = true → cs.flatMap (reach h n) = [] := by
      intro cs hc
      rw [List.flatMap_eq_nil_iff]
      intro x hx
      obtain ⟨j,hj,rfl⟩ := List.mem_iff_getElem.1 hx
      exact ih (scalL_mem hc j _ (List.getElem?_eq_getElem hj))
    intro a ha
    cases a <;> simp [scal] at ha <;> first | rfl | exact L _ ha

theorem scal_typ {t : TypeId} {a : AV} (ha : scal a = true) : typ P t a = a := by cases a <;> simp [scal] at ha <;> rfl

theorem gmop_ok {g : Operand → AV} {ρ : Operand → Value} {o : Oper} {rest : List Oper} {cs : List Bool} {v : AV} (H : HRel w S Own l h) (hg : ∀ x,Rd w S (some l) (ρ x) (g x))
    (hq : gmop P h g o rest = some (cs,v)) (hc : ∀ c ∈ cs,c = true) : MOk P ρ o w S Own l ⟨cs,v,h,[]⟩ := by
  unfold gmop at hq
  split at hq
  · rename_i t n ps hop
    cases hs : (ps.toList.all fun p => scal (g p.2)) <;> simp only [hs,cond_true,cond_false] at hq
    case false => cases hq
    split at hq
    · rename_i r hm
      split at hq
      · rename_i a1 a2 a3 a4 hv
        simp only [Option.some.injEq,Prod.mk.injEq] at hq
        obtain ⟨rfl,rfl⟩ := hq
        have key := mop_ok H hg hm hc
        have e : r.h = h ∧ r.ks = [] := by
          unfold mop at hm
          rw [hop] at hm
          simp only at hm
          split at hm
          · rename_i e _
            cases hb : (!(has P e) || tsz P e == 0 || !(zok P e) || Nat.blt (2 ^ 24) (n * tsz P e)) <;> simp only [hb,cond_true,cond_false] at hm
            case true => cases hm
            split at hm
            · cases hm
            · have hr := cond_some hm
              subst hr
              have hre : ((ps.toList.map fun p => (p.1,typ P e (g p.2))).flatMap fun p => reach h 4 p.2) = [] := by
                rw [List.flatMap_eq_nil_iff]
                intro x hx
                obtain ⟨p,hp,rfl⟩ := List.mem_map.1 hx
                have := List.all_eq_true.1 hs p hp
                simp only [scal_typ this]
                exact scal_reach this
              cases hdst : o.dst with
              | none => simp [hdst] at hv
              | some d =>
                cases hsp : spent d rest
                · simp [hdst,hsp] at hv
                · simp only [hsp,hre,if_true]
                  exact ⟨rfl,trivial⟩
          · cases hm
        obtain ⟨ok,v', h', ks⟩ := r
        simp only at e
        obtain ⟨rfl,rfl⟩ := e
        exact key
      · cases hq
    · cases hq
  · cases hq

theorem gdop_ok {g : Operand → AV} {ρ : Operand → Value} {o : Oper} {cs : List Bool} {v : AV} (H : HRel w S Own l h) (hg : ∀ x,Rd w S (some l) (ρ x) (g x)) (hq : gdop P h g o = some (cs,v)) :
    ∃ u w' S', (execOp ρ o).run P w = .ok (.value u) w' ∧ Ev w.heap.size (fun _ => False) w w' ∧ (∀ b,S b → S' b) ∧ (∀ b,S' b → S b ∨ w.heap.size ≤ b) ∧ (∀ b,S' b → b < w'.heap.size) ∧ Rd w' S' (some l) u v := by
  obtain ⟨dst,op,type,pos,after,guard⟩ := o
  unfold gdop at hq
  split at hq
  · rename_i t n ps hop
    simp only at hop; subst hop
    cases hd : desc P t <;> simp only [hd] at hq <;> try (cases hq; done)
    rename_i e
    have hu := und_of_desc hd (by simp)
    cases hb : (!(has P e) || tsz P e == 0 || !(zok P e) || Nat.blt (2 ^ 24) (n * tsz P e) || !(ps.toList.all fun p => noneN (reach h 4 (typ P e (g p.2))))) <;> simp only [hb,cond_true,cond_false] at hq
    case true => cases hq
    simp only [Bool.or_eq_false_iff,Bool.not_eq_false', beq_eq_false_iff_ne] at hb
    obtain ⟨⟨⟨⟨he,hpos⟩,hz⟩,hn⟩,hs⟩ := hb
    have hn' : n * tsz P e ≤ 2 ^ 24 := by
      rcases Nat.lt_or_ge (2 ^ 24) (n * tsz P e) with h' | h'
      · rw [← Nat.blt_eq] at h'; rw [h'] at hn; cases hn
      · exact h'
    split at hq
    · cases hq
    · rename_i els hf
      simp only [Option.some.injEq,Prod.mk.injEq] at hq
      obtain ⟨rfl,rfl⟩ := hq
      have hpos := Nat.pos_of_ne_zero hpos
      have hts : ((ps.toList.map fun p => (p.1,typ P e (g p.2))).flatMap fun p => reach h 4 p.2) = [] := by
        rw [List.flatMap_eq_nil_iff]
        intro x hx
        obtain ⟨p,hp,rfl⟩ := List.mem_map.1 hx
        have := List.all_eq_true.1 hs p hp
        exact noneN_eq this
      have hfz : ∀ b,Fz S l h [] b → S b := fun b hb => hb.elim id (fun ⟨t,ht,_⟩ => absurd ht (by simp))
      obtain ⟨z,hz1,hz2,hz3,hz4⟩ := zseg (P := P) (w := w) (S := fun b => Fz S l h [] b) hz
      have hseg0 : Seg w (Fz S l h []) (tsz P e) ((List.range (n * tsz P e)).map fun i => z.cells.toList.getD (i % tsz P e) undef) (List.replicate n (zav P 16 e)) := Seg.replicate (by simpa using hz2) hz3 hz4 n
      obtain ⟨vals,hv1,hv2,hv3⟩ := fillE_ok hpos ((ps.map fun (i,x) => (i,ρ x)).toList) _ _ _ els hseg0 (by simp) (fun j p q hp' hq' => by
        simp only [Array.toList_map,List.getElem?_map] at hp' hq'
        cases hx : ps.toList[j]? with
        | none => simp [hx] at hp'
        | some x =>
          simp [hx] at hp' hq'
          subst hp' hq'
          refine ⟨rfl,frz_strike H (typ_rd _ (hg _)) (fun t' ht' => ?_)⟩
          rw [← hts]
          exact List.mem_flatMap.2 ⟨(x.1,typ P e (g x.2)),List.mem_map.2 ⟨x,List.mem_of_getElem? hx,rfl⟩,ht'⟩) hf
      simp only [List.length_replicate] at hv3
      have hrun' : (execOp ρ ⟨dst,.buildSlice t n ps,type,pos,after,guard⟩).run P w = .ok (.value (.slice (some ⟨w.heap.size,0,none⟩) n n)) (w.alloc (.cells vals.toArray e)) := by
        show (do Pure.pure (Next.value (← Instr.buildSlice t n (ps.map fun (i,x) => (i,ρ x)))) : Sem Next).run P w = _
        simp only [Sem.run_bind,Instr.buildSlice,run_underlying hu w,Result.andThen_ok,run_sz he,Sem.run_pure]
        rw [if_neg (by omega)]
        by_cases hc0 : n * tsz P e = 0
        · rw [if_pos hc0]
          have hvl : vals = [] := List.eq_nil_of_length_eq_zero (by rw [hv2.1,hv3,hc0])
          have hn0 : n = 0 := by
            rcases Nat.eq_zero_or_pos n with h' | h'
            · exact h'
            · exact absurd hc0 (Nat.ne_of_gt (Nat.mul_pos h' hpos))
          subst hn0
          rw [Nat.zero_mul] at hv1
          simp only [List.range_zero,List.map_nil] at hv1
          have hz0 : (Array.range (0 * tsz P e)).map (fun (x : Nat) => (#[] : Array Value)[x % (#[] : Array Value).size]!) = #[] := by rw [Nat.zero_mul,Array.range_zero', List.map_toArray]; rfl
          simp only [Sem.run_bind,Sem.run_pure,Result.andThen_ok,hz0,hv1]
          simp [newRow,hvl]
        · rw [if_neg hc0]
          have hrow := zero_row (n := n) hz2 hpos
          simp only [Sem.run_bind,hz1,Result.andThen_ok,Sem.run_pure,hrow]
          simp only [hv1]
          simp [newRow]
      have hcell : ∀ i j,i < n → j < tsz P e → ∃ u,vals.toArray[i * tsz P e + j]? = some u ∧ RdC w (Fz S l h []) u ((els.getD i []).getD j .dead) := by
        intro i j hi hj
        obtain ⟨u,hu,hr,_⟩ := els_cell (z := []) (by simpa using hv2.els (rest := [])) (show i < els.length by omega) hj
        exact ⟨u,hu,hr⟩
      have hbd : ∀ b,Fz S l h [] b → b < w.heap.size := fun b hb => H.bd b (hfz b hb)
      refine ⟨_,_,fun b => S b ∨ b = w.heap.size,hrun', ⟨rfl,rfl,rfl,by simp,fun k hk _ => heap_alloc_lt w _ hk⟩,fun b hb => .inl hb,fun b hb => hb.imp id (fun hb => Nat.le_of_eq hb.symm),fun b hb => ?_,?_⟩
      · rcases hb with hb | rfl
        · have := H.bd b hb; simp; omega
        · simp
      · refine .ro _ _ _ _ _ _ _ (fun i j => vals.toArray.getD (i * tsz P e + j) undef) (Nat.le_refl _) (Nat.le_refl _) (fun _ => ⟨_,rfl,.inr rfl,fun i j hi hj => ?_⟩) (fun i j hi hj => ?_) (fun i j hi hj => ?_)
        · obtain ⟨u,hu,_⟩ := hcell i j hi hj
          rw [add_cell,Nat.zero_add,cell_of_heap (heap_alloc_at w _),hu]
          simp only [Array.getD_eq_getD_getElem?,hu,Option.getD_some]
        · obtain ⟨u,hu,hr⟩ := hcell i j hi hj
          simp only [Array.getD_eq_getD_getElem?,hu,Option.getD_some]
          exact hr.1.pres (.alloc hbd _) (fun b hb => .inl (hfz b hb)) trivial
        · obtain ⟨u,hu,hr⟩ := hcell i j hi hj
          simp only [Array.getD_eq_getD_getElem?,hu,Option.getD_some]
          exact hr.2
  · cases hq
end
end Go.Am
end
section
/- The abstract machine: a region's operations, one behind the other. -/
namespace Go.Am

theorem Glob.chg [Inhabited GlobT] {w w' : World} {Own S S' : Nat → Prop} {l l' : List Tk} {ks : List Nat} (h : Glob w S) (c : Chg Own S S' l l' ks w w') : Glob w' S' := h.pres c.pres c.sub

def KH (a : Act) : Option (Nat × Bool) → Prop
  | none => True
  | some (s,b) => a.tmps.getD s undef = .bool b

structure LRel (w : World) (S : Nat → Prop) (l : List Tk) (env : Env) (loc : Loc) (a : Act) : Prop where
  val : ∀ d,KH a (lkey env loc d).1 → Rd w S (some l) (a.tmps.getD d undef) (lkey env loc d).2
  off : ∀ d k,(lkey env loc d).1 = some k → ¬ KH a (some k) → a.tmps.getD d undef = undef

def ERel (w : World) (S : Nat → Prop) (l : List Tk) (env : Env) (a : Act) : Prop := ∀ s,Rd w S (some l) (a.tmps.getD s undef) (eget env s)

/-- A call of a function: by its text, or at once. -/
def CallOk (P : Program) (f : FuncId) (vs : Array Value) (w : World) (R : Value → World → Prop) : Prop :=
  match (callFunc f vs).run P w with
  | .ok (.value v) w' => R v w'
  | .ok (.enter g as) w' => Calls P g as w' fun e w'' => ∃ v,e = .returned v ∧ R v w''
  | _ => False

section
variable {P : Program} {Γ : Gam} {w w' : World} {S S' Own : Nat → Prop} {l l' : List Tk} {h : List Blk} {env : Env} {loc : Loc} {a : Act}

theorem Chg.trans {S0 S1 S2 : Nat → Prop} {l0 l1 l2 : List Tk} {k1 k2 k : List Nat} {w0 w1 w2 : World} (h1 : Chg Own S0 S1 l0 l1 k1 w0 w1) (h2 : Chg Own S1 S2 l1 l2 k2 w1 w2)
    (hk : ∀ t,isIn t k = false → isIn t k1 = false ∧ isIn t k2 = false) : Chg Own S0 S2 l0 l2 k w0 w2 :=
  ⟨h2.os.trans h1.os,h2.tape.trans h1.tape,h2.output.trans h1.output,Nat.le_trans h1.size h2.size,fun b hb => (h2.keep b hb).trans (h1.keep b hb),fun b hb => h2.sub b (h1.sub b hb),
   fun b hb => (h2.new b hb).elim (h1.new b) .inr,h1.pres.trans (h2.pres.mono h1.sub),Nat.le_trans h1.len h2.len,fun t x hp hm => h2.agr t x (hk t hp).2 (h1.agr t x (hk t hp).1 hm)⟩

theorem isIn_addK (ks : List Nat) : ∀ (kd : List Nat) (t : Nat),isIn t (addK ks kd) = false → isIn t kd = false ∧ isIn t ks = false := by
  induction ks with
  | nil => intro kd t h; exact ⟨h,rfl⟩
  | cons k r ih =>
    intro kd t h
    simp only [addK] at h
    cases hk : isIn k kd <;> simp only [hk,cond_true,cond_false] at h
    · obtain ⟨h1,h2⟩ := ih _ t h
      simp only [isIn] at h1 ⊢
      cases hkt : k == t <;> simp only [hkt,cond_true,cond_false] at h1 ⊢
      · exact ⟨h1,h2⟩
      · cases h1
    · obtain ⟨h1,h2⟩ := ih _ t h
      refine ⟨h1,?_⟩
      simp only [isIn]
      cases hkt : k == t <;> simp only [cond_true,cond_false]
      · exact h2
      · obtain rfl : k = t := by simpa using hkt
        rw [hk] at h1; cases h1

theorem lget_eq (ks : List (Nat × Bool)) (s : Nat) : lget env ks loc s = match (lkey env loc s).1 with
    | none => (lkey env loc s).2
    | some k => bif keyIn k ks then (lkey env loc s).2 else .dead := by
  induction loc with
  | nil => rfl
  | cons e loc ih =>
    obtain ⟨i,k,v⟩ := e
    simp only [lget,lkey]
    cases hi : i == s <;> simp only [cond_true,cond_false]
    · exact ih
    · cases k <;> rfl

theorem keyIn_mem {k : Nat × Bool} {ks : List (Nat × Bool)} (h : keyIn k ks = true) : k ∈ ks := by
  induction ks with
  | nil => simp [keyIn] at h
  | cons x r ih =>
    simp only [keyIn] at h
    cases hx : (x.1 == k.1 && x.2 == k.2) <;> simp only [hx,cond_true,cond_false] at h
    · exact List.mem_cons_of_mem _ (ih h)
    · simp only [Bool.and_eq_true,beq_iff_eq] at hx
      have : x = k := Prod.ext hx.1 hx.2
      subst this
      exact List.mem_cons_self ..

theorem opnd_ok [Inhabited GlobT] (hG : Glob w S) (L : LRel w S l env loc a) {ks : List (Nat × Bool)} (hks : ∀ k ∈ ks,KH a (some k)) (x : Operand) : Rd w S (some l) (a.eval x) (opnd env loc ks x) := by
  cases x with
  | tmp t =>
    show Rd w S (some l) (a.tmps.getD t undef) (lget env ks loc t)
    rw [lget_eq]
    cases hk : (lkey env loc t).1 with
    | none => exact L.val t (by rw [hk]; trivial)
    | some k =>
      simp only
      cases hi : keyIn k ks
      · exact .dead _ _
      · exact L.val t (by rw [hk]; exact hks k (keyIn_mem hi))
  | const v => exact ofVal_rd v
  | global g => exact hG.opnd _ g
  | func f => exact .fn _ _ _ _ _ _ rfl rfl (by simp) (by simp)

theorem sureG_ok (L : LRel w S l env loc a) : ∀ (n : Nat) (gk : Option (Nat × Bool)) (b : Bool),sureG env loc n gk = some b → (b = true → KH a gk) ∧ (b = false → ¬ KH a gk) := by
  intro n
  induction n with
  | zero =>
    intro gk b h
    cases gk with
    | none => simp only [sureG,Option.some.injEq] at h; subst h; exact ⟨fun _ => trivial,fun h => by cases h⟩
    | some g => cases h
  | succ n ih =>
    intro gk b h
    cases gk with
    | none => simp only [sureG,Option.some.injEq] at h; subst h; exact ⟨fun _ => trivial,fun h => by cases h⟩
    | some g =>
      obtain ⟨d,want⟩ := g
      simp only [sureG] at h
      cases hs : sureG env loc n (lkey env loc d).1 with
      | none => rw [hs] at h; cases h
      | some c =>
        obtain ⟨i1,i2⟩ := ih _ _ hs
        rw [hs] at h
        cases c with
        | true =>
          have hv := L.val d (i1 rfl)
          simp only at h
          cases hl : (lkey env loc d).2 <;> simp only [hl] at h hv <;> try (cases h; done)
          have e1 := rd_bool hv
          simp only [Option.some.injEq] at h
          subst h
          rename_i q
          constructor
          · intro hq
            show a.tmps.getD d undef = .bool want
            rw [e1]
            cases want <;> cases q <;> simp_all
          · intro hq hk
            have hk' : a.tmps.getD d undef = .bool want := hk
            rw [e1] at hk'
            simp only [Value.bool.injEq] at hk'
            subst hk'
            cases q <;> simp_all
        | false =>
          simp only [Option.some.injEq] at h
          subst h
          refine ⟨fun h => (by cases h),fun _ hk => ?_⟩
          cases hl : (lkey env loc d).1 with
          | none => rw [hl] at i2; exact i2 rfl trivial
          | some k' =>
            have := L.off d k' hl (by rw [hl] at i2; exact i2 rfl)
            have hk' : a.tmps.getD d undef = .bool want := hk
            rw [this] at hk'
            cases hk'

theorem keys_ok (L : LRel w S l env loc a) : ∀ (n : Nat) (gk : Option (Nat × Bool)),KH a gk → ∀ k ∈ keys env loc n gk,KH a (some k) := by
  intro n
  induction n with
  | zero => intro gk _ k hk; simp [keys] at hk
  | succ n ih =>
    intro gk hg k hk
    cases gk with
    | none => simp [keys] at hk
    | some g =>
      simp only [keys,List.mem_cons] at hk
      rcases hk with rfl | hk
      · exact hg
      · refine ih _ ?_ k hk
        cases hl : (lkey env loc g.1).1 with
        | none => trivial
        | some k' =>
          by_cases hkk : KH a (some k')
          · exact hkk
          · have := L.off g.1 k' hl hkk
            have hg' : a.tmps.getD g.1 undef = .bool g.2 := hg
            rw [this] at hg'
            simp [undef] at hg'

theorem wanted_iff {ops : Array Oper} {o : Oper} (hg : guardOk ops o = true) : Region.wanted o (yielded ops a.tmps) = true ↔ KH a (guardOf ops o) := by
  unfold Region.wanted guardOf
  unfold guardOk at hg
  cases hgd : o.guard with
  | none => simp [KH]
  | some jw =>
    obtain ⟨j,want⟩ := jw
    simp only [hgd] at hg
    obtain ⟨d,hd⟩ := Option.isSome_iff_exists.1 hg
    simp only [yielded,hd,Option.bind_some,KH]
    rw [Array.getD_eq_getD_getElem?]
    cases hv : a.tmps[d]? with
    | none => simp [undef]
    | some v => cases v <;> simp

theorem put_get {d : Nat} {u : Value} (hd : d < a.tmps.size) (s : Nat) : (a.put (some d) u).tmps.getD s undef = if s = d then u else a.tmps.getD s undef := by
  simp only [Act.put,Array.getD_eq_getD_getElem?]
  by_cases e : s = d
  · subst e; simp [hd]
  · rw [if_neg e,Array.getElem?_setIfInBounds_ne (fun e' => e e'.symm)]

theorem lkey_loc {s : Nat} {k : Nat × Bool} (h : (lkey env loc s).1 = some k) : ∃ e ∈ loc,e.2.1 = some k := by
  induction loc with
  | nil => simp [lkey] at h
  | cons e loc ih =>
    obtain ⟨i,k', v⟩ := e
    simp only [lkey] at h
    cases hi : i == s <;> simp only [hi,cond_true,cond_false] at h
    · obtain ⟨e,he,h2⟩ := ih h
      exact ⟨e,List.mem_cons_of_mem _ he,h2⟩
    · exact ⟨_,List.mem_cons_self .., h⟩

theorem KH_put {d : Nat} {u : Value} (hd : d < a.tmps.size) {k : Option (Nat × Bool)} (hne : ∀ s b,k = some (s,b) → s ≠ d) : KH (a.put (some d) u) k ↔ KH a k := by
  cases k with
  | none => simp [KH]
  | some k =>
    obtain ⟨s,b⟩ := k
    simp only [KH,put_get hd,if_neg (hne s b rfl)]

/-- A slot is written. -/
theorem LRel.put {nt : Nat} {gk : Option (Nat × Bool)} {dst : Option Nat} {v : AV} {u : Value} (L : LRel w S l env loc a) (hn : a.tmps.size = nt) (hd : dstOk nt gk loc dst = true)
    (h1 : KH a gk → Rd w S (some l) u v) (h2 : ¬ KH a gk → u = undef) : LRel w S l env (putL dst gk v loc) (a.put dst u) := by
  cases dst with
  | none => exact L
  | some d =>
    simp only [dstOk,Bool.and_eq_true,Nat.blt_eq] at hd
    obtain ⟨⟨hlt,hgk⟩,hall⟩ := hd
    have hds : d < a.tmps.size := by omega
    have hne : ∀ s b,gk = some (s,b) → s ≠ d := by
      rintro s b rfl
      simpa using hgk
    have hnl : ∀ d' s b,(lkey env loc d').1 = some (s,b) → s ≠ d := by
      intro d' s b hk
      obtain ⟨e,he,hek⟩ := lkey_loc hk
      have := List.all_eq_true.1 hall e he
      rw [hek] at this
      simpa using this
    refine ⟨fun d' hk => ?_,fun d' k hk hnk => ?_⟩
    · simp only [putL,lkey] at hk ⊢
      by_cases e : d' = d
      · subst e
        simp only [beq_self_eq_true,cond_true] at hk ⊢
        rw [put_get hds,if_pos rfl]
        exact h1 ((KH_put hds hne).1 hk)
      · have e' : (d == d') = false := by simpa using fun e'' => e e''.symm
        simp only [e', cond_false] at hk ⊢
        rw [put_get hds,if_neg e]
        exact L.val d' ((KH_put hds (fun s b h => hnl d' s b h)).1 hk)
    · simp only [putL,lkey] at hk
      by_cases e : d' = d
      · subst e
        simp only [beq_self_eq_true,cond_true] at hk
        rw [put_get hds,if_pos rfl]
        subst hk
        exact h2 (fun hh => hnk ((KH_put hds hne).2 hh))
      · have e' : (d == d') = false := by simpa using fun e'' => e e''.symm
        simp only [e', cond_false] at hk
        rw [put_get hds,if_neg e]
        exact L.off d' k hk (fun hh => hnk ((KH_put hds (fun s b h => by
          simp only [Option.some.injEq] at h
          subst h
          exact hnl d' s b hk)).2 hh))

theorem lkills_key (ks : List Nat) (s : Nat) : lkey (ekills ks env) (lkills ks loc) s = ((lkey env loc s).1,kills ks (lkey env loc s).2) := by
  cases ks with
  | nil => rfl
  | cons k ks =>
    show lkey (env.map _) (loc.map _) s = _
    induction loc with
    | nil =>
      simp only [List.map_nil,lkey]
      congr 1
      induction env with
      | nil => rfl
      | cons e env ih =>
        obtain ⟨i,v⟩ := e
        simp only [List.map_cons,eget]
        cases hi : i == s <;> simp only [cond_true,cond_false]
        exact ih
    | cons e loc ih =>
      obtain ⟨i,k', v⟩ := e
      simp only [List.map_cons,lkey]
      cases hi : i == s <;> simp only [cond_true,cond_false]
      exact ih

/-- The world goes on. -/
theorem LRel.step {ks : List Nat} (L : LRel w S l env loc a) (hc : Chg Own S S' l l' ks w w') : LRel w' S' l' (ekills ks env) (lkills ks loc) a := by
  refine ⟨fun d hk => ?_,fun d k hk hn => ?_⟩
  · rw [lkills_key] at hk ⊢
    exact hc.rd (L.val d hk)
  · rw [lkills_key] at hk
    exact L.off d k hk hn

theorem eget_eset (e : Env) (s : Nat) (v : AV) (s' : Nat) : eget (eset e s v) s' = if s' = s then v else eget e s' := by
  induction e with
  | nil =>
    simp only [eset,eget]
    by_cases h : s' = s
    · simp [h]
    · have : (s == s') = false := by simpa using fun e => h e.symm
      simp [this,h]
  | cons x e ih =>
    obtain ⟨i,u⟩ := x
    simp only [eset]
    by_cases h1 : s = i
    · subst h1
      simp only [beq_self_eq_true,cond_true,eget]
      by_cases h : s' = s
      · simp [h]
      · have : (s == s') = false := by simpa using fun e => h e.symm
        simp [this,h]
    · have e1 : (i == s) = false := by simpa using fun e => h1 e.symm
      simp only [e1,cond_false]
      cases hb : Nat.blt s i <;> simp only [cond_true,cond_false,eget]
      · rw [ih]
        by_cases h : s' = s
        · subst h
          have : (i == s') = false := by simpa using fun e => h1 e.symm
          simp [this]
        · simp [h]
      · by_cases h : s' = s
        · simp [h]
        · have : (s == s') = false := by simpa using fun e => h e.symm
          simp [this,h]

theorem close_get (s : Nat) : eget (close env loc) s = match lkey env loc s with | (none,v) => v | (some _,_) => .dead := by
  induction loc with
  | nil => rfl
  | cons e loc ih =>
    obtain ⟨i,k,v⟩ := e
    simp only [close,lkey,eget_eset]
    by_cases h : s = i
    · subst h
      cases k <;> simp
    · have : (i == s) = false := by simpa using fun e => h e.symm
      rw [if_neg h,ih]
      simp [this]

theorem LRel.close (L : LRel w S l env loc a) : ERel w S l (close env loc) a := by
  intro s
  rw [close_get]
  have := L.val s
  cases hk : lkey env loc s with
  | mk k v =>
    rw [hk] at this
    cases k with
    | none => exact this trivial
    | some k => exact .dead _ _

theorem ERel.open (E : ERel w S l env a) : LRel w S l env [] a := ⟨fun d _ => E d,fun d k hk => by simp [lkey] at hk⟩
end
end Go.Am
end
section
/- The abstract machine: functions that change boxes of their caller's. -/
namespace Go.Am

section
variable {P : Program} {Γ : Gam} {w w' : World} {S S' Own Own' : Nat → Prop} {l l' : List Tk} {h : List Blk}

theorem Rd.ren {f : Nat → Nat} {m m' : Option (List Tk)} {v : Value} {x : AV} (h : Rd w S m v x) (hm : ∀ l,m = some l → ∃ l', m' = some l' ∧ ∀ (t : Nat) x,l[t]? = some x → l'[f t]? = some x) : Rd w S m' v (renV f x) := by
  have L : ∀ cs : List AV,renL f cs = cs.map (renV f) := fun cs => by
    induction cs with
    | nil => rfl
    | cons a l ih => simp [renL,ih]
  induction h with
  | dead m v => exact .dead _ _
  | bool => exact .bool _ _
  | int => exact .int _ _ _
  | fltS => exact .fltS _ _ _
  | fltN m k b h => exact .fltN _ _ _ h
  | str => exact .str _ _
  | nilp => exact .nilp _
  | nilf => exact .nilf _
  | nili => exact .nili _
  | nils sz z => exact .nils _ _ _
  | ro m sz n rd get base cap u hn hc hb h h1 ih => exact .ro _ _ _ _ _ _ _ u hn hc hb h h1
  | rp m n get a u hSa hc h ih => exact .rp _ _ _ _ u hSa hc h
  | own l t' off sz n cap b N hm' hn hN =>
    obtain ⟨l', rfl,hl⟩ := hm l rfl
    exact .own _ _ _ _ _ _ _ _ (hl _ _ hm') hn hN
  | lst l t' sz b N cap hm' hn hs =>
    obtain ⟨l', rfl,hl⟩ := hm l rfl
    exact .lst _ _ _ _ _ _ (hl _ _ hm') hn hs
  | lst0 l t' sz hm' =>
    obtain ⟨l', rfl,hl⟩ := hm l rfl
    exact .lst0 _ _ _ (hl _ _ hm')
  | ptr l t' off b N hm' =>
    obtain ⟨l', rfl,hl⟩ := hm l rfl
    exact .ptr _ _ _ _ _ (hl _ _ hm')
  | ep l t' sz i j b N hm' hi hj =>
    obtain ⟨l', rfl,hl⟩ := hm l rfl
    exact .ep _ _ _ _ _ _ _ (hl _ _ hm') hi hj
  | mp l t' b N hm' =>
    obtain ⟨l', rfl,hl⟩ := hm l rfl
    exact .mp _ _ _ _ (hl _ _ hm')
  | fn m g first captured fs cs hf hc h1 h2 ih1 ih2 =>
    simp only [renV,L]
    refine .fn _ _ _ _ _ _ (by simpa using hf) (by simpa using hc) (fun j u a hu ha => ?_) (fun j u a hu ha => ?_)
    · rw [List.getElem?_map] at ha
      obtain ⟨a', ha', rfl⟩ := Option.map_eq_some_iff.1 ha
      exact ih1 j u a' hu ha' hm
    · rw [List.getElem?_map] at ha
      obtain ⟨a', ha', rfl⟩ := Option.map_eq_some_iff.1 ha
      exact ih2 j u a' hu ha' hm
  | ifc m ty v a h ih => exact .ifc _ _ _ _ (ih hm)
  | agg m vs cs hs h ih =>
    simp only [renV,L]
    refine .agg _ _ _ (by simpa using hs) (fun j u a hu ha => ?_)
    rw [List.getElem?_map] at ha
    obtain ⟨a', ha', rfl⟩ := Option.map_eq_some_iff.1 ha
    exact ih j u a' hu ha' hm
  | tup m vs cs hs h ih =>
    simp only [renV,L]
    refine .tup _ _ _ (by simpa using hs) (fun j u a hu ha => ?_)
    rw [List.getElem?_map] at ha
    obtain ⟨a', ha', rfl⟩ := Option.map_eq_some_iff.1 ha
    exact ih j u a' hu ha' hm


theorem renL_map (f : Nat → Nat) : ∀ cs : List AV,renL f cs = cs.map (renV f)
  | [] => rfl
  | a :: cs => by simp only [renL,List.map_cons,renL_map f cs]

theorem BRel.ren {f : Nat → Nat} {x : Tk} {k : Blk} (hk : BRel w S Own l x k) (hf : ∀ (t : Nat) y,l[t]? = some y → l'[f t]? = some y) (hO : ∀ b,x.1 = some b → Own b → Own' b) : BRel w S Own' l' x (renB f k) := by
  cases k with
  | gone => trivial
  | box cs =>
    obtain ⟨b,c,e,rfl,h1,h2,h3,h4,h5⟩ := hk
    refine ⟨b,c,e,by simp [renL_map],h1,by simp [renL_map,h2],fun j u a hu ha => ?_,h4,hO b rfl h5⟩
    rw [renL_map,List.getElem?_map,Option.map_eq_some_iff] at ha
    obtain ⟨a', ha', rfl⟩ := ha
    exact (h3 j u a' hu ha').ren (fun l0 e => by cases e; exact ⟨_,rfl,hf⟩)
  | fx sz z els => obtain ⟨b,c,e,rfl,h1,h2,h3,h4,h5⟩ := hk; exact ⟨b,c,e,rfl,h1,h2,h3,h4,hO b rfl h5⟩
  | fl sz z els =>
    rcases hk with hk | ⟨b,c,e,rfl,h1,h2,h3,h4,h5⟩
    · exact .inl hk
    · exact .inr ⟨b,c,e,rfl,h1,h2,h3,h4,hO b rfl h5⟩
  | it s pos => obtain ⟨b,rfl,h1,h4,h5⟩ := hk; exact ⟨b,rfl,h1,h4,hO b rfl h5⟩
  | mp es => obtain ⟨b,E,clk,rfl,h1,h2,h4,h5⟩ := hk; exact ⟨b,E,clk,rfl,h1,h2,h4,hO b rfl h5⟩

theorem BRel.owned {b N : Nat} {k : Blk} (hk : BRel w S Own l (some b,N) k) (hl : k.live = true) : Own b ∧ ¬ S b := by
  cases k with
  | gone => simp [Blk.live] at hl
  | box cs => obtain ⟨b', c,e,he,_,_,_,h4,h5⟩ := hk; simp only [Prod.mk.injEq,Option.some.injEq] at he; rw [he.1]; exact ⟨h5,h4⟩
  | fx sz z els => obtain ⟨b', c,e,he,_,_,_,h4,h5⟩ := hk; simp only [Prod.mk.injEq,Option.some.injEq] at he; rw [he.1]; exact ⟨h5,h4⟩
  | fl sz z els =>
    rcases hk with ⟨he,_⟩ | ⟨b', c,e,he,_,_,_,h4,h5⟩
    · simp at he
    · simp only [Prod.mk.injEq,Option.some.injEq] at he; rw [he.1]; exact ⟨h5,h4⟩
  | it s pos => obtain ⟨b', he,_,h4,h5⟩ := hk; simp only [Prod.mk.injEq,Option.some.injEq] at he; rw [he.1]; exact ⟨h5,h4⟩
  | mp es => obtain ⟨b', E,clk,he,_,_,h4,h5⟩ := hk; simp only [Prod.mk.injEq,Option.some.injEq] at he; rw [he.1]; exact ⟨h5,h4⟩

theorem renB_live (f : Nat → Nat) (k : Blk) : (renB f k).live = k.live := by cases k <;> rfl

theorem mem_isIn0 {t : Nat} : ∀ {F : List Nat},t ∈ F → isIn t F = true
  | x :: r,h => by
    simp only [isIn]
    cases e : x == t
    · simp only [cond_false]
      rcases List.mem_cons.1 h with rfl | h
      · simp at e
      · exact mem_isIn0 h
    · rfl
theorem isIn_mem0 {t : Nat} : ∀ {F : List Nat},isIn t F = true → t ∈ F
  | [],h => by cases h
  | x :: r,h => by
    simp only [isIn] at h
    cases e : x == t <;> simp only [e,cond_true,cond_false] at h
    · exact List.mem_cons_of_mem _ (isIn_mem0 h)
    · rw [beq_iff_eq] at e; subst e; exact List.mem_cons_self ..

theorem blt_ff {i n : Nat} (h : ¬ i < n) : Nat.blt i n = false := by
  cases e : Nat.blt i n
  · rfl
  · exact absurd (by simpa using e) h
theorem xput_len : ∀ (ts : List Nat) (bs h : List Blk),(xput ts bs h).length = h.length
  | [],_,_ => rfl
  | _ :: _,[],_ => rfl
  | t :: ts,b :: bs,h => by simp only [xput,xput_len ts bs]; simp [hset]
theorem xput_get : ∀ (ts : List Nat) (bs h : List Blk) (t : Nat) (k : Blk),bs.length = ts.length → (xput ts bs h)[t]? = some k → (t ∉ ts ∧ h[t]? = some k) ∨ ∃ i : Nat,ts[i]? = some t ∧ bs[i]? = some k
  | [],_,_,t,k,_,hk => .inl ⟨by simp,hk⟩
  | t0 :: ts,[],_,_,_,hl,_ => by simp at hl
  | t0 :: ts,b :: bs,h,t,k,hl,hk => by
    simp only [xput] at hk
    rcases xput_get ts bs _ t k (by simpa using hl) hk with ⟨h1,h2⟩ | ⟨i,h1,h2⟩
    · rcases hset_get h2 with ⟨rfl,rfl⟩ | ⟨hne,h3⟩
      · exact .inr ⟨0,rfl,rfl⟩
      · exact .inl ⟨by simp [hne,h1],h3⟩
    · exact .inr ⟨i + 1,by simpa using h1,by simpa using h2⟩

theorem xtoks_sub : ∀ (as : List AV) (acc : List Nat) (t : Nat),t ∈ acc → t ∈ xtoks as acc
  | [],acc,t,h => h
  | a :: as,acc,t,h => by
    have g : ∀ acc', t ∈ acc' → t ∈ xtoks as acc' := fun acc' h' => xtoks_sub as acc' t h'
    cases a <;> simp only [xtoks] <;> try exact g _ h
    rename_i t0 off
    apply g
    cases isIn t0 acc <;> simp [h]
theorem xtoks_mem : ∀ (as : List AV) (acc : List Nat) (t off : Nat),AV.ptr t off ∈ as → t ∈ xtoks as acc
  | [],_,_,_,h => by cases h
  | a :: as,acc,t,off,h => by
    rcases List.mem_cons.1 h with rfl | h'
    · simp only [xtoks]
      apply xtoks_sub
      cases e : isIn t acc
      · simp
      · simpa using isIn_mem0 e
    · cases a <;> simp only [xtoks] <;> exact xtoks_mem as _ t off h'
theorem xtoks_nodup : ∀ (as : List AV) (acc : List Nat),acc.Nodup → (xtoks as acc).Nodup
  | [],_,h => h
  | a :: as,acc,h => by
    cases a <;> simp only [xtoks] <;> try exact xtoks_nodup as _ h
    rename_i t0 off
    apply xtoks_nodup
    cases e : isIn t0 acc <;> simp only [cond_true,cond_false]
    · rw [List.nodup_append]
      refine ⟨h,by simp,fun a ha b hb => ?_⟩
      rw [List.mem_singleton] at hb
      subst hb
      intro e2
      subst e2
      rw [mem_isIn0 ha] at e
      cases e
    · exact h
theorem xidx_get (t : Nat) : ∀ {ts : List Nat},t ∈ ts → ts[xidx t ts]? = some t
  | x :: r,h => by
    simp only [xidx]
    cases e : x == t <;> simp only [cond_true,cond_false]
    · rcases List.mem_cons.1 h with rfl | h
      · simp at e
      · simpa using xidx_get t h
    · rw [beq_iff_eq] at e; subst e; rfl

theorem strike_keep : ∀ (ts : List Nat) (h : List Blk) {t : Nat},t ∉ ts → (strike ts h)[t]? = h[t]?
  | [],_,_,_ => rfl
  | t0 :: ts,h,t,hn => by
    show (strike ts (hset h t0 .gone))[t]? = _
    rw [strike_keep ts _ (fun h' => hn (List.mem_cons_of_mem _ h'))]
    have : t0 ≠ t := fun e => hn (by rw [e]; exact List.mem_cons_self ..)
    simp [hset,List.getElem?_set_ne this]

theorem isBox_eq {t : Nat} (hb : isBox h t = true) : hget h t = .box (boxOf h t) := by
  unfold isBox at hb
  unfold boxOf
  cases hg : hget h t <;> simp_all

theorem HRel.boxOf (H : HRel w S Own l h) {t : Nat} (hb : isBox h t = true) : h[t]? = some (.box (Am.boxOf h t)) ∧ ∃ b,l[t]? = some (some b,(Am.boxOf h t).length) ∧
    ∃ c e,w.heap[b]? = some (.cells c e (0,0)) ∧ c.size = (Am.boxOf h t).length ∧ (∀ (j : Nat) u a,c[j]? = some u → (Am.boxOf h t)[j]? = some a → Rd w S (some l) u a) ∧ ¬ S b ∧ Own b := by
  have hg := hget_some (isBox_eq hb) rfl
  refine ⟨hg,?_⟩
  have hlt : t < l.length := by rw [H.len]; exact (List.getElem?_eq_some_iff.1 hg).1
  obtain ⟨b,c,e,hx,h1,h2,h3,h4,h5⟩ := H.blk t _ _ (List.getElem?_eq_getElem hlt) hg
  exact ⟨b,by rw [List.getElem?_eq_getElem hlt,hx],c,e,h1,h2,h3,h4,h5⟩

/-- What such a function may write. -/
def OwnS (w : World) (l : List Tk) (ts : List Nat) (b : Nat) : Prop := (∃ t ∈ ts,∃ N,l[t]? = some (some b,N)) ∨ w.heap.size ≤ b
def lS (l : List Tk) (ts : List Nat) : List Tk := ts.map fun t => l.getD t (none,0)

theorem HRel.small (H : HRel w S Own l h) {ts D : List Nat} (hnd : ts.Nodup) (hbox : ∀ t ∈ ts,isBox h t = true) (hdis : ∀ t ∈ ts,t ∉ D) (hD : ∀ t ∈ ts,∀ u ∈ (Am.boxOf h t).flatMap (reach h 4),u ∈ D) :
    HRel w (Fz S l h D) (OwnS w l ts) (lS l ts) (ts.map fun t => .box ((Am.boxOf h t).map (frz h 4))) := by
  have H1 := H.strike D
  have get : ∀ (i : Nat) x,(lS l ts)[i]? = some x → ∃ t,ts[i]? = some t ∧ t ∈ ts ∧ ∃ b,x = (some b,(Am.boxOf h t).length) ∧ l[t]? = some (some b,(Am.boxOf h t).length) := by
    intro i x hx
    simp only [lS,List.getElem?_map,Option.map_eq_some_iff] at hx
    obtain ⟨t,ht,rfl⟩ := hx
    have hm := List.mem_of_getElem? ht
    obtain ⟨_,b,hl,_⟩ := H.boxOf (hbox t hm)
    exact ⟨t,ht,hm,b,by simp [List.getD,hl],hl⟩
  refine ⟨by simp [lS],fun i x k hx hk => ?_,fun i i' b N N' k k' h1 h2 h3 h4 h5 h6 => ?_,H1.bd,fun i b N hx => ?_,fun b hb => .inr hb⟩
  · obtain ⟨t,ht,hm,b,rfl,hl⟩ := get i x hx
    simp only [List.getElem?_map,ht,Option.map_some,Option.some.injEq] at hk
    subst hk
    obtain ⟨hg,b', hl', c,e,k1,k2,k3,k4,k5⟩ := H.boxOf (hbox t hm)
    rw [hl] at hl'
    obtain rfl : b = b' := by simpa using hl'
    have hS1 := (H1.blk t _ _ hl (by rw [strike_keep D h (hdis t hm)]; exact hg)).owned rfl
    refine ⟨b,c,e,by simp,k1,by simp [k2],fun j u a hu ha => ?_,hS1.2,.inl ⟨t,hm,_,hl⟩⟩
    rw [List.getElem?_map,Option.map_eq_some_iff] at ha
    obtain ⟨a', ha', rfl⟩ := ha
    exact (frz_strike H (k3 j u a' hu ha') (fun u hu => hD t hm u (List.mem_flatMap.2 ⟨a', List.mem_of_getElem? ha', hu⟩))).pres (.refl _ _) (fun _ h => h) trivial
  · obtain ⟨t,ht,hm,b1,e1,hl⟩ := get i _ h1
    obtain ⟨t', ht', hm', b2,e2,hl'⟩ := get i' _ h2
    simp only [Prod.mk.injEq,Option.some.injEq] at e1 e2
    rw [← e1.1] at hl
    rw [← e2.1] at hl'
    have := H.inj t t' b _ _ _ _ hl hl' (H.boxOf (hbox t hm)).1 (H.boxOf (hbox t' hm')).1 rfl rfl
    subst this
    have hi : i < ts.length := (List.getElem?_eq_some_iff.1 ht).1
    have hi' : i' < ts.length := (List.getElem?_eq_some_iff.1 ht').1
    have e3 : ts[i] = ts[i'] := by
      rw [List.getElem?_eq_getElem hi] at ht
      rw [List.getElem?_eq_getElem hi'] at ht'
      rw [Option.some.inj ht,Option.some.inj ht']
    exact (List.getElem_inj hnd).1 e3
  · obtain ⟨t,ht,hm,b1,e1,hl⟩ := get i _ hx
    simp only [Prod.mk.injEq,Option.some.injEq] at e1
    rw [← e1.1] at hl
    exact H.lbd t b _ hl

/-- What a summary of such a function says. -/
def XOk [Inhabited GlobT] (P : Program) (f : FuncId) (s : Sm) (X : XS) : Prop :=
  ∀ (as : List AV) (bs : List (List AV)) (vs : Array Value) (w : World) (S Own : Nat → Prop) (l : List Tk),as.length = X.pat.length → bs.map List.length = X.nb → HRel w S Own l (bs.map Blk.box) → Glob w S →
    vs.size = as.length → (∀ (j : Nat) u a,vs[j]? = some u → as[j]? = some a → Rd w S (some l) u a) → s.ok (as ++ bs.flatten) = true →
    CallOk P f vs w fun u w' => ∃ S' l', HRel w' S' Own l' (X.heap (toT (s.val (as ++ bs.flatten)))) ∧ Rd w' S' (some l') u (X.ans (toT (s.val (as ++ bs.flatten)))) ∧ Chg Own S S' l l' [] w w'

theorem eqPat_eq : ∀ {a b : List (Option (Nat × Nat))},eqPat a b = true → a = b
  | [],[],_ => rfl
  | none :: r,none :: r', h => by simp only [eqPat] at h; rw [eqPat_eq h]
  | some a :: r,some b :: r', h => by
    simp only [eqPat,Bool.and_eq_true,beq_iff_eq] at h
    rw [eqPat_eq h.2,Prod.ext h.1.1 h.1.2]
  | [],_ :: _,h => by simp [eqPat] at h
  | _ :: _,[],h => by simp [eqPat] at h
  | none :: _,some _ :: _,h => by simp [eqPat] at h
  | some _ :: _,none :: _,h => by simp [eqPat] at h
theorem eqN0_eq : ∀ {a b : List Nat},eqN0 a b = true → a = b
  | [],[],_ => rfl
  | a :: r,b :: r', h => by
    simp only [eqN0,Bool.and_eq_true,beq_iff_eq] at h
    rw [eqN0_eq h.2,h.1]
  | [],_ :: _,h => by simp [eqN0] at h
  | _ :: _,[],h => by simp [eqN0] at h
theorem getX_spec {f : Nat} {pat : List (Option (Nat × Nat))} {nb : List Nat} {s : Sm} {X : XS} : ∀ {Γ : Gam},Γ.getX f pat nb = some (s,X) → X.pat = pat ∧ X.nb = nb
  | [],h => by cases h
  | (i,s0) :: r,h => by
    simp only [Gam.getX] at h
    cases hi : i == f <;> simp only [hi,cond_true,cond_false] at h
    · exact getX_spec h
    · cases hm : s0.mx with
      | none => rw [hm] at h; exact getX_spec h
      | some X0 =>
        rw [hm] at h
        simp only at h
        cases hb : (eqPat X0.pat pat && eqN0 X0.nb nb) <;> simp only [hb,cond_true,cond_false] at h
        · exact getX_spec h
        · simp only [Option.some.injEq,Prod.mk.injEq] at h
          obtain ⟨_,rfl⟩ := h
          simp only [Bool.and_eq_true] at hb
          exact ⟨eqPat_eq hb.1,eqN0_eq hb.2⟩

theorem xbox_len : ∀ (ns : List Nat) (r : List AV),(xbox ns r).length = ns.length
  | [],_ => rfl
  | n :: ns,r => by simp [xbox,xbox_len ns]

theorem CallOk.mono0 {f : FuncId} {vs : Array Value} {R R' : Value → World → Prop} (h : CallOk P f vs w R) (hr : ∀ v w', R v w' → R' v w') : CallOk P f vs w R' := by
  unfold CallOk at *
  generalize (callFunc f vs).run P w = r at *
  cases r with
  | halt x w' => exact h
  | ok n w' =>
    cases n <;> first
      | exact hr _ _ h
      | exact Calls.mono h (fun e w'' ⟨v,he,hv⟩ => ⟨v,he,hr _ _ hv⟩)
      | exact h

/-- A call of such a function, seen in its caller's heap. -/
theorem xcall_ok [Inhabited GlobT] (hX : ∀ f pat nb s X,Γ.getX f pat nb = some (s,X) → XOk P f s X) {g : FuncId} {args : List AV} {vs : Array Value} {cs : List Bool} {v : AV} {h' : List Blk}
    (H : HRel w S Own l h) (hG : Glob w S) (hs : vs.size = args.length) (hr : ∀ (j : Nat) u a,vs[j]? = some u → args[j]? = some a → Rd w S (some l) u a) (hx : xcall Γ g args h = some (cs,v,h')) (hc : ∀ c ∈ cs,c = true) :
    CallOk P g vs w fun u w' => ∃ S' l', HRel w' S' Own l' h' ∧ Rd w' S' (some l') u v ∧ Chg Own S S' l l' [] w w' := by
  unfold xcall at hx
  generalize hts : xtoks args [] = ts at hx
  split at hx
  · cases hx
  rename_i s X hgx
  obtain ⟨hp,hnb⟩ := getX_spec hgx
  generalize hDD : xdead h ts args = D at hx
  cases hb : (!(ts.all (isBox h)) || D.any (fun t => isIn t ts)) <;> simp only [hb,cond_true,cond_false] at hx
  case true => cases hx
  simp only [Bool.or_eq_false_iff,Bool.not_eq_false'] at hb
  have hbox : ∀ t ∈ ts,isBox h t = true := fun t ht => List.all_eq_true.1 hb.1 t ht
  have hdis : ∀ t ∈ ts,t ∉ D := fun t ht hd => by
    have := List.any_eq_false.1 hb.2 t hd
    exact this (mem_isIn0 ht)
  have hnd : ts.Nodup := hts ▸ xtoks_nodup args [] (by simp)
  have hDa : ∀ a ∈ args,∀ t ∈ xdead1 h a,t ∈ D := fun a ha t ht => by
    rw [← hDD]; exact List.mem_append.2 (.inl (List.mem_flatMap.2 ⟨a,ha,ht⟩))
  have hDb : ∀ t ∈ ts,∀ u ∈ (Am.boxOf h t).flatMap (reach h 4),u ∈ D := fun t ht u hu => by
    rw [← hDD]; exact List.mem_append.2 (.inr (List.mem_flatMap.2 ⟨t,ht,hu⟩))
  have Hs := H.small hnd hbox hdis hDb
  have H1 := H.strike D
  have hfl : (ts.flatMap fun t => (Am.boxOf h t).map (frz h 4)) = (ts.map fun t => (Am.boxOf h t).map (frz h 4)).flatten := by rw [List.flatMap_def]
  rw [hfl] at hx
  have hok := hX _ _ _ _ _ hgx (args.map (xarg h ts)) (ts.map fun t => (Am.boxOf h t).map (frz h 4)) vs w (Fz S l h D) (OwnS w l ts) (lS l ts) (by rw [hp]; simp) (by rw [hnb]; simp [Function.comp_def]) (by simpa [Function.comp_def] using Hs)
    (hG.pres (.refl _ _) (fun _ h => .inl h)) (by simpa using hs) (fun j u a hu ha => by
      rw [List.getElem?_map,Option.map_eq_some_iff] at ha
      obtain ⟨a', ha', rfl⟩ := ha
      have hrd := hr j u a' hu ha'
      have hm := List.mem_of_getElem? ha'
      have other : (∀ t off,a' ≠ .ptr t off) → Rd w (Fz S l h D) (some (lS l ts)) u (xarg h ts a') := by
        intro hne
        have e1 : xarg h ts a' = frz h 4 a' := by cases a' <;> first | rfl | exact absurd rfl (hne _ _)
        have e2 : xdead1 h a' = reach h 4 a' := by cases a' <;> first | rfl | exact absurd rfl (hne _ _)
        rw [e1]
        exact (frz_strike H hrd (fun t ht => hDa a' hm t (by rw [e2]; exact ht))).pres (.refl _ _) (fun _ h => h) trivial
      cases a' with
      | ptr t off =>
        have ht : t ∈ ts := hts ▸ xtoks_mem args [] t off hm
        obtain ⟨b,N,rfl,hl⟩ := rd_ptr hrd
        refine .ptr _ _ _ b N ?_
        simp [lS,xidx_get t ht,List.getD,hl]
      | _ => exact other (by intro t off e; cases e)) (by
      simp only [Option.some.injEq,Prod.mk.injEq] at hx
      exact hc _ (by rw [← hx.1]; exact List.mem_singleton.2 rfl))
  refine hok.mono0 ?_
  rintro u w' ⟨S', ls', Hf,hrd,C⟩
  simp only [Option.some.injEq,Prod.mk.injEq] at hx
  obtain ⟨-, rfl,rfl⟩ := hx
  generalize toT (s.val (args.map (xarg h ts) ++ (ts.map fun t => (Am.boxOf h t).map (frz h 4)).flatten)) = r at Hf hrd ⊢
  have hk : X.nb.length = ts.length := by rw [hnb]; simp
  rw [hk]
  generalize hhs : X.heap r = hs' at Hf ⊢
  have hklen : ts.length ≤ hs'.length := by rw [← hhs]; simp [XS.heap,xbox_len,hk]
  have hlls : ls'.length = hs'.length := Hf.len
  -- tokens of the small heap,in the great one
  have key : ∀ (i : Nat) x,ls'[i]? = some x → (l ++ ls'.drop ts.length)[xren ts h.length i]? = some x := by
    intro i x hx
    unfold xren
    by_cases hi : i < ts.length
    · have hbl : Nat.blt i ts.length = true := by simpa using hi
      rw [hbl,cond_true]
      have hti : ts[i]? = some ts[i] := List.getElem?_eq_getElem hi
      obtain ⟨_,b,hl,_⟩ := H.boxOf (hbox _ (List.getElem_mem hi))
      have h1 : (lS l ts)[i]? = some (some b,(Am.boxOf h ts[i]).length) := by simp [lS,hi,List.getD,hl]
      have h2 := C.agr i _ rfl h1
      rw [hx] at h2
      obtain rfl := Option.some.inj h2
      have h3 : ts[i] < l.length := (List.getElem?_eq_some_iff.1 hl).1
      simp only [List.getD,hti,Option.getD_some]
      rw [List.getElem?_append_left h3]
      exact hl
    · have hbl : Nat.blt i ts.length = false := blt_ff hi
      rw [hbl,cond_false,List.getElem?_append_right (by rw [H.len]; omega),H.len,List.getElem?_drop]
      rw [show ts.length + (h.length + (i - ts.length) - h.length) = i by omega]
      exact hx
  have toOwn : ∀ b,OwnS w l ts b → Own b := by
    rintro b (⟨t,ht,N,hl⟩ | hb)
    · obtain ⟨_,b', hl', c,e,_,_,_,_,h5⟩ := H.boxOf (hbox t ht)
      rw [hl] at hl'
      simp only [Option.some.injEq,Prod.mk.injEq] at hl'
      rw [hl'.1]; exact h5
    · exact H.own b hb
  have hxlen : (xput ts ((hs'.take ts.length).map (renB (xren ts h.length))) (strike D h)).length = h.length := by rw [xput_len,strike_len]
  have hll : l.length = h.length := H.len
  -- each live token stands in the old heap,or in the small one
  have cls : ∀ (t : Nat) k x,(xput ts ((hs'.take ts.length).map (renB (xren ts h.length))) (strike D h) ++ (hs'.drop ts.length).map (renB (xren ts h.length)))[t]? = some k → (l ++ ls'.drop ts.length)[t]? = some x →
      (t < l.length ∧ t ∉ ts ∧ (strike D h)[t]? = some k ∧ l[t]? = some x) ∨ ∃ i k0,xren ts h.length i = t ∧ hs'[i]? = some k0 ∧ k = renB (xren ts h.length) k0 ∧ ls'[i]? = some x := by
    intro t k x hkt hxt
    have fin : ∀ (i : Nat) k0,xren ts h.length i = t → hs'[i]? = some k0 → k = renB (xren ts h.length) k0 → ∃ i k0,xren ts h.length i = t ∧ hs'[i]? = some k0 ∧ k = renB (xren ts h.length) k0 ∧ ls'[i]? = some x := by
      intro i k0 e1 e2 e3
      have hi : i < ls'.length := by rw [hlls]; exact (List.getElem?_eq_some_iff.1 e2).1
      have := key i _ (List.getElem?_eq_getElem hi)
      rw [e1,hxt] at this
      exact ⟨i,k0,e1,e2,e3,by rw [List.getElem?_eq_getElem hi]; exact this.symm⟩
    by_cases ht : t < l.length
    · rw [List.getElem?_append_left (by rw [hxlen]; omega)] at hkt
      rw [List.getElem?_append_left ht] at hxt
      rcases xput_get ts _ _ t k (by simp; omega) hkt with ⟨h1,h2⟩ | ⟨i,h1,h2⟩
      · exact .inl ⟨ht,h1,h2,hxt⟩
      · right
        have hi : i < ts.length := (List.getElem?_eq_some_iff.1 h1).1
        rw [List.getElem?_map,Option.map_eq_some_iff] at h2
        obtain ⟨k0,h3,rfl⟩ := h2
        rw [List.getElem?_take_of_lt hi] at h3
        refine fin i k0 ?_ h3 rfl
        unfold xren
        have hbl : Nat.blt i ts.length = true := by simpa using hi
        rw [hbl,cond_true]
        simp [List.getD,h1]
      
    · right
      rw [List.getElem?_append_right (by rw [hxlen]; omega),hxlen,List.getElem?_map,Option.map_eq_some_iff] at hkt
      obtain ⟨k0,h3,rfl⟩ := hkt
      rw [List.getElem?_drop] at h3
      refine fin _ k0 ?_ h3 rfl
      unfold xren
      have hbl : Nat.blt (ts.length + (t - h.length)) ts.length = false := blt_ff (by omega)
      rw [hbl,cond_false]
      omega
  -- blocks of the others are not the function's
  have far : ∀ (t : Nat) k b N,t ∉ ts → (strike D h)[t]? = some k → k.live = true → l[t]? = some (some b,N) → ¬ OwnS w l ts b := by
    rintro t k b N hnt hk hlv hl (⟨t', ht', N', hl'⟩ | hb)
    · have := H1.inj t t' b N N' k _ hl hl' hk (by rw [strike_keep D h (hdis t' ht')]; exact (H.boxOf (hbox t' ht')).1) hlv rfl
      exact hnt (this ▸ ht')
    · have := H.lbd t b N hl; omega
  refine ⟨S', l ++ ls'.drop ts.length,⟨?_,fun t x k hxt hkt => ?_,fun t t' b N N' k k' h1 h2 h3 h4 h5 h6 => ?_,Hf.bd,fun t b N hxt => ?_,fun b hb => H.own b (Nat.le_trans C.size hb)⟩,hrd.ren (fun l0 e => by cases e; exact ⟨_,rfl,key⟩),?_⟩
  · rw [List.length_append,List.length_append,hxlen]; simp; omega
  · rcases cls t k x hkt hxt with ⟨ht,hnt,hk,hl⟩ | ⟨i,k0,e1,e2,rfl,e4⟩
    · cases hlv : k.live with
      | false => cases k <;> simp [Blk.live] at hlv; trivial
      | true =>
        refine (H1.blk t x k hl hk).move C.pres C.sub ⟨_,rfl⟩ (fun b hb => ?_) (fun b hb hn hS => ?_)
        · obtain ⟨x1,x2⟩ := x
          simp only at hb; subst hb
          exact C.keep b (far t k b x2 hnt hk hlv hl)
        · obtain ⟨x1,x2⟩ := x
          simp only at hb; subst hb
          rcases C.new b hS with h1 | h1
          · exact hn h1
          · exact far t k b x2 hnt hk hlv hl h1
    · exact (Hf.blk i x k0 e4 e2).ren key (fun b _ ho => toOwn b ho)
  · rcases cls t k _ h3 h1 with ⟨ht,hnt,hk,hl⟩ | ⟨i,k0,e1,e2,rfl,e4⟩
    · rcases cls t' k' _ h4 h2 with ⟨ht', hnt', hk', hl'⟩ | ⟨i', k0', e1', e2', rfl,e4'⟩
      · exact H1.inj t t' b N N' k k' hl hl' hk hk' h5 h6
      · rw [renB_live] at h6
        exact absurd ((Hf.blk i' _ k0' e4' e2').owned h6).1 (far t k b N hnt hk h5 hl)
    · rcases cls t' k' _ h4 h2 with ⟨ht', hnt', hk', hl'⟩ | ⟨i', k0', e1', e2', rfl,e4'⟩
      · rw [renB_live] at h5
        exact absurd ((Hf.blk i _ k0 e4 e2).owned h5).1 (far t' k' b N' hnt' hk' h6 hl')
      · rw [renB_live] at h5 h6
        have := Hf.inj i i' b N N' k0 k0' e4 e4' e2 e2' h5 h6
        subst this
        rw [← e1,← e1']
  · rw [List.getElem?_append] at hxt
    split at hxt
    · exact Nat.lt_of_lt_of_le (H.lbd t b N hxt) C.size
    · rw [List.getElem?_drop] at hxt
      exact Hf.lbd _ b N hxt
  · exact ⟨C.os,C.tape,C.output,C.size,fun b hb => C.keep b (fun ho => hb (toOwn b ho)),fun b hb => C.sub b (.inl hb),fun b hb => (C.new b hb).elim (fun h => Fz_own H h) (fun ho => .inr (toOwn b ho)),
      C.pres.mono (fun _ h => .inl h),by simp,fun t x _ hx => get_of_mle ⟨_,rfl⟩ hx⟩

theorem mask_rd {w w' : World} {S S' : Nat → Prop} {m m' : Option (List Tk)} {v : Value} {a : AV} (h : Rd w S m v a) : Rd w' S' m' v (maskV a) := by
  unfold maskV
  cases hs : scal a
  · exact .dead _ _
  · exact scal_rd h hs
theorem maskA_rd {v : Value} {a : AV} (h : Rd w S (some l) v a) : Rd w S' (some l) v (maskA a) := by
  unfold maskA
  cases a <;> try exact mask_rd h
  rcases rd_lst h with ⟨b,N,cap,rfl,h1,h2,h3⟩ | ⟨rfl,h1⟩
  · exact .lst _ _ _ _ _ _ h1 h2 h3
  · exact .lst0 _ _ _ h1
theorem maskT_rd {v : Value} {a : AV} (h : Rd w S (some l) v a) : Rd w S' (some l) v (maskT a) := by
  unfold maskT
  cases a <;> try exact maskA_rd h
  obtain ⟨vs,rfl,h1,h2⟩ := rd_tup h
  refine .tup _ _ _ (by simpa using h1) (fun j u a hu ha => ?_)
  rw [List.getElem?_map,Option.map_eq_some_iff] at ha
  obtain ⟨a', ha', rfl⟩ := ha
  exact maskA_rd (h2 j u a' hu ha')

/-- Such a call, seen in its caller's heap: all that the caller owns stays. -/
theorem fcall_ok [Inhabited GlobT] (hX : ∀ f pat nb s X,Γ.getX f pat nb = some (s,X) → XOk P f s X) {g : FuncId} {args : List AV} {vs : Array Value} {cs : List Bool} {v : AV} {h' : List Blk}
    (H : HRel w S Own l h) (hG : Glob w S) (hs : vs.size = args.length) (hr : ∀ (j : Nat) u a,vs[j]? = some u → args[j]? = some a → Rd w S (some l) u a) (hx : fcall Γ g args h = some (cs,v,h')) (hc : ∀ c ∈ cs,c = true) :
    CallOk P g vs w fun u w' => ∃ S' l', HRel w' S' Own l' h' ∧ Rd w' S' (some l') u v ∧ Chg Own S S' l l' [] w w' := by
  unfold fcall at hx
  split at hx
  · cases hx
  rename_i s X hgx
  obtain ⟨hp,hnb⟩ := getX_spec hgx
  cases hb : X.kp && X.nb.isEmpty <;> simp only [hb,cond_true,cond_false] at hx
  · cases hx
  have hD : ∀ a ∈ args,∀ t ∈ reach h 4 a,t ∈ args.flatMap (reach h 4) := fun a ha t ht => List.mem_flatMap.2 ⟨a,ha,ht⟩
  generalize args.flatMap (reach h 4) = D at hD
  have Hs : HRel w (Fz S l h D) (fun b => w.heap.size ≤ b) [] ([] : List Blk) :=
    ⟨rfl,fun t x k hx => by simp at hx,fun t t' b N N' k k' h1 => by simp at h1,(H.strike D).bd,fun t b N h1 => by simp at h1,fun b hb => hb⟩
  have hok := hX _ _ _ _ _ hgx (args.map (frz h 4)) [] vs w (Fz S l h D) (fun b => w.heap.size ≤ b) [] (by rw [hp]; simp) (by rw [hnb]; rfl) Hs
    (hG.pres (.refl _ _) (fun _ h => .inl h)) (by simpa using hs) (fun j u a hu ha => by
      rw [List.getElem?_map,Option.map_eq_some_iff] at ha
      obtain ⟨a', ha', rfl⟩ := ha
      exact (frz_strike H (hr j u a' hu ha') (fun t ht => hD a' (List.mem_of_getElem? ha') t ht)).pres (.refl _ _) (fun _ h => h) trivial) (by
      simp only [Option.some.injEq,Prod.mk.injEq] at hx
      rw [List.flatten_nil,List.append_nil]
      exact hc _ (by rw [← hx.1]; exact List.mem_singleton.2 rfl))
  refine hok.mono0 ?_
  rintro u w' ⟨S1,l1,Hf,hrd,C⟩
  simp only [Option.some.injEq,Prod.mk.injEq] at hx
  obtain ⟨-, rfl,rfl⟩ := hx
  rw [List.flatten_nil,List.append_nil] at Hf hrd
  generalize toT (s.val (args.map (frz h 4))) = r at Hf hrd ⊢
  generalize X.heap r = hs' at Hf ⊢
  have hll : l.length = h.length := H.len
  have hl1 : l1.length = hs'.length := Hf.len
  have key : ∀ (i : Nat) x,l1[i]? = some x → (l ++ l1)[xren [] h.length i]? = some x := fun i x hx => by
    have e : xren [] h.length i = h.length + i := by
      unfold xren
      rw [show Nat.blt i ([] : List Nat).length = false from blt_ff (by simp),cond_false]
      rfl
    rw [e,List.getElem?_append_right (by omega),hll,Nat.add_sub_cancel_left]
    exact hx
  have hP : Pres S w w' := C.pres.mono (fun _ h => .inl h)
  have keep : ∀ b,b < w.heap.size → w'.heap[b]? = w.heap[b]? := fun b hb => C.keep b (by omega)
  refine ⟨S,l ++ l1,⟨?_,fun t x k hxt hkt => ?_,fun t t' b N N' k k' h1 h2 h3 h4 h5 h6 => ?_,fun b hb => Nat.lt_of_lt_of_le (H.bd b hb) C.size,fun t b N hxt => ?_,fun b hb => H.own b (Nat.le_trans C.size hb)⟩,maskT_rd (hrd.ren (fun l0 e => by cases e; exact ⟨_,rfl,key⟩)),?_⟩
  · simp; omega
  · by_cases ht : t < l.length
    · rw [List.getElem?_append_left ht] at hxt
      rw [List.getElem?_append_left (by omega)] at hkt
      refine (H.blk t x k hxt hkt).move hP (fun _ h => h) ⟨_,rfl⟩ (fun b hb => ?_) (fun b hb hn => hn)
      obtain ⟨x1,x2⟩ := x
      simp only at hb; subst hb
      exact keep b (H.lbd t b x2 hxt)
    · rw [List.getElem?_append_right (by omega)] at hxt
      rw [List.getElem?_append_right (by omega),List.getElem?_map,Option.map_eq_some_iff] at hkt
      obtain ⟨k0,hk0,rfl⟩ := hkt
      rw [hll] at hxt
      have hbr := Hf.blk _ x k0 hxt hk0
      cases k0 with
      | fl sz z els =>
        rcases hbr with ⟨rfl,rfl⟩ | ⟨b,c,e,rfl,h1,h2,h3,h4,h5⟩
        · exact .inl ⟨rfl,rfl⟩
        · refine .inr ⟨b,c,e,by simp,h1,by simpa using h2,fun i el hel => ?_,fun hS => ?_,H.own b h5⟩
          · rw [List.getElem?_map,Option.map_eq_some_iff] at hel
            obtain ⟨el0,hel0,rfl⟩ := hel
            obtain ⟨g1,g2⟩ := h3 i el0 hel0
            refine ⟨by simpa using g1,fun j a ha => ?_⟩
            rw [List.getElem?_map,Option.map_eq_some_iff] at ha
            obtain ⟨a0,ha0,rfl⟩ := ha
            obtain ⟨u,hu,hru⟩ := g2 j a0 ha0
            exact ⟨u,hu,mask_rd hru.1,hru.2⟩
          · have := H.bd b hS
            omega
      | _ => trivial
  · rw [List.getElem?_append] at h1 h2 h3 h4
    have own1 : ∀ (t : Nat) k b N,l1[t]? = some (some b,N) → (hs'.map maskB)[t]? = some k → k.live = true → w.heap.size ≤ b ∧ ∃ k0,hs'[t]? = some k0 ∧ k0.live = true := fun t k b N hl hk hlv => by
      rw [List.getElem?_map,Option.map_eq_some_iff] at hk
      obtain ⟨k0,hk0,rfl⟩ := hk
      have hlv0 : k0.live = true := by cases k0 <;> first | rfl | (simp [maskB,Blk.live] at hlv)
      exact ⟨((Hf.blk t _ k0 hl hk0).owned hlv0).1,k0,hk0,hlv0⟩
    by_cases c1 : t < l.length
    · rw [if_pos c1] at h1
      rw [if_pos (by omega)] at h3
      by_cases c2 : t' < l.length
      · rw [if_pos c2] at h2
        rw [if_pos (by omega)] at h4
        exact H.inj t t' b N N' k k' h1 h2 h3 h4 h5 h6
      · rw [if_neg c2] at h2
        rw [if_neg (by omega)] at h4
        have := H.lbd t b N h1
        rw [hll] at h2
        have := (own1 _ k' b N' h2 h4 h6).1
        omega
    · rw [if_neg c1] at h1
      rw [if_neg (by omega)] at h3
      rw [hll] at h1
      obtain ⟨o1,k0,e0,lv0⟩ := own1 _ k b N h1 h3 h5
      by_cases c2 : t' < l.length
      · rw [if_pos c2] at h2
        have := H.lbd t' b N' h2
        omega
      · rw [if_neg c2] at h2
        rw [if_neg (by omega)] at h4
        rw [hll] at h2
        obtain ⟨o2,k1,e1,lv1⟩ := own1 _ k' b N' h2 h4 h6
        have := Hf.inj _ _ b N N' k0 k1 h1 h2 e0 e1 lv0 lv1
        omega
  · rw [List.getElem?_append] at hxt
    split at hxt
    · exact Nat.lt_of_lt_of_le (H.lbd t b N hxt) C.size
    · exact Hf.lbd _ b N hxt
  · exact ⟨C.os,C.tape,C.output,C.size,fun b hb => keep b (by
        rcases Nat.lt_or_ge b w.heap.size with h1 | h1
        · exact h1
        · exact absurd (H.own b h1) hb),fun b hb => hb,fun b hb => .inl hb,hP,by simp,fun t x _ hx => get_of_mle ⟨_,rfl⟩ hx⟩
end
end Go.Am
end
section
/- The abstract machine: calls; a region in the order of its text. -/
namespace Go.Am

/-- What a summary promises. -/
structure SmOk [Inhabited GlobT] (P : Program) (f : FuncId) (s : Sm) : Prop where
  run : ∀ (args : List AV) (vs : Array Value) (w : World) (S : Nat → Prop),vs.size = args.length → (∀ (j : Nat) u a,vs[j]? = some u → args[j]? = some a → Rd w S none u a) → (∀ b,S b → b < w.heap.size) → Glob w S → s.ok args = true →
    CallOk P f vs w (fun v w' => ∃ S', Rd w' S' none v (s.val args) ∧ (∀ b,S b → S' b) ∧ (∀ b,S' b → S b ∨ w.heap.size ≤ b) ∧ (∀ b,S' b → b < w'.heap.size) ∧ Ev w.heap.size (fun _ => False) w w')
  sc : s.sc = true → ∀ args,s.ok args = true → scal (s.val args) = true

/-- All summaries hold. -/
structure GamOk [Inhabited GlobT] (P : Program) (Γ : Gam) : Prop where
  sm : ∀ f s,Γ.get f = some s → SmOk P f s
  x : ∀ f pat nb s X,Γ.getX f pat nb = some (s,X) → XOk P f s X

theorem CallOk.mono {P : Program} {f : FuncId} {vs : Array Value} {w : World} {R R' : Value → World → Prop} (h : CallOk P f vs w R) (hr : ∀ v w', R v w' → R' v w') : CallOk P f vs w R' := by
  unfold CallOk at *
  generalize (callFunc f vs).run P w = r at *
  cases r with
  | halt x w' => exact h
  | ok n w' =>
    cases n <;> first
      | exact hr _ _ h
      | exact Calls.mono h (fun e w'' ⟨v,he,hv⟩ => ⟨v,he,hr _ _ hv⟩)
      | exact h

section
variable {P : Program} {Γ : Gam} {w w' : World} {S S' Own : Nat → Prop} {l l' : List Tk} {h : List Blk} {env : Env} {loc : Loc} {a : Act}

theorem Pres.ev (hE : Ev w.heap.size (fun _ => False) w w') (hS : ∀ b,S b → b < w.heap.size) : Pres S w w' :=
  ⟨fun b hb => hE.block b (hS b hb) (fun h => h),fun b c e f hb => ⟨c,f,by rw [hE.block b (heap_lt hb) (fun h => h)]; exact hb,rfl⟩⟩

theorem HRel.ev (H : HRel w S Own l h) (hE : Ev w.heap.size (fun _ => False) w w') (hS : ∀ b,S b → S' b) (hn : ∀ b,S' b → S b ∨ w.heap.size ≤ b) (hb : ∀ b,S' b → b < w'.heap.size) : HRel w' S' Own l h := by
  refine ⟨H.len,fun t x k hx hk => ?_,H.inj,hb,fun t b N hm => Nat.lt_of_lt_of_le (H.lbd t b N hm) hE.size,fun b hb => H.own b (Nat.le_trans hE.size hb)⟩
  refine (H.blk t x k hx hk).move (.ev hE H.bd) hS ⟨[],by simp⟩ (fun b hxb => hE.block b ?_ (fun h => h)) (fun b hxb hnS hS' => ?_)
  · obtain ⟨x1,x2⟩ := x
    simp only at hxb; subst hxb
    exact H.lbd t b x2 hx
  · obtain ⟨x1,x2⟩ := x
    simp only at hxb; subst hxb
    rcases hn b hS' with h' | h'
    · exact hnS h'
    · have := H.lbd t b x2 hx; omega

theorem Chg.ev (H : HRel w S Own l h) (hE : Ev w.heap.size (fun _ => False) w w') (hS : ∀ b,S b → S' b) (hn : ∀ b,S' b → S b ∨ Own b) : Chg Own S S' l l [] w w' :=
  ⟨hE.os,hE.tape,hE.output,hE.size,fun b hb => by
      rcases Nat.lt_or_ge b w.heap.size with h' | h'
      · exact hE.block b h' (fun h => h)
      · exact absurd (H.own b h') hb,hS,hn,.ev hE H.bd,Nat.le_refl _,agr_refl _ _⟩

theorem run_call {ρ : Operand → Value} {dst : Option Tmp} {f : Operand} {args : Array Operand} {ats : Array TypeId} {type : TypeId} {pos : String} {after : Array Edge} {guard : Option (Nat × Bool)} {g : FuncId} {caps : Array Value}
    (hf : ρ f = .func (.func g) #[] caps) : (execOp ρ ⟨dst,.call ⟨.value f,args,ats⟩,type,pos,after,guard⟩).run P w = (callFunc g (args.map ρ ++ caps)).run P w := by
  simp [execOp,resolve,hf,Deferred.ofValue,invoke]

theorem wp_of_call {o : Oper} {next : Act → World → Prop} {Q : Exit → Act → World → Prop} {g : FuncId} {vs : Array Value} {R : Value → World → Prop} (hrun : (execOp a.eval o).run P w = (callFunc g vs).run P w)
    (hc : CallOk P g vs w R) (hn : ∀ v w', R v w' → next (a.put o.dst v) w') : o.wp P a w next Q := by
  unfold Oper.wp
  rw [hrun]
  unfold CallOk at hc
  generalize (callFunc g vs).run P w = r at *
  cases r with
  | halt x w' => exact hc.elim
  | ok n w' =>
    cases n <;> first
      | exact hc.elim
      | exact hn _ _ hc
      | (refine Calls.mono hc (fun e w'' ⟨v,he,hv⟩ => ?_); subst he; exact hn _ _ hv)

theorem wp_of_qok {o : Oper} {next : Act → World → Prop} {Q : Exit → Act → World → Prop} {R : Value → Prop} (hq : QOk P a.eval o w R)
    (hn : ∀ u w', w'.heap = w.heap → w'.os = w.os → w'.tape = w.tape → w'.output = w.output → R u → next (a.put o.dst u) w') : o.wp P a w next Q := by
  obtain ⟨u,w', h1,h2,h3,h4,h5,h6⟩ := hq
  unfold Oper.wp
  rw [h1]
  exact hn u w' h2 h3 h4 h5 h6

theorem wp_of_mok {o : Oper} {next : Act → World → Prop} {Q : Exit → Act → World → Prop} {r : MR} (hq : MOk P a.eval o w S Own l r)
    (hn : ∀ u w' S' l', HRel w' S' Own l' r.h → Rd w' S' (some l') u r.v → Chg Own S S' l l' r.ks w w' → next (a.put o.dst u) w') : o.wp P a w next Q := by
  obtain ⟨res,u,w', S', l', h1,h2,h3,h4,h5⟩ := hq
  unfold Oper.wp
  rw [h1]
  rcases h2 with rfl | ⟨rfl,rfl⟩
  · exact hn u w' S' l' h3 h4 h5
  · exact hn undef w' S' l' h3 h4 h5

theorem chk_some {R : Type} {gb : Bool} {k : Option R} {r : R} : ∀ {cs : List Bool},chk gb k cs = some r → k = some r ∧ ∀ c ∈ cs,gb = true → c = true
  | [],h => ⟨h,by simp⟩
  | c :: cs,h => by
    simp only [chk] at h
    cases hb : (bif gb then c else true) <;> simp only [hb,cond_true,cond_false] at h
    · cases h
    obtain ⟨h1,h2⟩ := chk_some h
    refine ⟨h1,fun c' hc' hg => ?_⟩
    rcases List.mem_cons.1 hc' with rfl | hc'
    · rw [hg] at hb; exact hb
    · exact h2 c' hc' hg

/-- What an inlined call promises. -/
def CallIOk [Inhabited GlobT] (P : Program) {R : Type} (call : CallI R) : Prop :=
  ∀ f args h K r,call f args h K = some r → ∀ w S Own l vs,HRel w S Own l h → Glob w S → vs.size = args.length → (∀ (j : Nat) u a,vs[j]? = some u → args[j]? = some a → Rd w S (some l) u a) →
    CallOk P f vs w fun v w' => ∃ a' h' ks S' l', K a' h' ks = some r ∧ HRel w' S' Own l' h' ∧ Rd w' S' (some l') v a' ∧ Chg Own S S' l l' ks w w'

/-- What a call promises that a region makes outright. -/
def CallDOk [Inhabited GlobT] (P : Program) (cd : CallD) : Prop :=
  ∀ f args h v h', cd f args h = some (v,h') → ∀ w S Own l vs,HRel w S Own l h → Glob w S → vs.size = args.length → (∀ (j : Nat) u a,vs[j]? = some u → args[j]? = some a → Rd w S (some l) u a) →
    CallOk P f vs w fun u w' => ∃ S' l', HRel w' S' Own l' h' ∧ Rd w' S' (some l') u v ∧ Chg Own S S' l l' [] w w'
theorem noD_ok [Inhabited GlobT] (P : Program) : CallDOk P noD := fun _ _ _ _ _ h => by cases h

theorem callX_ok [Inhabited GlobT] {R : Type} {inl : CallI R} (hX : ∀ f pat nb s X,Γ.getX f pat nb = some (s,X) → XOk P f s X) (hi : CallIOk P inl) : CallIOk P (callX Γ inl) := by
  intro f args h K r hx w S Own l vs H hG hs hr
  unfold callX at hx
  split at hx
  · rename_i cs v h' hxc
    obtain ⟨hk,hcs⟩ := chk_some hx
    refine (fcall_ok hX H hG hs hr hxc (fun c hc => hcs c hc rfl)).mono ?_
    rintro u w' ⟨S', l', h1,h2,h3⟩
    exact ⟨v,h', [],S', l', hk,h1,h2,h3⟩
  split at hx
  · rename_i cs v h' hxc
    obtain ⟨hk,hcs⟩ := chk_some hx
    refine (xcall_ok hX H hG hs hr hxc (fun c hc => hcs c hc rfl)).mono ?_
    rintro u w' ⟨S', l', h1,h2,h3⟩
    exact ⟨v,h', [],S', l', hk,h1,h2,h3⟩
  · exact hi _ _ _ _ _ hx w S Own l vs H hG hs hr

theorem argsOf_rd {g : Operand → AV} {ρ : Operand → Value} {m : Option (List Tk)} (hg : ∀ x,Rd w S m (ρ x) (g x)) {f : Operand} {args : Array Operand} {ats : Array TypeId} {caps : Array Value} {cs : List AV} (he : args.size = ats.size)
    (hc : caps.size = cs.length) (hr : ∀ (j : Nat) u a,caps[j]? = some u → cs[j]? = some a → Rd w S m u a) :
    (args.map ρ ++ caps).size = (argsOf P g ⟨.value f,args,ats⟩ ++ cs).length ∧ ∀ (j : Nat) u a,(args.map ρ ++ caps)[j]? = some u → (argsOf P g ⟨.value f,args,ats⟩ ++ cs)[j]? = some a → Rd w S m u a := by
  have hl : (argsOf P g ⟨.value f,args,ats⟩).length = args.size := by simp [argsOf]; omega
  refine ⟨by simp [hl,hc],fun j u b hu hb => ?_⟩
  by_cases hj : j < args.size
  · rw [Array.getElem?_append_left (by simpa using hj)] at hu
    rw [List.getElem?_append_left (by omega)] at hb
    simp only [argsOf,List.getElem?_map,Option.map_eq_some_iff] at hb
    obtain ⟨⟨x,t⟩,hz,rfl⟩ := hb
    rw [List.getElem?_zip_eq_some] at hz
    have hx : args[j]? = some x := by simpa using hz.1
    simp only [Array.getElem?_map,hx,Option.map_some,Option.some.injEq] at hu
    subst hu
    simp only [fNat_eq]
    exact typ_rd _ (hg x)
  · rw [Array.getElem?_append_right (by simp; omega)] at hu
    rw [List.getElem?_append_right (by omega)] at hb
    simp only [Array.size_map,hl] at hu hb
    exact hr _ _ _ hu hb

theorem frzs (H : HRel w S Own l h) {vs : Array Value} {cs : List AV} (hs : vs.size = cs.length) (hr : ∀ (j : Nat) u a,vs[j]? = some u → cs[j]? = some a → Rd w S (some l) u a) :
    vs.size = (cs.map (frz h 4)).length ∧ ∀ (j : Nat) u a,vs[j]? = some u → (cs.map (frz h 4))[j]? = some a → Rd w (Fz S l h (cs.flatMap (reach h 4))) none u a := by
  refine ⟨by simpa using hs,fun j u a hu ha => ?_⟩
  rw [List.getElem?_map,Option.map_eq_some_iff] at ha
  obtain ⟨b,hb,rfl⟩ := ha
  exact frz_strike H (hr j u b hu hb) (fun t ht => List.mem_flatMap.2 ⟨b,List.mem_of_getElem? hb,ht⟩)

theorem dstOk_kills {nt : Nat} {gk : Option (Nat × Bool)} {dst : Option Nat} (ks : List Nat) (hd : dstOk nt gk loc dst = true) : dstOk nt gk (lkills ks loc) dst = true := by
  cases dst with
  | none => rfl
  | some d =>
    cases ks with
    | nil => exact hd
    | cons k ks =>
      simp only [dstOk,Bool.and_eq_true] at hd ⊢
      refine ⟨hd.1,?_⟩
      show (loc.map _).all _ = true
      rw [List.all_map]
      exact hd.2

/-- What a region's operations lead to. -/
def Post {R : Type} (Own S0 : Nat → Prop) (l0 : List Tk) (w0 : World) (nt : Nat) (K : Env → List Blk → List Nat → Option R) (r : R) (e : Exit) (a : Act) (w : World) : Prop :=
  e = .normal ∧ ∃ env h kd S l,K env h kd = some r ∧ HRel w S Own l h ∧ ERel w S l env a ∧ Chg Own S0 S l0 l kd w0 w ∧ a.tmps.size = nt ∧ a.defers = []

theorem put_size (dst : Option Tmp) (u : Value) : (a.put dst u).tmps.size = a.tmps.size := by cases dst <;> simp [Act.put]
theorem put_defers (dst : Option Tmp) (u : Value) : (a.put dst u).defers = a.defers := by cases dst <;> rfl

theorem sub_nil {k1 : List Nat} : ∀ t,isIn t k1 = false → isIn t k1 = false ∧ isIn t [] = false := fun _ h => ⟨h,rfl⟩

theorem rops_ok [Inhabited GlobT] {R : Type} {nt : Nat} {call : CallI R} {ops : Array Oper} {K : Env → List Blk → List Nat → Option R} {r : R} {w0 : World} {S0 : Nat → Prop} {l0 : List Tk}
    (hΓ : GamOk P Γ) (hcall : CallIOk P call) (hG0 : Glob w0 S0) : ∀ (rest : List Oper) (k : Nat) (loc : Loc) (env : Env) (h : List Blk) (kd : List Nat) (a : Act) (w : World) (S : Nat → Prop) (l : List Tk),
    (∀ j,rest[j]? = ops[k + j]?) → rops P Γ nt call ops rest loc env h kd K = some r → HRel w S Own l h → LRel w S l env loc a → Chg Own S0 S l0 l kd w0 w → a.tmps.size = nt → a.defers = [] →
    wpOps P ops (Post Own S0 l0 w0 nt K r) (List.range' k rest.length) a w := by
  intro rest
  induction rest with
  | nil =>
    intro k loc env h kd a w S l _ hr H L C hn hd
    exact ⟨rfl,close env loc,h,kd,S,l,hr,H,L.close,C,hn,hd⟩
  | cons o rest ih =>
    intro k loc env h kd a w S l hops hr H L C hn hd
    have ho : ops[k]? = some o := by simpa using (hops 0).symm
    have hops' : ∀ j,rest[j]? = ops[k + 1 + j]? := fun j => by
      have := hops (j + 1)
      rw [show k + 1 + j = k + (j + 1) by omega,← this]
      simp
    simp only [List.length_cons,List.range'_succ,wpOps,ho]
    simp only [rops] at hr
    cases hdo : (!(dstOk nt (guardOf ops o) loc o.dst) || !(guardOk ops o)) <;> simp only [hdo,cond_true,cond_false] at hr
    case true => cases hr
    simp only [Bool.or_eq_false_iff,Bool.not_eq_false'] at hdo
    obtain ⟨hdst,hgo⟩ := hdo
    cases hgate : gateOf env loc (guardOf ops o) with
    | none => rw [hgate] at hr; cases hr
    | some gb =>
      simp only [hgate] at hr
      have hgb : KH a (guardOf ops o) → gb = true := by
        intro hk
        cases hgk : guardOf ops o with
        | none => rw [hgk] at hgate; simpa [gateOf] using hgate.symm
        | some dw =>
          obtain ⟨d,want⟩ := dw
          rw [hgk] at hgate hk
          simp only [gateOf] at hgate
          have hkd : KH a (lkey env loc d).1 := by
            have := keys_ok L 2 (some (d,want)) hk
            cases hl : (lkey env loc d).1 with
            | none => trivial
            | some k' => exact this k' (by simp [keys,hl])
          have hv := L.val d hkd
          cases hl : (lkey env loc d).2 <;> simp only [hl] at hgate hv <;> try (cases hgate; done)
          have e1 := rd_bool hv
          have e2 : a.tmps.getD d undef = .bool want := hk
          rw [e2] at e1
          simp only [Value.bool.injEq] at e1
          subst e1
          simp only [Option.some.injEq] at hgate
          rw [← hgate]
          cases want <;> rfl
      -- one more operation is done,in one way or another
      have skip : ∀ {v : AV} {h1 : List Blk},rops P Γ nt call ops rest (putL o.dst (guardOf ops o) v loc) env h kd K = some r → ¬ KH a (guardOf ops o) → wpOps P ops (Post Own S0 l0 w0 nt K r) (List.range' (k + 1) rest.length) (a.put o.dst undef) w := by
        intro v h1 hr' hnk
        exact ih (k + 1) _ _ _ _ _ _ S l hops' hr' H (L.put hn hdst (fun hk => absurd hk hnk) (fun _ => rfl)) C (by rw [put_size]; exact hn) (by rw [put_defers]; exact hd)
      by_cases hw : Region.wanted o (yielded ops a.tmps) = true
      case neg =>
        have hnk : ¬ KH a (guardOf ops o) := fun hk => hw ((wanted_iff hgo).2 hk)
        rw [if_neg hw]
        have hgs : guardOf ops o ≠ none := by intro e; rw [e] at hnk; exact hnk trivial
        split at hr
        · exact skip (h1 := h) (chk_some hr).1 hnk
        · split at hr
          · split at hr
            · rename_i f args ats hop _ g caps hopn
              cases hsz : (args.size == ats.size) <;> simp only [hsz,Bool.not_true,Bool.not_false,cond_true,cond_false] at hr
              case false => cases hr
              split at hr
              · rename_i s hs
                cases hsc : s.sc <;> simp only [hsc,cond_true,cond_false] at hr
                · split at hr
                  · cases hr
                  · exact absurd ‹_› hgs
                · exact skip (h1 := h) (chk_some hr).1 hnk
              · split at hr
                · rename_i gk hgk
                  cases hsu : sureG env loc 8 (some gk) with
                  | none => rw [hsu] at hr; cases hr
                  | some b =>
                    rw [hsu] at hr
                    obtain ⟨i1,i2⟩ := sureG_ok L 8 _ _ hsu
                    cases b with
                    | true => exact absurd (hgk ▸ i1 rfl) hnk
                    | false => exact skip (h1 := h) hr hnk
                · exact absurd ‹_› hgs
            · cases hr
          · split at hr
            · split at hr
              · exact skip (h1 := h) (chk_some hr).1 hnk
              · cases hr
            · exact absurd ‹_› hgs
      case pos =>
        have hk : KH a (guardOf ops o) := (wanted_iff hgo).1 hw
        have hgt := hgb hk
        rw [if_pos hw]
        left
        have hks := keys_ok L 8 (guardOf ops o) hk
        have hG := hG0.chg C
        have hg := opnd_ok hG L hks
        split at hr
        · rename_i cs v hq
          obtain ⟨hr', hcs⟩ := chk_some hr
          refine wp_of_qok (qop_ok H hg ?_ hq (fun c hc => hcs c hc hgt)) (fun u w' e1 e2 e3 e4 hu => ?_)
          · intro c x y hop
            refine ⟨fun hct => opnd_ok hG L ?_ x,fun hct => opnd_ok hG L ?_ y⟩
            · unfold thenOf
              rw [hop]
              cases c <;> first
                | exact hks
                | (intro k hk; rcases List.mem_cons.1 hk with rfl | hk
                   · exact hct
                   · exact hks k hk)
            · unfold thenOf
              rw [hop]
              cases c <;> first
                | exact hks
                | (intro k hk; rcases List.mem_cons.1 hk with rfl | hk
                   · exact hct
                   · exact hks k hk)
          · have Cs : Chg Own S S l l [] w w' := .same e1 e2 e3 e4
            have L1 : LRel w' S l env loc a := L.step Cs
            exact ih (k + 1) _ _ _ _ _ _ S l hops' hr' (H.same e1) (L1.put hn hdst (fun _ => hu.heap e1) (fun hnk => absurd hk hnk)) (C.trans Cs sub_nil) (by rw [put_size]; exact hn) (by rw [put_defers]; exact hd)
        · split at hr
          · rename_i f args ats hop
            split at hr
            · rename_i g caps hopn
              cases hsz : (args.size == ats.size) <;> simp only [hsz,Bool.not_true,Bool.not_false,cond_true,cond_false] at hr
              case false => cases hr
              obtain ⟨dst,op,type,pos,after,guard⟩ := o
              simp only at hop; subst hop
              have hfr : Rd w S (some l) (a.eval f) (.fn (.func g) [] caps) := hopn ▸ hg f
              obtain ⟨first,captured,e0,e1,e2,e3,e4⟩ := rd_fn hfr
              have e1' : first = #[] := by
                apply Array.eq_empty_of_size_eq_zero; simpa using e1
              subst e1'
              have hrun := run_call (P := P) (w := w) (dst := dst) (f := f) (args := args) (ats := ats) (type := type) (pos := pos) (after := after) (guard := guard) e0
              split at hr
              · rename_i s hs
                have hso := hΓ.sm g s hs
                cases hsc : s.sc <;> simp only [hsc,cond_true,cond_false] at hr
                · split at hr
                  · cases hr
                  · rename_i hgn
                    obtain ⟨hr', hcs⟩ := chk_some hr
                    have hok := hcs _ (List.mem_singleton.2 rfl) rfl
                    rw [hgn] at hg hk hdst
                    obtain ⟨a1,a2⟩ := argsOf_rd (P := P) (f := f) hg (by simpa using hsz) e2 e4
                    obtain ⟨b1,b2⟩ := frzs H a1 a2
                    refine wp_of_call hrun (hso.run _ _ w _ b1 b2 (H.strike _).bd (hG.pres (.refl _ _) (fun _ h => .inl h)) hok) (fun v w' hv => ?_)
                    obtain ⟨S', c1,c2,c3,c4,c5⟩ := hv
                    have H1 := (H.strike _).ev c5 c2 c3 c4
                    have Cs : Chg Own S S' l l [] w w' := .ev H c5 (fun b hb => c2 b (.inl hb)) (fun b hb => (c3 b hb).elim (fun hb => Fz_own H hb) (fun hb => .inr (H.own b hb)))
                    have L1 : LRel w' S' l env loc a := L.step Cs
                    exact ih (k + 1) _ _ _ _ _ _ S' l hops' hr' H1 (L1.put hn hdst (fun _ => c1.pres (.refl _ _) (fun _ h => h) trivial) (fun hnk => absurd trivial hnk)) (C.trans Cs sub_nil) (by rw [put_size]; exact hn) (by rw [put_defers]; exact hd)
                · obtain ⟨hr', hcs⟩ := chk_some hr
                  have hok := hcs _ (List.mem_singleton.2 rfl) hgt
                  obtain ⟨a1,a2⟩ := argsOf_rd (P := P) (f := f) hg (by simpa using hsz) e2 e4
                  obtain ⟨b1,b2⟩ := frzs H a1 a2
                  refine wp_of_call hrun (hso.run _ _ w _ b1 b2 (H.strike _).bd (hG.pres (.refl _ _) (fun _ h => .inl h)) hok) (fun v w' hv => ?_)
                  obtain ⟨S', c1,c2,c3,c4,c5⟩ := hv
                  have H1 := H.ev c5 (fun b hb => hb) (fun b hb => .inl hb) (fun b hb => Nat.lt_of_lt_of_le (H.bd b hb) c5.size)
                  have Cs : Chg Own S S l l [] w w' := .ev H c5 (fun b hb => hb) (fun b hb => .inl hb)
                  have L1 : LRel w' S l env loc a := L.step Cs
                  exact ih (k + 1) _ _ _ _ _ _ S l hops' hr' H1 (L1.put hn hdst (fun _ => scal_rd c1 (hso.sc hsc _ hok)) (fun hnk => absurd hk hnk)) (C.trans Cs sub_nil) (by rw [put_size]; exact hn) (by rw [put_defers]; exact hd)
              · split at hr
                · rename_i gk hgk
                  cases hsu : sureG env loc 8 (some gk) with
                  | none => rw [hsu] at hr; cases hr
                  | some b =>
                    rw [hsu] at hr
                    obtain ⟨i1,i2⟩ := sureG_ok L 8 _ _ hsu
                    cases b with
                    | false => exact absurd (hgk ▸ hk) (i2 rfl)
                    | true =>
                      obtain ⟨a1,a2⟩ := argsOf_rd (P := P) (f := f) hg (by simpa using hsz) e2 e4
                      refine wp_of_call hrun (hcall _ _ _ _ _ hr w S Own l _ H hG a1 a2) (fun v w' hv => ?_)
                      obtain ⟨a', h', ks,S', l', d1,d2,d3,d4⟩ := hv
                      have L1 : LRel w' S' l' (ekills ks env) (lkills ks loc) a := L.step d4
                      exact ih (k + 1) _ _ _ _ _ _ S' l' hops' d1 d2 (L1.put hn (dstOk_kills ks hdst) (fun _ => d3) (fun hnk => absurd hk hnk)) (C.trans d4 (fun t ht => isIn_addK ks kd t ht)) (by rw [put_size]; exact hn) (by rw [put_defers]; exact hd)
                · rename_i hgn
                  rw [hgn] at hg hk hdst
                  obtain ⟨a1,a2⟩ := argsOf_rd (P := P) (f := f) hg (by simpa using hsz) e2 e4
                  refine wp_of_call hrun (hcall _ _ _ _ _ hr w S Own l _ H hG a1 a2) (fun v w' hv => ?_)
                  obtain ⟨a', h', ks,S', l', d1,d2,d3,d4⟩ := hv
                  have L1 : LRel w' S' l' (ekills ks env) (lkills ks loc) a := L.step d4
                  exact ih (k + 1) _ _ _ _ _ _ S' l' hops' d1 d2 (L1.put hn (dstOk_kills ks hdst) (fun _ => d3) (fun hnk => absurd trivial hnk)) (C.trans d4 (fun t ht => isIn_addK ks kd t ht)) (by rw [put_size]; exact hn) (by rw [put_defers]; exact hd)
            · cases hr
          · split at hr
            · split at hr
              · rename_i cs v hgm
                obtain ⟨hr', hcs⟩ := chk_some hr
                refine wp_of_mok (gmop_ok H hg hgm (fun c hc => hcs c hc hgt)) (fun u w' S' l' d2 d3 d4 => ?_)
                have L1 : LRel w' S' l' env loc a := L.step d4
                exact ih (k + 1) _ _ _ _ _ _ S' l' hops' hr' d2 (L1.put hn hdst (fun _ => d3) (fun hnk => absurd hk hnk)) (C.trans d4 sub_nil) (by rw [put_size]; exact hn) (by rw [put_defers]; exact hd)
              · cases hr
            · rename_i hgn
              rw [hgn] at hg hk hdst
              split at hr
              · rename_i c r1 r2 hnx
                obtain ⟨k1,k2,k3⟩ := nxt_ok H hg hnx
                have fin : ∀ (mr : MR),MOk P a.eval o w S Own l mr → chk true (rops P Γ nt call ops rest (putL o.dst none mr.v (lkills mr.ks loc)) (ekills mr.ks env) mr.h (addK mr.ks kd) K) mr.ok = some r → 
                    o.wp P a w (wpOps P ops (Post Own S0 l0 w0 nt K r) (List.range' (k + 1) rest.length)) (Post Own S0 l0 w0 nt K r) := by
                  intro mr hm hr
                  obtain ⟨hr', hcs⟩ := chk_some hr
                  refine wp_of_mok hm (fun u w' S' l' d2 d3 d4 => ?_)
                  have L1 : LRel w' S' l' (ekills mr.ks env) (lkills mr.ks loc) a := L.step d4
                  exact ih (k + 1) _ _ _ _ _ _ S' l' hops' hr' d2 (L1.put hn (dstOk_kills mr.ks hdst) (fun _ => d3) (fun hnk => absurd trivial hnk)) (C.trans d4 (fun t ht => isIn_addK mr.ks kd t ht)) (by rw [put_size]; exact hn) (by rw [put_defers]; exact hd)
                cases c <;> simp only [cond_true,cond_false] at hr k1
                · exact fin r2 k1 hr
                · exact fin r1 k1 hr
              · split at hr
                · rename_i mr hm
                  obtain ⟨hr', hcs⟩ := chk_some hr
                  refine wp_of_mok (mop_ok H hg hm (fun c hc => hcs c hc rfl)) (fun u w' S' l' d2 d3 d4 => ?_)
                  have L1 : LRel w' S' l' (ekills mr.ks env) (lkills mr.ks loc) a := L.step d4
                  exact ih (k + 1) _ _ _ _ _ _ S' l' hops' hr' d2 (L1.put hn (dstOk_kills mr.ks hdst) (fun _ => d3) (fun hnk => absurd trivial hnk)) (C.trans d4 (fun t ht => isIn_addK mr.ks kd t ht)) (by rw [put_size]; exact hn) (by rw [put_defers]; exact hd)
                · cases hr
end
end Go.Am
end
section
/- The abstract machine: regions that draw their order: tokens that stand for nothing; one operation on a part of the heap. -/
namespace Go.Am

/-- A token that stands for nothing. -/
def noTk : Tk := (none,1)
def TokLe (l l' : List Tk) : Prop := ∀ (t : Nat) x,l[t]? = some x → x ≠ noTk → l'[t]? = some x

theorem TokLe.refl (l : List Tk) : TokLe l l := fun _ _ h _ => h

theorem Rd.tok {w : World} {S : Nat → Prop} {m m' : Option (List Tk)} {v : Value} {a : AV} (h : Rd w S m v a)
    (hm : ∀ l,m = some l → ∃ l', m' = some l' ∧ TokLe l l') : Rd w S m' v a := by
  induction h with
  | dead m v => exact .dead _ _
  | bool => exact .bool _ _
  | int => exact .int _ _ _
  | fltS => exact .fltS _ _ _
  | fltN m k b h => exact .fltN _ _ _ h
  | str => exact .str _ _
  | nilp => exact .nilp _
  | nilf => exact .nilf _
  | nili => exact .nili _
  | nils => exact .nils _ _ _
  | ro m sz n rd get base cap u hn hc hb h h1 ih => exact .ro _ _ _ _ _ _ _ u hn hc hb h h1
  | rp m n get a u hSa hc h ih => exact .rp _ _ _ _ u hSa hc h
  | own l t' off sz n cap b N hm' hn hN =>
    obtain ⟨l', rfl,hl⟩ := hm l rfl
    exact .own _ _ _ _ _ _ _ _ (hl _ _ hm' (by simp [noTk])) hn hN
  | lst l t' sz b N cap hm' hn hs =>
    obtain ⟨l', rfl,hl⟩ := hm l rfl
    exact .lst _ _ _ _ _ _ (hl _ _ hm' (by simp [noTk])) hn hs
  | lst0 l t' sz hm' =>
    obtain ⟨l', rfl,hl⟩ := hm l rfl
    exact .lst0 _ _ _ (hl _ _ hm' (by simp [noTk]))
  | ptr l t' off b N hm' =>
    obtain ⟨l', rfl,hl⟩ := hm l rfl
    exact .ptr _ _ _ _ _ (hl _ _ hm' (by simp [noTk]))
  | ep l t' sz i j b N hm' hi hj =>
    obtain ⟨l', rfl,hl⟩ := hm l rfl
    exact .ep _ _ _ _ _ _ _ (hl _ _ hm' (by simp [noTk])) hi hj
  | mp l t' b N hm' =>
    obtain ⟨l', rfl,hl⟩ := hm l rfl
    exact .mp _ _ _ _ (hl _ _ hm' (by simp [noTk]))
  | fn m f first captured fs cs hf hc h1 h2 ih1 ih2 => exact .fn _ _ _ _ _ _ hf hc (fun j u a hu ha => ih1 j u a hu ha hm) (fun j u a hu ha => ih2 j u a hu ha hm)
  | ifc m ty v a h ih => exact .ifc _ _ _ _ (ih hm)
  | agg m vs cs hs h ih => exact .agg _ _ _ hs (fun j u a hu ha => ih j u a hu ha hm)
  | tup m vs cs hs h ih => exact .tup _ _ _ hs (fun j u a hu ha => ih j u a hu ha hm)

section
variable {P : Program} {Γ : Gam} {cd : CallD} {w w' : World} {S S' Own Own' : Nat → Prop} {l l' : List Tk} {h : List Blk} {a : Act}

theorem Rd.tk {v : Value} {x : AV} (h : Rd w S (some l) v x) (hl : TokLe l l') : Rd w S (some l') v x := h.tok fun l0 e => ⟨l', rfl,by simp only [Option.some.injEq] at e; subst e; exact hl⟩

theorem BRel.go {x : Tk} {k : Blk} (hk : BRel w S Own l x k) (hl : TokLe l l') (hp : Pres S w w') (hS : ∀ b,S b → S' b)
    (hb : ∀ b,x.1 = some b → k.live = true → w'.heap[b]? = w.heap[b]? ∧ (¬ S b → ¬ S' b) ∧ (Own b → Own' b)) : BRel w' S' Own' l' x k := by
  cases k with
  | gone => trivial
  | box cs =>
    obtain ⟨b,c,e,rfl,h1,h2,h3,h4,h5⟩ := hk
    obtain ⟨g1,g2,g3⟩ := hb b rfl rfl
    exact ⟨b,c,e,rfl,by rw [g1]; exact h1,h2,fun j u a hu ha => ((h3 j u a hu ha).tk hl).pres hp hS ⟨[],by simp⟩,g2 h4,g3 h5⟩
  | fx sz z els =>
    obtain ⟨b,c,e,rfl,h1,h2,h3,h4,h5⟩ := hk
    obtain ⟨g1,g2,g3⟩ := hb b rfl rfl
    exact ⟨b,c,e,rfl,by rw [g1]; exact h1,h2,h3.pres hp hS,g2 h4,g3 h5⟩
  | fl sz z els =>
    rcases hk with hk | ⟨b,c,e,rfl,h1,h2,h3,h4,h5⟩
    · exact .inl hk
    · obtain ⟨g1,g2,g3⟩ := hb b rfl rfl
      exact .inr ⟨b,c,e,rfl,by rw [g1]; exact h1,h2,h3.pres hp hS,g2 h4,g3 h5⟩
  | it s pos =>
    obtain ⟨b,rfl,h1,h4,h5⟩ := hk
    obtain ⟨g1,g2,g3⟩ := hb b rfl rfl
    exact ⟨b,rfl,by rw [g1]; exact h1,g2 h4,g3 h5⟩
  | mp es =>
    obtain ⟨b,E,clk,rfl,h1,h2,h4,h5⟩ := hk
    obtain ⟨g1,g2,g3⟩ := hb b rfl rfl
    exact ⟨b,E,clk,rfl,by rw [g1]; exact h1,h2.pres hp hS,g2 h4,g3 h5⟩

theorem BRel.own {x : Tk} {k : Blk} (hk : BRel w S Own l x k) {b : Nat} (hx : x.1 = some b) (hl : k.live = true) : Own b ∧ ¬ S b := by
  cases k with
  | gone => simp [Blk.live] at hl
  | box cs => obtain ⟨b', c,e,rfl,h1,h2,h3,h4,h5⟩ := hk; simp at hx; subst hx; exact ⟨h5,h4⟩
  | fx sz z els => obtain ⟨b', c,e,rfl,h1,h2,h3,h4,h5⟩ := hk; simp at hx; subst hx; exact ⟨h5,h4⟩
  | fl sz z els =>
    rcases hk with ⟨rfl,_⟩ | ⟨b', c,e,rfl,h1,h2,h3,h4,h5⟩
    · simp at hx
    · simp at hx; subst hx; exact ⟨h5,h4⟩
  | it s pos => obtain ⟨b', rfl,h1,h4,h5⟩ := hk; simp at hx; subst hx; exact ⟨h5,h4⟩
  | mp es => obtain ⟨b', E,clk,rfl,h1,h2,h4,h5⟩ := hk; simp at hx; subst hx; exact ⟨h5,h4⟩

theorem fresh_ok {S0 : Nat → Prop} {h0 : List Blk} {l0 : List Tk} {w0 : World} {u : Value} {r r' : MR} (H0 : HRel w0 S0 Own l0 h0) (H : HRel w S Own l r.h) (hv : Rd w S (some l) u r.v) (C : Chg Own S0 S l0 l r.ks w0 w)
    (hf : fresh r = some r') : ∃ l', HRel w S Own l' r'.h ∧ Rd w S (some l') u r'.v ∧ Chg Own S0 S l0 l' [] w0 w ∧ r'.ok = r.ok := by
  obtain ⟨ok,v,h,ks⟩ := r
  simp only [fresh] at hf
  split at hf
  · simp only [Option.some.injEq] at hf
    subst hf
    exact ⟨l,H,hv,C,rfl⟩
  · rename_i t
    cases v <;> simp only at hf <;> try (cases hf; done)
    rename_i t' sz
    cases ht : t' == t <;> simp only [ht,Bool.not_false,Bool.not_true,cond_true,cond_false] at hf
    · cases hf
    obtain rfl : t' = t := by simpa using ht
    cases hk : hget h t' <;> simp only [hk] at hf <;> try (cases hf; done)
    rename_i sz' z els
    simp only [Option.some.injEq] at hf
    subst hf
    have hk' : h[t']? = some (.fl sz' z els) := hget_some hk rfl
    obtain ⟨x,hx⟩ : ∃ x,l[t']? = some x := by
      have := (List.getElem?_eq_some_iff.1 hk').1
      exact ⟨_,List.getElem?_eq_getElem (by rw [H.len]; exact this)⟩
    have hlt : t' < l.length := (List.getElem?_eq_some_iff.1 hx).1
    have hn : h.length = l.length := H.len.symm
    generalize hy : (l0[t']?).getD x = y
    have hpre : ∀ (t : Nat) (z : Tk),t < l.length → t ≠ t' → ((l.set t' y) ++ [x])[t]? = l[t]? := by
      intro t z h1 h2
      rw [List.getElem?_append_left (by simpa using h1),List.getElem?_set_ne (fun e => h2 e.symm)]
    have hat : ((l.set t' y) ++ [x])[l.length]? = some x := by
      rw [List.getElem?_append_right (by simp)]; simp
    have hself : ((l.set t' y) ++ [x])[t']? = some y := by
      rw [List.getElem?_append_left (by simpa using hlt)]; simp [hlt]
    have hheap : ∀ (t : Nat) (k : Blk),((hset h t' .gone).map (killB t') ++ [Blk.fl sz' z els])[t]? = some k →
        (t = l.length ∧ k = .fl sz' z els) ∨ (t = t' ∧ k = .gone) ∨ (t < l.length ∧ t ≠ t' ∧ ∃ k0,h[t]? = some k0 ∧ k = killB t' k0) := by
      intro t k hk0
      rcases Nat.lt_or_ge t l.length with h1 | h1
      · rw [List.getElem?_append_left (by simp [hset,hn]; exact h1),List.getElem?_map,Option.map_eq_some_iff] at hk0
        obtain ⟨k0,h2,rfl⟩ := hk0
        by_cases e : t = t'
        · subst e
          simp only [hset] at h2
          rw [List.getElem?_set_self (by rw [hn]; exact h1)] at h2
          simp only [Option.some.injEq] at h2
          subst h2
          exact .inr (.inl ⟨rfl,rfl⟩)
        · simp only [hset] at h2
          rw [List.getElem?_set_ne (fun e' => e e'.symm)] at h2
          exact .inr (.inr ⟨h1,e,k0,h2,rfl⟩)
      · rw [List.getElem?_append_right (by simp [hset,hn]; exact h1)] at hk0
        simp only [List.length_map,hset,List.length_set,hn] at hk0
        have : t = l.length := by
          have := (List.getElem?_eq_some_iff.1 hk0).1
          simp at this; omega
        subst this
        simp at hk0
        exact .inl ⟨rfl,hk0.symm⟩
    have hlive : ∀ k0,(killB t' k0).live = k0.live := fun k0 => by cases k0 <;> rfl
    have hagr : Agr (fun y => y == t') l ((l.set t' y) ++ [x]) := by
      intro t z0 h1 h2
      rw [hpre t z0 (List.getElem?_eq_some_iff.1 h2).1 (by simpa using h1)]; exact h2
    have hydef : ∀ b N,y = (some b,N) → b < w.heap.size := by
      intro b N e
      cases h0 : l0[t']? with
      | none => rw [h0] at hy; simp only [Option.getD_none] at hy; exact H.lbd t' b N (by rw [hx,hy,e])
      | some y0 => rw [h0] at hy; simp only [Option.getD_some] at hy; exact Nat.lt_of_lt_of_le (H0.lbd t' b N (by rw [h0,hy,e])) C.size
    refine ⟨(l.set t' y) ++ [x],⟨by simp [hset,hn],fun t x0 k hx0 hk0 => ?_,fun t1 t2 b N N' k k' h1 h2 h3 h4 h5 h6 => ?_,H.bd,fun t b N hm => ?_,H.own⟩,?_,?_,rfl⟩
    · rcases hheap t k hk0 with ⟨rfl,rfl⟩ | ⟨rfl,rfl⟩ | ⟨h1,h2,k0,h3,rfl⟩
      · rw [hat] at hx0
        simp only [Option.some.injEq] at hx0
        subst hx0
        have := H.blk t' x _ hx hk'
        exact this
      · trivial
      · rw [hpre t x0 h1 h2] at hx0
        have := H.blk t x0 k0 hx0 h3
        cases k0 with
        | gone => trivial
        | fx => exact this
        | fl => exact this
        | it => exact this
        | mp => exact this
        | box cs =>
          obtain ⟨b,c,e,g1,g2,g3,g4,g5,g6⟩ := this
          refine ⟨b,c,e,by rw [g1,killPL_eq]; simp,g2,by rw [g3,killPL_eq]; simp,fun j u a hu ha => ?_,g5,g6⟩
          rw [killPL_eq,List.getElem?_map,Option.map_eq_some_iff] at ha
          obtain ⟨a0,ha0,rfl⟩ := ha
          exact (g4 j u a0 hu ha0).killP fun l' e => ⟨_,rfl,by simp only [Option.some.injEq] at e; subst e; exact hagr⟩
    · have key : ∀ (t : Nat) (b N : Nat) (k : Blk),((l.set t' y) ++ [x])[t]? = some (some b,N) → ((hset h t' .gone).map (killB t') ++ [Blk.fl sz' z els])[t]? = some k → k.live = true →
          (t = l.length ∧ l[t']? = some (some b,N)) ∨ (t < l.length ∧ t ≠ t' ∧ l[t]? = some (some b,N) ∧ ∃ k0,h[t]? = some k0 ∧ k0.live = true) := by
        intro t b N k g1 g2 g3
        rcases hheap t k g2 with ⟨rfl,rfl⟩ | ⟨rfl,rfl⟩ | ⟨e1,e2,k0,e3,rfl⟩
        · rw [hat] at g1; simp only [Option.some.injEq] at g1; subst g1; exact .inl ⟨rfl,hx⟩
        · simp [Blk.live] at g3
        · rw [hpre t x e1 e2] at g1
          exact .inr ⟨e1,e2,g1,k0,e3,by rw [← hlive]; exact g3⟩
      rcases key t1 b N k h1 h3 h5 with ⟨e1,e2⟩ | ⟨e1,e2,e3,k1,e4,e5⟩ <;> rcases key t2 b N' k' h2 h4 h6 with ⟨f1,f2⟩ | ⟨f1,f2,f3,k2,f4,f5⟩
      · rw [e1,f1]
      · exact absurd (H.inj t' t2 b N N' _ k2 e2 f3 hk' f4 rfl f5).symm f2
      · exact absurd (H.inj t1 t' b N N' k1 _ e3 f2 e4 hk' e5 rfl) e2
      · exact H.inj t1 t2 b N N' k1 k2 e3 f3 e4 f4 e5 f5
    · rcases Nat.lt_or_ge t l.length with h1 | h1
      · by_cases e : t = t'
        · subst e
          rw [hself] at hm
          simp only [Option.some.injEq] at hm
          exact hydef b N hm
        · rw [hpre t x h1 e] at hm
          exact H.lbd t b N hm
      · have h2 := (List.getElem?_eq_some_iff.1 hm).1
        have : t = l.length := by simp at h2; omega
        subst this
        rw [hat] at hm
        simp only [Option.some.injEq] at hm
        exact H.lbd t' b N (by rw [hx,hm])
    · rw [hn]
      cases hv with
      | lst _ _ _ b N cap hm hN hs =>
        rw [hx] at hm
        simp only [Option.some.injEq] at hm
        subst hm
        exact .lst _ _ _ _ _ _ hat hN hs
      | lst0 _ _ _ hm =>
        rw [hx] at hm
        simp only [Option.some.injEq] at hm
        subst hm
        exact .lst0 _ _ _ hat
    · refine ⟨C.os,C.tape,C.output,C.size,C.keep,C.sub,C.new,C.pres,by have := C.len; simp; omega,fun t z0 hp h1 => ?_⟩
      by_cases e : t = t'
      · subst e
        rw [hself,← hy,h1]; rfl
      · have := C.agr t z0 (by simpa [isIn] using fun e' => e e'.symm) h1
        rw [hpre t z0 (List.getElem?_eq_some_iff.1 this).1 e]; exact this
  · cases hf

theorem restr_get (F : List Nat) : ∀ (h : List Blk) (i t : Nat),(restr F i h)[t]? = (h[t]?).map fun b => bif isIn (i + t) F then b else .gone
  | [],i,t => by simp [restr]
  | b :: r,i,t => by
    cases t with
    | zero => simp [restr]
    | succ t => simp only [restr,List.getElem?_cons_succ]; rw [restr_get F r (i + 1) t,show i + 1 + t = i + (t + 1) by omega]

theorem restr_len (F : List Nat) : ∀ (h : List Blk) (i : Nat),(restr F i h).length = h.length
  | [],_ => rfl
  | _ :: r,i => by simp [restr,restr_len F r (i + 1)]

theorem over_get (F : List Nat) : ∀ (h n : List Blk) (i t : Nat),h.length ≤ n.length → (over F i h n)[t]? = if t < h.length then (if isIn (i + t) F = true then n[t]? else h[t]?) else n[t]?
  | [],n,i,t,_ => by simp [over]
  | b :: r,[],i,t,hl => by simp at hl
  | b :: r,n :: r', i,t,hl => by
    cases t with
    | zero => simp only [over,List.getElem?_cons_zero,Nat.add_zero,List.length_cons,Nat.zero_lt_succ,if_true]; cases isIn i F <;> simp
    | succ t =>
      simp only [over,List.getElem?_cons_succ,List.length_cons]
      rw [over_get F r r' (i + 1) t (by simpa using hl),show i + 1 + t = i + (t + 1) by omega]
      simp only [Nat.add_lt_add_iff_right]

theorem over_len (F : List Nat) : ∀ (h n : List Blk) (i : Nat),h.length ≤ n.length → (over F i h n).length = n.length
  | [],n,i,_ => by simp [over]
  | b :: r,[],i,hl => by simp at hl
  | b :: r,n :: r', i,hl => by simp [over,over_len F r r' (i + 1) (by simpa using hl)]

theorem fresh_cs {r r' : MR} (hf : fresh r = some r') : r'.ok = r.ok := by
  obtain ⟨ok,v,h,ks⟩ := r
  simp only [fresh] at hf
  split at hf
  · simp only [Option.some.injEq] at hf
    subst hf; rfl
  · rename_i t
    cases v <;> simp only at hf <;> try (cases hf; done)
    rename_i t' sz
    cases ht : t' == t <;> simp only [ht,Bool.not_false,Bool.not_true,cond_true,cond_false] at hf
    · cases hf
    cases hk : hget h t <;> simp only [hk] at hf <;> try (cases hf; done)
    simp only [Option.some.injEq] at hf
    subst hf; rfl
  · cases hf

/-- An operation that changes nothing of what there is. -/
theorem dstep_quiet [Inhabited GlobT] {g ga gb : Operand → AV} {all : List Oper} {gk : Option (Nat × Bool)} {o : Oper} {d : DR} (hΓ : GamOk P Γ) (H : HRel w S Own l h) (hG : Glob w S) (hg : ∀ x,Rd w S (some l) (a.eval x) (g x))
    (hp : ∀ c x y,o.op = .pick c x y → (a.eval c = .bool true → Rd w S (some l) (a.eval x) (ga x)) ∧ (a.eval c = .bool false → Rd w S (some l) (a.eval y) (gb y)))
    (hd : dstep P Γ cd h g ga gb all gk o = some d) (hm : d.mu = false) (hcs : ∀ c ∈ d.cs,c = true) :
    d.h = h ∧ ∀ (next : Act → World → Prop) Q,(∀ u w' S', Ev w.heap.size (fun _ => False) w w' → (∀ b,S b → S' b) → (∀ b,S' b → S b ∨ w.heap.size ≤ b) → (∀ b,S' b → b < w'.heap.size) → Rd w' S' (some l) u d.v → next (a.put o.dst u) w') → o.wp P a w next Q := by
  unfold dstep at hd
  split at hd
  · rename_i cs v hq
    simp only [Option.some.injEq] at hd
    subst hd
    refine ⟨rfl,fun next Q hn => wp_of_qok (qop_ok H hg hp hq hcs) (fun u w' e1 e2 e3 e4 hu => hn u w' S ⟨e2,e3,e4,by rw [e1]; exact Nat.le_refl _,fun k _ _ => by rw [e1]⟩ (fun _ h => h) (fun _ h => .inl h) (fun b hb => by rw [e1]; exact H.bd b hb) (hu.heap e1))⟩
  · split at hd
    · rename_i f args ats hop
      split at hd
      · rename_i g0 caps hopn
        cases hsz : (args.size == ats.size) <;> simp only [hsz,Bool.not_true,Bool.not_false,cond_true,cond_false] at hd
        case false => cases hd
        split at hd
        · rename_i s hs
          have hso := hΓ.sm g0 s hs
          cases hsc : s.sc <;> simp only [hsc,cond_true,cond_false] at hd
          · split at hd
            · cases hno : noneN ((argsOf P g ⟨.value (.func g0),args,ats⟩ ++ caps).flatMap (reach h 4)) <;> simp only [hno,cond_true,cond_false] at hd
              · cases hd
              simp only [Option.some.injEq] at hd
              subst hd
              obtain ⟨dst,op,type,pos,after,guard⟩ := o
              simp only at hop; subst hop
              have hfr : Rd w S (some l) (a.eval f) (.fn (.func g0) [] caps) := hopn ▸ hg f
              obtain ⟨first,captured,e0,e1,e2,e3,e4⟩ := rd_fn hfr
              have e1' : first = #[] := by
                apply Array.eq_empty_of_size_eq_zero; simpa using e1
              subst e1'
              have hok := hcs _ (List.mem_singleton.2 rfl)
              obtain ⟨a1,a2⟩ := argsOf_rd (P := P) (f := f) hg (by simpa using hsz) e2 e4
              obtain ⟨b1,b2⟩ := frzs H a1 a2
              have hts := noneN_eq hno
              have hfz : ∀ b,Fz S l h ((argsOf P g ⟨.value (.func g0),args,ats⟩ ++ caps).flatMap (reach h 4)) b → S b := fun b hb => hb.elim id (fun ⟨t,ht,_⟩ => absurd (hts ▸ ht) (by simp))
              refine ⟨rfl,fun next Q hn => wp_of_call (run_call e0) (hso.run _ _ w _ b1 b2 (H.strike _).bd (hG.pres (.refl _ _) (fun _ h => .inl h)) hok) (fun v w' hv => ?_)⟩
              obtain ⟨S', c1,c2,c3,c4,c5⟩ := hv
              exact hn v w' S' c5 (fun b hb => c2 b (.inl hb)) (fun b hb => (c3 b hb).imp (hfz b) id) c4 (c1.pres (.refl _ _) (fun _ h => h) trivial)
            · simp only [Option.some.injEq] at hd
              subst hd
              simp at hm
          · simp only [Option.some.injEq] at hd
            subst hd
            obtain ⟨dst,op,type,pos,after,guard⟩ := o
            simp only at hop; subst hop
            have hfr : Rd w S (some l) (a.eval f) (.fn (.func g0) [] caps) := hopn ▸ hg f
            obtain ⟨first,captured,e0,e1,e2,e3,e4⟩ := rd_fn hfr
            have e1' : first = #[] := by
              apply Array.eq_empty_of_size_eq_zero; simpa using e1
            subst e1'
            have hok := hcs _ (List.mem_singleton.2 rfl)
            obtain ⟨a1,a2⟩ := argsOf_rd (P := P) (f := f) hg (by simpa using hsz) e2 e4
            obtain ⟨b1,b2⟩ := frzs H a1 a2
            refine ⟨rfl,fun next Q hn => wp_of_call (run_call e0) (hso.run _ _ w _ b1 b2 (H.strike _).bd (hG.pres (.refl _ _) (fun _ h => .inl h)) hok) (fun v w' hv => ?_)⟩
            obtain ⟨S', c1,c2,c3,c4,c5⟩ := hv
            exact hn v w' S c5 (fun _ h => h) (fun _ h => .inl h) (fun b hb => Nat.lt_of_lt_of_le (H.bd b hb) c5.size) (scal_rd c1 (hso.sc hsc _ hok))
        · split at hd
          · cases hd
          · split at hd
            · simp only [Option.some.injEq] at hd
              subst hd
              simp at hm
            · split at hd
              · simp only [Option.some.injEq] at hd
                subst hd
                simp at hm
              · cases hd
      · cases hd
    · split at hd
      · split at hd
        · rename_i cs v hgd
          simp only [Option.some.injEq] at hd
          subst hd
          refine ⟨rfl,fun next Q hn => ?_⟩
          obtain ⟨u,w', S', h1,h2,h3,h4,h5,h6⟩ := gdop_ok H hg hgd
          unfold Oper.wp
          rw [h1]
          exact hn u w' S' h2 h3 h4 h5 h6
        · cases hd
      · split at hd
        · simp only [Option.some.injEq] at hd
          subst hd
          simp at hm
        · cases hd

/-- An operation that changes the heap. -/
theorem dstep_mu [Inhabited GlobT] {g ga gb : Operand → AV} {all : List Oper} {gk : Option (Nat × Bool)} {o : Oper} {d : DR} (hΓ : GamOk P Γ) (hD : CallDOk P cd) (H : HRel w S Own l h) (hG : Glob w S) (hg : ∀ x,Rd w S (some l) (a.eval x) (g x))
    (hd : dstep P Γ cd h g ga gb all gk o = some d) (hm : d.mu = true) (hcs : ∀ c ∈ d.cs,c = true) :
    gk = none ∧ ∀ (next : Act → World → Prop) Q,(∀ u w' S' l', HRel w' S' Own l' d.h → Rd w' S' (some l') u d.v → Chg Own S S' l l' [] w w' → next (a.put o.dst u) w') → o.wp P a w next Q := by
  unfold dstep at hd
  split at hd
  · rename_i cs v hq
    simp only [Option.some.injEq] at hd
    subst hd
    simp at hm
  · split at hd
    · rename_i f args ats hop
      split at hd
      · rename_i g0 caps hopn
        cases hsz : (args.size == ats.size) <;> simp only [hsz,Bool.not_true,Bool.not_false,cond_true,cond_false] at hd
        case false => cases hd
        split at hd
        · rename_i s hs
          have hso := hΓ.sm g0 s hs
          cases hsc : s.sc <;> simp only [hsc,cond_true,cond_false] at hd
          · split at hd
            · cases hno : noneN ((argsOf P g ⟨.value (.func g0),args,ats⟩ ++ caps).flatMap (reach h 4)) <;> simp only [hno,cond_true,cond_false] at hd
              · cases hd
              simp only [Option.some.injEq] at hd
              subst hd
              simp at hm
            · simp only [Option.some.injEq] at hd
              subst hd
              obtain ⟨dst,op,type,pos,after,guard⟩ := o
              simp only at hop; subst hop
              have hfr : Rd w S (some l) (a.eval f) (.fn (.func g0) [] caps) := hopn ▸ hg f
              obtain ⟨first,captured,e0,e1,e2,e3,e4⟩ := rd_fn hfr
              have e1' : first = #[] := by
                apply Array.eq_empty_of_size_eq_zero; simpa using e1
              subst e1'
              have hok := hcs _ (List.mem_singleton.2 rfl)
              obtain ⟨a1,a2⟩ := argsOf_rd (P := P) (f := f) hg (by simpa using hsz) e2 e4
              obtain ⟨b1,b2⟩ := frzs H a1 a2
              refine ⟨rfl,fun next Q hn => wp_of_call (run_call e0) (hso.run _ _ w _ b1 b2 (H.strike _).bd (hG.pres (.refl _ _) (fun _ h => .inl h)) hok) (fun v w' hv => ?_)⟩
              obtain ⟨S', c1,c2,c3,c4,c5⟩ := hv
              have H1 := (H.strike _).ev c5 c2 c3 c4
              have Cs : Chg Own S S' l l [] w w' := .ev H c5 (fun b hb => c2 b (.inl hb)) (fun b hb => (c3 b hb).elim (fun hb => Fz_own H hb) (fun hb => .inr (H.own b hb)))
              exact hn v w' S' l H1 (c1.pres (.refl _ _) (fun _ h => h) trivial) Cs
          · simp only [Option.some.injEq] at hd
            subst hd
            simp at hm
        · split at hd
          · cases hd
          · split at hd
            · rename_i v h' hxc
              simp only [Option.some.injEq] at hd
              subst hd
              obtain ⟨dst,op,type,pos,after,guard⟩ := o
              simp only at hop; subst hop
              have hfr : Rd w S (some l) (a.eval f) (.fn (.func g0) [] caps) := hopn ▸ hg f
              obtain ⟨first,captured,e0,e1,e2,e3,e4⟩ := rd_fn hfr
              have e1' : first = #[] := by
                apply Array.eq_empty_of_size_eq_zero; simpa using e1
              subst e1'
              obtain ⟨a1,a2⟩ := argsOf_rd (P := P) (f := f) hg (by simpa using hsz) e2 e4
              refine ⟨rfl,fun next Q hn => wp_of_call (run_call e0) (hD _ _ _ _ _ hxc w S Own l _ H hG a1 a2) (fun v w' hv => ?_)⟩
              obtain ⟨S', l', k1,k2,k3⟩ := hv
              exact hn v w' S' l' k1 k2 k3
            · split at hd
              · rename_i cs v h' hxc
                simp only [Option.some.injEq] at hd
                subst hd
                obtain ⟨dst,op,type,pos,after,guard⟩ := o
                simp only at hop; subst hop
                have hfr : Rd w S (some l) (a.eval f) (.fn (.func g0) [] caps) := hopn ▸ hg f
                obtain ⟨first,captured,e0,e1,e2,e3,e4⟩ := rd_fn hfr
                have e1' : first = #[] := by
                  apply Array.eq_empty_of_size_eq_zero; simpa using e1
                subst e1'
                obtain ⟨a1,a2⟩ := argsOf_rd (P := P) (f := f) hg (by simpa using hsz) e2 e4
                refine ⟨rfl,fun next Q hn => wp_of_call (run_call e0) (xcall_ok hΓ.x H hG a1 a2 hxc hcs) (fun v w' hv => ?_)⟩
                obtain ⟨S', l', k1,k2,k3⟩ := hv
                exact hn v w' S' l' k1 k2 k3
              · cases hd
      · cases hd
    · split at hd
      · split at hd
        · simp only [Option.some.injEq] at hd
          subst hd
          simp at hm
        · cases hd
      · split at hd
        · rename_i mr hmr
          simp only [Option.some.injEq] at hd
          subst hd
          rw [Option.bind_eq_some_iff] at hmr
          obtain ⟨r0,h1,h2⟩ := hmr
          refine ⟨rfl,fun next Q hn => ?_⟩
          have hok : ∀ c ∈ r0.ok,c = true := by
            have : mr.ok = r0.ok := fresh_cs h2
            intro c hc
            exact hcs c (by simpa [this] using hc)
          refine wp_of_mok (mop_ok H hg h1 hok) (fun u w' S' l' d2 d3 d4 => ?_)
          obtain ⟨l'', g1,g2,g3,g4⟩ := fresh_ok H d2 d3 d4 h2
          exact hn u w' S' l'' g1 g2 g3
        · cases hd
end
end Go.Am
end
section
/- The abstract machine: regions that draw their order: the text's order as a row of steps. -/
namespace Go.Am
set_option linter.unusedSectionVars false

structure TS where
  o : Oper
  F : List Nat
  d : DR
  gb : Bool
  loc : Loc
  h : List Blk

def TS.keys (env : Env) (ops : Array Oper) (t : TS) : List (Nat × Bool) := Am.keys env t.loc 8 (guardOf ops t.o)
def TS.g [Inhabited GlobT] (env : Env) (ops : Array Oper) (t : TS) : Operand → AV := opndD env t.loc (t.keys env ops) (looks ops t.o)
def TS.ga [Inhabited GlobT] (env : Env) (ops : Array Oper) (t : TS) (b : Bool) : Operand → AV := opndD env t.loc (thenOf t.o (t.keys env ops) b) (looks ops t.o)

structure SF [Inhabited GlobT] (P : Program) (Γ : Gam) (cd : CallD) (nt : Nat) (ops : Array Oper) (env : Env) (i : Nat) (t t' : TS) : Prop where
  op : ops[i]? = some t.o
  dst : dstOk nt (guardOf ops t.o) t.loc t.o.dst = true
  gate : gateOf env t.loc (guardOf ops t.o) = some t.gb
  step : dstep P Γ cd (restr t.F 0 t.h) (t.g env ops) (t.ga env ops true) (t.ga env ops false) ops.toList (guardOf ops t.o) t.o = some t.d
  len : t.h.length ≤ t.d.h.length
  cs : t.gb = true → ∀ c ∈ t.d.cs,c = true
  loc : t'.loc = putL t.o.dst (guardOf ops t.o) t.d.v t.loc
  heap : t'.h = over t.F 0 t.h t.d.h

def recOf (k : Nat) (t : TS) : DRec := ⟨k,t.F,t.h.length,t.d.h.length,t.d.mu⟩

section
variable [Inhabited GlobT] {P : Program} {Γ : Gam} {cd : CallD} {nt : Nat} {ops : Array Oper} {env : Env}

theorem dops_tr {R : Type} {K : Loc → List Blk → Option R} {r : R} : ∀ (rest : List Oper) (i : Nat) (rs : List DRec) (loc : Loc) (h : List Blk),(∀ j,rest[j]? = ops[i + j]?) →
    dops P Γ cd nt ops env K rest i rs loc h = some r → ∃ T : Nat → TS,(T i).loc = loc ∧ (T i).h = h ∧ K (T (i + rest.length)).loc (T (i + rest.length)).h = some r ∧
      ∀ j,i ≤ j → j < i + rest.length → SF P Γ cd nt ops env j (T j) (T (j + 1)) ∧ (∀ x ∈ rs,clash (T j).F (T j).d.mu x = true → tw ops j x.i = true) ∧
        ∀ k,i ≤ k → k < j → clash (T j).F (T j).d.mu (recOf k (T k)) = true → tw ops j k = true := by
  intro rest
  induction rest with
  | nil =>
    intro i rs loc h _ hd
    exact ⟨fun _ => ⟨default,[],⟨[],.dead,false,[]⟩,true,loc,h⟩,rfl,rfl,hd,fun j h1 h2 => by simp at h2; omega⟩
  | cons o rest ih =>
    intro i rs loc h hops hd
    have ho : ops[i]? = some o := by simpa using (hops 0).symm
    have hops' : ∀ j,rest[j]? = ops[i + 1 + j]? := fun j => by
      have := hops (j + 1)
      rw [show i + 1 + j = i + (j + 1) by omega,← this]
      simp
    simp only [dops] at hd
    cases hdst : dstOk nt (guardOf ops o) loc o.dst <;> simp only [hdst,Bool.not_true,Bool.not_false,cond_true,cond_false] at hd
    case false => cases hd
    split at hd
    · cases hd
    rename_i gb hgate
    split at hd
    · cases hd
    rename_i d hstep
    generalize hF : footOf h (opndD env loc (keys env loc 8 (guardOf ops o)) (looks ops o)) o = F at hd hstep
    cases hb : (!(Nat.ble h.length d.h.length) || rs.any (fun r => clash F d.mu r && !(tw ops i r.i))) <;> simp only [hb,cond_true,cond_false] at hd
    case true => cases hd
    simp only [Bool.or_eq_false_iff,Bool.not_eq_false'] at hb
    obtain ⟨hlen,hrs⟩ := hb
    obtain ⟨hd', hcs⟩ := chk_some hd
    obtain ⟨T,h1,h2,h3,h4⟩ := ih (i + 1) _ _ _ hops' hd'
    refine ⟨fun j => if j = i then ⟨o,F,d,gb,loc,h⟩ else T j,by simp,by simp,?_,fun j hij hj => ?_⟩
    · have : i + (o :: rest).length ≠ i := by simp
      simp only [this,if_false]
      rw [show i + (o :: rest).length = i + 1 + rest.length by simp; omega]
      exact h3
    · by_cases e : j = i
      · subst e
        have e1 : j + 1 ≠ j := by omega
        simp only [if_true,e1,if_false]
        refine ⟨⟨ho,hdst,hgate,hstep,by simpa using hlen,fun hg c hc => hcs c hc hg,h1,h2⟩,fun x hx hcl => ?_,fun k h5 h6 => by omega⟩
        have := List.any_eq_false.1 hrs x hx
        simp only [hcl,Bool.true_and,Bool.not_eq_true', Bool.not_eq_false] at this
        exact this
      · have e1 : j + 1 ≠ i := by omega
        simp only [e,e1,if_false]
        obtain ⟨g1,g2,g3⟩ := h4 j (by omega) (by simp at hj; omega)
        refine ⟨g1,fun x hx => g2 x (List.mem_cons_of_mem _ hx),fun k h5 h6 hcl => ?_⟩
        by_cases e2 : k = i
        · subst e2
          simp only [if_true] at hcl
          exact g2 _ (List.mem_cons_self ..) hcl
        · simp only [e2,if_false] at hcl
          exact g3 k (by omega) h6 hcl
end
end Go.Am
end
section
/- The abstract machine: regions that draw their order: what must wait, waits. -/
namespace Go.Am
set_option linter.unusedSectionVars false

theorem befs_keep : ∀ (l : List Oper) (acc : List Nat) (k : Nat),k < acc.length → (befs l acc)[k]? = acc[k]?
  | [],acc,k,_ => rfl
  | o :: r,acc,k,h => by
    simp only [befs]
    rw [befs_keep r _ k (by simp; omega),List.getElem?_append_left h]

theorem befs_get : ∀ (l : List Oper) (acc : List Nat) (j : Nat) (o : Oper),l[j]? = some o →
    ∃ acc', acc'.length = acc.length + j ∧ (befs l acc)[acc.length + j]? = some (bmOf acc' o) ∧ ∀ k,k < acc'.length → acc'[k]? = (befs l acc)[k]?
  | [],acc,j,o,h => by simp at h
  | x :: r,acc,j,o,h => by
    cases j with
    | zero =>
      simp only [List.getElem?_cons_zero,Option.some.injEq] at h
      subst h
      refine ⟨acc,rfl,?_,fun k hk => ?_⟩
      · simp only [befs,Nat.add_zero]
        rw [befs_keep r _ _ (by simp)]; simp
      · simp only [befs]
        rw [befs_keep r _ _ (by simp; omega),List.getElem?_append_left hk]
    | succ j =>
      obtain ⟨acc', h1,h2,h3⟩ := befs_get r (acc ++ [bmOf acc x]) j o (by simpa using h)
      simp only [List.length_append,List.length_singleton] at h1 h2
      refine ⟨acc', by omega,?_,fun k hk => ?_⟩
      · simp only [befs]; rw [show acc.length + (j + 1) = acc.length + 1 + j by omega]; exact h2
      · simp only [befs]; exact h3 k hk

theorem bm_bit (acc : List Nat) (i : Nat) : ∀ (es : List Edge) (s : Nat),Nat.testBit (es.foldl (fun s e => bif Region.binds .any e then s ||| (1 <<< e.on) ||| acc.getD e.on 0 else s) s) i = true →
    Nat.testBit s i = true ∨ ∃ e ∈ es,Region.binds .any e = true ∧ (i = e.on ∨ Nat.testBit (acc.getD e.on 0) i = true)
  | [],s,h => .inl h
  | e :: es,s,h => by
    simp only [List.foldl_cons] at h
    rcases bm_bit acc i es _ h with h1 | ⟨e', he,hb⟩
    · cases hb : Region.binds .any e <;> simp only [hb,cond_true,cond_false] at h1
      · exact .inl h1
      · simp only [Nat.testBit_or,Bool.or_eq_true] at h1
        rcases h1 with (h1 | h1) | h1
        · exact .inl h1
        · refine .inr ⟨e,List.mem_cons_self .., hb,.inl ?_⟩
          rw [Nat.one_shiftLeft,Nat.testBit_two_pow] at h1
          simpa using (of_decide_eq_true h1).symm
        · exact .inr ⟨e,List.mem_cons_self .., hb,.inr h1⟩
    · exact .inr ⟨e', List.mem_cons_of_mem _ he,hb⟩

section
variable {ops : Array Oper}

theorem okD_one (h : okD ops = true) {j : Nat} {o : Oper} (ho : ops[j]? = some o) : okOne ops j = true := by
  have hj : j < ops.size := (Array.getElem?_eq_some_iff.1 ho).1
  have := List.all_eq_true.1 h j (List.mem_range.2 hj)
  simp only [Bool.and_eq_true] at this
  exact this.1

theorem okD_pair (h : okD ops = true) {i j : Nat} (hij : i < j) (hj : j < ops.size) : okPair ops j i = true := by
  have := List.all_eq_true.1 h j (List.mem_range.2 hj)
  simp only [Bool.and_eq_true] at this
  exact List.all_eq_true.1 this.2 i (List.mem_range.2 hij)

theorem okD_back (h : okD ops = true) {j : Nat} {o : Oper} (ho : ops[j]? = some o) : ∀ e ∈ o.after,Region.binds .any e = true → e.on < j := by
  have h1 := okD_one h ho
  simp only [okOne,ho,Bool.and_eq_true] at h1
  intro e he hb
  have := List.all_eq_true.1 h1.1.1.1 e (by simpa using he)
  simpa [hb] using this

/-- What waits, waits for all before it. -/
theorem tw_closed (h : okD ops = true) {L : Nat → Bool} (hL : ∀ j o,ops[j]? = some o → L j = true → ∀ e ∈ o.after,Region.binds .any e = true → L e.on = true) :
    ∀ (j : Nat) (o : Oper),ops[j]? = some o → (∀ e ∈ o.after,Region.binds .any e = true → L e.on = true) → ∀ i,tw ops j i = true → L i = true := by
  intro j
  induction j using Nat.strongRecOn with
  | _ j ih =>
    intro o ho hpre i hi
    obtain ⟨acc', h1,h2,h3⟩ := befs_get ops.toList [] j o (by simpa using ho)
    simp only [List.length_nil,Nat.zero_add] at h1 h2
    simp only [tw,List.getD_eq_getElem?_getD,h2,Option.getD_some] at hi
    rcases bm_bit acc' i o.after.toList 0 hi with h4 | ⟨e,he,hb,h4⟩
    · simp at h4
    · have hlt := okD_back h ho e (by simpa using he) hb
      have hLe := hpre e (by simpa using he) hb
      rcases h4 with rfl | h4
      · exact hLe
      · have hoe : ∃ o', ops[e.on]? = some o' := by
          have hj : j < ops.size := (Array.getElem?_eq_some_iff.1 ho).1
          exact ⟨_,Array.getElem?_eq_getElem (by omega)⟩
        obtain ⟨o', ho'⟩ := hoe
        refine ih e.on hlt o' ho' (hL e.on o' ho' hLe) i ?_
        rw [List.getD_eq_getElem?_getD,h3 e.on (by omega)] at h4
        simpa [tw,List.getD_eq_getElem?_getD] using h4
end
end Go.Am
end
section
/- The abstract machine: regions that draw their order: what each token's block holds when some operations are done. -/
namespace Go.Am
set_option linter.unusedSectionVars false

/-- The text's order of a region. -/
structure Text [Inhabited GlobT] (P : Program) (Γ : Gam) (cd : CallD) (nt : Nat) (ops : Array Oper) (env : Env) (h0 : List Blk) (T : Nat → TS) : Prop where
  okd : okD ops = true
  loc0 : (T 0).loc = []
  h0 : (T 0).h = h0
  sf : ∀ j,j < ops.size → SF P Γ cd nt ops env j (T j) (T (j + 1))
  cl : ∀ j k,j < ops.size → k < j → clash (T j).F (T j).d.mu (recOf k (T k)) = true → tw ops j k = true

def nn (T : Nat → TS) (j : Nat) : Nat := (T j).h.length
def touch (T : Nat → TS) (k t : Nat) : Bool := Nat.blt t (T k).d.h.length && (((T k).d.mu && isIn t (T k).F) || Nat.ble (nn T k) t)
def lastT (T : Nat → TS) (L : Nat → Bool) (t : Nat) : Nat → Option Nat
  | 0 => none
  | k + 1 => bif L k && touch T k t then some k else lastT T L t k
def cont (T : Nat → TS) (L : Nat → Bool) (t n : Nat) : Blk := match lastT T L t n with
  | none => hget (T 0).h t
  | some m => hget (T m).d.h t
def cutN (T : Nat → TS) (L : Nat → Bool) (t n : Nat) : Nat := match lastT T L t n with
  | none => nn T 0
  | some m => (T m).d.h.length

theorem dstep_still {P : Program} {Γ : Gam} {cd : CallD} {h : List Blk} {g ga gb : Operand → AV} {all : List Oper} {gk : Option (Nat × Bool)} {o : Oper} {d : DR}
    (hd : dstep P Γ cd h g ga gb all gk o = some d) (hm : d.mu = false) : d.h = h := by
  unfold dstep at hd
  split at hd
  · simp only [Option.some.injEq] at hd; subst hd; rfl
  · split at hd
    · split at hd
      · rename_i f args ats _ _ g0 caps _
        cases hsz : (args.size == ats.size) <;> simp only [hsz,Bool.not_true,Bool.not_false,cond_true,cond_false] at hd
        case false => cases hd
        split at hd
        · rename_i s _
          cases hsc : s.sc <;> simp only [hsc,cond_true,cond_false] at hd
          · split at hd
            · cases hno : noneN ((argsOf P g ⟨.value (.func g0),args,ats⟩ ++ caps).flatMap (reach h 4)) <;> simp only [hno,cond_true,cond_false] at hd
              · cases hd
              simp only [Option.some.injEq] at hd; subst hd; rfl
            · simp only [Option.some.injEq] at hd; subst hd; simp at hm
          · simp only [Option.some.injEq] at hd; subst hd; rfl
        · split at hd
          · cases hd
          · split at hd
            · simp only [Option.some.injEq] at hd; subst hd; simp at hm
            · split at hd
              · simp only [Option.some.injEq] at hd; subst hd; simp at hm
              · cases hd
      · cases hd
    · split at hd
      · split at hd
        · simp only [Option.some.injEq] at hd; subst hd; rfl
        · cases hd
      · split at hd
        · simp only [Option.some.injEq] at hd; subst hd; simp at hm
        · cases hd

theorem lastT_lt {T : Nat → TS} {L : Nat → Bool} {t : Nat} : ∀ {n m : Nat},lastT T L t n = some m → m < n ∧ L m = true ∧ touch T m t = true
  | 0,m,h => by simp [lastT] at h
  | n + 1,m,h => by
    simp only [lastT] at h
    cases hc : (L n && touch T n t) <;> simp only [hc,cond_true,cond_false] at h
    · obtain ⟨h1,h2⟩ := lastT_lt h
      exact ⟨by omega,h2⟩
    · simp only [Option.some.injEq] at h
      subst h
      simp only [Bool.and_eq_true] at hc
      exact ⟨by omega,hc⟩

/-- Operations from i on that do not touch do not matter. -/
theorem lastT_cut {T : Nat → TS} {L : Nat → Bool} {t i : Nat} : ∀ {n : Nat},i ≤ n → (∀ k,i ≤ k → k < n → L k = true → touch T k t = false) → lastT T L t n = lastT T L t i
  | 0,hi,_ => by simp at hi; subst hi; rfl
  | n + 1,hi,h => by
    by_cases e : i = n + 1
    · rw [e]
    · simp only [lastT]
      have : (L n && touch T n t) = false := by
        cases hl : L n
        · rfl
        · simp [h n (by omega) (by omega) hl]
      rw [this,cond_false]
      exact lastT_cut (by omega) (fun k h1 h2 => h k h1 (by omega))

theorem lastT_congr {T : Nat → TS} {L L' : Nat → Bool} {t : Nat} : ∀ {n : Nat},(∀ k,k < n → touch T k t = true → L k = L' k) → lastT T L t n = lastT T L' t n
  | 0,_ => rfl
  | n + 1,h => by
    simp only [lastT]
    rw [lastT_congr (fun k hk => h k (by omega))]
    cases ht : touch T n t
    · simp
    · rw [h n (by omega) ht]

section
variable [Inhabited GlobT] {P : Program} {Γ : Gam} {cd : CallD} {nt : Nat} {ops : Array Oper} {env : Env} {h0 : List Blk} {T : Nat → TS}

theorem Text.nn_succ (X : Text P Γ cd nt ops env h0 T) {j : Nat} (hj : j < ops.size) : nn T (j + 1) = (T j).d.h.length ∧ nn T j ≤ nn T (j + 1) := by
  have s := X.sf j hj
  have : nn T (j + 1) = (T j).d.h.length := by unfold nn; rw [s.heap,over_len _ _ _ _ s.len]
  exact ⟨this,by rw [this]; exact s.len⟩

theorem Text.mono (X : Text P Γ cd nt ops env h0 T) {i : Nat} : ∀ {j : Nat},i ≤ j → j ≤ ops.size → nn T i ≤ nn T j
  | 0,hij,_ => by simp at hij; subst hij; exact Nat.le_refl _
  | j + 1,hij,hj => by
    by_cases e : i = j + 1
    · rw [e]; exact Nat.le_refl _
    · exact Nat.le_trans (X.mono (j := j) (by omega) (by omega)) (X.nn_succ (by omega)).2

theorem touch_new {k t : Nat} (h1 : nn T k ≤ t) (h2 : t < (T k).d.h.length) : touch T k t = true := by
  have e1 : Nat.ble (nn T k) t = true := by simpa using h1
  have e2 : Nat.blt t (T k).d.h.length = true := by simpa using h2
  simp [touch,e1,e2]

theorem touch_spec {k t : Nat} : touch T k t = true ↔ t < (T k).d.h.length ∧ (((T k).d.mu = true ∧ isIn t (T k).F = true) ∨ nn T k ≤ t) := by
  simp [touch]

/-- The heap of the text's order. -/
theorem Text.get (X : Text P Γ cd nt ops env h0 T) : ∀ i,i ≤ ops.size → ∀ t,t < nn T i → (T i).h[t]? = some (cont T (fun _ => true) t i)
  | 0,_,t,ht => by
    have : t < (T 0).h.length := ht
    simp only [cont,lastT,hget,List.getD_eq_getElem?_getD,List.getElem?_eq_getElem this,Option.getD_some]
  | i + 1,hi,t,ht => by
    have s := X.sf i (by omega)
    have ih := X.get i (by omega) t
    have hlen := (X.nn_succ (j := i) (by omega)).1
    rw [s.heap,over_get _ _ _ _ _ s.len,Nat.zero_add]
    have hd : t < (T i).d.h.length := by omega
    have hdg : (T i).d.h[t]? = some (hget (T i).d.h t) := by simp [hget,hd]
    simp only [cont,lastT,Bool.true_and]
    cases htc : touch T i t <;> simp only [cond_true,cond_false]
    · have h1 : t < nn T i := by
        rcases Nat.lt_or_ge t (nn T i) with h | h
        · exact h
        · rw [touch_new h hd] at htc; cases htc
      have ih' := ih h1
      simp only [cont] at ih'
      rw [if_pos (show t < (T i).h.length from h1)]
      split
      · rename_i hF
        have hmu : (T i).d.mu = false := by
          cases hm : (T i).d.mu
          · rfl
          · rw [touch_spec.2 ⟨hd,.inl ⟨hm,hF⟩⟩] at htc; cases htc
        rw [dstep_still s.step hmu,restr_get,Nat.zero_add,hF]
        rw [ih']; rfl
      · exact ih'
    · rcases (touch_spec.1 htc).2 with ⟨_,hF⟩ | h1
      · rw [hF,if_pos rfl]
        split <;> exact hdg
      · rw [if_neg (show ¬ t < (T i).h.length from Nat.not_lt.2 h1)]; exact hdg
end
end Go.Am
end
section
/- The abstract machine: regions that draw their order: one more operation is done. -/
namespace Go.Am
set_option linter.unusedSectionVars false

theorem isIn_mem {t : Nat} : ∀ {F : List Nat},isIn t F = true → t ∈ F
  | [],h => by simp [isIn] at h
  | x :: r,h => by
    simp only [isIn] at h
    cases hx : x == t <;> simp only [hx,cond_true,cond_false] at h
    · exact List.mem_cons_of_mem _ (isIn_mem h)
    · have : x = t := by simpa using hx
      subst this; exact List.mem_cons_self ..

theorem clash_in {F : List Nat} {mu : Bool} {r : DRec} {t : Nat} (h1 : isIn t F = true) (h2 : (mu = true ∨ r.mu = true) ∧ isIn t r.F = true ∨ r.lo ≤ t ∧ t < r.hi) : clash F mu r = true := by
  refine List.any_eq_true.2 ⟨t,isIn_mem h1,?_⟩
  rcases h2 with ⟨h2,h3⟩ | ⟨h2,h3⟩
  · rcases h2 with h2 | h2 <;> simp [h2,h3]
  · have e1 : Nat.ble r.lo t = true := by simpa using h2
    have e2 : Nat.blt t r.hi = true := by simpa using h3
    simp [e1,e2]

/-- What is done is closed: all that a done operation waits for, is done. -/
def Closed (ops : Array Oper) (L : Nat → Bool) : Prop := ∀ j o,ops[j]? = some o → L j = true → ∀ e ∈ o.after,Region.binds .any e = true → L e.on = true

section
variable [Inhabited GlobT] {P : Program} {Γ : Gam} {cd : CallD} {nt : Nat} {ops : Array Oper} {env : Env} {h0 : List Blk} {T : Nat → TS} {L : Nat → Bool} {i : Nat}

/-- i may be done next. -/
structure Next (ops : Array Oper) (T : Nat → TS) (L : Nat → Bool) (i : Nat) : Prop where
  lt : i < ops.size
  off : L i = false
  pre : ∀ e ∈ (T i).o.after,Region.binds .any e = true → L e.on = true
  cl : Closed ops L

theorem Next.wait (X : Text P Γ cd nt ops env h0 T) (N : Next ops T L i) {k : Nat} (h : tw ops i k = true) : L k = true :=
  tw_closed X.okd N.cl i _ (X.sf i N.lt).op N.pre k h

theorem Next.noLate (X : Text P Γ cd nt ops env h0 T) (N : Next ops T L i) {j : Nat} (hj : j < ops.size) (hL : L j = true) : tw ops j i = false := by
  cases h : tw ops j i
  · rfl
  · have := tw_closed X.okd N.cl j _ (X.sf j hj).op (N.cl j _ (X.sf j hj).op hL) i h
    rw [N.off] at this; cases this

theorem Next.clear (X : Text P Γ cd nt ops env h0 T) (N : Next ops T L i) {j : Nat} (hij : i < j) (hj : j < ops.size) (hL : L j = true) : clash (T j).F (T j).d.mu (recOf i (T i)) = false := by
  cases h : clash (T j).F (T j).d.mu (recOf i (T i))
  · rfl
  · have := X.cl j i hj hij h
    rw [N.noLate X hj hL] at this; cases this

theorem Next.before (X : Text P Γ cd nt ops env h0 T) (N : Next ops T L i) {k : Nat} (hk : k < i) (h : clash (T i).F (T i).d.mu (recOf k (T k)) = true) : L k = true :=
  N.wait X (X.cl i k N.lt hk h)

/-- What i needs is as the text's order has it. -/
theorem Next.same (X : Text P Γ cd nt ops env h0 T) (N : Next ops T L i) {t : Nat} (hF : isIn t (T i).F = true) (ht : t < nn T i) : lastT T L t ops.size = lastT T (fun _ => true) t i := by
  rw [lastT_cut (i := i) (Nat.le_of_lt N.lt)]
  · refine lastT_congr fun k hk htc => ?_
    obtain ⟨h1,h2⟩ := touch_spec.1 htc
    refine N.before X hk (clash_in hF ?_)
    rcases h2 with ⟨h2,h3⟩ | h2
    · exact .inl ⟨.inr h2,h3⟩
    · exact .inr ⟨h2,h1⟩
  · intro k hk hkn hL
    by_cases e : k = i
    · subst e; rw [N.off] at hL; cases hL
    · cases htc : touch T k t
      · rfl
      · obtain ⟨h1,h2⟩ := touch_spec.1 htc
        rcases h2 with ⟨h2,h3⟩ | h2
        · have := N.clear X (by omega) hkn hL
          rw [clash_in h3 (.inl ⟨.inl h2,hF⟩)] at this; cases this
        · have := X.mono hk (Nat.le_of_lt hkn)
          omega

def addL (L : Nat → Bool) (i : Nat) : Nat → Bool := fun k => k == i || L k

/-- What i touches holds what i left; the rest is as it was. -/
theorem Next.after (X : Text P Γ cd nt ops env h0 T) (N : Next ops T L i) (t : Nat) : lastT T (addL L i) t ops.size = if touch T i t = true then some i else lastT T L t ops.size := by
  split
  · rename_i htc
    rw [lastT_cut (i := i + 1) N.lt]
    · simp [lastT,addL,htc]
    · intro k hk hkn hL
      have hL' : L k = true := by
        have : (k == i) = false := by simp; omega
        simpa [addL,this] using hL
      obtain ⟨h1,h2⟩ := touch_spec.1 htc
      cases htk : touch T k t
      · rfl
      · obtain ⟨h3,h4⟩ := touch_spec.1 htk
        have hc := N.clear X (by omega) hkn hL'
        have hm := X.mono hk (Nat.le_of_lt hkn)
        have hn := (X.nn_succ N.lt).1
        rcases h4 with ⟨h4,h5⟩ | h4
        · rcases h2 with ⟨h2,h6⟩ | h2
          · rw [clash_in h5 (.inl ⟨.inl h4,h6⟩)] at hc; cases hc
          · rw [clash_in h5 (.inr ⟨h2,h1⟩)] at hc; cases hc
        · omega
  · rename_i htc
    refine lastT_congr fun k hk htk => ?_
    by_cases e : k = i
    · subst e; exact absurd htk htc
    · have : (k == i) = false := by simpa using e
      simp [addL,this]
end
end Go.Am
end
section
/- The abstract machine: regions that draw their order: the state when some operations are done. -/
namespace Go.Am
set_option linter.unusedSectionVars false

/-- The slots when the operations of L are done. -/
structure JS (ops : Array Oper) (env : Env) (T : Nat → TS) (L : Nat → Bool) (w : World) (S : Nat → Prop) (l : List Tk) (a : Act) : Prop where
  on : ∀ m d,m < ops.size → L m = true → (T m).o.dst = some d → KH a (guardOf ops (T m).o) → Rd w S (some (l.take (T m).d.h.length)) (a.tmps.getD d undef) (T m).d.v
  off : ∀ m d,m < ops.size → L m = true → (T m).o.dst = some d → ¬ KH a (guardOf ops (T m).o) → a.tmps.getD d undef = undef
  env : ∀ s,(∀ m,m < ops.size → L m = true → (T m).o.dst ≠ some s) → Rd w S (some (l.take (nn T 0))) (a.tmps.getD s undef) (eget env s)

section
variable [Inhabited GlobT] {P : Program} {Γ : Gam} {cd : CallD} {nt : Nat} {ops : Array Oper} {env : Env} {h0 : List Blk} {T : Nat → TS} {L : Nat → Bool} {i : Nat} {w : World} {S : Nat → Prop} {l : List Tk} {a : Act}

theorem Text.one (X : Text P Γ cd nt ops env h0 T) {j : Nat} (hj : j < ops.size) : okOne ops j = true := okD_one X.okd (X.sf j hj).op
theorem Text.pair (X : Text P Γ cd nt ops env h0 T) {i j : Nat} (hij : i < j) (hj : j < ops.size) :
    sameDst (T i).o.dst (T j).o.dst = false ∧ ((dstIn (T i).o.dst (looks ops (T j).o) = true ∨ dstIn (T j).o.dst (looks ops (T i).o) = true) → tw ops j i = true) := by
  have h := okD_pair X.okd hij hj
  simp only [okPair,(X.sf i (by omega)).op,(X.sf j hj).op,Bool.and_eq_true,Bool.not_eq_true'] at h
  refine ⟨h.1,fun hc => ?_⟩
  have h2 := h.2
  cases hb : (dstIn (T i).o.dst (looks ops (T j).o) || dstIn (T j).o.dst (looks ops (T i).o)) <;> simp only [hb,cond_true,cond_false] at h2
  · rw [Bool.or_eq_false_iff] at hb
    rcases hc with hc | hc
    · rw [hb.1] at hc; cases hc
    · rw [hb.2] at hc; cases hc
  · exact h2

theorem Text.uniq (X : Text P Γ cd nt ops env h0 T) {i j d : Nat} (hi : i < ops.size) (hj : j < ops.size) (h1 : (T i).o.dst = some d) (h2 : (T j).o.dst = some d) : i = j := by
  rcases Nat.lt_trichotomy i j with h | h | h
  · have := (X.pair h hj).1
    simp [h1,h2,sameDst] at this
  · exact h
  · have := (X.pair h hi).1
    simp [h1,h2,sameDst] at this

theorem mem_isIn {t : Nat} : ∀ {F : List Nat},t ∈ F → isIn t F = true
  | [],h => by simp at h
  | x :: r,h => by
    simp only [isIn]
    cases hx : x == t <;> simp only [cond_true,cond_false]
    rcases List.mem_cons.1 h with rfl | h
    · simp at hx
    · exact mem_isIn h

theorem Text.own (X : Text P Γ cd nt ops env h0 T) {j d : Nat} (hj : j < ops.size) (h1 : (T j).o.dst = some d) : isIn d (looks ops (T j).o) = false := by
  have h := X.one hj
  simp only [okOne,(X.sf j hj).op,Bool.and_eq_true,Bool.not_eq_true'] at h
  simpa [h1,dstIn] using h.2

/-- Who wrote a slot by the text's order. -/
theorem Text.lkey (X : Text P Γ cd nt ops env h0 T) (s : Nat) : ∀ i,i ≤ ops.size →
    (∃ m,m < i ∧ (T m).o.dst = some s ∧ lkey env (T i).loc s = (guardOf ops (T m).o,(T m).d.v)) ∨ ((∀ m,m < i → (T m).o.dst ≠ some s) ∧ lkey env (T i).loc s = (none,eget env s))
  | 0,_ => .inr ⟨fun m hm => by omega,by rw [X.loc0]; rfl⟩
  | i + 1,hi => by
    have sf := X.sf i (by omega)
    rw [sf.loc]
    cases hd : (T i).o.dst with
    | none =>
      simp only [putL]
      rcases X.lkey s i (by omega) with ⟨m,h1,h2,h3⟩ | ⟨h1,h2⟩
      · exact .inl ⟨m,by omega,h2,h3⟩
      · refine .inr ⟨fun m hm => ?_,h2⟩
        by_cases e : m = i
        · subst e; rw [hd]; simp
        · exact h1 m (by omega)
    | some d =>
      simp only [putL,Am.lkey]
      cases hds : d == s <;> simp only [cond_true,cond_false]
      · have hne : d ≠ s := by simpa using hds
        rcases X.lkey s i (by omega) with ⟨m,h1,h2,h3⟩ | ⟨h1,h2⟩
        · exact .inl ⟨m,by omega,h2,h3⟩
        · refine .inr ⟨fun m hm => ?_,h2⟩
          by_cases e : m = i
          · subst e; rw [hd]; simpa using hne
          · exact h1 m (by omega)
      · obtain rfl : d = s := by simpa using hds
        exact .inl ⟨i,by omega,hd,rfl⟩

theorem guard_look {o : Oper} {s : Nat} {b : Bool} (h : guardOf ops o = some (s,b)) : isIn s (looks ops o) = true := by
  apply mem_isIn
  simp [looks,h]

/-- The operation that a guard asks. -/
theorem Text.guard (X : Text P Γ cd nt ops env h0 T) {j s : Nat} {b : Bool} (hj : j < ops.size) (h : guardOf ops (T j).o = some (s,b)) : ∃ g,g < j ∧ (T g).o.dst = some s := by
  have h1 := X.one hj
  simp only [okOne,(X.sf j hj).op,Bool.and_eq_true] at h1
  obtain ⟨⟨⟨_,h2⟩,h3⟩,_⟩ := h1
  unfold guardOk at h2
  unfold guardOf at h
  cases hg : (T j).o.guard with
  | none => rw [hg] at h; simp at h
  | some gb =>
    obtain ⟨g,want⟩ := gb
    simp only [hg] at h h2 h3
    have hlt : g < j := by simpa using h3
    have hop := (X.sf g (by omega)).op
    obtain ⟨d,hd⟩ := Option.isSome_iff_exists.1 h2
    rw [hd] at h
    simp only [Option.some.injEq,Prod.mk.injEq] at h
    obtain ⟨rfl,_⟩ := h
    simp only [hop,Option.bind_some] at hd
    exact ⟨g,hlt,hd⟩

theorem JS.keys (X : Text P Γ cd nt ops env h0 T) (N : Next ops T L i) (J : JS ops env T L w S l a) : ∀ (f j : Nat),(j = i ∨ (j < i ∧ L j = true)) → KH a (guardOf ops (T j).o) →
    ∀ k ∈ Am.keys env (T i).loc f (guardOf ops (T j).o),KH a (some k)
  | 0,j,_,_,k,hk => by simp [Am.keys] at hk
  | f + 1,j,hj,hkh,k,hk => by
    have hjn : j < ops.size := by have := N.lt; omega
    cases hg : guardOf ops (T j).o with
    | none => rw [hg] at hk; simp [Am.keys] at hk
    | some sb =>
      obtain ⟨s,b⟩ := sb
      rw [hg] at hk hkh
      simp only [Am.keys,List.mem_cons] at hk
      rcases hk with rfl | hk
      · exact hkh
      · obtain ⟨g,hgj,hgd⟩ := X.guard hjn hg
        have hw : tw ops j g = true := (X.pair hgj hjn).2 (.inl (by simp [hgd,dstIn,guard_look hg]))
        have hLg : L g = true := by
          rcases hj with rfl | ⟨_,hj⟩
          · exact N.wait X hw
          · exact tw_closed X.okd N.cl j _ (X.sf j hjn).op (N.cl j _ (X.sf j hjn).op hj) g hw
        rcases X.lkey s i (Nat.le_of_lt N.lt) with ⟨m,h1,h2,h3⟩ | ⟨h1,_⟩
        · obtain rfl : m = g := X.uniq (by have := N.lt; omega) (by omega) h2 hgd
          rw [h3] at hk
          refine JS.keys X N J f m (.inr ⟨by omega,hLg⟩) ?_ k hk
          rcases Classical.em (KH a (guardOf ops (T m).o)) with h | h
          · exact h
          · have h5 := J.off m s (by omega) hLg hgd h
            have h6 : a.tmps.getD s undef = .bool b := hkh
            rw [h5] at h6
            simp [undef] at h6
        · exact absurd hgd (h1 g (by omega))

/-- What an operation's operands read as. -/
theorem JS.opnd (hG : Glob w S) (X : Text P Γ cd nt ops env h0 T) (N : Next ops T L i) (J : JS ops env T L w S l a) {ks : List (Nat × Bool)} (hks : ∀ k ∈ ks,KH a (some k)) (hlen : nn T i ≤ l.length) (x : Operand) :
    Rd w S (some (l.take (nn T i))) (a.eval x) (opndD env (T i).loc ks (looks ops (T i).o) x) := by
  have hpre : ∀ k,k ≤ nn T i → MLe (some (l.take k)) (some (l.take (nn T i))) := by
    intro k hk
    refine ⟨(l.take (nn T i)).drop k,?_⟩
    have := List.take_append_drop k (l.take (nn T i))
    rw [List.take_take,Nat.min_eq_left hk] at this
    exact this.symm
  cases x with
  | tmp s =>
    show Rd w S _ (a.tmps.getD s undef) _
    simp only [opndD]
    cases hs : isIn s (looks ops (T i).o) <;> simp only [cond_true,cond_false]
    · exact .dead _ _
    · rw [lget_eq]
      rcases X.lkey s i (Nat.le_of_lt N.lt) with ⟨m,h1,h2,h3⟩ | ⟨h1,h2⟩
      · have hLm : L m = true := N.wait X ((X.pair h1 N.lt).2 (.inl (by simp [h2,dstIn,hs])))
        have hm : m < ops.size := by have := N.lt; omega
        rw [h3]
        have hcut : (T m).d.h.length ≤ nn T i := by
          rw [← (X.nn_succ hm).1]; exact X.mono h1 (Nat.le_of_lt N.lt)
        cases hg : guardOf ops (T m).o with
        | none => exact (J.on m s hm hLm h2 (by rw [hg]; trivial)).pres (.refl _ _) (fun _ h => h) (hpre _ hcut)
        | some k =>
          simp only
          cases hk : keyIn k ks
          · exact .dead _ _
          · exact (J.on m s hm hLm h2 (by rw [hg]; exact hks k (keyIn_mem hk))).pres (.refl _ _) (fun _ h => h) (hpre _ hcut)
      · rw [h2]
        refine (J.env s (fun m hm hLm hd => ?_)).pres (.refl _ _) (fun _ h => h) (hpre _ (X.mono (Nat.zero_le _) (Nat.le_of_lt N.lt)))
        rcases Nat.lt_trichotomy m i with h | h | h
        · exact h1 m h hd
        · subst h; rw [N.off] at hLm; cases hLm
        · have := (X.pair h hm).2 (.inr (by simp [hd,dstIn,hs]))
          rw [N.noLate X hm hLm] at this; cases this
  | const v => exact ofVal_rd v
  | global g => exact hG.opnd _ g
  | func f => exact .fn _ _ _ _ _ _ rfl rfl (by simp) (by simp)
end
end Go.Am
end
section
/- The abstract machine: regions that draw their order: the heap when some operations are done. -/
namespace Go.Am
set_option linter.unusedSectionVars false

structure JH (ops : Array Oper) (T : Nat → TS) (L : Nat → Bool) (w : World) (S Own : Nat → Prop) (l : List Tk) : Prop where
  len : l.length = nn T ops.size
  dum : ∀ (i t : Nat),i < ops.size → L i = false → nn T i ≤ t → t < (T i).d.h.length → l[t]? = some noTk
  blk : ∀ (t : Nat) (x : Tk),l[t]? = some x → BRel w S Own (l.take (cutN T L t ops.size)) x (cont T L t ops.size)
  inj : ∀ (t t' b N N' : Nat),l[t]? = some (some b,N) → l[t']? = some (some b,N') → (cont T L t ops.size).live = true → (cont T L t' ops.size).live = true → t = t'
  bd : ∀ (b : Nat),S b → b < w.heap.size
  lbd : ∀ (t b N : Nat),l[t]? = some (some b,N) → b < w.heap.size
  own : ∀ (b : Nat),w.heap.size ≤ b → Own b

/-- What the operation i may write: not what others hold. -/
def OwnI (ops : Array Oper) (T : Nat → TS) (L : Nat → Bool) (l : List Tk) (Own : Nat → Prop) (i b : Nat) : Prop :=
  Own b ∧ ∀ (t N : Nat),(isIn t (T i).F = true → nn T i ≤ t) → l[t]? = some (some b,N) → (cont T L t ops.size).live = false

section
variable [Inhabited GlobT] {P : Program} {Γ : Gam} {cd : CallD} {nt : Nat} {ops : Array Oper} {env : Env} {h0 : List Blk} {T : Nat → TS} {L : Nat → Bool} {i : Nat} {w w' : World} {S S' Own : Nat → Prop} {l l' : List Tk} {a : Act}

theorem take_mle {k j : Nat} (h : k ≤ j) : ∃ y,l.take j = l.take k ++ y := by
  refine ⟨(l.take j).drop k,?_⟩
  have := List.take_append_drop k (l.take j)
  rw [List.take_take,Nat.min_eq_left h] at this
  exact this.symm

theorem tokLe_take (k : Nat) (h : TokLe l l') : TokLe (l.take k) (l'.take k) := by
  intro t x hx hne
  rw [List.getElem?_take] at hx ⊢
  split at hx
  · rename_i hlt; rw [if_pos hlt]; exact h t x hx hne
  · cases hx

theorem tokLe_of_mle (h : ∃ y,l' = l ++ y) : TokLe l l' := fun _ _ hx _ => get_of_mle h hx

theorem JH.pre (X : Text P Γ cd nt ops env h0 T) (N : Next ops T L i) (J : JH ops T L w S Own l) : HRel w S (OwnI ops T L l Own i) (l.take (nn T i)) (restr (T i).F 0 (T i).h) := by
  have hN := X.mono (Nat.le_of_lt N.lt) (Nat.le_refl _)
  have hlen : (l.take (nn T i)).length = nn T i := by rw [List.length_take,J.len]; omega
  have hl : ∀ (t : Nat) x,(l.take (nn T i))[t]? = some x → t < nn T i ∧ l[t]? = some x := by
    intro t x hx
    rw [List.getElem?_take] at hx
    split at hx
    · rename_i h; exact ⟨h,hx⟩
    · cases hx
  have hc : ∀ (t : Nat) k,(restr (T i).F 0 (T i).h)[t]? = some k → k.live = true → t < nn T i → isIn t (T i).F = true ∧ k = cont T L t ops.size ∧ cutN T L t ops.size ≤ nn T i := by
    intro t k hk hlv ht
    rw [restr_get,Nat.zero_add,Option.map_eq_some_iff] at hk
    obtain ⟨b,hb,rfl⟩ := hk
    cases hF : isIn t (T i).F <;> simp only [hF,cond_true,cond_false] at hlv ⊢
    · simp [Blk.live] at hlv
    · have hg := X.get i (Nat.le_of_lt N.lt) t ht
      rw [hb] at hg
      have hs := N.same X hF ht
      refine ⟨trivial,?_,?_⟩
      · simp only [Option.some.injEq] at hg
        rw [hg]; unfold cont; rw [hs]
      · unfold cutN; rw [hs]
        cases hlt : lastT T (fun _ => true) t i with
        | none => exact X.mono (Nat.zero_le _) (Nat.le_of_lt N.lt)
        | some m =>
          obtain ⟨h1,_⟩ := lastT_lt hlt
          have := N.lt
          show (T m).d.h.length ≤ nn T i
          rw [← (X.nn_succ (j := m) (by omega)).1]
          exact X.mono h1 (by omega)
  refine ⟨by rw [hlen,restr_len]; rfl,fun t x k hx hk => ?_,fun t t' b N1 N2 k k' h1 h2 h3 h4 h5 h6 => ?_,J.bd,fun t b N1 hm => J.lbd t b N1 (hl _ _ hm).2,fun b hb => ⟨J.own b hb,fun t N1 _ hm => ?_⟩⟩
  · obtain ⟨ht,hx'⟩ := hl t x hx
    cases hlv : k.live with
    | false => cases k <;> simp [Blk.live] at hlv; trivial
    | true =>
      obtain ⟨hF,hk', hcut⟩ := hc t k hk hlv ht
      subst hk'
      refine (J.blk t x hx').go (tokLe_of_mle (take_mle hcut)) (.refl _ _) (fun _ h => h) (fun b hxb hlv' => ⟨rfl,fun h => h,fun hO => ⟨hO,fun t' N' hF' hm' => ?_⟩⟩)
      cases hlt : (cont T L t' ops.size).live
      · rfl
      · obtain ⟨x1,x2⟩ := x
        simp only at hxb; subst hxb
        have := J.inj t t' b x2 N' hx' hm' hlv hlt
        subst this
        exact absurd (hF' hF) (by omega)
  · obtain ⟨ht1,g1⟩ := hl _ _ h1
    obtain ⟨ht2,g2⟩ := hl _ _ h2
    obtain ⟨_,e1,_⟩ := hc t k h3 h5 ht1
    obtain ⟨_,e2,_⟩ := hc t' k' h4 h6 ht2
    exact J.inj t t' b N1 N2 g1 g2 (by rw [← e1]; exact h5) (by rw [← e2]; exact h6)
  · have := J.lbd t b N1 hm; omega

theorem Text.dlt (X : Text P Γ cd nt ops env h0 T) {j d : Nat} (hj : j < ops.size) (h : (T j).o.dst = some d) : d < nt := by
  have := (X.sf j hj).dst
  rw [h] at this
  simp only [dstOk,Bool.and_eq_true,Nat.blt_eq] at this
  exact this.1.1

/-- One more slot is written. -/
theorem JS.step (X : Text P Γ cd nt ops env h0 T) (N : Next ops T L i) (J : JS ops env T L w S l a) {u : Value} (hn : a.tmps.size = nt) (hp : Pres S w w') (hS : ∀ b,S b → S' b) (hl : TokLe l l')
    (h1 : KH a (guardOf ops (T i).o) → Rd w' S' (some (l'.take (T i).d.h.length)) u (T i).d.v) (h2 : ¬ KH a (guardOf ops (T i).o) → u = undef) : JS ops env T (addL L i) w' S' l' (a.put (T i).o.dst u) := by
  have hi := N.lt
  -- the guard of a done operation,or of this one,is not written now
  have hgd : ∀ m d s b,m < ops.size → (m = i ∨ L m = true) → (T i).o.dst = some d → guardOf ops (T m).o = some (s,b) → s ≠ d := by
    intro m d s b hm hmi hd hg hsd
    subst hsd
    obtain ⟨g,hgm,hgd⟩ := X.guard hm hg
    obtain rfl : g = i := X.uniq (by omega) hi hgd hd
    rcases hmi with rfl | hmi
    · omega
    · have := (X.pair hgm hm).2 (.inl (by simp [hd,dstIn,guard_look hg]))
      rw [N.noLate X hm hmi] at this; cases this
  have hput : ∀ m,m < ops.size → (m = i ∨ L m = true) → (KH (a.put (T i).o.dst u) (guardOf ops (T m).o) ↔ KH a (guardOf ops (T m).o)) := by
    intro m hm hmi
    cases hd : (T i).o.dst with
    | none => exact Iff.rfl
    | some d => exact KH_put (by have := X.dlt hi hd; omega) (fun s b hg => hgd m d s b hm hmi hd hg)
  have hget : ∀ s,(T i).o.dst ≠ some s → (a.put (T i).o.dst u).tmps.getD s undef = a.tmps.getD s undef := by
    intro s hs
    cases hd : (T i).o.dst with
    | none => rfl
    | some d =>
      rw [put_get (by have := X.dlt hi hd; omega),if_neg (fun e => hs (by rw [hd,e]))]
  have hself : ∀ d,(T i).o.dst = some d → (a.put (T i).o.dst u).tmps.getD d undef = u := by
    intro d hd
    rw [hd,put_get (by have := X.dlt hi hd; omega),if_pos rfl]
  have mv : ∀ {k : Nat} {v : Value} {x : AV},Rd w S (some (l.take k)) v x → Rd w' S' (some (l'.take k)) v x := fun h => (h.tk (tokLe_take _ hl)).pres hp hS ⟨[],by simp⟩
  refine ⟨fun m d hm hL hd hk => ?_,fun m d hm hL hd hk => ?_,fun s hs => ?_⟩
  · by_cases e : m = i
    · subst e
      rw [hself d hd]
      exact h1 ((hput m hm (.inl rfl)).1 hk)
    · have hL' : L m = true := by
        have : (m == i) = false := by simpa using e
        simpa [addL,this] using hL
      rw [hget d (fun h => e (X.uniq hm hi hd h))]
      exact mv (J.on m d hm hL' hd ((hput m hm (.inr hL')).1 hk))
  · by_cases e : m = i
    · subst e
      rw [hself d hd]
      exact h2 (fun h => hk ((hput m hm (.inl rfl)).2 h))
    · have hL' : L m = true := by
        have : (m == i) = false := by simpa using e
        simpa [addL,this] using hL
      rw [hget d (fun h => e (X.uniq hm hi hd h))]
      exact J.off m d hm hL' hd (fun h => hk ((hput m hm (.inr hL')).2 h))
  · rw [hget s (hs i hi (by simp [addL]))]
    exact mv (J.env s (fun m hm hL => hs m hm (by simp [addL,hL])))

/-- An operation that changes nothing. -/
theorem JH.quiet (X : Text P Γ cd nt ops env h0 T) (N : Next ops T L i) (J : JH ops T L w S Own l) (hm : (T i).d.mu = false) (hE : Ev w.heap.size (fun _ => False) w w') (hS : ∀ b,S b → S' b) (hnew : ∀ b,S' b → S b ∨ w.heap.size ≤ b) (hbd : ∀ b,S' b → b < w'.heap.size) : JH ops T (addL L i) w' S' Own l := by
  have hd : (T i).d.h.length = nn T i := by rw [dstep_still (X.sf i N.lt).step hm,restr_len]; rfl
  have ht : ∀ t,lastT T (addL L i) t ops.size = lastT T L t ops.size := by
    intro t
    rw [N.after X t,if_neg]
    intro h
    obtain ⟨h1,h2⟩ := touch_spec.1 h
    rw [hm] at h2
    simp at h2
    omega
  have hc : ∀ t,cont T (addL L i) t ops.size = cont T L t ops.size := fun t => by unfold cont; rw [ht]
  have hk : ∀ t,cutN T (addL L i) t ops.size = cutN T L t ops.size := fun t => by unfold cutN; rw [ht]
  refine ⟨J.len,fun j t hj hL h1 h2 => J.dum j t hj ?_ h1 h2,fun t x hx => ?_,fun t t' b N1 N2 h1 h2 h3 h4 => J.inj t t' b N1 N2 h1 h2 (by rw [← hc]; exact h3) (by rw [← hc]; exact h4),
    hbd,fun t b N1 hm => Nat.lt_of_lt_of_le (J.lbd t b N1 hm) hE.size,fun b hb => J.own b (Nat.le_trans hE.size hb)⟩
  · simp only [addL,Bool.or_eq_false_iff] at hL; exact hL.2
  · rw [hc,hk]
    refine (J.blk t x hx).go (.refl _) (.ev hE J.bd) hS (fun b hb _ => ?_)
    obtain ⟨x1,x2⟩ := x
    simp only at hb; subst hb
    have hlt := J.lbd t b x2 hx
    exact ⟨hE.block b hlt (fun h => h),fun hn h => (hnew b h).elim hn (fun h => by omega),fun h => h⟩
end
end Go.Am
end
section
/- The abstract machine: regions that draw their order: an operation that changes the heap; the beginning; the end. -/
namespace Go.Am
set_option linter.unusedSectionVars false

section
variable [Inhabited GlobT] {P : Program} {Γ : Gam} {cd : CallD} {nt : Nat} {ops : Array Oper} {env : Env} {h0 : List Blk} {T : Nat → TS} {L : Nat → Bool} {i : Nat} {w w' : World} {S S' Own : Nat → Prop} {l l' : List Tk} {a : Act}

/-- The tokens behind a step: its own, then the rest. -/
theorem tok_new {k k' : Nat} (hk : k ≤ k') (hl' : l'.length = k') (hlen : k' ≤ l.length) (hagr : ∀ (t : Nat) x,t < k → l[t]? = some x → l'[t]? = some x) :
    (∀ t,t < k → (l' ++ l.drop k')[t]? = l[t]?) ∧ (∀ t,k' ≤ t → (l' ++ l.drop k')[t]? = l[t]?) ∧ (∀ t,t < k' → (l' ++ l.drop k')[t]? = l'[t]?) ∧ (l' ++ l.drop k').length = l.length ∧ (l' ++ l.drop k').take k' = l' := by
  refine ⟨fun t ht => ?_,fun t ht => ?_,fun t ht => ?_,by simp; omega,by rw [List.take_append_of_le_length (by omega),List.take_of_length_le (by omega)]⟩
  · rw [List.getElem?_append_left (by omega)]
    have : l[t]? = some (l[t]'(by omega)) := List.getElem?_eq_getElem (by omega)
    rw [this]; exact hagr t _ ht this
  · rw [List.getElem?_append_right (by omega),List.getElem?_drop,hl', show k' + (t - k') = t by omega]
  · rw [List.getElem?_append_left (by omega)]

theorem JH.mu (X : Text P Γ cd nt ops env h0 T) (N : Next ops T L i) (J : JH ops T L w S Own l) (hm : (T i).d.mu = true) (H : HRel w' S' (OwnI ops T L l Own i) l' (T i).d.h) (C : Chg (OwnI ops T L l Own i) S S' (l.take (nn T i)) l' [] w w') :
    JH ops T (addL L i) w' S' Own (l' ++ l.drop (T i).d.h.length) ∧ TokLe l (l' ++ l.drop (T i).d.h.length) ∧ (l' ++ l.drop (T i).d.h.length).take (T i).d.h.length = l' ∧ ∀ t,t < nn T i → (l' ++ l.drop (T i).d.h.length)[t]? = l[t]? := by
  have hi := N.lt
  obtain ⟨hn1,hn2⟩ := X.nn_succ hi
  have hN := X.mono (i := i + 1) hi (Nat.le_refl _)
  rw [hn1] at hN hn2
  obtain ⟨t1,t2,t3,t4,t5⟩ := tok_new (l := l) (l' := l') hn2 H.len (by rw [J.len]; exact hN) (fun t x ht hx => C.agr t x rfl (by rw [List.getElem?_take_of_lt ht]; exact hx))
  generalize hk' : (T i).d.h.length = k' at *
  generalize hl2 : l' ++ l.drop k' = l2 at *
  have hdum : ∀ t,nn T i ≤ t → t < k' → l[t]? = some noTk := fun t h1 h2 => J.dum i t hi N.off h1 (by rw [hk']; exact h2)
  have htl : TokLe l l2 := by
    intro t x hx hne
    rcases Nat.lt_or_ge t (nn T i) with h | h
    · rw [t1 t h]; exact hx
    · rcases Nat.lt_or_ge t k' with h' | h'
      · rw [hdum t h h'] at hx
        simp only [Option.some.injEq] at hx
        exact absurd hx.symm hne
      · rw [t2 t h']; exact hx
  -- what is touched,what is not
  have hun : ∀ t,touch T i t = false → (t < nn T i ∧ isIn t (T i).F = false) ∨ k' ≤ t := by
    intro t h
    rcases Nat.lt_or_ge t k' with h1 | h1
    · left
      have h2 : t < nn T i := by
        rcases Nat.lt_or_ge t (nn T i) with h3 | h3
        · exact h3
        · rw [touch_new h3 (by rw [hk']; exact h1)] at h; cases h
      refine ⟨h2,?_⟩
      cases hF : isIn t (T i).F
      · rfl
      · rw [touch_spec.2 ⟨by rw [hk']; exact h1,.inl ⟨hm,hF⟩⟩] at h; cases h
    · exact .inr h1
  have hsame : ∀ t,touch T i t = false → l2[t]? = l[t]? := by
    intro t h
    rcases hun t h with ⟨h1,_⟩ | h1
    · exact t1 t h1
    · exact t2 t h1
  have hno : ∀ (t b N : Nat),touch T i t = false → l[t]? = some (some b,N) → (cont T L t ops.size).live = true → ¬ OwnI ops T L l Own i b := by
    intro t b N h hx hlv hO
    have := hO.2 t N (fun hF => by
      rcases hun t h with ⟨h1,h2⟩ | h1
      · rw [h2] at hF; cases hF
      · omega) hx
    rw [this] at hlv; cases hlv
  have hcT : ∀ t,touch T i t = true → cont T (addL L i) t ops.size = hget (T i).d.h t ∧ cutN T (addL L i) t ops.size = k' ∧ t < k' := by
    intro t h
    have e := N.after X t
    rw [if_pos h] at e
    exact ⟨by unfold cont; rw [e],by unfold cutN; rw [e]; exact hk', by have := (touch_spec.1 h).1; omega⟩
  have hcU : ∀ t,touch T i t = false → cont T (addL L i) t ops.size = cont T L t ops.size ∧ cutN T (addL L i) t ops.size = cutN T L t ops.size := by
    intro t h
    have e := N.after X t
    rw [if_neg (by simp [h])] at e
    exact ⟨by unfold cont; rw [e],by unfold cutN; rw [e]⟩
  have hget : ∀ t,t < k' → (T i).d.h[t]? = some (hget (T i).d.h t) := fun t h => by simp [Am.hget,hk', h]
  refine ⟨⟨t4.trans J.len,fun j t hj hL h1 h2 => ?_,fun t x hx => ?_,fun u1 u2 b N1 N2 h1 h2 h3 h4 => ?_,H.bd,fun t b N1 hx => ?_,fun b hb => J.own b (Nat.le_trans C.size hb)⟩,htl,t5,t1⟩
  · simp only [addL,Bool.or_eq_false_iff,beq_eq_false_iff_ne] at hL
    have hd := J.dum j t hj hL.2 h1 h2
    rcases Nat.lt_or_gt_of_ne hL.1 with h | h
    · have e1 := (X.nn_succ hj).1
      have e2 := X.mono (i := j + 1) (j := i) h (Nat.le_of_lt hi)
      rw [t1 t (by omega)]; exact hd
    · have e2 := X.mono (i := i + 1) (j := j) h (Nat.le_of_lt hj)
      rw [hn1] at e2
      rw [t2 t (by omega)]; exact hd
  · cases ht : touch T i t
    · obtain ⟨e1,e2⟩ := hcU t ht
      rw [hsame t ht] at hx
      rw [e1,e2]
      refine (J.blk t x hx).go (tokLe_take _ htl) C.pres C.sub (fun b hb hlv => ?_)
      obtain ⟨x1,x2⟩ := x
      simp only at hb; subst hb
      have hO := hno t b x2 ht hx hlv
      exact ⟨C.keep b hO,fun h1 h2 => (C.new b h2).elim h1 hO,fun h => h⟩
    · obtain ⟨e1,e2,e3⟩ := hcT t ht
      rw [t3 t e3] at hx
      rw [e1,e2,t5]
      exact (H.blk t x _ hx (hget t e3)).go (.refl _) (.refl _ _) (fun _ h => h) (fun b _ _ => ⟨rfl,fun h => h,fun h => h.1⟩)
  · have key : ∀ (t N : Nat),touch T i t = true → l2[t]? = some (some b,N) → (cont T (addL L i) t ops.size).live = true → OwnI ops T L l Own i b := by
      intro t N ht hx hlv
      obtain ⟨e1,e2,e3⟩ := hcT t ht
      rw [t3 t e3] at hx
      rw [e1] at hlv
      exact ((H.blk t _ _ hx (hget t e3)).own rfl hlv).1
    cases ht1 : touch T i u1 <;> cases ht2 : touch T i u2
    · rw [hsame _ ht1] at h1
      rw [hsame _ ht2] at h2
      rw [(hcU _ ht1).1] at h3
      rw [(hcU _ ht2).1] at h4
      exact J.inj u1 u2 b N1 N2 h1 h2 h3 h4
    · have hO := key u2 N2 ht2 h2 h4
      rw [hsame _ ht1] at h1
      rw [(hcU _ ht1).1] at h3
      exact absurd hO (hno u1 b N1 ht1 h1 h3)
    · have hO := key u1 N1 ht1 h1 h3
      rw [hsame _ ht2] at h2
      rw [(hcU _ ht2).1] at h4
      exact absurd hO (hno u2 b N2 ht2 h2 h4)
    · obtain ⟨e1,e2,e3⟩ := hcT u1 ht1
      obtain ⟨f1,f2,f3⟩ := hcT u2 ht2
      rw [t3 _ e3] at h1
      rw [t3 _ f3] at h2
      rw [e1] at h3
      rw [f1] at h4
      exact H.inj u1 u2 b N1 N2 _ _ h1 h2 (hget _ e3) (hget _ f3) h3 h4
  · rcases Nat.lt_or_ge t k' with h | h
    · rw [t3 t h] at hx; exact H.lbd t b N1 hx
    · rw [t2 t h] at hx; exact Nat.lt_of_lt_of_le (J.lbd t b N1 hx) C.size
end
end Go.Am
end
section
/- The abstract machine: regions that draw their order: one step; every order. -/
namespace Go.Am
set_option linter.unusedSectionVars false

structure JJ (nt : Nat) (ops : Array Oper) (env : Env) (T : Nat → TS) (Own S0 : Nat → Prop) (l0 : List Tk) (kd : List Nat) (w0 : World) (L : Nat → Bool) (a : Act) (w : World) (S : Nat → Prop) (l : List Tk) : Prop where
  hp : JH ops T L w S Own l
  sl : JS ops env T L w S l a
  chg : Chg Own S0 S l0 l kd w0 w
  size : a.tmps.size = nt
  dfr : a.defers = []

theorem dstep_gk {P : Program} {Γ : Gam} {cd : CallD} {h : List Blk} {g ga gb : Operand → AV} {all : List Oper} {gk : Option (Nat × Bool)} {o : Oper} {d : DR}
    (hd : dstep P Γ cd h g ga gb all gk o = some d) (hm : d.mu = true) : gk = none := by
  unfold dstep at hd
  split at hd
  · simp only [Option.some.injEq] at hd; subst hd; simp at hm
  · split at hd
    · split at hd
      · rename_i f args ats _ _ g0 caps _
        cases hsz : (args.size == ats.size) <;> simp only [hsz,Bool.not_true,Bool.not_false,cond_true,cond_false] at hd
        case false => cases hd
        split at hd
        · rename_i s _
          cases hsc : s.sc <;> simp only [hsc,cond_true,cond_false] at hd
          · split at hd
            · cases hno : noneN ((argsOf P g ⟨.value (.func g0),args,ats⟩ ++ caps).flatMap (reach h 4)) <;> simp only [hno,cond_true,cond_false] at hd
              · cases hd
              simp only [Option.some.injEq] at hd; subst hd; simp at hm
            · rfl
          · simp only [Option.some.injEq] at hd; subst hd; simp at hm
        · split at hd
          · cases hd
          · rfl
      · cases hd
    · split at hd
      · split at hd
        · simp only [Option.some.injEq] at hd; subst hd; simp at hm
        · cases hd
      · rfl

section
variable [Inhabited GlobT] {P : Program} {Γ : Gam} {cd : CallD} {nt : Nat} {ops : Array Oper} {env : Env} {h0 : List Blk} {T : Nat → TS} {L : Nat → Bool} {i : Nat} {w w' w0 : World} {S S' S0 Own : Nat → Prop} {l l' l0 : List Tk} {a : Act} {kd : List Nat}

theorem JJ.gate (X : Text P Γ cd nt ops env h0 T) (N : Next ops T L i) (J : JS ops env T L w S l a) (hk : KH a (guardOf ops (T i).o)) : (T i).gb = true := by
  have hgate := (X.sf i N.lt).gate
  cases hg : guardOf ops (T i).o with
  | none => rw [hg] at hgate; simpa [gateOf] using hgate.symm
  | some sb =>
    obtain ⟨s,want⟩ := sb
    rw [hg] at hgate hk
    obtain ⟨g,hgi,hgd⟩ := X.guard N.lt hg
    have hn := N.lt
    have hLg : L g = true := N.wait X ((X.pair hgi N.lt).2 (.inl (by simp [hgd,dstIn,guard_look hg])))
    have hkg : KH a (guardOf ops (T g).o) := by
      rcases Classical.em (KH a (guardOf ops (T g).o)) with h | h
      · exact h
      · have h5 := J.off g s (by omega) hLg hgd h
        have h6 : a.tmps.getD s undef = .bool want := hk
        rw [h5] at h6
        simp [undef] at h6
    have hv := J.on g s (by omega) hLg hgd hkg
    rcases X.lkey s i (Nat.le_of_lt N.lt) with ⟨m,h1,h2,h3⟩ | ⟨h1,_⟩
    · obtain rfl : m = g := X.uniq (by omega) (by omega) h2 hgd
      simp only [gateOf,h3] at hgate
      cases hl : (T m).d.v <;> simp only [hl] at hgate hv <;> try (cases hgate; done)
      have e1 := rd_bool hv
      have e2 : a.tmps.getD s undef = .bool want := hk
      rw [e2] at e1
      simp only [Value.bool.injEq] at e1
      subst e1
      simp only [Option.some.injEq] at hgate
      rw [← hgate]
      cases want <;> rfl
    · exact absurd hgd (h1 g hgi)

theorem JJ.step (hΓ : GamOk P Γ) (hD : CallDOk P cd) (hG0 : Glob w0 S0) (X : Text P Γ cd nt ops env h0 T) (N : Next ops T L i) (hl0 : l0.length ≤ nn T 0) (J : JJ nt ops env T Own S0 l0 kd w0 L a w S l) {K : Act → World → Prop} {Q : Exit → Act → World → Prop}
    (hK : ∀ a' w' S' l', JJ nt ops env T Own S0 l0 kd w0 (addL L i) a' w' S' l' → K a' w') : wpOp P ops Q i K a w := by
  have sf := X.sf i N.lt
  have hn := N.lt
  unfold wpOp
  rw [sf.op]
  simp only
  have hgo : guardOk ops (T i).o = true := by
    have h := X.one N.lt
    simp only [okOne,sf.op,Bool.and_eq_true] at h
    exact h.1.1.2
  have chgE : ∀ {w1 : World} {S1 : Nat → Prop},Ev w.heap.size (fun _ => False) w w1 → (∀ b,S b → S1 b) → (∀ b,S1 b → S b ∨ w.heap.size ≤ b) → Chg Own S0 S1 l0 l kd w0 w1 := by
    intro w1 S1 hE hS hnew
    have Cs : Chg Own S S1 l l [] w w1 := ⟨hE.os,hE.tape,hE.output,hE.size,fun b hb => by
        rcases Nat.lt_or_ge b w.heap.size with h' | h'
        · exact hE.block b h' (fun h => h)
        · exact absurd (J.hp.own b h') hb,hS,fun b hb => (hnew b hb).imp id (fun h => J.hp.own b h),.ev hE J.hp.bd,Nat.le_refl _,agr_refl _ _⟩
    exact J.chg.trans Cs sub_nil
  by_cases hw : Region.wanted (T i).o (yielded ops a.tmps) = true
  · have hk : KH a (guardOf ops (T i).o) := (wanted_iff hgo).1 hw
    have hgb := JJ.gate X N J.sl hk
    have hcs := sf.cs hgb
    rw [if_pos hw]
    left
    have hlen : nn T i ≤ l.length := by rw [J.hp.len]; exact X.mono (Nat.le_of_lt N.lt) (Nat.le_refl _)
    have hks := J.sl.keys X N 8 i (.inl rfl) hk
    have H := J.hp.pre X N
    have hG := hG0.chg J.chg
    have hg : ∀ x,Rd w S (some (l.take (nn T i))) (a.eval x) ((T i).g env ops x) := J.sl.opnd hG X N hks hlen
    cases hmu : (T i).d.mu
    · obtain ⟨e1,e2⟩ := dstep_quiet hΓ H hG hg (by
        intro c x y hop
        refine ⟨fun hct => J.sl.opnd hG X N ?_ hlen x,fun hct => J.sl.opnd hG X N ?_ hlen y⟩
        · unfold thenOf
          rw [hop]
          cases c <;> first
            | exact hks
            | (intro k hk; rcases List.mem_cons.1 hk with rfl | hk
               · exact hct
               · exact hks k hk)
        · unfold thenOf
          rw [hop]
          cases c <;> first
            | exact hks
            | (intro k hk; rcases List.mem_cons.1 hk with rfl | hk
               · exact hct
               · exact hks k hk)) sf.step hmu hcs
      refine e2 K Q (fun u w' S' hE hS hnew hbd hu => hK _ w' S' l ⟨J.hp.quiet X N hmu hE hS hnew hbd,J.sl.step X N J.size (.ev hE J.hp.bd) hS (.refl _) (fun _ => ?_) (fun h => absurd hk h),chgE hE hS hnew,by rw [put_size]; exact J.size,by rw [put_defers]; exact J.dfr⟩)
      have : (T i).d.h.length = nn T i := by rw [e1,restr_len]; rfl
      rw [this]; exact hu
    · obtain ⟨_,e2⟩ := dstep_mu hΓ hD H hG hg sf.step hmu hcs
      refine e2 K Q (fun u w' S' l' H' hu C => ?_)
      obtain ⟨j1,j2,j3,j4⟩ := J.hp.mu X N hmu H' C
      refine hK _ w' S' _ ⟨j1,J.sl.step X N J.size C.pres C.sub j2 (fun _ => by rw [j3]; exact hu) (fun h => absurd hk h),?_,by rw [put_size]; exact J.size,by rw [put_defers]; exact J.dfr⟩
      refine ⟨C.os.trans J.chg.os,C.tape.trans J.chg.tape,C.output.trans J.chg.output,Nat.le_trans J.chg.size C.size,fun b hb => (C.keep b (fun h => hb h.1)).trans (J.chg.keep b hb),fun b hb => C.sub b (J.chg.sub b hb),
        fun b hb => (C.new b hb).elim (J.chg.new b) (fun h => .inr h.1),J.chg.pres.trans (C.pres.mono J.chg.sub),by rw [j1.len,← J.hp.len]; exact J.chg.len,fun t x hp hx => ?_⟩
      have := J.chg.agr t x hp hx
      have ht : t < l0.length := (List.getElem?_eq_some_iff.1 hx).1
      have h0i := X.mono (Nat.zero_le i) (Nat.le_of_lt hn)
      rw [j4 t (by omega)]; exact this
  · have hnk : ¬ KH a (guardOf ops (T i).o) := fun hk => hw ((wanted_iff hgo).2 hk)
    rw [if_neg hw]
    have hmu : (T i).d.mu = false := by
      cases h : (T i).d.mu
      · rfl
      · rw [dstep_gk sf.step h] at hnk; exact absurd trivial hnk
    exact hK _ w S l ⟨J.hp.quiet X N hmu (.refl _ _ _) (fun _ h => h) (fun _ h => .inl h) J.hp.bd,J.sl.step X N J.size (.refl _ _) (fun _ h => h) (.refl _) (fun h => absurd h hnk) (fun _ => rfl),J.chg,by rw [put_size]; exact J.size,by rw [put_defers]; exact J.dfr⟩
end
end Go.Am
end
section
/- The abstract machine: regions that draw their order: every order. -/
namespace Go.Am
set_option linter.unusedSectionVars false

/-- How many are not done yet. -/
def cnt (L : Nat → Bool) : Nat → Nat
  | 0 => 0
  | k + 1 => cnt L k + (if L k = true then 0 else 1)

theorem cnt_zero {L : Nat → Bool} : ∀ {n : Nat},cnt L n = 0 → ∀ j,j < n → L j = true
  | 0,_,j,hj => by omega
  | n + 1,h,j,hj => by
    simp only [cnt] at h
    have h1 : cnt L n = 0 := by omega
    by_cases e : j = n
    · subst e
      cases hL : L j
      · rw [hL] at h; simp at h
      · rfl
    · exact cnt_zero h1 j (by omega)

theorem cnt_add {L : Nat → Bool} {i : Nat} (hi : L i = false) : ∀ {n : Nat},cnt (addL L i) n + (if i < n then 1 else 0) = cnt L n
  | 0 => by simp [cnt]
  | n + 1 => by
    have ih := cnt_add hi (n := n)
    simp only [cnt]
    by_cases e : n = i
    · subst e
      simp only [addL,beq_self_eq_true,Bool.true_or,if_true,hi] at *
      simp at ih ⊢
      omega
    · have hb : addL L i n = L n := by
        have : (n == i) = false := by simpa using e
        simp [addL,this]
      rw [hb]
      by_cases h : i < n
      · have h' : i < n + 1 := by omega
        simp only [h,h', if_true] at ih ⊢
        omega
      · have h' : ¬ i < n + 1 := by omega
        simp only [h,h', if_false] at ih ⊢
        omega

theorem cnt_all {L : Nat → Bool} : ∀ {n : Nat},cnt L n ≤ n
  | 0 => Nat.le_refl _
  | n + 1 => by
    have := cnt_all (L := L) (n := n)
    simp only [cnt]; split <;> omega

def Lof (listed : Array Bool) : Nat → Bool := fun j => listed.getD j false

section
variable [Inhabited GlobT] {P : Program} {Γ : Gam} {cd : CallD} {nt : Nat} {ops : Array Oper} {env : Env} {h0 : List Blk} {T : Nat → TS} {L : Nat → Bool} {i : Nat} {w w' w0 : World} {S S' S0 Own : Nat → Prop} {l l' l0 : List Tk} {a : Act} {kd : List Nat}

theorem Lof_set {listed : Array Bool} (hi : i < listed.size) : Lof (listed.setIfInBounds i true) = addL (Lof listed) i := by
  funext j
  simp only [Lof,addL,Array.getD_eq_getD_getElem?]
  by_cases e : j = i
  · subst e; simp [hi]
  · rw [Array.getElem?_setIfInBounds_ne (fun h => e h.symm)]
    have : (j == i) = false := by simpa using e
    simp [this]

theorem getD_tf {listed : Array Bool} {j : Nat} (hj : j < listed.size) : listed.getD j true = Lof listed j := by
  simp [Lof,hj]

/-- If none may be done next, all are done. -/
theorem all_done (X : Text P Γ cd nt ops env h0 T) {listed : Array Bool} (hs : listed.size = ops.size) (h : Region.ready .any ops listed = []) : ∀ j,j < ops.size → Lof listed j = true := by
  intro j
  induction j using Nat.strongRecOn with
  | _ j ih =>
    intro hj
    cases hL : Lof listed j
    · have hop := (X.sf j hj).op
      have : j ∈ Region.ready .any ops listed := by
        rw [mem_ready]
        refine ⟨by rw [getD_tf (by omega)]; exact hL,_,hop,fun e he hb => ?_⟩
        have hlt := okD_back X.okd hop e he hb
        exact ih e.on hlt (by omega)
      rw [h] at this; simp at this
    · rfl

theorem any_ok (hΓ : GamOk P Γ) (hD : CallDOk P cd) (hG0 : Glob w0 S0) (X : Text P Γ cd nt ops env h0 T) (hl0 : l0.length ≤ nn T 0) {Q : Exit → Act → World → Prop}
    (hQ : ∀ a w S l L,(∀ j,j < ops.size → L j = true) → JJ nt ops env T Own S0 l0 kd w0 L a w S l → Q .normal a w) : ∀ (fuel : Nat) (listed : Array Bool) (a : Act) (w : World) (S : Nat → Prop) (l : List Tk),listed.size = ops.size → Closed ops (Lof listed) →
      cnt (Lof listed) ops.size ≤ fuel → JJ nt ops env T Own S0 l0 kd w0 (Lof listed) a w S l → wpAny P .any ops Q fuel listed a w := by
  intro fuel
  induction fuel with
  | zero =>
    intro listed a w S l hs hc hn J
    have hall := cnt_zero (Nat.le_zero.1 hn)
    refine ⟨?_,hQ a w S l _ hall J⟩
    cases hr : Region.ready .any ops listed with
    | nil => rfl
    | cons i r =>
      have hi : i ∈ Region.ready .any ops listed := by rw [hr]; exact List.mem_cons_self ..
      rw [mem_ready] at hi
      obtain ⟨h1,o,ho,_⟩ := hi
      have hlt : i < ops.size := (Array.getElem?_eq_some_iff.1 ho).1
      rw [getD_tf (by omega),hall i hlt] at h1
      cases h1
  | succ fuel ih =>
    intro listed a w S l hs hc hn J
    refine ⟨fun hr => hQ a w S l _ (all_done X hs hr) J,fun i hi => ?_⟩
    rw [mem_ready] at hi
    obtain ⟨h1,o,ho,hpre⟩ := hi
    have hlt : i < ops.size := (Array.getElem?_eq_some_iff.1 ho).1
    rw [getD_tf (by omega)] at h1
    have hoo : o = (T i).o := by
      have := (X.sf i hlt).op
      rw [ho] at this
      exact Option.some.inj this
    have N : Next ops T (Lof listed) i := ⟨hlt,h1,by rw [← hoo]; exact hpre,hc⟩
    refine JJ.step hΓ hD hG0 X N hl0 J (fun a' w' S' l' J' => ih _ a' w' S' l' (by simp [hs]) ?_ ?_ (by rw [Lof_set (by omega)]; exact J'))
    · rw [Lof_set (by omega)]
      intro j o' ho' hL e he hb
      by_cases e1 : j = i
      · subst e1
        rw [ho] at ho'
        obtain rfl := Option.some.inj ho'
        have := hpre e he hb
        simp only [addL,Bool.or_eq_true]
        exact .inr this
      · have h2 : (j == i) = false := by simpa using e1
        simp only [addL,h2,Bool.false_or] at hL
        have := hc j o' ho' hL e he hb
        simp only [addL,Bool.or_eq_true]
        exact .inr this
    · rw [Lof_set (by omega)]
      have := cnt_add h1 (n := ops.size)
      rw [if_pos hlt] at this
      omega

theorem JJ.init (X : Text P Γ cd nt ops env h0 T) (H : HRel w S Own l h0) (E : ERel w S l env a) (C : Chg Own S0 S l0 l kd w0 w) (hn : a.tmps.size = nt) (hd : a.defers = []) (hL : ∀ j,L j = false) :
    JJ nt ops env T Own S0 l0 kd w0 L a w S (l ++ List.replicate (nn T ops.size - nn T 0) noTk) := by
  have hN := X.mono (Nat.zero_le ops.size) (Nat.le_refl _)
  have h00 : nn T 0 = l.length := by unfold nn; rw [X.h0,H.len]
  have hlast : ∀ t n,lastT T L t n = none := by
    intro t n
    induction n with
    | zero => rfl
    | succ n ih => simp [lastT,hL,ih]
  have hc : ∀ t,cont T L t ops.size = hget h0 t := fun t => by unfold cont; rw [hlast,X.h0]
  have hk : ∀ t,cutN T L t ops.size = l.length := fun t => by unfold cutN; rw [hlast]; exact h00
  have hrep : ∀ (t : Nat) x,(List.replicate (nn T ops.size - nn T 0) noTk)[t]? = some x → x = noTk := by
    intro t x hx
    exact (List.mem_replicate.1 (List.mem_of_getElem? hx)).2
  have htk : ∀ (t : Nat) x,(l ++ List.replicate (nn T ops.size - nn T 0) noTk)[t]? = some x → x ≠ noTk ∨ t < l.length → t < l.length ∧ l[t]? = some x := by
    intro t x hx h
    rcases Nat.lt_or_ge t l.length with h1 | h1
    · rw [List.getElem?_append_left h1] at hx; exact ⟨h1,hx⟩
    · rw [List.getElem?_append_right h1] at hx
      rcases h with h | h
      · exact absurd (hrep _ _ hx) h
      · omega
  have htake : (l ++ List.replicate (nn T ops.size - nn T 0) noTk).take l.length = l := by simp
  refine ⟨⟨by simp; omega,fun i t hi _ h1 h2 => ?_,fun t x hx => ?_,fun t t' b N1 N2 h1 h2 h3 h4 => ?_,H.bd,fun t b N1 hx => H.lbd t b N1 (htk t _ hx (.inl (by simp [noTk]))).2,H.own⟩,
    ⟨fun m d _ hLm => (by rw [hL] at hLm; cases hLm),fun m d _ hLm => (by rw [hL] at hLm; cases hLm),fun s _ => (by rw [h00]; simpa using E s)⟩,?_,hn,hd⟩
  · have e1 := X.mono (Nat.zero_le i) (Nat.le_of_lt hi)
    have e2 := X.mono (i := i + 1) hi (Nat.le_refl _)
    rw [(X.nn_succ hi).1] at e2
    rw [List.getElem?_append_right (by omega),List.getElem?_replicate,if_pos (by omega)]
  · rw [hc,hk,htake]
    cases hlv : (hget h0 t).live with
    | false => cases hh : hget h0 t <;> simp [hh,Blk.live] at hlv; trivial
    | true =>
      have ht := hget_some (h := h0) (t := t) rfl hlv
      have hlt : t < l.length := by rw [H.len]; exact (List.getElem?_eq_some_iff.1 ht).1
      exact H.blk t x _ (htk t x hx (.inr hlt)).2 ht
  · rw [hc] at h3 h4
    exact H.inj t t' b N1 N2 _ _ (htk t _ h1 (.inl (by simp [noTk]))).2 (htk t' _ h2 (.inl (by simp [noTk]))).2 (hget_some rfl h3) (hget_some rfl h4) h3 h4
  · exact ⟨C.os,C.tape,C.output,C.size,C.keep,C.sub,C.new,C.pres,by have := C.len; simp; omega,fun t x hp hx => get_of_mle ⟨_,rfl⟩ (C.agr t x hp hx)⟩

theorem JJ.fin (X : Text P Γ cd nt ops env h0 T) (J : JJ nt ops env T Own S0 l0 kd w0 L a w S l) (hL : ∀ j,j < ops.size → L j = true) : HRel w S Own l (T ops.size).h ∧ LRel w S l env (T ops.size).loc a := by
  have hlast : ∀ t,lastT T L t ops.size = lastT T (fun _ => true) t ops.size := fun t => lastT_congr fun k hk _ => hL k hk
  have hc : ∀ t,cont T L t ops.size = cont T (fun _ => true) t ops.size := fun t => by unfold cont; rw [hlast]
  have hg : ∀ (t : Nat) k,(T ops.size).h[t]? = some k → k = cont T L t ops.size := by
    intro t k hk
    have ht : t < nn T ops.size := (List.getElem?_eq_some_iff.1 hk).1
    have := X.get ops.size (Nat.le_refl _) t ht
    rw [hk] at this
    rw [hc]; exact Option.some.inj this
  refine ⟨⟨J.hp.len,fun t x k hx hk => ?_,fun t t' b N1 N2 k k' h1 h2 h3 h4 h5 h6 => ?_,J.hp.bd,J.hp.lbd,J.hp.own⟩,⟨fun d hk => ?_,fun d k hk hnk => ?_⟩⟩
  · rw [hg t k hk]
    exact (J.hp.blk t x hx).go (tokLe_of_mle ⟨l.drop _,(List.take_append_drop _ _).symm⟩) (.refl _ _) (fun _ h => h) (fun b _ _ => ⟨rfl,fun h => h,fun h => h⟩)
  · rw [hg t k h3] at h5
    rw [hg t' k' h4] at h6
    exact J.hp.inj t t' b N1 N2 h1 h2 h5 h6
  · rcases X.lkey d ops.size (Nat.le_refl _) with ⟨m,h1,h2,h3⟩ | ⟨h1,h2⟩
    · rw [h3] at hk ⊢
      exact (J.sl.on m d h1 (hL m h1) h2 hk).tk (tokLe_of_mle ⟨l.drop _,(List.take_append_drop _ _).symm⟩)
    · rw [h2]
      exact (J.sl.env d (fun m hm _ => h1 m hm)).tk (tokLe_of_mle ⟨l.drop _,(List.take_append_drop _ _).symm⟩)
  · rcases X.lkey d ops.size (Nat.le_refl _) with ⟨m,h1,h2,h3⟩ | ⟨h1,h2⟩
    · rw [h3] at hk
      simp only at hk
      exact J.sl.off m d h1 (hL m h1) h2 (by rw [hk]; exact hnk)
    · rw [h2] at hk; cases hk

/-- A region that draws its order. -/
theorem drawn_ok {R : Type} {id : Nat} {K : Loc → List Blk → Option R} {r : R} {h : List Blk} (hΓ : GamOk P Γ) (hD : CallDOk P cd) (hG0 : Glob w0 S0) (hm : P.follows .mixedOrders = true) (ho : okD ops = true)
    (hx : dops P Γ cd nt ops env K ops.toList 0 [] [] h = some r) (H : HRel w S Own l h) (E : ERel w S l env a) (C : Chg Own S0 S l0 l kd w0 w) (hn : a.tmps.size = nt) (hd : a.defers = []) {Q : Exit → Act → World → Prop}
    (hQ : ∀ a w S l loc h,K loc h = some r → HRel w S Own l h → LRel w S l env loc a → Chg Own S0 S l0 l kd w0 w → a.tmps.size = nt → a.defers = [] → Q .normal a w) : (Code.region id ops true).wp P Q a w := by
  obtain ⟨T,h1,h2,h3,h4⟩ := dops_tr ops.toList 0 [] [] h (fun j => by simp) hx
  simp only [Nat.zero_add,Array.length_toList] at h3 h4
  have X : Text P Γ cd nt ops env h T := ⟨ho,h1,h2,fun j hj => (h4 j (Nat.zero_le _) hj).1,fun j k hj hk => (h4 j (Nat.zero_le _) hj).2.2 k (Nat.zero_le _) hk⟩
  have hl0 : l0.length ≤ nn T 0 := by
    have := C.len
    unfold nn; rw [h2,← H.len]; exact this
  let w1 : World := { w with drawn := w.drawn + 1 }
  have Cs : Chg Own S S l l [] w w1 := .same rfl rfl rfl rfl
  have hL0 : ∀ j,Lof (Array.replicate ops.size false) j = false := by
    intro j
    simp only [Lof,Array.getD_eq_getD_getElem?]
    rcases Nat.lt_or_ge j ops.size with h | h
    · simp [h]
    · simp [h]
  refine wp_region_any hm (any_ok hΓ hD hG0 X hl0 (fun a w S l L hL J => ?_) ops.size _ a w1 S _ (by simp) (fun j o _ hL => by rw [hL0] at hL; cases hL) cnt_all
    (JJ.init X (H.same (w' := w1) rfl) (fun s => (E s).heap rfl) (C.trans Cs sub_nil) hn hd hL0))
  obtain ⟨f1,f2⟩ := J.fin X hL
  exact hQ a w S l _ _ h3 f1 f2 J.chg J.size J.dfr
end
end Go.Am
end
section
/- The abstract machine: code. -/
namespace Go.Am

section
variable {P : Program} {Γ : Gam} {w w' : World} {S S' Own : Nat → Prop} {l l' : List Tk} {h : List Blk} {env : Env} {loc : Loc} {a : Act}

def StOk (Own S0 : Nat → Prop) (l0 : List Tk) (w0 : World) (nt : Nat) (st : St) (a : Act) (w : World) : Prop :=
  ∃ S l,HRel w S Own l st.h ∧ ERel w S l st.env a ∧ Chg Own S0 S l0 l st.kd w0 w ∧ a.tmps.size = nt ∧ a.defers = []

def EMatch : Exit → Ex → Prop
  | .normal,.normal => True
  | .exit i,.exit j => i = j
  | .ret,.ret => True
  | _,_ => False

def QX {R : Type} (Own S0 : Nat → Prop) (l0 : List Tk) (w0 : World) (nt : Nat) (K : Ex → St → Option R) (r : R) (e : Exit) (a : Act) (w : World) : Prop :=
  ∃ e' st,EMatch e e' ∧ K e' st = some r ∧ StOk Own S0 l0 w0 nt st a w

/-! ### a loop's head -/
theorem agr_take (l : List Tk) (k : Nat) : Agr (fun t => Nat.ble k t) l (l.take k) := by
  intro t x hp hx
  have : t < k := by
    have e : ¬ k ≤ t := fun h => by
      have h' : Nat.ble k t = true := by simpa using h
      simp [h'] at hp
    omega
  rw [List.getElem?_take_of_lt this]; exact hx

theorem rd_cut {v : Value} {x : AV} (k : Nat) (h : Rd w S (some l) v x) : Rd w S (some (l.take k)) v (killP (fun t => Nat.ble k t) x) :=
  h.killP fun l' e => ⟨_,rfl,by simp only [Option.some.injEq] at e; subst e; exact agr_take _ _⟩

theorem HRel.cut (H : HRel w S Own l h) (k : Nat) : HRel w S Own (l.take k) ((h.take k).map (cutB k)) := by
  have hl : ∀ (t : Nat) (x : Tk),(l.take k)[t]? = some x → l[t]? = some x := by
    intro t x hx
    rw [List.getElem?_take] at hx
    split at hx
    · exact hx
    · cases hx
  have hh : ∀ (t : Nat) (b : Blk),((h.take k).map (cutB k))[t]? = some b → ∃ b', h[t]? = some b' ∧ b = cutB k b' := by
    intro t b hb
    rw [List.getElem?_map,Option.map_eq_some_iff] at hb
    obtain ⟨b', h1,h2⟩ := hb
    rw [List.getElem?_take] at h1
    split at h1
    · exact ⟨b', h1,h2.symm⟩
    · cases h1
  have hlive : ∀ b,(cutB k b).live = b.live := fun b => by cases b <;> rfl
  refine ⟨by simp [H.len],fun t x b hx hb => ?_,fun t t' b N N' x x' h1 h2 h3 h4 h5 h6 => ?_,H.bd,fun t b N hm => H.lbd t b N (hl _ _ hm),H.own⟩
  · obtain ⟨b', hb', rfl⟩ := hh _ _ hb
    have := H.blk t x b' (hl _ _ hx) hb'
    cases b' with
    | gone => trivial
    | fx sz z els => exact this
    | fl sz z els => exact this
    | it s pos => exact this
    | mp es => exact this
    | box cs =>
      obtain ⟨b,c,e,h1,h2,h3,h4,h5,h6⟩ := this
      refine ⟨b,c,e,by rw [h1,killPL_eq]; simp,h2,by rw [h3,killPL_eq]; simp,fun j u x hu hx => ?_,h5,h6⟩
      rw [killPL_eq,List.getElem?_map,Option.map_eq_some_iff] at hx
      obtain ⟨y,hy,rfl⟩ := hx
      exact rd_cut k (h4 j u y hu hy)
  · obtain ⟨b1,hb1,rfl⟩ := hh _ _ h3
    obtain ⟨b2,hb2,rfl⟩ := hh _ _ h4
    exact H.inj t t' b N N' b1 b2 (hl _ _ h1) (hl _ _ h2) hb1 hb2 (by rwa [hlive] at h5) (by rwa [hlive] at h6)

theorem eget_map (f : AV → AV) (hf : f .dead = .dead) (e : Env) (s : Nat) : eget (e.map fun p => (p.1,f p.2)) s = f (eget e s) := by
  induction e with
  | nil => exact hf.symm
  | cons p e ih =>
    obtain ⟨i,v⟩ := p
    simp only [List.map_cons,eget]
    cases hi : i == s <;> simp only [cond_true,cond_false]
    exact ih

theorem isIn_filter {t : Nat} (p : Nat → Bool) (hp : p t = true) : ∀ (ks : List Nat),isIn t (ks.filter p) = false → isIn t ks = false
  | [],_ => rfl
  | k :: ks,h => by
    simp only [isIn]
    cases hk : k == t <;> simp only [cond_true,cond_false]
    · refine isIn_filter p hp ks ?_
      cases hpk : p k
      · rwa [List.filter_cons_of_neg (by simp [hpk])] at h
      · rw [List.filter_cons_of_pos hpk] at h
        simp only [isIn,hk,cond_false] at h
        exact h
    · obtain rfl : k = t := by simpa using hk
      rw [List.filter_cons_of_pos hp] at h
      simp [isIn] at h

theorem StOk.cut {S0 : Nat → Prop} {l0 : List Tk} {w0 : World} {nt : Nat} {st : St} (k : Nat) (hk : l0.length ≤ k) (h : StOk Own S0 l0 w0 nt st a w) : StOk Own S0 l0 w0 nt (cutS k st) a w := by
  obtain ⟨S,l,H,E,C,hn,hd⟩ := h
  refine ⟨S,l.take k,H.cut k,fun s => ?_,?_,hn,hd⟩
  · show Rd _ _ _ _ (eget (st.env.map _) s)
    rw [eget_map (Am.killP _) rfl]
    exact rd_cut k (E s)
  · refine ⟨C.os,C.tape,C.output,C.size,C.keep,C.sub,C.new,C.pres,by have := C.len; simp; omega,fun t x hp hx => ?_⟩
    have ht : t < l0.length := by
      rcases Nat.lt_or_ge t l0.length with h' | h'
      · exact h'
      · rw [List.getElem?_eq_none h'] at hx; cases hx
    rw [List.getElem?_take_of_lt (by omega)]
    exact C.agr t x (isIn_filter (fun t => Nat.blt t k) (by simp; omega) _ hp) hx

theorem eget_skip {i s : Nat} {v : AV} {r : Env} (hne : i ≠ s) : ∀ x : Env,eget (x ++ (i,v) :: r) s = eget (x ++ r) s
  | [] => by
    have : (i == s) = false := by simpa using hne
    simp [eget,this]
  | (j,u) :: x => by simp only [List.cons_append,eget,eget_skip hne x]

theorem eget_repl {i s : Nat} {v u : AV} {r : Env} : ∀ x : Env,(i = s ∧ eget (x ++ (i,v) :: r) s = v ∧ eget (x ++ (i,u) :: r) s = u) ∨ eget (x ++ (i,v) :: r) s = eget (x ++ (i,u) :: r) s
  | [] => by
    cases hi : i == s
    · right; simp [eget,hi]
    · left; refine ⟨by simpa using hi,?_,?_⟩ <;> simp [eget,hi]
  | (j,t) :: x => by
    simp only [List.cons_append,eget]
    cases hj : j == s <;> simp only [cond_true,cond_false]
    · exact eget_repl x
    · right; trivial

theorem eget_none {m : Nat} {s : Nat} (hs : Nat.testBit m s = false) : ∀ x : Env,(∀ e ∈ x,Nat.testBit m e.1 = true) → eget x s = .dead
  | [],_ => rfl
  | (i,v) :: x,h => by
    have h1 := h (i,v) (List.mem_cons_self ..)
    have : (i == s) = false := by
      simp only [beq_eq_false_iff_ne]
      rintro rfl
      simp only at h1
      rw [hs] at h1; cases h1
    simp only [eget,this,cond_false]
    exact eget_none hs x (fun e he => h e (List.mem_cons_of_mem _ he))

theorem roNil_rd {m m' : Option (List Tk)} {u : Value} {sz : Nat} {z : List AV} (h : Rd w S m u (.nils sz z)) : Rd w S m' u (roNil sz z) := by
  rw [rd_nils h]
  exact .ro _ _ 0 0 _ none 0 (fun _ _ => undef) (Nat.le_refl _) (Nat.le_refl _) (by simp) (by simp) (by simp)

theorem nilC_ok : ∀ (cs : List AV) (h : List Blk) (l : List Tk),HRel w S Own l h → ∃ y,HRel w S Own (l ++ y) (nilC cs h).2 ∧ (nilC cs h).1.length = cs.length ∧
    ∀ (j : Nat) a', (nilC cs h).1[j]? = some a' → ∃ a,cs[j]? = some a ∧ ∀ u,Rd w S (some l) u a → Rd w S (some (l ++ y)) u a'
  | [],h,l,H => ⟨[],by simpa [nilC] using H,rfl,by simp [nilC]⟩
  | v :: r,h,l,H => by
    have keep : ∃ y,HRel w S Own (l ++ y) (nilC r h).2 ∧ (v :: (nilC r h).1).length = (v :: r).length ∧
        ∀ (j : Nat) a', (v :: (nilC r h).1)[j]? = some a' → ∃ a,(v :: r)[j]? = some a ∧ ∀ u,Rd w S (some l) u a → Rd w S (some (l ++ y)) u a' := by
      obtain ⟨y,h1,h2,h3⟩ := nilC_ok r h l H
      refine ⟨y,h1,by simp [h2],fun j a' hj => ?_⟩
      cases j with
      | zero =>
        simp only [List.getElem?_cons_zero,Option.some.injEq] at hj
        subst hj
        exact ⟨v,rfl,fun u hu => hu.pres (.refl _ _) (fun _ h => h) ⟨_,rfl⟩⟩
      | succ j => exact h3 j a' (by simpa using hj)
    cases v <;> try exact keep
    rename_i sz z
    cases hwn : wordNil z
    case true =>
      obtain ⟨y,h1,h2,h3⟩ := nilC_ok r h l H
      refine ⟨y,by simpa [nilC,hwn] using h1,by simp [nilC,hwn,h2],fun j a' hj => ?_⟩
      simp only [nilC,hwn,cond_true] at hj
      cases j with
      | zero =>
        simp only [List.getElem?_cons_zero,Option.some.injEq] at hj
        subst hj
        exact ⟨.nils sz z,rfl,fun u hu => roNil_rd hu⟩
      | succ j => exact h3 j a' (by simpa using hj)
    obtain ⟨y,h1,h2,h3⟩ := nilC_ok r (h ++ [.fl sz z []]) (l ++ [(none,0)]) (H.pushNil sz z)
    refine ⟨[(none,0)] ++ y,by rw [← List.append_assoc]; simpa [nilC,hwn] using h1,by simp [nilC,hwn,h2],fun j a' hj => ?_⟩
    cases j with
    | zero =>
      simp only [nilC,hwn,cond_false,List.getElem?_cons_zero,Option.some.injEq] at hj
      subst hj
      refine ⟨.nils sz z,rfl,fun u hu => ?_⟩
      rw [rd_nils hu]
      exact .lst0 _ _ _ (by rw [← H.len]; simp)
    | succ j =>
      obtain ⟨a,ha,hr⟩ := h3 j a' (by simpa [nilC,hwn] using hj)
      refine ⟨a,by simpa using ha,fun u hu => ?_⟩
      have := hr u (hu.pres (.refl _ _) (fun _ h => h) ⟨_,rfl⟩)
      rwa [List.append_assoc] at this

theorem cv1_ok {v v' : AV} {h' : List Blk} {c : Bool} (H : HRel w S Own l h) (e : cv1 v h = some (v', h', c)) (hc : c = true) {u : Value} (hv : Rd w S (some l) u v) : ∃ x,HRel w S Own (l ++ [x]) h' ∧ Rd w S (some (l ++ [x])) u v' := by
  unfold cv1 at e
  cases v <;> simp only at e <;> try (cases e; done)
  rename_i t off sz n cap
  cases hk : hget h t <;> simp only [hk] at e <;> try (cases e; done)
  rename_i sz' z els
  cases hs : sz == sz' <;> simp only [hs,cond_true,cond_false] at e
  case false => cases e
  obtain rfl : sz = sz' := by simpa using hs
  simp only [Option.some.injEq,Prod.mk.injEq] at e
  obtain ⟨rfl,rfl,rfl⟩ := e
  have h0 : off = 0 := of_decide_eq_true hc
  subst h0
  have hk' : h[t]? = some (.fx sz z els) := hget_some hk rfl
  obtain ⟨b,N,rfl,hm,hn,hN⟩ := rd_own hv
  obtain ⟨b', cc,ty,hx,g1,g2,g3,g4,g5⟩ := H.blk t _ _ hm hk'
  simp only [Prod.mk.injEq,Option.some.injEq] at hx
  obtain ⟨rfl,rfl⟩ := hx
  have hlen := H.len
  have hlt : t < l.length := (List.getElem?_eq_some_iff.1 hm).1
  refine ⟨(some b,n),?_,?_⟩
  · refine ⟨by simp [hset,hlen],fun t' x k' hx hk2 => ?_,?_,H.bd,fun t' b2 N' hm2 => ?_,H.own⟩
    · rcases append_get hx with hx | ⟨rfl,rfl⟩
      · have hlt' : t' < l.length := (List.getElem?_eq_some_iff.1 hx).1
        rw [List.getElem?_append_left (by simp [hset]; omega)] at hk2
        rcases hset_get hk2 with ⟨rfl,rfl⟩ | ⟨_,hk2⟩
        · trivial
        · exact (H.blk t' x k' hx hk2).move (.refl _ _) (fun _ h => h) ⟨_,rfl⟩ (fun _ _ => rfl) (fun _ _ h => h)
      · rw [hlen,List.getElem?_append_right (by simp [hset])] at hk2
        simp [hset] at hk2
        rw [← hk2]
        refine .inr ⟨b,cc,ty,by rw [List.length_take,Nat.min_eq_left (by omega)],g1,?_,fun i el hi => ?_,g4,g5⟩
        · rw [List.length_take,g2]
          exact Nat.mul_le_mul_right _ (Nat.min_le_right _ _)
        · refine g3 i el ?_
          rw [List.getElem?_take] at hi
          split at hi
          · exact hi
          · cases hi
    · intro t1 t2 b2 N1 N2 k1 k2 hm1 hm2 hk1 hk2 l1 l2
      have inner : ∀ {t' : Nat} {k' : Blk},t' < l.length → (hset h t .gone ++ [Blk.fl sz z (els.take n)])[t']? = some k' → k'.live = true → t' ≠ t ∧ h[t']? = some k' := by
        intro t' k' h1 h2 h3
        rw [List.getElem?_append_left (by simp [hset]; omega)] at h2
        rcases hset_get h2 with ⟨rfl,rfl⟩ | h2
        · cases h3
        · exact h2
      rcases append_get hm1 with q1 | ⟨rfl,e⟩ <;> rcases append_get hm2 with q2 | ⟨rfl,e'⟩
      · obtain ⟨_,i1⟩ := inner (List.getElem?_eq_some_iff.1 q1).1 hk1 l1
        obtain ⟨_,i2⟩ := inner (List.getElem?_eq_some_iff.1 q2).1 hk2 l2
        exact H.inj t1 t2 b2 N1 N2 k1 k2 q1 q2 i1 i2 l1 l2
      · simp only [Prod.mk.injEq,Option.some.injEq] at e'
        obtain ⟨rfl,rfl⟩ := e'
        obtain ⟨j1,i1⟩ := inner (List.getElem?_eq_some_iff.1 q1).1 hk1 l1
        exact absurd (H.inj t1 t b2 N1 _ k1 _ q1 hm i1 hk' l1 rfl) j1
      · simp only [Prod.mk.injEq,Option.some.injEq] at e
        obtain ⟨rfl,rfl⟩ := e
        obtain ⟨j1,i1⟩ := inner (List.getElem?_eq_some_iff.1 q2).1 hk2 l2
        exact absurd (H.inj t2 t b2 N2 _ k2 _ q2 hm i1 hk' l2 rfl) j1
      · rfl
    · rcases append_get hm2 with hm2 | ⟨rfl,e⟩
      · exact H.lbd t' b2 N' hm2
      · simp only [Prod.mk.injEq,Option.some.injEq] at e
        obtain ⟨rfl,rfl⟩ := e
        exact H.lbd t b2 _ hm
  · rw [Nat.zero_mul]
    refine .lst _ _ _ b n cap (by rw [← hlen]; simp) hn ⟨cc,ty,(0,0),g1,?_⟩
    rw [g2]
    exact Nat.mul_le_mul_right _ (by omega)

theorem eget_new {i : Nat} {v : AV} {r : Env} : ∀ x : Env,(x.any fun e => e.1 == i) = false → eget (x ++ (i,v) :: r) i = v
  | [],_ => by simp [eget]
  | (j,t) :: x,h => by
    simp only [List.any_cons,Bool.or_eq_false_iff] at h
    simp only [List.cons_append,eget,h.1,cond_false]
    exact eget_new x h.2

theorem cvE_ok {mk : Nat} : ∀ (rest acc : Env) (h : List Blk) (l : List Tk),HRel w S Own l h → (∀ s,Rd w S (some l) (a.tmps.getD s undef) (eget (acc.reverse ++ rest) s)) → (∀ c ∈ (cvE mk rest h acc).2.2,c = true) →
    ∃ y,HRel w S Own (l ++ y) (cvE mk rest h acc).2.1 ∧ ERel w S (l ++ y) (cvE mk rest h acc).1 a := by
  intro rest
  induction rest with
  | nil =>
    intro acc h l H E _
    refine ⟨[],by simpa [cvE] using H,fun s => ?_⟩
    simp only [cvE,List.append_nil]
    simpa using E s
  | cons p r ih =>
    intro acc h l H E hc
    obtain ⟨i,v⟩ := p
    simp only [cvE] at hc ⊢
    have hkeep : (∀ c ∈ (cvE mk r h ((i,v) :: acc)).2.2,c = true) → ∃ y,HRel w S Own (l ++ y) (cvE mk r h ((i,v) :: acc)).2.1 ∧ ERel w S (l ++ y) (cvE mk r h ((i,v) :: acc)).1 a := fun hc =>
      ih ((i,v) :: acc) h l H (fun s => by simpa using E s) hc
    cases hi : (Nat.testBit mk i && !(acc.any fun e => e.1 == i)) <;> simp only [hi,cond_true,cond_false] at hc ⊢
    · exact hkeep hc
    · simp only [Bool.and_eq_true,Bool.not_eq_true'] at hi
      cases he : cv1 v h with
      | none =>
        simp only [he] at hc ⊢
        exact hkeep hc
      | some q =>
        obtain ⟨v', h', c⟩ := q
        simp only [he] at hc ⊢
        have hc0 := hc c (List.mem_cons_self ..)
        have hx : ∃ x,HRel w S Own (l ++ [x]) h' ∧ ∀ s,Rd w S (some (l ++ [x])) (a.tmps.getD s undef) (eget (acc.reverse ++ (i,v') :: r) s) := by
          have h0 := E i
          rw [eget_new acc.reverse (by rw [List.any_reverse]; exact hi.2)] at h0
          obtain ⟨x,g1,g2⟩ := cv1_ok H he hc0 h0
          refine ⟨x,g1,fun s => ?_⟩
          rcases eget_repl (i := i) (s := s) (v := v) (u := v') (r := r) acc.reverse with ⟨rfl,e3,e4⟩ | e
          · rw [e4]; exact g2
          · rw [← e]; exact (E s).pres (.refl _ _) (fun _ h => h) ⟨_,rfl⟩
        obtain ⟨x,g1,g2⟩ := hx
        obtain ⟨y,k1,k2⟩ := ih ((i,v') :: acc) h' (l ++ [x]) g1 (fun s => by simpa using g2 s) (fun c' hc' => hc c' (List.mem_cons_of_mem _ hc'))
        exact ⟨[x] ++ y,by rw [← List.append_assoc]; exact k1,by rw [← List.append_assoc]; exact k2⟩

theorem headE_ok {m wr : Nat} {kd : List Nat} : ∀ (rest acc : Env) (h : List Blk) (l : List Tk),HRel w S Own l h →
    (∀ s,Nat.testBit m s = true → Rd w S (some l) (a.tmps.getD s undef) (eget (acc.reverse ++ rest) s)) → (∀ e ∈ acc,Nat.testBit m e.1 = true) →
    ∃ y,HRel w S Own (l ++ y) (headE m wr kd rest acc h).h ∧ ERel w S (l ++ y) (headE m wr kd rest acc h).env a ∧ (headE m wr kd rest acc h).kd = kd := by
  intro rest
  induction rest with
  | nil =>
    intro acc h l H E hm
    refine ⟨[],by simpa [headE] using H,fun s => ?_,rfl⟩
    simp only [headE,List.append_nil]
    cases hs : Nat.testBit m s
    · rw [eget_none hs _ (fun e he => hm e (by simpa using he))]; exact .dead _ _
    · simpa using E s hs
  | cons p r ih =>
    intro acc h l H E hm
    obtain ⟨i,v⟩ := p
    simp only [headE]
    have hkeep : Nat.testBit m i = true → ∃ y,HRel w S Own (l ++ y) (headE m wr kd r ((i,v) :: acc) h).h ∧ ERel w S (l ++ y) (headE m wr kd r ((i,v) :: acc) h).env a ∧ (headE m wr kd r ((i,v) :: acc) h).kd = kd := by
      intro hi
      refine ih ((i,v) :: acc) h l H (fun s hs => ?_) (fun e he => ?_)
      · simpa using E s hs
      · rcases List.mem_cons.1 he with rfl | he
        · exact hi
        · exact hm e he
    cases hi : Nat.testBit m i <;> simp only [cond_true,cond_false]
    · refine ih acc h l H (fun s hs => ?_) hm
      have := E s hs
      rwa [eget_skip (by rintro rfl; rw [hi] at hs; cases hs)] at this
    · cases hw : Nat.testBit wr i <;> simp only [cond_true,cond_false]
      · exact hkeep hi
      · cases v <;> try exact hkeep hi
        case agg cs =>
          obtain ⟨y,h1,h2,h3⟩ := nilC_ok cs h l H
          have hE : ∀ s,Nat.testBit m s = true → Rd w S (some (l ++ y)) (a.tmps.getD s undef) (eget (((i,.agg (nilC cs h).1) :: acc).reverse ++ r) s) := by
            intro s hs
            have h0 := E s hs
            simp only [List.reverse_cons,List.append_assoc,List.singleton_append]
            rcases eget_repl (i := i) (s := s) (v := .agg cs) (u := .agg (nilC cs h).1) (r := r) acc.reverse with ⟨rfl,e1,e2⟩ | e
            · rw [e1] at h0
              rw [e2]
              obtain ⟨vs,e3,e4,e5⟩ := rd_agg h0
              rw [e3]
              refine .agg _ _ _ (by rw [h2]; exact e4) (fun j u a' hu ha => ?_)
              obtain ⟨a0,g1,g2⟩ := h3 j a' ha
              exact g2 u (e5 j u a0 hu g1)
            · rw [← e]; exact h0.pres (.refl _ _) (fun _ h => h) ⟨_,rfl⟩
          obtain ⟨y', h1', h2', h3'⟩ := ih ((i,.agg (nilC cs h).1) :: acc) (nilC cs h).2 (l ++ y) h1 hE (fun e he => (List.mem_cons.1 he).elim (fun e' => by subst e'; exact hi) (hm e))
          exact ⟨y ++ y', by rw [← List.append_assoc]; exact h1', by rw [← List.append_assoc]; exact h2', h3'⟩
        rename_i sz z
        cases hwn : wordNil z <;> simp only [hwn,cond_true,cond_false]
        case true =>
          refine ih ((i,roNil sz z) :: acc) h l H (fun s hs => ?_) (fun e he => (List.mem_cons.1 he).elim (fun e' => by subst e'; exact hi) (hm e))
          have h0 := E s hs
          simp only [List.reverse_cons,List.append_assoc,List.singleton_append]
          rcases eget_repl (i := i) (s := s) (v := .nils sz z) (u := roNil sz z) (r := r) acc.reverse with ⟨rfl,e1,e2⟩ | e
          · rw [e1] at h0
            rw [e2]
            exact roNil_rd h0
          · rw [← e]; exact h0
        have hE : ∀ s,Nat.testBit m s = true → Rd w S (some (l ++ [(none,0)])) (a.tmps.getD s undef) (eget (((i,.lst h.length sz) :: acc).reverse ++ r) s) := by
          intro s hs
          have h0 := E s hs
          simp only [List.reverse_cons,List.append_assoc,List.singleton_append]
          rcases eget_repl (i := i) (s := s) (v := .nils sz z) (u := .lst h.length sz) (r := r) acc.reverse with ⟨rfl,e1,e2⟩ | e
          · rw [e1] at h0
            rw [e2,rd_nils h0]
            exact .lst0 _ _ _ (by rw [← H.len]; simp)
          · rw [← e]; exact h0.pres (.refl _ _) (fun _ h => h) ⟨_,rfl⟩
        obtain ⟨y,h1,h2,h3⟩ := ih ((i,.lst h.length sz) :: acc) (h ++ [.fl sz z []]) (l ++ [(none,0)]) (H.pushNil sz z) hE (fun e he => (List.mem_cons.1 he).elim (fun e' => by subst e'; exact hi) (hm e))
        exact ⟨[(none,0)] ++ y,by rw [← List.append_assoc]; exact h1,by rw [← List.append_assoc]; exact h2,h3⟩

theorem reE_get (m : Nat) (e : Env) (s : Nat) : ∀ (k i : Nat),eget (reE m e k i) s = eget e s ∨ eget (reE m e k i) s = .dead
  | 0,i => .inr rfl
  | k + 1,i => by
    have ih := reE_get m e s k (i + 1)
    simp only [reE]
    cases hi : Nat.testBit m i <;> simp only [cond_true,cond_false]
    · exact ih
    · cases hv : eget e i <;> simp only [eget] <;> try exact ih
      all_goals
        cases hs : i == s <;> simp only [cond_true,cond_false]
        · exact ih
        · obtain rfl : i = s := by simpa using hs
          exact .inl hv.symm

theorem keepE_get (m : Nat) (e : Env) (s : Nat) : eget (keepE m e) s = eget e s ∨ eget (keepE m e) s = .dead := reE_get m e s _ _

theorem StOk.keepE {S0 : Nat → Prop} {l0 : List Tk} {w0 : World} {nt : Nat} {st : St} (m : Nat) (h : StOk Own S0 l0 w0 nt st a w) : StOk Own S0 l0 w0 nt ⟨keepE m st.env,st.h,st.kd⟩ a w := by
  obtain ⟨S,l,H,E,C,hn,hd⟩ := h
  refine ⟨S,l,H,fun s => ?_,C,hn,hd⟩
  rcases keepE_get m st.env s with e | e
  · show Rd _ _ _ _ (eget (Am.keepE m st.env) s); rw [e]; exact E s
  · show Rd _ _ _ _ (eget (Am.keepE m st.env) s); rw [e]; exact .dead _ _

theorem StOk.cv {S0 : Nat → Prop} {l0 : List Tk} {w0 : World} {nt : Nat} {st : St} (mk : Nat) (hs : StOk Own S0 l0 w0 nt st a w) (hc : ∀ c ∈ cvC mk st,c = true) : StOk Own S0 l0 w0 nt (cvS mk st) a w := by
  obtain ⟨S,l,H,E,C,hn,hd⟩ := hs
  obtain ⟨y,h1,h2⟩ := cvE_ok (a := a) (mk := mk) st.env [] st.h l H (fun s => by simpa using E s) hc
  exact ⟨S,l ++ y,h1,h2,⟨C.os,C.tape,C.output,C.size,C.keep,C.sub,C.new,C.pres,by have := C.len; simp; omega,fun t x hp hx => get_of_mle ⟨y,rfl⟩ (C.agr t x hp hx)⟩,hn,hd⟩

theorem StOk.head {S0 : Nat → Prop} {l0 : List Tk} {w0 : World} {nt : Nat} {st : St} (m wr : Nat) (hs : StOk Own S0 l0 w0 nt st a w) : StOk Own S0 l0 w0 nt (headE m wr st.kd st.env [] st.h) a w := by
  obtain ⟨S,l,H,E,C,hn,hd⟩ := hs
  obtain ⟨y,h1,h2,h3⟩ := headE_ok (a := a) (m := m) (wr := wr) (kd := st.kd) st.env [] st.h l H (fun s _ => by simpa using E s) (by simp)
  refine ⟨S,l ++ y,h1,h2,?_,hn,hd⟩
  rw [h3]
  exact ⟨C.os,C.tape,C.output,C.size,C.keep,C.sub,C.new,C.pres,by have := C.len; simp; omega,fun t x hp hx => get_of_mle ⟨y,rfl⟩ (C.agr t x hp hx)⟩

theorem HRel.reBox (H : HRel w S Own l h) {y : List Tk} {h' : List Blk} (H' : HRel w S Own (l ++ y) h') {i : Nat} {cs cs' : List AV} (hk : h[i]? = some (.box cs)) (hk' : ∃ k,h'[i]? = some k ∧ k.live = true) (hlen : cs'.length = cs.length)
    (hr : ∀ (j : Nat) a', cs'[j]? = some a' → ∃ a,cs[j]? = some a ∧ ∀ u,Rd w S (some l) u a → Rd w S (some (l ++ y)) u a') : HRel w S Own (l ++ y) (hset h' i (.box cs')) := by
  refine ⟨by simp [hset,H'.len],fun t x k hx hkt => ?_,?_,H'.bd,H'.lbd,H'.own⟩
  · rcases hset_get hkt with ⟨rfl,rfl⟩ | ⟨_,hkt⟩
    · have hlt : t < l.length := by rw [H.len]; exact (List.getElem?_eq_some_iff.1 hk).1
      rw [List.getElem?_append_left hlt] at hx
      obtain ⟨b,c,e,h1,h2,h3,h4,h5,h6⟩ := H.blk t x _ hx hk
      refine ⟨b,c,e,by rw [hlen]; exact h1,h2,by rw [hlen]; exact h3,fun j u a' hu ha => ?_,h5,h6⟩
      obtain ⟨a,g1,g2⟩ := hr j a' ha
      exact g2 u (h4 j u a hu g1)
    · exact H'.blk t x k hx hkt
  · intro t1 t2 b N1 N2 k1 k2 hm1 hm2 hk1 hk2 l1 l2
    obtain ⟨k0,e0,lv0⟩ := hk'
    have fin : ∀ {t'' : Nat} {k'' : Blk},(hset h' i (.box cs'))[t'']? = some k'' → k''.live = true → ∃ k3,h'[t'']? = some k3 ∧ k3.live = true := by
      intro t'' k'' hh hl''
      rcases hset_get hh with ⟨rfl,rfl⟩ | ⟨_,hh⟩
      · exact ⟨k0,e0,lv0⟩
      · exact ⟨k'', hh,hl''⟩
    obtain ⟨k3,e3,l3⟩ := fin hk1 l1
    obtain ⟨k4,e4,l4⟩ := fin hk2 l2
    exact H'.inj t1 t2 b N1 N2 k3 k4 hm1 hm2 e3 e4 l3 l4

theorem nilC_pre : ∀ (cs : List AV) (h : List Blk) (t : Nat) (k : Blk),h[t]? = some k → (nilC cs h).2[t]? = some k
  | [],_,_,_,hk => hk
  | v :: r,h,t,k,hk => by
    have keep : (nilC r h).2[t]? = some k := nilC_pre r h t k hk
    cases v <;> try exact keep
    rename_i sz z
    cases hwn : wordNil z
    case true => simpa [nilC,hwn] using keep
    simp only [nilC,hwn,cond_false]
    exact nilC_pre r _ t k (by rw [List.getElem?_append_left (List.getElem?_eq_some_iff.1 hk).1]; exact hk)

theorem boxN_ok : ∀ (n i : Nat) (h : List Blk) (l : List Tk),HRel w S Own l h → ∃ y,HRel w S Own (l ++ y) (boxN n i h)
  | 0,_,h,l,H => ⟨[],by simpa [boxN] using H⟩
  | n + 1,i,h,l,H => by
    simp only [boxN]
    split
    · rename_i cs hk
      obtain ⟨y,h1,h2,h3⟩ := nilC_ok cs h l H
      have H1 := H.reBox h1 hk ⟨_,nilC_pre cs h i _ hk,rfl⟩ h2 h3
      obtain ⟨y', h4⟩ := boxN_ok n (i + 1) _ _ H1
      exact ⟨y ++ y', by rw [← List.append_assoc]; exact h4⟩
    · exact boxN_ok n (i + 1) h l H

theorem StOk.headS {S0 : Nat → Prop} {l0 : List Tk} {w0 : World} {nt : Nat} {st : St} (m wr : Nat) (hs : StOk Own S0 l0 w0 nt st a w) : StOk Own S0 l0 w0 nt (headS m wr st) a w := by
  obtain ⟨S,l,H,E,C,hn,hd⟩ := (hs.keepE m).head m wr
  obtain ⟨y,h1⟩ := boxN_ok (headE m wr st.kd (Am.keepE m st.env) [] st.h).h.length 0 _ _ H
  exact ⟨S,l ++ y,h1,fun s => (E s).pres (.refl _ _) (fun _ h => h) ⟨_,rfl⟩,
    ⟨C.os,C.tape,C.output,C.size,C.keep,C.sub,C.new,C.pres,by have := C.len; simp; omega,fun t x hp hx => get_of_mle ⟨y,rfl⟩ (C.agr t x (isIn_addK _ _ _ hp).1 hx)⟩,hn,hd⟩

/-! ### tokens that change places -/
theorem swT_swT (a b t : Nat) : swT a b (swT a b t) = t := by
  unfold swT
  by_cases h1 : a = t
  · subst h1
    by_cases h2 : b = a
    · subst h2; simp
    · have g : (a == b) = false := by simpa using fun e => h2 e.symm
      simp [g]
  · have g1 : (a == t) = false := by simpa using h1
    by_cases h2 : b = t
    · subst h2; simp [g1]
    · have g2 : (b == t) = false := by simpa using h2
      simp [g1,g2]

theorem sw_get {α : Type} {l : List α} {p q : Nat} {x y : α} (hp : l[p]? = some x) (hq : l[q]? = some y) (t : Nat) : ((l.set p y).set q x)[t]? = l[swT p q t]? := by
  have h1 : p < l.length := (List.getElem?_eq_some_iff.1 hp).1
  have h2 : q < l.length := (List.getElem?_eq_some_iff.1 hq).1
  unfold swT
  by_cases e2 : q = t
  · subst e2
    rw [List.getElem?_set_self (by simpa using h2)]
    by_cases e1 : p = q
    · subst e1; simp [hp]
    · have : (p == q) = false := by simpa using e1
      simp [this,hp]
  · rw [List.getElem?_set_ne e2]
    by_cases e1 : p = t
    · subst e1
      rw [List.getElem?_set_self h1]
      simp [hq]
    · have g1 : (p == t) = false := by simpa using e1
      have g2 : (q == t) = false := by simpa using e2
      rw [List.getElem?_set_ne e1]
      simp [g1,g2]

theorem HRel.sw (H : HRel w S Own l h) {p q : Nat} (hp : p < h.length) (hq : q < h.length) : ∃ l', (∀ t : Nat,l'[t]? = l[swT p q t]?) ∧ l'.length = l.length ∧
    HRel w S Own l' (((h.set p (hget h q)).set q (hget h p)).map (renB (swT p q))) := by
  have hlen := H.len
  have e1 : l[p]? = some (l[p]'(by omega)) := List.getElem?_eq_getElem _
  have e2 : l[q]? = some (l[q]'(by omega)) := List.getElem?_eq_getElem _
  have f1 : h[p]? = some (hget h p) := by simp [hget,hp]
  have f2 : h[q]? = some (hget h q) := by simp [hget,hq]
  refine ⟨(l.set p (l[q]'(by omega))).set q (l[p]'(by omega)),sw_get e1 e2,by simp,?_⟩
  have hl := sw_get e1 e2
  have hg : ∀ (t : Nat) k,(((h.set p (hget h q)).set q (hget h p)).map (renB (swT p q)))[t]? = some k → ∃ k0,h[swT p q t]? = some k0 ∧ k = renB (swT p q) k0 := by
    intro t k hk
    rw [List.getElem?_map,sw_get f1 f2,Option.map_eq_some_iff] at hk
    obtain ⟨k0,h1,h2⟩ := hk
    exact ⟨k0,h1,h2.symm⟩
  have hlen' : ((l.set p (l[q]'(by omega))).set q (l[p]'(by omega))).length = l.length := by simp
  generalize (l.set p (l[q]'(by omega))).set q (l[p]'(by omega)) = l' at hl hlen'
  refine ⟨by simp [hlen', hlen],fun t x k hx hk => ?_,fun t t' b N N' k k' h1 h2 h3 h4 h5 h6 => ?_,H.bd,fun t b N hm => H.lbd (swT p q t) b N (by rw [← hl]; exact hm),H.own⟩
  · obtain ⟨k0,hk0,rfl⟩ := hg t k hk
    rw [hl] at hx
    have := H.blk _ x k0 hx hk0
    cases k0 with
    | gone => trivial
    | fx => exact this
    | fl => exact this
    | it => exact this
    | mp => exact this
    | box cs =>
      have L : ∀ cs : List AV,renL (swT p q) cs = cs.map (renV (swT p q)) := fun cs => by
        induction cs with
        | nil => rfl
        | cons a l ih => simp [renL,ih]
      obtain ⟨b,c,e,g1,g2,g3,g4,g5,g6⟩ := this
      refine ⟨b,c,e,by rw [g1,L]; simp,g2,by rw [g3,L]; simp,fun j u a hu ha => ?_,g5,g6⟩
      rw [L,List.getElem?_map,Option.map_eq_some_iff] at ha
      obtain ⟨a0,ha0,rfl⟩ := ha
      exact (g4 j u a0 hu ha0).ren fun l0 e => ⟨l', rfl,fun t x hx => by
        simp only [Option.some.injEq] at e
        subst e
        rw [hl,swT_swT]; exact hx⟩
  · obtain ⟨k0,hk0,rfl⟩ := hg t k h3
    obtain ⟨k1,hk1,rfl⟩ := hg t' k' h4
    have lv : ∀ k,(renB (swT p q) k).live = k.live := fun k => by cases k <;> rfl
    have := H.inj _ _ b N N' k0 k1 (by rw [← hl]; exact h1) (by rw [← hl]; exact h2) hk0 hk1 (by rwa [lv] at h5) (by rwa [lv] at h6)
    have h7 := congrArg (swT p q) this
    rwa [swT_swT,swT_swT] at h7

theorem StOk.sw {S0 : Nat → Prop} {l0 : List Tk} {w0 : World} {nt : Nat} {st : St} (p : Nat × Nat) (h : StOk Own S0 l0 w0 nt st a w) : StOk Own S0 l0 w0 nt (swS p st) a w := by
  unfold swS
  cases hb : (Nat.blt p.1 st.h.length && Nat.blt p.2 st.h.length) <;> simp only [cond_true,cond_false]
  · exact h
  simp only [Bool.and_eq_true,Nat.blt_eq] at hb
  obtain ⟨S,l,H,E,C,hn,hd⟩ := h
  obtain ⟨l', hl,hlen,H'⟩ := H.sw hb.1 hb.2
  refine ⟨S,l', H', fun s => ?_,?_,hn,hd⟩
  · show Rd _ _ _ _ (eget (st.env.map _) s)
    rw [eget_map (renV _) rfl]
    exact (E s).ren fun l0 e => ⟨l', rfl,fun t x hx => by
      simp only [Option.some.injEq] at e
      subst e
      rw [hl,swT_swT]; exact hx⟩
  · refine ⟨C.os,C.tape,C.output,C.size,C.keep,C.sub,C.new,C.pres,by rw [hlen]; exact C.len,fun t x hp hx => ?_⟩
    obtain ⟨k1,k2⟩ := isIn_addK _ _ _ hp
    have := C.agr t x k1 hx
    rw [hl]
    simp only [isIn] at k2
    unfold swT
    cases a1 : p.1 == t <;> cases a2 : p.2 == t <;> simp only [a1,a2,cond_true,cond_false] at k2 ⊢ <;> first | exact this | cases k2

theorem StOk.sws {S0 : Nat → Prop} {l0 : List Tk} {w0 : World} {nt : Nat} : ∀ (ps : List (Nat × Nat)) {st : St},StOk Own S0 l0 w0 nt st a w → StOk Own S0 l0 w0 nt (swaps ps st) a w
  | [],_,h => h
  | p :: ps,st,h => StOk.sws ps (h.sw p)

theorem StOk.long {S0 : Nat → Prop} {l0 : List Tk} {w0 : World} {nt : Nat} {st : St} (hs : StOk Own S0 l0 w0 nt st a w) : l0.length ≤ st.h.length := by
  obtain ⟨S,l,H,E,C,hn,hd⟩ := hs
  rw [← H.len]; exact C.len

theorem StOk.norm {S0 : Nat → Prop} {l0 : List Tk} {w0 : World} {nt : Nat} {st s : St} (m wr : Nat) (hk : l0.length ≤ st.h.length) (h : StOk Own S0 l0 w0 nt s a w) : StOk Own S0 l0 w0 nt (headN m wr st s) a w :=
  ((h.sws _).cut _ hk).headS _ _

/-- A loop's summary is what the loop does. -/
def LOk [Inhabited GlobT] {R : Type} (P : Program) (Γ : Gam) (Λ : Lam R) (nt fuel : Nat) (call : CallI R) (x : Code × Lv) : Prop :=
  ∀ L,Λ.get (writes x.1) = some L → ∀ st K r,L st K = some r → loopK (exec P Γ Λ nt fuel call x.1 x.2 (live x.1 x.2 0)) (headN (live x.1 x.2 0) (writes x.1) st) fuel st K = some r

theorem exec_ok [Inhabited GlobT] {R : Type} {Λ : Lam R} {nt fuel : Nat} {call : CallI R} {r : R} {w0 : World} {S0 : Nat → Prop} {l0 : List Tk} (hΓ : GamOk P Γ) (hcall : CallIOk P call) (hG0 : Glob w0 S0) :
    ∀ (c : Code) (lv : Lv) (out : Nat) (st : St) (K : Ex → St → Option R) (a : Act) (w : World),(∀ x ∈ loopsOf c lv out,LOk P Γ Λ nt fuel call x) → exec P Γ Λ nt fuel call c lv out st K = some r → StOk Own S0 l0 w0 nt st a w →
    c.wp P (QX Own S0 l0 w0 nt K r) a w := by
  intro c
  induction c with
  | skip => intro lv out st K a w _ hx hs; exact wp_skip ⟨.normal,st,trivial,hx,hs⟩
  | region id ops draw =>
    intro lv out st K a w _ hx hs
    simp only [exec] at hx
    obtain ⟨S,l,H,E,C,hn,hd⟩ := hs
    cases draw <;> simp only [cond_true,cond_false] at hx
    case true =>
      cases hb : (P.follows .mixedOrders && okD ops) <;> simp only [hb,cond_true,cond_false] at hx
      · cases hx
      · simp only [Bool.and_eq_true] at hb
        exact drawn_ok hΓ (noD_ok P) hG0 hb.1 hb.2 hx H E C hn hd (fun a w S l loc h h1 h2 h3 h4 h5 h6 => ⟨.normal,⟨close st.env loc,h,st.kd⟩,trivial,h1,S,l,h2,h3.close,h4,h5,h6⟩)
    have := rops_ok (r := r) hΓ hcall hG0 ops.toList 0 [] st.env st.h st.kd a w S l (fun j => by simp) hx H E.open C hn hd
    refine wp_mono (wp_region (by rw [List.range_eq_range']; simpa using this)) ?_
    rintro e a' w' ⟨rfl,env,h,kd,S', l', h1,h2,h3,h4,h5,h6⟩
    exact ⟨.normal,⟨env,h,kd⟩,trivial,h1,S', l', h2,h3,h4,h5,h6⟩
  | seq x y ihx ihy =>
    intro lv out st K a w hL hx hs
    simp only [exec] at hx
    simp only [loopsOf,List.mem_append] at hL
    refine wp_seq (wp_mono (ihx _ _ _ _ _ _ (fun x hx => hL x (.inl hx)) hx hs) ?_)
    rintro e a' w' ⟨e', st', he,hk,hs'⟩
    cases e <;> cases e' <;> simp only [EMatch] at he
    · exact ihy _ _ _ _ _ _ (fun x hx => hL x (.inr hx)) hk hs'
    · exact ⟨.exit _,st', he,hk,hs'⟩
    · exact ⟨.ret,st', trivial,hk,hs'⟩
  | cond c x y ihx ihy =>
    intro lv out st K a w hL hx hs
    simp only [exec] at hx
    simp only [loopsOf,List.mem_append] at hL
    split at hx
    · rename_i b hb
      obtain ⟨S,l,H,E,C,hn,hd⟩ := hs
      have hr := opnd_ok (hG0.chg C) E.open (ks := []) (by simp) c
      rw [hb] at hr
      refine wp_cond (rd_bool hr) ?_
      cases b <;> simp only [cond_true,cond_false] at hx
      · exact ihy _ _ _ _ _ _ (fun x hx => hL x (.inr hx)) hx ⟨S,l,H,E,C,hn,hd⟩
      · exact ihx _ _ _ _ _ _ (fun x hx => hL x (.inl hx)) hx ⟨S,l,H,E,C,hn,hd⟩
    · cases hx
  | block id c ih =>
    intro lv out st K a w hL hx hs
    simp only [exec] at hx
    simp only [loopsOf] at hL
    refine wp_block (wp_mono (ih _ _ _ _ _ _ hL hx hs) ?_)
    rintro e a' w' ⟨e', st', he,hk,hs'⟩
    cases e <;> cases e' <;> simp only [EMatch] at he
    · exact ⟨.normal,st', trivial,hk,hs'⟩
    · subst he
      simp only [Exit.inBlock]
      rename_i j
      by_cases hj : j = id
      · subst hj
        simp only [beq_self_eq_true,cond_true] at hk
        rw [if_pos rfl]
        exact ⟨.normal,st', trivial,hk,hs'⟩
      · have : (j == id) = false := by simpa using hj
        simp only [this,cond_false] at hk
        rw [if_neg hj]
        exact ⟨.exit j,st', rfl,hk,hs'⟩
    · exact ⟨.ret,st', trivial,hk,hs'⟩
  | loop c ih =>
    intro lv out st K a w hL hx hs
    simp only [exec] at hx
    simp only [loopsOf,List.mem_cons] at hL
    obtain ⟨hx,hcc⟩ := chk_some hx
    have hs1 := (hs.cv (apM c &&& live c lv 0) (fun c hc => hcc c hc rfl)).headS (live c lv 0) (writes c)
    have hlong := hs1.long
    generalize headS (live c lv 0) (writes c) (cvS (apM c &&& live c lv 0) st) = st1 at hx hs1 hlong
    have hx' : loopK (exec P Γ Λ nt fuel call c lv (live c lv 0)) (headN (live c lv 0) (writes c) st1) fuel st1 K = some r := by
      split at hx
      · rename_i L hLg
        exact hL (c,lv) (.inl rfl) L hLg st1 K r hx
      · exact hx
    generalize hnorm : headN (live c lv 0) (writes c) st1 = norm at hx'
    have hno : ∀ s a w,StOk Own S0 l0 w0 nt s a w → StOk Own S0 l0 w0 nt (norm s) a w := by
      intro s a w h
      rw [← hnorm]
      exact h.norm _ _ hlong
    refine wp_loop_ghost (fun n a w => ∃ s,loopK (exec P Γ Λ nt fuel call c lv (live c lv 0)) norm n s K = some r ∧ StOk Own S0 l0 w0 nt s a w) fuel ⟨st1,hx', hs1⟩ ?_
    rintro n a w ⟨s,hl,hs⟩
    cases n with
    | zero => cases hl
    | succ n =>
      simp only [loopK] at hl
      refine wp_mono (ih _ _ _ _ _ _ (fun x hx => hL x (.inr hx)) hl hs) ?_
      rintro e a' w' ⟨e', st', he,hk,hs'⟩
      cases e <;> cases e' <;> simp only [EMatch] at he
      · exact ⟨n,Nat.lt_succ_self n,norm st', hk,hno _ _ _ hs'⟩
      · exact ⟨.exit _,st', he,hk,hs'⟩
      · exact ⟨.ret,st', trivial,hk,hs'⟩
  | exit id => intro lv out st K a w _ hx hs; exact wp_exit ⟨.exit id,_,rfl,hx,hs.keepE _⟩
  | ret => intro lv out st K a w _ hx hs; exact wp_ret ⟨.ret,_,trivial,hx,hs.keepE _⟩
  | _ => intro lv out st K a w _ hx hs; simp [exec] at hx
end
end Go.Am
end
section
/- The abstract machine: functions. -/
namespace Go.Am

section
variable {P : Program} {Γ : Gam} {w w' : World} {S S' Own : Nat → Prop} {l l' : List Tk} {h : List Blk} {env : Env} {loc : Loc} {a : Act}

theorem load_box {t : TypeId} {x : Value} {t' off : Nat} {cs : List AV} (H : HRel w S Own l h) (hx : Rd w S (some l) x (.ptr t' off)) (hk : hget h t' = .box cs) (ht : has P t = true) (hc : (qpart P t cs off).1.all id = true) :
    ∃ u,(do loadVar t (← asAddr x) : Sem Value).run P w = .ok u w ∧ Rd w S (some l) u (qpart P t cs off).2 := by
  obtain ⟨b,N,rfl,hm⟩ := rd_ptr hx
  obtain ⟨_,c,e,hb,hsz,hr,_,_⟩ := H.box hk hm
  unfold qpart at hc ⊢
  have cell : ∀ j,off + j < cs.length → w.cell? ((⟨b,off,none⟩ : Addr).add j) = some (c.getD (off + j) undef) := fun j hj => by
    rw [add_cell,cell_of_heap hb]; simp [show off + j < c.size by omega]
  have rd : ∀ j,off + j < cs.length → Rd w S (some l) (c.getD (off + j) undef) (cs.getD (off + j) .dead) := fun j hj =>
    hr (off + j) _ _ (by simp [show off + j < c.size by omega]) (by simp [List.getD,hj])
  cases ha : Am.isAg P t <;> simp only [ha,cond_true,cond_false] at hc ⊢
  · have hlt : off < cs.length := by simpa using hc
    refine ⟨c.getD off undef,?_,by rw [getM_eq hlt]; simpa using rd 0 (by omega)⟩
    have := cell 0 (by omega)
    have h0 : (⟨b,off,none⟩ : Addr).add 0 = ⟨b,off,none⟩ := by unfold Addr.add; simp
    rw [h0] at this
    simp [asAddr,loadVar,run_ag ht,ha,this]
  · have hle : off + tsz P t ≤ cs.length := by simpa using hc
    refine ⟨.agg ((List.range (tsz P t)).map fun j => c.getD (off + j) undef).toArray,?_,?_⟩
    · simp [asAddr,loadVar,run_ag ht,ha,run_sz ht,run_loadCells (P := P) w ⟨b,off,none⟩ (tsz P t) (fun j => c.getD (off + j) undef) (fun j hj => cell j (by omega))]
    · rw [← take_getD hle]
      refine .agg _ _ _ (by simp) (fun j x y hx hy => ?_)
      simp only [List.getElem?_toArray,List.getElem?_map] at hx hy
      by_cases hj : j < tsz P t
      · rw [List.getElem?_range hj] at hx hy
        simp only [Option.map_some,Option.some.injEq] at hx hy
        rw [← hx,← hy]
        exact rd j (by omega)
      · rw [List.getElem?_eq_none (by simpa using Nat.le_of_not_lt hj)] at hx
        simp at hx

def resOne (tmps : Array Value) : ResultVar → Sem Value
  | .tmp t => Pure.pure (tmps.getD t undef)
  | .cell b t => do loadVar t (← asAddr (tmps.getD b undef))

theorem resV_ok {st : St} (H : HRel w S Own l st.h) (E : ERel w S l st.env a) : ∀ {rs : List ResultVar} {ts : List TypeId} {vs : List AV},resV P st rs ts = some vs →
    ∃ us,(rs.mapM (resOne a.tmps)).run P w = .ok us w ∧ us.length = vs.length ∧ ∀ (j : Nat) u x,us[j]? = some u → vs[j]? = some x → Rd w S (some l) u x
  | [],ts,vs,h => by
    simp only [resV,Option.some.injEq] at h
    subst h
    exact ⟨[],by simp,rfl,by simp⟩
  | r :: rs,ts,vs,h => by
    have fin : ∀ (u : Value) (y : AV),(resOne a.tmps r).run P w = .ok u w → Rd w S (some l) u y → (resV P st rs ts.tail).map (fun l => y :: l) = some vs →
        ∃ us,((r :: rs).mapM (resOne a.tmps)).run P w = .ok us w ∧ us.length = vs.length ∧ ∀ (j : Nat) u x,us[j]? = some u → vs[j]? = some x → Rd w S (some l) u x := by
      intro u y hr hy h
      rw [Option.map_eq_some_iff] at h
      obtain ⟨vs', h1,rfl⟩ := h
      obtain ⟨us,i1,i2,i3⟩ := resV_ok H E h1
      refine ⟨u :: us,by simp [List.mapM_cons,hr,i1],by simpa using i2,fun j u' x hu hx => ?_⟩
      cases j with
      | zero =>
        simp only [List.getElem?_cons_zero,Option.some.injEq] at hu hx
        subst hu hx
        exact hy
      | succ j => exact i3 j u' x (by simpa using hu) (by simpa using hx)
    cases r with
    | tmp s =>
      simp only [resV,fNat_eq] at h
      exact fin _ _ rfl (typ_rd _ (E s)) h
    | cell s t =>
      simp only [resV,fNat_eq] at h
      split at h
      · rename_i t' off he
        split at h
        · rename_i cs hk
          cases hb : (has P t && (qpart P t cs off).1.all id) <;> simp only [hb,cond_true,cond_false] at h
          case false => cases h
          simp only [Bool.and_eq_true] at hb
          obtain ⟨u,h1,h2⟩ := load_box H (he ▸ E s) hk hb.1 hb.2
          exact fin u _ h1 (typ_rd _ h2) h
        · cases h
      · cases h

/-- What a function hands back. -/
theorem results_ok {fn : Func} {st : St} {ts : List TypeId} {vs : List AV} (H : HRel w S Own l st.h) (E : ERel w S l st.env a) (hr : resV P st fn.results.toList ts = some vs) :
    ∃ v,(results fn a.tmps).run P w = .ok v w ∧ Rd w S (some l) v (match vs with | [x] => x | vs => .tup vs) := by
  obtain ⟨us,hm,h2,h3⟩ := resV_ok H E hr
  have hm' : (fn.results.toList.mapM (m := Sem) (fun (r : ResultVar) => (match r with
    | .tmp t => Pure.pure (a.tmps.getD t undef)
    | .cell b t => (do loadVar t (← asAddr (a.tmps.getD b undef))) : Sem Value))).run P w = Result.ok us w := by
    rw [← hm]
    congr 2
  refine ⟨if h : us.toArray.size = 1 then us.toArray[0] else .tuple us.toArray,?_,?_⟩
  · have e : fn.results = fn.results.toList.toArray := by simp
    unfold results
    rw [e,List.mapM_toArray]
    simp only [Sem.run_bind,Sem.run_map]
    refine (congrArg (fun z => Result.andThen (Result.andThen z (fun a w' => Result.ok a.toArray w')) (fun a w' => Sem.run P (Pure.pure (if h : a.size = 1 then a[0] else Value.tuple a)) w')) hm').trans ?_
    rfl
  · cases us with
    | nil => cases vs with
      | nil => exact .tup _ _ _ rfl (by simp)
      | cons x vs => simp at h2
    | cons u us => cases us with
      | nil => cases vs with
        | nil => simp at h2
        | cons x vs => cases vs with
          | nil => exact h3 0 u x rfl rfl
          | cons y vs => simp at h2
      | cons u2 us => cases vs with
        | nil => simp at h2
        | cons x vs => cases vs with
          | nil => simp at h2
          | cons y vs => exact .tup _ _ _ (by simpa using h2) (fun j u x hu hx => h3 j u x (by simpa using hu) hx)







/-- No function with a body is the runtime's count. -/
def NamesOk (P : Program) : Prop := ∀ (f : FuncId) (fn : Func),P.funcs[f]? = some fn → fn.body.isSome = true → (fn.name == "runtime.NumGoroutine") = false

theorem params_get (args : List AV) : ∀ (i s : Nat),eget (params i args) s = if i ≤ s then args.getD (s - i) .dead else .dead := by
  induction args with
  | nil => intro i s; simp [params,eget]
  | cons v r ih =>
    intro i s
    simp only [params,eget]
    by_cases h : i = s
    · subst h; simp
    · have : (i == s) = false := by simpa using h
      rw [this,cond_false,ih]
      by_cases h2 : i ≤ s
      · have h3 : i + 1 ≤ s := by omega
        rw [if_pos h2,if_pos h3,show s - i = (s - (i + 1)) + 1 by omega]
        simp
      · rw [if_neg h2,if_neg (by omega)]

/-- Summaries of loops hold. -/
def LamOk [Inhabited GlobT] {R : Type} (P : Program) (Γ : Gam) (Φ : LamF R) (fuel : Nat) : Prop :=
  ∀ (n : Nat) (f : FuncId) (fn : Func) (c : Code),P.funcs[f]? = some fn → fn.body = some c →
    ∀ x ∈ loopsOf c ⟨retMask fn.results.toList,[]⟩ (retMask fn.results.toList),LOk P Γ (Φ.get n f) fn.ntmps fuel (callX Γ (execFn P Γ Φ fuel n)) x

theorem LamOk.nil [Inhabited GlobT] {R : Type} (P : Program) (Γ : Gam) (fuel : Nat) : LamOk (R := R) P Γ [] fuel := by
  intro n f fn c _ _ x _ L h
  simp [LamF.get,Lam.get] at h

theorem execFn_ok [Inhabited GlobT] {R : Type} {Φ : LamF R} (hΓ : GamOk P Γ) (hP : NamesOk P) (fuel : Nat) (hΦ : LamOk P Γ Φ fuel) : ∀ n,CallIOk P (execFn (R := R) P Γ Φ fuel n)
  | 0 => by intro f args h K r hx; cases hx
  | n + 1 => by
    intro f args h K r hx w S Own l vs H hG hsz hr
    simp only [execFn] at hx
    split at hx
    · cases hx
    rename_i fn hfn
    split at hx
    · cases hx
    rename_i c hc
    cases hb : Nat.blt fn.ntmps args.length <;> simp only [hb,cond_true,cond_false] at hx
    case true => cases hx
    have hle : args.length ≤ fn.ntmps := by
      have : ¬ fn.ntmps < args.length := fun h => by
        have h' : Nat.blt fn.ntmps args.length = true := by simpa using h
        rw [hb] at h'; cases h'
      omega
    have hcall : (callFunc f vs).run P w = .ok (.enter f vs) w := by
      have hnm : ¬ fn.name = "runtime.NumGoroutine" := by simpa using hP f fn hfn (by simp [hc])
      simp [callFunc,hfn,hc,hnm]
    unfold CallOk
    rw [hcall]
    refine calls_of_wp hfn hc ?_
    have hs0 : StOk Own S l w fn.ntmps ⟨params 0 args,h,[]⟩ { tmps := vs ++ Array.replicate (fn.ntmps - vs.size) undef,defers := [] } w := by
      refine ⟨S,l,H,fun s => ?_,.same rfl rfl rfl rfl,by simp; omega,rfl⟩
      rw [params_get,if_pos (Nat.zero_le _),Nat.sub_zero]
      by_cases hs : s < args.length
      · have h1 : vs[s]? = some (vs[s]'(by omega)) := Array.getElem?_eq_getElem (by omega)
        have h2 : args[s]? = some args[s] := List.getElem?_eq_getElem hs
        have e1 : (vs ++ Array.replicate (fn.ntmps - vs.size) undef).getD s undef = vs[s]'(by omega) := by
          rw [Array.getD_eq_getD_getElem?,Array.getElem?_append_left (by omega),h1]; rfl
        have e2 : args.getD s .dead = args[s] := by simp [List.getD,h2]
        show Rd w S (some l) (Array.getD _ s undef) _
        rw [e1,e2]
        exact hr s _ _ h1 h2
      · rw [List.getD_eq_getElem?_getD,List.getElem?_eq_none (by omega)]; exact .dead _ _
    have hwp := exec_ok hΓ (callX_ok hΓ.x (execFn_ok hΓ hP fuel hΦ n)) hG c _ _ _ _ _ _ (hΦ n f fn c hfn hc) hx hs0
    refine wp_mono hwp ?_
    rintro e a' w' ⟨e', st,he,hk,S', l', H', E', C', hn,hd⟩
    have fin : ∀ {z : Option R},z = some r → (z = match resV P st fn.results.toList fn.resultTypes.toList with
        | some [v] => K v st.h st.kd
        | some vs => K (.tup vs) st.h st.kd
        | none => none) → ∃ v,(results fn a'.tmps).run P w' = .ok v w' ∧ ∃ v', Ending.returned v = .returned v' ∧ ∃ x h' ks S' l', K x h' ks = some r ∧ HRel w' S' Own l' h' ∧ Rd w' S' (some l') v' x ∧ Chg Own S S' l l' ks w w' := by
      intro z hz hz'
      rw [hz] at hz'
      cases hv : resV P st fn.results.toList fn.resultTypes.toList with
      | none => rw [hv] at hz'; cases hz'
      | some xs =>
        obtain ⟨v,h1,h2⟩ := results_ok H' E' hv
        rw [hv] at hz'
        refine ⟨v,h1,v,rfl,_,_,_,S', l', ?_,H', h2,C'⟩
        cases xs with
        | nil => exact hz'.symm
        | cons x xs => cases xs <;> exact hz'.symm
    cases e <;> cases e' <;> simp only [EMatch] at he
    · exact ⟨hd,fin hk rfl⟩
    · cases hk
    · exact ⟨hd,fin hk rfl⟩

end
end Go.Am
end
section
/- The abstract machine: states with holes; summaries of loops and of functions by plain models. -/
namespace Go.Am

/-! ### Values with holes -/
inductive Pay where
  | n (x : Nat)
  | i (x : Int)
  | b (x : Bool)
  | o (x : Option Nat)
  | s (x : ByteArray)
  | g (x : Nat → Nat → AV)
  | r (x : Nat → AV)
  | z (x : List AV)
  | e (x : List (List AV))
  | m (x : List (AV × AV))
  | v (x : AV)

inductive TA where
  | dead | b | s | nilp | nilf | nili | any
  | i (k : IntKind)
  | f (k : FloatKind)
  | nils (sz : Nat)
  | ro (sz : Nat)
  | rp
  | own (t sz : Nat)
  | lst (t sz : Nat)
  | ptr (t off : Nat)
  | ep (t sz : Nat)
  | mp (t : Nat)
  | fn (f : Fn) (a b : List TA)
  | agg (cs : List TA)
  | tup (cs : List TA)

def beqF : Fn → Fn → Bool
  | .func a,.func b => a == b
  | _,_ => false
theorem beqF_eq {a b : Fn} (h : beqF a b = true) : a = b := by
  unfold beqF at h
  split at h
  · simpa using h
  · cases h

def beqI : IntKind → IntKind → Bool := fun a b => a == b
def beqD : FloatKind → FloatKind → Bool := fun a b => a == b

mutual
def decA : TA → AV → Option (List Pay)
  | .any,v => some [.v v]
  | .dead,.dead => some []
  | .b,.bool x => some [.b x]
  | .s,.str x => some [.s x]
  | .nilp,.nilp => some []
  | .nilf,.nilf => some []
  | .nili,.nili => some []
  | .i k,.int k' x => bif beqI k k' then some [.i x] else none
  | .f k,.flt k' x => bif beqD k k' then some [.o x] else none
  | .nils sz,.nils sz' z => bif Nat.beq sz sz' then some [.z z] else none
  | .ro sz,.ro sz' n rd g => bif Nat.beq sz sz' then some [.n n,.n rd,.g g] else none
  | .rp,.rp n g => some [.n n,.r g]
  | .own t sz,.own t' off sz' n cap => bif Nat.beq t t' && Nat.beq sz sz' then some [.n off,.n n,.n cap] else none
  | .lst t sz,.lst t' sz' => bif Nat.beq t t' && Nat.beq sz sz' then some [] else none
  | .ptr t off,.ptr t' off' => bif Nat.beq t t' && Nat.beq off off' then some [] else none
  | .ep t sz,.ep t' sz' i j => bif Nat.beq t t' && Nat.beq sz sz' then some [.n i,.n j] else none
  | .mp t,.mp t' => bif Nat.beq t t' then some [] else none
  | .fn f a b,.fn f' a' b' => bif beqF f f' then (match decL a a', decL b b' with
    | some x,some y => some (x ++ y)
    | _,_ => none) else none
  | .agg cs,.agg cs' => decL cs cs'
  | .tup cs,.tup cs' => decL cs cs'
  | _,_ => none
def decL : List TA → List AV → Option (List Pay)
  | [],[] => some []
  | t :: r,v :: vs => match decA t v,decL r vs with
    | some x,some y => some (x ++ y)
    | _,_ => none
  | _,_ => none
end

mutual
def encA : TA → List Pay → Option (AV × List Pay)
  | .any,.v v :: r => some (v,r)
  | .dead,r => some (.dead,r)
  | .b,.b x :: r => some (.bool x,r)
  | .s,.s x :: r => some (.str x,r)
  | .nilp,r => some (.nilp,r)
  | .nilf,r => some (.nilf,r)
  | .nili,r => some (.nili,r)
  | .i k,.i x :: r => some (.int k x,r)
  | .f k,.o x :: r => some (.flt k x,r)
  | .nils sz,.z z :: r => some (.nils sz z,r)
  | .ro sz,.n n :: .n rd :: .g g :: r => some (.ro sz n rd g,r)
  | .rp,.n n :: .r g :: r => some (.rp n g,r)
  | .own t sz,.n off :: .n n :: .n cap :: r => some (.own t off sz n cap,r)
  | .lst t sz,r => some (.lst t sz,r)
  | .ptr t off,r => some (.ptr t off,r)
  | .ep t sz,.n i :: .n j :: r => some (.ep t sz i j,r)
  | .mp t,r => some (.mp t,r)
  | .fn f a b,r => match encL a r with
    | some (x,r) => (match encL b r with
      | some (y,r) => some (.fn f x y,r)
      | none => none)
    | none => none
  | .agg cs,r => match encL cs r with
    | some (x,r) => some (.agg x,r)
    | none => none
  | .tup cs,r => match encL cs r with
    | some (x,r) => some (.tup x,r)
    | none => none
  | _,_ => none
def encL : List TA → List Pay → Option (List AV × List Pay)
  | [],r => some ([],r)
  | t :: ts,r => match encA t r with
    | some (v,r) => (match encL ts r with
      | some (vs,r) => some (v :: vs,r)
      | none => none)
    | none => none
end

theorem ifb {c : Bool} {x y : List Pay} (h : (bif c then some x else none) = some y) : c = true ∧ x = y := by
  cases c <;> simp at h
  exact ⟨rfl,h⟩

mutual
theorem encA_dec : ∀ (t : TA) (v : AV) (ps r : List Pay),decA t v = some ps → encA t (ps ++ r) = some (v,r)
  | .any,v,ps,r,h => by simp only [decA,Option.some.injEq] at h; subst h; rfl
  | .dead,v,ps,r,h => by cases v <;> simp [decA] at h; subst h; rfl
  | .b,v,ps,r,h => by cases v <;> simp [decA] at h; subst h; rfl
  | .s,v,ps,r,h => by cases v <;> simp [decA] at h; subst h; rfl
  | .nilp,v,ps,r,h => by cases v <;> simp [decA] at h; subst h; rfl
  | .nilf,v,ps,r,h => by cases v <;> simp [decA] at h; subst h; rfl
  | .nili,v,ps,r,h => by cases v <;> simp [decA] at h; subst h; rfl
  | .i k,v,ps,r,h => by
    cases v <;> simp only [decA] at h <;> try (cases h; done)
    obtain ⟨h1,rfl⟩ := ifb h
    obtain rfl := eq_of_beq h1
    rfl
  | .f k,v,ps,r,h => by
    cases v <;> simp only [decA] at h <;> try (cases h; done)
    obtain ⟨h1,rfl⟩ := ifb h
    obtain rfl := eq_of_beq h1
    rfl
  | .nils sz,v,ps,r,h => by
    cases v <;> simp only [decA] at h <;> try (cases h; done)
    obtain ⟨h1,rfl⟩ := ifb h
    obtain rfl := Nat.eq_of_beq_eq_true h1
    rfl
  | .ro sz,v,ps,r,h => by
    cases v <;> simp only [decA] at h <;> try (cases h; done)
    obtain ⟨h1,rfl⟩ := ifb h
    obtain rfl := Nat.eq_of_beq_eq_true h1
    rfl
  | .rp,v,ps,r,h => by cases v <;> simp [decA] at h; subst h; rfl
  | .own t sz,v,ps,r,h => by
    cases v <;> simp only [decA] at h <;> try (cases h; done)
    obtain ⟨h1,rfl⟩ := ifb h
    simp only [Bool.and_eq_true] at h1
    obtain rfl := Nat.eq_of_beq_eq_true h1.1
    obtain rfl := Nat.eq_of_beq_eq_true h1.2
    rfl
  | .lst t sz,v,ps,r,h => by
    cases v <;> simp only [decA] at h <;> try (cases h; done)
    obtain ⟨h1,rfl⟩ := ifb h
    simp only [Bool.and_eq_true] at h1
    obtain rfl := Nat.eq_of_beq_eq_true h1.1
    obtain rfl := Nat.eq_of_beq_eq_true h1.2
    rfl
  | .ptr t sz,v,ps,r,h => by
    cases v <;> simp only [decA] at h <;> try (cases h; done)
    obtain ⟨h1,rfl⟩ := ifb h
    simp only [Bool.and_eq_true] at h1
    obtain rfl := Nat.eq_of_beq_eq_true h1.1
    obtain rfl := Nat.eq_of_beq_eq_true h1.2
    rfl
  | .ep t sz,v,ps,r,h => by
    cases v <;> simp only [decA] at h <;> try (cases h; done)
    obtain ⟨h1,rfl⟩ := ifb h
    simp only [Bool.and_eq_true] at h1
    obtain rfl := Nat.eq_of_beq_eq_true h1.1
    obtain rfl := Nat.eq_of_beq_eq_true h1.2
    rfl
  | .mp t,v,ps,r,h => by
    cases v <;> simp only [decA] at h <;> try (cases h; done)
    obtain ⟨h1,rfl⟩ := ifb h
    obtain rfl := Nat.eq_of_beq_eq_true h1
    rfl
  | .fn f a b,v,ps,r,h => by
    cases v <;> simp only [decA] at h <;> try (cases h; done)
    rename_i f' a' b'
    cases hb : beqF f f' <;> simp only [hb,cond_true,cond_false] at h <;> try (cases h; done)
    obtain rfl := beqF_eq hb
    split at h
    · rename_i x y h1 h2
      simp only [Option.some.injEq] at h
      subst h
      simp only [encA,List.append_assoc,encL_dec a a' x _ h1,encL_dec b b' y _ h2]
    · cases h
  | .agg cs,v,ps,r,h => by
    cases v <;> simp only [decA] at h <;> try (cases h; done)
    simp only [encA,encL_dec _ _ _ _ h]
  | .tup cs,v,ps,r,h => by
    cases v <;> simp only [decA] at h <;> try (cases h; done)
    simp only [encA,encL_dec _ _ _ _ h]
theorem encL_dec : ∀ (t : List TA) (v : List AV) (ps r : List Pay),decL t v = some ps → encL t (ps ++ r) = some (v,r)
  | [],[],ps,r,h => by simp only [decL,Option.some.injEq] at h; subst h; rfl
  | [],_ :: _,ps,r,h => by simp [decL] at h
  | _ :: _,[],ps,r,h => by simp [decL] at h
  | t :: ts,v :: vs,ps,r,h => by
    simp only [decL] at h
    split at h
    · rename_i x y h1 h2
      simp only [Option.some.injEq] at h
      subst h
      simp only [encL,List.append_assoc,encA_dec t v x _ h1,encL_dec ts vs y _ h2]
    · cases h
end

inductive TB where
  | gone
  | box (cs : List TA)
  | fx (sz : Nat)
  | fl (sz : Nat)
  | it
  | mp
def decB : TB → Blk → Option (List Pay)
  | .gone,.gone => some []
  | .box cs,.box cs' => decL cs cs'
  | .fx sz,.fx sz' z els => bif Nat.beq sz sz' then some [.z z,.e els] else none
  | .fl sz,.fl sz' z els => bif Nat.beq sz sz' then some [.z z,.e els] else none
  | .it,.it s pos => some [.s s,.n pos]
  | .mp,.mp es => some [.m es]
  | _,_ => none
def encB : TB → List Pay → Option (Blk × List Pay)
  | .gone,r => some (.gone,r)
  | .box cs,r => match encL cs r with
    | some (x,r) => some (.box x,r)
    | none => none
  | .fx sz,.z z :: .e els :: r => some (.fx sz z els,r)
  | .fl sz,.z z :: .e els :: r => some (.fl sz z els,r)
  | .it,.s s :: .n pos :: r => some (.it s pos,r)
  | .mp,.m es :: r => some (.mp es,r)
  | _,_ => none
theorem encB_dec (t : TB) (v : Blk) (ps r : List Pay) (h : decB t v = some ps) : encB t (ps ++ r) = some (v,r) := by
  cases t <;> cases v <;> simp only [decB] at h <;> try (cases h; done)
  · simp only [Option.some.injEq] at h; subst h; rfl
  · simp only [encB,encL_dec _ _ _ _ h]
  · obtain ⟨h1,rfl⟩ := ifb h
    obtain rfl := Nat.eq_of_beq_eq_true h1
    rfl
  · obtain ⟨h1,rfl⟩ := ifb h
    obtain rfl := Nat.eq_of_beq_eq_true h1
    rfl
  · simp only [Option.some.injEq] at h; subst h; rfl
  · simp only [Option.some.injEq] at h; subst h; rfl

def decE : List (Nat × TA) → Env → Option (List Pay)
  | [],[] => some []
  | (i,t) :: r,(j,v) :: e => bif Nat.beq i j then (match decA t v,decE r e with
    | some x,some y => some (x ++ y)
    | _,_ => none) else none
  | _,_ => none
def encE : List (Nat × TA) → List Pay → Option (Env × List Pay)
  | [],r => some ([],r)
  | (i,t) :: ts,r => match encA t r with
    | some (v,r) => (match encE ts r with
      | some (vs,r) => some ((i,v) :: vs,r)
      | none => none)
    | none => none
theorem encE_dec : ∀ (t : List (Nat × TA)) (v : Env) (ps r : List Pay),decE t v = some ps → encE t (ps ++ r) = some (v,r)
  | [],[],ps,r,h => by simp only [decE,Option.some.injEq] at h; subst h; rfl
  | [],_ :: _,ps,r,h => by simp [decE] at h
  | _ :: _,[],ps,r,h => by simp [decE] at h
  | (i,t) :: ts,(j,v) :: vs,ps,r,h => by
    simp only [decE] at h
    cases hb : Nat.beq i j <;> simp only [hb,cond_true,cond_false] at h <;> try (cases h; done)
    obtain rfl := Nat.eq_of_beq_eq_true hb
    split at h
    · rename_i x y h1 h2
      simp only [Option.some.injEq] at h
      subst h
      simp only [encE,List.append_assoc,encA_dec t v x _ h1,encE_dec ts vs y _ h2]
    · cases h
def decH : List TB → List Blk → Option (List Pay)
  | [],[] => some []
  | t :: r,v :: e => match decB t v,decH r e with
    | some x,some y => some (x ++ y)
    | _,_ => none
  | _,_ => none
def encH : List TB → List Pay → Option (List Blk × List Pay)
  | [],r => some ([],r)
  | t :: ts,r => match encB t r with
    | some (v,r) => (match encH ts r with
      | some (vs,r) => some (v :: vs,r)
      | none => none)
    | none => none
theorem encH_dec : ∀ (t : List TB) (v : List Blk) (ps r : List Pay),decH t v = some ps → encH t (ps ++ r) = some (v,r)
  | [],[],ps,r,h => by simp only [decH,Option.some.injEq] at h; subst h; rfl
  | [],_ :: _,ps,r,h => by simp [decH] at h
  | _ :: _,[],ps,r,h => by simp [decH] at h
  | t :: ts,v :: vs,ps,r,h => by
    simp only [decH] at h
    split at h
    · rename_i x y h1 h2
      simp only [Option.some.injEq] at h
      subst h
      simp only [encH,List.append_assoc,encB_dec t v x _ h1,encH_dec ts vs y _ h2]
    · cases h

def eqNs : List Nat → List Nat → Bool
  | [],[] => true
  | a :: r,b :: s => Nat.beq a b && eqNs r s
  | _,_ => false
theorem eqNs_eq : ∀ {a b : List Nat},eqNs a b = true → a = b
  | [],[],_ => rfl
  | [],_ :: _,h => by simp [eqNs] at h
  | _ :: _,[],h => by simp [eqNs] at h
  | a :: r,b :: s,h => by
    simp only [eqNs,Bool.and_eq_true] at h
    rw [Nat.eq_of_beq_eq_true h.1,eqNs_eq h.2]

/-- A state with holes. -/
structure TS' where
  env : List (Nat × TA)
  h : List TB
  kd : List Nat
def decS (t : TS') (s : St) : Option (List Pay) := bif eqNs t.kd s.kd then (match decE t.env s.env,decH t.h s.h with
  | some x,some y => some (x ++ y)
  | _,_ => none) else none
def encS (t : TS') (ps : List Pay) : Option St := match encE t.env ps with
  | some (e,r) => (match encH t.h r with
    | some (h,[]) => some ⟨e,h,t.kd⟩
    | _ => none)
  | none => none
theorem encS_dec {t : TS'} {s : St} {ps : List Pay} (h : decS t s = some ps) : encS t ps = some s := by
  unfold decS at h
  cases hb : eqNs t.kd s.kd <;> simp only [hb,cond_true,cond_false] at h <;> try (cases h; done)
  have hk := eqNs_eq hb
  split at h
  · rename_i x y h1 h2
    simp only [Option.some.injEq] at h
    subst h
    unfold encS
    have h3 := encH_dec _ _ _ [] h2
    rw [List.append_nil] at h3
    simp only [encE_dec _ _ _ _ h1,h3,hk]
  · cases h

/-- A loop's summary by a plain model. -/
def lam {R : Type} (t : TS') (F : List Pay → (Ex → St → Option R) → Option R) : St → (Ex → St → Option R) → Option R :=
  fun st K => match decS t st with
  | some ps => F ps K
  | none => none

theorem LOk.of [Inhabited GlobT] {R : Type} {P : Program} {Γ : Gam} {Λ : Lam R} {nt fuel : Nat} {call : CallI R} {x : Code × Lv} (t : TS') (F : List Pay → (Ex → St → Option R) → Option R)
    (hL : ∀ L,Λ.get (writes x.1) = some L → L = lam t F)
    (h : ∀ ps st K r,encS t ps = some st → F ps K = some r → loopK (exec P Γ Λ nt fuel call x.1 x.2 (live x.1 x.2 0)) (headN (live x.1 x.2 0) (writes x.1) st) fuel st K = some r) :
    LOk P Γ Λ nt fuel call x := by
  intro L hg st K r hr
  rw [hL L hg] at hr
  unfold lam at hr
  split at hr
  · rename_i ps hd
    exact h ps st K r (encS_dec hd) hr
  · cases hr

/-- The loops of a function. -/
def fnLoops (P : Program) (f : Nat) : List (Code × Lv) := match P.funcs[f]? with
  | some fn => (match fn.body with
    | some c => loopsOf c ⟨retMask fn.results.toList,[]⟩ (retMask fn.results.toList)
    | none => [])
  | none => []
def fnNt (P : Program) (f : Nat) : Nat := match P.funcs[f]? with
  | some fn => fn.ntmps
  | none => 0
def lp (P : Program) (f i : Nat) : Code × Lv := (fnLoops P f).getD i (.skip,⟨0,[]⟩)

theorem LamOk.of [Inhabited GlobT] {R : Type} {P : Program} {Γ : Gam} {fuel : Nat} (dp f : Nat) (Λ : Lam R) (n : Nat) (hn : (fnLoops P f).length = n)
    (h : ∀ i,i < n → LOk P Γ Λ (fnNt P f) fuel (callX Γ (execFn P Γ [((dp,f),Λ)] fuel dp)) (lp P f i)) : LamOk P Γ [((dp,f),Λ)] fuel := by
  intro d g fn c hfn hc x hx
  by_cases e : d = dp ∧ g = f
  · obtain ⟨rfl,rfl⟩ := e
    have h1 : LamF.get [((d,g),Λ)] d g = Λ := by simp [LamF.get]
    rw [h1]
    have h2 : fnLoops P g = loopsOf c ⟨retMask fn.results.toList,[]⟩ (retMask fn.results.toList) := by simp [fnLoops,hfn,hc]
    have h3 : fnNt P g = fn.ntmps := by simp [fnNt,hfn]
    rw [← h2] at hx
    obtain ⟨i,hi,rfl⟩ := List.mem_iff_getElem.1 hx
    have := h i (by omega)
    rw [h3] at this
    have h4 : lp P g i = (fnLoops P g)[i] := by simp [lp,List.getD,hi]
    rwa [h4] at this
  · have h1 : LamF.get [((dp,f),Λ)] d g = [] := by
      have : (dp == d && f == g) = false := by
        cases hb : (dp == d && f == g)
        · rfl
        · simp only [Bool.and_eq_true,beq_iff_eq] at hb
          exact absurd ⟨hb.1.symm,hb.2.symm⟩ e
      simp [LamF.get,this]
    rw [h1]
    intro L hL
    simp [Lam.get] at hL

/-! ### Summaries of functions by plain models -/
inductive RS where
  | one (k : LK)
  | agg (ks : List LK)
def etaK : LK → AV → AV
  | .b,v => .bool (toB v)
  | .i k,v => .int k (toI v)
  | .f k,v => .flt k (toF v)
  | .s,v => .str (toS v)
  | .l sz,v => .ro sz (toN v) (toR v) (toG v)
  | .any,v => v
def etaKs : List LK → List AV → List AV
  | [],_ => []
  | k :: ks,vs => etaK k (vs.headD .dead) :: etaKs ks vs.tail
def fitRS : RS → AV → Bool
  | .one k,v => fitK k v
  | .agg ks,.agg cs => fitKs ks cs
  | _,_ => false
def etaRS : RS → AV → AV
  | .one k,v => etaK k v
  | .agg ks,v => .agg (etaKs ks (toC v))
def fitRs : List RS → List AV → Bool
  | [],[] => true
  | k :: ks,v :: vs => fitRS k v && fitRs ks vs
  | _,_ => false
def etaRs : List RS → List AV → List AV
  | [],_ => []
  | k :: ks,vs => etaRS k (vs.headD .dead) :: etaRs ks vs.tail
def okM (rs : List RS) (o : Option AV) : Bool := match o with
  | none => false
  | some v => match rs with
    | [k] => fitRS k v
    | ks => match v with
      | .tup vs => fitRs ks vs
      | _ => false
def valM (rs : List RS) (o : Option AV) : AV := match rs with
  | [k] => etaRS k (getV o)
  | ks => .tup (etaRs ks (toT (getV o)))
def scK : LK → Bool
  | .l _ => false
  | .any => false
  | _ => true
def scRS : RS → Bool
  | .one k => scK k
  | .agg ks => ks.all scK
/-- A summary by a model. -/
def smM (rs : List RS) (F : List AV → Option AV) : Sm := ⟨rs.all scRS,fun as => okM rs (F as),fun as => valM rs (F as),none⟩

theorem etaK_id {k : LK} {v : AV} (h : fitK k v = true) : etaK k v = v := by
  cases k <;> cases v <;> simp [fitK] at h <;> simp [etaK,toB,toI,toF,toS,toN,toR,toG,h]
theorem etaKs_id : ∀ {ks : List LK} {vs : List AV},fitKs ks vs = true → etaKs ks vs = vs
  | [],[],_ => rfl
  | [],_ :: _,h => by simp [fitKs] at h
  | _ :: _,[],h => by simp [fitKs] at h
  | k :: ks,v :: vs,h => by
    simp only [fitKs] at h
    cases hk : fitK k v <;> simp [hk] at h
    simp [etaKs,etaK_id hk,etaKs_id h]
theorem etaRS_id {k : RS} {v : AV} (h : fitRS k v = true) : etaRS k v = v := by
  cases k with
  | one k => exact etaK_id h
  | agg ks =>
    cases v <;> simp [fitRS] at h
    simp [etaRS,toC,etaKs_id h]
theorem etaRs_id : ∀ {ks : List RS} {vs : List AV},fitRs ks vs = true → etaRs ks vs = vs
  | [],[],_ => rfl
  | [],_ :: _,h => by simp [fitRs] at h
  | _ :: _,[],h => by simp [fitRs] at h
  | k :: ks,v :: vs,h => by
    simp only [fitRs,Bool.and_eq_true] at h
    simp [etaRs,etaRS_id h.1,etaRs_id h.2]
theorem valM_id {rs : List RS} {o : Option AV} (h : okM rs o = true) : o = some (valM rs o) := by
  unfold okM at h
  split at h
  · cases h
  · rename_i v
    unfold valM
    simp only [getV,Option.getD_some]
    split at h
    · simp only [etaRS_id h]
    · rename_i hn
      split at h
      · simp only [toT,etaRs_id h]
      · cases h

theorem scal_etaK {k : LK} (h : scK k = true) (v : AV) : scal (etaK k v) = true := by
  cases k <;> simp [scK] at h <;> rfl
theorem scalL_etaKs : ∀ {ks : List LK} (vs : List AV),ks.all scK = true → scalL (etaKs ks vs) = true
  | [],_,_ => rfl
  | k :: ks,vs,h => by
    simp only [List.all_cons,Bool.and_eq_true] at h
    simp only [etaKs,scalL,scal_etaK h.1,scalL_etaKs _ h.2,Bool.and_self]
theorem scal_etaRS {k : RS} (h : scRS k = true) (v : AV) : scal (etaRS k v) = true := by
  cases k with
  | one k => exact scal_etaK h v
  | agg ks => exact scalL_etaKs _ h
theorem scalL_etaRs : ∀ {ks : List RS} (vs : List AV),ks.all scRS = true → scalL (etaRs ks vs) = true
  | [],_,_ => rfl
  | k :: ks,vs,h => by
    simp only [List.all_cons,Bool.and_eq_true] at h
    simp only [etaRs,scalL,scal_etaRS h.1,scalL_etaRs _ h.2,Bool.and_self]
theorem scal_valM {rs : List RS} (h : rs.all scRS = true) (o : Option AV) : scal (valM rs o) = true := by
  unfold valM
  split
  · exact scal_etaRS (by simpa using h) _
  · exact scalL_etaRs _ h

theorem smM_ok [Inhabited GlobT] {P : Program} {Γ : Gam} {Φ : LamF AV} (hΓ : GamOk P Γ) (hP : NamesOk P) {fuel : Nat} (hΦ : LamOk P Γ Φ fuel) (depth : Nat) (f : FuncId) (rs : List RS) (F : List AV → Option AV)
    (hF : ∀ as v,F as = some v → run P Γ Φ fuel depth f as = some v) : SmOk P f (smM rs F) := by
  refine ⟨fun args vs w S hs hr hb hG hok => ?_,fun hsc args hok => scal_valM hsc _⟩
  have hv := valM_id (o := F args) hok
  have hrun := hF args _ hv
  have hval : (smM rs F).val args = valM rs (F args) := rfl
  rw [hval]
  generalize valM rs (F args) = x at hrun
  have H0 : HRel w S (fun b => w.heap.size ≤ b) [] [] := ⟨rfl,by simp,by simp,hb,by simp,fun b h => h⟩
  refine (execFn_ok hΓ hP fuel hΦ depth f args [] _ x hrun w S _ [] vs H0 hG hs (fun j u a hu ha => (hr j u a hu ha).pres (.refl _ _) (fun _ h => h) ?_)).mono ?_
  · trivial
  · rintro v w' ⟨a', h', ks,S', l', hk,H', hv', C'⟩
    simp only [Option.some.injEq] at hk
    refine ⟨Fz S' l' h' (reach h' 4 a'),?_,fun b hb => .inl (C'.sub b hb),fun b hb => ?_,(H'.strike _).bd,⟨C'.os,C'.tape,C'.output,C'.size,fun k hk _ => C'.keep k (by simpa using hk)⟩⟩
    · rw [← hk]; exact frz_strike H' hv' (fun _ h => h)
    · rcases Fz_own H' hb with h1 | h1
      · exact C'.new b h1
      · exact .inr h1
end Go.Am
end
