/- Part 3 of the proof: the abstract machine and its soundness. -/
import Derived.Test.YtelhcngnnnhfpaaGreatDoorW2
import Derived.Laws.Externs
import Derived.ChangeBears
import Derived.ChangeOld
import Derived.SizedLaws
import Derived.Below
import Derived.WalkKit
import Derived.ProofKit
import Derived.OpenShut
import Derived.Carry
import Derived.Deep.DeepHandedRow
set_option linter.unusedVariables false
set_option linter.unusedSimpArgs false
set_option linter.unusedSectionVars false
section
/- The abstract machine: functions that change boxes of their caller's, by plain models. -/
namespace Go.Am

abbrev Mo := List AV → Option AV
abbrev Ge := Nat → Nat → AV
/-- What a check lets by. -/
abbrev ck (c : Bool) (k : Option AV) : Option AV := bif c then k else none
theorem ck_some {c : Bool} {k : Option AV} {v : AV} : ck c k = some v ↔ c = true ∧ k = some v := by cases c <;> simp [ck]

def okX (rs : List RS) (o : Option AV) : Bool := match o with
  | some (.tup vs) => fitRs rs vs
  | _ => false
def valX (rs : List RS) (o : Option AV) : AV := .tup (etaRs rs (toT (getV o)))
theorem valX_id {rs : List RS} {o : Option AV} (h : okX rs o = true) : o = some (valX rs o) := by
  unfold okX at h
  split at h
  · simp [valX,getV,toT,etaRs_id h]
  · cases h
/-- The summary of such a function by its model: arguments, then the boxes' cells; boxes' cells, then the answer's parts. -/
def smX (rs : List RS) (X : XS) (F : List AV → Option AV) : Sm := ⟨false,fun as => okX rs (F as),fun as => valX rs (F as),some X⟩

section
variable {P : Program} {Γ : Gam} {w w' : World} {S S' Own Own' : Nat → Prop} {l l' : List Tk} {h : List Blk}

theorem HRel.keep (H : HRel w S Own l h) {ts D : List Nat} {hbs : List Blk} (hnd : ts.Nodup) (hl : hbs.length = ts.length)
    (hk : ∀ (i : Nat) t kb,ts[i]? = some t → hbs[i]? = some kb → ∃ k,h[t]? = some k ∧ k.live = true ∧ t ∉ D ∧ ∀ x,l[t]? = some x → BRel w (Fz S l h D) Own l x k → BRel w (Fz S l h D) Own (lS l ts) x kb) :
    HRel w (Fz S l h D) Own (lS l ts) hbs := by
  have H1 := H.strike D
  have get : ∀ (i : Nat) x,(lS l ts)[i]? = some x → ∃ t,ts[i]? = some t ∧ (∀ k,h[t]? = some k → l[t]? = some x) := by
    intro i x hx
    simp only [lS,List.getElem?_map,Option.map_eq_some_iff] at hx
    obtain ⟨t,ht,rfl⟩ := hx
    refine ⟨t,ht,fun k hk => ?_⟩
    have : t < l.length := by rw [H.len]; exact (List.getElem?_eq_some_iff.1 hk).1
    simp [List.getD,this]
  have kbOf : ∀ (i : Nat) t,ts[i]? = some t → ∃ kb,hbs[i]? = some kb := by
    intro i t ht
    have : i < hbs.length := by rw [hl]; exact (List.getElem?_eq_some_iff.1 ht).1
    exact ⟨_,List.getElem?_eq_getElem this⟩
  refine ⟨by simp [lS,hl],fun i x kb hx hkb => ?_,fun i i' b N N' kb kb' h1 h2 h3 h4 h5 h6 => ?_,H1.bd,fun i b N hx => ?_,H.own⟩
  · obtain ⟨t,ht,hx'⟩ := get i x hx
    obtain ⟨k,e1,e2,e3,e4⟩ := hk i t kb ht hkb
    exact e4 x (hx' k e1) (H1.blk t x k (hx' k e1) (by rw [strike_keep D h e3]; exact e1))
  · obtain ⟨t,ht,hx⟩ := get i _ h1
    obtain ⟨t', ht', hx'⟩ := get i' _ h2
    obtain ⟨k,e1,e2,_⟩ := hk i t kb ht h3
    obtain ⟨k', e1', e2', _⟩ := hk i' t' kb' ht' h4
    have := H.inj t t' b N N' k k' (hx k e1) (hx' k' e1') e1 e1' e2 e2'
    subst this
    have hi : i < ts.length := (List.getElem?_eq_some_iff.1 ht).1
    have hi' : i' < ts.length := (List.getElem?_eq_some_iff.1 ht').1
    have e3 : ts[i] = ts[i'] := by
      rw [List.getElem?_eq_getElem hi] at ht
      rw [List.getElem?_eq_getElem hi'] at ht'
      rw [Option.some.inj ht,Option.some.inj ht']
    exact (List.getElem_inj hnd).1 e3
  · obtain ⟨t,ht,hx'⟩ := get i _ hx
    obtain ⟨kb,hkb⟩ := kbOf i t ht
    obtain ⟨k,e1,_⟩ := hk i t kb ht hkb
    exact H.lbd t b N (hx' k e1)

/-- How a block is told to the caller. -/
def Conv (h : List Blk) (D : List Nat) (t : Nat) (kb : Blk) : Prop :=
  (isBox h t = true ∧ kb = .box ((boxOf h t).map (frz h 4)) ∧ ∀ u ∈ (boxOf h t).flatMap (reach h 4),u ∈ D) ∨
  (∃ sz z z' els,hget h t = .fl sz z' els ∧ kb = .fl sz z (rows sz els.length (fun i j => (els.getD i []).getD j .dead))) ∨
  (∃ sz z z' els,hget h t = .fx sz z' els ∧ kb = .fx sz z (rows sz els.length (fun i j => (els.getD i []).getD j .dead)))

theorem rows_len (sz n : Nat) (get : Nat → Nat → AV) : (rows sz n get).length = n := by simp [rows]
theorem els_rows {c : Array Value} {sz : Nat} {els : List (List AV)} (hE : Els w S c sz els) : Els w S c sz (rows sz els.length (fun i j => (els.getD i []).getD j .dead)) := by
  intro i el hel
  simp only [rows,List.getElem?_map,Option.map_eq_some_iff] at hel
  obtain ⟨i', hi', rfl⟩ := hel
  have hi : i < els.length := by
    have := (List.getElem?_eq_some_iff.1 hi').1
    simpa using this
  rw [List.getElem?_range hi] at hi'
  obtain rfl := Option.some.inj hi'
  refine ⟨by simp,fun j a ha => ?_⟩
  simp only [List.getElem?_map,Option.map_eq_some_iff] at ha
  obtain ⟨j', hj', rfl⟩ := ha
  have hj : j < sz := by
    have := (List.getElem?_eq_some_iff.1 hj').1
    simpa using this
  rw [List.getElem?_range hj] at hj'
  obtain rfl := Option.some.inj hj'
  obtain ⟨u,hu,hr,_⟩ := els_cell (z := []) hE hi hj
  exact ⟨u,hu,hr⟩

theorem Conv.ok (H : HRel w S Own l h) {D : List Nat} {t : Nat} {kb : Blk} (hc : Conv h D t kb) {m : List Tk} : ∃ k,h[t]? = some k ∧ k.live = true ∧ ∀ x,l[t]? = some x → BRel w (Fz S l h D) Own l x k → BRel w (Fz S l h D) Own m x kb := by
  rcases hc with ⟨hb,rfl,hD⟩ | ⟨sz,z,z', els,hg,rfl⟩ | ⟨sz,z,z', els,hg,rfl⟩
  · refine ⟨_,hget_some (isBox_eq hb) rfl,rfl,fun x hx hr => ?_⟩
    obtain ⟨b,c,e,rfl,h1,h2,h3,h4,h5⟩ := hr
    obtain ⟨_,b', hl', c', e', k1,k2,k3,_⟩ := H.boxOf hb
    rw [hx] at hl'
    simp only [Option.some.injEq,Prod.mk.injEq,and_true] at hl'
    subst hl'
    rw [h1] at k1
    simp only [Option.some.injEq,Obj.cells.injEq,and_true] at k1
    obtain ⟨rfl,rfl⟩ := k1
    refine ⟨b,c,e,by simp,h1,by simp [h2],fun j u a hu ha => ?_,h4,h5⟩
    rw [List.getElem?_map,Option.map_eq_some_iff] at ha
    obtain ⟨a', ha', rfl⟩ := ha
    exact (frz_strike H (k3 j u a' hu ha') (fun u hu => hD u (List.mem_flatMap.2 ⟨a', List.mem_of_getElem? ha', hu⟩))).pres (.refl _ _) (fun _ h => h) trivial
  · refine ⟨_,hget_some hg rfl,rfl,fun x hx hr => ?_⟩
    rcases hr with ⟨rfl,rfl⟩ | ⟨b,c,e,rfl,h1,h2,h3,h4,h5⟩
    · exact .inl ⟨rfl,rfl⟩
    · exact .inr ⟨b,c,e,by simp [rows_len],h1,by simpa [rows_len] using h2,els_rows h3,h4,h5⟩
  · refine ⟨_,hget_some hg rfl,rfl,fun x hx hr => ?_⟩
    obtain ⟨b,c,e,rfl,h1,h2,h3,h4,h5⟩ := hr
    exact ⟨b,c,e,by simp [rows_len],h1,by simpa [rows_len] using h2,els_rows h3,h4,h5⟩

theorem isBox_of {t : Nat} {cs : List AV} (h1 : hget h t = .box cs) : isBox h t = true ∧ boxOf h t = cs := by
  unfold isBox boxOf; rw [h1]; exact ⟨rfl,rfl⟩

theorem xcells_ok : ∀ (ns : List Nat) (i : Nat) (a : List AV),xcells h ns i = some a → ∀ r,xbox ns (a ++ r) = (List.range ns.length).map (fun j => .box ((boxOf h (i + j)).map (frz h 4))) ∧ xrest ns (a ++ r) = r ∧ ∀ j,j < ns.length → isBox h (i + j) = true
  | [],i,a,hx,r => by
    simp only [xcells,Option.some.injEq] at hx
    subst hx
    exact ⟨rfl,rfl,fun j hj => by cases hj⟩
  | n :: ns,i,a,hx,r => by
    simp only [xcells] at hx
    split at hx
    · rename_i cs hg
      cases hn : cs.length == n <;> simp only [hn,cond_true,cond_false] at hx
      · cases hx
      rw [Option.map_eq_some_iff] at hx
      obtain ⟨a', ha', rfl⟩ := hx
      obtain ⟨b1,b2⟩ := isBox_of hg
      obtain ⟨h1,h2,h3⟩ := xcells_ok ns (i + 1) a' ha' r
      have hn' : (cs.map (frz h 4)).length = n := by simpa using hn
      have e1 : (cs.map (frz h 4) ++ a' ++ r).take n = cs.map (frz h 4) := by rw [List.append_assoc,← hn', List.take_left]
      have e2 : (cs.map (frz h 4) ++ a' ++ r).drop n = a' ++ r := by rw [List.append_assoc,← hn', List.drop_left]
      refine ⟨?_,?_,fun j hj => ?_⟩
      · simp only [xbox,e1,e2,h1,List.length_cons,List.range_succ_eq_map,List.map_cons,List.map_map,Nat.add_zero,b2]
        congr 1
        apply List.map_congr_left
        intro j _
        simp only [Function.comp_def,Nat.succ_eq_add_one]
        rw [show i + 1 + j = i + (j + 1) by omega]
      · simp only [xrest,e2,h2]
      · cases j with
        | zero => exact b1
        | succ j => rw [show i + (j + 1) = i + 1 + j by omega]; exact h3 j (by simpa using hj)
    · cases hx

/-- The answer's parts: blocks that are new, and values. -/
theorem xans_ok {k : Nat} {m : List Tk} (H : HRel w S Own l h) {D : List Nat} (hm : ∀ (i : Nat) x,i < k → l[i]? = some x → m[i]? = some x) : ∀ (os : List XO) (vs : List AV) (b : List AV) (k0 : Nat),xans k h os vs = some b → (∀ u ∈ xsp h os vs,u ∈ D) →
    (∀ (p : Nat) t x,(xtk os vs)[p]? = some t → l[t]? = some x → m[k0 + p]? = some x) →
    (xoutB k0 os b).length = (xtk os vs).length ∧ (∀ (p : Nat) t kb,(xtk os vs)[p]? = some t → (xoutB k0 os b)[p]? = some kb → k ≤ t ∧ Conv h D t kb) ∧
    (xoutV k0 os b).length = vs.length ∧ ∀ (us : List Value),us.length = vs.length → (∀ (j : Nat) u a,us[j]? = some u → vs[j]? = some a → Rd w S (some l) u a) →
      ∀ (j : Nat) u a,us[j]? = some u → (xoutV k0 os b)[j]? = some a → Rd w (Fz S l h D) (some m) u a
  | [],[],b,k0,hx,_,_ => by
    simp only [xans,Option.some.injEq] at hx
    subst hx
    exact ⟨rfl,fun p t kb h1 => by simp [xtk] at h1,rfl,fun us _ _ j u a _ ha => by simp [xoutV] at ha⟩
  | .one :: os,v :: vs,b,k0,hx,hD,hp => by
    simp only [xans,Option.map_eq_some_iff] at hx
    obtain ⟨b', hb', rfl⟩ := hx
    have hp' : xtk (.one :: os) (v :: vs) = xtk os vs := by cases v <;> rfl
    rw [hp'] at hp ⊢
    have hsp : xsp h (.one :: os) (v :: vs) = reach h 4 v ++ xsp h os vs := by cases v <;> rfl
    rw [hsp] at hD
    obtain ⟨q1,q2,q3,q4⟩ := xans_ok H hm os vs b' k0 hb' (fun u hu => hD u (List.mem_append.2 (.inr hu))) hp
    refine ⟨q1,q2,by simp [xoutV,q3],fun us hus hr j u a hu ha => ?_⟩
    cases us with
    | nil => simp at hus
    | cons u0 us =>
      cases j with
      | zero =>
        simp only [xoutV,List.getElem?_cons_zero,List.headD_cons,Option.some.injEq] at hu ha
        subst hu ha
        exact (frz_strike H (hr 0 _ _ rfl rfl) (fun t ht => hD t (List.mem_append.2 (.inl ht)))).pres (.refl _ _) (fun _ h => h) trivial
      | succ j => exact q4 us (by simpa using hus) (fun j u a hu ha => hr (j + 1) u a (by simpa using hu) (by simpa using ha)) j u a (by simpa using hu) (by simpa [xoutV] using ha)
  | .ptr i off :: os,v :: vs,b,k0,hx,hD,hp => by
    cases v <;> simp only [xans] at hx <;> try (cases hx; done)
    rename_i i' off'
    cases hb : (i' == i && off' == off && Nat.blt i k) <;> simp only [hb,cond_true,cond_false] at hx
    · cases hx
    simp only [Bool.and_eq_true,beq_iff_eq,Nat.blt_eq] at hb
    obtain ⟨⟨rfl,rfl⟩,hik⟩ := hb
    obtain ⟨q1,q2,q3,q4⟩ := xans_ok H hm os vs b k0 hx (fun u hu => hD u hu) (fun p t x h1 h2 => hp p t x h1 h2)
    refine ⟨q1,q2,by simp [xoutV,q3],fun us hus hr j u a hu ha => ?_⟩
    cases us with
    | nil => simp at hus
    | cons u0 us =>
      cases j with
      | zero =>
        simp only [xoutV,List.getElem?_cons_zero,Option.some.injEq] at hu ha
        subst hu ha
        obtain ⟨b0,N,rfl,hl⟩ := rd_ptr (hr 0 _ _ rfl rfl)
        exact .ptr _ _ _ b0 N (hm _ _ hik hl)
      | succ j => exact q4 us (by simpa using hus) (fun j u a hu ha => hr (j + 1) u a (by simpa using hu) (by simpa using ha)) j u a (by simpa using hu) (by simpa [xoutV] using ha)
  | .newb n off :: os,v :: vs,b,k0,hx,hD,hp => by
    cases v <;> simp only [xans] at hx <;> try (cases hx; done)
    rename_i t off'
    cases hb : (off' == off && Nat.ble k t) <;> simp only [hb,cond_true,cond_false] at hx
    · cases hx
    simp only [Bool.and_eq_true,beq_iff_eq,Nat.ble_eq] at hb
    obtain ⟨rfl,hkt⟩ := hb
    split at hx
    · rename_i cs hg
      cases hn : cs.length == n <;> simp only [hn,cond_true,cond_false] at hx
      · cases hx
      rw [Option.map_eq_some_iff] at hx
      obtain ⟨b', hb', rfl⟩ := hx
      obtain ⟨b1,b2⟩ := isBox_of hg
      have hn' : (cs.map (frz h 4)).length = n := by simpa using hn
      have e1 : (cs.map (frz h 4) ++ b').take n = cs.map (frz h 4) := by rw [← hn', List.take_left]
      have e2 : (cs.map (frz h 4) ++ b').drop n = b' := by rw [← hn', List.drop_left]
      have hsp : xsp h (.newb n off' :: os) (.ptr t off' :: vs) = (boxOf h t).flatMap (reach h 4) ++ xsp h os vs := rfl
      rw [hsp] at hD
      obtain ⟨q1,q2,q3,q4⟩ := xans_ok H hm os vs b' (k0 + 1) hb' (fun u hu => hD u (List.mem_append.2 (.inr hu))) (fun p t x h1 h2 => by
        have := hp (p + 1) t x (by simpa [xtk] using h1) h2
        rwa [show k0 + (p + 1) = k0 + 1 + p by omega] at this)
      refine ⟨by simp [xoutB,xtk,e2,q1],fun p t' kb h1 h2 => ?_,by simp [xoutV,e2,q3],fun us hus hr j u a hu ha => ?_⟩
      · cases p with
        | zero =>
          simp only [xtk,xoutB,List.getElem?_cons_zero,Option.some.injEq,e1] at h1 h2
          subst h1 h2
          exact ⟨hkt,.inl ⟨b1,by rw [b2],fun u hu => hD u (List.mem_append.2 (.inl hu))⟩⟩
        | succ p => exact q2 p t' kb (by simpa [xtk] using h1) (by simpa [xoutB,e2] using h2)
      · cases us with
        | nil => simp at hus
        | cons u0 us =>
          cases j with
          | zero =>
            simp only [xoutV,List.getElem?_cons_zero,Option.some.injEq] at hu ha
            subst hu ha
            obtain ⟨b0,N,rfl,hl⟩ := rd_ptr (hr 0 _ _ rfl rfl)
            exact .ptr _ _ _ b0 N (by simpa using hp 0 t _ rfl hl)
          | succ j => exact q4 us (by simpa using hus) (fun j u a hu ha => hr (j + 1) u a (by simpa using hu) (by simpa using ha)) j u a (by simpa using hu) (by simpa [xoutV,e2] using ha)
    · cases hx
  | .newl sz z :: os,v :: vs,b,k0,hx,hD,hp => by
    cases v <;> simp only [xans] at hx <;> try (cases hx; done)
    rename_i t sz'
    cases hb : (sz' == sz && Nat.ble k t) <;> simp only [hb,cond_true,cond_false] at hx
    · cases hx
    simp only [Bool.and_eq_true,beq_iff_eq,Nat.ble_eq] at hb
    obtain ⟨rfl,hkt⟩ := hb
    split at hx
    · rename_i sz'' z' els hg
      cases hn : sz'' == sz' <;> simp only [hn,cond_true,cond_false] at hx
      · cases hx
      rw [beq_iff_eq] at hn; subst hn
      rw [Option.map_eq_some_iff] at hx
      obtain ⟨b', hb', rfl⟩ := hx
      obtain ⟨q1,q2,q3,q4⟩ := xans_ok H hm os vs b' (k0 + 1) hb' (fun u hu => hD u hu) (fun p t x h1 h2 => by
        have := hp (p + 1) t x (by simpa [xtk] using h1) h2
        rwa [show k0 + (p + 1) = k0 + 1 + p by omega] at this)
      refine ⟨by simp [xoutB,xtk,q1],fun p t' kb h1 h2 => ?_,by simp [xoutV,q3],fun us hus hr j u a hu ha => ?_⟩
      · cases p with
        | zero =>
          simp only [xtk,xoutB,List.getElem?_cons_zero,Option.some.injEq,List.headD_cons,toN,toG] at h1 h2
          subst h1 h2
          exact ⟨hkt,.inr (.inl ⟨_,z,z', els,hg,rfl⟩)⟩
        | succ p => exact q2 p t' kb (by simpa [xtk] using h1) (by simpa [xoutB] using h2)
      · cases us with
        | nil => simp at hus
        | cons u0 us =>
          cases j with
          | zero =>
            simp only [xoutV,List.getElem?_cons_zero,Option.some.injEq] at hu ha
            subst hu ha
            have hr0 := hr 0 _ _ rfl rfl
            cases hr0 with
            | lst _ _ _ b0 N cap hm' hn hs => exact .lst _ _ _ b0 N cap (by simpa using hp 0 t _ rfl hm') hn hs
            | lst0 _ _ _ hm' => exact .lst0 _ _ _ (by simpa using hp 0 t _ rfl hm')
          | succ j => exact q4 us (by simpa using hus) (fun j u a hu ha => hr (j + 1) u a (by simpa using hu) (by simpa using ha)) j u a (by simpa using hu) (by simpa [xoutV] using ha)
    · cases hx
  | .newo sz z :: os,v :: vs,b,k0,hx,hD,hp => by
    cases v <;> simp only [xans] at hx <;> try (cases hx; done)
    rename_i t off sz' n cap
    cases hb : (sz' == sz && Nat.ble k t) <;> simp only [hb,cond_true,cond_false] at hx
    · cases hx
    simp only [Bool.and_eq_true,beq_iff_eq,Nat.ble_eq] at hb
    obtain ⟨rfl,hkt⟩ := hb
    split at hx
    · rename_i sz'' z' els hg
      cases hn : sz'' == sz' <;> simp only [hn,cond_true,cond_false] at hx
      · cases hx
      rw [beq_iff_eq] at hn; subst hn
      rw [Option.map_eq_some_iff] at hx
      obtain ⟨b', hb', rfl⟩ := hx
      obtain ⟨q1,q2,q3,q4⟩ := xans_ok H hm os vs b' (k0 + 1) hb' (fun u hu => hD u hu) (fun p t x h1 h2 => by
        have := hp (p + 1) t x (by simpa [xtk] using h1) h2
        rwa [show k0 + (p + 1) = k0 + 1 + p by omega] at this)
      refine ⟨by simp [xoutB,xtk,q1],fun p t' kb h1 h2 => ?_,by simp [xoutV,q3],fun us hus hr j u a hu ha => ?_⟩
      · cases p with
        | zero =>
          simp only [xtk,xoutB,List.getElem?_cons_zero,Option.some.injEq,List.headD_cons,List.tail_cons,toN,toG] at h1 h2
          subst h1 h2
          exact ⟨hkt,.inr (.inr ⟨_,z,z', els,hg,rfl⟩)⟩
        | succ p => exact q2 p t' kb (by simpa [xtk] using h1) (by simpa [xoutB] using h2)
      · cases us with
        | nil => simp at hus
        | cons u0 us =>
          cases j with
          | zero =>
            simp only [xoutV,List.getElem?_cons_zero,Option.some.injEq,List.headD_cons,List.tail_cons,toN,toR,toI,Int.toNat_natCast] at hu ha
            subst hu ha
            obtain ⟨b0,N,rfl,hm', h2,h3⟩ := rd_own (hr 0 _ _ rfl rfl)
            exact .own _ _ _ _ _ _ b0 N (by simpa using hp 0 t _ rfl hm') h2 h3
          | succ j => exact q4 us (by simpa using hus) (fun j u a hu ha => hr (j + 1) u a (by simpa using hu) (by simpa using ha)) j u a (by simpa using hu) (by simpa [xoutV] using ha)
    · cases hx
  | [],_ :: _,_,_,hx,_,_ => by simp [xans] at hx
  | .one :: _,[],_,_,hx,_,_ => by simp [xans] at hx
  | .ptr _ _ :: _,[],_,_,hx,_,_ => by simp [xans] at hx
  | .newb _ _ :: _,[],_,_,hx,_,_ => by simp [xans] at hx
  | .newl _ _ :: _,[],_,_,hx,_,_ => by simp [xans] at hx
  | .newo _ _ :: _,[],_,_,hx,_,_ => by simp [xans] at hx

theorem nodupB_ok : ∀ {ts : List Nat},nodupB ts = true → ts.Nodup
  | [],_ => by simp
  | t :: r,h => by
    simp only [nodupB,Bool.and_eq_true,Bool.not_eq_true'] at h
    rw [List.nodup_cons]
    exact ⟨fun hm => (by rw [mem_isIn0 hm] at h; exact absurd h.1 (by simp)),nodupB_ok h.2⟩

theorem smX_ok [Inhabited GlobT] {Φ : LamF AV} (hΓ : GamOk P Γ) (hP : NamesOk P) {fuel : Nat} (hΦ : LamOk P Γ Φ fuel) (depth : Nat) (f : FuncId) (rs : List RS) (X : XS) (F : List AV → Option AV)
    (hF : ∀ (as : List AV) (bs : List (List AV)) (v : AV),as.length = X.pat.length → bs.map List.length = X.nb → F (as ++ bs.flatten) = some v → runX P Γ Φ fuel depth f X as (bs.map Blk.box) = some v) : XOk P f (smX rs X F) X := by
  intro as bs vs w S Own l ha hb H hG hs hr hok
  have hv := valX_id (o := F (as ++ bs.flatten)) hok
  have hrun := hF as bs _ ha hb hv
  have hval : (smX rs X F).val (as ++ bs.flatten) = valX rs (F (as ++ bs.flatten)) := rfl
  rw [hval]
  generalize valX rs (F (as ++ bs.flatten)) = x at hrun
  unfold runX at hrun
  refine (execFn_ok hΓ hP fuel hΦ depth f as _ _ x hrun w S Own l vs H hG hs hr).mono ?_
  rintro v w' ⟨a', h', ks,S', l', hk,H', hv', C'⟩
  unfold xflat at hk
  generalize hD : xspent X a' h' = D at hk
  cases hc : (ks.any (fun t => Nat.blt t X.nb.length) || !(nodupB (xkeep X a')) || D.any (fun t => isIn t (xkeep X a'))) <;> simp only [hc,cond_true,cond_false] at hk
  case true => cases hk
  simp only [Bool.or_eq_false_iff,Bool.not_eq_false'] at hc
  obtain ⟨⟨hks,hnd⟩,hdis⟩ := hc
  have hnd' := nodupB_ok hnd
  split at hk
  · rename_i a hxa
    split at hk
    · rename_i b hxb
      simp only [Option.some.injEq] at hk
      subst hk
      obtain ⟨e1,e2,e3⟩ := xcells_ok X.nb 0 a hxa b
      have hkeep : xkeep X a' = List.range X.nb.length ++ xtk X.out (xvs X a') := rfl
      have hnot : ∀ t ∈ xkeep X a', t ∉ D := fun t ht hd => by
        have := List.any_eq_false.1 hdis t hd
        exact this (mem_isIn0 ht)
      have low : ∀ (i : Nat) x,i < X.nb.length → l'[i]? = some x → (lS l' (xkeep X a'))[i]? = some x := by
        intro i x hi hx
        simp only [lS,hkeep,List.getElem?_map]
        rw [List.getElem?_append_left (by simpa using hi),List.getElem?_range hi]
        simp [List.getD,hx]
      obtain ⟨q1,q2,q3,q4⟩ := xans_ok (k := X.nb.length) (m := lS l' (xkeep X a')) (D := D) H' low X.out (xvs X a') b X.nb.length hxb (fun u hu => by rw [← hD]; exact List.mem_append.2 (.inr hu)) (fun p t x h1 h2 => by
        simp only [lS,hkeep,List.getElem?_map]
        rw [List.getElem?_append_right (by simp),List.length_range,Nat.add_sub_cancel_left,h1]
        simp [List.getD,h2])
      have htt : toT (.tup (a ++ b)) = a ++ b := rfl
      rw [htt]
      have hheap : X.heap (a ++ b) = (List.range X.nb.length).map (fun j => .box ((boxOf h' (0 + j)).map (frz h' 4))) ++ xoutB X.nb.length X.out b := by
        unfold XS.heap; rw [e1,e2]
      have hH : HRel w' (Fz S' l' h' D) Own (lS l' (xkeep X a')) (X.heap (a ++ b)) := by
        refine H'.keep hnd' (by rw [hheap,hkeep]; simp [q1]) (fun i t kb ht hkb => ?_)
        have hmem := List.mem_of_getElem? ht
        have cv : Conv h' D t kb := by
          rw [hheap] at hkb
          rw [hkeep] at ht
          by_cases hi : i < X.nb.length
          · rw [List.getElem?_append_left (by simpa using hi),List.getElem?_range hi] at ht
            obtain rfl := Option.some.inj ht
            rw [List.getElem?_append_left (by simpa using hi),List.getElem?_map,List.getElem?_range hi] at hkb
            simp only [Option.map_some,Option.some.injEq,Nat.zero_add] at hkb
            subst hkb
            refine .inl ⟨by simpa using e3 i hi,rfl,fun u hu => ?_⟩
            rw [← hD]
            exact List.mem_append.2 (.inl (List.mem_flatMap.2 ⟨i,by simpa using hi,hu⟩))
          · rw [List.getElem?_append_right (by simpa using Nat.le_of_not_lt hi)] at ht
            rw [List.getElem?_append_right (by simpa using Nat.le_of_not_lt hi)] at hkb
            simp only [List.length_range,List.length_map] at ht hkb
            exact (q2 _ t kb ht hkb).2
        obtain ⟨k,k1,k2,k3⟩ := cv.ok H' (m := lS l' (xkeep X a'))
        exact ⟨k,k1,k2,hnot t hmem,k3⟩
      have hXl : X.nb.length = l.length := by rw [H.len,← hb]; simp
      refine ⟨_,_,hH,?_,⟨C'.os,C'.tape,C'.output,C'.size,C'.keep,fun b hb => .inl (C'.sub b hb),fun b hb => (Fz_own H' hb).elim (C'.new b) .inr,C'.pres,by simp [lS,hkeep,hXl],fun t x _ hx => ?_⟩⟩
      · -- the answer
        unfold XS.ans
        rw [e2]
        have hXv : ∀ os,X.out = os → (∀ y,os ≠ [y]) → xvs X a' = toT a' := by
          intro os ho hne
          unfold xvs
          rw [ho]
          split
          · exact absurd rfl (hne _)
          · rfl
        cases ho : X.out with
        | nil =>
          have e5 := hXv [] ho (by simp)
          rw [ho,e5] at hxb
          cases ht : toT a' with
          | nil =>
            cases a' <;> simp only [toT] at ht <;> try (simp at ht; done)
            rename_i cs
            subst ht
            rw [ho] at q3
            have : xoutV X.nb.length [] b = [] := by simp [xoutV]
            rw [this]
            cases hv' with
            | tup _ vs' _ hs' _ => exact .tup _ _ _ (by simpa using hs') (by simp)
          | cons _ _ => rw [ht] at hxb; simp [xans] at hxb
        | cons o os =>
          cases os with
          | nil =>
            have e5 : xvs X a' = [a'] := by unfold xvs; rw [ho]
            rw [e5,ho] at q3 q4
            cases hxo : xoutV X.nb.length [o] b with
            | nil => rw [hxo] at q3; simp at q3
            | cons y ys =>
              rw [hxo] at q3 q4
              have hys : ys = [] := by cases ys with | nil => rfl | cons _ _ => simp at q3
              subst hys
              exact q4 [v] rfl (fun j u a hu ha => by
                rcases j with _ | j
                · simp at hu ha; subst hu ha; exact hv'
                · simp at hu) 0 v y rfl rfl
          | cons o2 os =>
            have e5 := hXv _ ho (by simp)
            rw [e5,ho] at q3 q4
            rw [e5,ho] at hxb
            have htup : ∃ cs,a' = .tup cs := by
              have h9 : (xoutV X.nb.length (o :: o2 :: os) b).length ≠ 1 := by cases o <;> cases o2 <;> simp only [xoutV,List.length_cons] <;> omega
              cases a' <;> first
                | exact ⟨_,rfl⟩
                | exact absurd q3 h9
            obtain ⟨cs,rfl⟩ := htup
            simp only [toT] at q3 q4
            cases hv' with
            | tup _ vs' _ hs' hh =>
              have := q4 vs'.toList (by simpa using hs') (fun j u a hu ha => hh j u a (by simpa using hu) ha)
              have h2 : one1 (xoutV X.nb.length (o :: o2 :: os) b) = .tup (xoutV X.nb.length (o :: o2 :: os) b) := by
                cases o <;> cases o2 <;> simp [xoutV,one1]
              rw [h2]
              exact .tup _ _ _ (by rw [q3]; simpa using hs') (fun j u a hu ha => this j u a (by simpa using hu) ha)
      · have hlt : t < l.length := (List.getElem?_eq_some_iff.1 hx).1
        have hnk : isIn t ks = false := by
          cases hi : isIn t ks
          · rfl
          · have := List.any_eq_false.1 hks t (isIn_mem0 hi)
            exact absurd (by simpa using (show t < X.nb.length by omega)) this
        exact low t x (by omega) (C'.agr t x hnk hx)
    · cases hk
  · cases hk

theorem GamOk.nil [Inhabited GlobT] : GamOk P [] := ⟨fun f s h => (by cases h),fun f pat nb s X h => (by cases h)⟩
theorem GamOk.cons [Inhabited GlobT] {i : Nat} {s : Sm} (h : SmOk P i s) (hn : s.mx.isNone = true) (hG : GamOk P Γ) : GamOk P ((i,s) :: Γ) := by
  refine ⟨fun f s' hg => ?_,fun f pat nb s' X hg => ?_⟩
  · simp only [Gam.get] at hg
    cases hb : (i == f && s.mx.isNone) <;> simp only [hb,cond_true,cond_false] at hg
    · exact hG.sm f s' hg
    · simp only [Bool.and_eq_true,beq_iff_eq] at hb
      obtain ⟨rfl,_⟩ := hb
      obtain rfl := Option.some.inj hg
      exact h
  · simp only [Gam.getX] at hg
    cases hb : i == f <;> simp only [hb,cond_true,cond_false] at hg
    · exact hG.x f pat nb s' X hg
    · rw [Option.isNone_iff_eq_none] at hn
      rw [hn] at hg
      exact hG.x f pat nb s' X hg
theorem GamOk.consX [Inhabited GlobT] {i : Nat} {s : Sm} {X0 : XS} (hm : s.mx = some X0) (h : XOk P i s X0) (hG : GamOk P Γ) : GamOk P ((i,s) :: Γ) := by
  refine ⟨fun f s' hg => ?_,fun f pat nb s' X hg => ?_⟩
  · simp only [Gam.get,hm,Option.isNone_some,Bool.and_false,cond_false] at hg
    exact hG.sm f s' hg
  · simp only [Gam.getX,hm] at hg
    cases hb : i == f <;> simp only [hb,cond_true,cond_false] at hg
    · exact hG.x f pat nb s' X hg
    · cases hc : (eqPat X0.pat pat && eqN0 X0.nb nb) <;> simp only [hc,cond_true,cond_false] at hg
      · exact hG.x f pat nb s' X hg
      · simp only [Option.some.injEq,Prod.mk.injEq] at hg
        obtain ⟨rfl,rfl⟩ := hg
        obtain rfl : i = f := by simpa using hb
        exact h
theorem len_cons {α : Type} {n : Nat} {l : List α} (h : l.length = n + 1) : ∃ a t,l = a :: t ∧ t.length = n := by
  cases l with
  | nil => simp at h
  | cons a t => exact ⟨a,t,rfl,by simpa using h⟩
theorem map_cons' {α : Type} {n : Nat} {ns : List Nat} {bs : List (List α)} (h : bs.map List.length = n :: ns) : ∃ b t,bs = b :: t ∧ b.length = n ∧ t.map List.length = ns := by
  cases bs with
  | nil => simp at h
  | cons a t => simp only [List.map_cons,List.cons.injEq] at h; exact ⟨a,t,rfl,h.1,h.2⟩
theorem map_nil' {α : Type} {bs : List (List α)} (h : bs.map List.length = []) : bs = [] := by simpa using h
end
end Go.Am
end
section
/- Short names for what the models' theorems say. -/
namespace Go.Am
open Go
noncomputable abbrev cX [Inhabited GlobT] (P : Program) (G : Gam) (L : Lam AV) (d f fuel : Nat) : CallI AV := callX G (execFn P G [((d,f),L)] fuel d)
noncomputable abbrev bX [Inhabited GlobT] (P : Program) (G : Gam) (L : Lam AV) (d f i fuel : Nat) := exec P G L (fnNt P f) fuel (cX P G L d f fuel) (lp P f i).1 (lp P f i).2 (live (lp P f i).1 (lp P f i).2 0)
noncomputable abbrev hX (P : Program) (f i : Nat) (s : St) := headN (live (lp P f i).1 (lp P f i).2 0) (writes (lp P f i).1) s
abbrev LX [Inhabited GlobT] (P : Program) (G : Gam) (L : Lam AV) (d f i fuel : Nat) := LOk P G L (fnNt P f) fuel (cX P G L d f fuel) (lp P f i)
theorem sm0 [Inhabited GlobT] {P : Program} {G : Gam} (hΓ : GamOk P G) (hP : NamesOk P) {fuel d f : Nat} {rs : List RS} {F : List AV → Option AV}
    (hF : ∀ as v,F as = some v → run P G [] fuel d f as = some v) : SmOk P f (smM rs F) := smM_ok hΓ hP (LamOk.nil _ _ _) d f rs F hF
theorem smL [Inhabited GlobT] {P : Program} {G : Gam} (hΓ : GamOk P G) (hP : NamesOk P) {fuel d f n : Nat} {L : Lam AV} {rs : List RS} {F : List AV → Option AV} (hn : (fnLoops P f).length = n) (h : ∀ i,i < n → LX P G L d f i fuel)
    (hF : ∀ as v,F as = some v → run P G [((d,f),L)] fuel (d + 1) f as = some v) : SmOk P f (smM rs F) := smM_ok hΓ hP (LamOk.of d f L n hn h) (d + 1) f rs F hF
end Go.Am
end
section
/- The abstract machine: functions without a body. -/
namespace Go.Am
set_option linter.unusedSectionVars false

def sBits : Sm := ⟨true,fun as => match as with | [.flt .f64 o] => o.isSome | _ => false,fun as => match as with | [.flt .f64 o] => .int .u64 (o.getD 0) | _ => .int .u64 0,none⟩
def sFrom : Sm := ⟨true,fun as => match as with | [.int .u64 _] => true | _ => false,fun as => match as with | [.int .u64 n] => .flt .f64 (some n.toNat) | _ => .flt .f64 none,none⟩
def sFma : Sm := ⟨true,fun as => match as with | [.flt .f64 _,.flt .f64 _,.flt .f64 _] => true | _ => false,
  fun as => match as with | [.flt .f64 a,.flt .f64 b,.flt .f64 c] => .flt .f64 (a.bind fun x => b.bind fun y => c.bind fun z => FloatKind.f64.format.fma x y z) | _ => .flt .f64 none,none⟩
def sSqrt : Sm := ⟨true,fun as => match as with | [.flt .f64 _] => true | _ => false,fun as => match as with | [.flt .f64 a] => .flt .f64 (a.bind fun x => FloatKind.f64.format.sqrt x) | _ => .flt .f64 none,none⟩

section
variable [Inhabited GlobT] {P : Program} {f : FuncId} {fn : Func} {e : Array Value → Sem Value}

theorem ext_ok (hf : P.funcs[f]? = some fn) (hname : (fn.name == "runtime.NumGoroutine") = false) (hb : fn.body.isNone = true) (hn : Extern.findNext fn = none) (he : Extern.find fn = some e) (s : Sm)
    (hrun : ∀ (args : List AV) (vs : Array Value) (w : World) (S : Nat → Prop),vs.size = args.length → (∀ (j : Nat) u a,vs[j]? = some u → args[j]? = some a → Rd w S none u a) → s.ok args = true →
      ∃ v w', (e vs).run P w = .ok v w' ∧ w'.heap = w.heap ∧ w'.os = w.os ∧ w'.tape = w.tape ∧ w'.output = w.output ∧ Rd w S none v (s.val args))
    (hsc : ∀ args,scal (s.val args) = true) : SmOk P f s := by
  refine ⟨fun args vs w S hs hr hbd _ hok => ?_,fun _ args _ => hsc args⟩
  obtain ⟨v,w', h1,h2,h3,h4,h5,h6⟩ := hrun args vs w S hs hr hok
  unfold CallOk
  rw [run_callFunc_extern hf hname hb hn he,h1]
  exact ⟨S,h6.heap h2,fun _ h => h,fun _ h => .inl h,fun b hb' => by rw [h2]; exact hbd b hb', ⟨h3,h4,h5,by rw [h2]; exact Nat.le_refl _,fun k _ _ => by rw [h2]⟩⟩

theorem one_of {vs : Array Value} (h : vs.size = 1) : ∃ v,vs = #[v] := by
  obtain ⟨l⟩ := vs
  match l,h with
  | [v],_ => exact ⟨v,rfl⟩

theorem three_of {vs : Array Value} (h : vs.size = 3) : ∃ a b c,vs = #[a,b,c] := by
  obtain ⟨l⟩ := vs
  match l,h with
  | [a,b,c],_ => exact ⟨a,b,c,rfl⟩

theorem bits_ok (hf : P.funcs[f]? = some fn) (hname : (fn.name == "runtime.NumGoroutine") = false) (hb : fn.body.isNone = true) (hn : Extern.findNext fn = none) (he : Extern.find fn = some Extern.MathFloatBits.float64bits) : SmOk P f sBits := by
  refine ext_ok hf hname hb hn he sBits (fun args vs w S hs hr hok => ?_) (fun args => by simp only [sBits]; split <;> rfl)
  simp only [sBits] at hok ⊢
  split at hok
  · obtain ⟨v,rfl⟩ := one_of hs
    have := hr 0 v _ rfl rfl
    obtain ⟨b,rfl,hb⟩ := rd_flt this
    rcases hb with hb | ⟨hb,_⟩
    · subst hb
      exact ⟨_,w,rfl,rfl,rfl,rfl,rfl,.int _ _ _⟩
    · subst hb; cases hok
  · cases hok

theorem from_ok (hf : P.funcs[f]? = some fn) (hname : (fn.name == "runtime.NumGoroutine") = false) (hb : fn.body.isNone = true) (hn : Extern.findNext fn = none) (he : Extern.find fn = some Extern.MathFloatBits.float64frombits) : SmOk P f sFrom := by
  refine ext_ok hf hname hb hn he sFrom (fun args vs w S hs hr hok => ?_) (fun args => by simp only [sFrom]; split <;> rfl)
  simp only [sFrom] at hok ⊢
  split at hok
  · obtain ⟨v,rfl⟩ := one_of hs
    have := hr 0 v _ rfl rfl
    obtain rfl := rd_int this
    exact ⟨_,w,rfl,rfl,rfl,rfl,rfl,.fltS _ _ _⟩
  · cases hok

theorem fma_nan {k : FloatKind} {x y z : Nat} (h : isNan k x = true ∨ isNan k y = true ∨ isNan k z = true) : k.format.fma x y z = none := by
  unfold Ieee.Format.fma
  rcases h with h | h | h
  · obtain ⟨s,f,hr⟩ := nan_read h
    simp [hr,Ieee.Datum.product]
  · obtain ⟨s,f,hr⟩ := nan_read h
    rw [hr]
    cases k.format.read x <;> simp [Ieee.Datum.product]
  · obtain ⟨s,f,hr⟩ := nan_read h
    rw [hr]
    cases (k.format.read x).product (k.format.read y) with
    | none => rfl
    | some d => cases d <;> simp [Ieee.Datum.sum]

theorem sqrt_nan {k : FloatKind} {x : Nat} (h : isNan k x = true) : k.format.sqrt x = none := by
  obtain ⟨s,f,hr⟩ := nan_read h
  simp [Ieee.Format.sqrt,hr,Ieee.Datum.root]

theorem fma_ok (hf : P.funcs[f]? = some fn) (hname : (fn.name == "runtime.NumGoroutine") = false) (hb : fn.body.isNone = true) (hn : Extern.findNext fn = none) (he : Extern.find fn = some Extern.MathFMA.fma) : SmOk P f sFma := by
  refine ext_ok hf hname hb hn he sFma (fun args vs w S hs hr hok => ?_) (fun args => by simp only [sFma]; split <;> rfl)
  simp only [sFma] at hok ⊢
  split at hok
  · rename_i x y z
    obtain ⟨u1,u2,u3,rfl⟩ := three_of hs
    obtain ⟨a,rfl,ha⟩ := rd_flt (hr 0 u1 _ rfl rfl)
    obtain ⟨b,rfl,hb⟩ := rd_flt (hr 1 u2 _ rfl rfl)
    obtain ⟨c,rfl,hc⟩ := rd_flt (hr 2 u3 _ rfl rfl)
    have e : (x.bind fun x => y.bind fun y => z.bind fun z => FloatKind.f64.format.fma x y z) = FloatKind.f64.format.fma a b c := by
      rcases ha with rfl | ⟨rfl,ha⟩
      · rcases hb with rfl | ⟨rfl,hb⟩
        · rcases hc with rfl | ⟨rfl,hc⟩
          · rfl
          · rw [fma_nan (.inr (.inr hc))]; rfl
        · rw [fma_nan (.inr (.inl hb))]; rfl
      · rw [fma_nan (.inl ha)]; rfl
    simp only [e]
    have hdef : Extern.MathFMA.fma #[.float .f64 a,.float .f64 b,.float .f64 c] = (match FloatKind.f64.format.fma a b c with
      | some r => Pure.pure (Value.float .f64 r)
      | none => do
        let q := if Extern.MathFMA.isNaN a = true then (a,b) else if Extern.MathFMA.isNaN b = true then (b,c) else (c,c)
        Pure.pure (Value.float .f64 (← choose (.nanBits .f64 q.1 q.2)))) := rfl
    rw [hdef]
    cases hz : FloatKind.f64.format.fma a b c with
    | some r => exact ⟨.float .f64 r,w,by simp,rfl,rfl,rfl,rfl,.fltS _ _ _⟩
    | none =>
      generalize hq : (if Extern.MathFMA.isNaN a = true then (a,b) else if Extern.MathFMA.isNaN b = true then (b,c) else (c,c)) = q
      refine ⟨.float .f64 ((Question.nanBits .f64 q.1 q.2).cut (w.tape w.drawn (.nanBits .f64 q.1 q.2))),{ w with drawn := w.drawn + 1 },?_,rfl,rfl,rfl,rfl,.fltN _ _ _ (nan_cut _ _ _ _)⟩
      simp [Question.forced]
  · cases hok

theorem sqrt_ok (hf : P.funcs[f]? = some fn) (hname : (fn.name == "runtime.NumGoroutine") = false) (hb : fn.body.isNone = true) (hn : Extern.findNext fn = none) (he : Extern.find fn = some Extern.MathSqrt.sqrt) : SmOk P f sSqrt := by
  refine ext_ok hf hname hb hn he sSqrt (fun args vs w S hs hr hok => ?_) (fun args => by simp only [sSqrt]; split <;> rfl)
  simp only [sSqrt] at hok ⊢
  split at hok
  · rename_i x
    obtain ⟨u1,rfl⟩ := one_of hs
    obtain ⟨a,rfl,ha⟩ := rd_flt (hr 0 u1 _ rfl rfl)
    have e : (x.bind fun x => FloatKind.f64.format.sqrt x) = FloatKind.f64.format.sqrt a := by
      rcases ha with rfl | ⟨rfl,ha⟩
      · rfl
      · rw [sqrt_nan ha]; rfl
    simp only [e]
    have hdef : Extern.MathSqrt.sqrt #[.float .f64 a] = (match FloatKind.f64.format.sqrt a with
      | some r => Pure.pure (Value.float .f64 r)
      | none => do Pure.pure (Value.float .f64 (← choose (.nanBits .f64 a a)))) := rfl
    rw [hdef]
    cases hz : FloatKind.f64.format.sqrt a with
    | some r => exact ⟨.float .f64 r,w,by simp,rfl,rfl,rfl,rfl,.fltS _ _ _⟩
    | none =>
      refine ⟨.float .f64 ((Question.nanBits .f64 a a).cut (w.tape w.drawn (.nanBits .f64 a a))),{ w with drawn := w.drawn + 1 },?_,rfl,rfl,rfl,rfl,.fltN _ _ _ (nan_cut _ _ _ _)⟩
      simp [Question.forced]
  · cases hok
end
end Go.Am
end
section
/- The abstract machine, for calls without arguments: strictly, loops as they are, calls in regions that draw their order made outright. -/
namespace Go.Am
set_option linter.unusedSectionVars false

section
variable {α : Type}
def fInt (n : Int) (k : Int → α) : α := match n with
  | .ofNat m => fNat m fun m => k (.ofNat m)
  | .negSucc m => fNat m fun m => k (.negSucc m)
theorem fInt_eq (n : Int) (k : Int → α) : fInt n k = k n := by
  cases n with
  | ofNat m => exact fNat_eq m fun m => k (.ofNat m)
  | negSucc m => exact fNat_eq m fun m => k (.negSucc m)
def fBool (b : Bool) (k : Bool → α) : α := match b with
  | true => k true
  | false => k false
theorem fBool_eq (b : Bool) (k : Bool → α) : fBool b k = k b := by cases b <;> rfl
def fOpt (o : Option Nat) (k : Option Nat → α) : α := match o with
  | none => k none
  | some m => fNat m fun m => k (some m)
theorem fOpt_eq (o : Option Nat) (k : Option Nat → α) : fOpt o k = k o := by
  cases o with
  | none => rfl
  | some m => exact fNat_eq m fun m => k (some m)

mutual
def force0 : AV → (AV → α) → α
  | .int c n,k => fInt n fun n => k (.int c n)
  | .bool b,k => fBool b fun b => k (.bool b)
  | .flt c x,k => fOpt x fun x => k (.flt c x)
  | .agg cs,k => forceL0 cs fun cs => k (.agg cs)
  | .tup cs,k => forceL0 cs fun cs => k (.tup cs)
  | .ro sz n rd g,k => fNat n fun n => fNat rd fun rd => k (.ro sz n rd g)
  | .own t off sz n c,k => fNat t fun t => fNat off fun off => fNat n fun n => fNat c fun c => k (.own t off sz n c)
  | .lst t sz,k => fNat t fun t => k (.lst t sz)
  | .ptr t o,k => fNat t fun t => fNat o fun o => k (.ptr t o)
  | .ep t sz i j,k => fNat t fun t => fNat i fun i => fNat j fun j => k (.ep t sz i j)
  | .mp t,k => fNat t fun t => k (.mp t)
  | .fn f a b,k => forceL0 a fun a => forceL0 b fun b => k (.fn f a b)
  | .ifc ty v,k => force0 v fun v => k (.ifc ty v)
  | .rp n g,k => fNat n fun n => k (.rp n g)
  | .dead,k => k .dead
  | .str s,k => k (.str s)
  | .nilp,k => k .nilp
  | .nilf,k => k .nilf
  | .nili,k => k .nili
  | .nils sz z,k => k (.nils sz z)
def forceL0 : List AV → (List AV → α) → α
  | [],k => k []
  | v :: r,k => force0 v fun v => forceL0 r fun r => k (v :: r)
end

mutual
theorem force0_eq : ∀ (v : AV) (k : AV → α),force0 v k = k v
  | .int c n,k => by simp only [force0]; exact fInt_eq _ _
  | .bool b,k => by simp only [force0]; exact fBool_eq _ _
  | .flt c x,k => by simp only [force0]; exact fOpt_eq _ _
  | .agg cs,k => by simp only [force0]; exact forceL0_eq _ _
  | .tup cs,k => by simp only [force0]; exact forceL0_eq _ _
  | .ro sz n rd g,k => by simp only [force0,fNat_eq]
  | .own t off sz n c,k => by simp only [force0,fNat_eq]
  | .lst t sz,k => by simp only [force0,fNat_eq]
  | .ptr t o,k => by simp only [force0,fNat_eq]
  | .ep t sz i j,k => by simp only [force0,fNat_eq]
  | .mp t,k => by simp only [force0,fNat_eq]
  | .fn f a b,k => by simp only [force0]; rw [forceL0_eq,forceL0_eq]
  | .ifc ty v,k => by simp only [force0]; exact force0_eq _ _
  | .rp n g,k => by simp only [force0,fNat_eq]
  | .dead,k => rfl
  | .str s,k => rfl
  | .nilp,k => rfl
  | .nilf,k => rfl
  | .nili,k => rfl
  | .nils sz z,k => rfl
theorem forceL0_eq : ∀ (l : List AV) (k : List AV → α),forceL0 l k = k l
  | [],k => rfl
  | v :: r,k => by simp only [forceL0]; rw [force0_eq,forceL0_eq]
end

/-! ### Lists that are only read, as tables -/
def tabL : List AV → Nat → AV → AV
  | [],_,d => d
  | v :: _,0,_ => v
  | _ :: r,j + 1,d => tabL r j d
def tabR : List (List AV) → Nat → Nat → AV → AV
  | [],_,_,d => d
  | r :: _,0,j,d => tabL r j d
  | _ :: R,i + 1,j,d => tabR R i j d
def tabG (T : List (List AV)) (g : Nat → Nat → AV) : Nat → Nat → AV := fun i j => tabR T i j (g i j)
def mkRow (g : Nat → Nat → AV) (i : Nat) : Nat → Nat → List AV
  | 0,_ => []
  | m + 1,j => g i j :: mkRow g i m (j + 1)
def mkRows (g : Nat → Nat → AV) (sz : Nat) : Nat → Nat → List (List AV)
  | 0,_ => []
  | m + 1,i => mkRow g i sz 0 :: mkRows g sz m (i + 1)
theorem tabL_row (g : Nat → Nat → AV) (i : Nat) : ∀ (m j0 j : Nat),tabL (mkRow g i m j0) j (g i (j0 + j)) = g i (j0 + j)
  | 0,_,_ => rfl
  | m + 1,j0,0 => rfl
  | m + 1,j0,j + 1 => by
    have := tabL_row g i m (j0 + 1) j
    rw [show j0 + 1 + j = j0 + (j + 1) by omega] at this
    exact this
theorem tabR_rows (g : Nat → Nat → AV) (sz : Nat) : ∀ (m i0 i j : Nat),tabR (mkRows g sz m i0) i j (g (i0 + i) j) = g (i0 + i) j
  | 0,_,_,_ => rfl
  | m + 1,i0,0,j => by
    have := tabL_row g i0 sz 0 j
    rw [Nat.zero_add] at this
    exact this
  | m + 1,i0,i + 1,j => by
    have := tabR_rows g sz m (i0 + 1) i j
    rw [show i0 + 1 + i = i0 + (i + 1) by omega] at this
    exact this
theorem tabG_rows (g : Nat → Nat → AV) (sz m : Nat) : tabG (mkRows g sz m 0) g = g := by
  funext i j
  have := tabR_rows g sz m 0 i j
  rw [Nat.zero_add] at this
  exact this
def fRow (f : AV → (AV → α) → α) (g : Nat → Nat → AV) (i : Nat) : Nat → Nat → (List AV → α) → α
  | 0,_,k => k []
  | m + 1,j,k => f (g i j) fun v => fRow f g i m (j + 1) fun r => k (v :: r)
theorem fRow_eq {f : AV → (AV → α) → α} (hf : ∀ v k,f v k = k v) (g : Nat → Nat → AV) (i : Nat) : ∀ (m j : Nat) (k : List AV → α),fRow f g i m j k = k (mkRow g i m j)
  | 0,_,_ => rfl
  | m + 1,j,k => by simp only [fRow]; rw [hf,fRow_eq hf]; rfl
def fRows (f : AV → (AV → α) → α) (g : Nat → Nat → AV) (sz : Nat) : Nat → Nat → (List (List AV) → α) → α
  | 0,_,k => k []
  | m + 1,i,k => fRow f g i sz 0 fun r => fRows f g sz m (i + 1) fun R => k (r :: R)
theorem fRows_eq {f : AV → (AV → α) → α} (hf : ∀ v k,f v k = k v) (g : Nat → Nat → AV) (sz : Nat) : ∀ (m i : Nat) (k : List (List AV) → α),fRows f g sz m i k = k (mkRows g sz m i)
  | 0,_,_ => rfl
  | m + 1,i,k => by simp only [fRows]; rw [fRow_eq hf,fRows_eq hf]; rfl
mutual
def forceG (f : AV → (AV → α) → α) : AV → (AV → α) → α
  | .int c n,k => fInt n fun n => k (.int c n)
  | .bool b,k => fBool b fun b => k (.bool b)
  | .flt c x,k => fOpt x fun x => k (.flt c x)
  | .agg cs,k => forceGL f cs fun cs => k (.agg cs)
  | .tup cs,k => forceGL f cs fun cs => k (.tup cs)
  | .ro sz n rd g,k => fNat sz fun sz => fNat n fun n => fNat rd fun rd => bif Nat.ble (rd * sz) 96 then fRows f g sz rd 0 fun T => k (.ro sz n rd (tabG T g)) else k (.ro sz n rd g)
  | .own t off sz n c,k => fNat t fun t => fNat off fun off => fNat n fun n => fNat c fun c => k (.own t off sz n c)
  | .lst t sz,k => fNat t fun t => k (.lst t sz)
  | .ptr t o,k => fNat t fun t => fNat o fun o => k (.ptr t o)
  | .ep t sz i j,k => fNat t fun t => fNat i fun i => fNat j fun j => k (.ep t sz i j)
  | .mp t,k => fNat t fun t => k (.mp t)
  | .fn p a b,k => forceGL f a fun a => forceGL f b fun b => k (.fn p a b)
  | .ifc ty v,k => forceG f v fun v => k (.ifc ty v)
  | .rp n g,k => fNat n fun n => k (.rp n g)
  | .dead,k => k .dead
  | .str s,k => k (.str s)
  | .nilp,k => k .nilp
  | .nilf,k => k .nilf
  | .nili,k => k .nili
  | .nils sz z,k => k (.nils sz z)
def forceGL (f : AV → (AV → α) → α) : List AV → (List AV → α) → α
  | [],k => k []
  | v :: r,k => forceG f v fun v => forceGL f r fun r => k (v :: r)
end

mutual
theorem forceG_eq {f : AV → (AV → α) → α} (hf : ∀ v k,f v k = k v) : ∀ (v : AV) (k : AV → α),forceG f v k = k v
  | .int c n,k => by simp only [forceG]; exact fInt_eq _ _
  | .bool b,k => by simp only [forceG]; exact fBool_eq _ _
  | .flt c x,k => by simp only [forceG]; exact fOpt_eq _ _
  | .agg cs,k => by simp only [forceG]; exact forceGL_eq hf _ _
  | .tup cs,k => by simp only [forceG]; exact forceGL_eq hf _ _
  | .ro sz n rd g,k => by
    simp only [forceG,fNat_eq]
    cases Nat.ble (rd * sz) 96 <;> simp only [cond_true,cond_false]
    rw [fRows_eq hf,tabG_rows]
  | .own t off sz n c,k => by simp only [forceG,fNat_eq]
  | .lst t sz,k => by simp only [forceG,fNat_eq]
  | .ptr t o,k => by simp only [forceG,fNat_eq]
  | .ep t sz i j,k => by simp only [forceG,fNat_eq]
  | .mp t,k => by simp only [forceG,fNat_eq]
  | .fn f a b,k => by simp only [forceG]; rw [forceGL_eq hf,forceGL_eq hf]
  | .ifc ty v,k => by simp only [forceG]; exact forceG_eq hf _ _
  | .rp n g,k => by simp only [forceG,fNat_eq]
  | .dead,k => rfl
  | .str s,k => rfl
  | .nilp,k => rfl
  | .nilf,k => rfl
  | .nili,k => rfl
  | .nils sz z,k => rfl
theorem forceGL_eq {f : AV → (AV → α) → α} (hf : ∀ v k,f v k = k v) : ∀ (l : List AV) (k : List AV → α),forceGL f l k = k l
  | [],k => rfl
  | v :: r,k => by simp only [forceGL]; rw [forceG_eq hf,forceGL_eq hf]
end

def force (v : AV) (k : AV → α) : α := forceG (forceG force0) v k
theorem force_eq (v : AV) (k : AV → α) : force v k = k v := forceG_eq (forceG_eq force0_eq) v k
def forceL (l : List AV) (k : List AV → α) : α := forceGL (forceG force0) l k
theorem forceL_eq (l : List AV) (k : List AV → α) : forceL l k = k l := forceGL_eq (forceG_eq force0_eq) l k

def forceLL : List (List AV) → (List (List AV) → α) → α
  | [],k => k []
  | v :: r,k => forceL v fun v => forceLL r fun r => k (v :: r)
theorem forceLL_eq : ∀ (l : List (List AV)) (k : List (List AV) → α),forceLL l k = k l
  | [],k => rfl
  | v :: r,k => by simp only [forceLL]; rw [forceL_eq,forceLL_eq]
def forceM : List (AV × AV) → (List (AV × AV) → α) → α
  | [],k => k []
  | (a,b) :: r,k => force a fun a => force b fun b => forceM r fun r => k ((a,b) :: r)
theorem forceM_eq : ∀ (l : List (AV × AV)) (k : List (AV × AV) → α),forceM l k = k l
  | [],k => rfl
  | (a,b) :: r,k => by simp only [forceM]; rw [force_eq,force_eq,forceM_eq]
def fBlk : Blk → (Blk → α) → α
  | .gone,k => k .gone
  | .box cs,k => forceL cs fun cs => k (.box cs)
  | .fx sz z els,k => forceLL els fun els => k (.fx sz z els)
  | .fl sz z els,k => forceLL els fun els => k (.fl sz z els)
  | .it s pos,k => fNat pos fun pos => k (.it s pos)
  | .mp es,k => forceM es fun es => k (.mp es)
theorem fBlk_eq (b : Blk) (k : Blk → α) : fBlk b k = k b := by
  cases b <;> simp only [fBlk,forceL_eq,forceLL_eq,forceM_eq,fNat_eq]
def fH : List Blk → (List Blk → α) → α
  | [],k => k []
  | b :: r,k => fBlk b fun b => fH r fun r => k (b :: r)
theorem fH_eq : ∀ (h : List Blk) (k : List Blk → α),fH h k = k h
  | [],k => rfl
  | b :: r,k => by simp only [fH]; rw [fBlk_eq,fH_eq]
/-- What is touched, or new. -/
def fHs (F : List Nat) (n0 : Nat) : Nat → List Blk → (List Blk → α) → α
  | _,[],k => k []
  | i,b :: r,k => bif Nat.ble n0 i || isIn i F then fBlk b fun b => fHs F n0 (i + 1) r fun r => k (b :: r) else fHs F n0 (i + 1) r fun r => k (b :: r)
theorem fHs_eq (F : List Nat) (n0 : Nat) : ∀ (h : List Blk) (i : Nat) (k : List Blk → α),fHs F n0 i h k = k h
  | [],_,k => rfl
  | b :: r,i,k => by
    simp only [fHs]
    cases Nat.ble n0 i || isIn i F <;> simp only [cond_true,cond_false]
    · exact fHs_eq F n0 r (i + 1) _
    · rw [fBlk_eq]; exact fHs_eq F n0 r (i + 1) _
def fOv (F : List Nat) : Nat → List Blk → List Blk → (List Blk → α) → α
  | i,[],new,k => fHs [] 0 i new k
  | i,b :: r,n :: r', k => bif isIn i F then fBlk n fun n => fOv F (i + 1) r r' fun t => k (n :: t) else fOv F (i + 1) r r' fun t => k (b :: t)
  | _,b :: r,[],k => k (b :: r)
theorem fOv_eq (F : List Nat) : ∀ (h n : List Blk) (i : Nat) (k : List Blk → α),fOv F i h n k = k (over F i h n)
  | [],n,i,k => by simp only [fOv,over]; exact fHs_eq _ _ _ _ _
  | b :: r,n :: r', i,k => by
    simp only [fOv,over]
    cases isIn i F <;> simp only [cond_true,cond_false]
    · exact fOv_eq F r r' (i + 1) _
    · rw [fBlk_eq]; exact fOv_eq F r r' (i + 1) _
  | b :: r,[],i,k => by simp only [fOv,over]
def fHk (ks F : List Nat) (n0 : Nat) (h : List Blk) (k : List Blk → α) : α := match ks with
  | [] => fHs F n0 0 h k
  | _ => fH h k
theorem fHk_eq (ks F : List Nat) (n0 : Nat) (h : List Blk) (k : List Blk → α) : fHk ks F n0 h k = k h := by
  cases ks
  · exact fHs_eq F n0 h 0 k
  · exact fH_eq h k
def fEnv : Env → (Env → α) → α
  | [],k => k []
  | (i,v) :: r,k => fNat i fun i => force0 v fun v => fEnv r fun r => k ((i,v) :: r)
theorem fEnv_eq : ∀ (e : Env) (k : Env → α),fEnv e k = k e
  | [],k => rfl
  | (i,v) :: r,k => by simp only [fEnv]; rw [fNat_eq,force0_eq,fEnv_eq]
def fSt (s : St) (k : St → α) : α := fEnv s.env fun e => k ⟨e,s.h,s.kd⟩
theorem fSt_eq (s : St) (k : St → α) : fSt s k = k s := by simp only [fSt]; rw [fEnv_eq]
end


/-! ### The same look-ups, by the recursors themselves (fewer steps in the kernel) -/
theorem beqN (i s : Nat) : (i == s) = Nat.beq i s := by
  rw [Bool.eq_iff_iff]; simp
noncomputable def isInZ (t : Nat) (l : List Nat) : Bool := List.rec (motive := fun _ => Bool) false (fun x _ ih => Bool.rec (motive := fun _ => Bool) ih true (Nat.beq x t)) l
theorem isInZ_eq (t : Nat) : ∀ l : List Nat,isInZ t l = isIn t l
  | [] => rfl
  | x :: r => by
    show Bool.rec (motive := fun _ => Bool) (isInZ t r) true (Nat.beq x t) = isIn t (x :: r)
    simp only [isIn,beqN,isInZ_eq t r]
    cases Nat.beq x t <;> rfl
noncomputable def egetZ (e : Env) (s : Nat) : AV := List.rec (motive := fun _ => AV) .dead (fun p _ ih => Bool.rec (motive := fun _ => AV) ih p.2 (Nat.beq p.1 s)) e
theorem egetZ_eq (s : Nat) : ∀ e : Env,egetZ e s = eget e s
  | [] => rfl
  | (i,v) :: r => by
    show Bool.rec (motive := fun _ => AV) (egetZ r s) v (Nat.beq i s) = eget ((i,v) :: r) s
    simp only [eget,beqN,egetZ_eq s r]
    cases Nat.beq i s <;> rfl
noncomputable def esetZ (e : Env) (s : Nat) (v : AV) : Env := List.rec (motive := fun _ => Env) [(s,v)] (fun p r ih => Bool.rec (motive := fun _ => Env) (Bool.rec (motive := fun _ => Env) (p :: ih) ((s,v) :: p :: r) (Nat.blt s p.1)) ((s,v) :: r) (Nat.beq p.1 s)) e
theorem esetZ_eq (s : Nat) (v : AV) : ∀ e : Env,esetZ e s v = eset e s v
  | [] => rfl
  | (i,u) :: r => by
    show Bool.rec (motive := fun _ => Env) (Bool.rec (motive := fun _ => Env) ((i,u) :: esetZ r s v) ((s,v) :: (i,u) :: r) (Nat.blt s i)) ((s,v) :: r) (Nat.beq i s) = eset ((i,u) :: r) s v
    simp only [eset,beqN,esetZ_eq s v r]
    cases Nat.beq i s <;> cases Nat.blt s i <;> rfl
noncomputable def closeZ (env : Env) (loc : Loc) : Env := List.rec (motive := fun _ => Env) env (fun p _ ih => esetZ ih p.1 (Option.rec (motive := fun _ => AV) p.2.2 (fun _ => .dead) p.2.1)) loc
theorem closeZ_eq (env : Env) : ∀ loc : Loc,closeZ env loc = close env loc
  | [] => rfl
  | (i,k,v) :: r => by
    show esetZ (closeZ env r) i (Option.rec (motive := fun _ => AV) v (fun _ => .dead) k) = close env ((i,k,v) :: r)
    rw [esetZ_eq,closeZ_eq env r]
    cases k <;> rfl
noncomputable def lgetZ (env : Env) (ks : List (Nat × Bool)) (loc : Loc) (s : Nat) : AV := List.rec (motive := fun _ => AV) (egetZ env s)
  (fun p _ ih => Bool.rec (motive := fun _ => AV) ih (Option.rec (motive := fun _ => AV) p.2.2 (fun k => Bool.rec (motive := fun _ => AV) .dead p.2.2 (keyIn k ks)) p.2.1) (Nat.beq p.1 s)) loc
theorem lgetZ_eq (env : Env) (ks : List (Nat × Bool)) (s : Nat) : ∀ loc : Loc,lgetZ env ks loc s = lget env ks loc s
  | [] => egetZ_eq s env
  | (i,k,v) :: r => by
    show Bool.rec (motive := fun _ => AV) (lgetZ env ks r s) (Option.rec (motive := fun _ => AV) v (fun k => Bool.rec (motive := fun _ => AV) .dead v (keyIn k ks)) k) (Nat.beq i s) = lget env ks ((i,k,v) :: r) s
    simp only [lget,beqN,lgetZ_eq env ks s r]
    cases Nat.beq i s
    · rfl
    · cases k with
      | none => rfl
      | some k => cases h : keyIn k ks <;> simp [h]
noncomputable def opndZ [Inhabited GlobT] (env : Env) (loc : Loc) (ks : List (Nat × Bool)) : Operand → AV := fun x => match x with
  | .tmp t => lgetZ env ks loc t
  | .const v => ofVal v
  | .func f => .fn (.func f) [] []
  | .global g => glook (default : GlobT).gl g
theorem opndZ_eq [Inhabited GlobT] (env : Env) (loc : Loc) (ks : List (Nat × Bool)) : opndZ env loc ks = opnd env loc ks := by
  funext x
  cases x <;> simp only [opndZ,opnd,lgetZ_eq]
noncomputable def opndDZ [Inhabited GlobT] (env : Env) (loc : Loc) (ks : List (Nat × Bool)) (us : List Nat) : Operand → AV := fun x => match x with
  | .tmp t => Bool.rec (motive := fun _ => AV) .dead (lgetZ env ks loc t) (isInZ t us)
  | .const v => ofVal v
  | .func f => .fn (.func f) [] []
  | .global g => glook (default : GlobT).gl g
theorem opndDZ_eq [Inhabited GlobT] (env : Env) (loc : Loc) (ks : List (Nat × Bool)) (us : List Nat) : opndDZ env loc ks us = opndD env loc ks us := by
  funext x
  cases x <;> simp only [opndDZ,opndD,lgetZ_eq,isInZ_eq]
  rename_i t
  cases isIn t us <;> rfl
/-- Of what is needed behind alone. -/
noncomputable def keepF (m : Nat) (e : Env) : Env := List.rec (motive := fun _ => Env) [] (fun p _ ih => Bool.rec (motive := fun _ => Env) ih (p :: ih) (Nat.testBit m p.1)) e
theorem keepF_get (m s : Nat) : ∀ e : Env,eget (keepF m e) s = if Nat.testBit m s = true then eget e s else .dead
  | [] => by simp [keepF,eget]
  | (i,v) :: r => by
    have e1 : keepF m ((i,v) :: r) = Bool.rec (motive := fun _ => Env) (keepF m r) ((i,v) :: keepF m r) (Nat.testBit m i) := rfl
    rw [e1]
    by_cases his : i = s
    · subst his
      cases h : Nat.testBit m i
      · show eget (keepF m r) i = _
        rw [keepF_get m i r,h]
        simp
      · simp [eget]
    · have hb : (i == s) = false := by simpa using his
      have e2 : eget ((i,v) :: r) s = eget r s := by simp [eget,hb]
      rw [e2,← keepF_get m s r]
      cases h : Nat.testBit m i
      · rfl
      · simp [eget,hb]

abbrev DZ := AV × List Blk × List Nat
def cdZ (call : CallI DZ) : CallD := fun f args h => match call f args h (fun v h' ks => some (v,h', ks)) with
  | some (v,h', ks) => bif ks.all (fun k => Nat.ble h.length k) then some (v,h') else none
  | none => none

/-- A call: by what is known of it, where that is known, else outright. -/
def callZ (Γ : Gam) (inl : CallI DZ) : CallI DZ := fun g args h K => match fcall Γ g args h with
  | some (cs,v,h') => bif cs.all id then force v fun v => fHs (args.flatMap (reach h 4)) h.length 0 h' fun h' => K v h' [] else inl g args h K
  | none => match xcall Γ g args h with
    | some (cs,v,h') => bif cs.all id then force v fun v => fHs (args.flatMap (reach h 4)) h.length 0 h' fun h' => K v h' [] else inl g args h K
    | none => inl g args h K

section
variable [Inhabited GlobT] (P : Program) (Γ : Gam)
noncomputable def ropsZ {R : Type} (nt : Nat) (call : CallI R) (ops : Array Oper) : List Oper → Loc → Env → List Blk → List Nat → (Env → List Blk → List Nat → Option R) → Option R
  | [],loc,env,h,kd,K => fEnv (closeZ env loc) fun e => K e h kd
  | o :: rest,loc,env,h,kd,K =>
    bif !(dstOk nt (guardOf ops o) loc o.dst) || !(guardOk ops o) then none else
    match gateOf env loc (guardOf ops o) with
    | none => none
    | some gb =>
      match qop P h (opndZ env loc (keys env loc 8 (guardOf ops o))) (opndZ env loc (thenOf o (keys env loc 8 (guardOf ops o)) true)) (opndZ env loc (thenOf o (keys env loc 8 (guardOf ops o)) false)) o with
      | some (cs,v) => force v fun v => chk gb (ropsZ nt call ops rest (putL o.dst (guardOf ops o) v loc) env h kd K) cs
      | none => match o.op with
        | .call { callee := .value f,args,argTypes } =>
          match opndZ env loc (keys env loc 8 (guardOf ops o)) f with
          | .fn (.func f) [] caps =>
            bif !(args.size == argTypes.size) then none else
            match Γ.get f with
            | some s =>
              bif s.sc then chk gb (ropsZ nt call ops rest (putL o.dst (guardOf ops o) (s.val ((argsOf P (opndZ env loc (keys env loc 8 (guardOf ops o))) ⟨.value (.func f),args,argTypes⟩ ++ caps).map (frz h 4))) loc) env h kd K)
                [s.ok ((argsOf P (opndZ env loc (keys env loc 8 (guardOf ops o))) ⟨.value (.func f),args,argTypes⟩ ++ caps).map (frz h 4))]
              else match guardOf ops o with
                | some _ => none
                | none => chk true (ropsZ nt call ops rest (putL o.dst none (s.val ((argsOf P (opndZ env loc []) ⟨.value (.func f),args,argTypes⟩ ++ caps).map (frz h 4))) loc) env
                    (strike ((argsOf P (opndZ env loc []) ⟨.value (.func f),args,argTypes⟩ ++ caps).flatMap (reach h 4)) h) kd K)
                    [s.ok ((argsOf P (opndZ env loc []) ⟨.value (.func f),args,argTypes⟩ ++ caps).map (frz h 4))]
            | none => match guardOf ops o with
              | some gk => (match sureG env loc 8 (some gk) with
                | some true => call f (argsOf P (opndZ env loc (keys env loc 8 (guardOf ops o))) ⟨.value (.func f),args,argTypes⟩ ++ caps) h fun v h' ks => ropsZ nt call ops rest (putL o.dst (guardOf ops o) v (lkills ks loc)) (ekills ks env) h' (addK ks kd) K
                | some false => ropsZ nt call ops rest (putL o.dst (guardOf ops o) .dead loc) env h kd K
                | none => none)
              | none => call f (argsOf P (opndZ env loc []) ⟨.value (.func f),args,argTypes⟩ ++ caps) h fun v h' ks => force0 v fun v => ropsZ nt call ops rest (putL o.dst none v (lkills ks loc)) (ekills ks env) h' (addK ks kd) K
          | _ => none
        | _ => match guardOf ops o with
          | some _ => match gmop P h (opndZ env loc (keys env loc 8 (guardOf ops o))) o rest with
            | some (cs,v) => chk gb (ropsZ nt call ops rest (putL o.dst (guardOf ops o) v loc) env h kd K) cs
            | none => none
          | none => match nxt h (opndZ env loc []) o with
            | some (c,r1,r2) => bif c then chk true (ropsZ nt call ops rest (putL o.dst none r1.v (lkills r1.ks loc)) (ekills r1.ks env) r1.h (addK r1.ks kd) K) r1.ok
              else chk true (ropsZ nt call ops rest (putL o.dst none r2.v (lkills r2.ks loc)) (ekills r2.ks env) r2.h (addK r2.ks kd) K) r2.ok
            | none => match mop P h (opndZ env loc []) o rest with
              | some r => force r.v fun v => fHk r.ks (footOf h (opndZ env loc []) o) h.length r.h fun h' => chk true (ropsZ nt call ops rest (putL o.dst none v (lkills r.ks loc)) (ekills r.ks env) h' (addK r.ks kd) K) r.ok
              | none => none

noncomputable def dopsZ {R : Type} (cd : CallD) (nt : Nat) (ops : Array Oper) (env : Env) (K : Loc → List Blk → Option R) : List Oper → Nat → List DRec → Loc → List Blk → Option R
  | [],_,_,loc,h => K loc h
  | o :: rest,i,rs,loc,h =>
    bif !(dstOk nt (guardOf ops o) loc o.dst) then none else
    match gateOf env loc (guardOf ops o) with
    | none => none
    | some gb =>
      match dstep P Γ cd (restr (footOf h (opndDZ env loc (keys env loc 8 (guardOf ops o)) (looks ops o)) o) 0 h) (opndDZ env loc (keys env loc 8 (guardOf ops o)) (looks ops o))
          (opndDZ env loc (thenOf o (keys env loc 8 (guardOf ops o)) true) (looks ops o)) (opndDZ env loc (thenOf o (keys env loc 8 (guardOf ops o)) false) (looks ops o)) ops.toList (guardOf ops o) o with
      | none => none
      | some d => bif !(Nat.ble h.length d.h.length) || rs.any (fun r => clash (footOf h (opndDZ env loc (keys env loc 8 (guardOf ops o)) (looks ops o)) o) d.mu r && !(tw ops i r.i)) then none else
        force d.v fun v => fOv (footOf h (opndDZ env loc (keys env loc 8 (guardOf ops o)) (looks ops o)) o) 0 h d.h fun h' =>
        chk gb (dopsZ cd nt ops env K rest (i + 1) (⟨i,footOf h (opndDZ env loc (keys env loc 8 (guardOf ops o)) (looks ops o)) o,h.length,d.h.length,d.mu⟩ :: rs) (putL o.dst (guardOf ops o) v loc) h') d.cs

noncomputable def loopZ {R : Type} (body : St → (Ex → St → Option R) → Option R) (norm : St → St) : Nat → St → (Ex → St → Option R) → Option R
  | 0,_,_ => none
  | n + 1,st,K => body st fun e s => match e with
    | .normal => fSt (norm s) fun s => loopZ body norm n s K
    | e => K e s

/-- What is needed behind alone. -/
noncomputable def keepZ (m : Nat) (s : St) : St := ⟨keepF m s.env,s.h,s.kd⟩
noncomputable def execZ (nt fuel : Nat) (call : CallI DZ) : Code → Lv → Nat → St → (Ex → St → Option DZ) → Option DZ
  | .skip,_,_,st,K => K .normal st
  | .region _ ops draw,_,_,st,K => bif draw then (bif P.follows .mixedOrders && okD ops then dopsZ P Γ (cdZ call) nt ops st.env (fun loc h => fEnv (closeZ st.env loc) fun e => K .normal ⟨e,h,st.kd⟩) ops.toList 0 [] [] st.h else none) else ropsZ P Γ nt call ops ops.toList [] st.env st.h st.kd fun e h kd => K .normal ⟨e,h,kd⟩
  | .seq a b,lv,out,st,K => execZ nt fuel call a lv (live b lv out) st fun e s => match e with
    | .normal => execZ nt fuel call b lv out s K
    | e => K e s
  | .cond c a b,lv,out,st,K => match opndZ st.env [] [] c with
    | .bool v => bif v then execZ nt fuel call a lv out st K else execZ nt fuel call b lv out st K
    | _ => none
  | .block id c,lv,out,st,K => execZ nt fuel call c { lv with ex := (id,out) :: lv.ex } out st fun e s => match e with
    | .exit j => bif j == id then K .normal s else K (.exit j) s
    | e => K e s
  | .loop c,lv,_,st,K => fSt (keepZ (live c lv 0) st) fun st1 => loopZ (execZ nt fuel call c lv (live c lv 0)) (keepZ (live c lv 0)) fuel st1 K
  | .exit id,lv,_,st,K => K (.exit id) ⟨keepF (lvAt lv.ex id) st.env,st.h,st.kd⟩
  | .ret,lv,_,st,K => K .ret ⟨keepF lv.ret st.env,st.h,st.kd⟩
  | _,_,_,_,_ => none

noncomputable def execFnZ (fuel : Nat) : Nat → FuncId → List AV → List Blk → (AV → List Blk → List Nat → Option DZ) → Option DZ
  | 0,_,_,_,_ => none
  | n + 1,f,args,h,K => match P.funcs[f]? with
    | none => none
    | some fn => match fn.body with
      | none => none
      | some c => bif Nat.blt fn.ntmps args.length then none else
        execZ P Γ fn.ntmps fuel (callZ Γ (execFnZ fuel n)) c ⟨retMask fn.results.toList,[]⟩ (retMask fn.results.toList) ⟨params 0 args,h,[]⟩ fun e st => match e with
        | .exit _ => none
        | _ => match resV P st fn.results.toList fn.resultTypes.toList with
          | some [v] => K v st.h st.kd
          | some vs => K (.tup vs) st.h st.kd
          | none => none
/-- What a call without arguments answers. -/
noncomputable def runZ (fuel depth : Nat) (f : FuncId) : Option AV := match execFnZ P Γ fuel depth f [] [] fun v h ks => some (v,h,ks) with
  | some (v,h,_) => some (frz h 4 v)
  | none => none
end

section
variable [Inhabited GlobT] {P : Program} {Γ : Gam}
theorem ropsZ_eq {R : Type} (nt : Nat) (call : CallI R) (ops : Array Oper) : ∀ (rest : List Oper) (loc : Loc) (env : Env) (h : List Blk) (kd : List Nat) (K : Env → List Blk → List Nat → Option R),
    ropsZ P Γ nt call ops rest loc env h kd K = rops P Γ nt call ops rest loc env h kd K := by
  intro rest
  induction rest with
  | nil => intro loc env h kd K; simp only [ropsZ,rops,fEnv_eq,closeZ_eq]
  | cons o rest ih => intro loc env h kd K; simp only [ropsZ,rops,force_eq,force0_eq,fHk_eq,opndZ_eq,ih]; rfl
theorem dopsZ_eq {R : Type} (cd : CallD) (nt : Nat) (ops : Array Oper) (env : Env) (K : Loc → List Blk → Option R) : ∀ (rest : List Oper) (i : Nat) (rs : List DRec) (loc : Loc) (h : List Blk),
    dopsZ P Γ cd nt ops env K rest i rs loc h = dops P Γ cd nt ops env K rest i rs loc h := by
  intro rest
  induction rest with
  | nil => intro i rs loc h; rfl
  | cons o rest ih => intro i rs loc h; simp only [dopsZ,dops,force_eq,fOv_eq,opndDZ_eq,ih]; rfl
theorem loopZ_eq {R : Type} (body : St → (Ex → St → Option R) → Option R) (norm : St → St) : ∀ (n : Nat) (st : St) (K : Ex → St → Option R),loopZ body norm n st K = loopK body norm n st K
  | 0,_,_ => rfl
  | n + 1,st,K => by simp only [loopZ,loopK,fSt_eq,loopZ_eq body norm n]; rfl
end

section
variable {P : Program} {Γ : Gam} {w w' : World} {S S' Own : Nat → Prop} {l l' : List Tk} {h : List Blk} {env : Env} {loc : Loc} {a : Act}
theorem cdZ_ok [Inhabited GlobT] {call : CallI DZ} (hc : CallIOk P call) : CallDOk P (cdZ call) := by
  intro f args h v h' hx w S Own l vs H hG hs hr
  unfold cdZ at hx
  split at hx
  · rename_i v1 h1 ks hcall
    cases hb : ks.all (fun k => Nat.ble h.length k) <;> simp only [hb,cond_true,cond_false] at hx
    · cases hx
    simp only [Option.some.injEq,Prod.mk.injEq] at hx
    obtain ⟨rfl,rfl⟩ := hx
    refine (hc _ _ _ _ _ hcall w S Own l vs H hG hs hr).mono ?_
    rintro u w' ⟨a', h2,ks', S', l', hk,H', hv,C⟩
    simp only [Option.some.injEq,Prod.mk.injEq] at hk
    obtain ⟨rfl,rfl,rfl⟩ := hk
    refine ⟨S', l', H', hv,⟨C.os,C.tape,C.output,C.size,C.keep,C.sub,C.new,C.pres,C.len,fun t x hp hx => C.agr t x ?_ hx⟩⟩
    have hlt : t < h.length := by
      rw [← H.len]
      exact (List.getElem?_eq_some_iff.1 hx).1
    have hall := List.all_eq_true.1 hb
    show isIn t ks' = false
    cases hin : isIn t ks'
    · rfl
    · have := hall t (isIn_mem0 hin)
      have : h.length ≤ t := by simpa using this
      omega
  · cases hx

theorem callZ_ok [Inhabited GlobT] {inl : CallI DZ} (hX : ∀ f pat nb s X,Γ.getX f pat nb = some (s,X) → XOk P f s X) (hi : CallIOk P inl) : CallIOk P (callZ Γ inl) := by
  intro f args h K r hx w S Own l vs H hG hs hr
  have hall : ∀ {cs : List Bool},cs.all id = true → ∀ c ∈ cs,c = true := fun h c hc => List.all_eq_true.1 h c hc
  unfold callZ at hx
  split at hx
  · rename_i cs v h' hxc
    cases hb : cs.all id <;> simp only [hb,cond_true,cond_false,force_eq,fHs_eq] at hx
    · exact hi _ _ _ _ _ hx w S Own l vs H hG hs hr
    refine (fcall_ok hX H hG hs hr hxc (hall hb)).mono ?_
    rintro u w' ⟨S', l', h1,h2,h3⟩
    exact ⟨v,h', [],S', l', hx,h1,h2,h3⟩
  split at hx
  · rename_i cs v h' hxc
    cases hb : cs.all id <;> simp only [hb,cond_true,cond_false,force_eq,fHs_eq] at hx
    · exact hi _ _ _ _ _ hx w S Own l vs H hG hs hr
    refine (xcall_ok hX H hG hs hr hxc (hall hb)).mono ?_
    rintro u w' ⟨S', l', h1,h2,h3⟩
    exact ⟨v,h', [],S', l', hx,h1,h2,h3⟩
  · exact hi _ _ _ _ _ hx w S Own l vs H hG hs hr

theorem StOk.keepF {S0 : Nat → Prop} {l0 : List Tk} {w0 : World} {nt : Nat} {st : St} (m : Nat) (h : StOk Own S0 l0 w0 nt st a w) : StOk Own S0 l0 w0 nt ⟨Am.keepF m st.env,st.h,st.kd⟩ a w := by
  obtain ⟨S,l,H,E,C,hn,hd⟩ := h
  refine ⟨S,l,H,fun s => ?_,C,hn,hd⟩
  show Rd _ _ _ _ (eget (Am.keepF m st.env) s)
  rw [keepF_get]
  split
  · exact E s
  · exact .dead _ _

theorem execZ_ok [Inhabited GlobT] {nt fuel : Nat} {call : CallI DZ} {r : DZ} {w0 : World} {S0 : Nat → Prop} {l0 : List Tk} (hΓ : GamOk P Γ) (hcall : CallIOk P call) (hG0 : Glob w0 S0) :
    ∀ (c : Code) (lv : Lv) (out : Nat) (st : St) (K : Ex → St → Option DZ) (a : Act) (w : World),execZ P Γ nt fuel call c lv out st K = some r → StOk Own S0 l0 w0 nt st a w →
    c.wp P (QX Own S0 l0 w0 nt K r) a w := by
  intro c
  induction c with
  | skip => intro lv out st K a w hx hs; exact wp_skip ⟨.normal,st,trivial,hx,hs⟩
  | region id ops draw =>
    intro lv out st K a w hx hs
    simp only [execZ,dopsZ_eq,ropsZ_eq,fEnv_eq,closeZ_eq] at hx
    obtain ⟨S,l,H,E,C,hn,hd⟩ := hs
    cases draw <;> simp only [cond_true,cond_false] at hx
    case true =>
      cases hb : (P.follows .mixedOrders && okD ops) <;> simp only [hb,cond_true,cond_false] at hx
      · cases hx
      · simp only [Bool.and_eq_true] at hb
        exact drawn_ok hΓ (cdZ_ok hcall) hG0 hb.1 hb.2 hx H E C hn hd (fun a w S l loc h h1 h2 h3 h4 h5 h6 => ⟨.normal,⟨close st.env loc,h,st.kd⟩,trivial,h1,S,l,h2,h3.close,h4,h5,h6⟩)
    have := rops_ok (r := r) hΓ hcall hG0 ops.toList 0 [] st.env st.h st.kd a w S l (fun j => by simp) hx H E.open C hn hd
    refine wp_mono (wp_region (by rw [List.range_eq_range']; simpa using this)) ?_
    rintro e a' w' ⟨rfl,env,h,kd,S', l', h1,h2,h3,h4,h5,h6⟩
    exact ⟨.normal,⟨env,h,kd⟩,trivial,h1,S', l', h2,h3,h4,h5,h6⟩
  | seq x y ihx ihy =>
    intro lv out st K a w hx hs
    simp only [execZ] at hx
    refine wp_seq (wp_mono (ihx _ _ _ _ _ _ hx hs) ?_)
    rintro e a' w' ⟨e', st', he,hk,hs'⟩
    cases e <;> cases e' <;> simp only [EMatch] at he
    · exact ihy _ _ _ _ _ _ hk hs'
    · exact ⟨.exit _,st', he,hk,hs'⟩
    · exact ⟨.ret,st', trivial,hk,hs'⟩
  | cond c x y ihx ihy =>
    intro lv out st K a w hx hs
    simp only [execZ,opndZ_eq] at hx
    split at hx
    · rename_i b hb
      obtain ⟨S,l,H,E,C,hn,hd⟩ := hs
      have hr := opnd_ok (hG0.chg C) E.open (ks := []) (by simp) c
      rw [hb] at hr
      refine wp_cond (rd_bool hr) ?_
      cases b <;> simp only [cond_true,cond_false] at hx
      · exact ihy _ _ _ _ _ _ hx ⟨S,l,H,E,C,hn,hd⟩
      · exact ihx _ _ _ _ _ _ hx ⟨S,l,H,E,C,hn,hd⟩
    · cases hx
  | block id c ih =>
    intro lv out st K a w hx hs
    simp only [execZ] at hx
    refine wp_block (wp_mono (ih _ _ _ _ _ _ hx hs) ?_)
    rintro e a' w' ⟨e', st', he,hk,hs'⟩
    cases e <;> cases e' <;> simp only [EMatch] at he
    · exact ⟨.normal,st', trivial,hk,hs'⟩
    · subst he
      simp only [Exit.inBlock]
      rename_i j
      by_cases hj : j = id
      · subst hj
        simp only [beq_self_eq_true,cond_true] at hk
        rw [if_pos rfl]
        exact ⟨.normal,st', trivial,hk,hs'⟩
      · have : (j == id) = false := by simpa using hj
        simp only [this,cond_false] at hk
        rw [if_neg hj]
        exact ⟨.exit j,st', rfl,hk,hs'⟩
    · exact ⟨.ret,st', trivial,hk,hs'⟩
  | loop c ih =>
    intro lv out st K a w hx hs
    simp only [execZ,fSt_eq,loopZ_eq] at hx
    have hs1 := hs.keepF (live c lv 0)
    refine wp_loop_ghost (fun n a w => ∃ s,loopK (execZ P Γ nt fuel call c lv (live c lv 0)) (keepZ (live c lv 0)) n s K = some r ∧ StOk Own S0 l0 w0 nt s a w) fuel ⟨keepZ (live c lv 0) st,hx,hs1⟩ ?_
    rintro n a w ⟨s,hl,hs⟩
    cases n with
    | zero => cases hl
    | succ n =>
      simp only [loopK] at hl
      refine wp_mono (ih _ _ _ _ _ _ hl hs) ?_
      rintro e a' w' ⟨e', st', he,hk,hs'⟩
      cases e <;> cases e' <;> simp only [EMatch] at he
      · exact ⟨n,Nat.lt_succ_self n,_,hk,hs'.keepF _⟩
      · exact ⟨.exit _,st', he,hk,hs'⟩
      · exact ⟨.ret,st', trivial,hk,hs'⟩
  | exit id => intro lv out st K a w hx hs; exact wp_exit ⟨.exit id,_,rfl,hx,hs.keepF _⟩
  | ret => intro lv out st K a w hx hs; exact wp_ret ⟨.ret,_,trivial,hx,hs.keepF _⟩
  | _ => intro lv out st K a w hx hs; simp [execZ] at hx

theorem execFnZ_ok [Inhabited GlobT] (hΓ : GamOk P Γ) (hP : NamesOk P) (fuel : Nat) : ∀ n,CallIOk P (execFnZ P Γ fuel n)
  | 0 => by intro f args h K r hx; cases hx
  | n + 1 => by
    intro f args h K r hx w S Own l vs H hG hsz hr
    simp only [execFnZ] at hx
    split at hx
    · cases hx
    rename_i fn hfn
    split at hx
    · cases hx
    rename_i c hc
    cases hb : Nat.blt fn.ntmps args.length <;> simp only [hb,cond_true,cond_false] at hx
    case true => cases hx
    have hle : args.length ≤ fn.ntmps := by
      have : ¬ fn.ntmps < args.length := fun h => by
        have h' : Nat.blt fn.ntmps args.length = true := by simpa using h
        rw [hb] at h'; cases h'
      omega
    have hcall : (callFunc f vs).run P w = .ok (.enter f vs) w := by
      have hnm : ¬ fn.name = "runtime.NumGoroutine" := by simpa using hP f fn hfn (by simp [hc])
      simp [callFunc,hfn,hc,hnm]
    unfold CallOk
    rw [hcall]
    refine calls_of_wp hfn hc ?_
    have hs0 : StOk Own S l w fn.ntmps ⟨params 0 args,h,[]⟩ { tmps := vs ++ Array.replicate (fn.ntmps - vs.size) undef,defers := [] } w := by
      refine ⟨S,l,H,fun s => ?_,.same rfl rfl rfl rfl,by simp; omega,rfl⟩
      rw [params_get,if_pos (Nat.zero_le _),Nat.sub_zero]
      by_cases hs : s < args.length
      · have h1 : vs[s]? = some (vs[s]'(by omega)) := Array.getElem?_eq_getElem (by omega)
        have h2 : args[s]? = some args[s] := List.getElem?_eq_getElem hs
        have e1 : (vs ++ Array.replicate (fn.ntmps - vs.size) undef).getD s undef = vs[s]'(by omega) := by
          rw [Array.getD_eq_getD_getElem?,Array.getElem?_append_left (by omega),h1]; rfl
        have e2 : args.getD s .dead = args[s] := by simp [List.getD,h2]
        show Rd w S (some l) (Array.getD _ s undef) _
        rw [e1,e2]
        exact hr s _ _ h1 h2
      · rw [List.getD_eq_getElem?_getD,List.getElem?_eq_none (by omega)]; exact .dead _ _
    have hwp := execZ_ok hΓ (callZ_ok hΓ.x (execFnZ_ok hΓ hP fuel n)) hG c _ _ _ _ _ _ hx hs0
    refine wp_mono hwp ?_
    rintro e a' w' ⟨e', st,he,hk,S', l', H', E', C', hn,hd⟩
    have fin : ∀ {z : Option DZ},z = some r → (z = match resV P st fn.results.toList fn.resultTypes.toList with
        | some [v] => K v st.h st.kd
        | some vs => K (.tup vs) st.h st.kd
        | none => none) → ∃ v,(results fn a'.tmps).run P w' = .ok v w' ∧ ∃ v', Ending.returned v = .returned v' ∧ ∃ x h' ks S' l', K x h' ks = some r ∧ HRel w' S' Own l' h' ∧ Rd w' S' (some l') v' x ∧ Chg Own S S' l l' ks w w' := by
      intro z hz hz'
      rw [hz] at hz'
      cases hv : resV P st fn.results.toList fn.resultTypes.toList with
      | none => rw [hv] at hz'; cases hz'
      | some xs =>
        obtain ⟨v,h1,h2⟩ := results_ok H' E' hv
        rw [hv] at hz'
        refine ⟨v,h1,v,rfl,_,_,_,S', l', ?_,H', h2,C'⟩
        cases xs with
        | nil => exact hz'.symm
        | cons x xs => cases xs <;> exact hz'.symm
    cases e <;> cases e' <;> simp only [EMatch] at he
    · exact ⟨hd,fin hk rfl⟩
    · cases hk
    · exact ⟨hd,fin hk rfl⟩

/-- What a call of what is only read answers, in a heap of its own. -/
noncomputable def runZA (P : Program) (Γ : Gam) [Inhabited GlobT] (fuel depth f : Nat) (args : List AV) : Option AV := match execFnZ P Γ fuel depth f args [] fun v h ks => some (v,h,ks) with
  | some (v,h,_) => some (frz h 4 v)
  | none => none
/-- Such a call as a summary: what is answered is only read. -/
theorem smZA [Inhabited GlobT] (hΓ : GamOk P Γ) (hP : NamesOk P) (fuel depth f : Nat) (rs : List RS) :
    SmOk P f (smM rs (runZA P Γ fuel depth f)) := by
  refine ⟨fun args vs w S hs hr hb hG hok => ?_,fun hsc args hok => scal_valM hsc _⟩
  have hv := valM_id (o := runZA P Γ fuel depth f args) hok
  have hval : (smM rs (runZA P Γ fuel depth f)).val args = valM rs (runZA P Γ fuel depth f args) := rfl
  rw [hval]
  generalize valM rs (runZA P Γ fuel depth f args) = x at hv
  unfold runZA at hv
  have H0 : HRel w S (fun b => w.heap.size ≤ b) [] [] := ⟨rfl,by simp,by simp,hb,by simp,fun b h => h⟩
  split at hv
  · rename_i v h ks hrun
    refine (execFnZ_ok hΓ hP fuel depth f args [] _ _ hrun w S _ [] vs H0 hG hs (fun j u a hu ha => (hr j u a hu ha).pres (.refl _ _) (fun _ h => h) trivial)).mono ?_
    rintro u w' ⟨a', h', ks', S', l', hk,H', hv', C'⟩
    simp only [Option.some.injEq,Prod.mk.injEq] at hk
    obtain ⟨rfl,rfl,rfl⟩ := hk
    refine ⟨Fz S' l' h' (reach h' 4 a'),?_,fun b hb => .inl (C'.sub b hb),fun b hb => ?_,(H'.strike _).bd,⟨C'.os,C'.tape,C'.output,C'.size,fun k hk _ => C'.keep k (by simpa using hk)⟩⟩
    · rw [← Option.some.inj hv]; exact frz_strike H' hv' (fun _ h => h)
    · rcases Fz_own H' hb with h1 | h1
      · exact C'.new b h1
      · exact .inr h1
  · cases hv

def ansB (b : Bool) : List AV → Option AV
  | [] => some (.bool b)
  | _ => none
/-- A call without arguments that answers so. -/
theorem smZ [Inhabited GlobT] (hΓ : GamOk P Γ) (hP : NamesOk P) {fuel depth f : Nat} {rs : List RS} {b : Bool} (hx : runZ P Γ fuel depth f = some (.bool b)) :
    SmOk P f (smM rs (ansB b)) := by
  refine ⟨fun args vs w S hs hr hb hG hok => ?_,fun hsc args hok => scal_valM hsc _⟩
  have hv := valM_id (o := ansB b args) hok
  have hval : (smM rs (ansB b)).val args = valM rs (ansB b args) := rfl
  rw [hval]
  generalize valM rs (ansB b args) = x at hv
  cases args with
  | cons _ _ => cases hv
  | nil =>
    have hx0 : AV.bool b = x := Option.some.inj hv
    subst hx0
    have H0 : HRel w S (fun b => w.heap.size ≤ b) [] [] := ⟨rfl,by simp,by simp,hb,by simp,fun b h => h⟩
    unfold runZ at hx
    split at hx
    · rename_i v h ks hrun
      refine (execFnZ_ok hΓ hP fuel depth f [] [] _ _ hrun w S _ [] vs H0 hG hs (fun j u a hu ha => by simp at ha)).mono ?_
      rintro u w' ⟨a', h', ks', S', l', hk,H', hv', C'⟩
      simp only [Option.some.injEq,Prod.mk.injEq] at hk
      obtain ⟨rfl,rfl,rfl⟩ := hk
      refine ⟨Fz S' l' h' (reach h' 4 a'),?_,fun b hb => .inl (C'.sub b hb),fun b hb => ?_,(H'.strike _).bd,⟨C'.os,C'.tape,C'.output,C'.size,fun k hk _ => C'.keep k (by simpa using hk)⟩⟩
      · rw [← Option.some.inj hx]; exact frz_strike H' hv' (fun _ h => h)
      · rcases Fz_own H' hb with h1 | h1
        · exact C'.new b h1
        · exact .inr h1
    · cases hx
end
end Go.Am
end
section
/- Calls without pointers, by a table: what they answer is checked outright, each by itself. -/
namespace Go.Am

def sameL (f : AV → AV → Bool) : List AV → List AV → Bool
  | [],[] => true
  | a :: l,b :: r => bif f a b then sameL f l r else false
  | _,_ => false
def eqK : IntKind → IntKind → Bool := fun a b => decide (a = b)
def eqF0 : FloatKind → FloatKind → Bool := fun a b => decide (a = b)
/-- Do two values stand for the same? -/
def sameA : Nat → AV → AV → Bool
  | 0,_,_ => false
  | n + 1,a,b => match a,b with
    | .bool a,.bool b => decide (a = b)
    | .int k a,.int k' b => eqK k k' && decide (a = b)
    | .flt k a,.flt k' b => eqF0 k k' && decide (a = b)
    | .str a,.str b => decide (a.data.toList = b.data.toList)
    | .agg a,.agg b => sameL (sameA n) a b
    | .tup a,.tup b => sameL (sameA n) a b
    | .nils _ _,.nils _ _ => true
    | .nils _ _,.ro _ m rd _ => Nat.beq m 0 && Nat.beq rd 0
    | .ro sz m rd g,.ro sz' m' rd' g' => Nat.beq sz sz' && Nat.beq m m' && Nat.ble rd' rd && Nat.ble m' rd' &&
        (List.range rd').all fun i => (List.range sz').all fun j => sameA n (g i j) (g' i j)
    | _,_ => false

theorem sameL_len {f : AV → AV → Bool} : ∀ {a b : List AV},sameL f a b = true → a.length = b.length
  | [],[],_ => rfl
  | a :: l,b :: r,h => by
    simp only [sameL] at h
    cases e : f a b <;> simp only [e,cond_true,cond_false] at h
    · cases h
    · simp [sameL_len h]
  | [],_ :: _,h => by cases h
  | _ :: _,[],h => by cases h
theorem sameL_get {f : AV → AV → Bool} : ∀ {a b : List AV},sameL f a b = true → ∀ (j : Nat) y,b[j]? = some y → ∃ x,a[j]? = some x ∧ f x y = true
  | [],[],_,j,y,hy => by simp at hy
  | a :: l,b :: r,h,j,y,hy => by
    simp only [sameL] at h
    cases e : f a b <;> simp only [e,cond_true,cond_false] at h
    · cases h
    cases j with
    | zero => simp only [List.getElem?_cons_zero,Option.some.injEq] at hy; subst hy; exact ⟨a,rfl,e⟩
    | succ j => simp only [List.getElem?_cons_succ] at hy ⊢; exact sameL_get h j y hy
  | [],_ :: _,h,_,_,_ => by cases h
  | _ :: _,[],h,_,_,_ => by cases h

theorem sameA_rd {w : World} {S : Nat → Prop} : ∀ (n : Nat) (a b : AV) (v : Value) {m : Option (List Tk)},sameA n a b = true → Rd w S m v a → Rd w S m v b := by
  intro n
  induction n with
  | zero => intro a b v m h; cases h
  | succ n ih =>
    intro a b v mm h hr
    cases a <;> cases b <;> simp only [sameA,Bool.false_eq_true] at h
    case bool.bool a b => have := of_decide_eq_true h; subst this; exact hr
    case int.int k a k' b =>
      simp only [Bool.and_eq_true,eqK] at h
      have h1 := of_decide_eq_true h.1; have h2 := of_decide_eq_true h.2
      subst h1; subst h2; exact hr
    case flt.flt k a k' b =>
      simp only [Bool.and_eq_true,eqF0] at h
      have h1 := of_decide_eq_true h.1; have h2 := of_decide_eq_true h.2
      subst h1; subst h2; exact hr
    case str.str a b =>
      have h1 := of_decide_eq_true h
      have : a = b := by
        cases a; cases b
        simp only at h1
        congr 1
        exact Array.toList_inj.1 h1
      subst this; exact hr
    case agg.agg a b =>
      cases hr with
      | agg m vs cs hs h' =>
        exact .agg _ _ _ (hs.trans (sameL_len h)) fun j u y hu hy => by
          obtain ⟨x,hx,hxy⟩ := sameL_get h j y hy
          exact ih _ _ _ hxy (h' j u x hu hx)
    case tup.tup a b =>
      cases hr with
      | tup m vs cs hs h' =>
        exact .tup _ _ _ (hs.trans (sameL_len h)) fun j u y hu hy => by
          obtain ⟨x,hx,hxy⟩ := sameL_get h j y hy
          exact ih _ _ _ hxy (h' j u x hu hx)
    case nils.nils sz z sz' z' => cases hr; exact .nils _ _ _
    case nils.ro sz z sz' m rd g =>
      simp only [Bool.and_eq_true] at h
      have e1 := Nat.eq_of_beq_eq_true h.1
      have e2 := Nat.eq_of_beq_eq_true h.2
      subst e1; subst e2
      cases hr
      exact .ro _ _ _ _ _ none 0 (fun _ _ => undef) (Nat.le_refl _) (Nat.le_refl _) (fun h0 => absurd h0 (by omega)) (fun i j hi => absurd hi (by omega)) (fun i j hi => absurd hi (by omega))
    case ro.ro sz m rd g sz' m' rd' g' =>
      simp only [Bool.and_eq_true,List.all_eq_true,List.mem_range] at h
      obtain ⟨⟨⟨⟨h1,h2⟩,h3⟩,h4⟩,h5⟩ := h
      have e1 := Nat.eq_of_beq_eq_true h1
      have e2 := Nat.eq_of_beq_eq_true h2
      have e3 := Nat.le_of_ble_eq_true h3
      have e4 := Nat.le_of_ble_eq_true h4
      subst e1; subst e2
      cases hr with
      | ro _ _ _ _ _ base cap u hn hc hb hh h1c =>
        refine .ro _ _ _ _ _ _ _ u e4 (Nat.le_trans e3 hc) (fun h0 => ?_) (fun i j hi hj => ih _ _ _ (h5 i hi j hj) (hh i j (by omega) hj)) (fun i j hi hj => h1c i j (by omega) hj)
        obtain ⟨a,ha,hS,hcell⟩ := hb (by omega)
        exact ⟨a,ha,hS,fun i j hi hj => hcell i j (by omega) hj⟩

/-- A list that is only read, told row by row. -/
def lit (sz : Nat) (T : List (List AV)) : AV := .ro sz T.length T.length (fun i j => tabR T i j .dead)
/-- Answers of calls, told. -/
def tabM : List (List AV × AV) → List AV → Option AV
  | [],_ => none
  | (a,r) :: T,args => bif sameL (sameA 6) args a then some r else tabM T args
theorem tabM_some : ∀ {T : List (List AV × AV)} {args : List AV} {x : AV},tabM T args = some x → ∃ p ∈ T,sameL (sameA 6) args p.1 = true ∧ p.2 = x
  | [],_,_,h => by cases h
  | (a,r) :: T,args,x,h => by
    simp only [tabM] at h
    cases e : sameL (sameA 6) args a <;> simp only [e,cond_true,cond_false] at h
    · obtain ⟨p,hp,h1,h2⟩ := tabM_some h
      exact ⟨p,List.mem_cons_of_mem _ hp,h1,h2⟩
    · exact ⟨_,List.mem_cons_self,e,Option.some.inj h⟩

section
variable {P : Program} {Γ : Gam}
noncomputable def chkRun (P : Program) (Γ : Gam) [Inhabited GlobT] (fuel depth f : Nat) (a : List AV) (r : AV) : Bool := match runZA P Γ fuel depth f a with
  | some x => sameA 6 x r
  | none => false

theorem HRel.bare {w : World} {S Own : Nat → Prop} {l : List Tk} {h : List Blk} (H : HRel w S Own l h) : HRel w S Own [] [] := ⟨rfl,by simp,by simp,H.bd,by simp,H.own⟩
/-- A table as a summary that is tried first: what it does not tell is made outright. -/
def smXT (T : List (List AV × AV)) (X : XS) : Sm := { sc := false,ok := fun as => (tabM T as).isSome,val := fun as => (tabM T as).getD .dead,mx := some X }
theorem xT [Inhabited GlobT] (hΓ : GamOk P Γ) (hP : NamesOk P) {fuel depth f : Nat} {X : XS} {T : List (List AV × AV)} (hnb : X.nb = [])
    (hT : ∀ p ∈ T,chkRun P Γ fuel depth f p.1 p.2 = true) (hans : ∀ p ∈ T,X.ans (toT p.2) = p.2 ∧ X.heap (toT p.2) = []) : XOk P f (smXT T X) X := by
  intro as bs vs w S Own l has hbs H hG hvs hr hok
  rw [hnb] at hbs
  have hb0 : bs = [] := List.map_eq_nil_iff.1 hbs
  subst hb0
  have hl : l = [] := List.eq_nil_of_length_eq_zero (by simpa using H.len)
  subst hl
  simp only [List.flatten_nil,List.append_nil] at hok ⊢
  cases ht : tabM T as with
  | none => simp [smXT,ht] at hok
  | some x =>
    have hval : (smXT T X).val as = x := by simp [smXT,ht]
    rw [hval]
    obtain ⟨p,hp,hsame,rfl⟩ := tabM_some ht
    obtain ⟨e1,e2⟩ := hans p hp
    rw [e1,e2]
    have hrun := hT p hp
    unfold chkRun at hrun
    split at hrun
    case h_2 => cases hrun
    rename_i y hy
    unfold runZA at hy
    split at hy
    · rename_i v h ks hrun'
      refine (execFnZ_ok hΓ hP fuel depth f p.1 [] _ _ hrun' w S Own [] vs H hG (hvs.trans (sameL_len hsame)) (fun j u a hu ha => ?_)).mono ?_
      · obtain ⟨b,hb', hab⟩ := sameL_get hsame j a ha
        exact sameA_rd _ _ _ _ hab (hr j u b hu hb')
      rintro u w' ⟨a', h', ks', S', l', hk,H', hv', C'⟩
      simp only [Option.some.injEq,Prod.mk.injEq] at hk
      obtain ⟨rfl,rfl,rfl⟩ := hk
      refine ⟨Fz S' l' h' (reach h' 4 a'),[],(H'.strike _).bare,?_,⟨C'.os,C'.tape,C'.output,C'.size,C'.keep,fun b hb => .inl (C'.sub b hb),fun b hb => ?_,C'.pres,Nat.le_refl _,fun t x _ hx => by simp at hx⟩⟩
      · have h1 := frz_strike (n := 4) (ts := reach h' 4 a') H' hv' (fun _ h => h)
        have h2 := sameA_rd _ _ p.2 u (Option.some.inj hy ▸ hrun) h1
        exact h2.pres (.refl _ _) (fun _ h => h) trivial
      · rcases Fz_own H' hb with h1 | h1
        · exact C'.new b h1
        · exact .inr h1
    · cases hy
end
end Go.Am
end
section
/- The abstract machine: a law's arguments as what is only read. -/
namespace Go.Am

/-- The cells of a datum of a type. -/
def avL {H : Type} (P : Program) : Nat → TypeId → DataW H → List AV
  | 0,_,_ => []
  | n + 1,t,d => match P.underlying t,d with
    | some .bool,.lit (.bool b) => [.bool b]
    | some (.int _),.lit (.int k m) => [.int k m]
    | some (.float _),.lit (.float k b) => [.flt k (some b)]
    | some .string,.lit (.string s) => [.str ⟨s.toArray⟩]
    | some (.pointer _),.nil => [.nilp]
    | some (.slice e),.nil => [.ro (P.cellsOf e) 0 0 (fun _ _ => .dead)]
    | some (.slice e),.slice es _ => [.ro (P.cellsOf e) es.length es.length (fun i j => (avL P n e (es.getD i .nil)).getD j .dead)]
    | some (.struct fs),.agg ds => (fs.toList.zip ds).flatMap fun p => avL P n p.1.type p.2
    | some (.array _ e),.agg ds => ds.flatMap (avL P n e)
    | some (.interface _),.nil => [.nili]
    | some (.func _ _ _),.nil => [.nilf]
    | _,_ => List.replicate (P.cellsOf t) .dead

def RLs (w : World) (S : Nat → Prop) (us : List Value) (as : List AV) : Prop :=
  us.length = as.length ∧ ∀ (j : Nat) u a,us[j]? = some u → as[j]? = some a → Rd w S none u a ∧ u.oneCell' = true

section
variable {P : Program} {w : World} {S : Nat → Prop}

theorem RLs.one {u : Value} {a : AV} (h : Rd w S none u a) (h1 : u.oneCell' = true) : RLs w S [u] [a] := by
  refine ⟨rfl,fun j u' a' hu ha => ?_⟩
  cases j with
  | zero => simp at hu ha; subst hu ha; exact ⟨h,h1⟩
  | succ j => simp at hu

theorem RLs.append {us vs : List Value} {as bs : List AV} (h : RLs w S us as) (k : RLs w S vs bs) : RLs w S (us ++ vs) (as ++ bs) := by
  refine ⟨by simp [h.1,k.1],fun j u a hu ha => ?_⟩
  rcases Nat.lt_or_ge j us.length with hj | hj
  · rw [List.getElem?_append_left hj] at hu
    rw [List.getElem?_append_left (by rw [← h.1]; exact hj)] at ha
    exact h.2 j u a hu ha
  · rw [List.getElem?_append_right hj] at hu
    rw [List.getElem?_append_right (by rw [← h.1]; exact hj),← h.1] at ha
    exact k.2 _ u a hu ha

theorem mapM_some {α β : Type} {f : α → Option β} : ∀ {l : List α} {r : List β},l.mapM f = some r → r.length = l.length ∧ ∀ (j : Nat) x y,l[j]? = some x → r[j]? = some y → f x = some y := by
  intro l
  induction l with
  | nil => intro r h; simp at h; subst h; simp
  | cons x xs ih =>
    intro r h
    rw [List.mapM_cons] at h
    cases hx : f x with
    | none => simp [hx] at h
    | some y =>
      cases hxs : xs.mapM f with
      | none => simp [hx,hxs] at h
      | some ys =>
        simp [hx,hxs] at h
        subst h
        obtain ⟨h1,h2⟩ := ih hxs
        refine ⟨by simp [h1],fun j a b ha hb => ?_⟩
        cases j with
        | zero => simp at ha hb; subst ha hb; exact hx
        | succ j => exact h2 j a b (by simpa using ha) (by simpa using hb)

theorem RLs.pieces : ∀ (ps : List (Nat × List AV)) (cs : List Value),(∀ (j : Nat) p,ps[j]? = some p → RLs w S ((cs.drop ((ps.take j).map (·.1)).sum).take p.1) p.2) → cs.length = (ps.map (·.1)).sum →
    RLs w S cs (ps.flatMap (·.2))
  | [],cs,_,h => by
    have : cs = [] := List.eq_nil_of_length_eq_zero (by simpa using h)
    subst this
    exact ⟨rfl,by simp⟩
  | p :: ps,cs,hp,h => by
    have h0 := hp 0 p rfl
    simp only [List.take_zero,List.map_nil,List.sum_nil,List.drop_zero] at h0
    have ht := RLs.pieces ps (cs.drop p.1) (fun j q hq => by
      have := hp (j + 1) q (by simpa using hq)
      simpa [List.drop_drop,Nat.add_comm] using this) (by simp at h ⊢; omega)
    have := h0.append ht
    rwa [List.take_append_drop] at this

theorem take_zip' {α β : Type} : ∀ (l : List α) (r : List β) (j : Nat),(l.zip r).take j = (l.take j).zip (r.take j)
  | _,_,0 => by simp
  | [],_,_ + 1 => by simp
  | _ :: _,[],_ + 1 => by simp
  | a :: l,b :: r,j + 1 => by simp [take_zip' l r j]

theorem trod_rd {H : Type} {enc : TypeId × Value → H} {base : Nat} {spare : Nat → Bool} {held : Bool} (hl : laidOutB P = true) (hz : ∀ t e,t < P.types.size → P.underlying t = some (.slice e) → 0 < P.cellsOf e) (hS : ∀ b,b < w.heap.size → S b) : ∀ (n : Nat) (t : TypeId) (cs : List Value) (x : DataW H × List MemPlace),t < P.types.size →
    DataW.trod enc P w base spare held n t cs = some x → RLs w S cs (avL P n t x.1) := by
  intro n
  induction n with
  | zero => intro t cs x _ h; simp [DataW.trod] at h
  | succ n ih =>
    intro t cs x ht h
    rw [DataW.trod_step] at h
    unfold DataW.trodStep at h
    have hone : ∀ (d : TypeDesc),P.underlying t = some d → (match d with | .struct _ | .array _ _ => False | _ => True) → P.cellsOf t = 1 := by
      intro d hu hd
      have := rowFine_of hl ht
      simp only [rowFine,isVar,ht,hu] at this
      cases d <;> simp_all [kindOk]
    split at h
    case h_1 hu => cases h; simp only [avL,hu]; exact .one (.bool _ _) rfl
    case h_2 hu => split at h <;> cases h; simp only [avL,hu]; rename_i hk; obtain ⟨rfl,_⟩ := hk; exact .one (.int _ _ _) rfl
    case h_3 hu => split at h <;> cases h; simp only [avL,hu]; rename_i hk; obtain ⟨rfl,_⟩ := hk; exact .one (.fltS _ _ _) rfl
    case h_4 hu => split at h <;> cases h; simp only [avL,hu]; exact .one (.str _ _) rfl
    case h_5 hu => cases h; simp only [avL,hu]; exact .one (.nilp _) rfl
    case h_6 hu =>
      rw [Option.map_eq_some_iff] at h
      obtain ⟨y,_,rfl⟩ := h
      simp only [avL,hu,hone _ hu trivial]; exact .one (.dead _ _) rfl
    case h_7 hu =>
      cases h
      simp only [avL,hu]
      exact .one (.ro _ _ 0 0 _ none 0 (fun _ _ => undef) (Nat.le_refl _) (Nat.le_refl _) (by simp) (by simp) (by simp)) rfl
    case h_8 e a len cap hu =>
      split at h
      · rename_i hk
        obtain ⟨k1,k2,_⟩ := hk
        rw [Option.bind_eq_some_iff] at h
        obtain ⟨elems,he,h⟩ := h
        rw [Option.map_eq_some_iff] at h
        obtain ⟨rest,_,rfl⟩ := h
        simp only [avL,hu]
        obtain ⟨m1,m2⟩ := mapM_some he
        simp only [List.length_range] at m1
        have hte := kid_slice hl ht hu
        -- the cells of element i
        have hel : ∀ i,i < len → ∃ (cs : List Value) (y : DataW H × List MemPlace),elems[i]? = some y ∧ w.cells? base (a.add (i * P.cellsOf e)) (P.cellsOf e) = some cs ∧ RLs w S cs (avL P n e y.1) := by
          intro i hi
          have h1 : elems[i]? = some (elems[i]'(by omega)) := List.getElem?_eq_getElem (by omega)
          have h2 := m2 i i _ (by rw [List.getElem?_range hi]) h1
          rw [Option.bind_eq_some_iff] at h2
          obtain ⟨cs,h3,h4⟩ := h2
          exact ⟨cs,_,h1,h3,ih e cs _ hte h4⟩
        have hpos := hz t e ht hu
        have hcell : ∀ i j,i < len → j < P.cellsOf e → ∃ v,w.cell? (a.add (i * P.cellsOf e + j)) = some v ∧ Rd w S none v ((avL P n e ((elems.map (·.1)).getD i .nil)).getD j .dead) ∧ v.oneCell' = true := by
          intro i j hi hj
          obtain ⟨cs,y,g1,g2,g3⟩ := hel i hi
          obtain ⟨_,hlen,hc⟩ := World.cells?_some g2
          have h1 := hc j hj
          rw [add_add,List.getElem?_eq_getElem (by omega)] at h1
          have e1 : (elems.map (·.1)).getD i .nil = y.1 := by simp [List.getD,g1]
          have hlt : j < (avL P n e y.1).length := by rw [← g3.1]; omega
          have h2 := g3.2 j _ _ (List.getElem?_eq_getElem (by omega)) (List.getElem?_eq_getElem hlt)
          refine ⟨_,h1,?_⟩
          rw [e1]
          simpa [List.getD,hlt] using h2
        rw [show (List.map (fun x => x.fst) elems).length = len from by simp [m1]]
        refine .one (.ro _ _ len len _ (some a) cap (fun i j => (w.cell? (a.add (i * P.cellsOf e + j))).getD undef) (Nat.le_refl _) k2 (fun h0 => ⟨a,rfl,?_,fun i j hi hj => ?_⟩) (fun i j hi hj => ?_) (fun i j hi hj => ?_)) rfl
        · skip
          obtain ⟨cs,y,_,g2,_⟩ := hel 0 h0
          have := World.cells?_block g2 hpos
          rw [add_block] at this
          exact hS _ this
        · skip
          obtain ⟨v,h1,_⟩ := hcell i j hi hj
          rw [h1]; rfl
        · skip
          obtain ⟨v,h1,h2,_⟩ := hcell i j hi hj
          rw [h1]; exact h2
        · skip
          obtain ⟨v,h1,_,h3⟩ := hcell i j hi hj
          rw [h1]; exact h3
      · cases h
    case h_9 cs x1 x2 fs hu =>
      split at h
      · rename_i hlen
        rw [Option.map_eq_some_iff] at h
        obtain ⟨xs,hxs,rfl⟩ := h
        obtain ⟨m1,m2⟩ := mapM_some hxs
        obtain ⟨k1,k2,k3⟩ := kid_struct hl ht hu
        simp only [avL,hu]
        have e1 : ((fs.toList.zip (xs.map (·.1))).flatMap fun p => avL P n p.1.type p.2) = ((fs.toList.zip xs).map fun p => (P.cellsOf p.1.type,avL P n p.1.type p.2.1)).flatMap (·.2) := by
          rw [List.zip_map_right,List.flatMap_map,List.flatMap_map]; rfl
        rw [e1]
        refine .pieces _ cs (fun j p hp => ?_) ?_
        · rw [List.getElem?_map,Option.map_eq_some_iff] at hp
          obtain ⟨⟨f,y⟩,hz', rfl⟩ := hp
          rw [List.getElem?_zip_eq_some] at hz'
          have hoff := k3 j f hz'.1
          have e2 : (((((fs.toList.zip xs).map fun p => (P.cellsOf p.1.type,avL P n p.1.type p.2.1))).take j).map (·.1)).sum = f.offset := by
            rw [hoff,← List.map_take,List.map_map,take_zip']
            have : (List.map ((fun x => x.1) ∘ fun (p : Field × DataW H × List MemPlace) => (P.cellsOf p.1.type,avL P n p.1.type p.2.1)) ((List.take j fs.toList).zip (List.take j xs))) = ((List.take j fs.toList).map fun f => P.cellsOf f.type) := by
              rw [show ((fun x => x.1) ∘ fun (p : Field × DataW H × List MemPlace) => (P.cellsOf p.1.type,avL P n p.1.type p.2.1)) = (fun f : Field => P.cellsOf f.type) ∘ Prod.fst from rfl,← List.map_map,List.map_fst_zip (by simp [m1])]
            rw [this]
          rw [e2]
          exact ih _ _ _ (k1 f (List.mem_of_getElem? hz'.1)) (m2 j f y hz'.1 hz'.2)
        · rw [hlen,k2,List.map_map]
          rw [show ((fun x => x.1) ∘ fun (p : Field × DataW H × List MemPlace) => (P.cellsOf p.1.type,avL P n p.1.type p.2.1)) = (fun f : Field => P.cellsOf f.type) ∘ Prod.fst from rfl,← List.map_map,List.map_fst_zip (by simp [m1])]
      · cases h
    case h_10 cs x1 x2 len e hu =>
      split at h
      · rename_i hlen
        rw [Option.map_eq_some_iff] at h
        obtain ⟨xs,hxs,rfl⟩ := h
        obtain ⟨m1,m2⟩ := mapM_some hxs
        simp only [List.length_range] at m1
        obtain ⟨hte,hsz⟩ := kid_array hl ht hu
        simp only [avL,hu]
        have e1 : ((xs.map (·.1)).flatMap (avL P n e)) = (xs.map fun y => (P.cellsOf e,avL P n e y.1)).flatMap (·.2) := by
          rw [List.flatMap_map,List.flatMap_map]
        have hsum : ∀ (l : List (DataW H × List MemPlace)),((l.map fun y => (P.cellsOf e,avL P n e y.1)).map (·.1)).sum = l.length * P.cellsOf e := by
          intro l
          induction l with
          | nil => simp
          | cons a l ih => simp only [List.map_cons,List.sum_cons,ih,List.length_cons,Nat.succ_mul]; omega
        rw [e1]
        refine .pieces _ cs (fun j p hp => ?_) ?_
        · rw [List.getElem?_map,Option.map_eq_some_iff] at hp
          obtain ⟨y,hy,rfl⟩ := hp
          have hj : j < xs.length := (List.getElem?_eq_some_iff.1 hy).1
          rw [← List.map_take,hsum,List.length_take,Nat.min_eq_left (Nat.le_of_lt hj)]
          exact ih _ _ _ hte (m2 j j y (by rw [List.getElem?_range (by omega)]) hy)
        · rw [hlen,hsum,m1,hsz]
      · cases h
    case h_11 hu => cases h; simp only [avL,hu]; exact .one (.nili _) rfl
    case h_12 hu =>
      split at h
      · cases h
        simp only [avL,hu,hone _ hu trivial]; exact .one (.dead _ _) rfl
      · rw [Option.map_eq_some_iff] at h
        obtain ⟨y,_,rfl⟩ := h
        simp only [avL,hu,hone _ hu trivial]; exact .one (.dead _ _) rfl
      · cases h
    case h_13 hu => cases h; simp only [avL,hu,hone _ hu trivial]; exact .one (.dead _ _) rfl
    case h_14 hu => simp only [avL,hu,hone _ hu trivial]; exact .one (.dead _ _) rfl
    case h_15 hu => cases h; simp only [avL,hu]; exact .one (.nilf _) rfl
    case h_16 hu => cases h; simp only [avL,hu,hone _ hu trivial]; exact .one (.dead _ _) rfl
    case h_17 hu => cases h; simp only [avL,hu,hone _ hu trivial]; exact .one (.dead _ _) rfl
    case h_18 hu => split at h <;> cases h; simp only [avL,hu,hone _ hu trivial]; exact .one (.dead _ _) rfl
    case h_19 hu => split at h <;> cases h; simp only [avL,hu,hone _ hu trivial]; exact .one (.dead _ _) rfl
    case h_20 hu => split at h <;> cases h; simp only [avL,hu,hone _ hu trivial]; exact .one (.dead _ _) rfl
    all_goals cases h
end
end Go.Am
end
section
/- The abstract machine: the shape of a law's arguments, and how long they are. -/
namespace Go.Am


section
variable {P : Program} {w : World}



theorem RLs.agg {S : Nat → Prop} {cs : Array Value} {as : List AV} (h : RLs w S cs.toList as) : Rd w S none (.agg cs) (.agg as) :=
  .agg none cs as (by simpa using h.1) (fun j u a hu ha => (h.2 j u a (by simpa using hu) ha).1)

/-- What a walk leaves: below the heap's old size nothing has turned. -/
theorem Ev.below {B : Nat} {a b : World} (h : Ev B (fun _ => False) a b) : RowKit.Below B a b := ⟨h.os,h.tape,h.output,h.size,fun k hk => h.block k hk (fun x => x)⟩
end
end Go.Am
end
section
/- The abstract machine: a call that answers true and leaves all that was there as it was gives what a law's row asks of it. -/
namespace Go.Am
open Go.ChangeShapes Go.WideShapes Go.RowKit

section
variable {H : Type} {enc : TypeId × Value → H} {P : Program}

theorem trodAll_stays (hl : laidOutB P = true) {W W' : World} (hb : Ev W.heap.size (fun _ => False) W W') {sp : Nat → Bool} : ∀ (ts : List TypeId) (vs : List Value) (ds : List (DataW H)) (ps : List MemPlace),
    (∀ t ∈ ts,P.readableRec t = true ∧ t < P.types.size) → DataW.TrodAll enc P W 0 (fun _ => true) true ts vs ds ps → (∀ x ∈ ps,x.block < W.heap.size) → (∀ x ∈ ps,sp x.block = true) → DataW.TrodAll enc P W' 0 sp true ts vs ds ps
  | [],[],[],ps,_,h,_,_ => h
  | t :: ts,v :: vs,d :: ds,ps,ht,h,hlt,hsp => by
    obtain ⟨p,q,h1,h2,rfl⟩ := h
    refine ⟨p,q,?_,trodAll_stays hl hb ts vs ds q (fun t h => ht t (List.mem_cons_of_mem _ h)) h2 (fun x hx => hlt x (List.mem_append.2 (.inr hx))) (fun x hx => hsp x (List.mem_append.2 (.inr hx))),rfl⟩
    obtain ⟨k1,k2⟩ := ht t List.mem_cons_self
    exact WideElems.Trod_stays hl k1 k2 h1 (fun x hx => hb.below.same (hlt x (List.mem_append.2 (.inl hx)))) (fun x hx => hsp x (List.mem_append.2 (.inl hx)))
  | [],_ :: _,_,_,_,h,_,_ => by simp [DataW.TrodAll] at h
  | [],[],_ :: _,_,_,h,_,_ => by simp [DataW.TrodAll] at h
  | _ :: _,[],_,_,_,h,_,_ => by simp [DataW.TrodAll] at h
  | _ :: _,_ :: _,[],_,_,h,_,_ => by simp [DataW.TrodAll] at h

/-- What the row asks behind a call that returned true. -/
theorem true_post {fn : Func} {s : ChangeSpec} {apart : Bool} {tb : TypeId} (hl : laidOutB P = true) (hr : (fn.params.toList.all fun t => P.readableRec t && decide (t < P.types.size)) = true)
    (hrt : fn.resultTypes = #[tb]) (htb : P.underlying tb = some .bool) (hs : s.vars = [])
    {W W' : World} {args : Array Value} {ds gs : List (DataW H)} {before : List MemPlace} (hW : DataW.Whole enc P fn.params.toList s.vars apart W args.toList ds gs before)
    (hfn : (s.fn H ds).results = [.lit (.bool true)] ∧ (s.fn H ds).args = ds ∧ (s.fn H ds).vars = [])
    (hb : Ev W.heap.size (fun _ => False) W W') : s.post enc P fn apart true false false W args (.bool true) W' := by
  have hlt := hW.lt
  have hW' := hW
  obtain ⟨p,q,hA,hV,rfl,hfz,hnd⟩ := hW
  rw [hs] at hV
  obtain ⟨rfl,rfl⟩ := trodVars_none hV
  rw [List.append_nil] at hlt hfz hnd hW'
  have hr' : ∀ t ∈ fn.params.toList,P.readableRec t = true ∧ t < P.types.size := fun t ht => by
    have := List.all_eq_true.1 hr t ht
    simpa using this
  refine ⟨ds,[],p,[],p,[],hW', ?_,?_,?_,hb.below.frame _,fun h => by cases h⟩
  · rw [List.append_nil,hfn.1,hrt]
    exact trodAll_mk1 (shut_bool htb _)
  · rw [List.append_nil,hfn.2.1]
    exact trodAll_stays hl hb _ _ _ _ hr' hA hlt (fun x hx => by simpa using hlt x hx)
  · rw [List.append_nil,hfn.2.2,hs]
    rfl

end
end Go.Am
end
