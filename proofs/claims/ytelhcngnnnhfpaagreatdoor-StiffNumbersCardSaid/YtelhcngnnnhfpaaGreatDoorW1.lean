/- Part 1 of the proof: the abstract machine and its soundness. -/
import Derived.Orders
import Derived.Laws.Sem
import Derived.Laws.World
import Derived.KernelRfl
import Derived.Laws.FloatArith
import Derived.Laws.CopyRow
import Derived.Laws.Cells
import Derived.Laws.StructEq
import Derived.MapKept
set_option linter.unusedVariables false
set_option linter.unusedSimpArgs false
set_option linter.unusedSectionVars false
section
/- The abstract machine: values, what they stand for in a world, the local heap. -/
namespace Go.Am

inductive AV where
  | dead
  | bool (b : Bool)
  | int (k : IntKind) (n : Int)
  | flt (k : FloatKind) (x : Option Nat)
  | str (s : ByteArray)
  | nilp | nilf | nili
  | nils (sz : Nat) (z : List AV)
  | ro (sz n rd : Nat) (get : Nat → Nat → AV)
  | rp (n : Nat) (get : Nat → AV)
  | own (t off sz n cap : Nat)
  | lst (t sz : Nat)
  | ptr (t off : Nat)
  | ep (t sz i j : Nat)
  | mp (t : Nat)
  | fn (f : Fn) (first captured : List AV)
  | ifc (ty : TypeId) (v : AV)
  | agg (cs : List AV)
  | tup (vs : List AV)
  deriving Inhabited

/-- What a token stands for: a block (or nothing, of a list that is nil), and how many elements it has. -/
abbrev Tk := Option Nat × Nat

def isNan (k : FloatKind) (b : Nat) : Bool := (k.decode b).isNaN

/-- 'Rd w S m v a': the value v reads as a; what is read only lies in blocks of S; m: what the tokens stand for (none: there are none). -/
inductive Rd (w : World) (S : Nat → Prop) : Option (List Tk) → Value → AV → Prop
  | dead (m : Option (List Tk)) (v : Value) : Rd w S m v .dead
  | bool (m : Option (List Tk)) (b : Bool) : Rd w S m (.bool b) (.bool b)
  | int (m : Option (List Tk)) (k : IntKind) (n : Int) : Rd w S m (.int k n) (.int k n)
  | fltS (m : Option (List Tk)) (k : FloatKind) (b : Nat) : Rd w S m (.float k b) (.flt k (some b))
  | fltN (m : Option (List Tk)) (k : FloatKind) (b : Nat) (h : isNan k b = true) : Rd w S m (.float k b) (.flt k none)
  | str (m : Option (List Tk)) (s : ByteArray) : Rd w S m (.string s) (.str s)
  | nilp (m : Option (List Tk)) : Rd w S m (.pointer none) .nilp
  | nilf (m : Option (List Tk)) : Rd w S m .nilFunc .nilf
  | nili (m : Option (List Tk)) : Rd w S m .nilIface .nili
  | nils (m : Option (List Tk)) (sz : Nat) (z : List AV) : Rd w S m (.slice none 0 0) (.nils sz z)
  | ro (m : Option (List Tk)) (sz n rd : Nat) (get : Nat → Nat → AV) (base : Option Addr) (cap : Nat) (u : Nat → Nat → Value) (hn : n ≤ rd) (hc : rd ≤ cap)
      (hb : 0 < rd → ∃ a,base = some a ∧ S a.block ∧ ∀ i j,i < rd → j < sz → w.cell? (a.add (i * sz + j)) = some (u i j))
      (h : ∀ i j,i < rd → j < sz → Rd w S none (u i j) (get i j)) (h1 : ∀ i j,i < rd → j < sz → (u i j).oneCell' = true) : Rd w S m (.slice base n cap) (.ro sz n rd get)
  | rp (m : Option (List Tk)) (n : Nat) (get : Nat → AV) (a : Addr) (u : Nat → Value) (hS : S a.block) (hc : ∀ j,j < n → w.cell? (a.add j) = some (u j))
      (h : ∀ j,j < n → Rd w S none (u j) (get j)) : Rd w S m (.pointer (some a)) (.rp n get)
  | own (l : List Tk) (t off sz n cap b N : Nat) (hm : l[t]? = some (some b,N)) (hn : n ≤ cap) (hN : off + cap ≤ N) :
      Rd w S (some l) (.slice (some ⟨b,off * sz,none⟩) n cap) (.own t off sz n cap)
  | lst (l : List Tk) (t sz b N cap : Nat) (hm : l[t]? = some (some b,N)) (hn : N ≤ cap) (hs : ∃ c e f,w.heap[b]? = some (.cells c e f) ∧ cap * sz ≤ c.size) :
      Rd w S (some l) (.slice (some ⟨b,0,none⟩) N cap) (.lst t sz)
  | lst0 (l : List Tk) (t sz : Nat) (hm : l[t]? = some (none,0)) : Rd w S (some l) (.slice none 0 0) (.lst t sz)
  | ptr (l : List Tk) (t off b N : Nat) (hm : l[t]? = some (some b,N)) : Rd w S (some l) (.pointer (some ⟨b,off,none⟩)) (.ptr t off)
  | ep (l : List Tk) (t sz i j b N : Nat) (hm : l[t]? = some (some b,N)) (hi : i < N) (hj : j < sz) : Rd w S (some l) (.pointer (some ⟨b,i * sz + j,none⟩)) (.ep t sz i j)
  | mp (l : List Tk) (t b N : Nat) (hm : l[t]? = some (some b,N)) : Rd w S (some l) (.map (some b)) (.mp t)
  | fn (m : Option (List Tk)) (f : Fn) (first captured : Array Value) (fs cs : List AV) (hf : first.size = fs.length) (hc : captured.size = cs.length)
      (h1 : ∀ (j : Nat) u a,first[j]? = some u → fs[j]? = some a → Rd w S m u a) (h2 : ∀ (j : Nat) u a,captured[j]? = some u → cs[j]? = some a → Rd w S m u a) :
      Rd w S m (.func f first captured) (.fn f fs cs)
  | ifc (m : Option (List Tk)) (ty : TypeId) (v : Value) (a : AV) (h : Rd w S m v a) : Rd w S m (.iface ty v) (.ifc ty a)
  | agg (m : Option (List Tk)) (vs : Array Value) (cs : List AV) (hs : vs.size = cs.length) (h : ∀ (j : Nat) u a,vs[j]? = some u → cs[j]? = some a → Rd w S m u a) : Rd w S m (.agg vs) (.agg cs)
  | tup (m : Option (List Tk)) (vs : Array Value) (cs : List AV) (hs : vs.size = cs.length) (h : ∀ (j : Nat) u a,vs[j]? = some u → cs[j]? = some a → Rd w S m u a) : Rd w S m (.tuple vs) (.tup cs)

/-- From w to w': what is read only stands as it was; rows of cells stay rows of as many cells. -/
structure Pres (S : Nat → Prop) (w w' : World) : Prop where
  keep : ∀ (b : Nat),S b → w'.heap[b]? = w.heap[b]?
  shp : ∀ (b : Nat) c e f,w.heap[b]? = some (.cells c e f) → ∃ c' f', w'.heap[b]? = some (.cells c' e f') ∧ c'.size = c.size

/-- What package-level variables hold, by their numbers: cells that are only read. -/
structure GlobT where
  gl : List (Nat × Nat × (Nat → AV))
def glook : List (Nat × Nat × (Nat → AV)) → Nat → AV
  | [],_ => .dead
  | (i,n,f) :: r,g => bif i == g then .rp n f else glook r g
/-- The variables hold that. -/
def Glob [Inhabited GlobT] (w : World) (S : Nat → Prop) : Prop := ∀ g,Rd w S none (.pointer (some ⟨g,0,none⟩)) (glook (default : GlobT).gl g)

theorem Pres.refl (S : Nat → Prop) (w : World) : Pres S w w := ⟨fun _ _ => rfl,fun _ c _ f h => ⟨c,f,h,rfl⟩⟩

theorem Pres.trans {S : Nat → Prop} {a b c : World} (h : Pres S a b) (k : Pres S b c) : Pres S a c :=
  ⟨fun x hx => (k.keep x hx).trans (h.keep x hx),fun x u e f hx => by
    obtain ⟨c1,f1,h1,h2⟩ := h.shp x u e f hx
    obtain ⟨c2,f2,h3,h4⟩ := k.shp x c1 e f1 h1
    exact ⟨c2,f2,h3,h4.trans h2⟩⟩

theorem Pres.mono {S S' : Nat → Prop} {w w' : World} (h : Pres S w w') (hS : ∀ b,S' b → S b) : Pres S' w w' := ⟨fun b hb => h.keep b (hS b hb),h.shp⟩

/-- More tokens. -/
def MLe : Option (List Tk) → Option (List Tk) → Prop
  | none,_ => True
  | some l,some l' => ∃ x,l' = l ++ x
  | some _,none => False

theorem MLe.refl (m : Option (List Tk)) : MLe m m := by cases m <;> simp [MLe]
theorem MLe.trans {a b c : Option (List Tk)} (h : MLe a b) (k : MLe b c) : MLe a c := by
  cases a with
  | none => trivial
  | some a =>
    cases b with
    | none => exact h.elim
    | some b =>
      cases c with
      | none => exact k.elim
      | some c =>
        obtain ⟨x,rfl⟩ := h
        obtain ⟨y,rfl⟩ := k
        exact ⟨x ++ y,by simp⟩

theorem get_of_mle {l l' : List Tk} {t : Nat} {x : Tk} (h : ∃ y,l' = l ++ y) (hm : l[t]? = some x) : l'[t]? = some x := by
  obtain ⟨y,rfl⟩ := h
  have : t < l.length := (List.getElem?_eq_some_iff.1 hm).1
  rw [List.getElem?_append_left this]; exact hm

theorem Rd.pres {w w' : World} {S S' : Nat → Prop} {m : Option (List Tk)} {v : Value} {a : AV} (h : Rd w S m v a) (hp : Pres S w w') (hS : ∀ b,S b → S' b) :
    ∀ {m' : Option (List Tk)},MLe m m' → Rd w' S' m' v a := by
  induction h with
  | dead m v => intro m' _; exact .dead _ _
  | bool => intro m' _; exact .bool _ _
  | int => intro m' _; exact .int _ _ _
  | fltS => intro m' _; exact .fltS _ _ _
  | fltN m k b h => intro m' _; exact .fltN _ _ _ h
  | str => intro m' _; exact .str _ _
  | nilp => intro m' _; exact .nilp _
  | nilf => intro m' _; exact .nilf _
  | nili => intro m' _; exact .nili _
  | nils => intro m' _; exact .nils _ _ _
  | ro m sz n rd get base cap u hn hc hb h h1 ih =>
    intro m' _
    refine .ro _ _ _ _ _ _ _ u hn hc (fun h0 => ?_) (fun i j hi hj => ih i j hi hj (by trivial)) h1
    obtain ⟨a,ha,hSa,hcell⟩ := hb h0
    refine ⟨a,ha,hS _ hSa,fun i j hi hj => ?_⟩
    have hblk : (a.add (i * sz + j)).block = a.block := by unfold Addr.add; split <;> rfl
    have := hcell i j hi hj
    unfold World.cell? at this ⊢
    rw [hblk] at this ⊢
    rw [hp.keep _ hSa]; exact this
  | rp m n get a u hSa hc h ih =>
    intro m' _
    refine .rp _ _ _ _ u (hS _ hSa) (fun j hj => ?_) (fun j hj => ih j hj (by trivial))
    have hblk : (a.add j).block = a.block := by unfold Addr.add; split <;> rfl
    have := hc j hj
    unfold World.cell? at this ⊢
    rw [hblk] at this ⊢
    rw [hp.keep _ hSa]; exact this
  | own l t off sz n cap b N hm hn hN =>
    intro m' hl
    cases m' with
    | none => exact hl.elim
    | some l' => exact .own _ _ _ _ _ _ _ _ (get_of_mle hl hm) hn hN
  | lst l t sz b N cap hm hn hs =>
    intro m' hl
    cases m' with
    | none => exact hl.elim
    | some l' =>
      obtain ⟨c,e,f,hb,hcs⟩ := hs
      obtain ⟨c', f', hb', hsz⟩ := hp.shp _ _ _ _ hb
      exact .lst _ _ _ _ _ _ (get_of_mle hl hm) hn ⟨c', e,f', hb', by omega⟩
  | lst0 l t sz hm =>
    intro m' hl
    cases m' with
    | none => exact hl.elim
    | some l' => exact .lst0 _ _ _ (get_of_mle hl hm)
  | ptr l t off b N hm =>
    intro m' hl
    cases m' with
    | none => exact hl.elim
    | some l' => exact .ptr _ _ _ _ _ (get_of_mle hl hm)
  | ep l t sz i j b N hm hi hj =>
    intro m' hl
    cases m' with
    | none => exact hl.elim
    | some l' => exact .ep _ _ _ _ _ _ _ (get_of_mle hl hm) hi hj
  | mp l t b N hm =>
    intro m' hl
    cases m' with
    | none => exact hl.elim
    | some l' => exact .mp _ _ _ _ (get_of_mle hl hm)
  | fn m f first captured fs cs hf hc h1 h2 ih1 ih2 =>
    intro m' hl
    exact .fn _ _ _ _ _ _ hf hc (fun j u a hu ha => ih1 j u a hu ha hl) (fun j u a hu ha => ih2 j u a hu ha hl)
  | ifc m ty v a h ih => intro m' hl; exact .ifc _ _ _ _ (ih hl)
  | agg m vs cs hs h ih => intro m' hl; exact .agg _ _ _ hs (fun j u a hu ha => ih j u a hu ha hl)
  | tup m vs cs hs h ih => intro m' hl; exact .tup _ _ _ hs (fun j u a hu ha => ih j u a hu ha hl)

theorem Glob.pres [Inhabited GlobT] {w w' : World} {S S' : Nat → Prop} (h : Glob w S) (hp : Pres S w w') (hS : ∀ b,S b → S' b) : Glob w' S' := fun g => (h g).pres hp hS trivial
theorem Glob.opnd [Inhabited GlobT] {w : World} {S : Nat → Prop} (h : Glob w S) (m : Option (List Tk)) (g : Nat) : Rd w S m (.pointer (some ⟨g,0,none⟩)) (glook (default : GlobT).gl g) := (h g).pres (.refl _ _) (fun _ h => h) trivial
theorem Glob.nil [Inhabited GlobT] (h0 : (default : GlobT).gl = []) (w : World) (S : Nat → Prop) : Glob w S := fun g => by rw [h0]; exact .dead _ _

/-! ### Tokens that are struck -/
mutual
def killP (p : Nat → Bool) : AV → AV
  | .own t off sz n c => bif p t then .dead else .own t off sz n c
  | .lst t sz => bif p t then .dead else .lst t sz
  | .ptr t o => bif p t then .dead else .ptr t o
  | .ep t sz i j => bif p t then .dead else .ep t sz i j
  | .mp t => bif p t then .dead else .mp t
  | .fn f a b => .fn f (killPL p a) (killPL p b)
  | .ifc ty v => .ifc ty (killP p v)
  | .agg cs => .agg (killPL p cs)
  | .tup cs => .tup (killPL p cs)
  | .dead => .dead
  | .bool b => .bool b
  | .int k n => .int k n
  | .flt k x => .flt k x
  | .str s => .str s
  | .nilp => .nilp
  | .nilf => .nilf
  | .nili => .nili
  | .nils sz z => .nils sz z
  | .ro sz n rd g => .ro sz n rd g
  | .rp n g => .rp n g
def killPL (p : Nat → Bool) : List AV → List AV
  | [] => []
  | v :: r => killP p v :: killPL p r
end

theorem killPL_eq (p : Nat → Bool) (l : List AV) : killPL p l = l.map (killP p) := by
  induction l with
  | nil => rfl
  | cons a l ih => simp [killPL,ih]

/-- What is left of a token list: the same but for struck tokens. -/
def Agr (p : Nat → Bool) (l l' : List Tk) : Prop := ∀ (t : Nat) x,p t = false → l[t]? = some x → l'[t]? = some x

theorem Rd.killP {w : World} {S : Nat → Prop} {p : Nat → Bool} {m m' : Option (List Tk)} {v : Value} {a : AV} (h : Rd w S m v a)
    (hm : ∀ l,m = some l → ∃ l', m' = some l' ∧ Agr p l l') : Rd w S m' v (Am.killP p a) := by
  induction h with
  | dead m v => exact .dead _ _
  | bool => exact .bool _ _
  | int => exact .int _ _ _
  | fltS => exact .fltS _ _ _
  | fltN m k b h => exact .fltN _ _ _ h
  | str => exact .str _ _
  | nilp => exact .nilp _
  | nilf => exact .nilf _
  | nili => exact .nili _
  | nils => exact .nils _ _ _
  | ro m sz n rd get base cap u hn hc hb h h1 ih => exact .ro _ _ _ _ _ _ _ u hn hc hb h h1
  | rp m n get a u hSa hc h ih => exact .rp _ _ _ _ u hSa hc h
  | own l t' off sz n cap b N hm' hn hN =>
    obtain ⟨l', rfl,hl⟩ := hm l rfl
    simp only [Am.killP]
    cases e : p t'
    · exact .own _ _ _ _ _ _ _ _ (hl _ _ e hm') hn hN
    · exact .dead _ _
  | lst l t' sz b N cap hm' hn hs =>
    obtain ⟨l', rfl,hl⟩ := hm l rfl
    simp only [Am.killP]
    cases e : p t'
    · exact .lst _ _ _ _ _ _ (hl _ _ e hm') hn hs
    · exact .dead _ _
  | lst0 l t' sz hm' =>
    obtain ⟨l', rfl,hl⟩ := hm l rfl
    simp only [Am.killP]
    cases e : p t'
    · exact .lst0 _ _ _ (hl _ _ e hm')
    · exact .dead _ _
  | ptr l t' off b N hm' =>
    obtain ⟨l', rfl,hl⟩ := hm l rfl
    simp only [Am.killP]
    cases e : p t'
    · exact .ptr _ _ _ _ _ (hl _ _ e hm')
    · exact .dead _ _
  | ep l t' sz i j b N hm' hi hj =>
    obtain ⟨l', rfl,hl⟩ := hm l rfl
    simp only [Am.killP]
    cases e : p t'
    · exact .ep _ _ _ _ _ _ _ (hl _ _ e hm') hi hj
    · exact .dead _ _
  | mp l t' b N hm' =>
    obtain ⟨l', rfl,hl⟩ := hm l rfl
    simp only [Am.killP]
    cases e : p t'
    · exact .mp _ _ _ _ (hl _ _ e hm')
    · exact .dead _ _
  | fn m f first captured fs cs hf hc h1 h2 ih1 ih2 =>
    simp only [Am.killP,killPL_eq]
    refine .fn _ _ _ _ _ _ (by simpa using hf) (by simpa using hc) (fun j u a hu ha => ?_) (fun j u a hu ha => ?_)
    · rw [List.getElem?_map] at ha
      obtain ⟨a', ha', rfl⟩ := Option.map_eq_some_iff.1 ha
      exact ih1 j u a' hu ha' hm
    · rw [List.getElem?_map] at ha
      obtain ⟨a', ha', rfl⟩ := Option.map_eq_some_iff.1 ha
      exact ih2 j u a' hu ha' hm
  | ifc m ty v a h ih => exact .ifc _ _ _ _ (ih hm)
  | agg m vs cs hs h ih =>
    simp only [Am.killP,killPL_eq]
    refine .agg _ _ _ (by simpa using hs) (fun j u a hu ha => ?_)
    rw [List.getElem?_map] at ha
    obtain ⟨a', ha', rfl⟩ := Option.map_eq_some_iff.1 ha
    exact ih j u a' hu ha' hm
  | tup m vs cs hs h ih =>
    simp only [Am.killP,killPL_eq]
    refine .tup _ _ _ (by simpa using hs) (fun j u a hu ha => ?_)
    rw [List.getElem?_map] at ha
    obtain ⟨a', ha', rfl⟩ := Option.map_eq_some_iff.1 ha
    exact ih j u a' hu ha' hm

def kill (t : Nat) (a : AV) : AV := killP (fun x => x == t) a
def isIn (t : Nat) : List Nat → Bool
  | [] => false
  | x :: r => bif x == t then true else isIn t r
/-- Struck: whichever of those. -/
def kills (ks : List Nat) (a : AV) : AV := match ks with
  | [] => a
  | ks => killP (fun x => isIn x ks) a

theorem get_set_ne {l : List Tk} {t t' : Nat} {x y : Tk} (hne : ¬ t' = t) (hm : l[t']? = some y) : (l.set t x)[t']? = some y := by
  rw [List.getElem?_set_ne (fun e => hne e.symm)]; exact hm

theorem agr_set (l : List Tk) (t : Nat) (x : Tk) : Agr (fun y => y == t) l (l.set t x) := fun t' y hp hm => get_set_ne (by simpa using hp) hm

theorem Rd.kill {w : World} {S : Nat → Prop} {m : Option (List Tk)} {v : Value} {a : AV} (h : Rd w S m v a) (t : Nat) (x : Tk) :
    Rd w S (m.map (·.set t x)) v (Am.kill t a) :=
  h.killP (fun l e => by subst e; exact ⟨_,rfl,agr_set l t x⟩)

theorem Rd.kills {w : World} {S : Nat → Prop} {l l' : List Tk} {v : Value} {a : AV} (h : Rd w S (some l) v a) {ks : List Nat} (hl : Agr (fun x => isIn x ks) l l') :
    Rd w S (some l') v (Am.kills ks a) := by
  cases ks with
  | nil =>
    have : Rd w S (some l') v (Am.killP (fun _ => false) a) := h.killP (fun l0 e => by cases e; exact ⟨_,rfl,fun t x _ hm => hl t x rfl hm⟩)
    have e : ∀ a : AV,Am.killP (fun _ => false) a = a := by
      intro a
      exact AV.rec (motive_1 := fun a => Am.killP (fun _ => false) a = a) (motive_2 := fun l => Am.killPL (fun _ => false) l = l) (by rfl) (fun _ => rfl) (fun _ _ => rfl) (fun _ _ => rfl) (fun _ => rfl) rfl rfl rfl (fun _ _ _ => rfl)
        (fun _ _ _ _ _ => rfl) (fun _ _ _ => rfl) (fun _ _ _ _ _ => rfl) (fun _ _ => rfl) (fun _ _ => rfl) (fun _ _ _ _ => rfl) (fun _ => rfl) (fun f a b h1 h2 => by simp only [Am.killP,h1,h2]) (fun ty v h => by simp only [Am.killP,h]) (fun cs h => by simp only [Am.killP,h])
        (fun vs h => by simp only [Am.killP,h]) rfl (fun a l h1 h2 => by simp only [Am.killPL,h1,h2]) a
    rw [e] at this
    exact this
  | cons k ks => exact h.killP (fun l0 e => by cases e; exact ⟨_,rfl,hl⟩)

/-! ### The local heap -/
inductive Blk where
  | gone
  | box (cs : List AV)
  | fx (sz : Nat) (z : List AV) (els : List (List AV))
  | fl (sz : Nat) (z : List AV) (els : List (List AV))
  | it (s : ByteArray) (pos : Nat)
  | mp (es : List (AV × AV))
  deriving Inhabited

def killB (t : Nat) : Blk → Blk
  | .gone => .gone
  | .box cs => .box (killPL (fun x => x == t) cs)
  | .fx sz z els => .fx sz z els
  | .fl sz z els => .fl sz z els
  | .it s pos => .it s pos
  | .mp es => .mp es

/-- A cell that is a cell. -/
def RdC (w : World) (S : Nat → Prop) (u : Value) (a : AV) : Prop := Rd w S none u a ∧ u.oneCell' = true

theorem RdC.pres {w w' : World} {S S' : Nat → Prop} {u : Value} {a : AV} (h : RdC w S u a) (hp : Pres S w w') (hS : ∀ b,S b → S' b) (_ : True) : RdC w' S' u a := ⟨h.1.pres hp hS trivial,h.2⟩

/-- The elements of a row of cells. -/
def Els (w : World) (S : Nat → Prop) (c : Array Value) (sz : Nat) (els : List (List AV)) : Prop :=
  ∀ (i : Nat) el,els[i]? = some el → el.length = sz ∧ ∀ (j : Nat) a,el[j]? = some a → ∃ u,c[i * sz + j]? = some u ∧ RdC w S u a

/-- The entries of a map. -/
def Ents (w : World) (S : Nat → Prop) (E : Array MapEntry) (es : List (AV × AV)) : Prop :=
  E.size = es.length ∧ ∀ (j : Nat) e p,E[j]? = some e → es[j]? = some p → Rd w S none e.key p.1 ∧ Rd w S none e.val p.2

/-- What a token's block holds. 'own': the blocks that may be written. -/
def BRel (w : World) (S Own : Nat → Prop) (l : List Tk) (x : Tk) : Blk → Prop
  | .gone => True
  | .box cs => ∃ b c e,x = (some b,cs.length) ∧ w.heap[b]? = some (.cells c e (0,0)) ∧ c.size = cs.length ∧ (∀ (j : Nat) u a,c[j]? = some u → cs[j]? = some a → Rd w S (some l) u a) ∧ ¬ S b ∧ Own b
  | .fx sz _ els => ∃ b c e,x = (some b,els.length) ∧ w.heap[b]? = some (.cells c e (0,0)) ∧ c.size = els.length * sz ∧ Els w S c sz els ∧ ¬ S b ∧ Own b
  | .fl sz _ els => (x = (none,0) ∧ els = []) ∨ ∃ b c e,x = (some b,els.length) ∧ w.heap[b]? = some (.cells c e (0,0)) ∧ els.length * sz ≤ c.size ∧ Els w S c sz els ∧ ¬ S b ∧ Own b
  | .it s pos => ∃ b,x = (some b,1) ∧ w.heap[b]? = some (.stringIter s pos) ∧ ¬ S b ∧ Own b
  | .mp es => ∃ b E clk,x = (some b,0) ∧ w.heap[b]? = some (.map E clk) ∧ Ents w S E es ∧ ¬ S b ∧ Own b

def Blk.live : Blk → Bool
  | .gone => false
  | _ => true

structure HRel (w : World) (S Own : Nat → Prop) (l : List Tk) (h : List Blk) : Prop where
  len : l.length = h.length
  blk : ∀ (t : Nat) x k,l[t]? = some x → h[t]? = some k → BRel w S Own l x k
  inj : ∀ (t t' b N N' : Nat) k k', l[t]? = some (some b,N) → l[t']? = some (some b,N') → h[t]? = some k → h[t']? = some k' → k.live = true → k'.live = true → t = t'
  bd : ∀ (b : Nat),S b → b < w.heap.size
  lbd : ∀ (t b N : Nat),l[t]? = some (some b,N) → b < w.heap.size
  own : ∀ (b : Nat),w.heap.size ≤ b → Own b

/-- From w to w': the streams stand, no block has gone; what lies below B and not in T is as it was. -/
structure Ev (B : Nat) (T : Nat → Prop) (w w' : World) : Prop where
  os : w'.os = w.os
  tape : w'.tape = w.tape
  output : w'.output = w.output
  size : w.heap.size ≤ w'.heap.size
  block : ∀ (k : Nat),k < B → ¬ T k → w'.heap[k]? = w.heap[k]?

theorem Ev.refl (B : Nat) (T : Nat → Prop) (w : World) : Ev B T w w := ⟨rfl,rfl,rfl,Nat.le_refl _,fun _ _ _ => rfl⟩
theorem Ev.trans {B : Nat} {T : Nat → Prop} {a b c : World} (h : Ev B T a b) (k : Ev B T b c) : Ev B T a c :=
  ⟨k.os.trans h.os,k.tape.trans h.tape,k.output.trans h.output,Nat.le_trans h.size k.size,fun i hi ht => (k.block i hi ht).trans (h.block i hi ht)⟩
end Go.Am
end
section
/- The abstract machine: what one operation does. -/
namespace Go.Am

section types
variable (P : Program)
def desc (t : TypeId) : TypeDesc := match P.underlying t with | some d => d | none => .invalid
def has (t : TypeId) : Bool := (P.info? t).isSome && (P.underlying t).isSome
def tsz (t : TypeId) : Nat := match P.info? t with | some i => i.size | none => 0
def tby (t : TypeId) : Nat := match P.info? t with | some i => i.bytes | none => 0
def isAg (t : TypeId) : Bool := match desc P t with | .struct _ => true | .array _ _ => true | _ => false
/-- A type's zero value, cell by cell. -/
def zav : Nat → TypeId → List AV
  | 0,_ => [.dead]
  | n + 1,t => match desc P t with
    | .bool => [.bool false]
    | .int k => [.int k 0]
    | .float k => [.flt k (some 0)]
    | .string => [.str ⟨#[]⟩]
    | .pointer _ => [.nilp]
    | .slice e => [.nils (tsz P e) (zav n e)]
    | .func _ _ _ => [.nilf]
    | .interface _ => [.nili]
    | .struct fs => fs.toList.flatMap fun f => zav n f.type
    | .array k e => (List.replicate k (zav n e)).flatten
    | _ => [.dead]
/-- The types of a type's cells. -/
def leaves : Nat → TypeId → List TypeId
  | 0,t => [t]
  | n + 1,t => match desc P t with
    | .struct fs => fs.toList.flatMap fun f => leaves n f.type
    | .array k e => (List.replicate k (leaves n e)).flatten
    | _ => [t]
end types

mutual
def ofVal : Value → AV
  | .bool b => .bool b
  | .int k n => .int k n
  | .float k b => .flt k (some b)
  | .string s => .str s
  | .pointer none => .nilp
  | .nilFunc => .nilf
  | .nilIface => .nili
  | .slice none 0 0 => .nils 0 []
  | _ => .dead
end

def cellsOf : AV → List AV
  | .agg cs => cs
  | v => [v]

def isDead : AV → Bool
  | .dead => true
  | _ => false

/-! payloads -/
def toB : AV → Bool | .bool b => b | _ => false
def toI : AV → Int | .int _ n => n | _ => 0
def toF : AV → Option Nat | .flt _ x => x | _ => none
def toS : AV → ByteArray | .str s => s | _ => ⟨#[]⟩
def toN : AV → Nat | .ro _ n _ _ => n | _ => 0
def toR : AV → Nat | .ro _ _ r _ => r | _ => 0
def toG : AV → Nat → Nat → AV | .ro _ _ _ g => g | _ => fun _ _ => .dead
def toC : AV → List AV | .agg cs => cs | v => [v]
def toT : AV → List AV | .tup cs => cs | v => [v]

/-- Pointwise: 'f' at the places of l. -/
def mapIdxFrom (f : Nat → TypeId → AV) : Nat → List TypeId → List AV
  | _,[] => []
  | i,t :: r => f i t :: mapIdxFrom f (i + 1) r

section eta
variable (P : Program)
/-- A value of a type in the form of its type. -/
def eta1 (t : TypeId) (v : AV) : AV := match desc P t with
  | .bool => .bool (toB v)
  | .int k => .int k (toI v)
  | .float k => .flt k (toF v)
  | .string => .str (toS v)
  | .slice e => .ro (tsz P e) (toN v) (toR v) (toG v)
  | _ => v
def fit1 (t : TypeId) (v : AV) : Bool := match desc P t,v with
  | .bool,.bool _ => true
  | .bool,_ => false
  | .int k,.int k' _ => k == k'
  | .int _,_ => false
  | .float k,.flt k' _ => k == k'
  | .float _,_ => false
  | .string,.str _ => true
  | .string,_ => false
  | .slice e,.ro sz _ _ _ => sz == tsz P e
  | .slice _,_ => false
  | _,_ => true
def etaT (t : TypeId) (v : AV) : AV :=
  bif isAg P t then .agg (mapIdxFrom (fun i u => eta1 P u ((toC v).getD i .dead)) 0 (leaves P 16 t)) else eta1 P t v
def fitL (ts : List TypeId) (vs : List AV) : Bool := match ts,vs with
  | [],[] => true
  | t :: ts,v :: vs => bif fit1 P t v then fitL ts vs else false
  | _,_ => false
def fitT (t : TypeId) (v : AV) : Bool :=
  bif isAg P t then (match v with | .agg cs => fitL P (leaves P 16 t) cs | _ => false) else fit1 P t v
end eta

/-- Kinds of cells. -/
inductive LK where
  | b
  | i (k : IntKind)
  | f (k : FloatKind)
  | s
  | l (sz : Nat)
  | any
def kindOf (P : Program) (t : TypeId) : LK := match desc P t with
  | .bool => .b
  | .int k => .i k
  | .float k => .f k
  | .string => .s
  | .slice e => .l (tsz P e)
  | _ => .any
def fitK : LK → AV → Bool
  | .b,.bool _ => true
  | .i k,.int k' _ => k == k'
  | .f k,.flt k' _ => k == k'
  | .s,.str _ => true
  | .l sz,.ro sz' _ _ _ => sz' == sz
  | .any,_ => true
  | _,_ => false
def fitKs : List LK → List AV → Bool
  | [],[] => true
  | k :: ks,v :: vs => bif fitK k v then fitKs ks vs else false
  | _,_ => false
theorem fitK_eq (P : Program) (t : TypeId) (v : AV) : fitK (kindOf P t) v = fit1 P t v := by
  unfold kindOf fit1
  cases desc P t <;> cases v <;> simp [fitK]
theorem fitKs_eq (P : Program) : ∀ (ts : List TypeId) (vs : List AV),fitKs (ts.map (kindOf P)) vs = fitL P ts vs
  | [],[] => rfl
  | [],_ :: _ => rfl
  | _ :: _,[] => rfl
  | t :: ts,v :: vs => by simp only [List.map_cons,fitKs,fitL,fitK_eq,fitKs_eq P ts vs]

def hget (h : List Blk) (t : Nat) : Blk := h.getD t .gone

/-! ### zero values, held against the program's own -/
def zmatch : Value → AV → Bool
  | .bool a,.bool b => a == b
  | .int k a,.int k' b => k == k' && a == b
  | .float k a,.flt k' (some b) => k == k' && a == b
  | .string s,.str s' => s.size == 0 && s'.size == 0
  | .pointer none,.nilp => true
  | .nilFunc,.nilf => true
  | .nilIface,.nili => true
  | .slice none 0 0,.nils _ _ => true
  | _,_ => false
def zmatchL : List Value → List AV → Bool
  | [],[] => true
  | v :: vs,a :: as => zmatch v a && zmatchL vs as
  | _,_ => false
def zok (P : Program) (t : TypeId) : Bool := match P.info? t with
  | some i => (match i.zero with
    | some v => zmatchL v.cells.toList (zav P 16 t) && (zav P 16 t).length == tsz P t
    | none => false)
  | none => false

/-- As what is only read. -/
def frz (h : List Blk) : Nat → AV → AV
  | 0,_ => .dead
  | n + 1,v => match v with
    | .own t off sz m cap => match hget h t with
      | .fx sz' z els => bif sz == sz' then .ro sz m cap (fun i j => (els.getD (off + i) z).getD j .dead) else .dead
      | _ => .dead
    | .lst t sz => match hget h t with
      | .fl sz' z els => bif sz == sz' then .ro sz els.length els.length (fun i j => (els.getD i z).getD j .dead) else .dead
      | _ => .dead
    | .nils sz z => .ro sz 0 0 (fun _ j => z.getD j .dead)
    | .ptr t off => match hget h t with
      | .box cs => .rp (cs.length - off) (fun j => (cs.map (frz h n)).getD (off + j) .dead)
      | _ => .dead
    | .ep t sz i j => match hget h t with
      | .fx sz' z els => bif sz == sz' then .rp (sz - j) (fun q => (els.getD i z).getD (j + q) .dead) else .dead
      | .fl sz' z els => bif sz == sz' then .rp (sz - j) (fun q => (els.getD i z).getD (j + q) .dead) else .dead
      | _ => .dead
    | .mp _ => .dead
    | .fn f a b => .fn f (a.map (frz h n)) (b.map (frz h n))
    | .ifc ty x => .ifc ty (frz h n x)
    | .agg cs => .agg (cs.map (frz h n))
    | .tup cs => .tup (cs.map (frz h n))
    | v => v

/-- A nil of a slice type. -/
def typ (P : Program) (t : TypeId) (v : AV) : AV := match v with
  | .nils 0 [] => match desc P t with
    | .slice e => .nils (tsz P e) (zav P 16 e)
    | _ => v
  | v => v

abbrev QR := List Bool × AV
def dn : QR := ([false],.dead)

def binI (op : BinOp) (k : IntKind) (x y : Int) : QR := match op with
  | .add => ([],.int k (k.wrap (x + y)))
  | .sub => ([],.int k (k.wrap (x - y)))
  | .mul => ([],.int k (k.wrap (x * y)))
  | .quo => ([!(decide (y = 0))],.int k (k.wrap (x.tdiv y)))
  | .rem => ([!(decide (y = 0))],.int k (x.tmod y))
  | .and => ([],.int k (k.wrap (BitVec.ofInt k.bits x &&& BitVec.ofInt k.bits y).toNat))
  | .or => ([],.int k (k.wrap (BitVec.ofInt k.bits x ||| BitVec.ofInt k.bits y).toNat))
  | .xor => ([],.int k (k.wrap (BitVec.ofInt k.bits x ^^^ BitVec.ofInt k.bits y).toNat))
  | .andNot => ([],.int k (k.wrap (BitVec.ofInt k.bits x &&& ~~~(BitVec.ofInt k.bits y)).toNat))
  | .eql => ([],.bool (x == y))
  | .neq => ([],.bool (x != y))
  | .lss => ([],.bool (decide (x < y)))
  | .leq => ([],.bool (decide (x ≤ y)))
  | .gtr => ([],.bool (decide (x > y)))
  | .geq => ([],.bool (decide (x ≥ y)))
  | _ => dn

def ford (k : FloatKind) (x y : Option Nat) : Option Ordering := x.bind fun a => y.bind fun b => k.format.order a b
def farith (op : BinOp) (k : FloatKind) (x y : Option Nat) : Option Nat := x.bind fun a => y.bind fun b => floatBits op k a b
def fcmp (op : BinOp) (c : Option Ordering) : Option Bool := match op with
  | .eql => some (c == some .eq)
  | .neq => some (c != some .eq)
  | .lss => some (c == some .lt)
  | .leq => some (c == some .lt || c == some .eq)
  | .gtr => some (c == some .gt)
  | .geq => some (c == some .gt || c == some .eq)
  | _ => none

def binF (op : BinOp) (k : FloatKind) (x y : Option Nat) : QR := match op with
  | .add | .sub | .mul | .quo => ([],.flt k (farith op k x y))
  | _ => match fcmp op (ford k x y) with
    | some b => ([],.bool b)
    | none => dn

def strEq (a b : ByteArray) : Bool := a.toList == b.toList
def strLt (a b : ByteArray) : Bool := Op.bytesLess a.toList b.toList

def binS (op : BinOp) (x y : ByteArray) : QR := match op with
  | .add => ([decide (((x.size + y.size : Nat) : Int) ≤ IntKind.i64.max)],.str (x ++ y))
  | .eql => ([],.bool (strEq x y))
  | .neq => ([],.bool (!strEq x y))
  | .lss => ([],.bool (strLt x y))
  | .leq => ([],.bool (strLt x y || strEq x y))
  | .gtr => ([],.bool (!(strLt x y || strEq x y)))
  | .geq => ([],.bool (!strLt x y))
  | _ => dn

/-- Equality of one cell. -/
def eq1 (d : TypeDesc) (x y : AV) : Option Bool := match d,x,y with
  | .bool,.bool a,.bool b => some (a == b)
  | .int _,.int k a,.int k' b => bif k == k' then some (a == b) else none
  | .float _,.flt k a,.flt k' b => bif k == k' then some (ford k a b == some .eq) else none
  | .string,.str a,.str b => some (strEq a b)
  | _,_,_ => none
def eqL (d : TypeDesc) : List AV → List AV → Option Bool
  | [],[] => some true
  | a :: l,b :: r => match eq1 d a b,eqL d l r with
    | some x,some y => some (bif x then y else false)
    | _,_ => none
  | _,_ => none
/-- Equality of structs of plain fields. -/
def eqF (P : Program) : List Field → List AV → List AV → Option Bool
  | [],_,_ => some true
  | f :: fs,a,b => bif decide (f.name = "_") then eqF P fs a b else
    bif !(has P f.type) || isAg P f.type then none else
    match eq1 (desc P f.type) (a.getD f.offset .dead) (b.getD f.offset .dead),eqF P fs a b with
    | some x,some y => some (bif x then y else false)
    | _,_ => none
def eqA (P : Program) (t : TypeId) (a b : List AV) : Option Bool := bif P.eqGuardType P.depth t then none else
  match desc P t with
  | .struct fs => bif P.stoodInHeld t then none else eqF P fs.toList a b
  | .array n e => bif !(has P e) || isAg P e || tsz P e != 1 || a.length != n then none else eqL (desc P e) a b
  | _ => none

/-- A pointer held against nil. -/
def ptN (P : Program) (t : TypeId) (b : Bool) : QR := match desc P t with
  | .pointer _ => ([],.bool b)
  | _ => dn
def qbin (P : Program) (op : BinOp) (t : TypeId) (x y : AV) : QR := match op,x,y with
  | .shl,.int k a,.int _ b => ([decide (0 ≤ b)],.int k (k.wrap (a * 2 ^ (min b.toNat k.bits))))
  | .shr,.int k a,.int _ b => ([decide (0 ≤ b)],.int k (a.fdiv (2 ^ (min b.toNat k.bits))))
  | op,.int k a,.int k' b => bif k == k' then binI op k a b else dn
  | op,.flt k a,.flt k' b => bif k == k' then binF op k a b else dn
  | op,.str a,.str b => binS op a b
  | .eql,.bool a,.bool b => (match desc P t with | .bool => ([],.bool (a == b)) | _ => dn)
  | .neq,.bool a,.bool b => (match desc P t with | .bool => ([],.bool (!(a == b))) | _ => dn)
  | .eql,.agg a,.agg b => match eqA P t a b with
    | some r => ([],.bool r)
    | none => dn
  | .neq,.agg a,.agg b => match eqA P t a b with
    | some r => ([],.bool (!r))
    | none => dn
  | .eql,.nilp,.nilp => ptN P t true
  | .neq,.nilp,.nilp => ptN P t false
  | .eql,.ptr _ _,.nilp => ptN P t false
  | .neq,.ptr _ _,.nilp => ptN P t true
  | _,_,_ => dn

def qun (op : UnOp) (x : AV) : QR := match op,x with
  | .neg,.int k n => ([],.int k (k.wrap (0 - n)))
  | .xor,.int k n => binI .xor k (if k.signed then -1 else k.max) n
  | .neg,.flt k b => ([],.flt k (b.map (Op.negFloat k)))
  | .not,.bool b => ([],.bool (!b))
  | _,_ => dn

def qconv (P : Program) (src dst : TypeId) (x : AV) : QR := bif has P src && has P dst then
    match desc P dst,x with
    | .int k,.int _ n => ([],.int k (k.wrap n))
    | .float k,.int _ n => ([],.flt k (some (k.nearest n)))
    | .int k,.flt s b => ([(b.bind fun y => floatToIntVal s y k).isSome],.int k ((b.bind fun y => floatToIntVal s y k).getD 0))
    | .float k,.flt s b => bif k == s then ([],.flt k b) else dn
    | .string,.str s => ([],.str s)
    | _,_ => dn
  else dn

def fieldOf (P : Program) (s : TypeId) (f : Nat) : Option Field := match desc P s with
  | .struct fs => fs[f]?
  | _ => none

/-- One of two values: of one kind, told inside. -/
def mergeA (c : Bool) (a b : AV) : AV := match a,b with
  | .bool x,.bool y => .bool (bif c then x else y)
  | .int k x,.int k' y => bif k == k' then .int k (bif c then x else y) else bif c then .int k x else .int k' y
  | .flt k x,.flt k' y => bif k == k' then .flt k (bif c then x else y) else bif c then .flt k x else .flt k' y
  | .str x,.str y => .str (bif c then x else y)
  | a,b => bif c then a else b
theorem mergeA_eq (c : Bool) (a b : AV) : mergeA c a b = bif c then a else b := by
  unfold mergeA
  split
  · cases c <;> rfl
  · rename_i k x k' y
    cases h : k == k' <;> simp only [cond_true,cond_false]
    obtain rfl := eq_of_beq h
    cases c <;> rfl
  · rename_i k x k' y
    cases h : k == k' <;> simp only [cond_true,cond_false]
    obtain rfl := eq_of_beq h
    cases c <;> rfl
  · cases c <;> rfl
  · rfl
def getM : List AV → Nat → AV
  | [],_ => .dead
  | [c],_ => c
  | c :: d :: r,off => mergeA (Nat.beq off 0) c (getM (d :: r) (off - 1))
theorem getM_eq : ∀ {cs : List AV} {off : Nat},off < cs.length → getM cs off = cs.getD off .dead
  | [],off,h => by simp at h
  | [c],off,h => by
    have : off = 0 := by simp at h; exact h
    subst this; rfl
  | c :: d :: r,off,h => by
    simp only [getM,mergeA_eq]
    cases off with
    | zero => rfl
    | succ k =>
      have : Nat.beq (k + 1) 0 = false := rfl
      rw [this,cond_false]
      simp only [Nat.add_sub_cancel]
      rw [getM_eq (by simpa using h)]
      rfl
/-- Cells in the place of others, told inside. -/
def spliceFrom (off : Nat) (vs : List AV) : Nat → List AV → List AV
  | _,[] => []
  | j,c :: r => mergeA (Nat.ble off j && Nat.blt j (off + vs.length)) (getM vs (j - off)) c :: spliceFrom off vs (j + 1) r
def spliceM (cs : List AV) (off : Nat) (vs : List AV) : List AV := spliceFrom off vs 0 cs

/-- Some of the cells of an aggregate. -/
def qpart (P : Program) (t : TypeId) (cs : List AV) (off : Nat) : QR :=
  bif isAg P t then ([Nat.ble (off + tsz P t) cs.length],.agg ((cs.drop off).take (tsz P t))) else ([Nat.blt off cs.length],getM cs off)

/-- The byte at a place. -/
def sbyte (s : ByteArray) (i : Nat) : Int := ((s.data[i]?).getD 0).toNat

/-- Cells in the place of others. -/
def splice (cs : List AV) (off : Nat) (vs : List AV) : List AV := cs.take off ++ vs ++ cs.drop (off + vs.length)

/-- The parts of a composite: (place, size) of part i by 'pl'. -/
def fillA (pl : Nat → Option (Nat × Nat)) (cells : List AV) : List (Nat × AV) → Option (List AV)
  | [] => some cells
  | (i,v) :: rest => match pl i with
    | none => none
    | some (off,size) => bif isDead v || (cellsOf v).length != size || Nat.blt cells.length (off + size) then none else fillA pl (splice cells off (cellsOf v)) rest

def bnd (i : Int) (n : Nat) : List Bool := [decide (0 ≤ i),decide (i < (n : Int))]

def qidxAddr (P : Program) (h : List Blk) (t : TypeId) (x i : AV) : QR := match i with
  | .int _ i => match desc P t,x with
    | .slice e,.ro sz n _ get => bif has P e && sz == tsz P e then (bnd i n,.rp sz (fun j => get i.toNat j)) else dn
    | .slice e,.own t' off sz n _ => bif has P e && sz == tsz P e && Nat.blt 0 sz then (match hget h t' with | .box _ => bif Nat.beq sz 1 then (bnd i n,.ptr t' (off + i.toNat)) else dn | _ => (bnd i n,.ep t' sz (off + i.toNat) 0)) else dn
    | .slice e,.lst t' sz => bif has P e && sz == tsz P e && Nat.blt 0 sz then (match hget h t' with | .fl _ _ els => (bnd i els.length,.ep t' sz i.toNat 0) | _ => dn) else dn
    | .array n e,.ptr t' off => bif has P e then (bnd i n,.ptr t' (off + i.toNat * tsz P e)) else dn
    | .array n e,.rp m get => bif has P e then (bnd i n,.rp (m - i.toNat * tsz P e) (fun j => get (i.toNat * tsz P e + j))) else dn
    | .array n e,.ep t' sz p q => bif has P e then (bnd i n ++ [decide (q + i.toNat * tsz P e < sz)],.ep t' sz p (q + i.toNat * tsz P e)) else dn
    | _,_ => dn
  | _ => dn

def qidx (P : Program) (t : TypeId) (x i : AV) : QR := match i with
  | .int _ i => match desc P t,x with
    | .array n e,.agg cs => bif has P e && (cs.length == n * tsz P e) then
        (bif isAg P e then (bnd i n,.agg ((cs.drop (i.toNat * tsz P e)).take (tsz P e))) else bif tsz P e == 1 then (bnd i n,getM cs (i.toNat * tsz P e)) else dn) else dn
    | .string,.str s => (bnd i s.size,.int .u8 (sbyte s i.toNat))
    | _,_ => dn
  | _ => dn


/-- Bounds of a slice: (checks, low, high). -/
def sbnd (n cap : Nat) (lo hi : Option AV) : Option (List Bool × Nat × Nat) :=
  match hi with
  | none => match lo with
    | none => some ([],0,n)
    | some (.int _ l) => some ([decide (0 ≤ l),decide (l ≤ (n : Int))],l.toNat,n)
    | _ => none
  | some (.int _ h) => match lo with
    | none => some ([decide (0 ≤ h),decide (h ≤ (cap : Int))],0,h.toNat)
    | some (.int _ l) => some ([decide (0 ≤ h),decide (h ≤ (cap : Int)),decide (0 ≤ l),decide (l ≤ h)],l.toNat,h.toNat)
    | _ => none
  | _ => none

/-- No cell of the type is of a kind that is not told. -/
def toldL (P : Program) (t : TypeId) : Bool := (leaves P 16 t).all fun u => match kindOf P u with | .any => false | _ => true

def qslice (P : Program) (t : TypeId) (x : AV) (lo hi mx : Option AV) : Option QR := match mx with
  | some _ => none
  | none => match desc P t,x with
    | .string,.str s => (sbnd s.size s.size lo hi).map fun (c,l,h) => (c,.str (s.extract l h))
    | .slice e,.ro sz n rd get => bif has P e && sz == tsz P e then (sbnd n rd lo hi).map fun (c,l,h) => (c,.ro sz (h - l) (rd - l) (fun i j => get (l + i) j)) else none
    | .slice e,.own t' off sz n cap => bif has P e && sz == tsz P e then (sbnd n cap lo hi).map fun (c,l,h) => (decide (l < cap) :: c,.own t' (off + l) sz (h - l) (cap - l)) else none
    | .slice e,.nils sz z => bif has P e && sz == tsz P e then (sbnd 0 0 lo hi).map fun (c,_,_) => (c,.nils sz z) else none
    | .array n e,.rp m get => bif has P e && isAg P t && toldL P t then (sbnd n n lo hi).map fun (c,l,h) =>
        (Nat.ble (n * tsz P e) m :: fitKs ((leaves P 16 t).map (kindOf P)) ((List.range (n * tsz P e)).map get) :: c,
          .ro (tsz P e) (h - l) (n - l) (fun i j => (toC (etaT P t (.agg ((List.range (n * tsz P e)).map get)))).getD ((l + i) * tsz P e + j) .dead)) else none
    | _,_ => none

def qload (P : Program) (h : List Blk) (t : TypeId) (a : AV) : QR := bif has P t then
    (match a with
    | .rp n get => bif isAg P t then ([Nat.ble (tsz P t) n,fitKs ((leaves P 16 t).map (kindOf P)) ((List.range (tsz P t)).map get)],etaT P t (.agg ((List.range (tsz P t)).map get)))
      else ([Nat.blt 0 n,fitK (kindOf P t) (get 0)],etaT P t (get 0))
    | .ptr t' off => match hget h t' with
      | .box cs => qpart P t cs off
      | _ => dn
    | .ep t' sz i j => match hget h t' with
      | .fx sz' z els | .fl sz' z els =>
        bif !(sz == sz') || !(Nat.ble (j + tsz P t) sz) then dn else
        bif isAg P t then ([fitKs ((leaves P 16 t).map (kindOf P)) (((els.getD i z).drop j).take (tsz P t))],etaT P t (.agg (((els.getD i z).drop j).take (tsz P t))))
        else ([fitK (kindOf P t) ((els.getD i z).getD j .dead)],etaT P t ((els.getD i z).getD j .dead))
      | _ => dn
    | _ => dn)
  else dn

def qlen (P : Program) (h : List Blk) (t : TypeId) (x : AV) : QR := match desc P t,x with
  | .string,.str s => ([],.int .i64 s.size)
  | .array n _,_ => ([],.int .i64 n)
  | .slice _,.ro _ n _ _ => ([],.int .i64 n)
  | .slice _,.own _ _ _ n _ => ([],.int .i64 n)
  | .slice _,.nils _ _ => ([],.int .i64 0)
  | .slice _,.lst t' _ => match hget h t' with
    | .fl _ _ els => ([],.int .i64 els.length)
    | _ => dn
  | _,_ => dn

def qpick (c a b : AV) : QR := match c with
  | .bool c => match a,b with
    | .bool x,.bool y => ([],.bool (bif c then x else y))
    | .int k x,.int k' y => bif k == k' then ([],.int k (bif c then x else y)) else dn
    | .flt k x,.flt k' y => bif k == k' then ([],.flt k (bif c then x else y)) else dn
    | .str x,.str y => ([],.str (bif c then x else y))
    | _,_ => dn
  | _ => dn

def min2 (k : IntKind) (x y : Int) : AV := .int k (if y < x then y else x)
def max2 (k : IntKind) (x y : Int) : AV := .int k (if y > x then y else x)

/-- A zero value of one cell. -/
def zok1 (P : Program) (t : TypeId) : Bool := match P.info? t with
  | some i => (match i.zero with
    | some v => zmatch v ((zav P 16 t).headD .dead)
    | none => false)
  | none => false
/-- Keys of a map. -/
def keyEq (P : Program) (kt : TypeId) (a b : AV) : Option Bool := match desc P kt with
  | .string => eq1 .string a b
  | .bool => eq1 .bool a b
  | .int k => eq1 (.int k) a b
  | .array _ _ => match a,b with
    | .agg x,.agg y => eqA P kt x y
    | _,_ => none
  | _ => none
def keyOk (P : Program) (kt : TypeId) (k : AV) : Bool := match desc P kt with
  | .string => true
  | .bool => true
  | .int _ => true
  | .array n e => (match k with
    | .agg cs => has P e && !(isAg P e) && tsz P e == 1 && cs.length == n && (match desc P e with | .string => true | .bool => true | .int _ => true | _ => false)
    | _ => false)
  | _ => false
def isT : Option Bool → Bool
  | some b => b
  | none => false
def findM (P : Program) (kt : TypeId) (k : AV) : List (AV × AV) → Option AV
  | [] => none
  | p :: r => bif isT (keyEq P kt k p.1) then some p.2 else findM P kt k r
def mapFit (P : Program) (kt : TypeId) (k : AV) (es : List (AV × AV)) : Bool := es.all fun p => (keyEq P kt k p.1).isSome
def qlookup (P : Program) (h : List Blk) (t : TypeId) (x i : AV) (ok : Bool) : QR := match desc P t with
  | .map kt et => match x with
    | .mp t' => match hget h t' with
      | .mp es => bif !(zok1 P et) then dn else
          ([keyOk P kt i,mapFit P kt i es,fit1 P et ((findM P kt i es).getD ((zav P 16 et).headD .dead))],
            bif ok then .tup [eta1 P et ((findM P kt i es).getD ((zav P 16 et).headD .dead)),.bool (findM P kt i es).isSome] else eta1 P et ((findM P kt i es).getD ((zav P 16 et).headD .dead)))
      | _ => dn
    | _ => dn
  | _ => dn

def bytesOf (els : List (List AV)) : ByteArray := ⟨(els.map fun el => UInt8.ofNat (toI (el.headD .dead)).toNat).toArray⟩
/-- Bytes as a text. -/
def qbytes (P : Program) (h : List Blk) (s d : TypeId) (x : AV) : QR := match desc P s,desc P d with
  | .slice e,.string => match desc P e,x with
    | .int .u8,.lst t sz => match hget h t with
      | .fl sz' _ els => bif has P s && has P d && has P e && Nat.beq sz 1 && Nat.beq sz' 1 then ([els.all fun el => fitKs [.i .u8] el],.str (bytesOf els)) else dn
      | _ => dn
    | _,_ => dn
  | _,_ => dn

/-- Operations that change no memory. 'ga', 'gb': operands where a test says yes, no (for 'pick' alone). -/
def qop (P : Program) (h : List Blk) (g ga gb : Operand → AV) (o : Oper) : Option QR := match o.op with
  | .move x | .assign x => some ([],typ P o.type (g x))
  | .pick c a b => some (qpick (g c) (ga a) (gb b))
  | .load t a => some (qload P h t (g a))
  | .nilCheck x => match g x with
    | .ptr t off => some ([],.ptr t off)
    | .rp n get => some ([],.rp n get)
    | .ep t sz i j => some ([],.ep t sz i j)
    | _ => none
  | .binOp op t x y _ => some (qbin P op t (g x) (g y))
  | .unOp op _ x => some (qun op (g x))
  | .convert s d x => match g x with
    | .int _ _ | .flt _ _ => some (qconv P s d (g x))
    | .str _ => match desc P d with
      | .string => some (qconv P s d (g x))
      | _ => none
    | .lst _ _ => some (qbytes P h s d (g x))
    | _ => none
  | .makeInterface t x => bif isDead (g x) then none else match desc P t with
    | .interface _ => none
    | .invalid => none
    | _ => some ([],.ifc t (g x))
  | .makeFunc f a b => some ([],.fn f (a.toList.map g) (b.toList.map g))
  | .build t ps => bif !(zok P t) then none else match desc P t with
    | .struct fs => bif !(fs.toList.all fun f => has P f.type) then none else
      (fillA (fun i => (fs[i]?).map fun f => (f.offset,tsz P f.type)) (zav P 16 t) (ps.toList.map fun p => (p.1,typ P (((fs[p.1]?).map (·.type)).getD 0) (g p.2)))).map fun cs => ([],.agg cs)
    | .array _ e => bif !(has P e) then none else (fillA (fun i => some (i * tsz P e,tsz P e)) (zav P 16 t) (ps.toList.map fun p => (p.1,typ P e (g p.2)))).map fun cs => ([],.agg cs)
    | _ => none
  | .fieldAddr s x f => match fieldOf P s f with
    | some fl => bif has P fl.type && Nat.blt 0 (tsz P fl.type) then (match g x with
      | .ptr t off => some ([],.ptr t (off + fl.offset))
      | .rp n get => some ([],.rp (n - fl.offset) (fun j => get (fl.offset + j)))
      | .ep t sz i j => bif Nat.blt (j + fl.offset) sz then some ([],.ep t sz i (j + fl.offset)) else none
      | _ => none) else none
    | none => none
  | .field s x f => match fieldOf P s f with
    | some fl => bif has P fl.type then (match g x with
      | .agg cs => some (qpart P fl.type cs fl.offset)
      | _ => none) else none
    | none => none
  | .indexAddr t x i => some (qidxAddr P h t (g x) (g i))
  | .index t x i => some (qidx P t (g x) (g i))
  | .slice t x lo hi mx => qslice P t (g x) (lo.map g) (hi.map g) (mx.map g)
  | .lookup t x i c => some (qlookup P h t (g x) (g i) c)
  | .extract x i => match g x with
    | .tup vs => match vs[i]? with
      | some v => some ([],v)
      | none => none
    | _ => none
  | .call { callee := .builtin .len,args,argTypes } => match args.toList,argTypes.toList with
    | [x],[t] => some (qlen P h t (g x))
    | _,_ => none
  | .call { callee := .builtin .min,args,.. } => match args.toList.map g with
    | [.int k x,.int k' y] => bif k == k' then some ([],min2 k x y) else none
    | _ => none
  | .call { callee := .builtin .max,args,.. } => match args.toList.map g with
    | [.int k x,.int k' y] => bif k == k' then some ([],max2 k x y) else none
    | _ => none
  | _ => none
end Go.Am
end
section
/- The abstract machine: operations that change memory; regions; code; functions. -/
namespace Go.Am

/-- The tokens that a value leads to. -/
def reach (h : List Blk) : Nat → AV → List Nat
  | 0,_ => []
  | n + 1,v => match v with
    | .own t _ _ _ _ => [t]
    | .lst t _ => [t]
    | .ptr t _ => t :: (match hget h t with
      | .box cs => cs.flatMap (reach h n)
      | _ => [])
    | .ep t _ _ _ => [t]
    | .mp t => [t]
    | .fn _ a b => a.flatMap (reach h n) ++ b.flatMap (reach h n)
    | .ifc _ x => reach h n x
    | .agg cs => cs.flatMap (reach h n)
    | .tup cs => cs.flatMap (reach h n)
    | _ => []

abbrev Env := List (Nat × AV)
def eget : Env → Nat → AV
  | [],_ => .dead
  | (i,v) :: r,s => bif i == s then v else eget r s
def eset : Env → Nat → AV → Env
  | [],s,v => [(s,v)]
  | (i,u) :: r,s,v => bif i == s then (s,v) :: r else bif Nat.blt s i then (s,v) :: (i,u) :: r else (i,u) :: eset r s v

/-- Results of the region at hand: slot, under which test (slot, wanted), value. -/
abbrev Loc := List (Nat × Option (Nat × Bool) × AV)
def ekills (ks : List Nat) (e : Env) : Env := match ks with
  | [] => e
  | ks => e.map fun p => (p.1,kills ks p.2)
def lkills (ks : List Nat) (e : Loc) : Loc := match ks with
  | [] => e
  | ks => e.map fun p => (p.1,p.2.1,kills ks p.2.2)
/-- Tokens, each once. -/
def addK (ks kd : List Nat) : List Nat := match ks with
  | [] => kd
  | k :: r => bif isIn k kd then addK r kd else addK r (k :: kd)

def keyIn (k : Nat × Bool) : List (Nat × Bool) → Bool
  | [] => false
  | x :: r => bif x.1 == k.1 && x.2 == k.2 then true else keyIn k r

def lget (env : Env) (ks : List (Nat × Bool)) : Loc → Nat → AV
  | [],s => eget env s
  | (i,k,v) :: r,s => bif i == s then (match k with
      | none => v
      | some k => bif keyIn k ks then v else .dead) else lget env ks r s

/-- Under which test a slot of this region was written; its value all the same. -/
def lkey (env : Env) : Loc → Nat → Option (Nat × Bool) × AV
  | [],s => (none,eget env s)
  | (i,k,v) :: r,s => bif i == s then (k,v) else lkey env r s

/-- The tests under which an operation runs: its own, that of the operation that it asks, and so on. -/
def keys (env : Env) (loc : Loc) : Nat → Option (Nat × Bool) → List (Nat × Bool)
  | 0,_ => []
  | _ + 1,none => []
  | n + 1,some k => k :: keys env loc n (lkey env loc k.1).1

def opnd [Inhabited GlobT] (env : Env) (loc : Loc) (ks : List (Nat × Bool)) : Operand → AV
  | .tmp t => lget env ks loc t
  | .const v => ofVal v
  | .func f => .fn (.func f) [] []
  | .global g => glook (default : GlobT).gl g

def chk {R : Type} (gb : Bool) (k : Option R) : List Bool → Option R
  | [] => k
  | c :: r => bif (bif gb then c else true) then chk gb k r else none

/-- At the region's end: what was written for sure. -/
def close (env : Env) : Loc → Env
  | [] => env
  | (i,k,v) :: r => eset (close env r) i (match k with | none => v | some _ => .dead)

/-- How the answer of a function that changes boxes of its caller's is built: the next result; a pointer to a box; a new box of the next results; the next result as a list of our own. -/
inductive XO where
  | one
  | ptr (i off : Nat)
  | newb (n off : Nat)
  | newl (sz : Nat) (z : List AV)
  | newo (sz : Nat) (z : List AV)
/-- A function that changes boxes of its caller's: which arguments are pointers, to which box; how many cells each has; the answer. -/
structure XS where
  pat : List (Option (Nat × Nat))
  nb : List Nat
  out : List XO
  kp : Bool := false

/-- A summary: of arguments that are only read: does it speak of them; what it answers; are answers numbers, texts and the like alone? -/
structure Sm where
  sc : Bool
  ok : List AV → Bool
  val : List AV → AV
  mx : Option XS

abbrev Gam := List (Nat × Sm)
def Gam.get : Gam → Nat → Option Sm
  | [],_ => none
  | (i,s) :: r,f => bif i == f && s.mx.isNone then some s else Gam.get r f
def eqPat : List (Option (Nat × Nat)) → List (Option (Nat × Nat)) → Bool
  | [],[] => true
  | none :: r,none :: r' => eqPat r r'
  | some a :: r,some b :: r' => a.1 == b.1 && a.2 == b.2 && eqPat r r'
  | _,_ => false
def eqN0 : List Nat → List Nat → Bool
  | [],[] => true
  | a :: r,b :: r' => a == b && eqN0 r r'
  | _,_ => false
def Gam.getX : Gam → Nat → List (Option (Nat × Nat)) → List Nat → Option (Sm × XS)
  | [],_,_,_ => none
  | (i,s) :: r,f,pat,nb => bif i == f then (match s.mx with
      | some X => bif eqPat X.pat pat && eqN0 X.nb nb then some (s,X) else Gam.getX r f pat nb
      | none => Gam.getX r f pat nb) else Gam.getX r f pat nb

structure MR where
  ok : List Bool
  v : AV
  h : List Blk
  ks : List Nat

def hset (h : List Blk) (t : Nat) (b : Blk) : List Blk := h.set t b
def strike (ts : List Nat) (h : List Blk) : List Blk := ts.foldl (fun h t => hset h t .gone) h

/-- Is the slot an argument of a call (not of 'append') in one of these operations? -/
def spent (s : Nat) : List Oper → Bool
  | [] => false
  | o :: r => (match o.op with
    | .call c => (match c.callee with | .builtin .append => c.args.toList.drop 1 | _ => c.args.toList).any fun | .tmp t => t == s | _ => false
    | _ => false) || spent s r


def rows (sz n : Nat) (get : Nat → Nat → AV) : List (List AV) := (List.range n).map fun i => (List.range sz).map (get i)

/-- Cells alone. -/
def flat : AV → Bool
  | .agg cs => cs.all fun c => match c with | .agg _ | .tup _ | .dead => false | _ => true
  | .tup _ => false
  | .dead => false
  | _ => true

/-- Elements of parts: (place, cells). -/
def fillE (els : List (List AV)) (sz : Nat) : List (Nat × AV) → Option (List (List AV))
  | [] => some els
  | (i,v) :: rest => bif !(flat v) || (cellsOf v).length != sz || !(Nat.blt i els.length) then none else fillE (els.set i (cellsOf v)) sz rest

/-- A store through a pointer to a list's element. -/
def stEl (P : Program) (h' : List Blk) (t : TypeId) (t' sz i j : Nat) (cs : List AV) : Option MR := match hget h' t' with
  | .fx sz' z els => bif !(sz == sz') || !(Nat.ble (j + tsz P t) sz) then none else some ⟨[],.dead,hset h' t' (.fx sz' z (els.set i (splice (els.getD i z) j cs))),[]⟩
  | .fl sz' z els => bif !(sz == sz') || !(Nat.ble (j + tsz P t) sz) then none else some ⟨[],.dead,hset h' t' (.fl sz' z (els.set i (splice (els.getD i z) j cs))),[]⟩
  | _ => none

/-- 'append': onto what is nil; onto a list of our own; into room of our own. -/
def apSl (P : Program) (h : List Blk) (e : TypeId) (sz n : Nat) (news : List (List AV)) (s : AV) : Option MR := match s with
  | .nils _ _ => some ⟨[decide (n * tby P e < 2 ^ 46),decide (n < 2 ^ 62)],.lst h.length sz,h ++ [.fl sz (zav P 16 e) news],[]⟩
  | .lst t' sz' => match hget h t' with
    | .fl sz'' z els => bif !(sz == sz') || !(sz == sz'') then none else
      some ⟨[decide ((els.length + n) * tby P e < 2 ^ 46),decide (els.length + n < 2 ^ 62)],.lst t' sz,((hset h t' .gone).map (killB t')).set t' (.fl sz z (els ++ news)),[t']⟩
    | _ => none
  | .own t' off sz' m cap => match hget h t' with
    | .fx sz'' z els => bif !(sz == sz') || !(sz == sz'') then none else
      some ⟨[decide (m + n ≤ cap)],.own t' off sz (m + n) cap,hset h t' (.fx sz z (els.take (off + m) ++ news ++ els.drop (off + m + n))),[]⟩
    | _ => none
  | _ => none

mutual
def scal : AV → Bool
  | .bool _ => true
  | .int _ _ => true
  | .flt _ _ => true
  | .str _ => true
  | .agg cs => scalL cs
  | .tup cs => scalL cs
  | _ => false
def scalL : List AV → Bool
  | [] => true
  | a :: r => scal a && scalL r
end

/-- The block of a new list: of pointers, told cell by cell. -/
def msBlk (P : Program) (e : TypeId) (c : Nat) : Blk := match desc P e with
  | .pointer _ => .box (List.replicate c .nilp)
  | _ => .fx (tsz P e) (zav P 16 e) (List.replicate c (zav P 16 e))

def mop (P : Program) (h : List Blk) (g : Operand → AV) (o : Oper) (rest : List Oper) : Option MR := match o.op with
  | .box t x => let v := typ P t (g x); bif isDead v || (cellsOf v).length != tsz P t then none else some ⟨[],.ptr h.length 0,h ++ [.box (cellsOf v)],[]⟩
  | .alloc t => bif !(zok P t) then none else some ⟨[],.ptr h.length 0,h ++ [.box (zav P 16 t)],[]⟩
  | .buildSlice t n ps => match desc P t with
    | .slice e => bif !(has P e) || tsz P e == 0 || !(zok P e) || Nat.blt (2 ^ 24) (n * tsz P e) then none else
      let vs := ps.toList.map fun p => (p.1,typ P e (g p.2))
      let ts := vs.flatMap fun p => reach h 4 p.2
      match fillE (List.replicate n (zav P 16 e)) (tsz P e) (vs.map fun p => (p.1,frz h 4 p.2)) with
      | none => none
      | some els => bif (match o.dst with | some d => spent d rest | none => false) then
          some ⟨[],.ro (tsz P e) n n (fun i j => (els.getD i []).getD j .dead),strike ts h,[]⟩
        else some ⟨[],.lst h.length (tsz P e),strike ts h ++ [.fl (tsz P e) (zav P 16 e) els],[]⟩
    | _ => none
  | .makeSlice t l c => match desc P t,g l,g c with
    | .slice e,.int _ l,.int _ c => bif !(has P e) || tsz P e == 0 || !(zok P e) then none else
      some ⟨[decide (0 ≤ l),decide (l ≤ c),Nat.ble (tby P e * c.toNat) (2 ^ 48),Nat.ble (c.toNat + 1) (2 ^ 62)],.own h.length 0 (tsz P e) l.toNat c.toNat,h ++ [msBlk P e c.toNat],[]⟩
    | _,_,_ => none
  | .store t a x => let v := typ P t (g x); bif !(has P t) then none else match g a with
    | .ptr t' off => match hget h t' with
      | .box cs => bif !(flat v) || (cellsOf v).length != tsz P t then none else some ⟨[Nat.ble (off + tsz P t) cs.length],.dead,hset h t' (.box (spliceM cs off (cellsOf v))),[]⟩
      | _ => none
    | .ep t' sz i j => bif !(flat (frz h 4 v)) || (cellsOf (frz h 4 v)).length != tsz P t then none else stEl P (strike (reach h 4 v) h) t t' sz i j (cellsOf (frz h 4 v))
    | _ => none
  | .call { callee := .builtin .append,args,argTypes } => match args.toList,argTypes.toList with
    | [s,x],[t,t2] => match desc P t,desc P t2 with
      | .slice e,.slice _ => bif !(has P e) || tsz P e == 0 || !(zok P e) || !(Nat.blt (tby P e) (2 ^ 30)) then none else
        match frz h 4 (typ P t (g x)) with
        | .ro sz n _ get => bif !(sz == tsz P e) then none else apSl P h e sz n (rows sz n get) (typ P t (g s))
        | _ => none
      | _,_ => none
    | _,_ => none
  | .call { callee := .builtin .copy,args,argTypes } => match args.toList,argTypes.toList with
    | [d,x],[t,t2] => match desc P t with
      | .slice e => bif !(has P e) || !(tsz P e == 1) then none else
        match frz h 4 (typ P t2 (g x)) with
        | .ro sz n _ get => bif !(sz == 1) then none else
          match g d with
          | .own t' off sz' m _ => bif !(sz' == 1) then none else match hget h t' with
            | .fx sz'' z els => bif !(sz'' == 1) then none else
              some ⟨[],.int .i64 (Nat.min n m : Nat),hset h t' (.fx 1 z (els.take off ++ rows 1 (Nat.min n m) get ++ els.drop (off + Nat.min n m))),[]⟩
            | _ => none
          | _ => none
        | _ => none
      | _ => none
    | _,_ => none
  | .makeMap _ none => some ⟨[],.mp h.length,h ++ [.mp []],[]⟩
  | .mapUpdate t m k v => match desc P t with
    | .map kt _ => match g m with
      | .mp t' => match hget h t' with
        | .mp es => bif !(scal (g k)) || !(scal (g v)) then none else
          some ⟨[keyOk P kt (g k),mapFit P kt (g k) es,!(findM P kt (g k) es).isSome],.dead,hset h t' (.mp (es ++ [(g k,g v)])),[]⟩
        | _ => none
      | _ => none
    | _ => none
  | .range t x => match desc P t with
    | .string => match g x with
      | .str s => some ⟨[],.ptr h.length 0,h ++ [.it s 0],[]⟩
      | _ => none
    | _ => none
  | _ => none

/-- The next rune of a text: is there one, then, else. -/
def nxt (h : List Blk) (g : Operand → AV) (o : Oper) : Option (Bool × MR × MR) := match o.op with
  | .next x true => match g x with
    | .ptr t 0 => match hget h t with
      | .it s pos => some (Nat.blt pos s.size,⟨[],.tup [.bool true,.int .i64 pos,.int .i32 (Utf8.decode s pos).1],hset h t (.it s (pos + (Utf8.decode s pos).2)),[]⟩,⟨[],.tup [.bool false],h,[]⟩)
      | _ => none
    | _ => none
  | _ => none

/-- A list that is built under a test, for a call alone. -/
def gmop (P : Program) (h : List Blk) (g : Operand → AV) (o : Oper) (rest : List Oper) : Option QR := match o.op with
  | .buildSlice _ _ ps => bif ps.toList.all fun p => scal (g p.2) then (match mop P h g o rest with
    | some r => (match r.v with
      | .ro _ _ _ _ => some (r.ok,r.v)
      | _ => none)
    | none => none) else none
  | _ => none

def noneN : List Nat → Bool
  | [] => true
  | _ => false
theorem noneN_eq : ∀ {l : List Nat},noneN l = true → l = []
  | [],_ => rfl
  | _ :: _,h => by cases h
/-- A list of what is only read that is built under a test, in a region that draws its order. -/
def gdop (P : Program) (h : List Blk) (g : Operand → AV) (o : Oper) : Option QR := match o.op with
  | .buildSlice t n ps => match desc P t with
    | .slice e => bif !(has P e) || tsz P e == 0 || !(zok P e) || Nat.blt (2 ^ 24) (n * tsz P e) || !(ps.toList.all fun p => noneN (reach h 4 (typ P e (g p.2)))) then none else
      match fillE (List.replicate n (zav P 16 e)) (tsz P e) ((ps.toList.map fun p => (p.1,typ P e (g p.2))).map fun p => (p.1,frz h 4 p.2)) with
      | none => none
      | some els => some ([],.ro (tsz P e) n n (fun i j => (els.getD i []).getD j .dead))
    | _ => none
  | _ => none

def guardOf (ops : Array Oper) (o : Oper) : Option (Nat × Bool) := match o.guard with
  | none => none
  | some (j,want) => match (ops[j]?).bind (·.dst) with
    | some d => some (d,want)
    | none => some (0,want)

def guardOk (ops : Array Oper) (o : Oper) : Bool := match o.guard with
  | none => true
  | some (j,_) => ((ops[j]?).bind (·.dst)).isSome

/-! ### Regions that draw their order -/
/-- All that a binding edge leads to, as bits. -/
def bmOf (acc : List Nat) (o : Oper) : Nat := o.after.toList.foldl (fun s e => bif Region.binds .any e then s ||| (1 <<< e.on) ||| acc.getD e.on 0 else s) 0
def befs : List Oper → List Nat → List Nat
  | [],acc => acc
  | o :: r,acc => befs r (acc ++ [bmOf acc o])
/-- Does j wait for i? -/
def tw (ops : Array Oper) (j i : Nat) : Bool := Nat.testBit ((befs ops.toList []).getD j 0) i
/-- The slots that an operation looks at. -/
def looks (ops : Array Oper) (o : Oper) : List Nat := o.op.operands.toList.filterMap (fun | .tmp t => some t | _ => none) ++ (match guardOf ops o with | some (d,_) => [d] | none => [])
def dstIn (d : Option Nat) (l : List Nat) : Bool := match d with
  | some d => isIn d l
  | none => false
def sameDst (a b : Option Nat) : Bool := match a,b with
  | some a,some b => a == b
  | _,_ => false
def okPair (ops : Array Oper) (j i : Nat) : Bool := match ops[i]?,ops[j]? with
  | some x,some y => !(sameDst x.dst y.dst) && (bif dstIn x.dst (looks ops y) || dstIn y.dst (looks ops x) then tw ops j i else true)
  | _,_ => false
def okOne (ops : Array Oper) (j : Nat) : Bool := match ops[j]? with
  | some o => (o.after.toList.all fun e => !(Region.binds .any e) || Nat.blt e.on j) && guardOk ops o && (match o.guard with | some (g,_) => Nat.blt g j | none => true) && !(dstIn o.dst (looks ops o))
  | none => false
/-- What the order of a region may be: the edges lead back; what touches waits. -/
def okD (ops : Array Oper) : Bool := (List.range ops.size).all fun j => okOne ops j && (List.range j).all (okPair ops j)

def direct : AV → List Nat
  | .own t _ _ _ _ => [t]
  | .lst t _ => [t]
  | .ptr t _ => [t]
  | .ep t _ _ _ => [t]
  | .mp t => [t]
  | _ => []
/-- The tokens that an operation needs (a hint alone). -/
def footOf (h : List Blk) (g : Operand → AV) (o : Oper) : List Nat := match o.op with
  | .load _ a => direct (g a)
  | .indexAddr _ x _ => direct (g x)
  | .store _ a x => direct (g a) ++ (match g a with | .ep _ _ _ _ => reach h 4 (g x) | _ => [])
  | .buildSlice _ _ ps => ps.toList.flatMap fun p => reach h 4 (g p.2)
  | .lookup _ x _ _ => direct (g x)
  | .convert _ _ x => direct (g x)
  | .mapUpdate _ x _ _ => direct (g x)
  | .call c => match c.callee with
    | .builtin .len => c.args.toList.flatMap fun x => direct (g x)
    | .builtin .append => (match c.args.toList with
      | [s,x] => direct (g s) ++ reach h 4 (g x)
      | _ => [])
    | .builtin .copy => (match c.args.toList with
      | [s,x] => direct (g s) ++ reach h 4 (g x)
      | _ => [])
    | .value f => (f :: c.args.toList).flatMap fun x => reach h 4 (g x)
    | _ => []
  | _ => []

def restr (F : List Nat) : Nat → List Blk → List Blk
  | _,[] => []
  | i,b :: r => (bif isIn i F then b else .gone) :: restr F (i + 1) r
def over (F : List Nat) : Nat → List Blk → List Blk → List Blk
  | _,[],new => new
  | i,b :: r,n :: r' => (bif isIn i F then n else b) :: over F (i + 1) r r'
  | _,r,[] => r

structure DRec where
  i : Nat
  F : List Nat
  lo : Nat
  hi : Nat
  mu : Bool
def clash (F : List Nat) (mu : Bool) (r : DRec) : Bool := F.any fun t => ((mu || r.mu) && isIn t r.F) || (Nat.ble r.lo t && Nat.blt t r.hi)

structure DR where
  cs : List Bool
  v : AV
  mu : Bool
  h : List Blk

/-- 'append' onto a list of our own, told with a new token. -/
def fresh (r : MR) : Option MR := match r.ks with
  | [] => some r
  | [t] => match r.v with
    | .lst t' sz => bif !(t' == t) then none else match hget r.h t with
      | .fl sz' z els => some ⟨r.ok,.lst r.h.length sz,(hset r.h t .gone).map (killB t) ++ [.fl sz' z els],[]⟩
      | _ => none
    | _ => none
  | _ => none

/-- The operands that an operation looks at. -/
def opndD [Inhabited GlobT] (env : Env) (loc : Loc) (ks : List (Nat × Bool)) (us : List Nat) : Operand → AV
  | .tmp t => bif isIn t us then lget env ks loc t else .dead
  | .const v => ofVal v
  | .func f => .fn (.func f) [] []
  | .global g => glook (default : GlobT).gl g

inductive Ex where
  | normal
  | exit (id : Nat)
  | ret

structure St where
  env : Env
  h : List Blk
  kd : List Nat

/-! ### Which slots are read later (a hint alone: nothing hangs on it) -/
structure Lv where
  ret : Nat
  ex : List (Nat × Nat)
def lvAt : List (Nat × Nat) → Nat → Nat
  | [],_ => 0
  | (i,m) :: r,id => bif i == id then m else lvAt r id
def useO : Operand → Nat
  | .tmp t => 1 <<< t
  | _ => 0
def minus (a b : Nat) : Nat := a ^^^ (a &&& b)
def liveOps (ops : Array Oper) : List Oper → Nat → Nat
  | [],out => out
  | o :: r,out =>
    let out := liveOps ops r out
    let out := match o.dst with
      | some d => minus out (1 <<< d)
      | none => out
    let out := o.op.operands.toList.foldl (fun m x => m ||| useO x) out
    match o.guard with
    | some (j,_) => (match (ops[j]?).bind (·.dst) with | some d => out ||| 1 <<< d | none => out)
    | none => out
def live : Code → Lv → Nat → Nat
  | .region _ ops _,_,out => liveOps ops ops.toList out
  | .seq a b,lv,out => live a lv (live b lv out)
  | .cond c a b,lv,out => useO c ||| live a lv out ||| live b lv out
  | .block id c,lv,out => live c { lv with ex := (id,out) :: lv.ex } out
  | .loop c,lv,_ => live c lv 0
  | .exit id,lv,_ => lvAt lv.ex id
  | .ret,lv,_ => lv.ret
  | .scope c,lv,out => live c lv out
  | _,_,out => out
/-- Which slots a piece writes. -/
def writes : Code → Nat
  | .region _ ops _ => ops.toList.foldl (fun m o => match o.dst with | some d => m ||| 1 <<< d | none => m) 0
  | .seq a b => writes a ||| writes b
  | .cond _ a b => writes a ||| writes b
  | .block _ c | .loop c | .scope c => writes c
  | _ => 0

/-- Slots that are read later and hold something, in order. -/
def reE (m : Nat) (env : Env) : Nat → Nat → Env
  | 0,_ => []
  | k + 1,i => bif Nat.testBit m i then (match eget env i with
    | .dead => reE m env k (i + 1)
    | v => (i,v) :: reE m env k (i + 1)) else reE m env k (i + 1)
def keepE (m : Nat) (env : Env) : Env := reE m env (Nat.log2 m + 1) 0

/-- A nil list of words: nothing is ever appended to it. -/
def wordNil : List AV → Bool
  | [.int .u32 _] => true
  | _ => false
def roNil (sz : Nat) (z : List AV) : AV := .ro sz 0 0 (fun _ j => z.getD j .dead)
/-- At a loop's head: dead slots are struck; nil lists that the loop writes get tokens. -/
def nilC : List AV → List Blk → List AV × List Blk
  | [],h => ([],h)
  | v :: r,h => match v with
    | .nils sz z => bif wordNil z then (roNil sz z :: (nilC r h).1,(nilC r h).2) else ((.lst h.length sz) :: (nilC r (h ++ [.fl sz z []])).1,(nilC r (h ++ [.fl sz z []])).2)
    | v => (v :: (nilC r h).1,(nilC r h).2)
def headE (m wr : Nat) (kd : List Nat) : Env → Env → List Blk → St
  | [],acc,h => ⟨acc.reverse,h,kd⟩
  | (i,v) :: r,acc,h => bif Nat.testBit m i then
      (bif Nat.testBit wr i then (match v with
        | .nils sz z => bif wordNil z then headE m wr kd r ((i,roNil sz z) :: acc) h else headE m wr kd r ((i,.lst h.length sz) :: acc) (h ++ [.fl sz z []])
        | .agg cs => headE m wr kd r ((i,.agg (nilC cs h).1) :: acc) (nilC cs h).2
        | v => headE m wr kd r ((i,v) :: acc) h) else headE m wr kd r ((i,v) :: acc) h)
    else headE m wr kd r acc h

/-- Nil lists in boxes get tokens. -/
def boxN : Nat → Nat → List Blk → List Blk
  | 0,_,h => h
  | n + 1,i,h => match h[i]? with
    | some (.box cs) => boxN n (i + 1) (hset (nilC cs h).2 i (.box (nilC cs h).1))
    | _ => boxN n (i + 1) h
/-- The tokens of lists that grow. -/
def flTk : Nat → List Blk → List Nat
  | _,[] => []
  | i,b :: r => match b with
    | .fl _ _ _ => i :: flTk (i + 1) r
    | _ => flTk (i + 1) r
def headS (m wr : Nat) (st : St) : St :=
  ⟨(headE m wr st.kd (keepE m st.env) [] st.h).env,boxN (headE m wr st.kd (keepE m st.env) [] st.h).h.length 0 (headE m wr st.kd (keepE m st.env) [] st.h).h,
    addK (flTk 0 (boxN (headE m wr st.kd (keepE m st.env) [] st.h).h.length 0 (headE m wr st.kd (keepE m st.env) [] st.h).h)) (headE m wr st.kd (keepE m st.env) [] st.h).kd⟩

/-- The slots that 'append' writes to in a piece. -/
def apM : Code → Nat
  | .region _ ops _ => ops.toList.foldl (fun m o => match o.op with
    | .call { callee := .builtin .append,args,.. } => (match args.toList with
      | .tmp s :: _ => ops.toList.foldl (fun m o => match o.dst,o.op with
        | some d,.move (.tmp s') => bif d == s then m ||| 1 <<< s' else m
        | _,_ => m) (m ||| 1 <<< s)
      | _ => m)
    | _ => m) 0
  | .seq a b => apM a ||| apM b
  | .cond _ a b => apM a ||| apM b
  | .block _ c | .loop c | .scope c => apM c
  | _ => 0
/-- A list of fixed room, told as one that grows, where it begins at its room's start. -/
def cv1 (v : AV) (h : List Blk) : Option (AV × List Blk × Bool) := match v with
  | .own t off sz n _ => match hget h t with
    | .fx sz' z els => bif sz == sz' then some (.lst h.length sz,hset h t .gone ++ [.fl sz z (els.take n)],decide (off = 0)) else none
    | _ => none
  | _ => none
def cvE (mk : Nat) : Env → List Blk → Env → Env × List Blk × List Bool
  | [],h,acc => (acc.reverse,h,[])
  | (i,v) :: r,h,acc => bif Nat.testBit mk i && !(acc.any fun e => e.1 == i) then (match cv1 v h with
    | some (v', h', c) => ((cvE mk r h' ((i,v') :: acc)).1,(cvE mk r h' ((i,v') :: acc)).2.1,c :: (cvE mk r h' ((i,v') :: acc)).2.2)
    | none => cvE mk r h ((i,v) :: acc)) else cvE mk r h ((i,v) :: acc)
/-- Ahead of a loop: lists of fixed room that 'append' writes to there are told as lists that grow; and what that asks. -/
def cvS (mk : Nat) (st : St) : St := ⟨(cvE mk st.env st.h []).1,(cvE mk st.env st.h []).2.1,st.kd⟩
def cvC (mk : Nat) (st : St) : List Bool := (cvE mk st.env st.h []).2.2

def cutB (k : Nat) : Blk → Blk
  | .box cs => .box (killPL (fun t => Nat.ble k t) cs)
  | b => b
/-- Tokens from k on are forgotten. -/
def cutS (k : Nat) (s : St) : St := ⟨s.env.map fun p => (p.1,killP (fun t => Nat.ble k t) p.2),(s.h.take k).map (cutB k),s.kd.filter fun t => Nat.blt t k⟩

/-- Two tokens change places. -/
def swT (a b t : Nat) : Nat := bif a == t then b else bif b == t then a else t
mutual
def renV (f : Nat → Nat) : AV → AV
  | .own t off sz n c => .own (f t) off sz n c
  | .lst t sz => .lst (f t) sz
  | .ptr t o => .ptr (f t) o
  | .ep t sz i j => .ep (f t) sz i j
  | .mp t => .mp (f t)
  | .fn g a b => .fn g (renL f a) (renL f b)
  | .ifc ty v => .ifc ty (renV f v)
  | .agg cs => .agg (renL f cs)
  | .tup cs => .tup (renL f cs)
  | .dead => .dead
  | .bool b => .bool b
  | .int k n => .int k n
  | .flt k x => .flt k x
  | .str s => .str s
  | .nilp => .nilp
  | .nilf => .nilf
  | .nili => .nili
  | .nils sz z => .nils sz z
  | .ro sz n rd g => .ro sz n rd g
  | .rp n g => .rp n g
def renL (f : Nat → Nat) : List AV → List AV
  | [] => []
  | v :: r => renV f v :: renL f r
end
def renB (f : Nat → Nat) : Blk → Blk
  | .box cs => .box (renL f cs)
  | b => b
def swS (p : Nat × Nat) (s : St) : St := bif Nat.blt p.1 s.h.length && Nat.blt p.2 s.h.length then
    ⟨s.env.map fun e => (e.1,renV (swT p.1 p.2) e.2),((s.h.set p.1 (hget s.h p.2)).set p.2 (hget s.h p.1)).map (renB (swT p.1 p.2)),addK [p.1,p.2] s.kd⟩
  else s
/-- Which tokens are to change places: a list at a loop's head, and the list that stands in its stead. -/
def dsw (k : Nat) : AV → AV → List (Nat × Nat)
  | .lst t _,.lst t' _ => bif Nat.ble k t' then [(t,t')] else []
  | _,_ => []
def dswL (k : Nat) : List AV → List AV → List (Nat × Nat)
  | a :: r,b :: r' => dsw k a b ++ dswL k r r'
  | _,_ => []
def dswE (k : Nat) : Env → Env → List (Nat × Nat)
  | [],_ => []
  | (i,v) :: r,e => (match v,eget e i with
    | .agg a,.agg b => dswL k a b
    | a,b => dsw k a b) ++ dswE k r e
def dswH (k : Nat) : List Blk → List Blk → List (Nat × Nat)
  | a :: r,b :: r' => (match a,b with
    | .box x,.box y => dswL k x y
    | _,_ => []) ++ dswH k r r'
  | _,_ => []
def ded : List (Nat × Nat) → List Nat → List (Nat × Nat)
  | [],_ => []
  | p :: r,seen => bif isIn p.1 seen || isIn p.2 seen then ded r seen else p :: ded r (p.1 :: p.2 :: seen)
def swaps (ps : List (Nat × Nat)) (s : St) : St := ps.foldl (fun s p => swS p s) s

/-- Back at a loop's head, whose state was 'st'. -/
def headN (m wr : Nat) (st : St) (s : St) : St :=
  headS m wr (cutS st.h.length (swaps (ded (dswE st.h.length st.env s.env ++ dswH st.h.length st.h s.h) []) s))

/-- A number, worked out first. -/
def fNat {α : Type} (n : Nat) (k : Nat → α) : α := match n with
  | 0 => k 0
  | .succ m => k (.succ m)
theorem fNat_eq {α : Type} (n : Nat) (k : Nat → α) : fNat n k = k n := by cases n <;> rfl

/-- Summaries of loops, by the slots that they write. -/
abbrev Lam (R : Type) := List (Nat × (St → (Ex → St → Option R) → Option R))
def Lam.get {R : Type} : Lam R → Nat → Option (St → (Ex → St → Option R) → Option R)
  | [],_ => none
  | (i,s) :: r,f => bif i == f then some s else Lam.get r f
/-- Those of functions, by depth and function. -/
abbrev LamF (R : Type) := List ((Nat × Nat) × Lam R)
def LamF.get {R : Type} : LamF R → Nat → Nat → Lam R
  | [],_,_ => []
  | ((d,f),s) :: r,n,g => bif d == n && f == g then s else LamF.get r n g

section
variable (P : Program) (Γ : Gam)

def getV (o : Option AV) : AV := o.getD .dead



/-! ### functions that change boxes of their caller's -/
def xtoks : List AV → List Nat → List Nat
  | [],acc => acc
  | .ptr t _ :: r,acc => xtoks r (bif isIn t acc then acc else acc ++ [t])
  | _ :: r,acc => xtoks r acc
def xidx (t : Nat) : List Nat → Nat
  | [] => 0
  | x :: r => bif x == t then 0 else xidx t r + 1
def xpat1 (ts : List Nat) : AV → Option (Nat × Nat)
  | .ptr t off => some (xidx t ts,off)
  | .nilp => some (2000000,0)
  | .fn (.func g) [] caps => some (1000000 + g,caps.length)
  | _ => none
def xarg (h : List Blk) (ts : List Nat) : AV → AV
  | .ptr t off => .ptr (xidx t ts) off
  | v => frz h 4 v
def isBox (h : List Blk) (t : Nat) : Bool := match hget h t with
  | .box _ => true
  | _ => false
def boxOf (h : List Blk) (t : Nat) : List AV := match hget h t with
  | .box cs => cs
  | _ => []
def xdead1 (h : List Blk) : AV → List Nat
  | .ptr _ _ => []
  | v => reach h 4 v
def xdead (h : List Blk) (ts : List Nat) (args : List AV) : List Nat := args.flatMap (xdead1 h) ++ ts.flatMap fun t => (boxOf h t).flatMap (reach h 4)
def xbox : List Nat → List AV → List Blk
  | [],_ => []
  | n :: ns,r => .box (r.take n) :: xbox ns (r.drop n)
def xrest : List Nat → List AV → List AV
  | [],r => r
  | n :: ns,r => xrest ns (r.drop n)
def xoutB (k : Nat) : List XO → List AV → List Blk
  | [],_ => []
  | .one :: os,r => xoutB k os r.tail
  | .ptr _ _ :: os,r => xoutB k os r
  | .newb n _ :: os,r => .box (r.take n) :: xoutB (k + 1) os (r.drop n)
  | .newl sz z :: os,r => .fl sz z (rows sz (toN (r.headD .dead)) (toG (r.headD .dead))) :: xoutB (k + 1) os r.tail
  | .newo sz z :: os,r => .fx sz z (rows sz (toN (r.tail.headD .dead)) (toG (r.tail.headD .dead))) :: xoutB (k + 1) os r.tail.tail.tail
def xoutV (k : Nat) : List XO → List AV → List AV
  | [],_ => []
  | .one :: os,r => r.headD .dead :: xoutV k os r.tail
  | .ptr i off :: os,r => .ptr i off :: xoutV k os r
  | .newb n off :: os,r => .ptr k off :: xoutV (k + 1) os (r.drop n)
  | .newl sz _ :: os,r => .lst k sz :: xoutV (k + 1) os r.tail
  | .newo sz _ :: os,r => .own k (toI (r.tail.tail.headD .dead)).toNat sz (toN (r.headD .dead)) (toR (r.headD .dead)) :: xoutV (k + 1) os r.tail.tail.tail
def one1 : List AV → AV
  | [v] => v
  | vs => .tup vs
/-- The heap behind the call: the boxes, then what is new. -/
def XS.heap (X : XS) (r : List AV) : List Blk := xbox X.nb r ++ xoutB X.nb.length X.out (xrest X.nb r)
def XS.ans (X : XS) (r : List AV) : AV := one1 (xoutV X.nb.length X.out (xrest X.nb r))
def xren (ts : List Nat) (n i : Nat) : Nat := bif Nat.blt i ts.length then ts.getD i 0 else n + (i - ts.length)
def xput : List Nat → List Blk → List Blk → List Blk
  | t :: ts,b :: bs,h => xput ts bs (hset h t b)
  | _,_,h => h
/-- A call of such a function. -/
def xcall (Γ : Gam) (g : Nat) (args : List AV) (h : List Blk) : Option (List Bool × AV × List Blk) :=
  match Γ.getX g (args.map (xpat1 (xtoks args []))) ((xtoks args []).map fun t => (boxOf h t).length) with
  | none => none
  | some (s,X) => bif !((xtoks args []).all (isBox h)) || (xdead h (xtoks args []) args).any (fun t => isIn t (xtoks args [])) then none else
    some ([s.ok (args.map (xarg h (xtoks args [])) ++ ((xtoks args []).flatMap fun t => (boxOf h t).map (frz h 4)))],
      renV (xren (xtoks args []) h.length) (X.ans (toT (s.val (args.map (xarg h (xtoks args [])) ++ ((xtoks args []).flatMap fun t => (boxOf h t).map (frz h 4)))))),
      xput (xtoks args []) (((X.heap (toT (s.val (args.map (xarg h (xtoks args [])) ++ ((xtoks args []).flatMap fun t => (boxOf h t).map (frz h 4)))))).take X.nb.length).map (renB (xren (xtoks args []) h.length))) (strike (xdead h (xtoks args []) args) h)
        ++ ((X.heap (toT (s.val (args.map (xarg h (xtoks args [])) ++ ((xtoks args []).flatMap fun t => (boxOf h t).map (frz h 4)))))).drop X.nb.length).map (renB (xren (xtoks args []) h.length)))

/-- Numbers, texts and the like alone are kept. -/
def maskV (v : AV) : AV := bif scal v then v else .dead
def maskA (v : AV) : AV := match v with
  | .lst t sz => .lst t sz
  | v => maskV v
def maskT (v : AV) : AV := match v with
  | .tup vs => .tup (vs.map maskA)
  | v => maskA v
def maskB (b : Blk) : Blk := match b with
  | .fl sz z els => .fl sz z (els.map fun r => r.map maskV)
  | _ => .gone
/-- A call whose answers share nothing with what it is handed: lists that it is handed stay their owner's. -/
def fcall (Γ : Gam) (g : Nat) (args : List AV) (h : List Blk) : Option (List Bool × AV × List Blk) :=
  match Γ.getX g (args.map (xpat1 [])) [] with
  | none => none
  | some (s,X) => bif X.kp && X.nb.isEmpty then
      some ([s.ok (args.map (frz h 4))],maskT (renV (xren [] h.length) (X.ans (toT (s.val (args.map (frz h 4)))))),h ++ (X.heap (toT (s.val (args.map (frz h 4))))).map maskB) else none

abbrev CallI (R : Type) := FuncId → List AV → List Blk → (AV → List Blk → List Nat → Option R) → Option R
/-- Calls that a region that draws its order makes outright. -/
abbrev CallD := FuncId → List AV → List Blk → Option (AV × List Blk)
def noD : CallD := fun _ _ _ => none

/-- May that slot be written now? -/
def dstOk (nt : Nat) (gk : Option (Nat × Bool)) (loc : Loc) : Option Nat → Bool
  | none => true
  | some d => Nat.blt d nt && (match gk with | some (s,_) => !(s == d) | none => true) && loc.all fun e => match e.2.1 with | some (s,_) => !(s == d) | none => true

def putL (d : Option Nat) (gk : Option (Nat × Bool)) (v : AV) (loc : Loc) : Loc := match d with
  | some d => (d,gk,v) :: loc
  | none => loc

/-- The test as a Bool; none: it is no test. -/
def gateOf (env : Env) (loc : Loc) : Option (Nat × Bool) → Option Bool
  | none => some true
  | some (d,want) => match (lkey env loc d).2 with
    | .bool b => some (bif want then b else !b)
    | _ => none

/-- Does an operation with that test run? none: not known. -/
def sureG (env : Env) (loc : Loc) : Nat → Option (Nat × Bool) → Option Bool
  | _,none => some true
  | 0,some _ => none
  | n + 1,some k => match sureG env loc n (lkey env loc k.1).1 with
    | some true => (match (lkey env loc k.1).2 with
      | .bool b => some (bif k.2 then b else !b)
      | _ => none)
    | some false => some false
    | none => none

def thenOf (o : Oper) (ks : List (Nat × Bool)) (want : Bool) : List (Nat × Bool) := match o.op with
  | .pick (.tmp c) _ _ => (c,want) :: ks
  | _ => ks

def argsOf (g : Operand → AV) (c : Call) : List AV := (c.args.toList.zip c.argTypes.toList).map fun p => fNat p.2 fun t => typ P t (g p.1)

def callX {R : Type} (Γ : Gam) (inl : CallI R) : CallI R := fun g args h K => match fcall Γ g args h with
  | some (cs,v,h') => chk true (K v h' []) cs
  | none => match xcall Γ g args h with
  | some (cs,v,h') => chk true (K v h' []) cs
  | none => inl g args h K

def rops [Inhabited GlobT] {R : Type} (nt : Nat) (call : CallI R) (ops : Array Oper) : List Oper → Loc → Env → List Blk → List Nat → (Env → List Blk → List Nat → Option R) → Option R
  | [],loc,env,h,kd,K => K (close env loc) h kd
  | o :: rest,loc,env,h,kd,K =>
    bif !(dstOk nt (guardOf ops o) loc o.dst) || !(guardOk ops o) then none else
    match gateOf env loc (guardOf ops o) with
    | none => none
    | some gb =>
      match qop P h (opnd env loc (keys env loc 8 (guardOf ops o))) (opnd env loc (thenOf o (keys env loc 8 (guardOf ops o)) true)) (opnd env loc (thenOf o (keys env loc 8 (guardOf ops o)) false)) o with
      | some (cs,v) => chk gb (rops nt call ops rest (putL o.dst (guardOf ops o) v loc) env h kd K) cs
      | none => match o.op with
        | .call { callee := .value f,args,argTypes } =>
          match opnd env loc (keys env loc 8 (guardOf ops o)) f with
          | .fn (.func f) [] caps =>
            bif !(args.size == argTypes.size) then none else
            match Γ.get f with
            | some s =>
              bif s.sc then chk gb (rops nt call ops rest (putL o.dst (guardOf ops o) (s.val ((argsOf P (opnd env loc (keys env loc 8 (guardOf ops o))) ⟨.value (.func f),args,argTypes⟩ ++ caps).map (frz h 4))) loc) env h kd K)
                [s.ok ((argsOf P (opnd env loc (keys env loc 8 (guardOf ops o))) ⟨.value (.func f),args,argTypes⟩ ++ caps).map (frz h 4))]
              else match guardOf ops o with
                | some _ => none
                | none => chk true (rops nt call ops rest (putL o.dst none (s.val ((argsOf P (opnd env loc []) ⟨.value (.func f),args,argTypes⟩ ++ caps).map (frz h 4))) loc) env
                    (strike ((argsOf P (opnd env loc []) ⟨.value (.func f),args,argTypes⟩ ++ caps).flatMap (reach h 4)) h) kd K)
                    [s.ok ((argsOf P (opnd env loc []) ⟨.value (.func f),args,argTypes⟩ ++ caps).map (frz h 4))]
            | none => match guardOf ops o with
              | some gk => (match sureG env loc 8 (some gk) with
                | some true => call f (argsOf P (opnd env loc (keys env loc 8 (guardOf ops o))) ⟨.value (.func f),args,argTypes⟩ ++ caps) h fun v h' ks => rops nt call ops rest (putL o.dst (guardOf ops o) v (lkills ks loc)) (ekills ks env) h' (addK ks kd) K
                | some false => rops nt call ops rest (putL o.dst (guardOf ops o) .dead loc) env h kd K
                | none => none)
              | none => call f (argsOf P (opnd env loc []) ⟨.value (.func f),args,argTypes⟩ ++ caps) h fun v h' ks => rops nt call ops rest (putL o.dst none v (lkills ks loc)) (ekills ks env) h' (addK ks kd) K
          | _ => none
        | _ => match guardOf ops o with
          | some _ => match gmop P h (opnd env loc (keys env loc 8 (guardOf ops o))) o rest with
            | some (cs,v) => chk gb (rops nt call ops rest (putL o.dst (guardOf ops o) v loc) env h kd K) cs
            | none => none
          | none => match nxt h (opnd env loc []) o with
            | some (c,r1,r2) => bif c then chk true (rops nt call ops rest (putL o.dst none r1.v (lkills r1.ks loc)) (ekills r1.ks env) r1.h (addK r1.ks kd) K) r1.ok
              else chk true (rops nt call ops rest (putL o.dst none r2.v (lkills r2.ks loc)) (ekills r2.ks env) r2.h (addK r2.ks kd) K) r2.ok
            | none => match mop P h (opnd env loc []) o rest with
              | some r => chk true (rops nt call ops rest (putL o.dst none r.v (lkills r.ks loc)) (ekills r.ks env) r.h (addK r.ks kd) K) r.ok
              | none => none

/-- One operation of a region that draws its order; the heap is cut to what it needs. -/
def dstep (cd : CallD) (h : List Blk) (g ga gb : Operand → AV) (all : List Oper) (gk : Option (Nat × Bool)) (o : Oper) : Option DR :=
  match qop P h g ga gb o with
  | some (cs,v) => some ⟨cs,v,false,h⟩
  | none => match o.op with
    | .call { callee := .value f,args,argTypes } => match g f with
      | .fn (.func f) [] caps => bif !(args.size == argTypes.size) then none else match Γ.get f with
        | some s => bif s.sc then some ⟨[s.ok ((argsOf P g ⟨.value (.func f),args,argTypes⟩ ++ caps).map (frz h 4))],s.val ((argsOf P g ⟨.value (.func f),args,argTypes⟩ ++ caps).map (frz h 4)),false,h⟩
          else match gk with
            | some _ => bif noneN ((argsOf P g ⟨.value (.func f),args,argTypes⟩ ++ caps).flatMap (reach h 4)) then
                some ⟨[s.ok ((argsOf P g ⟨.value (.func f),args,argTypes⟩ ++ caps).map (frz h 4))],s.val ((argsOf P g ⟨.value (.func f),args,argTypes⟩ ++ caps).map (frz h 4)),false,h⟩ else none
            | none => some ⟨[s.ok ((argsOf P g ⟨.value (.func f),args,argTypes⟩ ++ caps).map (frz h 4))],s.val ((argsOf P g ⟨.value (.func f),args,argTypes⟩ ++ caps).map (frz h 4)),true,
                strike ((argsOf P g ⟨.value (.func f),args,argTypes⟩ ++ caps).flatMap (reach h 4)) h⟩
        | none => match gk with
          | some _ => none
          | none => match cd f (argsOf P g ⟨.value (.func f),args,argTypes⟩ ++ caps) h with
            | some (v,h') => some ⟨[],v,true,h'⟩
            | none => match xcall Γ f (argsOf P g ⟨.value (.func f),args,argTypes⟩ ++ caps) h with
              | some (cs,v,h') => some ⟨cs,v,true,h'⟩
              | none => none
      | _ => none
    | _ => match gk with
      | some _ => (match gdop P h g o with
        | some (cs,v) => some ⟨cs,v,false,h⟩
        | none => none)
      | none => match (mop P h g o all).bind fresh with
        | some r => some ⟨r.ok,r.v,true,r.h⟩
        | none => none

/-- A region's operations in the order of the text, held against every other order. -/
def dops [Inhabited GlobT] {R : Type} (cd : CallD) (nt : Nat) (ops : Array Oper) (env : Env) (K : Loc → List Blk → Option R) : List Oper → Nat → List DRec → Loc → List Blk → Option R
  | [],_,_,loc,h => K loc h
  | o :: rest,i,rs,loc,h =>
    bif !(dstOk nt (guardOf ops o) loc o.dst) then none else
    match gateOf env loc (guardOf ops o) with
    | none => none
    | some gb =>
      match dstep P Γ cd (restr (footOf h (opndD env loc (keys env loc 8 (guardOf ops o)) (looks ops o)) o) 0 h) (opndD env loc (keys env loc 8 (guardOf ops o)) (looks ops o))
          (opndD env loc (thenOf o (keys env loc 8 (guardOf ops o)) true) (looks ops o)) (opndD env loc (thenOf o (keys env loc 8 (guardOf ops o)) false) (looks ops o)) ops.toList (guardOf ops o) o with
      | none => none
      | some d => bif !(Nat.ble h.length d.h.length) || rs.any (fun r => clash (footOf h (opndD env loc (keys env loc 8 (guardOf ops o)) (looks ops o)) o) d.mu r && !(tw ops i r.i)) then none else
        chk gb (dops cd nt ops env K rest (i + 1) (⟨i,footOf h (opndD env loc (keys env loc 8 (guardOf ops o)) (looks ops o)) o,h.length,d.h.length,d.mu⟩ :: rs) (putL o.dst (guardOf ops o) d.v loc)
          (over (footOf h (opndD env loc (keys env loc 8 (guardOf ops o)) (looks ops o)) o) 0 h d.h)) d.cs

def loopK {R : Type} (body : St → (Ex → St → Option R) → Option R) (norm : St → St) : Nat → St → (Ex → St → Option R) → Option R
  | 0,_,_ => none
  | n + 1,st,K => body st fun e s => match e with
    | .normal => loopK body norm n (norm s) K
    | e => K e s

def exec [Inhabited GlobT] {R : Type} (Λ : Lam R) (nt fuel : Nat) (call : CallI R) : Code → Lv → Nat → St → (Ex → St → Option R) → Option R
  | .skip,_,_,st,K => K .normal st
  | .region _ ops draw,_,_,st,K => bif draw then (bif P.follows .mixedOrders && okD ops then dops P Γ noD nt ops st.env (fun loc h => K .normal ⟨close st.env loc,h,st.kd⟩) ops.toList 0 [] [] st.h else none) else rops P Γ nt call ops ops.toList [] st.env st.h st.kd fun e h kd => K .normal ⟨e,h,kd⟩
  | .seq a b,lv,out,st,K => exec Λ nt fuel call a lv (live b lv out) st fun e s => match e with
    | .normal => exec Λ nt fuel call b lv out s K
    | e => K e s
  | .cond c a b,lv,out,st,K => match opnd st.env [] [] c with
    | .bool v => bif v then exec Λ nt fuel call a lv out st K else exec Λ nt fuel call b lv out st K
    | _ => none
  | .block id c,lv,out,st,K => exec Λ nt fuel call c { lv with ex := (id,out) :: lv.ex } out st fun e s => match e with
    | .exit j => bif j == id then K .normal s else K (.exit j) s
    | e => K e s
  | .loop c,lv,_,st,K => chk true
    (match Λ.get (writes c) with
    | some L => L (headS (live c lv 0) (writes c) (cvS (apM c &&& live c lv 0) st)) K
    | none => loopK (exec Λ nt fuel call c lv (live c lv 0)) (headN (live c lv 0) (writes c) (headS (live c lv 0) (writes c) (cvS (apM c &&& live c lv 0) st))) fuel (headS (live c lv 0) (writes c) (cvS (apM c &&& live c lv 0) st)) K) (cvC (apM c &&& live c lv 0) st)
  | .exit id,lv,_,st,K => K (.exit id) ⟨keepE (lvAt lv.ex id) st.env,st.h,st.kd⟩
  | .ret,lv,_,st,K => K .ret ⟨keepE lv.ret st.env,st.h,st.kd⟩
  | _,_,_,_,_ => none

def params : Nat → List AV → Env
  | _,[] => []
  | i,v :: r => (i,v) :: params (i + 1) r

def resV (st : St) : List ResultVar → List TypeId → Option (List AV)
  | [],_ => some []
  | r :: rs,ts => match r with
    | .tmp s => (resV st rs ts.tail).map fun l => fNat (ts.headD 0) (fun t => typ P t (eget st.env s)) :: l
    | .cell s t => match eget st.env s with
      | .ptr t' off => match hget st.h t' with
        | .box cs => bif has P t && (qpart P t cs off).1.all id then (resV st rs ts.tail).map fun l => fNat (ts.headD 0) (fun t' => typ P t' (qpart P t cs off).2) :: l else none
        | _ => none
      | _ => none

def retMask : List ResultVar → Nat
  | [] => 0
  | .tmp s :: r => 1 <<< s ||| retMask r
  | .cell s _ :: r => 1 <<< s ||| retMask r

def execFn [Inhabited GlobT] {R : Type} (Φ : LamF R) (fuel : Nat) : Nat → FuncId → List AV → List Blk → (AV → List Blk → List Nat → Option R) → Option R
  | 0,_,_,_,_ => none
  | n + 1,f,args,h,K => match P.funcs[f]? with
    | none => none
    | some fn => match fn.body with
      | none => none
      | some c => bif Nat.blt fn.ntmps args.length then none else
        exec P Γ (Φ.get n f) fn.ntmps fuel (callX Γ (execFn Φ fuel n)) c ⟨retMask fn.results.toList,[]⟩ (retMask fn.results.toList) ⟨params 0 args,h,[]⟩ fun e st => match e with
        | .exit _ => none
        | _ => match resV P st fn.results.toList fn.resultTypes.toList with
          | some [v] => K v st.h st.kd
          | some vs => K (.tup vs) st.h st.kd
          | none => none

def xcells (h : List Blk) : List Nat → Nat → Option (List AV)
  | [],_ => some []
  | n :: ns,i => match hget h i with
    | .box cs => bif cs.length == n then (xcells h ns (i + 1)).map (cs.map (frz h 4) ++ ·) else none
    | _ => none
def xans (k : Nat) (h : List Blk) : List XO → List AV → Option (List AV)
  | [],[] => some []
  | .one :: os,v :: vs => (xans k h os vs).map (frz h 4 v :: ·)
  | .ptr i off :: os,.ptr i' off' :: vs => bif i' == i && off' == off && Nat.blt i k then xans k h os vs else none
  | .newb n off :: os,.ptr t off' :: vs => bif off' == off && Nat.ble k t then (match hget h t with
      | .box cs => bif cs.length == n then (xans k h os vs).map (cs.map (frz h 4) ++ ·) else none
      | _ => none) else none
  | .newl sz _ :: os,.lst t sz' :: vs => bif sz' == sz && Nat.ble k t then (match hget h t with
      | .fl sz'' _ els => bif sz'' == sz then (xans k h os vs).map (.ro sz els.length els.length (fun i j => (els.getD i []).getD j .dead) :: ·) else none
      | _ => none) else none
  | .newo sz _ :: os,.own t off sz' n cap :: vs => bif sz' == sz && Nat.ble k t then (match hget h t with
      | .fx sz'' _ els => bif sz'' == sz then (xans k h os vs).map (fun r => .ro sz n cap (fun i j => (els.getD i []).getD j .dead) :: .ro sz els.length els.length (fun i j => (els.getD i []).getD j .dead) :: .int .i64 off :: r) else none
      | _ => none) else none
  | _,_ => none
/-- The new tokens that an answer keeps. -/
def xtk : List XO → List AV → List Nat
  | .newb _ _ :: os,.ptr t _ :: vs => t :: xtk os vs
  | .newl _ _ :: os,.lst t _ :: vs => t :: xtk os vs
  | .newo _ _ :: os,.own t _ _ _ _ :: vs => t :: xtk os vs
  | _ :: os,_ :: vs => xtk os vs
  | _,_ => []
/-- The tokens that an answer spends. -/
def xsp (h : List Blk) : List XO → List AV → List Nat
  | .one :: os,v :: vs => reach h 4 v ++ xsp h os vs
  | .newb _ _ :: os,.ptr t _ :: vs => (boxOf h t).flatMap (reach h 4) ++ xsp h os vs
  | _ :: os,_ :: vs => xsp h os vs
  | _,_ => []
def nodupB : List Nat → Bool
  | [] => true
  | t :: r => !(isIn t r) && nodupB r
def xvs (X : XS) (v : AV) : List AV := match X.out with
  | [_] => [v]
  | _ => toT v
def xkeep (X : XS) (v : AV) : List Nat := List.range X.nb.length ++ xtk X.out (xvs X v)
def xspent (X : XS) (v : AV) (h : List Blk) : List Nat := ((List.range X.nb.length).flatMap fun t => (boxOf h t).flatMap (reach h 4)) ++ xsp h X.out (xvs X v)
/-- What such a function leaves: the boxes' cells, what is new, the answer. -/
def xflat (X : XS) (v : AV) (h : List Blk) (ks : List Nat) : Option AV :=
  bif ks.any (fun t => Nat.blt t X.nb.length) || !(nodupB (xkeep X v)) || (xspent X v h).any (fun t => isIn t (xkeep X v)) then none else
  match xcells h X.nb 0 with
  | some a => (match xans X.nb.length h X.out (xvs X v) with
    | some b => some (.tup (a ++ b))
    | none => none)
  | none => none
def runX [Inhabited GlobT] (Φ : LamF AV) (fuel depth : Nat) (f : FuncId) (X : XS) (as : List AV) (bs : List Blk) : Option AV := execFn P Γ Φ fuel depth f as bs fun v h ks => xflat X v h ks

/-- The loops of a piece of code. -/
def loopsOf : Code → Lv → Nat → List (Code × Lv)
  | .seq a b,lv,out => loopsOf a lv (live b lv out) ++ loopsOf b lv out
  | .cond _ a b,lv,out => loopsOf a lv out ++ loopsOf b lv out
  | .block id c,lv,out => loopsOf c { lv with ex := (id,out) :: lv.ex } out
  | .loop c,lv,_ => (c,lv) :: loopsOf c lv (live c lv 0)
  | _,_,_ => []

/-- What a function answers, as what is only read. -/
def run [Inhabited GlobT] (Φ : LamF AV) (fuel depth : Nat) (f : FuncId) (args : List AV) : Option AV := execFn P Γ Φ fuel depth f args [] fun v h _ => some (frz h 4 v)
end
end Go.Am
end
section
/- The abstract machine: operations that change no memory do what is said. -/
namespace Go.Am
section
variable {P : Program} {w : World} {S : Nat → Prop}

theorem Rd.heap {w' : World} {m : Option (List Tk)} {v : Value} {a : AV} (h : Rd w S m v a) (hw : w'.heap = w.heap) : Rd w' S m v a :=
  h.pres ⟨fun b _ => by rw [hw],fun b c e f hb => ⟨c,f,by rw [hw]; exact hb,rfl⟩⟩ (fun _ h => h) (MLe.refl _)

theorem Rd.none_ {m : Option (List Tk)} {v : Value} {a : AV} (h : Rd w S none v a) : Rd w S m v a := h.pres (Pres.refl _ _) (fun _ h => h) trivial

/-- The value comes out; no block has turned. -/
def Gives (P : Program) (x : Sem Value) (w : World) (R : Value → Prop) : Prop :=
  ∃ u w', x.run P w = .ok u w' ∧ w'.heap = w.heap ∧ w'.os = w.os ∧ w'.tape = w.tape ∧ w'.output = w.output ∧ R u

theorem Gives.pure {x : Sem Value} {R : Value → Prop} {u : Value} (h : x.run P w = .ok u w) (hr : R u) : Gives P x w R := ⟨u,w,h,rfl,rfl,rfl,rfl,hr⟩

theorem Gives.mono {x : Sem Value} {R R' : Value → Prop} (h : Gives P x w R) (hr : ∀ u,R u → R' u) : Gives P x w R' :=
  let ⟨u,w', h1,h2,h3,h4,h5,h6⟩ := h; ⟨u,w', h1,h2,h3,h4,h5,hr u h6⟩

def QOk (P : Program) (ρ : Operand → Value) (o : Oper) (w : World) (R : Value → Prop) : Prop :=
  ∃ u w', (execOp ρ o).run P w = .ok (.value u) w' ∧ w'.heap = w.heap ∧ w'.os = w.os ∧ w'.tape = w.tape ∧ w'.output = w.output ∧ R u

theorem QOk.pure {ρ : Operand → Value} {o : Oper} {R : Value → Prop} {u : Value} (h : (execOp ρ o).run P w = .ok (.value u) w) (hr : R u) : QOk P ρ o w R :=
  ⟨u,w,h,rfl,rfl,rfl,rfl,hr⟩

theorem QOk.of_gives {ρ : Operand → Value} {o : Oper} {R : Value → Prop} {x : Sem Value} (hx : execOp ρ o = (do Pure.pure (Next.value (← x)))) (h : Gives P x w R) : QOk P ρ o w R := by
  obtain ⟨u,w', h1,h2⟩ := h
  refine ⟨u,w', ?_,h2⟩
  rw [hx]
  simp [h1]

/-! ### inversions -/
theorem rd_bool {m : Option (List Tk)} {v : Value} {b : Bool} (h : Rd w S m v (.bool b)) : v = .bool b := by cases h; rfl
theorem rd_int {m : Option (List Tk)} {v : Value} {k : IntKind} {n : Int} (h : Rd w S m v (.int k n)) : v = .int k n := by cases h; rfl
theorem rd_str {m : Option (List Tk)} {v : Value} {s : ByteArray} (h : Rd w S m v (.str s)) : v = .string s := by cases h; rfl
theorem rd_nilp {m : Option (List Tk)} {v : Value} (h : Rd w S m v .nilp) : v = .pointer none := by cases h; rfl
theorem rd_nilf {m : Option (List Tk)} {v : Value} (h : Rd w S m v .nilf) : v = .nilFunc := by cases h; rfl
theorem rd_nili {m : Option (List Tk)} {v : Value} (h : Rd w S m v .nili) : v = .nilIface := by cases h; rfl
theorem rd_nils {m : Option (List Tk)} {v : Value} {sz : Nat} {z : List AV} (h : Rd w S m v (.nils sz z)) : v = .slice none 0 0 := by cases h; rfl
theorem rd_ro {m : Option (List Tk)} {v : Value} {sz n rd : Nat} {get : Nat → Nat → AV} (h : Rd w S m v (.ro sz n rd get)) :
    ∃ (base : Option Addr) (cap : Nat) (u : Nat → Nat → Value),v = .slice base n cap ∧ n ≤ rd ∧ rd ≤ cap ∧
      (0 < rd → ∃ a,base = some a ∧ S a.block ∧ ∀ i j,i < rd → j < sz → w.cell? (a.add (i * sz + j)) = some (u i j)) ∧ ∀ i j,i < rd → j < sz → RdC w S (u i j) (get i j) := by
  cases h with
  | ro _ _ _ _ _ base cap u hn hc hb h h1 => exact ⟨base,cap,u,rfl,hn,hc,hb,fun i j hi hj => ⟨h i j hi hj,h1 i j hi hj⟩⟩
theorem rd_rp {m : Option (List Tk)} {v : Value} {n : Nat} {get : Nat → AV} (h : Rd w S m v (.rp n get)) :
    ∃ (a : Addr) (u : Nat → Value),v = .pointer (some a) ∧ S a.block ∧ (∀ j,j < n → w.cell? (a.add j) = some (u j)) ∧ ∀ j,j < n → Rd w S none (u j) (get j) := by
  cases h with
  | rp _ _ _ a u hS hc h => exact ⟨a,u,rfl,hS,hc,h⟩
theorem rd_own {l : List Tk} {v : Value} {t off sz n cap : Nat} (h : Rd w S (some l) v (.own t off sz n cap)) :
    ∃ b N,v = .slice (some ⟨b,off * sz,none⟩) n cap ∧ l[t]? = some (some b,N) ∧ n ≤ cap ∧ off + cap ≤ N := by
  cases h with
  | own _ _ _ _ _ _ b N hm hn hN => exact ⟨b,N,rfl,hm,hn,hN⟩
theorem rd_lst {l : List Tk} {v : Value} {t sz : Nat} (h : Rd w S (some l) v (.lst t sz)) :
    (∃ b N cap,v = .slice (some ⟨b,0,none⟩) N cap ∧ l[t]? = some (some b,N) ∧ N ≤ cap ∧ ∃ c e f,w.heap[b]? = some (.cells c e f) ∧ cap * sz ≤ c.size) ∨ (v = .slice none 0 0 ∧ l[t]? = some (none,0)) := by
  cases h with
  | lst _ _ _ b N cap hm hn hs => exact .inl ⟨b,N,cap,rfl,hm,hn,hs⟩
  | lst0 _ _ _ hm => exact .inr ⟨rfl,hm⟩
theorem rd_ptr {l : List Tk} {v : Value} {t off : Nat} (h : Rd w S (some l) v (.ptr t off)) : ∃ b N,v = .pointer (some ⟨b,off,none⟩) ∧ l[t]? = some (some b,N) := by
  cases h with
  | ptr _ _ _ b N hm => exact ⟨b,N,rfl,hm⟩
theorem rd_ep {l : List Tk} {v : Value} {t sz i j : Nat} (h : Rd w S (some l) v (.ep t sz i j)) : ∃ b N,v = .pointer (some ⟨b,i * sz + j,none⟩) ∧ l[t]? = some (some b,N) ∧ i < N ∧ j < sz := by
  cases h with
  | ep _ _ _ _ _ b N hm hi hj => exact ⟨b,N,rfl,hm,hi,hj⟩
theorem rd_agg {m : Option (List Tk)} {v : Value} {cs : List AV} (h : Rd w S m v (.agg cs)) : ∃ vs : Array Value,v = .agg vs ∧ vs.size = cs.length ∧ ∀ (j : Nat) u a,vs[j]? = some u → cs[j]? = some a → Rd w S m u a := by
  cases h with
  | agg _ vs _ hs h => exact ⟨vs,rfl,hs,h⟩
theorem rd_tup {m : Option (List Tk)} {v : Value} {cs : List AV} (h : Rd w S m v (.tup cs)) : ∃ vs : Array Value,v = .tuple vs ∧ vs.size = cs.length ∧ ∀ (j : Nat) u a,vs[j]? = some u → cs[j]? = some a → Rd w S m u a := by
  cases h with
  | tup _ vs _ hs h => exact ⟨vs,rfl,hs,h⟩
theorem rd_fn {m : Option (List Tk)} {v : Value} {f : Fn} {fs cs : List AV} (h : Rd w S m v (.fn f fs cs)) :
    ∃ first captured : Array Value,v = .func f first captured ∧ first.size = fs.length ∧ captured.size = cs.length ∧
      (∀ (j : Nat) u a,first[j]? = some u → fs[j]? = some a → Rd w S m u a) ∧ ∀ (j : Nat) u a,captured[j]? = some u → cs[j]? = some a → Rd w S m u a := by
  cases h with
  | fn _ _ first captured _ _ hf hc h1 h2 => exact ⟨first,captured,rfl,hf,hc,h1,h2⟩
theorem rd_ifc {m : Option (List Tk)} {v : Value} {ty : TypeId} {a : AV} (h : Rd w S m v (.ifc ty a)) : ∃ x,v = .iface ty x ∧ Rd w S m x a := by
  cases h with
  | ifc _ _ x _ h => exact ⟨x,rfl,h⟩

/-! ### types -/
theorem und_of_desc {t : TypeId} {d : TypeDesc} (h : desc P t = d) (hd : d ≠ .invalid) : P.underlying t = some d := by
  unfold desc at h
  split at h
  · rename_i d' hd'; rw [hd', h]
  · exact absurd h.symm hd

theorem run_sz {t : TypeId} (h : has P t = true) : (sizeOf t).run P w = .ok (tsz P t) w := by
  unfold has at h
  cases hi : P.info? t with
  | none => simp [hi] at h
  | some i => simp [sizeOf,typeInfo,tsz,hi]

theorem run_ag {t : TypeId} (h : has P t = true) : (Go.isAgg t).run P w = .ok (Am.isAg P t) w := by
  unfold has at h
  cases hu : P.underlying t with
  | none => simp [hu] at h
  | some d =>
    simp only [Go.isAgg,Sem.run_bind,run_underlying hu w,Result.andThen_ok,Am.isAg,desc,hu]
    cases d <;> rfl

theorem has_und {t : TypeId} (h : has P t = true) : ∃ d,P.underlying t = some d := by
  unfold has at h
  cases hu : P.underlying t with
  | none => simp [hu] at h
  | some d => exact ⟨d,rfl⟩

/-! ### constants -/
theorem ofVal_rd {m : Option (List Tk)} (v : Value) : Rd w S m v (ofVal v) := by
  cases v with
  | bool b => exact .bool _ _
  | int k n => exact .int _ _ _
  | float k b => exact .fltS _ _ _
  | string s => exact .str _ _
  | pointer a => cases a with
    | none => exact .nilp _
    | some a => exact .dead _ _
  | nilFunc => exact .nilf _
  | nilIface => exact .nili _
  | slice a n c =>
    cases a with
    | some a => exact .dead _ _
    | none =>
      cases n with
      | succ n => exact .dead _ _
      | zero =>
        cases c with
        | succ c => exact .dead _ _
        | zero => exact .nils _ _ _
  | _ => exact .dead _ _

theorem typ_rd {m : Option (List Tk)} {v : Value} {a : AV} (t : TypeId) (h : Rd w S m v a) : Rd w S m v (typ P t a) := by
  unfold typ
  split
  · split
    · cases h; exact .nils _ _ _
    · exact h
  · exact h

/-! ### numbers -/
theorem run_eqGuard {op : BinOp} {t : TypeId} {x y : Operand} {a b : Value} (h1 : a ≠ .nilIface) (h2 : ∀ cs,a ≠ .agg cs) : (eqGuard op t x y a b).run P w = .ok () w := by
  unfold eqGuard
  cases op <;> (try rfl) <;> (cases a <;> first | exact absurd rfl h1 | exact absurd rfl (h2 _) | rfl)

theorem binI_ok {m : Option (List Tk)} {op : BinOp} {k : IntKind} {x y : Int} {cs : List Bool} {v : AV} (t : TypeId) (h1 : op ≠ .shl) (h2 : op ≠ .shr) (h : binI op k x y = (cs,v)) (hc : ∀ c ∈ cs,c = true) :
    Gives P (binOp op t (.int k x) (.int k y)) w (fun u => Rd w S m u v) := by
  cases op <;> simp only [binI,Prod.mk.injEq,dn] at h <;> (try exact absurd rfl h1) <;> (try exact absurd rfl h2)
  case quo =>
    obtain ⟨rfl,rfl⟩ := h
    have hy : ¬ y = 0 := by simpa using hc
    exact .pure (by simp [binOp,Op.intDiv,hy]) (.int _ _ _)
  case rem =>
    obtain ⟨rfl,rfl⟩ := h
    have hy : ¬ y = 0 := by simpa using hc
    exact .pure (by simp [binOp,Op.intDiv,hy]) (.int _ _ _)
  all_goals (obtain ⟨rfl,rfl⟩ := h)
  case add => exact .pure (by simp [binOp,Op.intArith]) (.int _ _ _)
  case sub => exact .pure (by simp [binOp,Op.intArith]) (.int _ _ _)
  case mul => exact .pure (by simp [binOp,Op.intArith]) (.int _ _ _)
  case and => exact .pure (by simp [binOp,Op.intBits]) (.int _ _ _)
  case or => exact .pure (by simp [binOp,Op.intBits]) (.int _ _ _)
  case xor => exact .pure (by simp [binOp,Op.intBits]) (.int _ _ _)
  case andNot => exact .pure (by simp [binOp,Op.intBits]) (.int _ _ _)
  all_goals exact .pure (by simp [binOp,Op.intCmp]) (.bool _ _)

theorem shl_ok {m : Option (List Tk)} {k k' : IntKind} {x y : Int} (t : TypeId) (h : 0 ≤ y) :
    Gives P (binOp .shl t (.int k x) (.int k' y)) w (fun u => Rd w S m u (.int k (k.wrap (x * 2 ^ (min y.toNat k.bits))))) :=
  .pure (by simp [binOp,Op.shift,Int.not_lt.2 h]) (.int _ _ _)
theorem shr_ok {m : Option (List Tk)} {k k' : IntKind} {x y : Int} (t : TypeId) (h : 0 ≤ y) :
    Gives P (binOp .shr t (.int k x) (.int k' y)) w (fun u => Rd w S m u (.int k (x.fdiv (2 ^ (min y.toNat k.bits))))) :=
  .pure (by simp [binOp,Op.shift,Int.not_lt.2 h]) (.int _ _ _)

/-! ### floats -/
theorem nan_read {k : FloatKind} {b : Nat} (h : isNan k b = true) : ∃ s f,k.format.read b = .nan s f := by
  unfold isNan FloatKind.decode at h
  cases hr : k.format.read b with
  | nan s f => exact ⟨s,f,rfl⟩
  | number s m p => simp [hr,Ieee.Datum.isNaN] at h
  | infinity s => simp [hr,Ieee.Datum.isNaN] at h

theorem arith_nan {op : BinOp} {k : FloatKind} {x y : Nat} (h : isNan k x = true ∨ isNan k y = true) : floatBits op k x y = none := by
  rcases h with h | h
  · obtain ⟨s,f,hr⟩ := nan_read h
    unfold floatBits
    split <;> simp [Ieee.Format.add,Ieee.Format.sub,Ieee.Format.mul,Ieee.Format.div,hr,Ieee.Datum.sum,Ieee.Datum.product,Ieee.Datum.quotient]
  · obtain ⟨s,f,hr⟩ := nan_read h
    unfold floatBits
    split <;> simp [Ieee.Format.add,Ieee.Format.sub,Ieee.Format.mul,Ieee.Format.div,hr] <;> (cases k.format.read x <;> simp [Ieee.Datum.opposite,Ieee.Datum.sum,Ieee.Datum.product,Ieee.Datum.quotient])

theorem ord_nan {k : FloatKind} {x y : Nat} (h : isNan k x = true ∨ isNan k y = true) : k.format.order x y = none := by
  rcases h with h | h
  · obtain ⟨s,f,hr⟩ := nan_read h
    simp [Ieee.Format.order,hr,Ieee.Datum.order]
  · obtain ⟨s,f,hr⟩ := nan_read h
    unfold Ieee.Format.order
    rw [hr]
    cases k.format.read x <;> simp [Ieee.Datum.order]

theorem read_nan (f : Ieee.Format) (n : Nat) (h0 : f.binade ≤ f.infRung) (h : f.infRung < n % f.signWeight) : (f.read n).isNaN = true := by
  unfold Ieee.Format.read
  simp only
  rw [if_neg (by omega),if_neg (by omega),if_neg (by omega)]
  rfl

theorem nan_cut (k : FloatKind) (x y t : Nat) : isNan k ((Question.nanBits k x y).cut t) = true := by
  unfold isNan FloatKind.decode
  have h2 : t % 2 < 2 := Nat.mod_lt _ (by decide)
  cases k with
  | f32 =>
    have h1 := Nat.mod_lt (t / 2) (show 0 < 2 ^ 23 - 1 by decide)
    refine read_nan _ _ (by decide) ?_
    have e1 : FloatKind.f32.format.infRung = 2139095040 := rfl
    have e2 : FloatKind.f32.format.signWeight = 2 ^ 31 := rfl
    have e3 : (Question.nanBits FloatKind.f32 x y).cut t = (t % 2) * 2 ^ 31 + 2139095040 + 1 + (t / 2) % (2 ^ 23 - 1) := rfl
    rw [e1,e2,e3]
    generalize t % 2 = a at *
    generalize t / 2 % _ = r at *
    clear e1 e2 e3
    omega
  | f64 =>
    have h1 := Nat.mod_lt (t / 2) (show 0 < 2 ^ 52 - 1 by decide)
    refine read_nan _ _ (by decide) ?_
    have e1 : FloatKind.f64.format.infRung = 9218868437227405312 := rfl
    have e2 : FloatKind.f64.format.signWeight = 2 ^ 63 := rfl
    have e3 : (Question.nanBits FloatKind.f64 x y).cut t = (t % 2) * 2 ^ 63 + 9218868437227405312 + 1 + (t / 2) % (2 ^ 52 - 1) := rfl
    rw [e1,e2,e3]
    generalize t % 2 = a at *
    generalize t / 2 % _ = r at *
    clear e1 e2 e3
    omega

/-- What a float reads as. -/
theorem rd_flt {m : Option (List Tk)} {v : Value} {k : FloatKind} {x : Option Nat} (h : Rd w S m v (.flt k x)) : ∃ b,v = .float k b ∧ (x = some b ∨ (x = none ∧ isNan k b = true)) := by
  cases h with
  | fltS m k b => exact ⟨b,rfl,.inl rfl⟩
  | fltN m k b h => exact ⟨b,rfl,.inr ⟨rfl,h⟩⟩

theorem farith_some {op : BinOp} {k : FloatKind} {x y : Option Nat} {a b : Nat} (hx : x = some a ∨ (x = none ∧ isNan k a = true)) (hy : y = some b ∨ (y = none ∧ isNan k b = true)) :
    farith op k x y = floatBits op k a b := by
  rcases hx with rfl | ⟨rfl,hn⟩
  · rcases hy with rfl | ⟨rfl,hn⟩
    · rfl
    · rw [arith_nan (.inr hn)]; rfl
  · rw [arith_nan (.inl hn)]; rfl

theorem ford_some {k : FloatKind} {x y : Option Nat} {a b : Nat} (hx : x = some a ∨ (x = none ∧ isNan k a = true)) (hy : y = some b ∨ (y = none ∧ isNan k b = true)) :
    ford k x y = k.format.order a b := by
  rcases hx with rfl | ⟨rfl,hn⟩
  · rcases hy with rfl | ⟨rfl,hn⟩
    · rfl
    · rw [ord_nan (.inr hn)]; rfl
  · rw [ord_nan (.inl hn)]; rfl

theorem arith_gives {m : Option (List Tk)} {op : BinOp} {k : FloatKind} {a b : Nat} (t : TypeId) (hop : op = .add ∨ op = .sub ∨ op = .mul ∨ op = .quo) :
    Gives P (binOp op t (.float k a) (.float k b)) w (fun u => Rd w S m u (.flt k (floatBits op k a b))) := by
  cases hb : floatBits op k a b with
  | some r => exact .pure (run_float_arith w op t k a b r hb) (.fltS _ _ _)
  | none =>
    refine ⟨.float k ((Question.nanBits k a b).cut (w.tape w.drawn (.nanBits k a b))),{ w with drawn := w.drawn + 1 },?_,rfl,rfl,rfl,rfl,.fltN _ _ _ (nan_cut _ _ _ _)⟩
    unfold floatBits at hb
    rcases hop with rfl | rfl | rfl | rfl <;> simp only at hb <;> simp [binOp,Op.floatArith,hb,Question.forced]

theorem binF_ok {m : Option (List Tk)} {op : BinOp} {k : FloatKind} {x y : Option Nat} {a b : Nat} {cs : List Bool} {v : AV} (t : TypeId)
    (hx : x = some a ∨ (x = none ∧ isNan k a = true)) (hy : y = some b ∨ (y = none ∧ isNan k b = true)) (h : binF op k x y = (cs,v)) (hc : ∀ c ∈ cs,c = true) :
    Gives P (binOp op t (.float k a) (.float k b)) w (fun u => Rd w S m u v) := by
  cases op
  case add => simp only [binF,Prod.mk.injEq] at h; obtain ⟨rfl,rfl⟩ := h; rw [farith_some hx hy]; exact arith_gives t (by simp)
  case sub => simp only [binF,Prod.mk.injEq] at h; obtain ⟨rfl,rfl⟩ := h; rw [farith_some hx hy]; exact arith_gives t (by simp)
  case mul => simp only [binF,Prod.mk.injEq] at h; obtain ⟨rfl,rfl⟩ := h; rw [farith_some hx hy]; exact arith_gives t (by simp)
  case quo => simp only [binF,Prod.mk.injEq] at h; obtain ⟨rfl,rfl⟩ := h; rw [farith_some hx hy]; exact arith_gives t (by simp)
  all_goals (simp only [binF,fcmp,ford_some hx hy,Prod.mk.injEq,dn] at h; obtain ⟨rfl,rfl⟩ := h)
  case eql => exact .pure (by simp [binOp,Op.floatCmp]) (.bool _ _)
  case neq => exact .pure (by simp [binOp,Op.floatCmp]) (.bool _ _)
  case lss => exact .pure (by simp [binOp,Op.floatCmp]) (.bool _ _)
  case leq => exact .pure (by simp [binOp,Op.floatCmp]) (.bool _ _)
  case gtr => exact .pure (by simp [binOp,Op.floatCmp]) (.bool _ _)
  case geq => exact .pure (by simp [binOp,Op.floatCmp]) (.bool _ _)
  all_goals (exfalso; simp at hc)

theorem binS_ok {m : Option (List Tk)} {op : BinOp} {x y : ByteArray} {cs : List Bool} {v : AV} (t : TypeId) (h : binS op x y = (cs,v)) (hc : ∀ c ∈ cs,c = true) :
    Gives P (binOp op t (.string x) (.string y)) w (fun u => Rd w S m u v) := by
  cases op <;> simp only [binS,Prod.mk.injEq,dn] at h <;> obtain ⟨rfl,rfl⟩ := h
  case add =>
    have hle : ¬ ((x.size + y.size : Nat) : Int) > IntKind.i64.max := by
      have := hc _ (List.mem_singleton.2 rfl)
      rw [decide_eq_true_eq] at this
      omega
    exact .pure (by simp only [binOp,Op.stringOp]; rw [if_neg hle]; rfl) (.str _ _)
  case eql => exact .pure (by simp [binOp,Op.stringOp,strEq]) (.bool _ _)
  case neq => exact .pure (by simp [binOp,Op.stringOp,strEq]) (.bool _ _)
  case lss => exact .pure (by simp [binOp,Op.stringOp,strLt]) (.bool _ _)
  case leq => exact .pure (by simp [binOp,Op.stringOp,strLt,strEq]) (.bool _ _)
  case gtr => exact .pure (by simp [binOp,Op.stringOp,strLt,strEq]) (.bool _ _)
  case geq => exact .pure (by simp [binOp,Op.stringOp,strLt]) (.bool _ _)
  all_goals (exfalso; simp at hc)
end
end Go.Am
end
section
/- The abstract machine: operations that read memory, addresses, parts. -/
namespace Go.Am
section
variable {P : Program} {w : World} {S Own : Nat → Prop} {l : List Tk} {h : List Blk}

/-! ### a value in the form of its type -/
theorem eta1_id {t : TypeId} {v : AV} (hf : fit1 P t v = true) : eta1 P t v = v := by
  unfold fit1 at hf
  unfold eta1
  generalize desc P t = d at hf ⊢
  cases d <;> cases v <;> first
    | rfl
    | (simp at hf; done)
    | (simp only [beq_iff_eq] at hf; subst hf; rfl)

theorem mapIdxFrom_id (ts : List TypeId) : ∀ (vs cs : List AV) (i : Nat),fitL P ts vs = true → (∀ j,j < vs.length → cs.getD (i + j) .dead = vs.getD j .dead) →
    mapIdxFrom (fun i u => eta1 P u (cs.getD i .dead)) i ts = vs := by
  induction ts with
  | nil => intro vs cs i h _; cases vs <;> simp_all [fitL,mapIdxFrom]
  | cons t ts ih =>
    intro vs cs i h hc
    cases vs with
    | nil => simp [fitL] at h
    | cons v vs =>
      simp only [fitL] at h
      cases hv : fit1 P t v <;> simp [hv] at h
      simp only [mapIdxFrom]
      have h0 := hc 0 (by simp)
      simp only [Nat.add_zero,List.getD_cons_zero] at h0
      rw [h0,eta1_id hv,ih vs cs (i + 1) h (fun j hj => by have := hc (j + 1) (by simp; omega); simpa [Nat.add_assoc,Nat.add_comm 1 j] using this)]

theorem etaT_id {t : TypeId} {v : AV} (hf : fitT P t v = true) : etaT P t v = v := by
  unfold fitT etaT at *
  cases ha : Am.isAg P t <;> simp only [ha,cond_true,cond_false] at hf ⊢
  · exact eta1_id hf
  · cases v <;> simp at hf
    rename_i cs
    exact congrArg AV.agg (mapIdxFrom_id _ cs cs 0 hf (fun j _ => by simp))

/-! ### cells -/
theorem cell_of_heap {b : Nat} {c : Array Value} {e : TypeId} {f : Nat × Nat} (hb : w.heap[b]? = some (.cells c e f)) (i : Nat) : w.cell? ⟨b,i,none⟩ = c[i]? := by
  simp [World.cell?,hb]

theorem add_cell (b o i : Nat) : (⟨b,o,none⟩ : Addr).add i = ⟨b,o + i,none⟩ := by unfold Addr.add; split <;> simp_all
theorem add_add (a : Addr) (i j : Nat) : (a.add i).add j = a.add (i + j) := by
  unfold Addr.add
  by_cases hi : i = 0 <;> by_cases hj : j = 0 <;> simp [hi,hj,Nat.add_assoc]
theorem add_block (a : Addr) (i : Nat) : (a.add i).block = a.block := by unfold Addr.add; split <;> rfl

/-- A part of an aggregate. -/
theorem part_ok {m : Option (List Tk)} {t : TypeId} {vs : Array Value} {cs : List AV} {off : Nat} {ck : List Bool} {v : AV} (ht : has P t = true) (hs : vs.size = cs.length)
    (hr : ∀ (j : Nat) u a,vs[j]? = some u → cs[j]? = some a → Rd w S m u a) (hq : qpart P t cs off = (ck,v)) (hc : ∀ c ∈ ck,c = true) :
    Gives P (part t vs off) w (fun u => Rd w S m u v) := by
  unfold qpart at hq
  cases ha : Am.isAg P t <;> simp only [ha,cond_true,cond_false,Prod.mk.injEq] at hq <;> obtain ⟨rfl,rfl⟩ := hq
  · have hlt : off < cs.length := by simpa using hc
    have hv : vs[off]? = some vs[off] := by simp [hs,hlt]
    have ha' : cs[off]? = some cs[off] := by simp [hlt]
    refine .pure (u := vs[off]) ?_ ?_
    · simp [part,run_ag ht,ha,hv]
    · have := hr off _ _ hv ha'
      rw [getM_eq hlt]
      simpa [List.getD,ha'] using this
  · have hle : off + tsz P t ≤ cs.length := by simpa using hc
    refine .pure (u := .agg (vs.extract off (off + tsz P t))) (by simp [part,run_ag ht,ha,run_sz ht]) ?_
    refine .agg _ _ _ (by simp; omega) (fun j u a hu hj => ?_)
    have hj' : j < tsz P t := by
      have := (List.getElem?_eq_some_iff.1 hj).1
      simp at this
      omega
    have h1 : vs[off + j]? = some u := by
      rw [Array.getElem?_extract] at hu
      split at hu
      · exact hu
      · cases hu
    have h2 : cs[off + j]? = some a := by
      rw [List.getElem?_take,if_pos hj', List.getElem?_drop] at hj
      exact hj
    exact hr _ _ _ h1 h2

theorem load_rows {m : Option (List Tk)} {t : TypeId} {a : Addr} {u : Nat → Value} {get : Nat → AV} (ht : has P t = true)
    (hcell : ∀ j,j < (if Am.isAg P t then tsz P t else 1) → w.cell? (a.add j) = some (u j)) (hr : ∀ j,j < (if Am.isAg P t then tsz P t else 1) → Rd w S m (u j) (get j)) :
    Gives P (loadVar t a) w (fun x => Rd w S m x (if Am.isAg P t then .agg ((List.range (tsz P t)).map get) else get 0)) := by
  cases ha : Am.isAg P t <;> simp only [ha] at hcell hr ⊢
  · refine .pure (u := u 0) ?_ (hr 0 (by simp))
    have := hcell 0 (by simp)
    have h0 : a.add 0 = a := by unfold Addr.add; simp
    rw [h0] at this
    simp [loadVar,run_ag ht,ha,this]
  · refine .pure (u := .agg ((List.range (tsz P t)).map u).toArray) ?_ ?_
    · simp [loadVar,run_ag ht,ha,run_sz ht,run_loadCells (P := P) w a (tsz P t) u (fun j hj => hcell j (by simpa using hj))]
    · refine .agg _ _ _ (by simp) (fun j x y hx hy => ?_)
      simp only [List.getElem?_toArray,List.getElem?_map] at hx hy
      by_cases hj : j < tsz P t
      · rw [List.getElem?_range hj] at hx hy
        simp at hx hy
        rw [← hx,← hy]
        exact hr j (by simpa using hj)
      · rw [List.getElem?_eq_none (by simpa using Nat.le_of_not_lt hj)] at hx
        simp at hx

theorem isDead_of {a : AV} (h : isDead a = false) : a ≠ .dead := by rintro rfl; simp [isDead] at h

theorem hget_some {t : Nat} {k : Blk} (hk : hget h t = k) (hl : k.live = true) : h[t]? = some k := by
  unfold hget at hk
  rw [List.getD_eq_getElem?_getD] at hk
  cases hh : h[t]? with
  | none => simp [hh] at hk; subst hk; simp [Blk.live] at hl
  | some x => simp [hh] at hk; rw [hk]

/-- What a live token stands for. -/
theorem HRel.box {t : Nat} {cs : List AV} {b N : Nat} (H : HRel w S Own l h) (hk : hget h t = .box cs) (hm : l[t]? = some (some b,N)) :
    N = cs.length ∧ ∃ c e,w.heap[b]? = some (.cells c e (0,0)) ∧ c.size = cs.length ∧ (∀ (j : Nat) u a,c[j]? = some u → cs[j]? = some a → Rd w S (some l) u a) ∧ ¬ S b ∧ Own b := by
  have := H.blk t _ _ hm (hget_some hk rfl)
  obtain ⟨b', c,e,he,h1,h2,h3,h4,h5⟩ := this
  simp only [Prod.mk.injEq,Option.some.injEq] at he
  obtain ⟨rfl,rfl⟩ := he
  exact ⟨rfl,c,e,h1,h2,h3,h4,h5⟩

theorem HRel.fx {t sz : Nat} {z : List AV} {els : List (List AV)} {b N : Nat} (H : HRel w S Own l h) (hk : hget h t = .fx sz z els) (hm : l[t]? = some (some b,N)) :
    N = els.length ∧ ∃ c e,w.heap[b]? = some (.cells c e (0,0)) ∧ c.size = els.length * sz ∧ Els w S c sz els ∧ ¬ S b ∧ Own b := by
  have := H.blk t _ _ hm (hget_some hk rfl)
  obtain ⟨b', c,e,he,h1,h2,h3,h4,h5⟩ := this
  simp only [Prod.mk.injEq,Option.some.injEq] at he
  obtain ⟨rfl,rfl⟩ := he
  exact ⟨rfl,c,e,h1,h2,h3,h4,h5⟩

theorem HRel.fl {t sz : Nat} {z : List AV} {els : List (List AV)} {b N : Nat} (H : HRel w S Own l h) (hk : hget h t = .fl sz z els) (hm : l[t]? = some (some b,N)) :
    N = els.length ∧ ∃ c e,w.heap[b]? = some (.cells c e (0,0)) ∧ els.length * sz ≤ c.size ∧ Els w S c sz els ∧ ¬ S b ∧ Own b := by
  have := H.blk t _ _ hm (hget_some hk rfl)
  rcases this with ⟨he,_⟩ | ⟨b', c,e,he,h1,h2,h3,h4,h5⟩
  · simp at he
  · simp only [Prod.mk.injEq,Option.some.injEq] at he
    obtain ⟨rfl,rfl⟩ := he
    exact ⟨rfl,c,e,h1,h2,h3,h4,h5⟩

theorem HRel.fl0 {t sz : Nat} {z : List AV} {els : List (List AV)} {N : Nat} (H : HRel w S Own l h) (hk : hget h t = .fl sz z els) (hm : l[t]? = some (none,N)) : N = 0 ∧ els = [] := by
  have := H.blk t _ _ hm (hget_some hk rfl)
  rcases this with ⟨he,h0⟩ | ⟨b', c,e,he,_⟩
  · simp only [Prod.mk.injEq,true_and] at he; exact ⟨he,h0⟩
  · simp at he

theorem els_cell {c : Array Value} {sz i j : Nat} {els : List (List AV)} {z : List AV} (hE : Els w S c sz els) (hi : i < els.length) (hj : j < sz) :
    ∃ u,c[i * sz + j]? = some u ∧ RdC w S u ((els.getD i z).getD j .dead) ∧ (els.getD i z).length = sz := by
  have h1 : els[i]? = some els[i] := by simp [hi]
  obtain ⟨hl,hh⟩ := hE i _ h1
  have h2 : (els[i])[j]? = some (els[i])[j] := by simp [hl,hj]
  obtain ⟨u,hu,hr⟩ := hh j _ h2
  refine ⟨u,hu,?_,?_⟩
  · simpa [List.getD,hi,hl,hj] using hr
  · simpa [List.getD,hi] using hl

theorem take_getD {cs : List AV} {off n : Nat} (hle : off + n ≤ cs.length) : (List.range n).map (fun j => cs.getD (off + j) .dead) = (cs.drop off).take n := by
  apply List.ext_getElem?
  intro j
  by_cases hj : j < n
  · simp [hj,List.getElem?_drop,List.getD,show off + j < cs.length by omega]
  · rw [List.getElem?_eq_none (by simpa using Nat.le_of_not_lt hj),List.getElem?_eq_none (by simp; omega)]

theorem fitT_ag {t : TypeId} {cs : List AV} (ha : Am.isAg P t = true) (h : fitKs ((leaves P 16 t).map (kindOf P)) cs = true) : fitT P t (.agg cs) = true := by
  unfold fitT
  rw [ha,cond_true]
  rwa [fitKs_eq] at h
theorem fitT_one {t : TypeId} {v : AV} (ha : Am.isAg P t = false) (h : fitK (kindOf P t) v = true) : fitT P t v = true := by
  unfold fitT
  rw [ha,cond_false]
  rwa [fitK_eq] at h

theorem load_ok {t : TypeId} {x : Value} {a : AV} {ck : List Bool} {v : AV} (H : HRel w S Own l h) (hx : Rd w S (some l) x a) (hq : qload P h t a = (ck,v)) (hc : ∀ c ∈ ck,c = true) :
    Gives P (Instr.loadAt t x) w (fun u => Rd w S (some l) u v) := by
  unfold qload at hq
  cases ht : has P t <;> simp only [ht,cond_true,cond_false,dn] at hq
  · simp only [Prod.mk.injEq] at hq; obtain ⟨rfl,rfl⟩ := hq; simp at hc
  have bad : ∀ {cs : List Bool} {y : AV},(([false],AV.dead) : QR) = (cs,y) → (∀ c ∈ cs,c = true) → False := by
    intro cs y e hh; simp only [Prod.mk.injEq] at e; obtain ⟨rfl,rfl⟩ := e; simp at hh
  cases hx with
  | rp _ n get ad u hSa hcell hr =>
    have key : (if Am.isAg P t then tsz P t else 1) ≤ n ∧ v = (if Am.isAg P t then .agg ((List.range (tsz P t)).map get) else get 0) := by
      cases ha : Am.isAg P t <;> simp only [ha,cond_true,cond_false,Prod.mk.injEq] at hq <;> obtain ⟨rfl,rfl⟩ := hq
      · have h1 := hc _ (List.mem_cons_self ..)
        have h2 := hc _ (List.mem_cons_of_mem _ (List.mem_cons_self ..))
        exact ⟨by have : 0 < n := by simpa using h1
                  simp; omega,by rw [etaT_id (fitT_one ha h2)]; simp⟩
      · have h1 := hc _ (List.mem_cons_self ..)
        have h2 := hc _ (List.mem_cons_of_mem _ (List.mem_cons_self ..))
        exact ⟨by simpa using h1,by rw [etaT_id (fitT_ag ha h2)]; simp⟩
    obtain ⟨hn,rfl⟩ := key
    exact load_rows ht (fun j hj => hcell j (by omega)) (fun j hj => (hr j (by omega)).none_)
  | ptr _ t' off b N hm =>
    cases hk : hget h t' <;> simp only [hk] at hq <;> try exact (bad hq hc).elim
    rename_i cs
    obtain ⟨_,c,e,hb,hsz,hr,_,_⟩ := H.box hk hm
    unfold qpart at hq
    have key : off + (if Am.isAg P t then tsz P t else 1) ≤ cs.length ∧ v = (if Am.isAg P t then .agg ((List.range (tsz P t)).map (fun j => cs.getD (off + j) .dead)) else cs.getD off .dead) := by
      cases ha : Am.isAg P t <;> simp only [ha,cond_true,cond_false,Prod.mk.injEq] at hq <;> obtain ⟨rfl,rfl⟩ := hq
      · have : off < cs.length := by simpa using hc
        exact ⟨by simp; omega,by rw [getM_eq this]; simp⟩
      · have : off + tsz P t ≤ cs.length := by simpa using hc
        exact ⟨by simpa using this,by rw [take_getD this]; simp⟩
    obtain ⟨hn,rfl⟩ := key
    have := load_rows (P := P) (w := w) (S := S) (m := some l) (t := t) (a := ⟨b,off,none⟩) (u := fun j => c.getD (off + j) undef) (get := fun j => cs.getD (off + j) .dead) ht
      (fun j hj => by rw [add_cell,cell_of_heap hb]; simp [show off + j < c.size by omega])
      (fun j hj => hr (off + j) _ _ (by simp [show off + j < c.size by omega]) (by simp [List.getD,show off + j < cs.length by omega]))
    simpa [Instr.loadAt,Instr.sureAddr] using this
  | ep _ t' sz i j b N hm hi hj =>
    have fin : ∀ (z : List AV) (els : List (List AV)) (c : Array Value) (e : TypeId),w.heap[b]? = some (.cells c e (0,0)) → Els w S c sz els → i < els.length →
        (bif !(Nat.ble (j + tsz P t) sz) then (([false],AV.dead) : QR) else
          bif Am.isAg P t then ([fitKs ((leaves P 16 t).map (kindOf P)) (((els.getD i z).drop j).take (tsz P t))],etaT P t (.agg (((els.getD i z).drop j).take (tsz P t))))
          else ([fitK (kindOf P t) ((els.getD i z).getD j .dead)],etaT P t ((els.getD i z).getD j .dead))) = (ck,v) → Gives P (Instr.loadAt t (.pointer (some ⟨b,i * sz + j,none⟩))) w (fun u => Rd w S (some l) u v) := by
      intro z els c e hb hE hi' hq
      cases hle : Nat.ble (j + tsz P t) sz <;> simp only [hle,Bool.not_true,Bool.not_false,cond_true,cond_false] at hq
      · exact (bad hq hc).elim
      have hle' : j + tsz P t ≤ sz := Nat.le_of_ble_eq_true hle
      obtain ⟨_,_,_,hlen⟩ := els_cell (z := z) hE hi' hj
      have hv : v = (if Am.isAg P t then .agg ((List.range (tsz P t)).map (fun q => (els.getD i z).getD (j + q) .dead)) else (els.getD i z).getD (j + 0) .dead) := by
        cases ha : Am.isAg P t <;> simp only [ha,cond_true,cond_false,Prod.mk.injEq] at hq <;> obtain ⟨rfl,rfl⟩ := hq
        · have := hc _ (List.mem_singleton.2 rfl)
          rw [etaT_id (fitT_one ha this)]; simp
        · have := hc _ (List.mem_singleton.2 rfl)
          rw [etaT_id (fitT_ag ha this),take_getD (by omega)]; simp
      subst hv
      have := load_rows (P := P) (w := w) (S := S) (m := some l) (t := t) (a := ⟨b,i * sz + j,none⟩) (u := fun q => c.getD (i * sz + (j + q)) undef) (get := fun q => (els.getD i z).getD (j + q) .dead) ht
        (fun q hq => by
          have hjq : j + q < sz := by split at hq <;> omega
          obtain ⟨u,hu,_⟩ := els_cell (z := z) hE hi' hjq
          rw [add_cell,cell_of_heap hb,Nat.add_assoc,hu]; simp [hu])
        (fun q hq => by
          have hjq : j + q < sz := by split at hq <;> omega
          obtain ⟨u,hu,hr,_⟩ := els_cell (z := z) hE hi' hjq
          simp only [Array.getD_eq_getD_getElem?,hu,Option.getD_some]
          exact hr.1.none_)
      simpa [Instr.loadAt,Instr.sureAddr] using this
    cases hk : hget h t' <;> simp only [hk] at hq <;> try exact (bad hq hc).elim
    · rename_i sz' z els
      cases hszz : sz == sz' <;> simp only [hszz,Bool.not_true,Bool.not_false,Bool.true_or,Bool.false_or,cond_true] at hq
      · exact (bad hq hc).elim
      obtain rfl : sz = sz' := by simpa using hszz
      obtain ⟨rfl,c,e,hb,hsz,hE,_,_⟩ := H.fx hk hm
      exact fin z els c e hb hE hi hq
    · rename_i sz' z els
      cases hszz : sz == sz' <;> simp only [hszz,Bool.not_true,Bool.not_false,Bool.true_or,Bool.false_or,cond_true] at hq
      · exact (bad hq hc).elim
      obtain rfl : sz = sz' := by simpa using hszz
      obtain ⟨rfl,c,e,hb,hsz,hE,_,_⟩ := H.fl hk hm
      exact fin z els c e hb hE hi hq
  | _ => exact (bad hq hc).elim
end
end Go.Am
end
section
/- The abstract machine: addresses, elements, slices, comparisons; every quiet operation. -/
namespace Go.Am
section
variable {P : Program} {w : World} {S Own : Nat → Prop} {l : List Tk} {h : List Blk}

theorem bad {cs : List Bool} {y : AV} {p : Prop} (e : (([false],AV.dead) : QR) = (cs,y)) (hh : ∀ c ∈ cs,c = true) : p := by
  simp only [Prod.mk.injEq] at e; obtain ⟨rfl,rfl⟩ := e; simp at hh

theorem bnd_ok {i : Int} {n : Nat} (hc : ∀ c ∈ bnd i n,c = true) : 0 ≤ i ∧ i < (n : Int) := by
  simpa [bnd] using hc

theorem idxAddr_ok {t : TypeId} {x y : Value} {a i : AV} {ck : List Bool} {v : AV} (H : HRel w S Own l h) (hx : Rd w S (some l) x a) (hy : Rd w S (some l) y i)
    (hq : qidxAddr P h t a i = (ck,v)) (hc : ∀ c ∈ ck,c = true) : Gives P (Instr.indexAt t x y) w (fun u => Rd w S (some l) u v) := by
  unfold qidxAddr at hq
  cases i <;> try exact bad hq hc
  rename_i k i
  obtain rfl := rd_int hy
  simp only at hq
  cases hd : desc P t <;> simp only [hd] at hq <;> try exact bad hq hc
  · rename_i e
    have hu := und_of_desc hd (by simp)
    cases a <;> simp only at hq <;> try exact bad hq hc
    · rename_i sz n rd get
      obtain ⟨base,cap,u,rfl,hn,hcap,hb,hr⟩ := rd_ro hx
      cases hb1 : (has P e && sz == tsz P e) <;> simp only [hb1,cond_true,cond_false] at hq
      · exact bad hq hc
      simp only [Bool.and_eq_true,beq_iff_eq] at hb1
      obtain ⟨he,rfl⟩ := hb1
      simp only [Prod.mk.injEq] at hq
      obtain ⟨rfl,rfl⟩ := hq
      obtain ⟨h0,h1⟩ := bnd_ok hc
      have hi : i.toNat < rd := by omega
      obtain ⟨ad,rfl,hS,hcell⟩ := hb (by omega)
      refine .pure (u := .pointer (some (ad.add (i.toNat * tsz P e)))) ?_ ?_
      · simp [Instr.indexAt,asIntOf,run_underlying hu w,h0,h1,run_sz he]
      · exact .rp _ _ _ _ (fun j => u i.toNat j) (by rw [add_block]; exact hS) (fun j hj => by rw [add_add]; exact hcell _ _ hi hj) (fun j hj => (hr _ _ hi hj).1)
    · rename_i t' off sz n cap
      obtain ⟨b,N,rfl,hm,hn,hN⟩ := rd_own hx
      cases hb1 : (has P e && sz == tsz P e && Nat.blt 0 sz) <;> simp only [hb1,cond_true,cond_false] at hq
      · exact bad hq hc
      simp only [Bool.and_eq_true,beq_iff_eq,Nat.blt_eq] at hb1
      obtain ⟨⟨he,rfl⟩,hpos⟩ := hb1
      have key : (bnd i n,AV.ep t' (tsz P e) (off + i.toNat) 0) = (ck,v) → Gives P (Instr.indexAt t (.slice (some ⟨b,off * tsz P e,none⟩) n cap) (.int k i)) w (fun u => Rd w S (some l) u v) := fun hq => by
        simp only [Prod.mk.injEq] at hq
        obtain ⟨rfl,rfl⟩ := hq
        obtain ⟨h0,h1⟩ := bnd_ok hc
        refine .pure (u := .pointer (some ⟨b,(off + i.toNat) * tsz P e + 0,none⟩)) ?_ ?_
        · simp [Instr.indexAt,asIntOf,run_underlying hu w,h0,h1,run_sz he,add_cell,Nat.add_mul]
        · exact .ep _ _ _ _ _ _ _ hm (by omega) hpos
      cases hk : hget h t' <;> simp only [hk] at hq <;> try exact key hq
      cases h1 : Nat.beq (tsz P e) 1 <;> simp only [h1,cond_true,cond_false] at hq
      · exact bad hq hc
      have e1 : tsz P e = 1 := Nat.eq_of_beq_eq_true h1
      simp only [Prod.mk.injEq] at hq
      obtain ⟨rfl,rfl⟩ := hq
      obtain ⟨h0,h1⟩ := bnd_ok hc
      refine .pure (u := .pointer (some ⟨b,off + i.toNat,none⟩)) ?_ (.ptr _ _ _ _ _ hm)
      simp [Instr.indexAt,asIntOf,run_underlying hu w,h0,h1,run_sz he,add_cell,e1]
    · rename_i t' sz
      cases hb1 : (has P e && sz == tsz P e && Nat.blt 0 sz) <;> simp only [hb1,cond_true,cond_false] at hq
      · exact bad hq hc
      simp only [Bool.and_eq_true,beq_iff_eq,Nat.blt_eq] at hb1
      obtain ⟨⟨he,rfl⟩,hpos⟩ := hb1
      cases hk : hget h t' <;> simp only [hk] at hq <;> try exact bad hq hc
      rename_i sz' z els
      simp only [Prod.mk.injEq] at hq
      obtain ⟨rfl,rfl⟩ := hq
      obtain ⟨h0,h1⟩ := bnd_ok hc
      rcases rd_lst hx with ⟨b,N,cap,rfl,hm,hn,hs⟩ | ⟨rfl,hm⟩
      · obtain ⟨rfl,_⟩ := H.fl hk hm
        refine .pure (u := .pointer (some ⟨b,i.toNat * tsz P e + 0,none⟩)) ?_ ?_
        · simp [Instr.indexAt,asIntOf,run_underlying hu w,h0,h1,run_sz he,add_cell]
        · exact .ep _ _ _ _ _ _ _ hm (by omega) hpos
      · obtain ⟨_,rfl⟩ := H.fl0 hk hm
        simp at h1
        omega
  · rename_i n e
    have hu := und_of_desc hd (by simp)
    cases a <;> simp only at hq <;> try exact bad hq hc
    · rename_i m get
      obtain ⟨ad,u,rfl,hS,hcell,hr⟩ := rd_rp hx
      cases he : has P e <;> simp only [he,cond_true,cond_false] at hq
      · exact bad hq hc
      simp only [Prod.mk.injEq] at hq
      obtain ⟨rfl,rfl⟩ := hq
      obtain ⟨h0,h1⟩ := bnd_ok hc
      refine .pure (u := .pointer (some (ad.add (i.toNat * tsz P e)))) ?_ ?_
      · simp [Instr.indexAt,Instr.sureAddr,asIntOf,run_underlying hu w,h0,h1,run_sz he]
      · exact .rp _ _ _ _ (fun j => u (i.toNat * tsz P e + j)) (by rw [add_block]; exact hS) (fun j hj => by rw [add_add]; exact hcell _ (by omega)) (fun j hj => hr _ (by omega))
    · rename_i t' off
      obtain ⟨b,N,rfl,hm⟩ := rd_ptr hx
      cases he : has P e <;> simp only [he,cond_true,cond_false] at hq
      · exact bad hq hc
      simp only [Prod.mk.injEq] at hq
      obtain ⟨rfl,rfl⟩ := hq
      obtain ⟨h0,h1⟩ := bnd_ok hc
      refine .pure (u := .pointer (some ⟨b,off + i.toNat * tsz P e,none⟩)) ?_ (.ptr _ _ _ _ _ hm)
      simp [Instr.indexAt,Instr.sureAddr,asIntOf,run_underlying hu w,h0,h1,run_sz he,add_cell]
    · rename_i t' sz p q
      obtain ⟨b,N,rfl,hm,hi,hj⟩ := rd_ep hx
      cases he : has P e <;> simp only [he,cond_true,cond_false] at hq
      · exact bad hq hc
      simp only [Prod.mk.injEq] at hq
      obtain ⟨rfl,rfl⟩ := hq
      obtain ⟨h0,h1⟩ := bnd_ok (fun c hh => hc c (List.mem_append_left _ hh))
      have h2 : q + i.toNat * tsz P e < sz := by simpa using hc _ (List.mem_append_right _ (List.mem_singleton.2 rfl))
      refine .pure (u := .pointer (some ⟨b,p * sz + (q + i.toNat * tsz P e),none⟩)) ?_ (.ep _ _ _ _ _ _ _ hm hi h2)
      simp [Instr.indexAt,Instr.sureAddr,asIntOf,run_underlying hu w,h0,h1,run_sz he,add_cell,Nat.add_assoc]

theorem idx_ok {m : Option (List Tk)} {t : TypeId} {x y : Value} {a i : AV} {ck : List Bool} {v : AV} (hx : Rd w S m x a) (hy : Rd w S m y i)
    (hq : qidx P t a i = (ck,v)) (hc : ∀ c ∈ ck,c = true) : Gives P (Instr.index t x y) w (fun u => Rd w S m u v) := by
  unfold qidx at hq
  cases i <;> try exact bad hq hc
  rename_i k i
  obtain rfl := rd_int hy
  simp only at hq
  cases hd : desc P t <;> simp only [hd] at hq <;> try exact bad hq hc
  · have hu := und_of_desc hd (by simp)
    cases a <;> simp only at hq <;> try exact bad hq hc
    rename_i s
    obtain rfl := rd_str hx
    simp only [Prod.mk.injEq] at hq
    obtain ⟨rfl,rfl⟩ := hq
    obtain ⟨h0,h1⟩ := bnd_ok hc
    have hi : i.toNat < s.size := by omega
    have hi' : i.toNat < s.data.size := hi
    have hs : s[i.toNat]? = some (s.data[i.toNat]) := by
      rw [getElem?_pos s i.toNat hi]; rfl
    have e : sbyte s i.toNat = ((s.data[i.toNat]).toNat : Int) := by
      unfold sbyte
      rw [getElem?_pos s.data i.toNat hi']
      rfl
    refine .pure (u := .int .u8 (sbyte s i.toNat)) ?_ (.int _ _ _)
    rw [e]
    simp [Instr.index,asIntOf,run_underlying hu w,h0,hs]
  · rename_i n e
    have hu := und_of_desc hd (by simp)
    cases a <;> simp only at hq <;> try exact bad hq hc
    rename_i cs
    obtain ⟨vs,rfl,hs,hr⟩ := rd_agg hx
    cases hb : (has P e && (cs.length == n * tsz P e)) <;> simp only [hb,cond_true,cond_false] at hq
    · exact bad hq hc
    simp only [Bool.and_eq_true,beq_iff_eq] at hb
    obtain ⟨he,hl⟩ := hb
    have fin : ∀ (h0 : 0 ≤ i) (h1 : i < (n : Int)),i.toNat * tsz P e + tsz P e ≤ cs.length := by
      intro h0 h1
      rw [hl,← Nat.succ_mul]
      exact Nat.mul_le_mul_right _ (by omega)
    cases ha : Am.isAg P e <;> simp only [ha,cond_true,cond_false] at hq
    · cases h1 : tsz P e == 1 <;> simp only [h1,cond_true,cond_false] at hq
      · exact bad hq hc
      simp only [Prod.mk.injEq] at hq
      obtain ⟨rfl,rfl⟩ := hq
      obtain ⟨h0,h2⟩ := bnd_ok hc
      have := part_ok (P := P) (w := w) (S := S) (off := i.toNat * tsz P e) he hs hr (ck := [Nat.blt (i.toNat * tsz P e) cs.length]) (v := getM cs (i.toNat * tsz P e)) (by simp [qpart,ha])
        (by have := fin h0 h2; simp only [beq_iff_eq] at h1; simp; omega)
      refine this.elim fun u ⟨w', h3,h4⟩ => ⟨u,w', ?_,h4⟩
      simp [Instr.index,asIntOf,run_underlying hu w,h0,h2,run_sz he,h3]
    · simp only [Prod.mk.injEq] at hq
      obtain ⟨rfl,rfl⟩ := hq
      obtain ⟨h0,h2⟩ := bnd_ok hc
      have := part_ok (P := P) (w := w) (S := S) (off := i.toNat * tsz P e) he hs hr (ck := [Nat.ble (i.toNat * tsz P e + tsz P e) cs.length]) (v := .agg ((cs.drop (i.toNat * tsz P e)).take (tsz P e))) (by simp [qpart,ha])
        (by have := fin h0 h2; simpa using this)
      refine this.elim fun u ⟨w', h3,h4⟩ => ⟨u,w', ?_,h4⟩
      simp [Instr.index,asIntOf,run_underlying hu w,h0,h2,run_sz he,h3]

theorem field_inv {s : TypeId} {f : Nat} {fl : Field} (hf : fieldOf P s f = some fl) : ∃ fs,P.underlying s = some (.struct fs) ∧ fs[f]? = some fl := by
  unfold fieldOf at hf
  cases hd : desc P s <;> simp only [hd] at hf <;> try (cases hf; done)
  rename_i fs
  exact ⟨fs,und_of_desc hd (by simp),hf⟩

theorem sbound_ok {k : IntKind} {y : Nat} {i : Int} {code : BoundsCode} (h0 : 0 ≤ i) (h1 : i ≤ (y : Int)) : (Instr.sliceBound (.int k i) y code).run P w = .ok i.toNat w := by
  simp [Instr.sliceBound,asIntOf,h0,h1]

/-- The bounds come out as said. -/
theorem sbnd_ok {m : Option (List Tk)} {isS : Bool} {n cap : Nat} {lo hi : Option Value} {la ha : Option AV} {ck : List Bool} {x y : Nat} (hn : n ≤ cap)
    (hl : ∀ u,lo = some u → ∃ a,la = some a ∧ Rd w S m u a) (hln : lo = none → la = none) (hh : ∀ u,hi = some u → ∃ a,ha = some a ∧ Rd w S m u a) (hhn : hi = none → ha = none)
    {cap' : Nat} (hcap : cap ≤ cap') (hq : sbnd n cap la ha = some (ck,x,y)) (hc : ∀ c ∈ ck,c = true) :
    (Instr.sliceBounds isS n cap' lo hi none).run P w = .ok (x,y,cap') w ∧ x ≤ y ∧ y ≤ cap ∧ (hi = none → y = n) := by
  cases lo with
  | none =>
    obtain rfl := hln rfl
    cases hi with
    | none =>
      obtain rfl := hhn rfl
      simp only [sbnd,Option.some.injEq,Prod.mk.injEq] at hq
      obtain ⟨rfl,rfl,rfl⟩ := hq
      exact ⟨by simp [Instr.sliceBounds],by omega,hn,fun _ => rfl⟩
    | some u =>
      obtain ⟨a,rfl,hr⟩ := hh u rfl
      cases hr <;> simp only [sbnd] at hq <;> try (cases hq; done)
      rename_i k i
      simp only [Option.some.injEq,Prod.mk.injEq] at hq
      obtain ⟨rfl,rfl,rfl⟩ := hq
      have h0 : 0 ≤ i ∧ i ≤ (cap : Int) := by simpa using hc
      refine ⟨?_,by omega,by omega,fun h => by cases h⟩
      simp [Instr.sliceBounds,sbound_ok (P := P) (w := w) (k := k) h0.1 (show i ≤ (cap' : Int) by omega)]
  | some u =>
    obtain ⟨a,rfl,hr⟩ := hl u rfl
    cases hi with
    | none =>
      obtain rfl := hhn rfl
      cases hr <;> simp only [sbnd] at hq <;> try (cases hq; done)
      rename_i k i
      simp only [Option.some.injEq,Prod.mk.injEq] at hq
      obtain ⟨rfl,rfl,rfl⟩ := hq
      have h0 : 0 ≤ i ∧ i ≤ (n : Int) := by simpa using hc
      refine ⟨?_,by omega,hn,fun _ => rfl⟩
      simp [Instr.sliceBounds,sbound_ok (P := P) (w := w) (k := k) h0.1 h0.2]
    | some u' =>
      obtain ⟨a', rfl,hr'⟩ := hh u' rfl
      cases hr <;> cases hr' <;> simp only [sbnd] at hq <;> try (cases hq; done)
      rename_i k i k' i'
      simp only [Option.some.injEq,Prod.mk.injEq] at hq
      obtain ⟨rfl,rfl,rfl⟩ := hq
      have h0 : 0 ≤ i' ∧ i' ≤ (cap : Int) ∧ 0 ≤ i ∧ i ≤ i' := by simpa using hc
      refine ⟨?_,by omega,by omega,fun h => by cases h⟩
      have e : i ≤ ((i'.toNat : Nat) : Int) := by omega
      simp [Instr.sliceBounds,sbound_ok (P := P) (w := w) (k := k') h0.1 (show i' ≤ (cap' : Int) by omega),sbound_ok (P := P) (w := w) (k := k) (y := i'.toNat) h0.2.2.1 e]

theorem rd_one0 {m : Option (List Tk)} {v : Value} {a : AV} (h : Rd w S m v a) (h1 : ∀ cs,a ≠ .agg cs) (h2 : ∀ cs,a ≠ .tup cs) (h3 : a ≠ .dead) : v.oneCell' = true := by
  cases h <;> first | rfl | exact absurd rfl h3 | exact absurd rfl (h1 _) | exact absurd rfl (h2 _)
theorem fit_told : ∀ {ts : List TypeId} {vs : List AV},fitKs (ts.map (kindOf P)) vs = true → (ts.all fun u => match kindOf P u with | .any => false | _ => true) = true →
    ∀ v ∈ vs,(∀ cs,v ≠ .agg cs) ∧ (∀ cs,v ≠ .tup cs) ∧ v ≠ .dead
  | [],[],_,_,v,hv => by cases hv
  | [],_ :: _,h,_,_,_ => by simp [fitKs] at h
  | _ :: _,[],h,_,_,_ => by simp [fitKs] at h
  | t :: ts,u :: us,h,hk,v,hv => by
    simp only [List.map_cons,fitKs] at h
    cases hf : fitK (kindOf P t) u <;> simp only [hf,cond_true,cond_false] at h
    · cases h
    simp only [List.all_cons,Bool.and_eq_true] at hk
    rcases List.mem_cons.1 hv with rfl | hv
    · have hk1 := hk.1
      cases hkd : kindOf P t <;> simp only [hkd] at hf hk1 <;> (try (cases hk1; done)) <;> cases v <;> simp_all [fitK]
    · exact fit_told h hk.2 v hv

theorem slice_ok {t : TypeId} {x : Value} {a : AV} {lo hi mx : Option Value} {la ha ma : Option AV} {ck : List Bool} {v : AV} (hx : Rd w S (some l) x a)
    (hl : ∀ u,lo = some u → ∃ a,la = some a ∧ Rd w S (some l) u a) (hln : lo = none → la = none) (hh : ∀ u,hi = some u → ∃ a,ha = some a ∧ Rd w S (some l) u a) (hhn : hi = none → ha = none)
    (hm : mx = none) (hma : ma = none) (hq : qslice P t a la ha ma = some (ck,v)) (hc : ∀ c ∈ ck,c = true) : Gives P (Instr.sliceAt t x lo hi mx) w (fun u => Rd w S (some l) u v) := by
  subst hm hma
  unfold qslice at hq
  simp only at hq
  cases hd : desc P t <;> simp only [hd] at hq <;> try (cases hq; done)
  · have hu := und_of_desc hd (by simp)
    cases a <;> simp only at hq <;> try (cases hq; done)
    rename_i s
    obtain rfl := rd_str hx
    rw [Option.map_eq_some_iff] at hq
    obtain ⟨⟨c,x,y⟩,hs,he⟩ := hq
    simp only [Prod.mk.injEq] at he
    obtain ⟨rfl,rfl⟩ := he
    obtain ⟨h1,h2,h3,_⟩ := sbnd_ok (P := P) (w := w) (isS := false) (Nat.le_refl _) hl hln hh hhn (Nat.le_refl _) hs hc
    exact .pure (by simp [Instr.sliceAt,Instr.slice,run_underlying hu w,h1]) (.str _ _)
  · rename_i e
    have hu := und_of_desc hd (by simp)
    cases a <;> simp only at hq <;> try (cases hq; done)
    · rename_i sz z
      obtain rfl := rd_nils hx
      cases hb1 : (has P e && sz == tsz P e) <;> simp only [hb1,cond_true,cond_false] at hq
      · cases hq
      simp only [Bool.and_eq_true,beq_iff_eq] at hb1
      obtain ⟨he,rfl⟩ := hb1
      rw [Option.map_eq_some_iff] at hq
      obtain ⟨⟨c,x,y⟩,hs,he'⟩ := hq
      simp only [Prod.mk.injEq] at he'
      obtain ⟨rfl,rfl⟩ := he'
      obtain ⟨h1,h2,h3,_⟩ := sbnd_ok (P := P) (w := w) (isS := true) (Nat.le_refl _) hl hln hh hhn (Nat.le_refl _) hs hc
      obtain rfl : y = 0 := by omega
      obtain rfl : x = 0 := by omega
      refine .pure (u := .slice none 0 0) ?_ (.nils _ _ _)
      simp [Instr.sliceAt,Instr.slice,run_underlying hu w,h1,run_sz he]
    · rename_i sz n rd get
      obtain ⟨base,cap,u,rfl,hn,hcap,hb,hr⟩ := rd_ro hx
      cases hb1 : (has P e && sz == tsz P e) <;> simp only [hb1,cond_true,cond_false] at hq
      · cases hq
      simp only [Bool.and_eq_true,beq_iff_eq] at hb1
      obtain ⟨he,rfl⟩ := hb1
      rw [Option.map_eq_some_iff] at hq
      obtain ⟨⟨c,x,y⟩,hs,he'⟩ := hq
      simp only [Prod.mk.injEq] at he'
      obtain ⟨rfl,rfl⟩ := he'
      obtain ⟨h1,h2,h3,_⟩ := sbnd_ok (P := P) (w := w) (isS := true) hn hl hln hh hhn hcap hs hc
      refine .pure (u := .slice (if cap = x then base else base.map (·.add (x * tsz P e))) (y - x) (cap - x)) ?_ ?_
      · simp [Instr.sliceAt,Instr.slice,run_underlying hu w,h1,run_sz he]
      · refine .ro _ _ _ _ _ _ _ (fun i j => u (x + i) j) (by omega) (by omega) (fun h0 => ?_) (fun i j hi hj => (hr _ _ (by omega) hj).1) (fun i j hi hj => (hr _ _ (by omega) hj).2)
        rw [if_neg (by omega)]
        obtain ⟨ad,rfl,hS,hcell⟩ := hb (by omega)
        refine ⟨_,rfl,by rw [add_block]; exact hS,fun i j hi hj => ?_⟩
        rw [add_add,show x * tsz P e + (i * tsz P e + j) = (x + i) * tsz P e + j by rw [Nat.add_mul,Nat.add_assoc]]
        exact hcell _ _ (by omega) hj
    · rename_i t' off sz n cap
      obtain ⟨b,N,rfl,hm,hn,hN⟩ := rd_own hx
      cases hb1 : (has P e && sz == tsz P e) <;> simp only [hb1,cond_true,cond_false] at hq
      · cases hq
      simp only [Bool.and_eq_true,beq_iff_eq] at hb1
      obtain ⟨he,rfl⟩ := hb1
      rw [Option.map_eq_some_iff] at hq
      obtain ⟨⟨c,x,y⟩,hs,he'⟩ := hq
      simp only [Prod.mk.injEq] at he'
      obtain ⟨rfl,rfl⟩ := he'
      obtain ⟨h1,h2,h3,_⟩ := sbnd_ok (P := P) (w := w) (isS := true) hn hl hln hh hhn (Nat.le_refl _) hs (fun c hh => hc c (List.mem_cons_of_mem _ hh))
      have h4 : x < cap := by simpa using hc _ (List.mem_cons_self ..)
      refine .pure (u := .slice (some ⟨b,(off + x) * tsz P e,none⟩) (y - x) (cap - x)) ?_ (.own _ _ _ _ _ _ _ _ hm (by omega) (by omega))
      simp [Instr.sliceAt,Instr.slice,run_underlying hu w,h1,run_sz he,add_cell,Nat.add_mul,show ¬ cap = x by omega]
  · rename_i n e
    have hu := und_of_desc hd (by simp)
    cases a <;> simp only at hq <;> try (cases hq; done)
    rename_i m get
    obtain ⟨ad,u,rfl,hS,hcell,hr⟩ := rd_rp hx
    cases hb1 : (has P e && isAg P t && toldL P t) <;> simp only [hb1,cond_true,cond_false] at hq
    · cases hq
    simp only [Bool.and_eq_true] at hb1
    obtain ⟨⟨he,hag⟩,htold⟩ := hb1
    rw [Option.map_eq_some_iff] at hq
    obtain ⟨⟨c,x,y⟩,hs,he'⟩ := hq
    simp only [Prod.mk.injEq] at he'
    obtain ⟨rfl,rfl⟩ := he'
    obtain ⟨h1,h2,h3,_⟩ := sbnd_ok (P := P) (w := w) (isS := false) (Nat.le_refl _) hl hln hh hhn (Nat.le_refl _) hs (fun c hh => hc c (List.mem_cons_of_mem _ (List.mem_cons_of_mem _ hh)))
    have hle : n * tsz P e ≤ m := by simpa using hc _ (List.mem_cons_self ..)
    have hfit := hc _ (List.mem_cons_of_mem _ (List.mem_cons_self ..))
    have hid := etaT_id (fitT_ag hag hfit)
    have htl := fit_told hfit htold
    have hidx : ∀ i j,i < n - x → j < tsz P e → (x + i) * tsz P e + j < n * tsz P e := by
      intro i j hi hj
      have h5 : (x + i + 1) * tsz P e ≤ n * tsz P e := Nat.mul_le_mul_right _ (by omega)
      have h6 : (x + i + 1) * tsz P e = (x + i) * tsz P e + tsz P e := Nat.succ_mul ..
      omega
    refine .pure (u := .slice (some (if n = x then ad else ad.add (x * tsz P e))) (y - x) (n - x)) ?_ ?_
    · simp [Instr.sliceAt,Instr.sureAddr,run_underlying hu w,h1,run_sz he]
    · rw [hid]
      refine .ro _ _ _ _ _ _ _ (fun i j => u ((x + i) * tsz P e + j)) (by omega) (Nat.le_refl _) (fun h0 => ?_) (fun i j hi hj => ?_) (fun i j hi hj => ?_)
      · rw [if_neg (by omega)]
        refine ⟨_,rfl,by rw [add_block]; exact hS,fun i j hi hj => ?_⟩
        have := hidx i j hi hj
        rw [add_add,show x * tsz P e + (i * tsz P e + j) = (x + i) * tsz P e + j by rw [Nat.add_mul,Nat.add_assoc]]
        exact hcell _ (by omega)
      · have := hidx i j hi hj
        have e1 : (toC (.agg ((List.range (n * tsz P e)).map get))).getD ((x + i) * tsz P e + j) .dead = get ((x + i) * tsz P e + j) := by
          simp [toC,List.getD,this]
        rw [e1]
        exact hr _ (by omega)
      · have := hidx i j hi hj
        have hm := htl (get ((x + i) * tsz P e + j)) (List.mem_map.2 ⟨_,List.mem_range.2 this,rfl⟩)
        exact rd_one0 (hr _ (by omega)) hm.1 hm.2.1 hm.2.2
end
end Go.Am
end
section
/- The abstract machine: comparisons of arrays; every quiet operation. -/
namespace Go.Am
section
variable {P : Program} {w : World} {S Own : Nat → Prop} {l : List Tk} {h : List Blk}

theorem eq1_ok {m : Option (List Tk)} {e : TypeId} {u v : Value} {a b : AV} {r : Bool} (d : Nat) (hu : Rd w S m u a) (hv : Rd w S m v b) (h : eq1 (desc P e) a b = some r) :
    (Op.equalIn (d + 1) e u v).run P w = .ok r w := by
  unfold eq1 at h
  cases hd : desc P e <;> simp only [hd] at h <;> try (cases h; done)
  · have hund := und_of_desc hd (by simp)
    cases a <;> cases b <;> simp only at h <;> try (cases h; done)
    obtain rfl := rd_bool hu
    obtain rfl := rd_bool hv
    simp only [Option.some.injEq] at h
    rw [← h]
    simp [Op.equalIn,run_underlying hund w]
  · have hund := und_of_desc hd (by simp)
    cases a <;> cases b <;> simp only at h <;> try (cases h; done)
    rename_i k0 k x k' y
    obtain rfl := rd_int hu
    obtain rfl := rd_int hv
    cases hk : k == k' <;> simp only [hk,cond_true,cond_false] at h
    · cases h
    obtain rfl : k = k' := by simpa using hk
    simp only [Option.some.injEq] at h
    rw [← h]
    simp [Op.equalIn,run_underlying hund w]
  · have hund := und_of_desc hd (by simp)
    cases a <;> cases b <;> simp only at h <;> try (cases h; done)
    rename_i k0 k x k' y
    obtain ⟨p,rfl,hx⟩ := rd_flt hu
    obtain ⟨q,rfl,hy⟩ := rd_flt hv
    cases hk : k == k' <;> simp only [hk,cond_true,cond_false] at h
    · cases h
    obtain rfl : k = k' := by simpa using hk
    simp only [Option.some.injEq] at h
    rw [← h,ford_some hx hy]
    simp [Op.equalIn,run_underlying hund w,Op.floatEq]
  · have hund := und_of_desc hd (by simp)
    cases a <;> cases b <;> simp only at h <;> try (cases h; done)
    obtain rfl := rd_str hu
    obtain rfl := rd_str hv
    simp only [Option.some.injEq] at h
    rw [← h]
    simp [Op.equalIn,run_underlying hund w,strEq,beq_toListBytes]

/-- A loop that leaves at the first difference. -/
theorem run_forIn_eq {g : Nat → Option Bool × Unit → Sem (ForInStep (Option Bool × Unit))} (c : List Bool) : ∀ (s : Nat),
    (∀ (j : Nat) b,c[j]? = some b → (g (s + j) (none,())).run P w = .ok (if b then .yield (none,()) else .done (some false,())) w) →
    (forIn (m := Sem) (List.range' s c.length) ((none,()) : Option Bool × Unit) g).run P w = .ok (if c.all id then none else some false,()) w := by
  induction c with
  | nil => intro s _; rfl
  | cons b c ih =>
    intro s hf
    have h0 := hf 0 b rfl
    simp only [Nat.add_zero] at h0
    simp only [List.length_cons,List.range'_succ,List.forIn_cons,Sem.run_bind,h0,Result.andThen_ok]
    cases b
    · simp
    · have := ih (s + 1) (fun j b hj => by have := hf (j + 1) b (by simpa using hj); rwa [show s + (j + 1) = s + 1 + j by omega] at this)
      simpa using this

theorem eqL_bools {m : Option (List Tk)} {d : TypeDesc} : ∀ {cs ds : List AV} {r : Bool},eqL d cs ds = some r →
    ∃ c : List Bool,c.length = cs.length ∧ cs.length = ds.length ∧ r = c.all id ∧ ∀ (j : Nat) b,c[j]? = some b → ∃ x y,cs[j]? = some x ∧ ds[j]? = some y ∧ eq1 d x y = some b
  | [],[],r,h => by simp [eqL] at h; exact ⟨[],rfl,rfl,by simp [← h],by simp⟩
  | [],_ :: _,r,h => by simp [eqL] at h
  | _ :: _,[],r,h => by simp [eqL] at h
  | a :: cs,b :: ds,r,h => by
    simp only [eqL] at h
    cases h1 : eq1 d a b <;> cases h2 : eqL d cs ds <;> simp only [h1,h2] at h <;> try (cases h; done)
    rename_i x y
    obtain ⟨c,e1,e2,e3,e4⟩ := eqL_bools (m := m) h2
    simp only [Option.some.injEq] at h
    refine ⟨x :: c,by simp [e1],by simp [e2],?_,fun j b' hj => ?_⟩
    · rw [← h,e3]; cases x <;> simp
    · cases j with
      | zero => simp at hj; subst hj; exact ⟨a,b,rfl,rfl,h1⟩
      | succ j => simpa using e4 j b' (by simpa using hj)

/-- A loop over a list that leaves at the first difference. -/
theorem run_forIn_L {α : Type} {g : α → Option Bool × Unit → Sem (ForInStep (Option Bool × Unit))} : ∀ (l : List α) (c : List Bool),l.length = c.length →
    (∀ (j : Nat) x b,l[j]? = some x → c[j]? = some b → (g x (none,())).run P w = .ok (if b then .yield (none,()) else .done (some false,())) w) →
    (forIn (m := Sem) l ((none,()) : Option Bool × Unit) g).run P w = .ok (if c.all id then none else some false,()) w
  | [],[],_,_ => rfl
  | [],_ :: _,h,_ => by simp at h
  | _ :: _,[],h,_ => by simp at h
  | x :: l,b :: c,hl,hf => by
    have h0 := hf 0 x b rfl rfl
    simp only [List.forIn_cons,Sem.run_bind,h0,Result.andThen_ok]
    cases b
    · simp
    · have := run_forIn_L l c (by simpa using hl) (fun j x b hx hb => hf (j + 1) x b (by simpa using hx) (by simpa using hb))
      simp only [if_true]
      rw [this]
      simp

theorem eqF_bools {cs ds : List AV} : ∀ {fs : List Field} {r : Bool},eqF P fs cs ds = some r →
    ∃ c : List Bool,fs.length = c.length ∧ r = c.all id ∧ ∀ (j : Nat) f b,fs[j]? = some f → c[j]? = some b →
      (f.name = "_" ∧ b = true) ∨ (f.name ≠ "_" ∧ has P f.type = true ∧ Am.isAg P f.type = false ∧ eq1 (desc P f.type) (cs.getD f.offset .dead) (ds.getD f.offset .dead) = some b)
  | [],r,h => ⟨[],rfl,by simpa [eqF] using h.symm,by simp⟩
  | f :: fs,r,h => by
    simp only [eqF] at h
    by_cases hn : f.name = "_"
    · simp only [hn,decide_true,cond_true] at h
      obtain ⟨c,h1,h2,h3⟩ := eqF_bools h
      refine ⟨true :: c,by simp [h1],by simpa using h2,fun j f' b hf hb => ?_⟩
      cases j with
      | zero => simp at hf hb; subst hf hb; exact .inl ⟨hn,rfl⟩
      | succ j => exact h3 j f' b (by simpa using hf) (by simpa using hb)
    · simp only [hn,decide_false,cond_false] at h
      cases hb : (!(has P f.type) || Am.isAg P f.type) <;> simp only [hb,cond_true,cond_false] at h
      case true => cases h
      simp only [Bool.or_eq_false_iff,Bool.not_eq_false'] at hb
      split at h
      · rename_i x y hx hy
        obtain ⟨c,h1,h2,h3⟩ := eqF_bools hy
        simp only [Option.some.injEq] at h
        refine ⟨x :: c,by simp [h1],by rw [← h,h2]; cases x <;> simp,fun j f' b hf hb' => ?_⟩
        cases j with
        | zero => simp at hf hb'; subst hf hb'; exact .inr ⟨hn,hb.1,hb.2,hx⟩
        | succ j => exact h3 j f' b (by simpa using hf) (by simpa using hb')
      · cases h

theorem eq1_dead {d : TypeDesc} {x : AV} : eq1 d .dead x = none := by unfold eq1; cases d <;> rfl
theorem eq1_dead' {d : TypeDesc} {x : AV} : eq1 d x .dead = none := by unfold eq1; cases d <;> cases x <;> rfl

theorem eqA_ok {m : Option (List Tk)} {t : TypeId} {xs ys : Array Value} {cs ds : List AV} {r : Bool} (hx : Rd w S m (.agg xs) (.agg cs)) (hy : Rd w S m (.agg ys) (.agg ds)) (h : eqA P t cs ds = some r) :
    P.eqGuardType P.depth t = false ∧ ∀ d : Nat,(Op.equalIn (d + 2) t (.agg xs) (.agg ys)).run P w = .ok r w := by
  unfold eqA at h
  cases hg : P.eqGuardType P.depth t <;> simp only [hg,cond_true,cond_false] at h
  case true => cases h
  refine ⟨rfl,fun d => ?_⟩
  cases hd : desc P t <;> simp only [hd] at h <;> try (cases h; done)
  case struct fs =>
    have hund := und_of_desc hd (by simp)
    cases hst : P.stoodInHeld t <;> simp only [hst,cond_true,cond_false] at h
    case true => cases h
    obtain ⟨c,e1,e2,e3⟩ := eqF_bools h
    obtain ⟨vs,hvs,hs,hr⟩ := rd_agg hx
    obtain ⟨vs', hvs', hs', hr'⟩ := rd_agg hy
    simp only [Value.agg.injEq] at hvs hvs'
    subst hvs hvs'
    rw [Op.equalIn]
    simp only [Sem.run_bind,run_underlying hund w,Result.andThen_ok,run_program,hst,Bool.false_eq_true,if_false]
    rw [← Array.forIn_toList,run_forIn_L (P := P) (w := w) fs.toList c e1]
    · subst e2
      cases c.all id <;> rfl
    · intro j f b hf hb
      rcases e3 j f b hf hb with ⟨hn,rfl⟩ | ⟨hn,hh,ha,he⟩
      · simp [hn]
      · have hlt : f.offset < cs.length := by
          rcases Nat.lt_or_ge f.offset cs.length with h' | h'
          · exact h'
          · rw [show cs.getD f.offset .dead = .dead by simp [List.getD,List.getElem?_eq_none h'],eq1_dead] at he
            cases he
        have hlt' : f.offset < ds.length := by
          rcases Nat.lt_or_ge f.offset ds.length with h' | h'
          · exact h'
          · rw [show ds.getD f.offset .dead = .dead by simp [List.getD,List.getElem?_eq_none h'],eq1_dead'] at he
            cases he
        have h1 : xs[f.offset]? = some xs[f.offset] := by simp [hs,hlt]
        have h2 : ys[f.offset]? = some ys[f.offset] := by simp [hs', hlt']
        have g1 : cs[f.offset]? = some (cs.getD f.offset .dead) := by simp [List.getD,hlt]
        have g2 : ds[f.offset]? = some (ds.getD f.offset .dead) := by simp [List.getD,hlt']
        have := eq1_ok (d := d) (hr _ _ _ h1 g1) (hr' _ _ _ h2 g2) he
        simp only [ne_eq,hn,not_false_eq_true,if_true,part,run_ag hh,ha,Sem.run_bind,Result.andThen_ok,Bool.false_eq_true,if_false,h1,h2,Sem.run_pure,this]
        cases b <;> rfl
  rename_i n e
  have hund := und_of_desc hd (by simp)
  cases hb : (!(has P e) || Am.isAg P e || tsz P e != 1 || cs.length != n) <;> simp only [hb,cond_true,cond_false] at h
  case true => cases h
  simp only [Bool.or_eq_false_iff,Bool.not_eq_false', bne_eq_false_iff_eq] at hb
  obtain ⟨⟨⟨he,ha⟩,hsz⟩,hlen⟩ := hb
  obtain ⟨c,e1,e2,e3,e4⟩ := eqL_bools (m := m) h
  obtain ⟨vs,hvs,hs,hr⟩ := rd_agg hx
  obtain ⟨vs', hvs', hs', hr'⟩ := rd_agg hy
  simp only [Value.agg.injEq] at hvs hvs'
  subst hvs hvs'
  rw [Op.equalIn]
  simp only [Sem.run_bind,run_underlying hund w,run_sz he,hsz,Result.andThen_ok]
  rw [Std.Legacy.Range.forIn_eq_forIn_range']
  have hn : [:n].size = c.length := by simp [Std.Legacy.Range.size,e1,hlen]
  rw [hn,run_forIn_eq (P := P) (w := w) c 0]
  · subst e3
    cases c.all id <;> rfl
  · intro j b hj
    obtain ⟨x,y,hx1,hy1,he1⟩ := e4 j b hj
    have hjl : j < cs.length := (List.getElem?_eq_some_iff.1 hx1).1
    have h1 : xs[j]? = some xs[j] := by simp [hs,hjl]
    have h2 : ys[j]? = some ys[j] := by simp [hs', ← e2,hjl]
    have := eq1_ok (d := d) (hr j _ _ h1 hx1) (hr' j _ _ h2 hy1) he1
    simp only [part,run_ag he,ha,Sem.run_bind,Result.andThen_ok,Nat.zero_add,Nat.mul_one,h1,h2,Sem.run_pure,Bool.false_eq_true,if_false,this]
    cases b <;> rfl
end
end Go.Am
end
section
/- The abstract machine: composites; every quiet operation. -/
namespace Go.Am

/-- Rows of cells, one by one. -/
def RL (w : World) (S : Nat → Prop) (m : Option (List Tk)) (arr : Array Value) (l : List AV) : Prop :=
  arr.size = l.length ∧ ∀ (j : Nat) u a,arr[j]? = some u → l[j]? = some a → Rd w S m u a

section
variable {P : Program} {w : World} {S Own : Nat → Prop} {l : List Tk} {h : List Blk}

theorem zmatch_rd {m : Option (List Tk)} {v : Value} {a : AV} (h : zmatch v a = true) : Rd w S m v a := by
  unfold zmatch at h
  split at h
  · simp only [beq_iff_eq] at h; subst h; exact .bool _ _
  · simp only [Bool.and_eq_true,beq_iff_eq] at h; obtain ⟨rfl,rfl⟩ := h; exact .int _ _ _
  · simp only [Bool.and_eq_true,beq_iff_eq] at h; obtain ⟨rfl,rfl⟩ := h; exact .fltS _ _ _
  · rename_i s s'
    simp only [Bool.and_eq_true,beq_iff_eq] at h
    have e : s = s' := by
      have h1 := ByteArray.size_eq_zero_iff.1 h.1
      have h2 := ByteArray.size_eq_zero_iff.1 h.2
      rw [h1,h2]
    subst e; exact .str _ _
  · exact .nilp _
  · exact .nilf _
  · exact .nili _
  · exact .nils _ _ _
  · cases h

theorem zmatch_one {v : Value} {a : AV} (h : zmatch v a = true) : v.oneCell' = true := by
  unfold zmatch at h
  split at h <;> first | rfl | cases h

theorem zmatchL_rl {m : Option (List Tk)} : ∀ {vs : List Value} {as : List AV},zmatchL vs as = true → vs.length = as.length ∧ ∀ (j : Nat) u a,vs[j]? = some u → as[j]? = some a → Rd w S m u a
  | [],[],_ => ⟨rfl,by simp⟩
  | [],_ :: _,h => by simp [zmatchL] at h
  | _ :: _,[],h => by simp [zmatchL] at h
  | v :: vs,a :: as,h => by
    simp only [zmatchL,Bool.and_eq_true] at h
    obtain ⟨h1,h2⟩ := zmatchL_rl (m := m) h.2
    refine ⟨by simp [h1],fun j u b hu hb => ?_⟩
    cases j with
    | zero => simp at hu hb; subst hu hb; exact zmatch_rd h.1
    | succ j => exact h2 j u b (by simpa using hu) (by simpa using hb)

theorem zmatchL_one : ∀ {vs : List Value} {as : List AV},zmatchL vs as = true → ∀ (j : Nat) u,vs[j]? = some u → u.oneCell' = true
  | [],[],_ => by simp
  | [],_ :: _,h => by simp [zmatchL] at h
  | _ :: _,[],h => by simp [zmatchL] at h
  | v :: vs,a :: as,h => by
    simp only [zmatchL,Bool.and_eq_true] at h
    intro j u hu
    cases j with
    | zero => simp at hu; subst hu; exact zmatch_one h.1
    | succ j => exact zmatchL_one h.2 j u (by simpa using hu)

theorem zok_run {m : Option (List Tk)} {t : TypeId} (h : zok P t = true) : ∃ v,(zeroValue t).run P w = .ok v w ∧ RL w S m v.cells (zav P 16 t) := by
  unfold zok at h
  cases hi : P.info? t with
  | none => simp [hi] at h
  | some i =>
    simp only [hi] at h
    cases hz : i.zero with
    | none => simp [hz] at h
    | some v =>
      simp only [hz,Bool.and_eq_true] at h
      obtain ⟨h1,h2⟩ := zmatchL_rl (w := w) (S := S) (m := m) h.1
      refine ⟨v,by simp [zeroValue,typeInfo,hi,hz],by simpa using h1,fun j u a hu ha => h2 j u a (by simpa using hu) ha⟩

theorem rl_cells {m : Option (List Tk)} {v : Value} {a : AV} (h : Rd w S m v a) (hd : isDead a = false) : RL w S m v.cells (cellsOf a) := by
  have one : ∀ (v : Value) (a : AV),Rd w S m v a → v.cells = #[v] → cellsOf a = [a] → RL w S m v.cells (cellsOf a) := by
    intro v a h e1 e2
    rw [e1,e2]
    refine ⟨rfl,fun j u b hu hb => ?_⟩
    cases j with
    | zero => simp at hu hb; subst hu hb; exact h
    | succ j => simp at hb
  cases a
  case dead => simp [isDead] at hd
  case agg cs => obtain ⟨vs,rfl,hs,hr⟩ := rd_agg h; exact ⟨hs,hr⟩
  case bool b => have := rd_bool h; subst this; exact one _ _ h rfl rfl
  case int k n => have := rd_int h; subst this; exact one _ _ h rfl rfl
  case flt k x => obtain ⟨b,rfl,_⟩ := rd_flt h; exact one _ _ h rfl rfl
  case str s => have := rd_str h; subst this; exact one _ _ h rfl rfl
  case nilp => have := rd_nilp h; subst this; exact one _ _ h rfl rfl
  case nilf => have := rd_nilf h; subst this; exact one _ _ h rfl rfl
  case nili => have := rd_nili h; subst this; exact one _ _ h rfl rfl
  case nils sz z => have := rd_nils h; subst this; exact one _ _ h rfl rfl
  case ro => obtain ⟨_,_,_,rfl,_⟩ := rd_ro h; exact one _ _ h rfl rfl
  case rp => obtain ⟨_,_,rfl,_⟩ := rd_rp h; exact one _ _ h rfl rfl
  case own => cases h; exact one _ _ (by constructor <;> assumption) rfl rfl
  case lst => cases h <;> exact one _ _ (by constructor <;> assumption) rfl rfl
  case ptr => cases h; exact one _ _ (by constructor; assumption) rfl rfl
  case ep => cases h; exact one _ _ (by constructor <;> assumption) rfl rfl
  case mp => cases h; exact one _ _ (by constructor; assumption) rfl rfl
  case fn => obtain ⟨_,_,rfl,_⟩ := rd_fn h; exact one _ _ h rfl rfl
  case ifc => obtain ⟨_,rfl,_⟩ := rd_ifc h; exact one _ _ h rfl rfl
  case tup => obtain ⟨_,rfl,_⟩ := rd_tup h; exact one _ _ h rfl rfl

theorem foldl_size (off : Nat) (vs : List Value) : ∀ (i : Nat) (cs : Array Value),((vs.zipIdx i).foldl (fun cs (p : Value × Nat) => cs.setIfInBounds (off + p.2) p.1) cs).size = cs.size := by
  induction vs with
  | nil => intro i cs; rfl
  | cons v vs ih => intro i cs; simp only [List.zipIdx_cons,List.foldl_cons]; rw [ih]; simp

theorem foldl_get (off : Nat) (vs : List Value) : ∀ (i : Nat) (cs : Array Value) (q : Nat),off + i + vs.length ≤ cs.size →
    ((vs.zipIdx i).foldl (fun cs (p : Value × Nat) => cs.setIfInBounds (off + p.2) p.1) cs)[q]? = if off + i ≤ q ∧ q < off + i + vs.length then vs[q - (off + i)]? else cs[q]? := by
  induction vs with
  | nil => intro i cs q _; simp; intro h1 h2; omega
  | cons v vs ih =>
    intro i cs q hle
    simp only [List.zipIdx_cons,List.foldl_cons]
    rw [ih (i + 1) _ q (by simp at hle ⊢; omega)]
    simp only [List.length_cons] at hle ⊢
    by_cases h1 : off + (i + 1) ≤ q ∧ q < off + (i + 1) + vs.length
    · rw [if_pos h1,if_pos (by omega),show q - (off + i) = (q - (off + (i + 1))) + 1 by omega]
      simp
    · rw [if_neg h1]
      by_cases h2 : q = off + i
      · subst h2
        rw [if_pos (by omega)]
        simp [show off + i < cs.size by omega]
      · rw [if_neg (by omega),Array.getElem?_setIfInBounds_ne (by omega)]

theorem splice_get {cs vs : List AV} {off : Nat} (hle : off + vs.length ≤ cs.length) (q : Nat) : (splice cs off vs)[q]? = if off ≤ q ∧ q < off + vs.length then vs[q - off]? else cs[q]? := by
  unfold splice
  by_cases h1 : q < off
  · rw [if_neg (by omega),List.append_assoc,List.getElem?_append_left (by simp; omega),List.getElem?_take,if_pos h1]
  · by_cases h2 : q < off + vs.length
    · rw [if_pos (by omega),List.getElem?_append_left (by simp; omega),List.getElem?_append_right (by simp; omega)]
      congr 1; simp; omega
    · rw [if_neg (by omega),List.getElem?_append_right (by simp; omega),List.getElem?_drop]
      congr 1; simp; omega

theorem splice_len {cs vs : List AV} {off : Nat} (hle : off + vs.length ≤ cs.length) : (splice cs off vs).length = cs.length := by
  unfold splice; simp; omega

theorem spliceFrom_get {off : Nat} {vs : List AV} : ∀ (cs : List AV) (j q : Nat),(spliceFrom off vs j cs)[q]? = (cs[q]?).map fun c => mergeA (Nat.ble off (j + q) && Nat.blt (j + q) (off + vs.length)) (getM vs (j + q - off)) c
  | [],j,q => by simp [spliceFrom]
  | c :: r,j,q => by
    cases q with
    | zero => simp [spliceFrom]
    | succ q =>
      simp only [spliceFrom,List.getElem?_cons_succ,spliceFrom_get r (j + 1) q]
      rw [show j + 1 + q = j + (q + 1) by omega]

theorem spliceM_eq {cs vs : List AV} {off : Nat} (hle : off + vs.length ≤ cs.length) : spliceM cs off vs = splice cs off vs := by
  apply List.ext_getElem?
  intro q
  unfold spliceM
  rw [spliceFrom_get,splice_get hle]
  simp only [Nat.zero_add,mergeA_eq]
  by_cases h : off ≤ q ∧ q < off + vs.length
  · have h1 : (Nat.ble off q && Nat.blt q (off + vs.length)) = true := by simp [h.1,h.2]
    have h2 : q < cs.length := by omega
    rw [if_pos h,h1,List.getElem?_eq_getElem h2,getM_eq (by omega)]
    simp [List.getD,show q - off < vs.length by omega]
  · have h1 : (Nat.ble off q && Nat.blt q (off + vs.length)) = false := by
      cases hb : (Nat.ble off q && Nat.blt q (off + vs.length)) with
      | false => rfl
      | true => simp only [Bool.and_eq_true,Nat.ble_eq,Nat.blt_eq] at hb; exact absurd hb h
    rw [if_neg h,h1]
    cases cs[q]? <;> rfl

theorem rl_splice {m : Option (List Tk)} {arr vs : Array Value} {cs as : List AV} {off : Nat} (h1 : RL w S m arr cs) (h2 : RL w S m vs as) (hle : off + as.length ≤ cs.length) :
    RL w S m (vs.zipIdx.foldl (fun cs (p : Value × Nat) => cs.setIfInBounds (off + p.2) p.1) arr) (splice cs off as) := by
  have e : vs.zipIdx.foldl (fun cs (p : Value × Nat) => cs.setIfInBounds (off + p.2) p.1) arr = (vs.toList.zipIdx 0).foldl (fun cs (p : Value × Nat) => cs.setIfInBounds (off + p.2) p.1) arr := by
    rw [← Array.foldl_toList]; simp
  rw [e]
  refine ⟨by rw [foldl_size,splice_len hle]; exact h1.1,fun j u a hu ha => ?_⟩
  have h3 := h1.1
  have h4 := h2.1
  rw [foldl_get off vs.toList 0 arr j (by simp; omega)] at hu
  rw [splice_get hle] at ha
  simp only [Nat.add_zero,Array.length_toList,h4] at hu
  by_cases hc : off ≤ j ∧ j < off + as.length
  · rw [if_pos hc] at hu ha
    exact h2.2 _ _ _ (by simpa using hu) ha
  · rw [if_neg hc] at hu ha
    exact h1.2 _ _ _ hu ha

theorem fill_ok {m : Option (List Tk)} {pl : Nat → Option (Nat × Nat)} : ∀ (ps : List (Nat × Value)) (qs : List (Nat × AV)) (arr : Array Value) (cs r : List AV),RL w S m arr cs → ps.length = qs.length →
    (∀ (j : Nat) p q,ps[j]? = some p → qs[j]? = some q → p.1 = q.1 ∧ Rd w S m p.2 q.2) → fillA pl cs qs = some r → ∃ arr', Instr.fill pl arr ps = some arr' ∧ RL w S m arr' r
  | [],[],arr,cs,r,h,_,_,hf => by simp [fillA] at hf; subst hf; exact ⟨arr,rfl,h⟩
  | [],_ :: _,_,_,_,_,hl,_,_ => by simp at hl
  | _ :: _,[],_,_,_,_,hl,_,_ => by simp at hl
  | (i,v) :: ps,(i', a) :: qs,arr,cs,r,h,hl,hp,hf => by
    obtain ⟨e,hr⟩ := hp 0 _ _ rfl rfl
    simp only at e hr
    subst e
    simp only [fillA] at hf
    cases hpl : pl i with
    | none => simp [hpl] at hf
    | some os =>
      obtain ⟨off,size⟩ := os
      simp only [hpl] at hf
      cases hb : (isDead a || (cellsOf a).length != size || Nat.blt cs.length (off + size)) <;> simp only [hb,cond_true,cond_false] at hf
      case true => cases hf
      simp only [Bool.or_eq_false_iff,bne_eq_false_iff_eq] at hb
      obtain ⟨⟨hd,hsz⟩,hlt⟩ := hb
      have hlt' : off + size ≤ cs.length := by
        rcases Nat.lt_or_ge cs.length (off + size) with h' | h'
        · rw [← Nat.blt_eq] at h'; rw [h'] at hlt; cases hlt
        · exact h'
      have hc := rl_cells hr hd
      have h3 := h.1
      have h4 := hc.1
      have h5 := rl_splice (off := off) h hc (by omega)
      obtain ⟨arr', h6,h7⟩ := fill_ok ps qs _ _ r h5 (by simpa using hl) (fun j p q hp' hq' => hp (j + 1) p q (by simpa using hp') (by simpa using hq')) hf
      refine ⟨arr', ?_,h7⟩
      simp only [Instr.fill,hpl]
      rw [if_neg (by simp; omega)]
      exact h6
end
end Go.Am
end
section
/- The abstract machine: every quiet operation does what is said. -/
namespace Go.Am
section
variable {P : Program} {w : World} {S Own : Nat → Prop} {l : List Tk} {h : List Blk}


theorem run_equalIn_nn (w : World) (d : Nat) (t e : TypeId) (hu : P.underlying t = some (.pointer e)) : (Op.equalIn (d + 1) t (.pointer none) (.pointer none)).run P w = .ok true w := by
  simp [Op.equalIn,run_underlying hu]
theorem run_equalIn_pn (w : World) (d : Nat) (t e : TypeId) (a : Addr) (hu : P.underlying t = some (.pointer e)) : (Op.equalIn (d + 1) t (.pointer (some a)) (.pointer none)).run P w = .ok false w := by
  simp [Op.equalIn,run_underlying hu]
theorem run_equal_nn (w : World) (t e : TypeId) (hu : P.underlying t = some (.pointer e)) : (Op.equal t (.pointer none) (.pointer none)).run P w = .ok true w := run_equalIn_nn w 9999 t e hu
theorem run_equal_pn (w : World) (t e : TypeId) (a : Addr) (hu : P.underlying t = some (.pointer e)) : (Op.equal t (.pointer (some a)) (.pointer none)).run P w = .ok false w := run_equalIn_pn w 9999 t e a hu
theorem bin_ok {m : Option (List Tk)} {op : BinOp} {t : TypeId} {x y : Value} {a b : AV} {ck : List Bool} {v : AV} (ox oy : Operand) (hx : Rd w S m x a) (hy : Rd w S m y b)
    (hq : qbin P op t a b = (ck,v)) (hc : ∀ c ∈ ck,c = true) : Gives P (do eqGuard op t ox oy x y; binOp op t x y) w (fun u => Rd w S m u v) := by
  have guard : ∀ {x : Value},x ≠ .nilIface → (∀ cs,x ≠ .agg cs) → Gives P (binOp op t x y) w (fun u => Rd w S m u v) → Gives P (do eqGuard op t ox oy x y; binOp op t x y) w (fun u => Rd w S m u v) := by
    intro x h1 h2 h3
    obtain ⟨u,w', h4,h5⟩ := h3
    exact ⟨u,w', by simp [run_eqGuard h1 h2,h4],h5⟩
  cases a
  case int k p =>
    obtain rfl := rd_int hx
    cases b
    case int k' q =>
      obtain rfl := rd_int hy
      refine guard (by simp) (by simp) ?_
      by_cases h1 : op = .shl
      · subst h1
        simp only [qbin,Prod.mk.injEq] at hq
        obtain ⟨rfl,rfl⟩ := hq
        exact shl_ok t (by simpa using hc)
      by_cases h2 : op = .shr
      · subst h2
        simp only [qbin,Prod.mk.injEq] at hq
        obtain ⟨rfl,rfl⟩ := hq
        exact shr_ok t (by simpa using hc)
      have hq' : (bif k == k' then binI op k p q else dn) = (ck,v) := by
        cases op <;> first | exact absurd rfl h1 | exact absurd rfl h2 | exact hq
      cases hk : k == k' <;> simp only [hk,cond_true,cond_false] at hq'
      · exact bad hq' hc
      obtain rfl : k = k' := by simpa using hk
      exact binI_ok t h1 h2 hq' hc
    all_goals exact bad (by cases op <;> exact hq) hc
  case flt k p =>
    obtain ⟨p', rfl,hp⟩ := rd_flt hx
    cases b
    case flt k' q =>
      obtain ⟨q', rfl,hq0⟩ := rd_flt hy
      refine guard (by simp) (by simp) ?_
      have hq' : (bif k == k' then binF op k p q else dn) = (ck,v) := by cases op <;> exact hq
      cases hk : k == k' <;> simp only [hk,cond_true,cond_false] at hq'
      · exact bad hq' hc
      obtain rfl : k = k' := by simpa using hk
      exact binF_ok t hp hq0 hq' hc
    all_goals exact bad (by cases op <;> exact hq) hc
  case str p =>
    obtain rfl := rd_str hx
    cases b
    case str q =>
      obtain rfl := rd_str hy
      refine guard (by simp) (by simp) ?_
      have hq' : binS op p q = (ck,v) := by cases op <;> exact hq
      exact binS_ok t hq' hc
    all_goals exact bad (by cases op <;> exact hq) hc
  case bool p =>
    obtain rfl := rd_bool hx
    cases b
    case bool q =>
      obtain rfl := rd_bool hy
      refine guard (by simp) (by simp) ?_
      cases op
      case eql =>
        simp only [qbin] at hq
        cases hd : desc P t <;> simp only [hd] at hq <;> try exact bad hq hc
        simp only [Prod.mk.injEq] at hq
        obtain ⟨rfl,rfl⟩ := hq
        refine .pure ?_ (.bool _ _)
        simp [binOp,run_equal_bool w t p q (und_of_desc hd (by simp))]
      case neq =>
        simp only [qbin] at hq
        cases hd : desc P t <;> simp only [hd] at hq <;> try exact bad hq hc
        simp only [Prod.mk.injEq] at hq
        obtain ⟨rfl,rfl⟩ := hq
        refine .pure ?_ (.bool _ _)
        simp [binOp,run_equal_bool w t p q (und_of_desc hd (by simp))]
      all_goals exact bad hq hc
    all_goals exact bad (by cases op <;> exact hq) hc
  case agg p =>
    cases b
    case agg q =>
      obtain ⟨xs,rfl,_⟩ := id (rd_agg hx)
      obtain ⟨ys,rfl,_⟩ := id (rd_agg hy)
      cases op
      case eql =>
        simp only [qbin] at hq
        cases he : eqA P t p q <;> simp only [he] at hq
        · exact bad hq hc
        simp only [Prod.mk.injEq] at hq
        obtain ⟨rfl,rfl⟩ := hq
        obtain ⟨h1,h2⟩ := eqA_ok hx hy he
        refine .pure ?_ (.bool _ _)
        rw [Sem.run_bind,run_eqGuard_agg w .eql t ox oy xs ys h1,Result.andThen_ok,run_eql_struct,h2 9998]
        rfl
      case neq =>
        simp only [qbin] at hq
        cases he : eqA P t p q <;> simp only [he] at hq
        · exact bad hq hc
        simp only [Prod.mk.injEq] at hq
        obtain ⟨rfl,rfl⟩ := hq
        obtain ⟨h1,h2⟩ := eqA_ok hx hy he
        refine .pure ?_ (.bool _ _)
        rw [Sem.run_bind,run_eqGuard_agg w .neq t ox oy xs ys h1,Result.andThen_ok,run_neq_struct,h2 9998]
        rfl
      all_goals exact bad hq hc
    all_goals exact bad (by cases op <;> exact hq) hc
  case nilp =>
    obtain rfl := rd_nilp hx
    cases b
    case nilp =>
      obtain rfl := rd_nilp hy
      refine guard (by simp) (by simp) ?_
      cases op
      case eql =>
        simp only [qbin,ptN] at hq
        cases hd : desc P t <;> simp only [hd] at hq <;> try exact bad hq hc
        simp only [Prod.mk.injEq] at hq
        obtain ⟨rfl,rfl⟩ := hq
        refine .pure ?_ (.bool _ _)
        simp [binOp,run_equal_nn w t _ (und_of_desc hd (by simp))]
      case neq =>
        simp only [qbin,ptN] at hq
        cases hd : desc P t <;> simp only [hd] at hq <;> try exact bad hq hc
        simp only [Prod.mk.injEq] at hq
        obtain ⟨rfl,rfl⟩ := hq
        refine .pure ?_ (.bool _ _)
        simp [binOp,run_equal_nn w t _ (und_of_desc hd (by simp))]
      all_goals exact bad hq hc
    all_goals exact bad (by cases op <;> exact hq) hc
  case ptr t0 off0 =>
    cases b
    case nilp =>
      obtain rfl := rd_nilp hy
      obtain ⟨ad,rfl⟩ : ∃ ad,x = .pointer (some ad) := by
        cases hx with
        | ptr _ _ _ b N hm => exact ⟨_,rfl⟩
      refine guard (by simp) (by simp) ?_
      cases op
      case eql =>
        simp only [qbin,ptN] at hq
        cases hd : desc P t <;> simp only [hd] at hq <;> try exact bad hq hc
        simp only [Prod.mk.injEq] at hq
        obtain ⟨rfl,rfl⟩ := hq
        refine .pure ?_ (.bool _ _)
        simp [binOp,run_equal_pn w t _ ad (und_of_desc hd (by simp))]
      case neq =>
        simp only [qbin,ptN] at hq
        cases hd : desc P t <;> simp only [hd] at hq <;> try exact bad hq hc
        simp only [Prod.mk.injEq] at hq
        obtain ⟨rfl,rfl⟩ := hq
        refine .pure ?_ (.bool _ _)
        simp [binOp,run_equal_pn w t _ ad (und_of_desc hd (by simp))]
      all_goals exact bad hq hc
    all_goals exact bad (by cases op <;> exact hq) hc
  all_goals exact bad (by cases op <;> cases b <;> exact hq) hc

theorem rung_of_nan {f : Ieee.Format} {n n' : Nat} (h : (f.read n).isNaN = true) (e : n' % f.signWeight = n % f.signWeight) : (f.read n').isNaN = true := by
  unfold Ieee.Format.read at *
  simp only at *
  rw [e]
  by_cases h1 : n % f.signWeight < f.binade
  · rw [if_pos h1] at h; simp [Ieee.Datum.isNaN] at h
  · rw [if_neg h1] at h ⊢
    by_cases h2 : n % f.signWeight < f.infRung
    · rw [if_pos h2] at h; simp [Ieee.Datum.isNaN] at h
    · rw [if_neg h2] at h ⊢
      by_cases h3 : n % f.signWeight = f.infRung
      · rw [if_pos h3] at h; simp [Ieee.Datum.isNaN] at h
      · rw [if_neg h3]; rfl

theorem neg_nan {k : FloatKind} {b : Nat} (h : isNan k b = true) : isNan k (Op.negFloat k b) = true := by
  refine rung_of_nan (f := k.format) h ?_
  unfold Op.negFloat Ieee.Format.signWeight
  rw [Nat.xor_mod_two_pow,Nat.mod_self,Nat.xor_zero]

theorem un_ok {m : Option (List Tk)} {op : UnOp} {x : Value} {a : AV} {ck : List Bool} {v : AV} (hx : Rd w S m x a) (hq : qun op a = (ck,v)) (hc : ∀ c ∈ ck,c = true) :
    Gives P (Op.unary op x) w (fun u => Rd w S m u v) := by
  cases a
  case int k n =>
    obtain rfl := rd_int hx
    cases op
    case neg => simp only [qun,Prod.mk.injEq] at hq; obtain ⟨rfl,rfl⟩ := hq; exact .pure (by simp [Op.unary,Op.intArith]) (.int _ _ _)
    case xor => simp only [qun,binI,Prod.mk.injEq] at hq; obtain ⟨rfl,rfl⟩ := hq; exact .pure (by simp [Op.unary,Op.intBits]) (.int _ _ _)
    all_goals exact bad hq hc
  case flt k x =>
    obtain ⟨b,rfl,hb⟩ := rd_flt hx
    cases op
    case neg =>
      simp only [qun,Prod.mk.injEq] at hq
      obtain ⟨rfl,rfl⟩ := hq
      refine .pure (u := .float k (Op.negFloat k b)) (by simp [Op.unary]) ?_
      rcases hb with rfl | ⟨rfl,hn⟩
      · exact .fltS _ _ _
      · exact .fltN _ _ _ (neg_nan hn)
    all_goals exact bad hq hc
  case bool b =>
    obtain rfl := rd_bool hx
    cases op
    case not => simp only [qun,Prod.mk.injEq] at hq; obtain ⟨rfl,rfl⟩ := hq; exact .pure (by simp [Op.unary]) (.bool _ _)
    all_goals exact bad hq hc
  all_goals exact bad (by cases op <;> exact hq) hc

theorem conv_ok {m : Option (List Tk)} {s d : TypeId} {x : Value} {a : AV} {ck : List Bool} {v : AV} (hx : Rd w S m x a) (hq : qconv P s d a = (ck,v)) (hc : ∀ c ∈ ck,c = true) :
    Gives P (convert s d x) w (fun u => Rd w S m u v) := by
  unfold qconv at hq
  cases hb : (has P s && has P d) <;> simp only [hb,cond_true,cond_false] at hq
  · exact bad hq hc
  simp only [Bool.and_eq_true] at hb
  obtain ⟨ds,hds⟩ := has_und hb.1
  cases hd : desc P d <;> simp only [hd] at hq <;> (cases a <;> try simp only at hq) <;> try exact bad hq hc
  · rename_i k k' n
    obtain rfl := rd_int hx
    have hu := und_of_desc hd (by simp)
    simp only [Prod.mk.injEq] at hq
    obtain ⟨rfl,rfl⟩ := hq
    refine .pure ?_ (.int _ _ _)
    cases ds <;> simp [convert,run_underlying hds w,run_underlying hu w,Conv.intToInt]
  · rename_i k k' x
    obtain ⟨b,rfl,hb'⟩ := rd_flt hx
    have hu := und_of_desc hd (by simp)
    simp only [Prod.mk.injEq] at hq
    obtain ⟨rfl,rfl⟩ := hq
    have h1 := hc _ (List.mem_singleton.2 rfl)
    rcases hb' with rfl | ⟨rfl,_⟩
    · simp only [Option.bind_some] at h1 ⊢
      obtain ⟨n,hn⟩ := Option.isSome_iff_exists.1 h1
      rw [hn]
      exact .pure (run_convert_float_int w s d k' k b n (by rw [hds]; rfl) hu hn) (.int _ _ _)
    · simp at h1
  · rename_i k k' n
    obtain rfl := rd_int hx
    have hu := und_of_desc hd (by simp)
    simp only [Prod.mk.injEq] at hq
    obtain ⟨rfl,rfl⟩ := hq
    refine .pure ?_ (.fltS _ _ _)
    cases ds <;> simp [convert,run_underlying hds w,run_underlying hu w,Conv.intToFloat]
  · rename_i k k' x
    obtain ⟨b,rfl,hb'⟩ := rd_flt hx
    have hu := und_of_desc hd (by simp)
    cases hk : k == k' <;> simp only [hk,cond_true,cond_false] at hq
    · exact bad hq hc
    obtain rfl : k = k' := by simpa using hk
    simp only [Prod.mk.injEq] at hq
    obtain ⟨rfl,rfl⟩ := hq
    refine .pure (u := .float k b) ?_ hx
    cases ds <;> simp [convert,run_underlying hds w,run_underlying hu w,Conv.floatToFloat]
  · rename_i st
    obtain rfl := rd_str hx
    have hu := und_of_desc hd (by simp)
    simp only [Prod.mk.injEq] at hq
    obtain ⟨rfl,rfl⟩ := hq
    refine .pure ?_ (.str _ _)
    cases ds <;> simp [convert,run_underlying hds w,run_underlying hu w]

theorem len_ok {t : TypeId} {x : Value} {a : AV} {ck : List Bool} {v : AV} (H : HRel w S Own l h) (hx : Rd w S (some l) x a) (hq : qlen P h t a = (ck,v)) (hc : ∀ c ∈ ck,c = true) (ty : TypeId) :
    Gives P (Builtin.len_ #[t] ty #[x]) w (fun u => Rd w S (some l) u v) := by
  unfold qlen at hq
  cases hd : desc P t <;> simp only [hd] at hq <;> try exact bad hq hc
  · have hu := und_of_desc hd (by simp)
    cases a <;> simp only at hq <;> try exact bad hq hc
    obtain rfl := rd_str hx
    simp only [Prod.mk.injEq] at hq
    obtain ⟨rfl,rfl⟩ := hq
    exact .pure (by simp [Builtin.len_,run_underlying hu w,goInt]) (.int _ _ _)
  · have hu := und_of_desc hd (by simp)
    cases a <;> simp only at hq <;> try exact bad hq hc
    · obtain rfl := rd_nils hx
      simp only [Prod.mk.injEq] at hq
      obtain ⟨rfl,rfl⟩ := hq
      exact .pure (by simp [Builtin.len_,run_underlying hu w,goInt]) (.int _ _ _)
    · obtain ⟨base,cap,u,rfl,_⟩ := rd_ro hx
      simp only [Prod.mk.injEq] at hq
      obtain ⟨rfl,rfl⟩ := hq
      exact .pure (by simp [Builtin.len_,run_underlying hu w,goInt]) (.int _ _ _)
    · obtain ⟨b,N,rfl,_⟩ := rd_own hx
      simp only [Prod.mk.injEq] at hq
      obtain ⟨rfl,rfl⟩ := hq
      exact .pure (by simp [Builtin.len_,run_underlying hu w,goInt]) (.int _ _ _)
    · rename_i t' sz
      cases hk : hget h t' <;> simp only [hk] at hq <;> try exact bad hq hc
      simp only [Prod.mk.injEq] at hq
      obtain ⟨rfl,rfl⟩ := hq
      rcases rd_lst hx with ⟨b,N,cap,rfl,hm,_⟩ | ⟨rfl,hm⟩
      · obtain ⟨rfl,_⟩ := H.fl hk hm
        exact .pure (by simp [Builtin.len_,run_underlying hu w,goInt]) (.int _ _ _)
      · obtain ⟨_,rfl⟩ := H.fl0 hk hm
        exact .pure (by simp [Builtin.len_,run_underlying hu w,goInt]) (.int _ _ _)
  · have hu := und_of_desc hd (by simp)
    simp only [Prod.mk.injEq] at hq
    obtain ⟨rfl,rfl⟩ := hq
    exact .pure (by simp [Builtin.len_,run_underlying hu w,goInt]) (.int _ _ _)

theorem pick_ok {m : Option (List Tk)} {x y : Value} {c : Bool} {a b : AV} {ck : List Bool} {v : AV} (hx : c = true → Rd w S m x a) (hy : c = false → Rd w S m y b)
    (hq : qpick (.bool c) a b = (ck,v)) (hc : ∀ c ∈ ck,c = true) : Rd w S m (if c then x else y) v := by
  unfold qpick at hq
  cases a <;> cases b <;> simp only at hq <;> try exact bad hq hc
  · simp only [Prod.mk.injEq] at hq
    obtain ⟨rfl,rfl⟩ := hq
    cases c
    · simpa using hy rfl
    · simpa using hx rfl
  · rename_i k p k' q
    cases hk : k == k' <;> simp only [hk,cond_true,cond_false] at hq
    · exact bad hq hc
    obtain rfl : k = k' := by simpa using hk
    simp only [Prod.mk.injEq] at hq
    obtain ⟨rfl,rfl⟩ := hq
    cases c
    · simpa using hy rfl
    · simpa using hx rfl
  · rename_i k p k' q
    cases hk : k == k' <;> simp only [hk,cond_true,cond_false] at hq
    · exact bad hq hc
    obtain rfl : k = k' := by simpa using hk
    simp only [Prod.mk.injEq] at hq
    obtain ⟨rfl,rfl⟩ := hq
    cases c
    · simpa using hy rfl
    · simpa using hx rfl
  · simp only [Prod.mk.injEq] at hq
    obtain ⟨rfl,rfl⟩ := hq
    cases c
    · simpa using hy rfl
    · simpa using hx rfl
end
end Go.Am
end
section
/- The abstract machine: maps are read. -/
namespace Go.Am

theorem scalL_mem : ∀ {l : List AV},scalL l = true → ∀ (j : Nat) a,l[j]? = some a → scal a = true
  | [],_ => by simp
  | v :: r,h => by
    simp only [scalL,Bool.and_eq_true] at h
    intro j a ha
    cases j with
    | zero => simp at ha; subst ha; exact h.1
    | succ j => exact scalL_mem h.2 j a (by simpa using ha)

theorem scal_rd {w w' : World} {S S' : Nat → Prop} {m m' : Option (List Tk)} {v : Value} {a : AV} (h : Rd w S m v a) (hs : scal a = true) : Rd w' S' m' v a := by
  induction h generalizing m' with
  | bool => exact .bool _ _
  | int => exact .int _ _ _
  | fltS => exact .fltS _ _ _
  | fltN m k b h => exact .fltN _ _ _ h
  | str => exact .str _ _
  | agg m vs cs hsz h ih => exact .agg _ _ _ hsz (fun j u a hu ha => ih j u a hu ha (scalL_mem (by simpa [scal] using hs) j a ha))
  | tup m vs cs hsz h ih => exact .tup _ _ _ hsz (fun j u a hu ha => ih j u a hu ha (scalL_mem (by simpa [scal] using hs) j a ha))
  | _ => simp [scal] at hs

section
variable {P : Program} {w : World} {S Own : Nat → Prop} {l : List Tk} {h : List Blk}

/-- Kinds of keys that are compared at once. -/
def plainKey (d : TypeDesc) : Bool := match d with
  | .string => true
  | .bool => true
  | .int _ => true
  | _ => false

theorem isT_some {b : Bool} : isT (some b) = b := rfl

theorem keyEq_now {m m' : Option (List Tk)} {kt : TypeId} {u v : Value} {a b : AV} {r : Bool} (hd : plainKey (desc P kt) = true) (hu : Rd w S m u a) (hv : Rd w S m' v b) (h : keyEq P kt a b = some r) :
    Instr.sameNow (desc P kt) u v = some r := by
  unfold keyEq at h
  cases hk : desc P kt <;> simp only [hk,plainKey] at h hd <;> try (cases hd; done)
  all_goals
    unfold eq1 at h
    cases a <;> cases b <;> simp only at h <;> try (cases h; done)
  · obtain rfl := rd_bool hu
    obtain rfl := rd_bool hv
    exact h
  · rename_i k0 k x k' y
    obtain rfl := rd_int hu
    obtain rfl := rd_int hv
    cases hk : k == k' <;> simp only [hk,cond_true,cond_false] at h
    · cases h
    obtain rfl : k = k' := by simpa using hk
    simpa [Instr.sameNow] using h
  · obtain rfl := rd_str hu
    obtain rfl := rd_str hv
    rename_i s t
    simp only [Option.some.injEq] at h
    simp only [Instr.sameNow,Option.some.injEq]
    rw [← h]
    unfold strEq
    rw [beq_toListBytes]

theorem keyEq_ask {m : Option (List Tk)} {kt : TypeId} {u v : Value} {a b : AV} {r : Bool} (hd : plainKey (desc P kt) = false) (hu : Rd w S m u a) (hv : Rd w S none v b) (h : keyEq P kt a b = some r) :
    Instr.sameNow (desc P kt) u v = none ∧ (Op.equal kt u v).run P w = .ok r w := by
  unfold keyEq at h
  cases hk : desc P kt <;> simp only [hk,plainKey] at h hd <;> try (cases h; done)
  all_goals try (cases hd; done)
  cases a <;> cases b <;> simp only at h <;> try (cases h; done)
  obtain ⟨xs,rfl,_⟩ := id (rd_agg hu)
  obtain ⟨ys,rfl,_⟩ := id (rd_agg hv)
  refine ⟨by rfl,?_⟩
  exact (eqA_ok hu (hv.none_ (m := m)) h).2 _

def EntsL (w : World) (S : Nat → Prop) (L : List MapEntry) (es : List (AV × AV)) : Prop :=
  L.length = es.length ∧ ∀ (j : Nat) e p,L[j]? = some e → es[j]? = some p → Rd w S none e.key p.1 ∧ Rd w S none e.val p.2

theorem EntsL.tail {e : MapEntry} {p : AV × AV} {L : List MapEntry} {es : List (AV × AV)} (h : EntsL w S (e :: L) (p :: es)) : EntsL w S L es :=
  ⟨by simpa using h.1,fun j e' p' h1 h2 => h.2 (j + 1) e' p' (by simpa using h1) (by simpa using h2)⟩

theorem findNow_ok {m : Option (List Tk)} {kt : TypeId} {k : Value} {a : AV} (hd : plainKey (desc P kt) = true) (hk : Rd w S m k a) : ∀ {L : List MapEntry} {es : List (AV × AV)} {i : Nat},
    EntsL w S L es → mapFit P kt a es = true → ∃ r,Instr.findNow (desc P kt) k L i = some r ∧
      ((findM P kt a es = none ∧ r = none) ∨ ∃ v j u,findM P kt a es = some v ∧ r = some (j,u) ∧ Rd w S none u v)
  | [],es,i,hE,_ => by
    cases es with
    | nil => exact ⟨none,rfl,.inl ⟨rfl,rfl⟩⟩
    | cons => simp [EntsL] at hE
  | e :: L,[],i,hE,_ => by simp [EntsL] at hE
  | e :: L,p :: es,i,hE,hf => by
    have h0 := hE.2 0 e p rfl rfl
    simp only [mapFit,List.all_cons,Bool.and_eq_true] at hf
    obtain ⟨q,hq⟩ := Option.isSome_iff_exists.1 hf.1
    have hs := keyEq_now hd hk h0.1 hq
    simp only [Instr.findNow,hs,findM,hq,isT_some]
    cases q
    · simp only [cond_false]
      exact findNow_ok hd hk hE.tail hf.2
    · exact ⟨_,rfl,.inr ⟨_,_,_,rfl,rfl,h0.2⟩⟩

theorem findAsking_ok {m : Option (List Tk)} {kt : TypeId} {k : Value} {a : AV} (hd : plainKey (desc P kt) = false) (hk : Rd w S m k a) : ∀ {L : List MapEntry} {es : List (AV × AV)} {i : Nat},
    EntsL w S L es → mapFit P kt a es = true → ∃ r,(Instr.findAsking kt k L i).run P w = .ok r w ∧
      ((findM P kt a es = none ∧ r = none) ∨ ∃ v j u,findM P kt a es = some v ∧ r = some (j,u) ∧ Rd w S none u v)
  | [],es,i,hE,_ => by
    cases es with
    | nil => exact ⟨none,rfl,.inl ⟨rfl,rfl⟩⟩
    | cons => simp [EntsL] at hE
  | e :: L,[],i,hE,_ => by simp [EntsL] at hE
  | e :: L,p :: es,i,hE,hf => by
    have h0 := hE.2 0 e p rfl rfl
    simp only [mapFit,List.all_cons,Bool.and_eq_true] at hf
    obtain ⟨q,hq⟩ := Option.isSome_iff_exists.1 hf.1
    have hs := (keyEq_ask hd hk h0.1 hq).2
    simp only [Instr.findAsking,Sem.run_bind,hs,Result.andThen_ok,findM,hq,isT_some]
    cases q
    · simp only [cond_false,Bool.false_eq_true,if_false]
      exact findAsking_ok hd hk hE.tail hf.2
    · exact ⟨_,rfl,.inr ⟨_,_,_,rfl,rfl,h0.2⟩⟩

theorem findKey_ok {m : Option (List Tk)} {kt : TypeId} {k : Value} {a : AV} (hu : P.underlying kt = some (desc P kt)) (hk : Rd w S m k a) {L : List MapEntry} {es : List (AV × AV)}
    (hE : EntsL w S L es) (hf : mapFit P kt a es = true) : ∃ r,(Instr.findKey kt k L).run P w = .ok r w ∧
      ((findM P kt a es = none ∧ r = none) ∨ ∃ v j u,findM P kt a es = some v ∧ r = some (j,u) ∧ Rd w S none u v) := by
  unfold Instr.findKey
  simp only [Sem.run_bind,run_underlying hu w,Result.andThen_ok]
  cases hd : plainKey (desc P kt)
  · cases L with
    | nil =>
      cases es with
      | nil => exact ⟨none,rfl,.inl ⟨rfl,rfl⟩⟩
      | cons => simp [EntsL] at hE
    | cons e L =>
      cases es with
      | nil => simp [EntsL] at hE
      | cons p es =>
        have h0 := hE.2 0 e p rfl rfl
        have hf' := hf
        simp only [mapFit,List.all_cons,Bool.and_eq_true] at hf'
        obtain ⟨q,hq⟩ := Option.isSome_iff_exists.1 hf'.1
        have hs := (keyEq_ask hd hk h0.1 hq).1
        obtain ⟨r,h1,h2⟩ := findAsking_ok (i := 0) hd hk hE hf
        exact ⟨r,by simpa only [Instr.findNow,hs] using h1,h2⟩
  · obtain ⟨r,h1,h2⟩ := findNow_ok (i := 0) hd hk hE hf
    exact ⟨r,by simp only [h1]; rfl,h2⟩


theorem checkKey_ok {m : Option (List Tk)} (e : Bool) (n : Nat) {kt : TypeId} {k : Value} {a : AV} (hu : P.underlying kt = some (desc P kt)) (hk : Rd w S m k a) (ho : keyOk P kt a = true) :
    (Instr.checkKey e (n + 2) kt k).run P w = .ok () w := by
  unfold keyOk at ho
  cases hd : desc P kt <;> simp only [hd] at ho <;> try (cases ho; done)
  case array len el =>
    cases a <;> simp only at ho <;> try (cases ho; done)
    rename_i cs
    simp only [Bool.and_eq_true,Bool.not_eq_true', beq_iff_eq] at ho
    obtain ⟨⟨⟨⟨he,hag⟩,hsz⟩,hlen⟩,hel⟩ := ho
    obtain ⟨vs,rfl,hs,hr⟩ := rd_agg hk
    unfold Instr.checkKey
    simp only [Sem.run_bind,run_underlying hu w,hd,Result.andThen_ok]
    have hue : P.underlying el = some (desc P el) := by
      obtain ⟨d,h⟩ := has_und he
      simp [desc,h]
    have step : ∀ (c : List Nat) , (∀ i ∈ c,i < len) → (forIn (m := Sem) c PUnit.unit fun i (_ : PUnit) => do
        let r ← part el vs (i * (← sizeOf el))
        Instr.checkKey e (n + 1) el r
        pure (ForInStep.yield PUnit.unit)).run P w = .ok PUnit.unit w := by
      intro c
      induction c with
      | nil => intro _; rfl
      | cons i c ih =>
        intro hc
        have hi : i < vs.size := by have := hc i (List.mem_cons_self ..); omega
        have hv : vs[i]? = some vs[i] := Array.getElem?_eq_getElem hi
        have hck : (Instr.checkKey e (n + 1) el vs[i]).run P w = .ok () w := by
          unfold Instr.checkKey
          simp only [Sem.run_bind,run_underlying hue w,Result.andThen_ok]
          cases hde : desc P el <;> simp only [hde] at hel <;> try (cases hel; done)
          all_goals cases vs[i] <;> rfl
        simp only [List.forIn_cons,Sem.run_bind,run_sz he,hsz,Nat.mul_one,part,run_ag he,hag,Result.andThen_ok,Bool.false_eq_true,if_false,hv,Sem.run_pure,hck]
        exact ih (fun j hj => hc j (List.mem_cons_of_mem _ hj))
    rw [Std.Legacy.Range.forIn_eq_forIn_range']
    have := step (List.range' 0 [:len].size) (fun i hi => by
      simp only [List.mem_range'_1] at hi
      have : [:len].size = len := by simp [Std.Legacy.Range.size]
      omega)
    refine (congrArg (fun z => Result.andThen z (fun a w' => Sem.run P (Pure.pure ()) w')) this).trans ?_
    rfl
  all_goals
    unfold Instr.checkKey
    simp only [Sem.run_bind,run_underlying hu w,hd,Result.andThen_ok]
    cases k <;> rfl

theorem HRel.mp {t : Nat} {es : List (AV × AV)} {b N : Nat} (H : HRel w S Own l h) (hk : hget h t = .mp es) (hm : l[t]? = some (some b,N)) :
    N = 0 ∧ ∃ E clk,w.heap[b]? = some (.map E clk) ∧ Ents w S E es ∧ ¬ S b ∧ Own b := by
  have := H.blk t _ _ hm (hget_some hk rfl)
  obtain ⟨b', E,clk,h1,h2,h3,h4,h5⟩ := this
  simp only [Prod.mk.injEq,Option.some.injEq] at h1
  obtain ⟨rfl,rfl⟩ := h1
  exact ⟨rfl,E,clk,h2,h3,h4,h5⟩

theorem rd_mp {v : Value} {t : Nat} (h : Rd w S (some l) v (.mp t)) : ∃ b N,v = .map (some b) ∧ l[t]? = some (some b,N) := by
  cases h with
  | mp _ _ b N hm => exact ⟨b,N,rfl,hm⟩

theorem ents_list {E : Array MapEntry} {es : List (AV × AV)} (h : Ents w S E es) : EntsL w S E.toList es :=
  ⟨by simpa using h.1,fun j e p h1 h2 => h.2 j e p (by simpa using h1) h2⟩

theorem zok1_run {t : TypeId} (h : zok1 P t = true) : ∃ v,(zeroValue t).run P w = .ok v w ∧ Rd w S none v ((zav P 16 t).headD .dead) := by
  unfold zok1 at h
  cases hi : P.info? t with
  | none => simp [hi] at h
  | some i =>
    simp only [hi] at h
    cases hz : i.zero with
    | none => simp [hz] at h
    | some v =>
      simp only [hz] at h
      exact ⟨v,by simp [zeroValue,typeInfo,hi,hz],zmatch_rd h⟩

theorem lookup_ok {t : TypeId} {x i : Value} {a b : AV} {c : Bool} {ck : List Bool} {v : AV} (H : HRel w S Own l h) (hx : Rd w S (some l) x a) (hi : Rd w S (some l) i b) (hq : qlookup P h t a b c = (ck,v)) (hc : ∀ c ∈ ck,c = true) :
    Gives P (Instr.lookup t x i c) w (fun u => Rd w S (some l) u v) := by
  unfold qlookup at hq
  have bad : ∀ {X : Prop},dn = (ck,v) → X := by
    intro X e
    simp only [dn,Prod.mk.injEq] at e
    have := hc false (by rw [← e.1]; simp)
    cases this
  cases hd : desc P t <;> simp only [hd] at hq <;> try exact bad hq
  rename_i kt et
  cases a <;> simp only at hq <;> try exact bad hq
  rename_i t'
  cases hk : hget h t' <;> simp only [hk] at hq <;> try exact bad hq
  rename_i es
  cases hz : zok1 P et <;> simp only [hz,Bool.not_true,Bool.not_false,cond_true,cond_false] at hq
  case false => exact bad hq
  simp only [Prod.mk.injEq] at hq
  obtain ⟨rfl,rfl⟩ := hq
  have k1 := hc _ (List.mem_cons_self ..)
  have k2 := hc _ (List.mem_cons_of_mem _ (List.mem_cons_self ..))
  have k3 := hc _ (List.mem_cons_of_mem _ (List.mem_cons_of_mem _ (List.mem_cons_self ..)))
  obtain ⟨r,N,rfl,hm⟩ := rd_mp hx
  obtain ⟨rfl,E,clk,hb,hE,hnS,hO⟩ := H.mp hk hm
  have hu : P.underlying kt = some (desc P kt) := by
    unfold keyOk at k1
    cases hkt : desc P kt <;> simp only [hkt] at k1 <;> try (cases k1; done)
    all_goals exact und_of_desc hkt (by simp)
  obtain ⟨q,h1,h2⟩ := findKey_ok hu hi (ents_list hE) k2
  have hck := checkKey_ok (P := P) (w := w) (S := S) E.isEmpty 9998 hu hi k1
  obtain ⟨z,hz1,hz2⟩ := zok1_run (w := w) (S := S) hz
  have hund : P.underlying t = some (.map kt et) := und_of_desc hd (by simp)
  have fin : ∀ (u : Value) (f : Bool),Rd w S none u ((findM P kt b es).getD ((zav P 16 et).headD .dead)) → f = (findM P kt b es).isSome → Gives P (Pure.pure (if c then .tuple #[u,.bool f] else u)) w (fun u => Rd w S (some l) u (bif c then .tup [eta1 P et ((findM P kt b es).getD ((zav P 16 et).headD .dead)),.bool (findM P kt b es).isSome] else eta1 P et ((findM P kt b es).getD ((zav P 16 et).headD .dead)))) := by
    intro u f hu hf
    rw [eta1_id k3]
    cases c
    · exact .pure rfl (hu.none_)
    · refine .pure rfl (.tup _ _ _ rfl (fun j u' a' h1 h2 => ?_))
      rcases j with _ | _ | j
      · simp only [List.getElem?_cons_zero,Option.some.injEq] at h1 h2; simp at h1; subst h1 h2; exact hu.none_
      · simp at h1 h2; subst h1 h2; rw [hf]; exact .bool _ _
      · simp at h1
  unfold Gives at fin ⊢
  rcases h2 with ⟨e1,rfl⟩ | ⟨v,j,u,e1,rfl,hr⟩
  · have hz3 : Rd w S none z ((findM P kt b es).getD ((zav P 16 et).headD .dead)) := by rw [e1]; exact hz2
    obtain ⟨u,w', f1,f2,f3,f4,f5,f6⟩ := fin z false hz3 (by rw [e1]; rfl)
    refine ⟨u,w', ?_,f2,f3,f4,f5,f6⟩
    rw [← f1]
    unfold Instr.lookup
    simp only [Sem.run_bind,run_underlying hund w,Result.andThen_ok,MapKept.run_getObj_map (P := P) hb,Sem.run_pure,hck,h1,hz1]
  · have hz3 : Rd w S none u ((findM P kt b es).getD ((zav P 16 et).headD .dead)) := by rw [e1]; exact hr
    obtain ⟨u', w', f1,f2,f3,f4,f5,f6⟩ := fin u true hz3 (by rw [e1]; rfl)
    refine ⟨u', w', ?_,f2,f3,f4,f5,f6⟩
    rw [← f1]
    unfold Instr.lookup
    simp only [Sem.run_bind,run_underlying hund w,Result.andThen_ok,MapKept.run_getObj_map (P := P) hb,Sem.run_pure,hck,h1]
def pushAll (s : ByteArray) (els : List (List AV)) : ByteArray := els.foldl (fun s el => s.push (UInt8.ofNat (toI (el.headD .dead)).toNat)) s

theorem pushAll_eq : ∀ (els : List (List AV)) (s : ByteArray),(pushAll s els).data = s.data ++ (els.map fun el => UInt8.ofNat (toI (el.headD .dead)).toNat).toArray
  | [],s => by simp [pushAll]
  | el :: els,s => by
    have := pushAll_eq els (s.push (UInt8.ofNat (toI (el.headD .dead)).toNat))
    simp only [pushAll,List.foldl_cons] at this ⊢
    rw [this]
    obtain ⟨d⟩ := s
    simp [ByteArray.push]

theorem bytes_loop {g : Value → ByteArray → Sem (ForInStep ByteArray)} (hg : ∀ n s,(g (.int .u8 n) s).run P w = .ok (.yield (s.push (UInt8.ofNat n.toNat))) w) : ∀ (vs : List Value) (els : List (List AV)) (s : ByteArray),vs.length = els.length →
    (∀ (j : Nat) v el,vs[j]? = some v → els[j]? = some el → ∃ n,v = .int .u8 n ∧ el = [.int .u8 n]) → (forIn (m := Sem) vs s g).run P w = .ok (pushAll s els) w
  | [],[],s,_,_ => rfl
  | [],_ :: _,s,h,_ => by simp at h
  | _ :: _,[],s,h,_ => by simp at h
  | v :: vs,el :: els,s,hl,h => by
    obtain ⟨n,rfl,rfl⟩ := h 0 v el rfl rfl
    simp only [List.forIn_cons,Sem.run_bind,hg,Result.andThen_ok]
    rw [bytes_loop hg vs els _ (by simpa using hl) (fun j v el hv he => h (j + 1) v el (by simpa using hv) (by simpa using he))]
    rfl

theorem bytes_ok {s d : TypeId} {x : Value} {a : AV} {ck : List Bool} {v : AV} (H : HRel w S Own l h) (hx : Rd w S (some l) x a) (hq : qbytes P h s d a = (ck,v)) (hc : ∀ c ∈ ck,c = true) :
    Gives P (convert s d x) w (fun u => Rd w S (some l) u v) := by
  unfold qbytes at hq
  have bad : ∀ {X : Prop},dn = (ck,v) → X := by
    intro X e
    simp only [dn,Prod.mk.injEq] at e
    have := hc false (by rw [← e.1]; simp)
    cases this
  split at hq
  · rename_i e hs hd
    split at hq
    · rename_i t sz he
      split at hq
      · rename_i sz' z els hk
        cases hb : (has P s && has P d && has P e && Nat.beq sz 1 && Nat.beq sz' 1) <;> simp only [hb,cond_true,cond_false] at hq
        case false => exact bad hq
        simp only [Bool.and_eq_true] at hb
        obtain ⟨⟨⟨⟨h1,h2⟩,h3⟩,h4⟩,h5⟩ := hb
        obtain rfl := Nat.eq_of_beq_eq_true h4
        obtain rfl := Nat.eq_of_beq_eq_true h5
        simp only [Prod.mk.injEq] at hq
        obtain ⟨rfl,rfl⟩ := hq
        have hf := hc _ (List.mem_singleton.2 rfl)
        have us := und_of_desc hs (by simp)
        have ud := und_of_desc hd (by simp)
        have ue := und_of_desc he (by simp)
        have hrun : (convert s d x).run P w = (Conv.bytesToString x).run P w := by
          unfold convert
          simp only [Sem.run_bind,run_underlying us w,run_underlying ud w,Result.andThen_ok]
          obtain ⟨a,n,c,rfl⟩ : ∃ a n c,x = .slice a n c := by
            cases hx with
            | lst0 => exact ⟨_,_,_,rfl⟩
            | lst => exact ⟨_,_,_,rfl⟩
          simp only [run_underlying ue w,Sem.run_bind,Result.andThen_ok]
        have goal : ∀ r,(Conv.bytesToString x).run P w = .ok (.string r) w → r = bytesOf els → Gives P (convert s d x) w (fun u => Rd w S (some l) u (.str (bytesOf els))) := by
          intro r hr e
          exact .pure (by rw [hrun]; exact hr) (by rw [e]; exact .str _ _)
        cases hx with
        | lst0 _ _ _ hm =>
          obtain ⟨_,rfl⟩ := H.fl0 hk hm
          exact goal ⟨#[]⟩ rfl rfl
        | lst _ _ _ b N cap hm hn hs' =>
          obtain ⟨rfl,c,e', hb,hsz,hE,_,_⟩ := H.fl hk hm
          have hval : ∀ (j : Nat) el,els[j]? = some el → ∃ n,c[j]? = some (.int .u8 n) ∧ el = [.int .u8 n] := by
            intro j el hj
            obtain ⟨k1,k2⟩ := hE j el hj
            have hfe := List.all_eq_true.1 hf el (List.mem_of_getElem? hj)
            match el,k1 with
            | [y],_ =>
              obtain ⟨u,hu,hr⟩ := k2 0 y rfl
              simp only [fitKs] at hfe
              cases y <;> simp [fitK] at hfe
              subst hfe
              obtain rfl := rd_int hr.1
              exact ⟨_,by simpa using hu,rfl⟩
          have hcell : ∀ j,j < els.length → w.cell? ((⟨b,0,none⟩ : Addr).add j) = some (c.getD j undef) := by
            intro j hj
            rw [add_cell,cell_of_heap hb]
            obtain ⟨n,hn,_⟩ := hval j _ (List.getElem?_eq_getElem hj)
            simp [hn]
          have hl := run_loadCells (P := P) w ⟨b,0,none⟩ els.length (fun j => c.getD j undef) hcell
          refine goal (pushAll ⟨#[]⟩ els) ?_ ?_
          · unfold Conv.bytesToString
            simp only [Sem.run_bind,hl,Result.andThen_ok]
            rw [← Array.forIn_toList]
            rw [bytes_loop (P := P) (w := w) (els := els)]
            · rfl
            · intro n s; rfl
            · simp
            · intro j v el hv he'
              obtain ⟨n,hn,e⟩ := hval j el he'
              refine ⟨n,?_,e⟩
              have hj : j < els.length := (List.getElem?_eq_some_iff.1 he').1
              simp [hj] at hv
              rw [← hv]
              simp [hn]
          · have := pushAll_eq els ⟨#[]⟩
            unfold bytesOf
            cases hp : pushAll ⟨#[]⟩ els with
            | mk dd =>
              rw [hp] at this
              simp only [Array.empty_append] at this
              exact congrArg ByteArray.mk this
      · exact bad hq
    · exact bad hq
  · exact bad hq
end
end Go.Am
end
section
/- The abstract machine: every quiet operation does what is said. -/
namespace Go.Am
section
variable {P : Program} {w : World} {S Own : Nat → Prop} {l : List Tk} {h : List Blk}

theorem ints2 {m : Option (List Tk)} {g : Operand → AV} {ρ : Operand → Value} (hg : ∀ x,Rd w S m (ρ x) (g x)) {args : Array Operand} {k k' : IntKind} {x y : Int}
    (h : args.toList.map g = [.int k x,.int k' y]) : args.map ρ = #[.int k x,.int k' y] := by
  obtain ⟨la⟩ := args
  rcases la with _ | ⟨a,_ | ⟨b,_ | ⟨c,r⟩⟩⟩ <;> simp at h
  have h1 := hg a
  have h2 := hg b
  rw [h.1] at h1
  rw [h.2] at h2
  simp [rd_int h1,rd_int h2]

theorem mapM_places {fs : List Field} (hh : ∀ f ∈ fs,has P f.type = true) :
    (fs.mapM (m := Sem) fun f => do pure (f.offset,← sizeOf f.type)).run P w = .ok (fs.map fun f => (f.offset,tsz P f.type)) w := by
  induction fs with
  | nil => rfl
  | cons f fs ih =>
    have h1 := run_sz (P := P) (w := w) (hh f (by simp))
    have h2 := ih (fun f hf => hh f (by simp [hf]))
    simp only [List.mapM_cons,Sem.run_bind,h1,Result.andThen_ok,Sem.run_pure,h2,List.map_cons]

theorem qop_ok {g ga gb : Operand → AV} {ρ : Operand → Value} {o : Oper} {ck : List Bool} {v : AV} (H : HRel w S Own l h) (hg : ∀ x,Rd w S (some l) (ρ x) (g x))
    (hp : ∀ c a b,o.op = .pick c a b → (ρ c = .bool true → Rd w S (some l) (ρ a) (ga a)) ∧ (ρ c = .bool false → Rd w S (some l) (ρ b) (gb b)))
    (hq : qop P h g ga gb o = some (ck,v)) (hc : ∀ c ∈ ck,c = true) : QOk P ρ o w (fun u => Rd w S (some l) u v) := by
  obtain ⟨dst,op,type,pos,after,guard⟩ := o
  cases op with
  | move x =>
    simp only [qop,Option.some.injEq,Prod.mk.injEq] at hq
    obtain ⟨rfl,rfl⟩ := hq
    exact .pure (by simp [execOp]) (typ_rd _ (hg x))
  | assign x =>
    simp only [qop,Option.some.injEq,Prod.mk.injEq] at hq
    obtain ⟨rfl,rfl⟩ := hq
    exact .pure (by simp [execOp]) (typ_rd _ (hg x))
  | pick c a b =>
    simp only [qop,Option.some.injEq] at hq
    have hcv := hg c
    cases hcc : g c with
    | bool t =>
      rw [hcc] at hcv hq
      have e := rd_bool hcv
      obtain ⟨h1,h2⟩ := hp c a b rfl
      refine .pure (u := if t then ρ a else ρ b) (by simp [execOp,e,asBool]) (pick_ok (fun ht => h1 (by rw [e,ht])) (fun ht => h2 (by rw [e,ht])) hq hc)
    | _ => rw [hcc] at hq; exact bad hq hc
  | load t a =>
    simp only [qop,Option.some.injEq] at hq
    exact .of_gives rfl (load_ok H (hg a) hq hc)
  | lookup t x i c =>
    simp only [qop,Option.some.injEq] at hq
    exact .of_gives rfl (lookup_ok H (hg x) (hg i) hq hc)
  | nilCheck x =>
    have hx := hg x
    simp only [qop] at hq
    cases hgx : g x <;> simp only [hgx] at hq hx <;> try (cases hq; done)
    · obtain ⟨a,u,e,_⟩ := id (rd_rp hx)
      simp only [Option.some.injEq,Prod.mk.injEq] at hq
      obtain ⟨rfl,rfl⟩ := hq
      exact .pure (by simp [execOp,e]) (e ▸ hx)
    · obtain ⟨b,N,e,_⟩ := id (rd_ptr hx)
      simp only [Option.some.injEq,Prod.mk.injEq] at hq
      obtain ⟨rfl,rfl⟩ := hq
      exact .pure (by simp [execOp,e]) (e ▸ hx)
    · obtain ⟨b,N,e,_⟩ := id (rd_ep hx)
      simp only [Option.some.injEq,Prod.mk.injEq] at hq
      obtain ⟨rfl,rfl⟩ := hq
      exact .pure (by simp [execOp,e]) (e ▸ hx)
  | binOp op t x y t' =>
    simp only [qop,Option.some.injEq] at hq
    exact .of_gives rfl (bin_ok x y (hg x) (hg y) hq hc)
  | unOp op t x =>
    simp only [qop,Option.some.injEq] at hq
    exact .of_gives rfl (un_ok (hg x) hq hc)
  | convert s d x =>
    simp only [qop] at hq
    have hx := hg x
    cases hgx : g x <;> simp only [hgx] at hq <;> try (cases hq; done)
    · exact .of_gives rfl (conv_ok (hg x) (ck := ck) (v := v) (by simpa [hgx] using hq) hc)
    · exact .of_gives rfl (conv_ok (hg x) (ck := ck) (v := v) (by simpa [hgx] using hq) hc)
    · refine .of_gives rfl (conv_ok (hg x) (ck := ck) (v := v) ?_ hc)
      cases hd : desc P d <;> simp only [hd] at hq <;> try (cases hq; done)
      simpa [hgx] using hq
    · exact .of_gives rfl (bytes_ok H (hg x) (by simpa [hgx] using hq) hc)
  | makeInterface t x =>
    simp only [qop] at hq
    cases hdx : isDead (g x) <;> simp only [hdx,cond_true,cond_false] at hq
    case true => cases hq
    have key : (∃ d,P.underlying t = some d ∧ ∀ ms,d ≠ .interface ms) ∧ ck = [] ∧ v = .ifc t (g x) := by
      cases hd : desc P t <;> simp only [hd] at hq <;> first
        | (cases hq; done)
        | (simp only [Option.some.injEq,Prod.mk.injEq] at hq
           exact ⟨⟨_,und_of_desc hd (by simp),by simp⟩,hq.1.symm,hq.2.symm⟩)
    obtain ⟨⟨d,hu,hn⟩,rfl,rfl⟩ := key
    refine .pure (u := .iface t (ρ x)) ?_ (.ifc _ _ _ _ (hg x))
    cases d <;> first | (exact absurd rfl (hn _)) | simp [execOp,Instr.makeInterface,run_underlying hu w]
  | makeFunc f a b =>
    simp only [qop,Option.some.injEq,Prod.mk.injEq] at hq
    obtain ⟨rfl,rfl⟩ := hq
    refine .pure (u := .func f (a.map ρ) (b.map ρ)) (by simp [execOp,Instr.makeFunc]) ?_
    have one : ∀ (xs : Array Operand) (j : Nat) u y,(xs.map ρ)[j]? = some u → (xs.toList.map g)[j]? = some y → Rd w S (some l) u y := by
      intro xs j u y hu hy
      simp only [Array.getElem?_map,List.getElem?_map,Array.getElem?_toList] at hu hy
      cases hx : xs[j]? with
      | none => simp [hx] at hu
      | some x => simp [hx] at hu hy; subst hu hy; exact hg x
    exact .fn _ _ _ _ _ _ (by simp) (by simp) (one a) (one b)
  | build t ps =>
    simp only [qop] at hq
    cases hz : zok P t <;> simp only [hz,Bool.not_true,Bool.not_false,cond_true,cond_false] at hq
    case false => cases hq
    obtain ⟨z,hz1,hz2⟩ := zok_run (w := w) (S := S) (m := some l) hz
    cases hd : desc P t <;> simp only [hd] at hq <;> try (cases hq; done)
    · rename_i n e
      have hu := und_of_desc hd (by simp)
      cases he : has P e <;> simp only [he,Bool.not_true,Bool.not_false,cond_true,cond_false] at hq
      case false => cases hq
      rw [Option.map_eq_some_iff] at hq
      obtain ⟨cs,hf,hq⟩ := hq
      simp only [Prod.mk.injEq] at hq
      obtain ⟨rfl,rfl⟩ := hq
      obtain ⟨arr,h1,h2⟩ := fill_ok (w := w) (S := S) (m := some l) ((ps.map fun (i,x) => (i,ρ x)).toList) _ z.cells _ _ hz2 (by simp) (fun j p q hp' hq' => by
        simp only [Array.toList_map,List.getElem?_map] at hp' hq'
        cases hx : ps.toList[j]? with
        | none => simp [hx] at hp'
        | some x => simp [hx] at hp' hq'; subst hp' hq'; exact ⟨rfl,typ_rd _ (hg _)⟩) hf
      refine .pure (u := .agg arr) ?_ (.agg _ _ _ h2.1 h2.2)
      simp at h1
      simp [execOp,Instr.build,hz1,run_underlying hu w,run_sz he,h1]
    · rename_i fs
      have hu := und_of_desc hd (by simp)
      cases he : (fs.toList.all fun f => has P f.type) <;> simp only [he,Bool.not_true,Bool.not_false,cond_true,cond_false] at hq
      case false => cases hq
      rw [Option.map_eq_some_iff] at hq
      obtain ⟨cs,hf,hq⟩ := hq
      simp only [Prod.mk.injEq] at hq
      obtain ⟨rfl,rfl⟩ := hq
      obtain ⟨arr,h1,h2⟩ := fill_ok (w := w) (S := S) (m := some l) ((ps.map fun (i,x) => (i,ρ x)).toList) _ z.cells _ _ hz2 (by simp) (fun j p q hp' hq' => by
        simp only [Array.toList_map,List.getElem?_map] at hp' hq'
        cases hx : ps.toList[j]? with
        | none => simp [hx] at hp'
        | some x => simp [hx] at hp' hq'; subst hp' hq'; exact ⟨rfl,typ_rd _ (hg _)⟩) hf
      refine .pure (u := .agg arr) ?_ (.agg _ _ _ h2.1 h2.2)
      have hm := mapM_places (P := P) (w := w) (fs := fs.toList) (List.all_eq_true.1 he)
      have hm' : (fs.mapM (m := Sem) fun f => do pure (f.offset,← sizeOf f.type)).run P w = .ok (fs.map fun f => (f.offset,tsz P f.type)) w := by
        obtain ⟨lf⟩ := fs
        rw [List.mapM_toArray]
        rw [Sem.run_map]
        simp only at hm
        rw [hm]
        simp
      have e : (fun (i : Nat) => (fs[i]?).map fun (f : Field) => (f.offset,tsz P f.type)) = fun (i : Nat) => (fs.map fun (f : Field) => (f.offset,tsz P f.type))[i]? := by
        funext i; simp
      rw [e] at h1
      have ex : (Instr.build t (ps.map fun (i,x) => (i,ρ x))).run P w = .ok (.agg arr) w := by
        unfold Instr.build
        rw [Sem.run_bind,hz1,Result.andThen_ok]
        simp only
        rw [Sem.run_bind,run_underlying hu w,Result.andThen_ok]
        simp only
        rw [Sem.run_bind,hm', Result.andThen_ok,h1]
        rfl
      simp only [execOp,Sem.run_bind,ex,Result.andThen_ok,Sem.run_pure]
  | fieldAddr s x f =>
    simp only [qop] at hq
    cases hf : fieldOf P s f with
    | none => simp [hf] at hq
    | some fl =>
      obtain ⟨fs,hu,hfs⟩ := field_inv hf
      simp only [hf] at hq
      cases hb : (has P fl.type && Nat.blt 0 (tsz P fl.type)) <;> simp only [hb,cond_true,cond_false] at hq
      case false => cases hq
      simp only [Bool.and_eq_true,Nat.blt_eq] at hb
      have hx := hg x
      have place : ∀ a : Addr,ρ x = .pointer (some a) → (execOp ρ { dst,op := .fieldAddr s x f,type,pos,after,guard }).run P w = .ok (.value (.pointer (some (a.add fl.offset)))) w := by
        intro a e
        simp [execOp,Instr.fieldAt,run_underlying hu w,hfs,Instr.sureAddr,fieldPlace,run_sz hb.1,show ¬ tsz P fl.type = 0 by omega,e]
      cases hgx : g x <;> simp only [hgx] at hq hx <;> try (cases hq; done)
      · obtain ⟨a,u,e,hS,hcell,hr⟩ := rd_rp hx
        simp only [Option.some.injEq,Prod.mk.injEq] at hq
        obtain ⟨rfl,rfl⟩ := hq
        exact .pure (place a e) (.rp _ _ _ _ (fun j => u (fl.offset + j)) (by rw [add_block]; exact hS) (fun j hj => by rw [add_add]; exact hcell _ (by omega)) (fun j hj => hr _ (by omega)))
      · obtain ⟨b,N,e,hm⟩ := rd_ptr hx
        simp only [Option.some.injEq,Prod.mk.injEq] at hq
        obtain ⟨rfl,rfl⟩ := hq
        exact .pure (place _ e) (by rw [add_cell]; exact .ptr _ _ _ _ _ hm)
      · rename_i t' sz i j
        obtain ⟨b,N,e,hm,hi,hj⟩ := rd_ep hx
        cases hlt : Nat.blt (j + fl.offset) sz <;> simp only [hlt,cond_true,cond_false] at hq
        case false => cases hq
        simp only [Option.some.injEq,Prod.mk.injEq] at hq
        obtain ⟨rfl,rfl⟩ := hq
        exact .pure (place _ e) (by rw [add_cell,Nat.add_assoc]; exact .ep _ _ _ _ _ _ _ hm hi (by simpa using hlt))
  | field s x f =>
    simp only [qop] at hq
    cases hf : fieldOf P s f with
    | none => simp [hf] at hq
    | some fl =>
      obtain ⟨fs,hu,hfs⟩ := field_inv hf
      simp only [hf] at hq
      cases hb : has P fl.type <;> simp only [hb,cond_true,cond_false] at hq
      case false => cases hq
      have hx := hg x
      cases hgx : g x <;> simp only [hgx] at hq hx <;> try (cases hq; done)
      obtain ⟨vs,e,hs,hr⟩ := rd_agg hx
      simp only [Option.some.injEq] at hq
      obtain ⟨u,w', h1,h2⟩ := part_ok (P := P) hb hs hr hq hc
      exact ⟨u,w', by simp [execOp,Instr.field,run_underlying hu w,hfs,e,asAgg,h1],h2⟩
  | indexAddr t x i =>
    simp only [qop,Option.some.injEq] at hq
    exact .of_gives rfl (idxAddr_ok H (hg x) (hg i) hq hc)
  | index t x i =>
    simp only [qop,Option.some.injEq] at hq
    exact .of_gives rfl (idx_ok (hg x) (hg i) hq hc)
  | slice t x lo hi mx =>
    simp only [qop] at hq
    have hmx : mx = none := by
      cases mx with
      | none => rfl
      | some y => simp [qslice] at hq
    subst hmx
    have lim : ∀ (z : Option Operand),(∀ u,z.map ρ = some u → ∃ a,z.map g = some a ∧ Rd w S (some l) u a) ∧ (z.map ρ = none → z.map g = none) := by
      intro z
      cases z with
      | none => simp
      | some y => simp; exact hg y
    exact .of_gives rfl (slice_ok (hg x) (lim lo).1 (lim lo).2 (lim hi).1 (lim hi).2 rfl rfl hq hc)
  | extract x i =>
    simp only [qop] at hq
    have hx := hg x
    cases hgx : g x <;> simp only [hgx] at hq hx <;> try (cases hq; done)
    rename_i vs
    obtain ⟨us,e,hs,hr⟩ := rd_tup hx
    cases hv : vs[i]? with
    | none => simp [hv] at hq
    | some y =>
      simp only [hv,Option.some.injEq,Prod.mk.injEq] at hq
      obtain ⟨rfl,rfl⟩ := hq
      have hi : i < vs.length := (List.getElem?_eq_some_iff.1 hv).1
      have h1 : us[i]? = some us[i] := by simp [hs,hi]
      exact .pure (u := us[i]) (by simp [execOp,Instr.extract,e,h1]) (hr _ _ _ h1 hv)
  | call c =>
    obtain ⟨callee,args,argTypes⟩ := c
    cases callee with
    | builtin b =>
      cases b with
      | len =>
        simp only [qop] at hq
        obtain ⟨la⟩ := args
        obtain ⟨lt⟩ := argTypes
        match la,lt,hq with
        | [x],[t],hq =>
          simp only [Option.some.injEq] at hq
          obtain ⟨u,w', h1,h2⟩ := len_ok H (hg x) hq hc type
          exact ⟨u,w', by simp [execOp,resolve,invoke,builtin,h1],h2⟩
      | min =>
        simp only [qop] at hq
        split at hq
        · rename_i k x k' y he
          have e := ints2 hg he
          cases hk : k == k' <;> simp only [hk,cond_true,cond_false] at hq
          case false => cases hq
          obtain rfl : k = k' := by simpa using hk
          simp only [Option.some.injEq,Prod.mk.injEq] at hq
          obtain ⟨rfl,rfl⟩ := hq
          refine .pure (u := .int k (if y < x then y else x)) ?_ (.int _ _ _)
          simp [execOp,resolve,invoke,builtin,e,Builtin.min_,Builtin.min2]
        · cases hq
      | max =>
        simp only [qop] at hq
        split at hq
        · rename_i k x k' y he
          have e := ints2 hg he
          cases hk : k == k' <;> simp only [hk,cond_true,cond_false] at hq
          case false => cases hq
          obtain rfl : k = k' := by simpa using hk
          simp only [Option.some.injEq,Prod.mk.injEq] at hq
          obtain ⟨rfl,rfl⟩ := hq
          refine .pure (u := .int k (if y > x then y else x)) ?_ (.int _ _ _)
          simp [execOp,resolve,invoke,builtin,e,Builtin.max_,Builtin.max2]
        · cases hq
      | _ => simp [qop] at hq
    | _ => simp [qop] at hq
  | _ => simp [qop] at hq
end
end Go.Am
end
section
/- The abstract machine: the local heap under changes; freezing. -/
namespace Go.Am
section
variable {P : Program} {w w' : World} {S S' Own : Nat → Prop} {l : List Tk} {h : List Blk}

theorem heap_alloc_lt (w : World) (o : Obj) {b : Nat} (hb : b < w.heap.size) : (w.alloc o).heap[b]? = w.heap[b]? := by
  simp only [World.alloc,Array.getElem?_push]
  rw [if_neg (by omega)]
theorem heap_alloc_at (w : World) (o : Obj) : (w.alloc o).heap[w.heap.size]? = some o := by
  show (w.heap.push o)[w.heap.size]? = some o
  simp
theorem heap_lt {b : Nat} {o : Obj} (h : w.heap[b]? = some o) : b < w.heap.size := (Array.getElem?_eq_some_iff.1 h).1

theorem Pres.alloc (hS : ∀ b,S b → b < w.heap.size) (o : Obj) : Pres S w (w.alloc o) :=
  ⟨fun b hb => heap_alloc_lt w o (hS b hb),fun b c e f hb => ⟨c,f,by rw [heap_alloc_lt w o (heap_lt hb)]; exact hb,rfl⟩⟩

theorem Pres.setRow {g : Nat} {cur cs : Array Value} {e : TypeId} {f : Nat × Nat} (hn : ¬ S g) (hg : w.heap[g]? = some (.cells cur e f)) (hs : cs.size = cur.size) : Pres S w (w.setRow g cs) := by
  refine ⟨fun b hb => setRow_other w g b cs (by rintro rfl; exact hn hb),fun b c e' f' hb => ?_⟩
  by_cases hbg : b = g
  · subst hbg
    rw [hg] at hb
    simp only [Option.some.injEq,Obj.cells.injEq] at hb
    obtain ⟨rfl,rfl,rfl⟩ := hb
    exact ⟨cs,f,setRow_heap w b cur cs e f hg,hs⟩
  · exact ⟨c,f', by rw [setRow_other w g b cs hbg]; exact hb,rfl⟩

theorem Pres.same (hw : w'.heap = w.heap) : Pres S w w' := ⟨fun b _ => by rw [hw],fun b c e f hb => ⟨c,f,by rw [hw]; exact hb,rfl⟩⟩

theorem Els.pres {c : Array Value} {sz : Nat} {els : List (List AV)} (h : Els w S c sz els) (hp : Pres S w w') (hS : ∀ b,S b → S' b) : Els w' S' c sz els := by
  intro i el hi
  obtain ⟨h1,h2⟩ := h i el hi
  refine ⟨h1,fun j a ha => ?_⟩
  obtain ⟨u,hu,hr⟩ := h2 j a ha
  exact ⟨u,hu,hr.pres hp hS trivial⟩

theorem Ents.pres {E : Array MapEntry} {es : List (AV × AV)} (h : Ents w S E es) (hp : Pres S w w') (hS : ∀ b,S b → S' b) : Ents w' S' E es :=
  ⟨h.1,fun j e p he hp' => ⟨(h.2 j e p he hp').1.pres hp hS trivial,(h.2 j e p he hp').2.pres hp hS trivial⟩⟩

theorem BRel.move {l' : List Tk} {x : Tk} {k : Blk} (hk : BRel w S Own l x k) (hp : Pres S w w') (hS : ∀ b,S b → S' b) (hl : ∃ y,l' = l ++ y)
    (hb : ∀ b,x.1 = some b → w'.heap[b]? = w.heap[b]?) (hn : ∀ b,x.1 = some b → ¬ S b → ¬ S' b) : BRel w' S' Own l' x k := by
  cases k with
  | gone => trivial
  | box cs =>
    obtain ⟨b,c,e,rfl,h1,h2,h3,h4,h5⟩ := hk
    exact ⟨b,c,e,rfl,by rw [hb b rfl]; exact h1,h2,fun j u a hu ha => (h3 j u a hu ha).pres hp hS hl,hn b rfl h4,h5⟩
  | fx sz z els =>
    obtain ⟨b,c,e,rfl,h1,h2,h3,h4,h5⟩ := hk
    exact ⟨b,c,e,rfl,by rw [hb b rfl]; exact h1,h2,h3.pres hp hS,hn b rfl h4,h5⟩
  | fl sz z els =>
    rcases hk with hk | ⟨b,c,e,rfl,h1,h2,h3,h4,h5⟩
    · exact .inl hk
    · exact .inr ⟨b,c,e,rfl,by rw [hb b rfl]; exact h1,h2,h3.pres hp hS,hn b rfl h4,h5⟩
  | it s pos => obtain ⟨b,rfl,h1,h4,h5⟩ := hk; exact ⟨b,rfl,by rw [hb b rfl]; exact h1,hn b rfl h4,h5⟩
  | mp es => obtain ⟨b,E,clk,rfl,h1,h2,h4,h5⟩ := hk; exact ⟨b,E,clk,rfl,by rw [hb b rfl]; exact h1,h2.pres hp hS,hn b rfl h4,h5⟩

/-- The heap stands as it was. -/
theorem HRel.same (H : HRel w S Own l h) (hw : w'.heap = w.heap) : HRel w' S Own l h :=
  ⟨H.len,fun t x k hx hk => (H.blk t x k hx hk).move (.same hw) (fun _ h => h) ⟨[],by simp⟩ (fun b _ => by rw [hw]) (fun _ _ h => h),H.inj,fun b hb => by rw [hw]; exact H.bd b hb,
   fun t b N hm => by rw [hw]; exact H.lbd t b N hm,fun b hb => H.own b (by rw [← hw]; exact hb)⟩

theorem append_get {α : Type} {l : List α} {x y : α} {t : Nat} (h : (l ++ [x])[t]? = some y) : l[t]? = some y ∨ (t = l.length ∧ y = x) := by
  rw [List.getElem?_append] at h
  split at h
  · exact .inl h
  · rename_i hlt
    right
    have : t - l.length = 0 := by
      cases hh : t - l.length with
      | zero => rfl
      | succ n => rw [hh] at h; simp at h
    rw [this] at h
    simp at h
    exact ⟨by omega,h.symm⟩

/-- A new block. -/
theorem HRel.push (H : HRel w S Own l h) {o : Obj} {N : Nat} {k : Blk} (hk : BRel (w.alloc o) S Own (l ++ [(some w.heap.size,N)]) (some w.heap.size,N) k) :
    HRel (w.alloc o) S Own (l ++ [(some w.heap.size,N)]) (h ++ [k]) := by
  have hlen := H.len
  refine ⟨by simp [hlen],fun t x k' hx hk' => ?_,?_,fun b hb => ?_,fun t b N' hm => ?_,fun b hb => H.own b ?_⟩
  · rcases append_get hx with hx | ⟨rfl,rfl⟩
    · have hlt : t < l.length := (List.getElem?_eq_some_iff.1 hx).1
      rw [List.getElem?_append_left (by omega)] at hk'
      refine (H.blk t x k' hx hk').move (.alloc H.bd o) (fun _ h => h) ⟨_,rfl⟩ (fun b hb => heap_alloc_lt w o ?_) (fun _ _ h => h)
      obtain ⟨x1,x2⟩ := x
      simp only at hb; subst hb
      exact H.lbd t b x2 hx
    · rw [hlen] at hk'
      simp at hk'
      rw [← hk']; exact hk
  · intro t t' b N1 N2 k1 k2 hm hm' hk1 hk2 l1 l2
    rcases append_get hm with hm | ⟨rfl,e⟩ <;> rcases append_get hm' with hm' | ⟨rfl,e'⟩
    · have h1 : t < l.length := (List.getElem?_eq_some_iff.1 hm).1
      have h2 : t' < l.length := (List.getElem?_eq_some_iff.1 hm').1
      rw [List.getElem?_append_left (by omega)] at hk1 hk2
      exact H.inj t t' b N1 N2 k1 k2 hm hm' hk1 hk2 l1 l2
    · simp only [Prod.mk.injEq,Option.some.injEq] at e'
      have := H.lbd t b N1 hm
      omega
    · simp only [Prod.mk.injEq,Option.some.injEq] at e
      have := H.lbd t' b N2 hm'
      omega
    · rfl
  · have := H.bd b hb; simp; omega
  · rcases append_get hm with hm | ⟨rfl,e⟩
    · have := H.lbd t b N' hm; simp; omega
    · simp only [Prod.mk.injEq,Option.some.injEq] at e; simp; omega
  · simp at hb; omega

/-- A new list that is nil. -/
theorem HRel.pushNil (H : HRel w S Own l h) (sz : Nat) (z : List AV) : HRel w S Own (l ++ [(none,0)]) (h ++ [.fl sz z []]) := by
  have hlen := H.len
  refine ⟨by simp [hlen],fun t x k' hx hk' => ?_,?_,H.bd,fun t b N' hm => ?_,H.own⟩
  · rcases append_get hx with hx | ⟨rfl,rfl⟩
    · have hlt : t < l.length := (List.getElem?_eq_some_iff.1 hx).1
      rw [List.getElem?_append_left (by omega)] at hk'
      exact (H.blk t x k' hx hk').move (.refl _ _) (fun _ h => h) ⟨_,rfl⟩ (fun _ _ => rfl) (fun _ _ h => h)
    · rw [hlen] at hk'
      simp at hk'
      rw [← hk']; exact .inl ⟨rfl,rfl⟩
  · intro t t' b N1 N2 k1 k2 hm hm' hk1 hk2 l1 l2
    rcases append_get hm with hm | ⟨rfl,e⟩ <;> rcases append_get hm' with hm' | ⟨rfl,e'⟩
    · have h1 : t < l.length := (List.getElem?_eq_some_iff.1 hm).1
      have h2 : t' < l.length := (List.getElem?_eq_some_iff.1 hm').1
      rw [List.getElem?_append_left (by omega)] at hk1 hk2
      exact H.inj t t' b N1 N2 k1 k2 hm hm' hk1 hk2 l1 l2
    · simp at e'
    · simp at e
    · rfl
  · rcases append_get hm with hm | ⟨rfl,e⟩
    · exact H.lbd t b N' hm
    · simp at e

theorem hset_get {t t' : Nat} {k k' : Blk} (h' : (hset h t k)[t']? = some k') : (t' = t ∧ k' = k) ∨ (t' ≠ t ∧ h[t']? = some k') := by
  unfold hset at h'
  by_cases e : t' = t
  · subst e
    left
    rw [List.getElem?_set] at h'
    simp only [if_true] at h'
    split at h'
    · simp at h'; exact ⟨rfl,h'.symm⟩
    · cases h'
  · right
    rw [List.getElem?_set_ne (fun e' => e e'.symm)] at h'
    exact ⟨e,h'⟩

/-- What a block holds is written anew. -/
theorem HRel.setBlk (H : HRel w S Own l h) {t b N : Nat} {k k' : Blk} {c c' : Array Value} {e : TypeId} (hm : l[t]? = some (some b,N)) (hk : h[t]? = some k) (hl : k.live = true)
    (hb : w.heap[b]? = some (.cells c e (0,0))) (hs : c'.size = c.size) (hn : ¬ S b) (hk' : BRel (w.setRow b c') S Own l (some b,N) k') : HRel (w.setRow b c') S Own l (hset h t k') := by
  refine ⟨by simp [hset,H.len],fun t' x k1 hx hk1 => ?_,?_,fun b' hb' => by simpa using H.bd b' hb', fun t' b' N' hm' => by simpa using H.lbd t' b' N' hm', fun b' hb' => H.own b' (by simpa using hb')⟩
  · rcases hset_get hk1 with ⟨rfl,rfl⟩ | ⟨hne,hk1⟩
    · rw [hm] at hx
      simp only [Option.some.injEq] at hx
      subst hx
      exact hk'
    · cases hk1l : k1.live with
      | false => cases k1 <;> simp [Blk.live] at hk1l; trivial
      | true =>
        refine (H.blk t' x k1 hx hk1).move (.setRow hn hb hs) (fun _ h => h) ⟨[],by simp⟩ (fun b' hb' => setRow_other w b b' c' ?_) (fun _ _ h => h)
        rintro rfl
        obtain ⟨x1,x2⟩ := x
        simp only at hb'; subst hb'
        exact hne (H.inj t' t b' x2 N k1 k hx hm hk1 hk hk1l hl)
  · intro t1 t2 b' N1 N2 k1 k2 hm1 hm2 hk1 hk2 l1 l2
    have fin : ∀ {t'' : Nat} {k'' : Blk},(hset h t k')[t'']? = some k'' → k''.live = true → ∃ k3,h[t'']? = some k3 ∧ k3.live = true := by
      intro t'' k'' hh hl''
      rcases hset_get hh with ⟨rfl,rfl⟩ | ⟨_,hh⟩
      · exact ⟨k,hk,hl⟩
      · exact ⟨k'', hh,hl''⟩
    obtain ⟨k3,e3,l3⟩ := fin hk1 l1
    obtain ⟨k4,e4,l4⟩ := fin hk2 l2
    exact H.inj t1 t2 b' N1 N2 k3 k4 hm1 hm2 e3 e4 l3 l4

/-- What a block holds is written anew, whatever it is. -/
theorem HRel.setAny (H : HRel w S Own l h) {t b N : Nat} {k k' : Blk} (hm : l[t]? = some (some b,N)) (hk : h[t]? = some k) (hl : k.live = true) (hp : Pres S w w') (hsz : w'.heap.size = w.heap.size)
    (hoth : ∀ b', b' ≠ b → w'.heap[b']? = w.heap[b']?) (hk' : BRel w' S Own l (some b,N) k') : HRel w' S Own l (hset h t k') := by
  refine ⟨by simp [hset,H.len],fun t' x k1 hx hk1 => ?_,?_,fun b' hb' => by rw [hsz]; exact H.bd b' hb', fun t' b' N' hm' => by rw [hsz]; exact H.lbd t' b' N' hm', fun b' hb' => H.own b' (by rw [← hsz]; exact hb')⟩
  · rcases hset_get hk1 with ⟨rfl,rfl⟩ | ⟨hne,hk1⟩
    · rw [hm] at hx
      simp only [Option.some.injEq] at hx
      subst hx
      exact hk'
    · cases hk1l : k1.live with
      | false => cases k1 <;> simp [Blk.live] at hk1l; trivial
      | true =>
        refine (H.blk t' x k1 hx hk1).move hp (fun _ h => h) ⟨[],by simp⟩ (fun b' hb' => hoth b' ?_) (fun _ _ h => h)
        rintro rfl
        obtain ⟨x1,x2⟩ := x
        simp only at hb'; subst hb'
        exact hne (H.inj t' t b' x2 N k1 k hx hm hk1 hk hk1l hl)
  · intro t1 t2 b' N1 N2 k1 k2 hm1 hm2 hk1 hk2 l1 l2
    have fin : ∀ {t'' : Nat} {k'' : Blk},(hset h t k')[t'']? = some k'' → k''.live = true → ∃ k3,h[t'']? = some k3 ∧ k3.live = true := by
      intro t'' k'' hh hl''
      rcases hset_get hh with ⟨rfl,rfl⟩ | ⟨_,hh⟩
      · exact ⟨k,hk,hl⟩
      · exact ⟨k'', hh,hl''⟩
    obtain ⟨k3,e3,l3⟩ := fin hk1 l1
    obtain ⟨k4,e4,l4⟩ := fin hk2 l2
    exact H.inj t1 t2 b' N1 N2 k3 k4 hm1 hm2 e3 e4 l3 l4

/-! ### freezing -/
theorem strike_get (ts : List Nat) : ∀ (h : List Blk) {t : Nat} {k : Blk},(strike ts h)[t]? = some k → k = .gone ∨ (t ∉ ts ∧ h[t]? = some k) := by
  induction ts with
  | nil => intro h t k hk; exact .inr ⟨by simp,hk⟩
  | cons t0 ts ih =>
    intro h t k hk
    have hk' : (strike ts (hset h t0 .gone))[t]? = some k := hk
    rcases ih _ hk' with rfl | ⟨h1,h2⟩
    · exact .inl rfl
    · rcases hset_get h2 with ⟨_,rfl⟩ | ⟨hne,h3⟩
      · exact .inl rfl
      · exact .inr ⟨by simp [hne,h1],h3⟩

theorem strike_len (ts : List Nat) : ∀ (h : List Blk),(strike ts h).length = h.length := by
  induction ts with
  | nil => intro h; rfl
  | cons t ts ih => intro h; show (strike ts (hset h t .gone)).length = _; rw [ih]; simp [hset]

/-- The blocks that are only read once those tokens are struck. -/
def Fz (S : Nat → Prop) (l : List Tk) (h : List Blk) (ts : List Nat) (b : Nat) : Prop :=
  S b ∨ ∃ t ∈ ts,∃ N k,l[t]? = some (some b,N) ∧ h[t]? = some k ∧ k.live = true

theorem HRel.strike (H : HRel w S Own l h) (ts : List Nat) : HRel w (Fz S l h ts) Own l (strike ts h) := by
  refine ⟨by rw [strike_len]; exact H.len,fun t x k hx hk => ?_,?_,fun b hb => ?_,H.lbd,H.own⟩
  · rcases strike_get ts h hk with rfl | ⟨hnt,hk'⟩
    · trivial
    · cases hkl : k.live with
      | false => cases k <;> simp [Blk.live] at hkl; trivial
      | true =>
        refine (H.blk t x k hx hk').move (.refl _ _) (fun _ h => .inl h) ⟨[],by simp⟩ (fun _ _ => rfl) (fun b hb hn => ?_)
        rintro (hS | ⟨t', ht', N', k', hm', hk'', hl'⟩)
        · exact hn hS
        · obtain ⟨x1,x2⟩ := x
          simp only at hb; subst hb
          have := H.inj t t' b x2 N' k k' hx hm' hk' hk'' hkl hl'
          subst this
          exact hnt ht'
  · intro t1 t2 b N1 N2 k1 k2 hm1 hm2 hk1 hk2 l1 l2
    rcases strike_get ts h hk1 with rfl | ⟨_,hk1⟩
    · simp [Blk.live] at l1
    rcases strike_get ts h hk2 with rfl | ⟨_,hk2⟩
    · simp [Blk.live] at l2
    exact H.inj t1 t2 b N1 N2 k1 k2 hm1 hm2 hk1 hk2 l1 l2
  · rcases hb with hb | ⟨t,_,N,k,hm,_⟩
    · exact H.bd b hb
    · exact H.lbd t b N hm

/-- A value as what is only read: it reads so where the blocks that it leads to are only read. -/
theorem frz_rd (H : HRel w S Own l h) (hS : ∀ b,S b → S' b) : ∀ (n : Nat) {v : Value} {a : AV},Rd w S (some l) v a →
    (∀ t ∈ reach h n a,∀ b N k,l[t]? = some (some b,N) → h[t]? = some k → k.live = true → S' b) → Rd w S' none v (frz h n a) := by
  intro n
  induction n with
  | zero => intro v a _ _; exact .dead _ _
  | succ n ih =>
    intro v a hr hq
    have hl : ∀ {xs : List AV},(∀ t ∈ xs.flatMap (reach h n),∀ b N k,l[t]? = some (some b,N) → h[t]? = some k → k.live = true → S' b) → ∀ {us : Array Value},us.size = xs.length →
        (∀ (j : Nat) u a,us[j]? = some u → xs[j]? = some a → Rd w S (some l) u a) → us.size = (xs.map (frz h n)).length ∧ ∀ (j : Nat) u a,us[j]? = some u → (xs.map (frz h n))[j]? = some a → Rd w S' none u a := by
      intro xs hx us hs hh
      refine ⟨by simpa using hs,fun j u a hu ha => ?_⟩
      rw [List.getElem?_map,Option.map_eq_some_iff] at ha
      obtain ⟨a', ha', rfl⟩ := ha
      exact ih (hh j u a' hu ha') (fun t ht => hx t (List.mem_flatMap.2 ⟨a', List.mem_of_getElem? ha', ht⟩))
    cases a with
    | dead => exact .dead _ _
    | mp t => exact .dead _ _
    | bool b => rw [rd_bool hr]; exact .bool _ _
    | int k n => rw [rd_int hr]; exact .int _ _ _
    | flt k x => exact (by cases hr <;> constructor; assumption)
    | str s => rw [rd_str hr]; exact .str _ _
    | nilp => rw [rd_nilp hr]; exact .nilp _
    | nilf => rw [rd_nilf hr]; exact .nilf _
    | nili => rw [rd_nili hr]; exact .nili _
    | nils sz z =>
      rw [rd_nils hr]
      exact .ro _ _ _ _ _ _ _ (fun _ _ => undef) (Nat.le_refl _) (Nat.le_refl _) (fun h => absurd h (by omega)) (fun i j hi => absurd hi (by omega)) (fun i j hi => absurd hi (by omega))
    | ro sz m rd get =>
      obtain ⟨base,cap,u,rfl,hn,hc,hb,hh⟩ := rd_ro hr
      refine .ro _ _ _ _ _ _ _ u hn hc (fun h0 => ?_) (fun i j hi hj => (hh i j hi hj).1.pres (.refl _ _) hS trivial) (fun i j hi hj => (hh i j hi hj).2)
      obtain ⟨a,ha,hSa,hcell⟩ := hb h0
      exact ⟨a,ha,hS _ hSa,hcell⟩
    | rp m get =>
      obtain ⟨a,u,rfl,hSa,hcell,hh⟩ := rd_rp hr
      exact .rp _ _ _ _ u (hS _ hSa) hcell (fun j hj => (hh j hj).pres (.refl _ _) hS trivial)
    | own t off sz m cap =>
      simp only [frz]
      cases hk : hget h t <;> simp only <;> try exact .dead _ _
      rename_i sz' z els
      cases hszz : sz == sz' <;> simp only [cond_true,cond_false]
      · exact .dead _ _
      obtain rfl : sz = sz' := by simpa using hszz
      obtain ⟨b,N,rfl,hm,hn,hN⟩ := rd_own hr
      obtain ⟨rfl,c,e,hb,hsz,hE,_,_⟩ := H.fx hk hm
      have hSb := hq t (by simp [reach]) b _ _ hm (hget_some hk rfl) rfl
      refine .ro _ _ _ _ _ _ _ (fun i j => c.getD ((off + i) * sz + j) undef) hn (Nat.le_refl _) (fun _ => ⟨_,rfl,hSb,fun i j hi hj => ?_⟩) (fun i j hi hj => ?_) (fun i j hi hj => ?_)
      · obtain ⟨u,hu,_⟩ := els_cell (z := z) hE (show off + i < els.length by omega) hj
        rw [add_cell,cell_of_heap hb,show off * sz + (i * sz + j) = (off + i) * sz + j by rw [Nat.add_mul,Nat.add_assoc],hu]
        simp [hu]
      · obtain ⟨u,hu,hr', _⟩ := els_cell (z := z) hE (show off + i < els.length by omega) hj
        simp only [Array.getD_eq_getD_getElem?,hu,Option.getD_some]
        exact hr'.1.pres (.refl _ _) hS trivial
      · obtain ⟨u,hu,hr', _⟩ := els_cell (z := z) hE (show off + i < els.length by omega) hj
        simp only [Array.getD_eq_getD_getElem?,hu,Option.getD_some]
        exact hr'.2
    | lst t sz =>
      simp only [frz]
      cases hk : hget h t <;> simp only <;> try exact .dead _ _
      rename_i sz' z els
      cases hszz : sz == sz' <;> simp only [cond_true,cond_false]
      · exact .dead _ _
      obtain rfl : sz = sz' := by simpa using hszz
      rcases rd_lst hr with ⟨b,N,cap,rfl,hm,hn,_⟩ | ⟨rfl,hm⟩
      · obtain ⟨rfl,c,e,hb,hsz,hE,_,_⟩ := H.fl hk hm
        have hSb := hq t (by simp [reach]) b _ _ hm (hget_some hk rfl) rfl
        refine .ro _ _ _ _ _ _ _ (fun i j => c.getD (i * sz + j) undef) (Nat.le_refl _) hn (fun _ => ⟨_,rfl,hSb,fun i j hi hj => ?_⟩) (fun i j hi hj => ?_) (fun i j hi hj => ?_)
        · obtain ⟨u,hu,_⟩ := els_cell (z := z) hE hi hj
          rw [add_cell,cell_of_heap hb,Nat.zero_add,hu]
          simp [hu]
        · obtain ⟨u,hu,hr', _⟩ := els_cell (z := z) hE hi hj
          simp only [Array.getD_eq_getD_getElem?,hu,Option.getD_some]
          exact hr'.1.pres (.refl _ _) hS trivial
        · obtain ⟨u,hu,hr', _⟩ := els_cell (z := z) hE hi hj
          simp only [Array.getD_eq_getD_getElem?,hu,Option.getD_some]
          exact hr'.2
      · obtain ⟨_,rfl⟩ := H.fl0 hk hm
        exact .ro _ _ _ _ _ _ _ (fun _ _ => undef) (Nat.le_refl _) (Nat.le_refl _) (fun h => absurd h (by simp)) (fun i j hi => absurd hi (by simp)) (fun i j hi => absurd hi (by simp))
    | ptr t off =>
      simp only [frz]
      cases hk : hget h t <;> simp only <;> try exact .dead _ _
      rename_i cs
      obtain ⟨b,N,rfl,hm⟩ := rd_ptr hr
      obtain ⟨rfl,c,e,hb,hsz,hE,_,_⟩ := H.box hk hm
      have hSb := hq t (by simp [reach]) b _ _ hm (hget_some hk rfl) rfl
      refine .rp _ _ _ _ (fun j => c.getD (off + j) undef) hSb (fun j hj => ?_) (fun j hj => ?_)
      · rw [add_cell,cell_of_heap hb]
        simp [show off + j < c.size by omega]
      · have h1 : c[off + j]? = some (c.getD (off + j) undef) := by simp [show off + j < c.size by omega]
        have h2 : cs[off + j]? = some (cs.getD (off + j) .dead) := by simp [List.getD,show off + j < cs.length by omega]
        have h3 : (cs.map (frz h n)).getD (off + j) .dead = frz h n (cs.getD (off + j) .dead) := by simp [List.getD,show off + j < cs.length by omega]
        rw [h3]
        exact ih (hE _ _ _ h1 h2) (fun t' ht' => hq t' (by simp only [reach,hk,List.mem_cons,List.mem_flatMap]; exact .inr ⟨_,List.mem_of_getElem? h2,ht'⟩))
    | ep t sz i j =>
      simp only [frz]
      obtain ⟨b,N,rfl,hm,hi,hj⟩ := rd_ep hr
      have fin : ∀ (z : List AV) (els : List (List AV)) (c : Array Value) (e : TypeId),w.heap[b]? = some (.cells c e (0,0)) → Els w S c sz els → i < els.length → S' b →
          Rd w S' none (.pointer (some ⟨b,i * sz + j,none⟩)) (.rp (sz - j) (fun q => (els.getD i z).getD (j + q) .dead)) := by
        intro z els c e hb hE hi hSb
        refine .rp _ _ _ _ (fun q => c.getD (i * sz + (j + q)) undef) hSb (fun q hq => ?_) (fun q hq => ?_)
        · obtain ⟨u,hu,_⟩ := els_cell (z := z) hE hi (show j + q < sz by omega)
          rw [add_cell,cell_of_heap hb,Nat.add_assoc,hu]
          simp [hu]
        · obtain ⟨u,hu,hr', _⟩ := els_cell (z := z) hE hi (show j + q < sz by omega)
          simp only [Array.getD_eq_getD_getElem?,hu,Option.getD_some]
          exact hr'.1.pres (.refl _ _) hS trivial
      cases hk : hget h t <;> simp only <;> try exact .dead _ _
      · rename_i sz' z els
        cases hszz : sz == sz' <;> simp only [cond_true,cond_false]
        · exact .dead _ _
        obtain rfl : sz = sz' := by simpa using hszz
        obtain ⟨rfl,c,e,hb,hsz,hE,_,_⟩ := H.fx hk hm
        exact fin z els c e hb hE hi (hq t (by simp [reach]) b _ _ hm (hget_some hk rfl) rfl)
      · rename_i sz' z els
        cases hszz : sz == sz' <;> simp only [cond_true,cond_false]
        · exact .dead _ _
        obtain rfl : sz = sz' := by simpa using hszz
        obtain ⟨rfl,c,e,hb,hsz,hE,_,_⟩ := H.fl hk hm
        exact fin z els c e hb hE hi (hq t (by simp [reach]) b _ _ hm (hget_some hk rfl) rfl)
    | fn f fs cs =>
      obtain ⟨first,captured,rfl,hf,hc,h1,h2⟩ := rd_fn hr
      obtain ⟨e1,e2⟩ := hl (fun t ht => hq t (by simp only [reach,List.mem_append]; exact .inl ht)) hf h1
      obtain ⟨e3,e4⟩ := hl (fun t ht => hq t (by simp only [reach,List.mem_append]; exact .inr ht)) hc h2
      exact .fn _ _ _ _ _ _ e1 e3 e2 e4
    | ifc ty x =>
      obtain ⟨u,rfl,hu⟩ := rd_ifc hr
      exact .ifc _ _ _ _ (ih hu (fun t ht => hq t (by simpa [reach] using ht)))
    | agg cs =>
      obtain ⟨vs,rfl,hs,hh⟩ := rd_agg hr
      obtain ⟨e1,e2⟩ := hl (fun t ht => hq t (by simpa [reach] using ht)) hs hh
      exact .agg _ _ _ e1 e2
    | tup cs =>
      obtain ⟨vs,rfl,hs,hh⟩ := rd_tup hr
      obtain ⟨e1,e2⟩ := hl (fun t ht => hq t (by simpa [reach] using ht)) hs hh
      exact .tup _ _ _ e1 e2

/-- Struck tokens: the value is only read from then on. -/
theorem frz_strike (H : HRel w S Own l h) {n : Nat} {v : Value} {a : AV} {ts : List Nat} (hr : Rd w S (some l) v a) (hts : ∀ t ∈ reach h n a,t ∈ ts) : Rd w (Fz S l h ts) none v (frz h n a) :=
  frz_rd H (fun _ hb => .inl hb) n hr fun t ht _ N k hm hk hl => .inr ⟨t,hts t ht,N,k,hm,hk,hl⟩
end
end Go.Am
end
section
/- The abstract machine: rows of elements. -/
namespace Go.Am

/-- Cells, element by element. -/
def Seg (w : World) (S : Nat → Prop) (sz : Nat) (vals : List Value) (els : List (List AV)) : Prop :=
  vals.length = els.length * sz ∧ ∀ (i : Nat) el,els[i]? = some el → el.length = sz ∧ ∀ (j : Nat) a,el[j]? = some a → ∃ u,vals[i * sz + j]? = some u ∧ RdC w S u a

section
variable {P : Program} {w w' : World} {S S' Own : Nat → Prop} {l : List Tk} {h : List Blk} {sz : Nat}

theorem idx_lt {i j n sz : Nat} (hi : i < n) (hj : j < sz) : i * sz + j < n * sz := by
  have h1 : (i + 1) * sz ≤ n * sz := Nat.mul_le_mul_right _ hi
  have h2 : (i + 1) * sz = i * sz + sz := Nat.succ_mul i sz
  omega

theorem Seg.append {va vb : List Value} {ea eb : List (List AV)} (ha : Seg w S sz va ea) (hb : Seg w S sz vb eb) : Seg w S sz (va ++ vb) (ea ++ eb) := by
  have h1 := ha.1
  have h2 := hb.1
  refine ⟨by simp [h1,h2,Nat.add_mul],fun i el hi => ?_⟩
  rw [List.getElem?_append] at hi
  split at hi
  · rename_i hlt
    obtain ⟨h3,h4⟩ := ha.2 i el hi
    refine ⟨h3,fun j a hj => ?_⟩
    obtain ⟨u,hu,hr⟩ := h4 j a hj
    exact ⟨u,by rw [List.getElem?_append_left (List.getElem?_eq_some_iff.1 hu).1]; exact hu,hr⟩
  · rename_i hge
    obtain ⟨h3,h4⟩ := hb.2 _ el hi
    refine ⟨h3,fun j a hj => ?_⟩
    obtain ⟨u,hu,hr⟩ := h4 j a hj
    have hge' : ea.length ≤ i := Nat.le_of_not_lt hge
    have e : i * sz = ea.length * sz + (i - ea.length) * sz := by rw [← Nat.add_mul]; congr 1; omega
    refine ⟨u,?_,hr⟩
    rw [List.getElem?_append_right (by rw [h1]; omega),h1,show i * sz + j - ea.length * sz = (i - ea.length) * sz + j by omega]
    exact hu

theorem Seg.nil : Seg w S sz [] [] := ⟨by simp,by simp⟩

theorem Seg.els {vals rest : List Value} {els : List (List AV)} (h : Seg w S sz vals els) : Els w S (vals ++ rest).toArray sz els := by
  intro i el hi
  obtain ⟨h1,h2⟩ := h.2 i el hi
  refine ⟨h1,fun j a hj => ?_⟩
  obtain ⟨u,hu,hr⟩ := h2 j a hj
  exact ⟨u,by rw [List.getElem?_toArray,List.getElem?_append_left (List.getElem?_eq_some_iff.1 hu).1]; exact hu,hr⟩

theorem Els.seg {c : Array Value} {els : List (List AV)} (h : Els w S c sz els) (hc : els.length * sz ≤ c.size) : Seg w S sz (c.toList.take (els.length * sz)) els := by
  refine ⟨by simp; omega,fun i el hi => ?_⟩
  obtain ⟨h1,h2⟩ := h i el hi
  refine ⟨h1,fun j a hj => ?_⟩
  obtain ⟨u,hu,hr⟩ := h2 j a hj
  have hi' : i < els.length := (List.getElem?_eq_some_iff.1 hi).1
  have hj' : j < sz := by rw [← h1]; exact (List.getElem?_eq_some_iff.1 hj).1
  exact ⟨u,by rw [List.getElem?_take,if_pos (idx_lt hi' hj')]; simpa using hu,hr⟩

theorem Seg.take {vals : List Value} {els : List (List AV)} (h : Seg w S sz vals els) (k : Nat) (hk : k ≤ els.length) : Seg w S sz (vals.take (k * sz)) (els.take k) := by
  have h0 := h.1
  have h5 : k * sz ≤ els.length * sz := Nat.mul_le_mul_right _ hk
  refine ⟨by simp [Nat.min_eq_left hk]; omega,fun i el hi => ?_⟩
  rw [List.getElem?_take] at hi
  split at hi
  · rename_i hlt
    obtain ⟨h1,h2⟩ := h.2 i el hi
    refine ⟨h1,fun j a hj => ?_⟩
    obtain ⟨u,hu,hr⟩ := h2 j a hj
    have hj' : j < sz := by rw [← h1]; exact (List.getElem?_eq_some_iff.1 hj).1
    exact ⟨u,by rw [List.getElem?_take,if_pos (idx_lt hlt hj')]; exact hu,hr⟩
  · cases hi

theorem Seg.drop {vals : List Value} {els : List (List AV)} (h : Seg w S sz vals els) (k : Nat) (_ : k ≤ els.length) : Seg w S sz (vals.drop (k * sz)) (els.drop k) := by
  have h0 := h.1
  refine ⟨by simp [h0,Nat.sub_mul],fun i el hi => ?_⟩
  rw [List.getElem?_drop] at hi
  obtain ⟨h1,h2⟩ := h.2 _ el hi
  refine ⟨h1,fun j a hj => ?_⟩
  obtain ⟨u,hu,hr⟩ := h2 j a hj
  exact ⟨u,by rw [List.getElem?_drop,← Nat.add_assoc,← Nat.add_mul]; exact hu,hr⟩

theorem Seg.pres {vals : List Value} {els : List (List AV)} (h : Seg w S sz vals els) (hp : Pres S w w') (hS : ∀ b,S b → S' b) : Seg w' S' sz vals els := by
  refine ⟨h.1,fun i el hi => ?_⟩
  obtain ⟨h1,h2⟩ := h.2 i el hi
  refine ⟨h1,fun j a hj => ?_⟩
  obtain ⟨u,hu,hr⟩ := h2 j a hj
  exact ⟨u,hu,hr.pres hp hS trivial⟩

/-- As many elements, each the same. -/
theorem Seg.replicate {vs : List Value} {z : List AV} (h1 : vs.length = sz) (h2 : z.length = sz) (h3 : ∀ (j : Nat) u a,vs[j]? = some u → z[j]? = some a → RdC w S u a) (n : Nat) :
    Seg w S sz ((List.range (n * sz)).map fun i => vs.getD (i % sz) undef) (List.replicate n z) := by
  refine ⟨by simp,fun i el hi => ?_⟩
  rw [List.getElem?_replicate] at hi
  split at hi
  · rename_i hlt
    simp only [Option.some.injEq] at hi
    subst hi
    refine ⟨h2,fun j a hj => ?_⟩
    have hj' : j < sz := by rw [← h2]; exact (List.getElem?_eq_some_iff.1 hj).1
    refine ⟨vs.getD j undef,?_,h3 j _ _ (by simp [List.getD,show j < vs.length by omega]) hj⟩
    rw [List.getElem?_map,List.getElem?_range (idx_lt hlt hj')]
    simp only [Option.map_some,Option.some.injEq]
    rw [Nat.mul_comm,Nat.mul_add_mod,Nat.mod_eq_of_lt hj']
  · cases hi

/-- One element written anew. -/
theorem Seg.set {vals : List Value} {els : List (List AV)} (h : Seg w S sz vals els) {i off : Nat} {us : List Value} {as el : List AV} (hi : els[i]? = some el) (hl : us.length = as.length) (hle : off + as.length ≤ sz)
    (hr : ∀ (j : Nat) u a,us[j]? = some u → as[j]? = some a → RdC w S u a) : Seg w S sz (vals.take (i * sz + off) ++ us ++ vals.drop (i * sz + off + us.length)) (els.set i (splice el off as)) := by
  have h0 := h.1
  have hi' : i < els.length := (List.getElem?_eq_some_iff.1 hi).1
  have hsz : i * sz + sz ≤ els.length * sz := by rw [← Nat.succ_mul]; exact Nat.mul_le_mul_right _ hi'
  have hel := (h.2 i el hi).1
  have get : ∀ q,(vals.take (i * sz + off) ++ us ++ vals.drop (i * sz + off + us.length))[q]? = if i * sz + off ≤ q ∧ q < i * sz + off + us.length then us[q - (i * sz + off)]? else vals[q]? := by
    intro q
    by_cases h1 : q < i * sz + off
    · rw [if_neg (by omega),List.append_assoc,List.getElem?_append_left (by simp; omega),List.getElem?_take,if_pos h1]
    · by_cases h2 : q < i * sz + off + us.length
      · rw [if_pos (by omega),List.getElem?_append_left (by simp; omega),List.getElem?_append_right (by simp; omega)]
        congr 1; simp; omega
      · rw [if_neg (by omega),List.getElem?_append_right (by simp; omega),List.getElem?_drop]
        congr 1; simp; omega
  refine ⟨by simp; omega,fun k ek hk => ?_⟩
  by_cases hki : k = i
  · subst hki
    rw [List.getElem?_set_self hi'] at hk
    simp only [Option.some.injEq] at hk
    subst hk
    refine ⟨by rw [splice_len (by omega)]; exact hel,fun j a hj => ?_⟩
    rw [splice_get (by omega)] at hj
    split at hj
    · rename_i hc
      have hju : j - off < us.length := by omega
      refine ⟨us[j - off],?_,hr _ _ _ (List.getElem?_eq_getElem hju) hj⟩
      rw [get,if_pos (by omega),show k * sz + j - (k * sz + off) = j - off by omega,List.getElem?_eq_getElem hju]
    · rename_i hc
      obtain ⟨u,hu,hr'⟩ := (h.2 k el hi).2 j a hj
      exact ⟨u,by rw [get,if_neg (by omega)]; exact hu,hr'⟩
  · rw [List.getElem?_set_ne (fun e => hki e.symm)] at hk
    obtain ⟨h1,h2⟩ := h.2 k ek hk
    refine ⟨h1,fun j a hj => ?_⟩
    obtain ⟨u,hu,hr'⟩ := h2 j a hj
    have hj' : j < sz := by rw [← h1]; exact (List.getElem?_eq_some_iff.1 hj).1
    refine ⟨u,?_,hr'⟩
    rw [get,if_neg]
    · exact hu
    · rintro ⟨c1,c2⟩
      rcases Nat.lt_or_gt_of_ne hki with hlt | hgt
      · have := idx_lt hlt hj'
        omega
      · have : (i + 1) * sz ≤ k * sz := Nat.mul_le_mul_right _ hgt
        rw [Nat.succ_mul] at this
        omega

/-- Elements out of what is read. -/
theorem Seg.rows {n : Nat} {u : Nat → Nat → Value} {get : Nat → Nat → AV} (hr : ∀ i j,i < n → j < sz → RdC w S (u i j) (get i j)) (hpos : 0 < sz) :
    Seg w S sz ((List.range (n * sz)).map fun q => u (q / sz) (q % sz)) (rows sz n get) := by
  refine ⟨by simp [Am.rows],fun i el hi => ?_⟩
  unfold Am.rows at hi
  rw [List.getElem?_map,Option.map_eq_some_iff] at hi
  obtain ⟨i', hi', rfl⟩ := hi
  have hlt : i < n := by have := (List.getElem?_eq_some_iff.1 hi').1; simpa using this
  rw [List.getElem?_range hlt] at hi'
  simp only [Option.some.injEq] at hi'
  subst hi'
  refine ⟨by simp,fun j a hj => ?_⟩
  rw [List.getElem?_map,Option.map_eq_some_iff] at hj
  obtain ⟨j', hj', rfl⟩ := hj
  have hjlt : j < sz := by have := (List.getElem?_eq_some_iff.1 hj').1; simpa using this
  rw [List.getElem?_range hjlt] at hj'
  simp only [Option.some.injEq] at hj'
  subst hj'
  refine ⟨u i j,?_,hr i j hlt hjlt⟩
  rw [List.getElem?_map,List.getElem?_range (idx_lt hlt hjlt)]
  simp only [Option.map_some,Option.some.injEq]
  rw [Nat.mul_comm,Nat.mul_add_div hpos,Nat.div_eq_of_lt hjlt,Nat.mul_add_mod,Nat.mod_eq_of_lt hjlt,Nat.add_zero]

theorem frz_ptr {n t off sz' m rd : Nat} {get : Nat → Nat → AV} : frz h (n + 1) (.ptr t off) ≠ .ro sz' m rd get := by
  show (match hget h t with
      | .box cs => AV.rp (cs.length - off) (fun j => (cs.map (frz h n)).getD (off + j) .dead)
      | _ => .dead) ≠ _
  cases hget h t <;> simp

/-- What is appended, or copied: its cells. -/
theorem src_ok {n rd : Nat} {x : Value} {a : AV} {get : Nat → Nat → AV} (H : HRel w S Own l h) (hx : Rd w S (some l) x a) (hf : frz h 4 a = .ro sz n rd get) :
    ∃ (base : Option Addr) (cap : Nat) (u : Nat → Nat → Value),x = .slice base n cap ∧ (0 < n → ∃ ad,base = some ad ∧ ∀ i j,i < n → j < sz → w.cell? (ad.add (i * sz + j)) = some (u i j)) ∧
      ∀ i j,i < n → j < sz → RdC w S (u i j) (get i j) := by
  cases a
  case ptr t off => exact absurd hf frz_ptr
  all_goals (simp only [frz] at hf; try (cases hf; done))
  · obtain rfl := rd_nils hx
    simp only [AV.ro.injEq] at hf
    obtain ⟨rfl,rfl,rfl,rfl⟩ := hf
    exact ⟨none,0,fun _ _ => undef,rfl,fun h => absurd h (by omega),fun i j hi => absurd hi (by omega)⟩
  · obtain ⟨base,cap,u,rfl,hn,hc,hb,hr⟩ := rd_ro hx
    simp only [AV.ro.injEq] at hf
    obtain ⟨rfl,rfl,rfl,rfl⟩ := hf
    refine ⟨base,cap,u,rfl,fun h0 => ?_,fun i j hi hj => hr i j (by omega) hj⟩
    obtain ⟨ad,e,_,hcell⟩ := hb (by omega)
    exact ⟨ad,e,fun i j hi hj => hcell i j (by omega) hj⟩
  · rename_i t off sz' m cap
    cases hk : hget h t <;> simp only [hk] at hf <;> try (cases hf; done)
    rename_i sz'' z els
    cases hszz : sz' == sz'' <;> simp only [hszz,cond_true,cond_false] at hf
    · cases hf
    obtain rfl : sz' = sz'' := by simpa using hszz
    simp only [AV.ro.injEq] at hf
    obtain ⟨rfl,rfl,rfl,rfl⟩ := hf
    obtain ⟨b,N,rfl,hm,hn,hN⟩ := rd_own hx
    obtain ⟨rfl,c,e,hb,hsz,hE,_,_⟩ := H.fx hk hm
    refine ⟨_,_,fun i j => c.getD ((off + i) * sz' + j) undef,rfl,fun _ => ⟨_,rfl,fun i j hi hj => ?_⟩,fun i j hi hj => ?_⟩
    · obtain ⟨u,hu,_⟩ := els_cell (z := z) hE (show off + i < els.length by omega) hj
      rw [add_cell,cell_of_heap hb,show off * sz' + (i * sz' + j) = (off + i) * sz' + j by rw [Nat.add_mul,Nat.add_assoc],hu]
      simp [hu]
    · obtain ⟨u,hu,hr', _⟩ := els_cell (z := z) hE (show off + i < els.length by omega) hj
      simp only [Array.getD_eq_getD_getElem?,hu,Option.getD_some]
      exact hr'
  · rename_i t sz'
    cases hk : hget h t <;> simp only [hk] at hf <;> try (cases hf; done)
    rename_i sz'' z els
    cases hszz : sz' == sz'' <;> simp only [hszz,cond_true,cond_false] at hf
    · cases hf
    obtain rfl : sz' = sz'' := by simpa using hszz
    simp only [AV.ro.injEq] at hf
    obtain ⟨rfl,rfl,rfl,rfl⟩ := hf
    rcases rd_lst hx with ⟨b,N,cap,rfl,hm,hn,_⟩ | ⟨rfl,hm⟩
    · obtain ⟨rfl,c,e,hb,hsz,hE,_,_⟩ := H.fl hk hm
      refine ⟨_,_,fun i j => c.getD (i * sz' + j) undef,rfl,fun _ => ⟨_,rfl,fun i j hi hj => ?_⟩,fun i j hi hj => ?_⟩
      · obtain ⟨u,hu,_⟩ := els_cell (z := z) hE hi hj
        rw [add_cell,cell_of_heap hb,Nat.zero_add,hu]
        simp [hu]
      · obtain ⟨u,hu,hr', _⟩ := els_cell (z := z) hE hi hj
        simp only [Array.getD_eq_getD_getElem?,hu,Option.getD_some]
        exact hr'
    · obtain ⟨_,rfl⟩ := H.fl0 hk hm
      exact ⟨none,0,fun _ _ => undef,rfl,fun h => absurd h (by simp),fun i j hi => absurd hi (by simp)⟩
  · rename_i t sz' i j
    cases hk : hget h t <;> simp only [hk] at hf <;> first
      | (cases hf; done)
      | (rename_i sz'' z els; cases hb : sz' == sz'' <;> simp [hb] at hf)

theorem run_firstCells {n : Nat} {base : Option Addr} {cap : Nat} {u : Nat → Nat → Value} (hpos : 0 < sz) (hb : 0 < n → ∃ ad,base = some ad ∧ ∀ i j,i < n → j < sz → w.cell? (ad.add (i * sz + j)) = some (u i j)) (m : Nat) :
    (Builtin.firstCells sz n (.slice base m cap)).run P w = .ok ((List.range (n * sz)).map fun q => u (q / sz) (q % sz)).toArray w := by
  cases base with
  | none =>
    have : n = 0 := by
      rcases Nat.eq_zero_or_pos n with h0 | h0
      · exact h0
      · obtain ⟨ad,e,_⟩ := hb h0; cases e
    subst this
    simp [Builtin.firstCells]
  | some ad =>
    simp only [Builtin.firstCells]
    refine run_loadCells (P := P) w ad (n * sz) (fun q => u (q / sz) (q % sz)) (fun q hq => ?_)
    have h1 : q / sz < n := Nat.div_lt_of_lt_mul (by rw [Nat.mul_comm]; exact hq)
    obtain ⟨ad', e,hcell⟩ := hb (Nat.lt_of_le_of_lt (Nat.zero_le _) h1)
    simp only [Option.some.injEq] at e
    subst e
    have := hcell (q / sz) (q % sz) h1 (Nat.mod_lt _ hpos)
    rw [Nat.mul_comm,Nat.div_add_mod] at this
    exact this
end
end Go.Am
end
section
/- The abstract machine: operations that make memory or write it. -/
namespace Go.Am

/-- From w to w': what an operation may turn. -/
structure Chg (Own S S' : Nat → Prop) (l l' : List Tk) (ks : List Nat) (w w' : World) : Prop where
  os : w'.os = w.os
  tape : w'.tape = w.tape
  output : w'.output = w.output
  size : w.heap.size ≤ w'.heap.size
  keep : ∀ (b : Nat),¬ Own b → w'.heap[b]? = w.heap[b]?
  sub : ∀ b,S b → S' b
  new : ∀ b,S' b → S b ∨ Own b
  pres : Pres S w w'
  len : l.length ≤ l'.length
  agr : Agr (fun x => isIn x ks) l l'

section
variable {P : Program} {w w' : World} {S S' Own : Nat → Prop} {l : List Tk} {h : List Blk}

theorem Chg.rd {ks : List Nat} {l' : List Tk} (hc : Chg Own S S' l l' ks w w') {v : Value} {a : AV} (h : Rd w S (some l) v a) : Rd w' S' (some l') v (kills ks a) :=
  (h.kills hc.agr).pres hc.pres hc.sub (MLe.refl _)

theorem agr_refl (p : Nat → Bool) (l : List Tk) : Agr p l l := fun _ _ _ h => h
theorem agr_append (p : Nat → Bool) (l y : List Tk) : Agr p l (l ++ y) := fun _ _ _ h => get_of_mle ⟨y,rfl⟩ h
theorem agr_one (l : List Tk) (t : Nat) (x : Tk) : Agr (fun y => isIn y [t]) l (l.set t x) := fun t' y hp hm => get_set_ne (by rintro rfl; simp [isIn] at hp) hm

theorem Chg.same (hw : w'.heap = w.heap) (h1 : w'.os = w.os) (h2 : w'.tape = w.tape) (h3 : w'.output = w.output) : Chg Own S S l l [] w w' :=
  ⟨h1,h2,h3,by rw [hw]; exact Nat.le_refl _,fun b _ => by rw [hw],fun _ h => h,fun _ h => .inl h,.same hw,Nat.le_refl _,agr_refl _ _⟩

/-- A new block; more that is only read. -/
theorem Chg.alloc (H : HRel w S Own l h) (o : Obj) (y : List Tk) (hS : ∀ b,S b → S' b) (hn : ∀ b,S' b → S b ∨ Own b) : Chg Own S S' l (l ++ y) [] w (w.alloc o) :=
  ⟨rfl,rfl,rfl,by simp,fun b hb => heap_alloc_lt w o (by rcases Nat.lt_or_ge b w.heap.size with h' | h'; exact h'; exact absurd (H.own b h') hb),hS,hn,.alloc H.bd o,by simp,agr_append _ _ _⟩

theorem Chg.setRow {g : Nat} {cur cs : Array Value} {e : TypeId} {f : Nat × Nat} (hn : ¬ S g) (hO : Own g) (hg : w.heap[g]? = some (.cells cur e f)) (hs : cs.size = cur.size) (hS : ∀ b,S b → S' b) (hnew : ∀ b,S' b → S b ∨ Own b) :
    Chg Own S S' l l [] w (w.setRow g cs) :=
  ⟨rfl,rfl,rfl,by simp,fun b hb => setRow_other w g b cs (by rintro rfl; exact hb hO),hS,hnew,.setRow hn hg hs,Nat.le_refl _,agr_refl _ _⟩

theorem HRel.notS_size (H : HRel w S Own l h) : ¬ S w.heap.size := fun hb => absurd (H.bd _ hb) (Nat.lt_irrefl _)

theorem Fz_own (H : HRel w S Own l h) {ts : List Nat} {b : Nat} (hb : Fz S l h ts b) : S b ∨ Own b := by
  rcases hb with hb | ⟨t,_,N,k,hm,hk,hl⟩
  · exact .inl hb
  · right
    have := H.blk t _ k hm hk
    cases k with
    | gone => simp [Blk.live] at hl
    | box cs => obtain ⟨b', c,e,he,_,_,_,_,h5⟩ := this; simp only [Prod.mk.injEq,Option.some.injEq] at he; rw [he.1]; exact h5
    | fx sz z els => obtain ⟨b', c,e,he,_,_,_,_,h5⟩ := this; simp only [Prod.mk.injEq,Option.some.injEq] at he; rw [he.1]; exact h5
    | it s pos => obtain ⟨b', he,_,_,h5⟩ := this; simp only [Prod.mk.injEq,Option.some.injEq] at he; rw [he.1]; exact h5
    | mp es => obtain ⟨b', E,clk,he,_,_,_,h5⟩ := this; simp only [Prod.mk.injEq,Option.some.injEq] at he; rw [he.1]; exact h5
    | fl sz z els =>
      rcases this with ⟨he,_⟩ | ⟨b', c,e,he,_,_,_,_,h5⟩
      · simp at he
      · simp only [Prod.mk.injEq,Option.some.injEq] at he; rw [he.1]; exact h5

/-- A value's cells are cells. -/
theorem rd_one {m : Option (List Tk)} {v : Value} {a : AV} (h : Rd w S m v a) (h1 : ∀ cs,a ≠ .agg cs) (h2 : ∀ cs,a ≠ .tup cs) (h3 : a ≠ .dead) : v.oneCell' = true := by
  cases h <;> first | rfl | exact absurd rfl h3 | exact absurd rfl (h1 _) | exact absurd rfl (h2 _)

theorem flat_cells {m : Option (List Tk)} {v : Value} {a : AV} (h : Rd w S m v a) (hf : flat a = true) : RL w S m v.cells (cellsOf a) ∧ ∀ u ∈ v.cells.toList,u.oneCell' = true := by
  have hd : isDead a = false := by cases a <;> simp_all [flat,isDead]
  refine ⟨rl_cells h hd,?_⟩
  cases a with
  | agg cs =>
    obtain ⟨vs,rfl,hs,hr⟩ := rd_agg h
    intro u hu
    obtain ⟨j,hj,rfl⟩ := List.mem_iff_getElem.1 hu
    have hj' : j < cs.length := by
      have : j < vs.size := by simpa [Value.cells] using hj
      omega
    have hjv : j < vs.size := by omega
    have hv : vs[j]? = some (vs[j]'hjv) := Array.getElem?_eq_getElem hjv
    have hr' := hr j _ _ hv (List.getElem?_eq_getElem hj')
    have hq : (match cs[j] with | .agg _ | .tup _ | .dead => false | _ => true) = true := by
      have := List.all_eq_true.1 hf cs[j] (List.getElem_mem hj')
      exact this
    have := rd_one hr' (by intro cs e; rw [e] at hq; simp at hq) (by intro cs e; rw [e] at hq; simp at hq) (by intro e; rw [e] at hq; simp at hq)
    have e : ∀ u,(Value.agg vs).cells.toList[j]? = some u → u = vs[j]'hjv := by
      intro u hu
      simp only [Value.cells,Array.getElem?_toList,hv,Option.some.injEq] at hu
      exact hu.symm
    rw [e _ (List.getElem?_eq_getElem hj)]; exact this
  | tup cs => simp [flat] at hf
  | dead => simp [flat] at hf
  | _ =>
    have h1 := rd_one h (by simp) (by simp) (by simp)
    have hc : v.cells = #[v] := by cases v <;> first | rfl | simp [Value.oneCell'] at h1
    intro u hu
    rw [hc] at hu
    simp at hu
    rw [hu]; exact h1

/-- What a changing operation comes to. -/
def MOk (P : Program) (ρ : Operand → Value) (o : Oper) (w : World) (S Own : Nat → Prop) (l : List Tk) (r : MR) : Prop :=
  ∃ res u w' S' l', (execOp ρ o).run P w = .ok res w' ∧ (res = .value u ∨ res = .skip ∧ u = undef) ∧ HRel w' S' Own l' r.h ∧ Rd w' S' (some l') u r.v ∧ Chg Own S S' l l' r.ks w w'

theorem box_ok {ρ : Operand → Value} {o : Oper} {t : TypeId} {x : Value} {cs : List AV} (H : HRel w S Own l h) (hrun : execOp ρ o = (do Pure.pure (Next.value (← Instr.box t x)))) (hc : RL w S (some l) x.cells cs) :
    MOk P ρ o w S Own l ⟨[],.ptr h.length 0,h ++ [.box cs],[]⟩ := by
  have hlen := H.len
  have hb : BRel (w.alloc (.cells x.cells t)) S Own (l ++ [(some w.heap.size,cs.length)]) (some w.heap.size,cs.length) (.box cs) :=
    ⟨w.heap.size,x.cells,t,rfl,heap_alloc_at w _,hc.1,fun j u a hu ha => (hc.2 j u a hu ha).pres (.alloc H.bd _) (fun _ h => h) ⟨_,rfl⟩,H.notS_size,H.own _ (Nat.le_refl _)⟩
  refine ⟨_,.pointer (some ⟨w.heap.size,0,none⟩),w.alloc (.cells x.cells t),S,_,?_,.inl rfl,H.push hb,?_,.alloc H _ _ (fun _ h => h) (fun _ h => .inl h)⟩
  · rw [hrun]; simp [Instr.box,newVar,newRow]
  · refine .ptr _ _ _ _ cs.length ?_
    rw [← hlen]; simp

theorem alloc_ok {ρ : Operand → Value} {o : Oper} {t : TypeId} (H : HRel w S Own l h) (hrun : execOp ρ o = (do Pure.pure (Next.value (← Instr.alloc t true (.tuple #[]))))) (hz : zok P t = true) :
    MOk P ρ o w S Own l ⟨[],.ptr h.length 0,h ++ [.box (zav P 16 t)],[]⟩ := by
  obtain ⟨z,hz1,hc⟩ := zok_run (w := w) (S := S) (m := some l) hz
  have hlen := H.len
  have hb : BRel (w.alloc (.cells z.cells t)) S Own (l ++ [(some w.heap.size,(zav P 16 t).length)]) (some w.heap.size,(zav P 16 t).length) (.box (zav P 16 t)) :=
    ⟨w.heap.size,z.cells,t,rfl,heap_alloc_at w _,hc.1,fun j u a hu ha => (hc.2 j u a hu ha).pres (.alloc H.bd _) (fun _ h => h) ⟨_,rfl⟩,H.notS_size,H.own _ (Nat.le_refl _)⟩
  refine ⟨_,.pointer (some ⟨w.heap.size,0,none⟩),w.alloc (.cells z.cells t),S,_,?_,.inl rfl,H.push hb,?_,.alloc H _ _ (fun _ h => h) (fun _ h => .inl h)⟩
  · rw [hrun]; simp [Instr.alloc,hz1,newVar,newRow]
  · refine .ptr _ _ _ _ (zav P 16 t).length ?_
    rw [← hlen]; simp

theorem zseg {e : TypeId} (hz : zok P e = true) : ∃ z,(zeroValue e).run P w = .ok z w ∧ z.cells.size = tsz P e ∧ (zav P 16 e).length = tsz P e ∧
    ∀ (j : Nat) u a,z.cells.toList[j]? = some u → (zav P 16 e)[j]? = some a → RdC w S u a := by
  obtain ⟨z,h1,h2,h3⟩ := zok_run (w := w) (S := S) (m := none) hz
  have hl : (zav P 16 e).length = tsz P e := by
    unfold zok at hz
    cases hi : P.info? e with
    | none => simp [hi] at hz
    | some i =>
      simp only [hi] at hz
      cases hzz : i.zero with
      | none => simp [hzz] at hz
      | some v => simp only [hzz,Bool.and_eq_true,beq_iff_eq] at hz; exact hz.2
  have h4 : ∀ (j : Nat) u,z.cells.toList[j]? = some u → u.oneCell' = true := by
    unfold zok at hz
    cases hi : P.info? e with
    | none => simp [hi] at hz
    | some i =>
      simp only [hi] at hz
      cases hzz : i.zero with
      | none => simp [hzz] at hz
      | some v =>
        simp only [hzz,Bool.and_eq_true] at hz
        simp [zeroValue,typeInfo,hi,hzz] at h1
        subst h1
        exact zmatchL_one hz.1
  exact ⟨z,h1,by rw [h2,hl],hl,fun j u a hu ha => ⟨h3 j u a (by simpa using hu) ha,h4 j u hu⟩⟩

theorem zero_row {z : Value} {n sz : Nat} (hs : z.cells.size = sz) (hpos : 0 < sz) : (Array.range (n * sz)).map (fun i => z.cells[i % z.cells.size]!) = ((List.range (n * sz)).map fun i => z.cells.toList.getD (i % sz) undef).toArray := by
  apply Array.ext'
  simp only [Array.toList_map,Array.toList_range]
  apply List.map_congr_left
  intro i _
  have h1 : i % sz < z.cells.size := by rw [hs]; exact Nat.mod_lt _ hpos
  rw [hs,getElem!_pos z.cells _ h1]
  simp [List.getD,h1]

theorem wrap64_id {n : Int} (h0 : 0 ≤ n) (h1 : n < 2 ^ 63) : IntKind.i64.wrap n = n := by
  have e : IntKind.i64.wrap n = (if (true && decide (n % 2 ^ 64 ≥ 2 ^ 63)) = true then n % 2 ^ 64 - 2 ^ 64 else n % 2 ^ 64) := rfl
  rw [e,if_neg (by simp; omega)]
  omega

theorem makeSlice_ok {ρ : Operand → Value} {o : Oper} {t e : TypeId} {x y : Value} {k k' : IntKind} {n c : Int} (H : HRel w S Own l h) (hrun : execOp ρ o = (do Pure.pure (Next.value (← Instr.makeSlice t x y))))
    (hd : P.underlying t = some (.slice e)) (hx : x = .int k n) (hy : y = .int k' c) (he : has P e = true) (hpos : 0 < tsz P e) (hz : zok P e = true)
    (h0 : 0 ≤ n) (h1 : n ≤ c) (h2 : (tby P e : Int) * c ≤ 2 ^ 48) (h3 : c < 2 ^ 62) :
    MOk P ρ o w S Own l ⟨[],.own h.length 0 (tsz P e) n.toNat c.toNat,h ++ [msBlk P e c.toNat],[]⟩ := by
  subst hx hy
  obtain ⟨z,hz1,hz2,hz3,hz4⟩ := zseg (w := w) (S := S) hz
  have hlen := H.len
  let vals : List Value := (List.range (c.toNat * tsz P e)).map fun i => z.cells.toList.getD (i % tsz P e) undef
  have hseg : Seg w S (tsz P e) vals (List.replicate c.toNat (zav P 16 e)) := Seg.replicate (by simpa using hz2) hz3 hz4 c.toNat
  have hlv : vals.length = c.toNat * tsz P e := by simp [vals]
  have hels : Els w S vals.toArray (tsz P e) (List.replicate c.toNat (zav P 16 e)) := by simpa using hseg.els (rest := [])
  have hb : BRel (w.alloc (.cells vals.toArray e)) S Own (l ++ [(some w.heap.size,c.toNat)]) (some w.heap.size,c.toNat) (msBlk P e c.toNat) := by
    have key : BRel (w.alloc (.cells vals.toArray e)) S Own (l ++ [(some w.heap.size,c.toNat)]) (some w.heap.size,c.toNat) (.fx (tsz P e) (zav P 16 e) (List.replicate c.toNat (zav P 16 e))) :=
      ⟨w.heap.size,vals.toArray,e,by simp,heap_alloc_at w _,by simp [hlv],hels.pres (.alloc H.bd _) (fun _ h => h),H.notS_size,H.own _ (Nat.le_refl _)⟩
    unfold msBlk
    split
    · rename_i q hq
      have hz16 : zav P 16 e = [.nilp] := by simp [zav,hq]
      have h1 : tsz P e = 1 := by
        have hzl : (zav P 16 e).length = tsz P e := by
          unfold zok at hz
          split at hz
          · split at hz
            · simp only [Bool.and_eq_true,beq_iff_eq] at hz; exact hz.2
            · cases hz
          · cases hz
        rw [← hzl,hz16]; rfl
      refine ⟨w.heap.size,vals.toArray,e,by simp,heap_alloc_at w _,by simp [hlv,h1],fun j u a hu ha => ?_,H.notS_size,H.own _ (Nat.le_refl _)⟩
      have ha' : a = .nilp ∧ j < c.toNat := by
        rw [List.getElem?_replicate] at ha
        split at ha
        · exact ⟨(Option.some.inj ha).symm,by assumption⟩
        · cases ha
      obtain ⟨rfl,hj⟩ := ha'
      obtain ⟨_,he2⟩ := hels j (zav P 16 e) (by rw [List.getElem?_replicate,if_pos hj])
      obtain ⟨u', hu', hr'⟩ := he2 0 .nilp (by rw [hz16]; rfl)
      rw [h1,Nat.mul_one,Nat.add_zero,hu] at hu'
      cases hu'
      exact hr'.1.pres (.alloc H.bd _) (fun _ h => h) trivial
    · exact key
  refine ⟨_,.slice (some ⟨w.heap.size,0 * tsz P e,none⟩) n.toNat c.toNat,w.alloc (.cells vals.toArray e),S,_,?_,.inl rfl,H.push hb,?_,.alloc H _ _ (fun _ h => h) (fun _ h => .inl h)⟩
  · rw [hrun]
    have wn : IntKind.i64.wrap n = n := wrap64_id h0 (by omega)
    have wc : IntKind.i64.wrap c = c := wrap64_id (by omega) (by omega)
    have hi : ∃ i,P.info? e = some i ∧ i.bytes = tby P e := by
      unfold has at he
      cases hi : P.info? e with
      | none => simp [hi] at he
      | some i => exact ⟨i,rfl,by simp [tby,hi]⟩
    obtain ⟨i,hi1,hi2⟩ := hi
    simp only [Instr.makeSlice,Sem.run_bind,run_underlying hd w,Result.andThen_ok,asInt,asIntOf,Sem.run_pure,typeInfo,run_program,hi1,hi2,wn,wc]
    have c1 : (decide (c < 0) || decide ((tby P e : Int) * c > 2 ^ 48) || decide (n < 0) || decide (n > c)) = false := by
      simp only [Bool.or_eq_false_iff,decide_eq_false_iff_not]
      refine ⟨⟨⟨?_,?_⟩,?_⟩,?_⟩ <;> omega
    rw [if_neg (by rw [c1]; simp)]
    simp only [Sem.run_bind,run_askRoom,Result.andThen_ok,run_sz he]
    by_cases hc0 : c.toNat * tsz P e = 0
    · have hv : vals = [] := List.eq_nil_of_length_eq_zero (by rw [hlv,hc0])
      rw [if_pos hc0,hv,hc0]
      simp [newRow,Array.range_zero']
    · rw [if_neg hc0]
      have hrow := zero_row (n := c.toNat) hz2 hpos
      simp only [Sem.run_bind,hz1,Result.andThen_ok,Sem.run_pure,hrow]
      simp [newRow,vals]
  · refine .own _ _ _ _ _ _ _ c.toNat ?_ (by omega) (by omega)
    rw [← hlen]; simp

theorem fillE_ok {sz : Nat} {S1 : Nat → Prop} (hpos : 0 < sz) : ∀ (ps : List (Nat × Value)) (qs : List (Nat × AV)) (vals : List Value) (els r : List (List AV)),Seg w S1 sz vals els → ps.length = qs.length →
    (∀ (j : Nat) p q,ps[j]? = some p → qs[j]? = some q → p.1 = q.1 ∧ Rd w S1 none p.2 q.2) → fillE els sz qs = some r →
    ∃ vals', Instr.fill (fun i => some (i * sz,sz)) vals.toArray ps = some vals'.toArray ∧ Seg w S1 sz vals' r ∧ r.length = els.length
  | [],[],vals,els,r,h,_,_,hf => by simp [fillE] at hf; subst hf; exact ⟨vals,rfl,h,rfl⟩
  | [],_ :: _,_,_,_,_,hl,_,_ => by simp at hl
  | _ :: _,[],_,_,_,_,hl,_,_ => by simp at hl
  | (i,v) :: ps,(i', a) :: qs,vals,els,r,h,hl,hp,hf => by
    obtain ⟨e,hr⟩ := hp 0 _ _ rfl rfl
    simp only at e hr
    subst e
    simp only [fillE] at hf
    cases hb : (!(flat a) || (cellsOf a).length != sz || !(Nat.blt i els.length)) <;> simp only [hb,cond_true,cond_false] at hf
    case true => cases hf
    simp only [Bool.or_eq_false_iff,bne_eq_false_iff_eq,Bool.not_eq_false', Nat.blt_eq] at hb
    obtain ⟨⟨hd,hsz⟩,hlt⟩ := hb
    obtain ⟨⟨hc1,hc2⟩,hone⟩ := flat_cells hr hd
    have h1 : els[i]? = some els[i] := by simp [hlt]
    have hel := (h.2 i _ h1).1
    have h0 := h.1
    have hseg := h.set (off := 0) (us := v.cells.toList) (as := cellsOf a) h1 (by simpa using hc1) (by omega) (fun j u b hu hb => ⟨hc2 j u b (by simpa using hu) hb,hone u (List.mem_of_getElem? hu)⟩)
    have hbound : i * sz + sz ≤ vals.length := by rw [h0,← Nat.succ_mul]; exact Nat.mul_le_mul_right _ hlt
    have esp : splice els[i] 0 (cellsOf a) = cellsOf a := by
      unfold splice
      simp [hsz,hel]
    rw [esp] at hseg
    have efold : (v.cells.zipIdx.foldl (fun cs (c,j) => cs.setIfInBounds (i * sz + j) c) vals.toArray) = (vals.take (i * sz + 0) ++ v.cells.toList ++ vals.drop (i * sz + 0 + v.cells.toList.length)).toArray := by
      have e : v.cells.zipIdx.foldl (fun cs (c,j) => cs.setIfInBounds (i * sz + j) c) vals.toArray = (v.cells.toList.zipIdx 0).foldl (fun cs (p : Value × Nat) => cs.setIfInBounds (i * sz + p.2) p.1) vals.toArray := by
        rw [← Array.foldl_toList]; simp
      rw [e]
      apply Array.ext_getElem?
      intro q
      rw [foldl_get (i * sz) v.cells.toList 0 vals.toArray q (by simp; omega)]
      simp only [Nat.add_zero,Array.length_toList,List.getElem?_toArray]
      by_cases hc : i * sz ≤ q ∧ q < i * sz + v.cells.size
      · rw [if_pos hc,List.getElem?_append_left (by simp; omega),List.getElem?_append_right (by simp; omega)]
        congr 1; simp; omega
      · rw [if_neg hc]
        by_cases hq : q < i * sz
        · rw [List.append_assoc,List.getElem?_append_left (by simp; omega),List.getElem?_take,if_pos hq]
        · rw [List.getElem?_append_right (by simp; omega),List.getElem?_drop]
          congr 1; simp; omega
    obtain ⟨vals', h6,h7,h8⟩ := fillE_ok hpos ps qs _ _ r hseg (by simpa using hl) (fun j p q hp' hq' => hp (j + 1) p q (by simpa using hp') (by simpa using hq')) hf
    refine ⟨vals', ?_,h7,by simpa using h8⟩
    simp only [Instr.fill]
    rw [if_neg (by simp; omega)]
    rw [efold]
    exact h6

theorem buildSlice_ok {ρ : Operand → Value} {g : Operand → AV} {o : Oper} {t e : TypeId} {n : Nat} {ps : Array (Nat × Operand)} {els : List (List AV)} (H : HRel w S Own l h) (hg : ∀ x,Rd w S (some l) (ρ x) (g x))
    (hrun : execOp ρ o = (do Pure.pure (Next.value (← Instr.buildSlice t n (ps.map fun (i,x) => (i,ρ x)))))) (hd : P.underlying t = some (.slice e)) (he : has P e = true) (hpos : 0 < tsz P e) (hz : zok P e = true) (hn : n * tsz P e ≤ 2 ^ 24)
    (hf : fillE (List.replicate n (zav P 16 e)) (tsz P e) ((ps.toList.map fun p => (p.1,typ P e (g p.2))).map fun p => (p.1,frz h 4 p.2)) = some els) (b : Bool) :
    MOk P ρ o w S Own l (if b then ⟨[],.ro (tsz P e) n n (fun i j => (els.getD i []).getD j .dead),strike ((ps.toList.map fun p => (p.1,typ P e (g p.2))).flatMap fun p => reach h 4 p.2) h,[]⟩
      else ⟨[],.lst h.length (tsz P e),strike ((ps.toList.map fun p => (p.1,typ P e (g p.2))).flatMap fun p => reach h 4 p.2) h ++ [.fl (tsz P e) (zav P 16 e) els],[]⟩) := by
  obtain ⟨z,hz1,hz2,hz3,hz4⟩ := zseg (P := P) (w := w) (S := fun b => Fz S l h ((ps.toList.map fun p => (p.1,typ P e (g p.2))).flatMap fun p => reach h 4 p.2) b) hz
  generalize hts : ((ps.toList.map fun p => (p.1,typ P e (g p.2))).flatMap fun p => reach h 4 p.2) = ts at hz4 ⊢
  have hlen := H.len
  have H1 := H.strike ts
  have hseg0 : Seg w (Fz S l h ts) (tsz P e) ((List.range (n * tsz P e)).map fun i => z.cells.toList.getD (i % tsz P e) undef) (List.replicate n (zav P 16 e)) := Seg.replicate (by simpa using hz2) hz3 hz4 n
  obtain ⟨vals,hv1,hv2,hv3⟩ := fillE_ok hpos ((ps.map fun (i,x) => (i,ρ x)).toList) _ _ _ els hseg0 (by simp) (fun j p q hp' hq' => by
    simp only [Array.toList_map,List.getElem?_map] at hp' hq'
    cases hx : ps.toList[j]? with
    | none => simp [hx] at hp'
    | some x =>
      simp [hx] at hp' hq'
      subst hp' hq'
      refine ⟨rfl,frz_strike H (typ_rd _ (hg _)) (fun t' ht' => ?_)⟩
      rw [← hts]
      exact List.mem_flatMap.2 ⟨(x.1,typ P e (g x.2)),List.mem_map.2 ⟨x,List.mem_of_getElem? hx,rfl⟩,ht'⟩) hf
  simp only [List.length_replicate] at hv3
  have hrun' : (execOp ρ o).run P w = .ok (.value (.slice (some ⟨w.heap.size,0,none⟩) n n)) (w.alloc (.cells vals.toArray e)) := by
    rw [hrun]
    simp only [Sem.run_bind,Instr.buildSlice,run_underlying hd w,Result.andThen_ok,run_sz he,Sem.run_pure]
    rw [if_neg (by omega)]
    by_cases hc0 : n * tsz P e = 0
    · rw [if_pos hc0]
      have hvl : vals = [] := List.eq_nil_of_length_eq_zero (by rw [hv2.1,hv3,hc0])
      have hn0 : n = 0 := by
        rcases Nat.eq_zero_or_pos n with h' | h'
        · exact h'
        · exact absurd hc0 (Nat.ne_of_gt (Nat.mul_pos h' hpos))
      subst hn0
      rw [Nat.zero_mul] at hv1
      simp only [List.range_zero,List.map_nil] at hv1
      have hz0 : (Array.range (0 * tsz P e)).map (fun (x : Nat) => (#[] : Array Value)[x % (#[] : Array Value).size]!) = #[] := by rw [Nat.zero_mul,Array.range_zero', List.map_toArray]; rfl
      simp only [Sem.run_bind,Sem.run_pure,Result.andThen_ok,hz0,hv1]
      simp [newRow,hvl]
    · rw [if_neg hc0]
      have hrow := zero_row (n := n) hz2 hpos
      simp only [Sem.run_bind,hz1,Result.andThen_ok,Sem.run_pure,hrow]
      simp only [hv1]
      simp [newRow]
  have hcell : ∀ i j,i < n → j < tsz P e → ∃ u,vals.toArray[i * tsz P e + j]? = some u ∧ RdC w (Fz S l h ts) u ((els.getD i []).getD j .dead) := by
    intro i j hi hj
    obtain ⟨u,hu,hr,_⟩ := els_cell (z := []) (by simpa using hv2.els (rest := [])) (show i < els.length by omega) hj
    exact ⟨u,hu,hr⟩
  cases b
  · simp only [Bool.false_eq_true,if_false]
    have hb : BRel (w.alloc (.cells vals.toArray e)) (Fz S l h ts) Own (l ++ [(some w.heap.size,n)]) (some w.heap.size,n) (.fl (tsz P e) (zav P 16 e) els) :=
      .inr ⟨w.heap.size,vals.toArray,e,by rw [hv3],heap_alloc_at w _,by simp [hv2.1],(by simpa using hv2.els (rest := []) : Els w _ vals.toArray _ els).pres (.alloc H1.bd _) (fun _ h => h),H1.notS_size,H1.own _ (Nat.le_refl _)⟩
    have hp := H1.push hb
    refine ⟨_,_,_,Fz S l h ts,_,hrun', .inl rfl,hp,?_,.alloc H _ _ (fun _ h => .inl h) (fun _ hb => Fz_own H hb)⟩
    refine .lst _ _ _ w.heap.size n n ?_ (Nat.le_refl _) ⟨vals.toArray,e,(0,0),heap_alloc_at w _,by simp [hv2.1,hv3]⟩
    rw [← hlen]; simp
  · simp only [if_true]
    refine ⟨_,_,_,fun b => Fz S l h ts b ∨ b = w.heap.size,l ++ [],hrun', .inl rfl,?_,?_,.alloc H _ _ (fun _ h => .inl (.inl h)) (fun b hb => ?_)⟩
    · rw [List.append_nil]
      refine ⟨H1.len,fun t' x k hx hk => ?_,H1.inj,fun b hb => ?_,fun t' b N hm => ?_,fun b hb => H.own b ?_⟩
      · refine (H1.blk t' x k hx hk).move (.alloc H1.bd _) (fun _ h => .inl h) ⟨[],by simp⟩ (fun b hb => heap_alloc_lt w _ ?_) (fun b hb hn => ?_)
        · obtain ⟨x1,x2⟩ := x
          simp only at hb; subst hb
          exact H1.lbd t' b x2 hx
        · obtain ⟨x1,x2⟩ := x
          simp only at hb; subst hb
          have := H1.lbd t' b x2 hx
          rintro (h' | rfl)
          · exact hn h'
          · omega
      · rcases hb with hb | rfl
        · have := H1.bd b hb; simp; omega
        · simp
      · have := H1.lbd t' b N hm; simp; omega
      · simp at hb; omega
    · refine .ro _ _ _ _ _ _ _ (fun i j => vals.toArray.getD (i * tsz P e + j) undef) (Nat.le_refl _) (Nat.le_refl _) (fun _ => ⟨_,rfl,.inr rfl,fun i j hi hj => ?_⟩) (fun i j hi hj => ?_) (fun i j hi hj => ?_)
      · obtain ⟨u,hu,_⟩ := hcell i j hi hj
        rw [add_cell,Nat.zero_add,cell_of_heap (heap_alloc_at w _),hu]
        simp only [Array.getD_eq_getD_getElem?,hu,Option.getD_some]
      · obtain ⟨u,hu,hr⟩ := hcell i j hi hj
        simp only [Array.getD_eq_getD_getElem?,hu,Option.getD_some]
        exact hr.1.pres (.alloc H1.bd _) (fun _ h => .inl h) trivial
      · obtain ⟨u,hu,hr⟩ := hcell i j hi hj
        simp only [Array.getD_eq_getD_getElem?,hu,Option.getD_some]
        exact hr.2
    · rcases hb with hb | rfl
      · exact Fz_own H hb
      · exact .inr (H.own _ (Nat.le_refl _))
end
end Go.Am
end
section
/- The abstract machine: stores, append. -/
namespace Go.Am
section
variable {P : Program} {w w' : World} {S S' Own : Nat → Prop} {l : List Tk} {h : List Blk}

theorem storeVar_ok {t : TypeId} {b off : Nat} {v : Value} {c : Array Value} {e : TypeId} (ht : has P t = true) (hs : v.cells.size = tsz P t) (h1 : ∀ u ∈ v.cells.toList,u.oneCell' = true)
    (hb : w.heap[b]? = some (.cells c e (0,0))) (hle : off + tsz P t ≤ c.size) :
    (Instr.storeAt t (.pointer (some ⟨b,off,none⟩)) v).run P w = .ok () (w.setRow b (c.toList.take off ++ v.cells.toList ++ c.toList.drop (off + v.cells.toList.length)).toArray) := by
  have := run_storeCells_at (P := P) b off e v.cells.toList 0 c w hb (by simp; omega) h1
  simp only [Nat.add_zero] at this
  simp only [Instr.storeAt,Instr.sureAddr,Sem.run_bind,Sem.run_pure,Result.andThen_ok,storeVar,run_sz ht]
  rw [if_neg (by simp [hs])]
  exact this

theorem storeBox_ok {ρ : Operand → Value} {o : Oper} {t : TypeId} {x y : Value} {a : AV} {t' off : Nat} {cs : List AV} (H : HRel w S Own l h) (hrun : execOp ρ o = (do Instr.storeAt t x y; Pure.pure Next.skip))
    (hx : Rd w S (some l) x (.ptr t' off)) (hy : Rd w S (some l) y a) (hf : flat a = true) (ht : has P t = true) (hsz : (cellsOf a).length = tsz P t) (hk : hget h t' = .box cs) (hle : off + tsz P t ≤ cs.length) :
    MOk P ρ o w S Own l ⟨[],.dead,hset h t' (.box (splice cs off (cellsOf a))),[]⟩ := by
  obtain ⟨b,N,rfl,hm⟩ := rd_ptr hx
  obtain ⟨rfl,c,e,hb,hcs,hr,hnS,hO⟩ := H.box hk hm
  obtain ⟨⟨hc1,hc2⟩,hone⟩ := flat_cells hy hf
  have hvs : y.cells.size = tsz P t := by omega
  have hst := storeVar_ok (P := P) (w := w) ht hvs hone hb (show off + tsz P t ≤ c.size by omega)
  have hsz' : (c.toList.take off ++ y.cells.toList ++ c.toList.drop (off + y.cells.toList.length)).toArray.size = c.size := by simp; omega
  have hp : Pres S w (w.setRow b (c.toList.take off ++ y.cells.toList ++ c.toList.drop (off + y.cells.toList.length)).toArray) := .setRow hnS hb hsz'
  refine ⟨_,undef,_,S,l,?_,.inr ⟨rfl,rfl⟩,H.setBlk (k' := .box (splice cs off (cellsOf a))) hm (hget_some hk rfl) rfl hb hsz' hnS ?_,.dead _ _,.setRow hnS hO hb hsz' (fun _ h => h) (fun _ h => .inl h)⟩
  · rw [hrun]; simp [hst]
  · refine ⟨b,_,e,by rw [splice_len (by omega)],setRow_heap w b c _ e _ hb,by rw [hsz', splice_len (by omega)]; exact hcs,fun j u a' hu ha => ?_,hnS,hO⟩
    rw [splice_get (by omega)] at ha
    simp only [List.getElem?_toArray] at hu
    by_cases hc : off ≤ j ∧ j < off + (cellsOf a).length
    · rw [if_pos hc] at ha
      rw [List.getElem?_append_left (by simp; omega),List.getElem?_append_right (by simp; omega)] at hu
      have e1 : j - (List.take off c.toList).length = j - off := by simp; omega
      rw [e1] at hu
      exact (hc2 _ _ _ (by simpa using hu) ha).pres hp (fun _ h => h) (MLe.refl _)
    · rw [if_neg hc] at ha
      have hu' : c[j]? = some u := by
        by_cases hq : j < off
        · rw [List.append_assoc,List.getElem?_append_left (by simp; omega),List.getElem?_take,if_pos hq] at hu
          simpa using hu
        · rw [List.getElem?_append_right (by simp; omega),List.getElem?_drop] at hu
          have e1 : off + y.cells.toList.length + (j - (List.take off c.toList ++ y.cells.toList).length) = j := by simp; omega
          rw [e1] at hu
          simpa using hu
      exact (hr _ _ _ hu' ha).pres hp (fun _ h => h) (MLe.refl _)


theorem storeEl_ok {ρ : Operand → Value} {o : Oper} {t : TypeId} {x y : Value} {a : AV} {t' sz i j : Nat} {r : MR} (H : HRel w S Own l h) (hrun : execOp ρ o = (do Instr.storeAt t x y; Pure.pure Next.skip))
    (hx : Rd w S (some l) x (.ep t' sz i j)) (hy : Rd w S (some l) y a) (hf : flat (frz h 4 a) = true) (ht : has P t = true) (hsz : (cellsOf (frz h 4 a)).length = tsz P t)
    (hr : stEl P (strike (reach h 4 a) h) t t' sz i j (cellsOf (frz h 4 a)) = some r) : MOk P ρ o w S Own l r := by
  have H1 := H.strike (reach h 4 a)
  have hy1 : Rd w (Fz S l h (reach h 4 a)) none y (frz h 4 a) := frz_strike H hy (fun _ h => h)
  have hx1 : Rd w (Fz S l h (reach h 4 a)) (some l) x (.ep t' sz i j) := hx.pres (.refl _ _) (fun _ h => .inl h) (MLe.refl _)
  have hown : ∀ b,Fz S l h (reach h 4 a) b → S b ∨ Own b := fun b hb => Fz_own H hb
  have hsub : ∀ b,S b → Fz S l h (reach h 4 a) b := fun b hb => .inl hb
  generalize strike (reach h 4 a) h = h1 at *
  generalize Fz S l h (reach h 4 a) = S1 at *
  generalize frz h 4 a = a1 at *
  obtain ⟨b,N,rfl,hm,hi,hj⟩ := rd_ep hx1
  obtain ⟨⟨hc1,hc2⟩,hone⟩ := flat_cells hy1 hf
  have hvs : y.cells.size = tsz P t := by omega
  have fin : ∀ (k : Blk) (z : List AV) (els : List (List AV)) (c : Array Value) (e : TypeId) (mkB : List (List AV) → Blk),hget h1 t' = k → k.live = true → l[t']? = some (some b,N) → N = els.length → w.heap[b]? = some (.cells c e (0,0)) → els.length * sz ≤ c.size → Els w S1 c sz els → ¬ S1 b → Own b →
      (∀ (els' : List (List AV)) (c' : Array Value),els'.length = els.length → c'.size = c.size → (w.setRow b c').heap[b]? = some (.cells c' e (0,0)) → Els (w.setRow b c') S1 c' sz els' → BRel (w.setRow b c') S1 Own l (some b,N) (mkB els')) →
      j + tsz P t ≤ sz → MOk P ρ o w S Own l ⟨[],.dead,hset h1 t' (mkB (els.set i (splice (els.getD i z) j (cellsOf a1)))),[]⟩ := by
    intro k z els c e mkB hk hkl hm hN hb hcs hE hnS hO hmk hle
    have hi' : i < els.length := by omega
    have hbound : i * sz + sz ≤ c.size := by
      have : (i + 1) * sz ≤ els.length * sz := Nat.mul_le_mul_right _ hi'
      rw [Nat.succ_mul] at this
      omega
    have hst := storeVar_ok (P := P) (w := w) (off := i * sz + j) ht hvs hone hb (by omega)
    let nv := c.toList.take (i * sz + j) ++ y.cells.toList ++ c.toList.drop (i * sz + j + y.cells.toList.length)
    have hsz' : nv.toArray.size = c.size := by simp [nv]; omega
    have hp : Pres S1 w (w.setRow b nv.toArray) := .setRow hnS hb hsz'
    have hel : els[i]? = some (els.getD i z) := by simp [List.getD,hi']
    have hE' : Els w S1 nv.toArray sz (els.set i (splice (els.getD i z) j (cellsOf a1))) := by
      intro q el hq
      by_cases hqi : q = i
      · subst hqi
        rw [List.getElem?_set_self hi'] at hq
        simp only [Option.some.injEq] at hq
        subst hq
        obtain ⟨hlen,hold⟩ := hE q _ hel
        refine ⟨by rw [splice_len (by omega)]; exact hlen,fun j' a' hj' => ?_⟩
        have hj'lt : j' < sz := by
          have := (List.getElem?_eq_some_iff.1 hj').1
          rw [splice_len (by omega),hlen] at this; exact this
        rw [splice_get (by omega)] at hj'
        simp only [List.getElem?_toArray,nv]
        split at hj'
        · rename_i hc
          have hju : j' - j < y.cells.size := by omega
          refine ⟨y.cells[j' - j],?_,hc2 _ _ _ (by simp [hju]) hj', hone _ (by simp)⟩
          rw [List.getElem?_append_left (by simp; omega),List.getElem?_append_right (by simp; omega)]
          have e1 : q * sz + j' - (List.take (q * sz + j) c.toList).length = j' - j := by simp; omega
          rw [e1]
          simp [hju]
        · rename_i hc
          obtain ⟨u,hu,hr'⟩ := hold j' a' hj'
          refine ⟨u,?_,hr'⟩
          by_cases hq : j' < j
          · rw [List.append_assoc,List.getElem?_append_left (by simp; omega),List.getElem?_take,if_pos (by omega)]
            simpa using hu
          · rw [List.getElem?_append_right (by simp; omega),List.getElem?_drop]
            have e1 : q * sz + j + y.cells.toList.length + (q * sz + j' - (List.take (q * sz + j) c.toList ++ y.cells.toList).length) = q * sz + j' := by simp; omega
            rw [e1]
            simpa using hu
      · rw [List.getElem?_set_ne (fun e => hqi e.symm)] at hq
        obtain ⟨hlen,hold⟩ := hE q el hq
        refine ⟨hlen,fun j' a' hj' => ?_⟩
        obtain ⟨u,hu,hr'⟩ := hold j' a' hj'
        have hj'lt : j' < sz := by rw [← hlen]; exact (List.getElem?_eq_some_iff.1 hj').1
        refine ⟨u,?_,hr'⟩
        simp only [List.getElem?_toArray,nv]
        have hor : q * sz + j' < i * sz ∨ i * sz + sz ≤ q * sz + j' := by
          rcases Nat.lt_or_gt_of_ne hqi with hlt | hgt
          · exact .inl (idx_lt hlt hj'lt)
          · right
            have : (i + 1) * sz ≤ q * sz := Nat.mul_le_mul_right _ hgt
            rw [Nat.succ_mul] at this
            omega
        rcases hor with hlt | hgt
        · rw [List.append_assoc,List.getElem?_append_left (by simp; omega),List.getElem?_take,if_pos (by omega)]
          simpa using hu
        · rw [List.getElem?_append_right (by simp; omega),List.getElem?_drop]
          have e1 : i * sz + j + y.cells.toList.length + (q * sz + j' - (List.take (i * sz + j) c.toList ++ y.cells.toList).length) = q * sz + j' := by simp; omega
          rw [e1]
          simpa using hu
    refine ⟨_,undef,w.setRow b nv.toArray,S1,l,?_,.inr ⟨rfl,rfl⟩,H1.setBlk hm (hget_some hk hkl) hkl hb hsz' hnS (hmk _ _ (by simp) hsz' (setRow_heap w b c _ e _ hb) (hE'.pres hp (fun _ h => h))),.dead _ _,?_⟩
    · rw [hrun]; simp [hst,nv]
    · exact .setRow (S := S) (fun h => hnS (hsub _ h)) hO hb hsz' hsub hown
  unfold stEl at hr
  cases hk : hget h1 t' <;> simp only [hk] at hr <;> try (cases hr; done)
  · rename_i sz' z els
    cases hb1 : (!(sz == sz') || !(Nat.ble (j + tsz P t) sz)) <;> simp only [hb1,cond_true,cond_false] at hr
    case true => cases hr
    simp only [Bool.or_eq_false_iff,Bool.not_eq_false', beq_iff_eq] at hb1
    obtain ⟨rfl,hle⟩ := hb1
    obtain ⟨hN,c,e,hb,hcs,hE,hnS,hO⟩ := H1.fx hk hm
    simp only [Option.some.injEq] at hr
    subst hr
    exact fin _ z els c e (fun els' => .fx sz z els') hk rfl hm hN hb (by omega) hE hnS hO (fun els' c' e1 e2 e3 e4 => ⟨b,c', e,by rw [e1,hN],e3,by rw [e2,e1]; exact hcs,e4,hnS,hO⟩) (Nat.le_of_ble_eq_true hle)
  · rename_i sz' z els
    cases hb1 : (!(sz == sz') || !(Nat.ble (j + tsz P t) sz)) <;> simp only [hb1,cond_true,cond_false] at hr
    case true => cases hr
    simp only [Bool.or_eq_false_iff,Bool.not_eq_false', beq_iff_eq] at hb1
    obtain ⟨rfl,hle⟩ := hb1
    obtain ⟨hN,c,e,hb,hcs,hE,hnS,hO⟩ := H1.fl hk hm
    simp only [Option.some.injEq] at hr
    subst hr
    exact fin _ z els c e (fun els' => .fl sz z els') hk rfl hm hN hb (by omega) hE hnS hO (fun els' c' e1 e2 e3 e4 => .inr ⟨b,c', e,by rw [e1,hN],e3,by rw [e2,e1]; exact hcs,e4,hnS,hO⟩) (Nat.le_of_ble_eq_true hle)
end
end Go.Am
end
