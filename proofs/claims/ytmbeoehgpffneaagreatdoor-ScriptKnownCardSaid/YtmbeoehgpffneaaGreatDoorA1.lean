/- An abstract memory, and when a world of the model is one of those that it stands for. Over any program. -/
import Derived.WalkKit
import Derived.OrdersHeld
namespace Go.Ab
noncomputable section

/-! ### Tries -/
inductive Tr (α : Type) where
  | e
  | n (l : Tr α) (v : Option α) (r : Tr α)

def Tr.one {α : Type} (a : Option α) (p : List Bool) : Tr α :=
  @List.rec Bool (fun _ => Tr α) (.n .e a .e) (fun b _ ih => @Bool.rec (fun _ => Tr α) (.n ih none .e) (.n .e none ih) b) p
def Tr.get {α : Type} (p : List Bool) (t : Tr α) : Option α :=
  @Tr.rec α (fun _ => List Bool → Option α) (fun _ => none) (fun _ v _ gl gr p => @List.rec Bool (fun _ => Option α) v (fun b q _ => @Bool.rec (fun _ => Option α) (gl q) (gr q) b) p) t p
def Tr.put {α : Type} (p : List Bool) (a : Option α) (t : Tr α) : Tr α :=
  @Tr.rec α (fun _ => List Bool → Tr α) (fun p => Tr.one a p) (fun l v r pl pr p => @List.rec Bool (fun _ => Tr α) (.n l a r) (fun b q _ => @Bool.rec (fun _ => Tr α) (.n (pl q) v r) (.n l v (pr q)) b) p) t p

theorem Tr.get_e {α : Type} (p : List Bool) : Tr.get p (.e : Tr α) = none := rfl
theorem Tr.get_one {α : Type} : ∀ (p : List Bool) (a : Option α), Tr.get p (Tr.one a p) = a
  | [], _ => rfl
  | true :: p, a => Tr.get_one p a
  | false :: p, a => Tr.get_one p a
theorem Tr.get_one_ne {α : Type} : ∀ (p q : List Bool) (a : Option α), q ≠ p → Tr.get q (Tr.one a p) = none
  | [], [], _, h => absurd rfl h
  | [], true :: q, _, _ => rfl
  | [], false :: q, _, _ => rfl
  | true :: p, [], _, _ => rfl
  | false :: p, [], _, _ => rfl
  | true :: p, true :: q, a, h => Tr.get_one_ne p q a (fun he => h (by rw [he]))
  | true :: p, false :: q, a, h => rfl
  | false :: p, true :: q, a, h => rfl
  | false :: p, false :: q, a, h => Tr.get_one_ne p q a (fun he => h (by rw [he]))
theorem Tr.get_put {α : Type} : ∀ (p : List Bool) (a : Option α) (t : Tr α), Tr.get p (Tr.put p a t) = a
  | p, a, .e => Tr.get_one p a
  | [], _, .n _ _ _ => rfl
  | true :: p, a, .n _ _ r => Tr.get_put p a r
  | false :: p, a, .n l _ _ => Tr.get_put p a l
theorem Tr.get_put_ne {α : Type} : ∀ (p q : List Bool) (a : Option α) (t : Tr α), q ≠ p → Tr.get q (Tr.put p a t) = Tr.get q t
  | p, q, a, .e, h => (Tr.get_one_ne p q a h)
  | [], [], _, .n _ _ _, h => absurd rfl h
  | [], b :: q, a, .n l v r, _ => by cases b <;> rfl
  | true :: p, [], a, .n _ _ _, _ => rfl
  | false :: p, [], a, .n _ _ _, _ => rfl
  | true :: p, true :: q, a, .n _ _ r, h => Tr.get_put_ne p q a r (fun he => h (by rw [he]))
  | true :: p, false :: q, a, .n _ _ _, h => rfl
  | false :: p, true :: q, a, .n _ _ _, h => rfl
  | false :: p, false :: q, a, .n l _ _, h => Tr.get_put_ne p q a l (fun he => h (by rw [he]))

def bitsF : Nat → Nat → List Bool
  | 0, _ => []
  | f + 1, k => match Nat.beq k 0 with | true => [] | false => Nat.beq (k % 2) 1 :: bitsF f (k / 2)
def bits (k : Nat) : List Bool := bitsF k k
def unbits : List Bool → Nat
  | [] => 0
  | b :: p => (match b with | true => 1 | false => 0) + 2 * unbits p
theorem unbits_bitsF : ∀ (f k : Nat), k ≤ f → unbits (bitsF f k) = k
  | 0, k, h => by simp only [bitsF, unbits]; omega
  | f + 1, k, h => by
    cases hk : Nat.beq k 0 with
    | true => simp only [bitsF, hk, unbits]; exact (Nat.eq_of_beq_eq_true hk).symm
    | false =>
      have h0 : k ≠ 0 := fun he => by subst he; cases hk
      simp only [bitsF, hk, unbits]
      rw [unbits_bitsF f (k / 2) (by omega)]
      cases hb : Nat.beq (k % 2) 1 with
      | true => have := Nat.eq_of_beq_eq_true hb; simp only []; omega
      | false => have h1 : k % 2 ≠ 1 := fun he => by rw [he] at hb; cases hb
                 simp only []; omega
theorem bits_inj {a b : Nat} (h : bits a = bits b) : a = b := by
  have := congrArg unbits h
  unfold bits at this
  rwa [unbits_bitsF a a (Nat.le_refl _), unbits_bitsF b b (Nat.le_refl _)] at this
theorem bits_ne {a b : Nat} (h : a ≠ b) : bits a ≠ bits b := fun he => h (bits_inj he)

/-! ### Memory -/
inductive Ob where
  | cells (size : Nat) (d : Value) (t : Tr Value)
  | iter (s : ByteArray) (pos : Nat)
  | ro (size : Nat) (d : Value) (t : Tr Value)
structure St where
  n : Nat
  m : Tr Ob

def cellD (d : Value) (t : Tr Value) (o : Nat) : Value := match Tr.get (bits o) t with | some v => v | none => d
def rd (s : St) (b o : Nat) : Option Value :=
  match Tr.get (bits b) s.m with
  | some (.cells size d t) => match Nat.blt o size with | true => some (cellD d t o) | false => none
  | some (.ro size d t) => match Nat.blt o size with | true => some (cellD d t o) | false => none
  | _ => none
def rdN (s : St) (b : Nat) : Nat → Nat → Option (List Value)
  | _, 0 => some []
  | o, k + 1 => match rd s b o with
    | some v => match rdN s b (o + 1) k with | some l => some (v :: l) | none => none
    | none => none
def oneCell : Value → Bool
  | .agg _ | .tuple _ => false
  | _ => true
def wr (s : St) (b o : Nat) (v : Value) : Option St :=
  match Tr.get (bits b) s.m with
  | some (.cells size d t) => match Nat.blt o size && oneCell v with | true => some ⟨s.n, Tr.put (bits b) (some (.cells size d (Tr.put (bits o) (some v) t))) s.m⟩ | false => none
  | _ => none
def wrN (b : Nat) : Nat → List Value → St → Option St
  | _, [], s => some s
  | o, v :: l, s => match wr s b o v with | some s' => wrN b (o + 1) l s' | none => none
def trOf : Nat → List Value → Tr Value → Tr Value
  | _, [], t => t
  | o, v :: l, t => trOf (o + 1) l (Tr.put (bits o) (some v) t)
def obOf (l : List Value) : Ob := .cells l.length .nilIface (trOf 0 l .e)
def St.push (s : St) (ob : Ob) : St := ⟨s.n + 1, Tr.put (bits s.n) (some ob) s.m⟩
def St.kill (s : St) (b : Nat) : St := ⟨s.n, Tr.put (bits b) none s.m⟩

/-! ### What it stands for -/
inductive Bst where
  | fresh
  | live (r base lim : Nat)
  | dead
abbrev Beta := Nat → Bst

inductive RV (β : Beta) : Value → Value → Prop
  | bool (b : Bool) : RV β (.bool b) (.bool b)
  | int (k : IntKind) (n : Int) : RV β (.int k n) (.int k n)
  | string (s : ByteArray) : RV β (.string s) (.string s)
  | pnil : RV β (.pointer none) (.pointer none)
  | ptr {b o r base lim : Nat} (h : β b = .live r base lim) : RV β (.pointer (some ⟨b, o, none⟩)) (.pointer (some ⟨r, base + o, none⟩))
  | dptr {b o : Nat} {a : Addr} (h : β b = .dead) : RV β (.pointer (some ⟨b, o, none⟩)) (.pointer (some a))
  | snil : RV β (.slice none 0 0) (.slice none 0 0)
  | slc {b o len sz r base lim cap : Nat} {a : Addr} (h : β b = .live r base lim) (hc : len ≤ cap) (hp : cap = 0 ∨ (a = ⟨r, base + o, none⟩ ∧ o + cap * sz ≤ lim)) : RV β (.slice (some ⟨b, o, none⟩) len sz) (.slice (some a) len cap)
  | dslc {b o len sz cap : Nat} {a : Addr} (h : β b = .dead) (hc : len ≤ cap) : RV β (.slice (some ⟨b, o, none⟩) len sz) (.slice (some a) len cap)
  | fnil : RV β .nilFunc .nilFunc
  | func (f : FuncId) {cap cap' : Array Value} (hl : cap.size = cap'.size) (h : ∀ (i : Nat) v v', cap[i]? = some v → cap'[i]? = some v' → RV β v v') : RV β (.func (.func f) #[] cap) (.func (.func f) #[] cap')
  | inil : RV β .nilIface .nilIface
  | iface (t : TypeId) {v v' : Value} (h : RV β v v') : RV β (.iface t v) (.iface t v')
  | agg {l l' : Array Value} (hl : l.size = l'.size) (h : ∀ (i : Nat) v v', l[i]? = some v → l'[i]? = some v' → RV β v v') : RV β (.agg l) (.agg l')
  | tuple {l l' : Array Value} (hl : l.size = l'.size) (h : ∀ (i : Nat) v v', l[i]? = some v → l'[i]? = some v' → RV β v v') : RV β (.tuple l) (.tuple l')

/-- Pairwise. -/
def RL (β : Beta) (l l' : List Value) : Prop := l.length = l'.length ∧ ∀ (i : Nat) v v', l[i]? = some v → l'[i]? = some v' → RV β v v'
theorem RL.nil {β : Beta} : RL β [] [] := ⟨rfl, fun i v v' h => by simp at h⟩
theorem RL.cons {β : Beta} {v v' : Value} {l l' : List Value} (h : RV β v v') (hl : RL β l l') : RL β (v :: l) (v' :: l') := by
  refine ⟨by simp [hl.1], fun i u u' h1 h2 => ?_⟩
  cases i with
  | zero => simp at h1 h2; subst h1 h2; exact h
  | succ i => exact hl.2 i u u' (by simpa using h1) (by simpa using h2)
theorem RL.inv {β : Beta} {v : Value} {l l' : List Value} (h : RL β (v :: l) l') : ∃ v' l'', l' = v' :: l'' ∧ RV β v v' ∧ RL β l l'' := by
  cases l' with
  | nil => have := h.1; simp at this
  | cons v' l'' => exact ⟨v', l'', rfl, h.2 0 v v' rfl rfl, by have := h.1; simpa using this, fun i u u' h1 h2 => h.2 (i + 1) u u' (by simpa using h1) (by simpa using h2)⟩
theorem RL.inv_nil {β : Beta} {l' : List Value} (h : RL β [] l') : l' = [] := List.eq_nil_of_length_eq_zero (by have := h.1; simpa using this.symm)
theorem RL.append {β : Beta} {a a' c c' : List Value} (h1 : RL β a a') (h2 : RL β c c') : RL β (a ++ c) (a' ++ c') := by
  refine ⟨by simp [h1.1, h2.1], fun i v v' g1 g2 => ?_⟩
  by_cases hi : i < a.length
  · rw [List.getElem?_append_left hi] at g1
    rw [List.getElem?_append_left (by rw [← h1.1]; exact hi)] at g2
    exact h1.2 i v v' g1 g2
  · rw [List.getElem?_append_right (by omega)] at g1
    rw [List.getElem?_append_right (by rw [← h1.1]; omega), ← h1.1] at g2
    exact h2.2 _ v v' g1 g2
theorem RL.get {β : Beta} {l l' : List Value} (h : RL β l l') {i : Nat} {v : Value} (hv : l[i]? = some v) : ∃ v', l'[i]? = some v' ∧ RV β v v' := by
  have hi : i < l'.length := by rw [← h.1]; exact (List.getElem?_eq_some_iff.1 hv).1
  exact ⟨l'[i], List.getElem?_eq_getElem hi, h.2 i v _ hv (List.getElem?_eq_getElem hi)⟩
theorem RL.set {β : Beta} {l l' : List Value} (h : RL β l l') (i : Nat) {v v' : Value} (hv : RV β v v') : RL β (l.set i v) (l'.set i v') := by
  refine ⟨by simp [h.1], fun j u u' h1 h2 => ?_⟩
  rw [List.getElem?_set] at h1 h2
  by_cases hij : i = j
  · subst hij
    rw [if_pos rfl] at h1 h2
    split at h1
    · split at h2
      · cases h1; cases h2; exact hv
      · cases h2
    · cases h1
  · rw [if_neg hij] at h1 h2
    exact h.2 j u u' h1 h2
theorem RL.drop {β : Beta} {l l' : List Value} (h : RL β l l') (i : Nat) : RL β (l.drop i) (l'.drop i) := by
  refine ⟨by simp [h.1], fun j u u' h1 h2 => ?_⟩
  rw [List.getElem?_drop] at h1 h2
  exact h.2 _ u u' h1 h2
theorem RL.take {β : Beta} {l l' : List Value} (h : RL β l l') (i : Nat) : RL β (l.take i) (l'.take i) := by
  refine ⟨by simp [h.1], fun j u u' h1 h2 => ?_⟩
  rw [List.getElem?_take] at h1 h2
  split at h1
  · rename_i hj; rw [if_pos hj] at h2; exact h.2 _ u u' h1 h2
  · cases h1
theorem RV.agg_of {β : Beta} {l l' : List Value} (h : RL β l l') : RV β (.agg ⟨l⟩) (.agg ⟨l'⟩) := .agg h.1 fun i v v' h1 h2 => h.2 i v v' (by simpa using h1) (by simpa using h2)
theorem RV.tuple_of {β : Beta} {l l' : List Value} (h : RL β l l') : RV β (.tuple ⟨l⟩) (.tuple ⟨l'⟩) := .tuple h.1 fun i v v' h1 h2 => h.2 i v v' (by simpa using h1) (by simpa using h2)
theorem RL.of_agg {β : Beta} {l : Array Value} {v : Value} (h : RV β (.agg l) v) : ∃ l', v = .agg l' ∧ RL β l.toList l'.toList := by
  cases h with
  | agg hl h => exact ⟨_, rfl, by simpa using hl, fun i u u' h1 h2 => h i u u' (by simpa using h1) (by simpa using h2)⟩
theorem RL.of_tuple {β : Beta} {l : Array Value} {v : Value} (h : RV β (.tuple l) v) : ∃ l', v = .tuple l' ∧ RL β l.toList l'.toList := by
  cases h with
  | tuple hl h => exact ⟨_, rfl, by simpa using hl, fun i u u' h1 h2 => h i u u' (by simpa using h1) (by simpa using h2)⟩
theorem RV.cells {β : Beta} {v v' : Value} (h : RV β v v') : RL β v.cells.toList v'.cells.toList := by
  have one : ∀ {v v' : Value}, RV β v v' → RL β [v] [v'] := fun h => RL.cons h .nil
  cases h with
  | agg hl h => exact ⟨by simpa [Value.cells] using hl, fun i u u' h1 h2 => h i u u' (by simpa [Value.cells] using h1) (by simpa [Value.cells] using h2)⟩
  | bool b => exact one (.bool b)
  | int k n => exact one (.int k n)
  | string s => exact one (.string s)
  | pnil => exact one .pnil
  | ptr h => exact one (.ptr h)
  | dptr h => exact one (.dptr h)
  | snil => exact one .snil
  | slc h hc hp => exact one (.slc h hc hp)
  | dslc h hc => exact one (.dslc h hc)
  | fnil => exact one .fnil
  | func f hl h => exact one (.func f hl h)
  | inil => exact one .inil
  | iface t h => exact one (.iface t h)
  | tuple hl h => exact one (.tuple hl h)
theorem RV.one {β : Beta} {v v' : Value} (h : RV β v v') : oneCell v' = oneCell v := by cases h <;> rfl

/-- More is known. -/
def Le (β β' : Beta) : Prop := ∀ b, β b = .fresh ∨ β' b = β b ∨ (β' b = .dead ∧ β b ≠ .fresh)
theorem Le.refl (β : Beta) : Le β β := fun _ => .inr (.inl rfl)
theorem Le.trans {a b c : Beta} (h : Le a b) (k : Le b c) : Le a c := fun x => by
  rcases h x with h | h | ⟨h, hn⟩
  · exact .inl h
  · rcases k x with k | k | ⟨k, hk⟩
    · exact .inl (h ▸ k)
    · exact .inr (.inl (k.trans h))
    · exact .inr (.inr ⟨k, h ▸ hk⟩)
  · rcases k x with k | k | ⟨k, _⟩
    · rw [h] at k; cases k
    · exact .inr (.inr ⟨k.trans h, hn⟩)
    · exact .inr (.inr ⟨k, hn⟩)
theorem Le.dead {β β' : Beta} (h : Le β β') {b : Nat} (hb : β b = .dead) : β' b = .dead := by
  rcases h b with h | h | ⟨h, _⟩
  · rw [hb] at h; cases h
  · rw [h, hb]
  · exact h
theorem Le.live {β β' : Beta} (h : Le β β') {b r base lim : Nat} (hb : β b = .live r base lim) : β' b = .live r base lim ∨ β' b = .dead := by
  rcases h b with h | h | ⟨h, _⟩
  · rw [hb] at h; cases h
  · exact .inl (h.trans hb)
  · exact .inr h
theorem RV.mono {β β' : Beta} (h : Le β β') {v v' : Value} (hv : RV β v v') : RV β' v v' := by
  induction hv with
  | bool b => exact .bool b
  | int k n => exact .int k n
  | string s => exact .string s
  | pnil => exact .pnil
  | ptr hb => exact (h.live hb).elim .ptr .dptr
  | dptr hb => exact .dptr (h.dead hb)
  | snil => exact .snil
  | slc hb hc hp => exact (h.live hb).elim (fun h => .slc h hc hp) (fun h => .dslc h hc)
  | dslc hb hc => exact .dslc (h.dead hb) hc
  | fnil => exact .fnil
  | func f hl _ ih => exact .func f hl ih
  | inil => exact .inil
  | iface t _ ih => exact .iface t ih
  | agg hl _ ih => exact .agg hl ih
  | tuple hl _ ih => exact .tuple hl ih
theorem RL.mono {β β' : Beta} (h : Le β β') {l l' : List Value} (hl : RL β l l') : RL β' l l' := ⟨hl.1, fun i v v' h1 h2 => (hl.2 i v v' h1 h2).mono h⟩

def ObR (β : Beta) (ob : Ob) (r base lim : Nat) (w : World) : Prop :=
  match ob with
  | .cells size d t => ∃ c e fz, w.heap[r]? = some (.cells c e fz) ∧ size ≤ lim ∧ base + lim ≤ c.size ∧ (fz.1 = fz.2 ∨ base + lim ≤ fz.1) ∧ ∀ i, i < size → ∃ v, c[base + i]? = some v ∧ RV β (cellD d t i) v
  | .iter s pos => w.heap[r]? = some (.stringIter s pos) ∧ base = 0
  | .ro size d t => ∃ c e fz, w.heap[r]? = some (.cells c e fz) ∧ base + size ≤ c.size ∧ ∀ i, i < size → ∃ v, c[base + i]? = some v ∧ RV β (cellD d t i) v
theorem ObR.mono {β β' : Beta} (h : Le β β') {ob : Ob} {r base lim : Nat} {w w' : World} (hw : w'.heap[r]? = w.heap[r]?) (ho : ObR β ob r base lim w) : ObR β' ob r base lim w' := by
  cases ob with
  | cells size d t =>
    obtain ⟨c, e, fz, h1, h2, h3, h4, h5⟩ := ho
    exact ⟨c, e, fz, hw.trans h1, h2, h3, h4, fun i hi => by obtain ⟨v, h6, h7⟩ := h5 i hi; exact ⟨v, h6, h7.mono h⟩⟩
  | iter s pos => exact ⟨hw.trans ho.1, ho.2⟩
  | ro size d t =>
    obtain ⟨c, e, fz, h1, h2, h5⟩ := ho
    exact ⟨c, e, fz, hw.trans h1, h2, fun i hi => by obtain ⟨v, h6, h7⟩ := h5 i hi; exact ⟨v, h6, h7.mono h⟩⟩
theorem ObR.lt {β : Beta} {ob : Ob} {r base lim : Nat} {w : World} (h : ObR β ob r base lim w) : r < w.heap.size := by
  cases ob with
  | cells size d t => obtain ⟨c, e, fz, h1, _⟩ := h; exact (Array.getElem?_eq_some_iff.1 h1).1
  | iter s pos => exact (Array.getElem?_eq_some_iff.1 h.1).1
  | ro size d t => obtain ⟨c, e, fz, h1, _⟩ := h; exact (Array.getElem?_eq_some_iff.1 h1).1

/-- The world is one that the memory stands for. -/
structure Rel (G : Nat → Bool) (β : Beta) (s : St) (w : World) : Prop where
  n : ∀ b, s.n ≤ b → β b = .fresh
  live : ∀ b r base lim, β b = .live r base lim → ∃ ob, Tr.get (bits b) s.m = some ob ∧ ObR β ob r base lim w
  inj : ∀ b b' r base lim base' lim', β b = .live r base lim → β b' = .live r base' lim' → b = b'
  glob : ∀ g, G g = true → ∃ lim, β g = .live g 0 lim
  gn : ∀ g, G g = true → g < s.n
  dead : ∀ b, β b = .dead → Tr.get (bits b) s.m = none
theorem Rel.lt {G : Nat → Bool} {β : Beta} {s : St} {w : World} (h : Rel G β s w) {b r base lim : Nat} (hb : β b = .live r base lim) : b < s.n := by
  rcases Nat.lt_or_ge b s.n with h' | h'
  · exact h'
  · have := h.n b h'; rw [hb] at this; cases this
theorem Rel.rlt {G : Nat → Bool} {β : Beta} {s : St} {w : World} (h : Rel G β s w) {b r base lim : Nat} (hb : β b = .live r base lim) : r < w.heap.size := by
  obtain ⟨ob, _, ho⟩ := h.live b r base lim hb
  exact ho.lt

/-- Outside the heap all is as it was. -/
def Oth (w w' : World) : Prop := w'.os = w.os ∧ w'.tape = w.tape ∧ w'.output = w.output
theorem Oth.refl (w : World) : Oth w w := ⟨rfl, rfl, rfl⟩
theorem Oth.trans {a b c : World} (h : Oth a b) (k : Oth b c) : Oth a c := ⟨k.1.trans h.1, k.2.1.trans h.2.1, k.2.2.trans h.2.2⟩
/-- From one to another. -/
structure Ev (G : Nat → Bool) (β : Beta) (s : St) (w : World) (β' : Beta) (s' : St) (w' : World) : Prop where
  rel : Rel G β' s' w'
  le : Le β β'
  sz : w.heap.size ≤ w'.heap.size
  out : ∀ r, r < w.heap.size → (∀ b base lim, β b ≠ .live r base lim) → w'.heap[r]? = w.heap[r]?
  new : ∀ b r base lim, β' b = .live r base lim → (∃ b0 base0 lim0, β b0 = .live r base0 lim0) ∨ w.heap.size ≤ r
  sn : s.n ≤ s'.n
  abs : ∀ b, b < s.n → β b = .fresh → Tr.get (bits b) s'.m = Tr.get (bits b) s.m ∧ β' b = .fresh
  oth : Oth w w'
  ro : ∀ b size d t, b < s.n → Tr.get (bits b) s.m = some (.ro size d t) → Tr.get (bits b) s'.m = some (.ro size d t) ∧ β' b = β b ∧ ∀ r base lim, β b = .live r base lim → w'.heap[r]? = w.heap[r]?
theorem Ev.refl {G : Nat → Bool} {β : Beta} {s : St} {w : World} (h : Rel G β s w) : Ev G β s w β s w :=
  ⟨h, .refl β, Nat.le_refl _, fun _ _ _ => rfl, fun _ _ _ _ hb => .inl ⟨_, _, _, hb⟩, Nat.le_refl _, fun _ _ hb => ⟨rfl, hb⟩, .refl w, fun _ _ _ _ _ h => ⟨h, rfl, fun _ _ _ _ => rfl⟩⟩
theorem Ev.trans {G : Nat → Bool} {β0 β1 β2 : Beta} {s0 s1 s2 : St} {w0 w1 w2 : World} (h : Ev G β0 s0 w0 β1 s1 w1) (k : Ev G β1 s1 w1 β2 s2 w2) : Ev G β0 s0 w0 β2 s2 w2 := by
  refine ⟨k.rel, h.le.trans k.le, Nat.le_trans h.sz k.sz, fun r hr hn => ?_, fun b r base lim hb => ?_, Nat.le_trans h.sn k.sn, fun b hb hf => ?_, h.oth.trans k.oth, fun b size d t hb hg => by
    obtain ⟨h1, h2, h3⟩ := h.ro b _ _ _ hb hg
    obtain ⟨k1, k2, k3⟩ := k.ro b _ _ _ (Nat.lt_of_lt_of_le hb h.sn) h1
    exact ⟨k1, k2.trans h2, fun r base lim hl => (k3 r base lim (h2.trans hl)).trans (h3 r base lim hl)⟩⟩
  · refine (k.out r (Nat.lt_of_lt_of_le hr h.sz) fun b base lim hb => ?_).trans (h.out r hr hn)
    rcases h.new b r base lim hb with ⟨b0, base0, lim0, h0⟩ | h0
    · exact hn _ _ _ h0
    · omega
  · rcases k.new b r base lim hb with ⟨b0, base0, lim0, h0⟩ | h0
    · exact h.new _ _ _ _ h0
    · exact .inr (Nat.le_trans h.sz h0)
  · obtain ⟨h1, h2⟩ := h.abs b hb hf
    obtain ⟨h3, h4⟩ := k.abs b (Nat.lt_of_lt_of_le hb h.sn) h2
    exact ⟨h3.trans h1, h4⟩
/-- The heap is the same. -/
theorem Rel.heap {G : Nat → Bool} {β : Beta} {s : St} {w w' : World} (hw : w'.heap = w.heap) (h : Rel G β s w) : Rel G β s w' :=
  ⟨h.n, fun b r base lim hb => by obtain ⟨ob, h1, h2⟩ := h.live b r base lim hb; exact ⟨ob, h1, h2.mono (.refl β) (by rw [hw])⟩, h.inj, h.glob, h.gn, h.dead⟩
theorem Ev.heap {G : Nat → Bool} {β : Beta} {s : St} {w w' : World} (hw : w'.heap = w.heap) (ho : Oth w w') (h : Rel G β s w) : Ev G β s w β s w' :=
  ⟨h.heap hw, .refl β, by rw [hw]; exact Nat.le_refl _, fun _ _ _ => by rw [hw], fun _ _ _ _ hb => .inl ⟨_, _, _, hb⟩, Nat.le_refl _, fun _ _ hb => ⟨rfl, hb⟩, ho, fun _ _ _ _ _ h => ⟨h, rfl, fun _ _ _ _ => by rw [hw]⟩⟩
end
end Go.Ab
