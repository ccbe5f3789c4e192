/- Stretches of blocks, and what an abstract store tells of them. -/
import Derived.Test.YtmbeoehgpffneaaGreatDoorA22
import Derived.Test.YtmbeoehgpffneaaGreatDoorGen
namespace Go.Vc
/-- The cells of a block from o on; they may be stored to. -/
def Seg (w : World) (b o : Nat) (cs : List Value) : Prop := ∃ c e fz, w.heap[b]? = some (.cells c e fz) ∧ o + cs.length ≤ c.size ∧ (fz.1 = fz.2 ∨ o + cs.length ≤ fz.1) ∧ ∀ (j : Nat) v, cs[j]? = some v → c[o + j]? = some v
theorem Seg.cell {w : World} {b o : Nat} {cs : List Value} (h : Seg w b o cs) {j : Nat} {v : Value} (hj : cs[j]? = some v) : w.cell? ⟨b, o + j, none⟩ = some v := by
  obtain ⟨c, e, fz, h1, _, _, h4⟩ := h
  simp [World.cell?, h1, h4 j v hj]
theorem Seg.lt {w : World} {b o : Nat} {cs : List Value} (h : Seg w b o cs) : b < w.heap.size := by
  obtain ⟨c, e, fz, h1, _⟩ := h
  exact (Array.getElem?_eq_some_iff.1 h1).1
theorem Seg.of {w w' : World} {b o : Nat} {cs : List Value} (h : Seg w b o cs) (hw : w'.heap[b]? = w.heap[b]?) : Seg w' b o cs := by
  obtain ⟨c, e, fz, h1, h2⟩ := h
  exact ⟨c, e, fz, hw.trans h1, h2⟩
theorem Seg.ext {w w' : World} {b o : Nat} {cs : List Value} (h : Seg w b o cs) (hx : Ext w w') : Seg w' b o cs := h.of (hx.block b h.lt (by simp))
theorem Seg.frozen {w : World} {b o : Nat} {cs : List Value} (h : Seg w b o cs) {j : Nat} (hj : j < cs.length) : w.frozen? ⟨b, o + j, none⟩ = false := by
  obtain ⟨c, e, fz, h1, _, h4, _⟩ := h
  have : ¬ (fz.1 ≤ o + j ∧ o + j < fz.2) := by omega
  simp only [World.frozen?, h1]
  simpa using this
theorem Seg.set {w : World} {b o : Nat} {cs : List Value} (h : Seg w b o cs) {j : Nat} (hj : j < cs.length) (v : Value) : Seg (w.setCell ⟨b, o + j, none⟩ v) b o (cs.set j v) := by
  obtain ⟨c, e, fz, h1, h2, h3, h4⟩ := h
  refine ⟨_, e, fz, Go.Ab.heap_set_same w b (o + j) c e fz v h1, by simpa using h2, by simpa using h3, fun i u hi => ?_⟩
  rw [List.getElem?_set] at hi
  by_cases hij : j = i
  · subst hij
    rw [if_pos rfl, if_pos hj] at hi
    cases hi
    have : o + j < c.size := by omega
    simp [this]
  · rw [if_neg hij] at hi
    rw [Array.getElem?_setIfInBounds_ne (by omega)]
    exact h4 i u hi
theorem Seg.other {w : World} {b o b' j : Nat} {cs : List Value} {v : Value} (h : Seg w b o cs) (hne : b ≠ b') : Seg (w.setCell ⟨b', j, none⟩ v) b o cs := h.of (Go.Ab.heap_set_other w b' j b v hne)
theorem Seg.sub {w : World} {b o : Nat} {cs : List Value} (h : Seg w b o cs) {i n : Nat} (hn : i + n ≤ cs.length) : Seg w b (o + i) ((cs.drop i).take n) := by
  obtain ⟨c, e, fz, h1, h2, h3, h4⟩ := h
  have hl : ((cs.drop i).take n).length = n := by simp; omega
  refine ⟨c, e, fz, h1, by omega, by omega, fun j v hj => ?_⟩
  rw [List.getElem?_take, List.getElem?_drop] at hj
  split at hj
  · rw [Nat.add_assoc]; exact h4 _ v hj
  · cases hj
/-- A store into a stretch. -/
theorem stS {P : Program} {w : World} {t x : Nat} {z : Value} {by_ : Nat} (h : XA P t 1) (hx : Inf P x z 1 by_) {b o n cap : Nat} {cs : List Value} (hs : Seg w b o cs) (hn : cs.length = n) {k : IntKind} {i : Int} (h0 : 0 ≤ i) (h1 : i < n) {u : Value} (hu : oneC u = true) {K' : World → Prop}
    (hk : K' (w.setCell ⟨b, o + i.toNat, none⟩ u)) :
    V P (Instr.indexAt t (.slice (some ⟨b, o, none⟩) n cap) (.int k i)) w fun p w1 => U P (Instr.storeAt x p u) w1 fun _ w2 => K' w2 := by
  obtain ⟨e', z', b', ht, hi⟩ := h
  refine V.ok (r_index ht hi h0 h1) ?_
  have hlt : i.toNat < cs.length := by omega
  simp only [Nat.mul_one]
  exact U.ok (r_store hx hu (hs.cell (List.getElem?_eq_getElem hlt)) (hs.frozen hlt)) hk
/-- A load out of a stretch. -/
theorem ldS {P : Program} {w : World} {K : Value → World → Prop} {t x : Nat} (h : XA P t 1) (hl : L1 P x) {b o n cap : Nat} {cs : List Value} (hs : Seg w b o cs) {k : IntKind} {i : Int} {u : Value} (h0 : 0 ≤ i) (h1 : i < n) (hu : cs[i.toNat]? = some u) (hk : K u w) :
    V P (Instr.indexAt t (.slice (some ⟨b, o, none⟩) n cap) (.int k i)) w fun p w1 => V P (Instr.loadAt x p) w1 K := by
  obtain ⟨e', z', b', ht, hi⟩ := h
  obtain ⟨d, hd, ha⟩ := hl
  refine V.ok (r_index ht hi h0 h1) ?_
  simp only [Nat.mul_one]
  exact V.ok (r_load hd ha (hs.cell hu)) hk
/-- A load of a field of a struct at b. -/
theorem ldFS {P : Program} {w : World} {K : Value → World → Prop} {s f j ft : Nat} (hf : FA P s f j) (hl : L1 P ft) {b o : Nat} {cs : List Value} (hs : Seg w b o cs) {u : Value} (hu : cs[j]? = some u) (hk : K u w) :
    V P (Instr.fieldAt s (.pointer (some ⟨b, o, none⟩)) f) w fun q w1 => V P (Instr.loadAt ft q) w1 K := by
  obtain ⟨d, hd, ha⟩ := hl
  exact V.ok (hf.ex w b o) (V.ok (r_load hd ha (hs.cell hu)) hk)
end Go.Vc
namespace Go.Ab
noncomputable section
open Go.Vc (callD Ext Seg)
/-- All cells of a block. -/
def objL (s : St) (b : Nat) : Option (List Value) :=
  match Tr.get (bits b) s.m with
  | some (.cells size d t) => some ((List.range size).map fun i => cellD d t i)
  | _ => none
theorem Rel.seg {G : Nat → Bool} {β : Beta} {s : St} {w : World} (h : Rel G β s w) {b r base lim : Nat} {l : List Value} (hb : β b = .live r base lim) (hl : objL s b = some l) : ∃ l', Seg w r base l' ∧ RL β l l' := by
  unfold objL at hl
  split at hl <;> try (cases hl; done)
  rename_i size d t hg
  cases hl
  obtain ⟨c, e, fz, h1, h2, h3, h4, h5⟩ := h.obj hb hg
  refine ⟨(List.range size).map fun i => c[base + i]?.getD .nilIface, ⟨c, e, fz, h1, by simp; omega, by simp; omega, fun j v hj => ?_⟩, by simp, fun i v v' h6 h7 => ?_⟩
  · have hjs : j < size := by have := (List.getElem?_eq_some_iff.1 hj).1; simpa using this
    rw [List.getElem?_map, List.getElem?_range hjs] at hj
    obtain ⟨u, h8, _⟩ := h5 j hjs
    simp [h8] at hj
    rw [h8, hj]
  · have hjs : i < size := by have := (List.getElem?_eq_some_iff.1 h6).1; simpa using this
    rw [List.getElem?_map, List.getElem?_range hjs] at h6 h7
    obtain ⟨u, h8, h9⟩ := h5 i hjs
    simp [h8] at h6 h7
    subst h6 h7
    exact h9
theorem Rel.gone {G : Nat → Bool} {β : Beta} {s : St} {w : World} (h : Rel G β s w) {b : Nat} {l : List Value} (hl : objL s b = some l) : β b ≠ .dead := fun hd => by
  unfold objL at hl
  rw [h.dead b hd] at hl
  cases hl
/-- A slice that is not empty. -/
theorem RV.slice_inv {β : Beta} {b o len sz : Nat} {v : Value} (hd : β b ≠ .dead) (h : RV β (.slice (some ⟨b, o, none⟩) len sz) v) (hlen : 0 < len) :
    ∃ r base lim cap, β b = .live r base lim ∧ v = .slice (some ⟨r, base + o, none⟩) len cap ∧ len ≤ cap ∧ o + cap * sz ≤ lim := by
  cases h with
  | slc hb hc hp =>
    rcases hp with hp | ⟨rfl, hp⟩
    · omega
    · exact ⟨_, _, _, _, hb, rfl, hc, hp⟩
  | dslc hb hc => exact absurd hb hd
theorem RV.ptr_inv {β : Beta} {b o : Nat} {v : Value} (hd : β b ≠ .dead) (h : RV β (.pointer (some ⟨b, o, none⟩)) v) : ∃ r base lim, β b = .live r base lim ∧ v = .pointer (some ⟨r, base + o, none⟩) := by
  cases h with
  | ptr hb => exact ⟨_, _, _, hb, rfl⟩
  | dptr hb => exact absurd hb hd
theorem RV.bool_inv' {β : Beta} {b : Bool} {v : Value} (h : RV β (.bool b) v) : v = .bool b := by cases h; rfl
theorem RV.int_inv' {β : Beta} {k : IntKind} {n : Int} {v : Value} (h : RV β (.int k n) v) : v = .int k n := by cases h; rfl
/-- All that the store knows lies from B on, and is not the block q. -/
def Past (β : Beta) (B q : Nat) : Prop := ∀ b r base lim, β b = .live r base lim → B ≤ r ∧ r ≠ q
theorem Ev.past {G : Nat → Bool} {β β' : Beta} {s s' : St} {w w' : World} (h : Ev G β s w β' s' w') {B q : Nat} (hp : Past β B q) (hB : B ≤ w.heap.size) (hq : q < w.heap.size) : Past β' B q := fun b r base lim hb => by
  rcases h.new b r base lim hb with ⟨b0, base0, lim0, h0⟩ | h0
  · exact hp _ _ _ _ h0
  · exact ⟨by omega, by omega⟩
theorem Ev.fr {G : Nat → Bool} {β β' : Beta} {s s' : St} {w w' : World} (h : Ev G β s w β' s' w') {B q : Nat} (hp : Past β B q) : Go.Vc.Fr (fun i => B ≤ i ∧ i ≠ q) w w' :=
  ⟨h.oth.1, h.oth.2.1, h.oth.2.2, h.sz, fun i hi hn => h.out i hi fun b base lim hb => hn (hp _ _ _ _ hb)⟩
end
end Go.Ab
