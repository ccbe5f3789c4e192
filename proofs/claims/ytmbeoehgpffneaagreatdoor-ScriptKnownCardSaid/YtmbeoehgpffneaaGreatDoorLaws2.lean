/- Laws over memory that the call owns. -/
import Derived.Test.YtmbeoehgpffneaaGreatDoorLaws
namespace Go.Vc
section
variable {P : Program} {w : World} {K : Value → World → Prop}

theorem own_mono {w : World} {B B' e size n : Nat} {v : Value} {xs : List Value} (h : w.ownsRow B e size v n xs) (hB : B' ≤ B) : w.ownsRow B' e size v n xs := by
  refine ⟨h.1, ?_⟩
  rcases h.2 with h2 | ⟨g, cap, cur, h2, h3, h4⟩
  · exact .inl h2
  · exact .inr ⟨g, cap, cur, h2, Nat.le_trans hB h3, h4⟩
theorem own_ne {w : World} {B e size n : Nat} {v : Value} {xs : List Value} (h : w.ownsRow B e size v n xs) {row : Option Nat} (hr : ∀ k, row = some k → k < B) : v.ownBlock = none ∨ v.ownBlock ≠ row := by
  cases hv : v.ownBlock with
  | none => exact .inl rfl
  | some g => exact .inr fun he => by have := hr g he.symm; have := (h.lt g hv).1; omega

/-! ### Memory of the call's own -/
/-- A store into a row that the call owns. -/
theorem stO {t x : Nat} {z : Value} {by_ : Nat} (h : XA P t 1) (hx : Inf P x z 1 by_) {B e n : Nat} {v : Value} {xs : List Value} (ho : w.ownsRow B e 1 v n xs) {k : IntKind} {i : Int} (h0 : 0 ≤ i) (h1 : i < n) {u : Value} (hu : oneC u = true) {K' : World → Prop}
    (hk : ∀ w', w'.ownsRow B e 1 v n (xs.set i.toNat u) → w.grownBy w' v.ownBlock → K' w') :
    V P (Instr.indexAt t v (.int k i)) w fun p w1 => U P (Instr.storeAt x p u) w1 fun _ w2 => K' w2 := by
  obtain ⟨e', z', b', ht, hi⟩ := h
  have ho' := ho
  rcases ho.2 with ⟨_, rfl⟩ | ⟨g, cap, cur, rfl, hB, _⟩
  · omega
  refine V.ok (r_index ht hi h0 h1) ?_
  obtain ⟨s1, s2⟩ := ho'.stored i.toNat u
  have hc := ho'.cellAt i.toNat (by omega)
  have hlt : i.toNat < xs.length := by have := ho'.1; omega
  rw [List.getElem?_eq_getElem hlt] at hc
  simp only [Nat.zero_add, Nat.mul_one]
  exact U.ok (r_store hx hu hc (ho'.frozenAt _)) (hk _ s1 s2)
/-- A load out of a row that the call owns. -/
theorem ldO' {t x : Nat} (h : XA P t 1) (hl : L1 P x) {B e n : Nat} {v : Value} {xs : List Value} (ho : w.ownsRow B e 1 v n xs) {k : IntKind} {i : Int} {u : Value} (h0 : 0 ≤ i) (h1 : i < n) (hu : xs[i.toNat]? = some u) (hk : K u w) :
    V P (Instr.indexAt t v (.int k i)) w fun p w1 => V P (Instr.loadAt x p) w1 K := ldx h hl (SliceIs.of_own ho) h0 h1 hu hk

/-- Block g, whole. -/
def Blk (w : World) (g : Nat) (cs : List Value) (e : TypeId) : Prop := w.heap[g]? = some (.cells cs.toArray e (0, 0))
theorem Blk.ext {w w' : World} {g : Nat} {cs : List Value} {e : TypeId} (h : Blk w g cs e) (hx : Ext w w') : Blk w' g cs e := hx.obj h
theorem Blk.lt {w : World} {g : Nat} {cs : List Value} {e : TypeId} (h : Blk w g cs e) : g < w.heap.size := (Array.getElem?_eq_some_iff.1 h).1
theorem Blk.cell {w : World} {g : Nat} {cs : List Value} {e : TypeId} (h : Blk w g cs e) (j : Nat) : w.cell? ⟨g, j, none⟩ = cs[j]? := by
  rw [cell_of_row w g j cs.toArray e (0, 0) h]; simp
theorem Blk.frozen {w : World} {g : Nat} {cs : List Value} {e : TypeId} (h : Blk w g cs e) (j : Nat) : w.frozen? ⟨g, j, none⟩ = false := frozen_of_row w g j cs.toArray e h
theorem Blk.set {w : World} {g : Nat} {cs : List Value} {e : TypeId} (h : Blk w g cs e) (j : Nat) (u : Value) : Blk (w.setCell ⟨g, j, none⟩ u) g (cs.set j u) e := by
  have := heap_setCell_same w g j cs.toArray e u h
  unfold Blk
  rw [this]
  simp
theorem Blk.other {w : World} {g g' j : Nat} {cs : List Value} {e : TypeId} {u : Value} (h : Blk w g cs e) (hne : g ≠ g') : Blk (w.setCell ⟨g', j, none⟩ u) g cs e := by
  unfold Blk
  rw [heap_setCell_other w ⟨g', j, none⟩ g u hne]
  exact h
theorem Blk.drew {w : World} {g : Nat} {cs : List Value} {e : TypeId} (h : Blk w g cs e) : Blk w.drew g cs e := h
theorem Blk.slice {w : World} {g n : Nat} {cs : List Value} {e : TypeId} (h : Blk w g cs e) (hn : cs.length = n) (hm : n ≤ maxLen) : SliceIs w (.slice (some ⟨g, 0, none⟩) n n) 1 n cs :=
  ⟨by omega, .inr ⟨g, 0, n, rfl, Nat.le_refl _, hm, fun j u hj => by rw [Nat.zero_add, h.cell]; exact hj⟩⟩
/-- make([]T, n) -/
theorem mkB {t e by_ : Nat} {z : Value} (ht : P.underlying t = some (.slice e)) (hi : Inf P e z 1 by_) (hz : z.cells = #[z]) {n : Nat} (hb : by_ * n ≤ 281474976710656) (h63 : n ≤ 9223372036854775807)
    (hk : ∀ w', Blk w' w.heap.size (List.replicate n z) e → Ext w w' → w'.heap.size = w.heap.size + 1 → K (.slice (some ⟨w.heap.size, 0, none⟩) n n) w') : V P (Instr.makeSlice t (i64 n) (i64 n)) w K := by
  obtain ⟨i, hi', hz', hn, hby⟩ := info_parts hi
  have hr := run_make (P := P) w t e i z ht hi' hz' .i64 .i64 n n (by omega) (Int.le_refl _) (by rw [hby, ← Int.natCast_mul]; omega) (by omega)
  simp only [Int.toNat_natCast, hn, hz, Nat.mul_one] at hr
  refine V.ok hr (hk _ ?_ ((Ext.refl w).alloc _) (by simp))
  unfold Blk
  have := heap_alloc_new w (.cells (madeCells #[z] n) e)
  rw [this]
  congr 2
  rw [← toList_madeCells_one z n]
/-! ### Struct literals; interfaces -/
/-- A struct type all of whose fields are of one cell; its zero. -/
structure BD (P : Program) (t : TypeId) (zs : List Value) : Prop where
  of ::
  ex : ∃ fs b, P.underlying t = some (.struct fs) ∧ Inf P t (.agg zs.toArray) zs.length b ∧ ∀ w : World, (fs.mapM (fun f => do pure (f.offset, ← sizeOf f.type)) : Sem (Array (Nat × Nat))).run P w = .ok ((List.range zs.length).map (fun i => (i, 1))).toArray w
theorem fillB {n : Nat} : ∀ (l : List (Nat × Value)) (cs : List Value), cs.length = n → (l.all fun x => decide (x.1 < n) && oneC x.2) = true →
    Instr.fill ((((List.range n).map (fun i => (i, 1))).toArray)[·]?) cs.toArray l = some (l.foldl (fun cs x => cs.set x.1 x.2) cs).toArray
  | [], cs, _, _ => rfl
  | (i, v) :: l, cs, hl, h => by
    simp only [List.all_cons, Bool.and_eq_true, decide_eq_true_eq] at h
    have hi : ((((List.range n).map (fun i => (i, 1))).toArray)[i]?) = some (i, 1) := by simp [h.1.1]
    have hc := oneC_cells h.1.2
    rw [Instr.fill, hi]
    have hn : ¬ (i + 1 > cs.length) := by omega
    simp only [hc, List.size_toArray, List.length_cons, List.length_nil, Nat.zero_add, ne_eq, not_true_eq_false, decide_false, Bool.false_or, hn, Bool.false_eq_true, if_false]
    have := fillB (n := n) l (cs.set i v) (by simpa using hl) h.2
    simpa using this
theorem bld {t : TypeId} {zs : List Value} (h : BD P t zs) {parts : Array (Nat × Value)} (l : List (Nat × Value)) (hp : parts = l.toArray) (h1 : (l.all fun x => decide (x.1 < zs.length) && oneC x.2) = true)
    (hk : K (.agg (l.foldl (fun cs x => cs.set x.1 x.2) zs).toArray) w) : V P (Instr.build t parts) w K := by
  subst hp
  obtain ⟨fs, b, hu, hi, hm⟩ := h
  refine V.ok ?_ hk
  simp only [Instr.build, Sem.run_bind, run_zero hi, Result.andThen_ok, run_underlying hu, hm, Value.cells]
  rw [fillB l zs rfl h1]
  simp
structure MI (P : Program) (t : TypeId) : Prop where
  of ::
  ex : ∃ d, P.underlying t = some d ∧ notIf d = true
theorem mki {t : TypeId} (h : MI P t) {v : Value} (hk : K (.iface t v) w) : V P (Instr.makeInterface t v) w K := by
  obtain ⟨d, hu, hd⟩ := h
  refine V.ok ?_ hk
  cases d <;> first | (simp [Instr.makeInterface, run_underlying hu]; done) | cases hd
end
end Go.Vc
