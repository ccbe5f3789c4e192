/- Laws of operations on structs in blocks, and on slices whose elements are structs. -/
import Derived.Test.YtendijaeihljeaaDoorLive6
namespace Go.Vc
open Go.Proofs
section
variable {P : Program} {w : World} {K : Value → World → Prop}
/-- A new block. -/
theorem alK {t : TypeId} {z : Value} {n by_ : Nat} (hi : Inf P t z n by_) (hk : ∀ w1, Blk w1 w.heap.size z.cells.toList t → Ext w w1 → K (.pointer (some ⟨w.heap.size, 0, none⟩)) w1) : V P (Instr.alloc t true (.tuple #[])) w K :=
  V.ok (r_alloc hi) (hk _ (by unfold Blk; rw [heap_alloc_new]) ((Ext.refl w).alloc _))
theorem bxK {t : TypeId} {v : Value} (hk : ∀ w1, Blk w1 w.heap.size v.cells.toList t → Ext w w1 → K (.pointer (some ⟨w.heap.size, 0, none⟩)) w1) : V P (Instr.box t v) w K :=
  V.ok r_box (hk _ (by unfold Blk; rw [heap_alloc_new]) ((Ext.refl w).alloc _))
theorem asK {t n : TypeId} {v : Value} {K' : Value → World → Prop} (h : SA P t n) (hn : v.cells.size = n) (h1 : v.cells.toList.all oneC = true) (hk : ∀ w1, Blk w1 w.heap.size v.cells.toList t → Ext w w1 → K' (.pointer (some ⟨w.heap.size, 0, none⟩)) w1) :
    V P (Instr.alloc t true (.tuple #[])) w (fun p w1 => U P (Instr.storeAt t p v) w1 fun _ w2 => K' p w2) :=
  as_ h hn h1 (hk _ (by unfold Blk; rw [heap_alloc_new]) ((Ext.refl w).alloc _))
/-- An append onto what the call owns, of elements of any size. -/
theorem apA {t e by_ ty sz : Nat} {z : Value} (ht : P.underlying t = some (.slice e)) (hi : Inf P e z sz by_) (hz : (z.cells.size == sz) = true) (hsz : 0 < sz) {B : Nat} {v : Value} {n : Nat} {xs : List Value} (ho : w.ownsRow B e sz v n xs) {x : Value} {m : Nat} {news : List Value} (hs : SliceIs w x sz m news) (h1 : news.all oneC = true)
    (hb : (n + m) * by_ ≤ 140737488355328) (h63 : n + m ≤ maxLen) (hB : B ≤ w.heap.size) (hk : ∀ v' w', w'.ownsRow B e sz v' (n + m) (xs ++ news) → w.grownBy w' v.ownBlock → K v' w') :
    V P (Builtin.append_ #[t, t] ty #[v, x]) w K := by
  obtain ⟨i, hi', hz', hn, hby⟩ := info_parts hi
  rcases hs.2 with ⟨rfl, rfl⟩ | ⟨b, off, cap, rfl, _, _, hc⟩
  · have hnews : news = [] := by have := hs.1; simpa using this
    subst hnews
    refine V.ok (run_append_owned_none w B t ty e i sz ht hi' v n xs ho) (hk _ _ (by simpa using ho) ⟨rfl, rfl, rfl, Nat.le_refl _, fun _ _ _ => rfl⟩)
  · obtain ⟨v', w', hr, h2, h3, _⟩ := run_append_own (P := P) w B t ty e i z sz by_ ht hi' hz' hn hby (by simpa using hz) hsz v n xs ho ⟨b, off, none⟩ m cap news hs.1
      (fun j u hj => by rw [add_mk]; exact hc j u hj) (fun u hu => by rw [oneC_eq]; exact List.all_eq_true.1 h1 u hu) h63 hb hB
    exact V.ok hr (hk _ _ h2 h3)
theorem Blk.boxed {g : Nat} {cs : List Value} {e : TypeId} (h : Blk w g cs e) : Boxed w g cs := fun j u hj => by rw [Nat.zero_add, h.cell]; exact hj
/-- Only block g has changed. -/
structure Chg (w : World) (g : Nat) (w' : World) : Prop where
  ext : ∀ a, Ext a w → a.heap.size ≤ g → Ext a w'
  same : ∀ i, i ≠ g → w'.heap[i]? = w.heap[i]?
  size : w'.heap.size = w.heap.size
  grown : w.grownBy w' (some g)
theorem Chg.other {w w' : World} {g g' : Nat} {cs : List Value} {e : TypeId} (h : Chg w g w') (hne : g' ≠ g) (hb : Blk w g' cs e) : Blk w' g' cs e := by
  unfold Blk at hb ⊢
  rw [h.same g' hne]; exact hb
theorem Chg.cell {w w' : World} {g b o : Nat} (h : Chg w g w') (hne : b ≠ g) : w'.cell? ⟨b, o, none⟩ = w.cell? ⟨b, o, none⟩ := by
  unfold World.cell?
  rw [h.same b hne]
theorem Chg.ownRow {w w' : World} {g B e sz n : Nat} {v : Value} {xs : List Value} (h : Chg w g w') (ho : w.ownsRow B e sz v n xs) (hB : g < B) : w'.ownsRow B e sz v n xs :=
  ho.kept h.grown (own_ne ho fun k hk => by cases hk; exact hB)
/-- What the call owns behind g. -/
theorem Chg.own {w w' : World} {g B e n : Nat} {v : Value} {xs : List Value} (h : Chg w g w') (ho : w.ownsRow B e 1 v n xs) (hB : g < B) : SliceIs w' v 1 n xs := by
  obtain ⟨h1, h2⟩ := SliceIs.of_own ho
  refine ⟨h1, ?_⟩
  rcases h2 with h2 | ⟨b, off, cap, rfl, h3, h4, h5⟩
  · exact .inl h2
  · refine .inr ⟨b, off, cap, rfl, h3, h4, fun j u hj => ?_⟩
    rw [h.cell]
    · exact h5 j u hj
    · have := (ho.lt b rfl).1
      omega
theorem run_storeB {g : Nat} {e : TypeId} : ∀ (l done old : List Value) (w : World), l.length = old.length → (∀ u ∈ l, oneC u = true) → Blk w g (done ++ old) e →
    ∃ w', (storeCells ⟨g, 0, none⟩ l done.length).run P w = .ok () w' ∧ Blk w' g (done ++ l) e ∧ Chg w g w'
  | [], done, [], w, _, _, hb => ⟨w, by simp [storeCells], hb, ⟨fun _ h _ => h, fun _ _ => rfl, rfl, ⟨rfl, rfl, rfl, Nat.le_refl _, fun _ _ _ => rfl⟩⟩⟩
  | v :: l, done, u :: old, w, hl, h1, hb => by
    have hc := hb.cell done.length
    simp only [List.getElem?_append_right (Nat.le_refl _), Nat.sub_self, List.getElem?_cons_zero] at hc
    have hs := run_store1 (P := P) (h1 v (by simp)) hc (hb.frozen done.length)
    have hb1 : Blk (w.setCell ⟨g, done.length, none⟩ v) g ((done ++ [v]) ++ old) e := by
      have := hb.set done.length v
      rw [List.set_append_right _ _ (Nat.le_refl _)] at this
      simpa using this
    obtain ⟨w', h2, h3, h4⟩ := run_storeB l (done ++ [v]) old _ (by simpa using hl) (fun u hu => h1 u (by simp [hu])) hb1
    refine ⟨w', ?_, by simpa using h3, ⟨fun a ha hg => h4.ext a (ha.setCell hg v) hg, fun i hi => (h4.same i hi).trans (heap_setCell_other _ _ _ _ (fun he => hi he)), h4.size.trans (by simp), ⟨h4.grown.os, h4.grown.tape, h4.grown.output, by have := h4.grown.size; simpa using this, fun k hk hne => (h4.grown.block k (by simpa using hk) hne).trans (heap_setCell_other _ _ _ _ (fun he => hne (by simp [he])))⟩⟩⟩
    simp only [storeCells, add_mk, Nat.zero_add, Sem.run_bind]
    rw [hs, Result.andThen_ok]
    simpa using h2
theorem stA {t : TypeId} {z v : Value} {n by_ g : Nat} {old l : List Value} {e : TypeId} {K' : Value → World → Prop} (hi : Inf P t z n by_) (hb : Blk w g old e) (hv : v.cells = l.toArray) (hl : l.length = n) (ho : old.length = n) (h1 : l.all oneC = true)
    (hk : ∀ w', Blk w' g l e → Chg w g w' → K' undef w') : U P (Instr.storeAt t (.pointer (some ⟨g, 0, none⟩)) v) w K' := by
  obtain ⟨w', h2, h3, h4⟩ := run_storeB (P := P) l [] old w (by omega) (fun u hu => List.all_eq_true.1 h1 u hu) hb
  refine U.ok ?_ (hk w' (by simpa using h3) h4)
  simp only [List.length_nil] at h2
  simp [Instr.storeAt, Instr.sureAddr, storeVar, run_size hi, hv, hl, h2]
/-- What a block holds, as one value. -/
theorem r_var {t : TypeId} {d : TypeDesc} {z : Value} {n by_ g : Nat} {l : List Value} {e : TypeId} (ht : P.underlying t = some d) (hd : aggB d = true) (hi : Inf P t z n by_) (hb : Blk w g l e) (hl : l.length = n) :
    (loadVar t ⟨g, 0, none⟩).run P w = .ok (.agg l.toArray) w := by
  have := r_loadAgg (P := P) (w := w) (b := g) (off := 0) ht hd hi hl fun j hj => by
    obtain ⟨u, hu⟩ : ∃ u, l[j]? = some u := ⟨_, List.getElem?_eq_getElem hj⟩
    rw [hu, Nat.zero_add, hb.cell]; exact hu
  simpa [Instr.loadAt, Instr.sureAddr] using this
end
end Go.Vc
