/- General laws of operations (from the other texts of this seed). -/
import Derived.Test.YtjcmcfidblhnnaaDoorEb
import Derived.Test.YtjcmcfidblhnnaaDoorEc
import Derived.Deep.AppendLies
import Derived.Laws.CopyRow
import Derived.Laws.BytesArg
import Derived.Great.FillDense
import Derived.Great.BuildSlice
namespace Go.Vc
section
variable {P : Program} {w : World} {K : Value → World → Prop}
theorem stB {t x : TypeId} {z : Value} {by_ : Nat} (h : XA P t 1) (hx : Inf P x z 1 by_) {g n c e : Nat} {cs : List Value} (hb : Blk w g cs e) (hn : cs.length = n) {k : IntKind} {i : Int} (h0 : 0 ≤ i) (h1 : i < n) {u : Value} (hu : oneC u = true) {K' : World → Prop}
    (hk : K' (w.setCell ⟨g, i.toNat, none⟩ u)) :
    V P (Instr.indexAt t (.slice (some ⟨g, 0, none⟩) n c) (.int k i)) w fun p w1 => U P (Instr.storeAt x p u) w1 fun _ w2 => K' w2 := by
  obtain ⟨e', z', b', ht, hi⟩ := h
  refine V.ok (r_index ht hi h0 h1) ?_
  have hlt : i.toNat < cs.length := by omega
  have hc := hb.cell i.toNat
  rw [List.getElem?_eq_getElem hlt] at hc
  simp only [Nat.zero_add, Nat.mul_one]
  exact U.ok (r_store hx hu hc (hb.frozen _)) hk
theorem Boxed.other {b g j : Nat} {cs : List Value} {u : Value} (h : Boxed w b cs) (hne : b ≠ g) : Boxed (w.setCell ⟨g, j, none⟩ u) b cs := fun i v hi => by
  have := h i v hi
  rw [World.cell?_setCell_other _ _ _ _ (by intro he; cases he; exact hne rfl)]
  exact this
end
end Go.Vc
namespace Go.Vc
section
variable {P : Program} {w : World} {K : Value → World → Prop} {S : World → Prop} {L : Value → Prop}
theorem yfB {s f o ft b : Nat} {cs : List Value} {u : Value} (hb : ∀ w', S w' → Boxed w' b cs) (h : FA P s f o) (hl : L1 P ft) (hc : cs[o]? = some u) (hk : L u) :
    yieldS P S (Instr.fieldAt s (.pointer (some ⟨b, 0, none⟩)) f) fun q => yieldS P S (Instr.loadAt ft q) L := by
  obtain ⟨d, hd, ha⟩ := hl
  exact yieldS.ok (fun w' _ => h.ex w' b 0) (yieldS.ok (fun w' hw => r_load hd ha (hb w' hw o u hc)) hk)
theorem ySl {t x : TypeId} {v : Value} {n : Nat} {cs : List Value} {k : IntKind} {i : Int} {u : Value} (h : XA P t 1) (hl : L1 P x) (hs0 : SliceIs w v 1 n cs) (hx : ∀ w', S w' → Ext w w') (h0 : 0 ≤ i) (h1 : i < n) (hu : cs[i.toNat]? = some u) (hk : L u) :
    yieldS P S (Instr.indexAt t v (.int k i)) fun p => yieldS P S (Instr.loadAt x p) L := by
  obtain ⟨e, z, b', ht, hi⟩ := h
  obtain ⟨d, hd, ha⟩ := hl
  obtain ⟨b, off, cap, rfl, hc⟩ := hs0.there (by omega)
  refine yieldS.ok (fun w' _ => r_index ht hi h0 h1) (yieldS.ok (fun w' hw => r_load hd ha ((hx w' hw).cell ?_)) hk)
  simpa using hc _ _ hu
theorem yLen {t ty n : Nat} {m : Nat} {v : Value} {size : Nat} {cs : List Value} (h : XA P t n) (hs : SliceIs w v size m cs) (hk : L (i64 m)) : yieldS P S (Builtin.len_ #[t] ty #[v]) L := by
  obtain ⟨e, z, b, ht, hi⟩ := h
  obtain ⟨a, c, rfl⟩ := hs.shape
  exact yieldS.ok (fun w' _ => r_len ht) hk
end
end Go.Vc
namespace Go.Vc
theorem mkBv {P : Program} {w : World} {K : Value → World → Prop} {t e by_ : Nat} {z : Value} {x : Int} {n : Nat} (hx : x = (n : Int)) (ht : P.underlying t = some (.slice e)) (hi : Inf P e z 1 by_) (hz : z.cells = #[z]) (hb : by_ * n ≤ 281474976710656) (h63 : n ≤ 9223372036854775807)
    (hk : ∀ w', Blk w' w.heap.size (List.replicate n z) e → Ext w w' → w'.heap.size = w.heap.size + 1 → K (.slice (some ⟨w.heap.size, 0, none⟩) n n) w') : V P (Instr.makeSlice t (.int .i64 x) (.int .i64 x)) w K := by
  subst hx
  exact mkB ht hi hz hb h63 hk
end Go.Vc
namespace Go.Vc
section
variable {P : Program} {w : World} {S : World → Prop} {L : Value → Prop}
theorem yA {t n b : Nat} {cs : List Value} (hb : ∀ w', S w' → Boxed w' b cs) (ht : ∃ d z by_, P.underlying t = some d ∧ aggB d = true ∧ Inf P t z n by_) (hl : cs.length = n) (hk : L (.agg cs.toArray)) : yieldS P S (Instr.loadAt t (.pointer (some ⟨b, 0, none⟩))) L := by
  obtain ⟨d, z, by_, h1, h2, h3⟩ := ht
  exact yieldS.ok (fun w' hw => r_loadAgg h1 h2 h3 hl fun j hj => by
    obtain ⟨u, hu⟩ : ∃ u, cs[j]? = some u := ⟨_, List.getElem?_eq_getElem hj⟩
    rw [hu]; exact hb w' hw j u hu) hk
variable {K : Value → World → Prop}
theorem pickT {x y : Value} (h : L x) : pickD (.bool true) x y L := pickD_mk (by simpa using h)
end
end Go.Vc
namespace Go.Vc
open Go.Proofs
section
variable {P : Program} {w : World} {K : Value → World → Prop}
theorem alK {t : TypeId} {z : Value} {n by_ : Nat} (hi : Inf P t z n by_) (hk : ∀ w1, Blk w1 w.heap.size z.cells.toList t → Ext w w1 → K (.pointer (some ⟨w.heap.size, 0, none⟩)) w1) : V P (Instr.alloc t true (.tuple #[])) w K :=
  V.ok (r_alloc hi) (hk _ (by unfold Blk; rw [heap_alloc_new]) ((Ext.refl w).alloc _))
theorem bxK {t : TypeId} {v : Value} (hk : ∀ w1, Blk w1 w.heap.size v.cells.toList t → Ext w w1 → K (.pointer (some ⟨w.heap.size, 0, none⟩)) w1) : V P (Instr.box t v) w K :=
  V.ok r_box (hk _ (by unfold Blk; rw [heap_alloc_new]) ((Ext.refl w).alloc _))
theorem asK {t n : TypeId} {v : Value} {K' : Value → World → Prop} (h : SA P t n) (hn : v.cells.size = n) (h1 : v.cells.toList.all oneC = true) (hk : ∀ w1, Blk w1 w.heap.size v.cells.toList t → Ext w w1 → K' (.pointer (some ⟨w.heap.size, 0, none⟩)) w1) :
    V P (Instr.alloc t true (.tuple #[])) w (fun p w1 => U P (Instr.storeAt t p v) w1 fun _ w2 => K' p w2) :=
  as_ h hn h1 (hk _ (by unfold Blk; rw [heap_alloc_new]) ((Ext.refl w).alloc _))
theorem apA {t e by_ ty sz : Nat} {z : Value} (ht : P.underlying t = some (.slice e)) (hi : Inf P e z sz by_) (hz : (z.cells.size == sz) = true) (hsz : 0 < sz) {B : Nat} {v : Value} {n : Nat} {xs : List Value} (ho : w.ownsRow B e sz v n xs) {x : Value} {m : Nat} {news : List Value} (hs : SliceIs w x sz m news) (h1 : news.all oneC = true)
    (hb : (n + m) * by_ ≤ 140737488355328) (h63 : n + m ≤ maxLen) (hB : B ≤ w.heap.size) (hk : ∀ v' w', w'.ownsRow B e sz v' (n + m) (xs ++ news) → w.grownBy w' v.ownBlock → K v' w') :
    V P (Builtin.append_ #[t, t] ty #[v, x]) w K := by
  obtain ⟨i, hi', hz', hn, hby⟩ := info_parts hi
  rcases hs.2 with ⟨rfl, rfl⟩ | ⟨b, off, cap, rfl, _, _, hc⟩
  · have hnews : news = [] := by have := hs.1; simpa using this
    subst hnews
    refine V.ok (run_append_owned_none w B t ty e i sz ht hi' v n xs ho) (hk _ _ (by simpa using ho) ⟨rfl, rfl, rfl, Nat.le_refl _, fun _ _ _ => rfl⟩)
  · obtain ⟨v', w', hr, h2, h3, _⟩ := run_append_own (P := P) w B t ty e i z sz by_ ht hi' hz' hn hby (by simpa using hz) hsz v n xs ho ⟨b, off, none⟩ m cap news hs.1
      (fun j u hj => by rw [add_mk]; exact hc j u hj) (fun u hu => by rw [oneC_eq]; exact List.all_eq_true.1 h1 u hu) h63 hb hB
    exact V.ok hr (hk _ _ h2 h3)
theorem Blk.boxed {g : Nat} {cs : List Value} {e : TypeId} (h : Blk w g cs e) : Boxed w g cs := fun j u hj => by rw [Nat.zero_add, h.cell]; exact hj
structure Chg (w : World) (g : Nat) (w' : World) : Prop where
  ext : ∀ a, Ext a w → a.heap.size ≤ g → Ext a w'
  same : ∀ i, i ≠ g → w'.heap[i]? = w.heap[i]?
  size : w'.heap.size = w.heap.size
  grown : w.grownBy w' (some g)
theorem Chg.other {w w' : World} {g g' : Nat} {cs : List Value} {e : TypeId} (h : Chg w g w') (hne : g' ≠ g) (hb : Blk w g' cs e) : Blk w' g' cs e := by
  unfold Blk at hb ⊢
  rw [h.same g' hne]; exact hb
theorem Chg.cell {w w' : World} {g b o : Nat} (h : Chg w g w') (hne : b ≠ g) : w'.cell? ⟨b, o, none⟩ = w.cell? ⟨b, o, none⟩ := by
  unfold World.cell?
  rw [h.same b hne]
theorem Chg.ownRow {w w' : World} {g B e sz n : Nat} {v : Value} {xs : List Value} (h : Chg w g w') (ho : w.ownsRow B e sz v n xs) (hB : g < B) : w'.ownsRow B e sz v n xs :=
  ho.kept h.grown (own_ne ho fun k hk => by cases hk; exact hB)
theorem Chg.own {w w' : World} {g B e n : Nat} {v : Value} {xs : List Value} (h : Chg w g w') (ho : w.ownsRow B e 1 v n xs) (hB : g < B) : SliceIs w' v 1 n xs := by
  obtain ⟨h1, h2⟩ := SliceIs.of_own ho
  refine ⟨h1, ?_⟩
  rcases h2 with h2 | ⟨b, off, cap, rfl, h3, h4, h5⟩
  · exact .inl h2
  · refine .inr ⟨b, off, cap, rfl, h3, h4, fun j u hj => ?_⟩
    rw [h.cell]
    · exact h5 j u hj
    · have := (ho.lt b rfl).1
      omega
theorem run_storeB {g : Nat} {e : TypeId} : ∀ (l done old : List Value) (w : World), l.length = old.length → (∀ u ∈ l, oneC u = true) → Blk w g (done ++ old) e →
    ∃ w', (storeCells ⟨g, 0, none⟩ l done.length).run P w = .ok () w' ∧ Blk w' g (done ++ l) e ∧ Chg w g w'
  | [], done, [], w, _, _, hb => ⟨w, by simp [storeCells], hb, ⟨fun _ h _ => h, fun _ _ => rfl, rfl, ⟨rfl, rfl, rfl, Nat.le_refl _, fun _ _ _ => rfl⟩⟩⟩
  | v :: l, done, u :: old, w, hl, h1, hb => by
    have hc := hb.cell done.length
    simp only [List.getElem?_append_right (Nat.le_refl _), Nat.sub_self, List.getElem?_cons_zero] at hc
    have hs := run_store1 (P := P) (h1 v (by simp)) hc (hb.frozen done.length)
    have hb1 : Blk (w.setCell ⟨g, done.length, none⟩ v) g ((done ++ [v]) ++ old) e := by
      have := hb.set done.length v
      rw [List.set_append_right _ _ (Nat.le_refl _)] at this
      simpa using this
    obtain ⟨w', h2, h3, h4⟩ := run_storeB l (done ++ [v]) old _ (by simpa using hl) (fun u hu => h1 u (by simp [hu])) hb1
    refine ⟨w', ?_, by simpa using h3, ⟨fun a ha hg => h4.ext a (ha.setCell hg v) hg, fun i hi => (h4.same i hi).trans (heap_setCell_other _ _ _ _ (fun he => hi he)), h4.size.trans (by simp), ⟨h4.grown.os, h4.grown.tape, h4.grown.output, by have := h4.grown.size; simpa using this, fun k hk hne => (h4.grown.block k (by simpa using hk) hne).trans (heap_setCell_other _ _ _ _ (fun he => hne (by simp [he])))⟩⟩⟩
    simp only [storeCells, add_mk, Nat.zero_add, Sem.run_bind]
    rw [hs, Result.andThen_ok]
    simpa using h2
theorem stA {t : TypeId} {z v : Value} {n by_ g : Nat} {old l : List Value} {e : TypeId} {K' : Value → World → Prop} (hi : Inf P t z n by_) (hb : Blk w g old e) (hv : v.cells = l.toArray) (hl : l.length = n) (ho : old.length = n) (h1 : l.all oneC = true)
    (hk : ∀ w', Blk w' g l e → Chg w g w' → K' undef w') : U P (Instr.storeAt t (.pointer (some ⟨g, 0, none⟩)) v) w K' := by
  obtain ⟨w', h2, h3, h4⟩ := run_storeB (P := P) l [] old w (by omega) (fun u hu => List.all_eq_true.1 h1 u hu) hb
  refine U.ok ?_ (hk w' (by simpa using h3) h4)
  simp only [List.length_nil] at h2
  simp [Instr.storeAt, Instr.sureAddr, storeVar, run_size hi, hv, hl, h2]
theorem r_var {t : TypeId} {d : TypeDesc} {z : Value} {n by_ g : Nat} {l : List Value} {e : TypeId} (ht : P.underlying t = some d) (hd : aggB d = true) (hi : Inf P t z n by_) (hb : Blk w g l e) (hl : l.length = n) :
    (loadVar t ⟨g, 0, none⟩).run P w = .ok (.agg l.toArray) w := by
  have := r_loadAgg (P := P) (w := w) (b := g) (off := 0) ht hd hi hl fun j hj => by
    obtain ⟨u, hu⟩ : ∃ u, l[j]? = some u := ⟨_, List.getElem?_eq_getElem hj⟩
    rw [hu, Nat.zero_add, hb.cell]; exact hu
  simpa [Instr.loadAt, Instr.sureAddr] using this
end
end Go.Vc
namespace Go.Vc
section
variable {P : Program} {w : World} {K : Value → World → Prop} {S : World → Prop} {L : Value → Prop}
theorem ldxA {t x : TypeId} {v : Value} {n sz : Nat} {cs l : List Value} {k : IntKind} {i : Int} (h : XA P t sz) (ht : ∃ d z by_, P.underlying x = some d ∧ aggB d = true ∧ Inf P x z sz by_) (hs : SliceIs w v sz n cs) (h0 : 0 ≤ i) (h1 : i < n)
    (hc : (cs.drop (i.toNat * sz)).take sz = l) (hl : l.length = sz) (hk : K (.agg l.toArray) w) :
    V P (Instr.indexAt t v (.int k i)) w fun p w1 => V P (Instr.loadAt x p) w1 K := by
  obtain ⟨e, z, b', hte, hi⟩ := h
  obtain ⟨d, z', by_, h2, h3, h4⟩ := ht
  obtain ⟨b, off, cap, rfl, hcell⟩ := hs.there (by omega)
  refine V.ok (r_index hte hi h0 h1) (V.ok (r_loadAgg h2 h3 h4 hl fun j hj => ?_) hk)
  obtain ⟨u, hu⟩ : ∃ u, l[j]? = some u := ⟨_, List.getElem?_eq_getElem hj⟩
  rw [hu, Nat.add_assoc]
  refine hcell _ u ?_
  rw [← hc, List.getElem?_take, List.getElem?_drop] at hu
  split at hu
  · exact hu
  · cases hu
theorem yLss {t : TypeId} {a b : Int} (hk : L (.bool (decide (a < b)))) : yieldS P S (binOp .lss t (.int .i64 a) (.int .i64 b)) L := yieldS.ok (fun _ _ => r_lss) hk
theorem yGeq {t : TypeId} {a b : Int} (hk : L (.bool (decide (a ≥ b)))) : yieldS P S (binOp .geq t (.int .i64 a) (.int .i64 b)) L := yieldS.ok (fun _ _ => r_geq) hk
end
end Go.Vc
namespace Go.Vc
open Go.Proofs
section
variable {P : Program} {w : World} {K : Value → World → Prop} {S : World → Prop} {L : Value → Prop}
theorem yBld {t : TypeId} {zs : List Value} (h : BD P t zs) {parts : Array (Nat × Value)} (l : List (Nat × Value)) (hp : parts = l.toArray) (h1 : (l.all fun x => decide (x.1 < zs.length) && oneC x.2) = true)
    (hk : L (.agg (l.foldl (fun cs x => cs.set x.1 x.2) zs).toArray)) : yieldS P S (Instr.build t parts) L := by
  subst hp
  obtain ⟨fs, b, hu, hi, hm⟩ := h
  refine yieldS.ok (fun w _ => ?_) hk
  simp only [Instr.build, Sem.run_bind, run_zero hi, Result.andThen_ok, run_underlying hu, hm, Value.cells]
  rw [fillB l zs rfl h1]
  simp
theorem yMki {t : TypeId} (h : MI P t) {v : Value} (hk : L (.iface t v)) : yieldS P S (Instr.makeInterface t v) L := by
  obtain ⟨d, hu, hd⟩ := h
  refine yieldS.ok (fun w _ => ?_) hk
  cases d <;> first | (simp [Instr.makeInterface, run_underlying hu]; done) | cases hd
theorem r_max2 {t : TypeId} {ts : Array TypeId} {a b : Int} : (Builtin.max_ ts t #[.int .i64 a, .int .i64 b]).run P w = .ok (.int .i64 (if a < b then b else a)) w ∨ (Builtin.max_ ts t #[.int .i64 a, .int .i64 b]).run P w = .ok (.int .i64 (if b < a then a else b)) w := by
  simp [Builtin.max_, Builtin.max2]
theorem mx2 {t : TypeId} {ts : Array TypeId} {a b : Int} (hk : ∀ c, (c = a ∨ c = b) → a ≤ c → b ≤ c → K (.int .i64 c) w) : V P (Builtin.max_ ts t #[.int .i64 a, .int .i64 b]) w K := by
  rcases r_max2 (P := P) (w := w) (t := t) (ts := ts) (a := a) (b := b) with h | h
  · exact V.ok h (hk _ (by split <;> simp) (by split <;> omega) (by split <;> omega))
  · exact V.ok h (hk _ (by split <;> simp) (by split <;> omega) (by split <;> omega))
theorem r_min2 {t : TypeId} {ts : Array TypeId} {a b : Int} : (Builtin.min_ ts t #[.int .i64 a, .int .i64 b]).run P w = .ok (.int .i64 (if a < b then a else b)) w ∨ (Builtin.min_ ts t #[.int .i64 a, .int .i64 b]).run P w = .ok (.int .i64 (if b < a then b else a)) w := by
  simp [Builtin.min_, Builtin.min2]
theorem mn2 {t : TypeId} {ts : Array TypeId} {a b : Int} (hk : ∀ c, (c = a ∨ c = b) → c ≤ a → c ≤ b → K (.int .i64 c) w) : V P (Builtin.min_ ts t #[.int .i64 a, .int .i64 b]) w K := by
  rcases r_min2 (P := P) (w := w) (t := t) (ts := ts) (a := a) (b := b) with h | h
  · exact V.ok h (hk _ (by split <;> simp) (by split <;> omega) (by split <;> omega))
  · exact V.ok h (hk _ (by split <;> simp) (by split <;> omega) (by split <;> omega))
theorem rm {t : TypeId} {a b : Int} (hb : 0 < b) (hk : ∀ c, c = a.tmod b → -b < c → c < b → K (.int .i64 c) w) : V P (binOp .rem t (.int .i64 a) (.int .i64 b)) w K := by
  have hne : b ≠ 0 := by omega
  have hr : (binOp .rem t (.int .i64 a) (.int .i64 b)).run P w = .ok (.int .i64 (a.tmod b)) w := by simp [binOp, Op.intDiv, hne]
  exact V.ok hr (hk _ rfl (by have := Int.lt_tmod_of_pos a hb; simpa using this) (Int.tmod_lt_of_pos a hb))
theorem r_arr {t e n : TypeId} {z : Value} {by_ : Nat} (ht : P.underlying t = some (.array n e)) (hi : Inf P e z 1 by_) {b off : Nat} {i : Int} (h0 : 0 ≤ i) (h1 : i < n) :
    (Instr.indexAt t (.pointer (some ⟨b, off, none⟩)) (.int .i64 i)).run P w = .ok (.pointer (some ⟨b, off + i.toNat, none⟩)) w := by
  simp [Instr.indexAt, asIntOf, run_underlying ht, Instr.sureAddr, run_size hi, h0, h1, add_mk]
theorem r_idx {t e n : TypeId} {z : Value} {by_ : Nat} (ht : P.underlying t = some (.array n e)) (hi : Inf P e z 1 by_) (hd : ∃ k, P.underlying e = some (.int k)) {cs : Array Value} {i : Int} {u : Value} (h0 : 0 ≤ i) (h1 : i < n) (hu : cs[i.toNat]? = some u) (_ : oneC u = true) :
    (Instr.index t (.agg cs) (.int .i64 i)).run P w = .ok u w := by
  obtain ⟨k, hd⟩ := hd
  simp [Instr.index, asIntOf, run_underlying ht, run_size hi, h0, h1, part, run_isAgg hd, aggB, hu]
theorem r_hi {t e : TypeId} {z : Value} {by_ : Nat} (ht : P.underlying t = some (.slice e)) (hi : Inf P e z 1 by_) {a : Option Addr} {n c k : Nat} (hk : k ≤ c) :
    (Instr.sliceAt t (.slice a n c) none (some (.int .i64 (k : Int))) none).run P w = .ok (.slice (if c = 0 then a else a.map (·.add 0)) k c) w := by
  have h0 : (0 : Int) ≤ k ∧ (k : Int) ≤ c := ⟨by omega, by omega⟩
  simp [Instr.sliceAt, Instr.slice, run_underlying ht, run_size hi, Instr.sliceBounds, Instr.sliceBound, asIntOf, h0]
  intro h
  omega
theorem take_ints {v : Value} {xs : List Int} {t e : TypeId} {z : Value} {by_ k : Nat} (ht : P.underlying t = some (.slice e)) (hi : Inf P e z 1 by_) (h : SliceIs w v 1 xs.length (xs.map i64)) (hk : k ≤ xs.length) :
    ∃ v', (Instr.sliceAt t v none (some (.int .i64 (k : Int))) none).run P w = .ok v' w ∧ SliceIs w v' 1 (xs.take k).length ((xs.take k).map i64) ∧ ∀ b off n c, v' = .slice (some ⟨b, off, none⟩) n c → ∃ off' n' c', v = .slice (some ⟨b, off', none⟩) n' c' := by
  have hlen : (xs.take k).length = k := by simp; omega
  rcases h.2 with ⟨rfl, h0⟩ | ⟨b, off, cap, rfl, h1, h2, h3⟩
  · obtain rfl : k = 0 := by omega
    refine ⟨_, r_hi ht hi (Nat.le_refl _), ?_, fun b off n c h => by simp at h⟩
    simp
    exact SliceIs.nil w 1
  · refine ⟨_, r_hi ht hi (by omega), ?_, fun b' off' n' c' h => ⟨off, xs.length, cap, by
      have e : (if cap = 0 then some (⟨b, off, none⟩ : Addr) else (some (⟨b, off, none⟩ : Addr)).map (·.add 0)) = some ⟨b, off, none⟩ := by split <;> simp [add_mk]
      rw [e] at h
      cases h
      rfl⟩⟩
    rw [hlen]
    refine ⟨by simp; omega, .inr ⟨b, off, cap, ?_, by omega, h2, fun j u hj => ?_⟩⟩
    · split <;> simp [add_mk]
    · refine h3 j u ?_
      rw [List.getElem?_map] at hj ⊢
      rw [List.getElem?_take] at hj
      split at hj
      · exact hj
      · cases hj
end
end Go.Vc
namespace Go.Vc
section
variable {P : Program} {w : World}
theorem thK {u x : TypeId} {v : Value} {K : Value → Value → World → Prop} (h : TA P u) (hK : K (.bool true) v w) :
    V P (Instr.typeAssert (.iface u v) x u true) w fun t1 w1 => V P (Instr.extract t1 1) w1 fun t2 w2 => V P (Instr.extract t1 0) w2 fun t3 w3 => K t2 t3 w3 := by
  obtain ⟨z, hz, _⟩ := h
  refine V.ok (hz w x u v) ?_
  rw [if_pos rfl]
  exact V.ok r_ext1 (V.ok r_ext0 hK)
theorem tmK {u t x : TypeId} {v : Value} {K : Value → Value → World → Prop} (h : TA P u) (hne : t ≠ u) (hK : ∀ z, K (.bool false) z w) :
    V P (Instr.typeAssert (.iface t v) x u true) w fun t1 w1 => V P (Instr.extract t1 1) w1 fun t2 w2 => V P (Instr.extract t1 0) w2 fun t3 w3 => K t2 t3 w3 := by
  obtain ⟨z, hz, _⟩ := h
  refine V.ok (hz w x t v) ?_
  rw [if_neg hne]
  exact V.ok r_ext1 (V.ok r_ext0 (hK _))
end
end Go.Vc
namespace Go.Vc
structure Fr (S : Nat → Prop) (w w' : World) : Prop where
  os : w'.os = w.os
  tape : w'.tape = w.tape
  output : w'.output = w.output
  size : w.heap.size ≤ w'.heap.size
  block : ∀ i, i < w.heap.size → ¬ S i → w'.heap[i]? = w.heap[i]?
theorem Fr.refl (S : Nat → Prop) (w : World) : Fr S w w := ⟨rfl, rfl, rfl, Nat.le_refl _, fun _ _ _ => rfl⟩
theorem Fr.trans {S T : Nat → Prop} {a b c : World} (h : Fr S a b) (k : Fr T b c) (hT : ∀ i, i < a.heap.size → T i → S i) : Fr S a c :=
  ⟨k.os.trans h.os, k.tape.trans h.tape, k.output.trans h.output, Nat.le_trans h.size k.size, fun i hi hn => (k.block i (Nat.lt_of_lt_of_le hi h.size) fun ht => hn (hT i hi ht)).trans (h.block i hi hn)⟩
theorem Fr.or {S T : Nat → Prop} {a b c : World} (h : Fr S a b) (k : Fr T b c) : Fr (fun i => S i ∨ T i) a c :=
  ⟨k.os.trans h.os, k.tape.trans h.tape, k.output.trans h.output, Nat.le_trans h.size k.size, fun i hi hn => (k.block i (Nat.lt_of_lt_of_le hi h.size) fun ht => hn (.inr ht)).trans (h.block i hi fun hs => hn (.inl hs))⟩
theorem Fr.mono {S T : Nat → Prop} {a b : World} (h : Fr S a b) (hT : ∀ i, S i → T i) : Fr T a b := ⟨h.os, h.tape, h.output, h.size, fun i hi hn => h.block i hi fun hs => hn (hT i hs)⟩
theorem Fr.of_ext {S : Nat → Prop} {w w' : World} (h : Ext w w') : Fr S w w' := ⟨h.os, h.tape, h.output, h.size, fun i hi _ => h.block i hi (by simp)⟩
theorem Fr.of_grown {S : Nat → Prop} {w w' : World} {row : Option Nat} (h : w.grownBy w' row) (hr : ∀ k, row = some k → S k) : Fr S w w' := ⟨h.os, h.tape, h.output, h.size, fun i hi hn => h.block i hi fun he => hn (hr i he.symm)⟩
theorem Fr.of_set {S : Nat → Prop} {w : World} {b o : Nat} {v : Value} (hb : S b) : Fr S w (w.setCell ⟨b, o, none⟩ v) := ⟨rfl, rfl, rfl, by simp, fun i _ hn => heap_setCell_other _ _ _ _ (fun he => hn (by simp [he]; exact hb))⟩
theorem Fr.set {S : Nat → Prop} {w w' : World} (h : Fr S w w') {b o : Nat} {v : Value} (hb : S b) : Fr S w (w'.setCell ⟨b, o, none⟩ v) := h.trans (Fr.of_set (S := S) hb) fun _ _ h => h
theorem Fr.ext {S : Nat → Prop} {w0 w w' : World} (h : Fr S w w') (hx : Ext w0 w) (hS : ∀ i, S i → w0.heap.size ≤ i) : Ext w0 w' :=
  ⟨h.os.trans hx.os, h.tape.trans hx.tape, h.output.trans hx.output, Nat.le_trans hx.size h.size, fun i hi hn => (h.block i (Nat.lt_of_lt_of_le hi hx.size) fun hs => by have := hS i hs; omega).trans (hx.block i hi hn)⟩
theorem Fr.blk {S : Nat → Prop} {w w' : World} {g : Nat} {cs : List Value} {e : TypeId} (h : Fr S w w') (hb : Blk w g cs e) (hn : ¬ S g) : Blk w' g cs e := by
  unfold Blk
  rw [h.block g hb.lt hn]; exact hb
theorem Fr.own {S : Nat → Prop} {w w' : World} {B e sz n : Nat} {v : Value} {xs : List Value} (h : Fr S w w') (ho : w.ownsRow B e sz v n xs) (hn : ∀ k, v.ownBlock = some k → ¬ S k) : w'.ownsRow B e sz v n xs := by
  refine ⟨ho.1, ?_⟩
  rcases ho.2 with h1 | ⟨g, cap, cur, rfl, hb, hg, rest⟩
  · exact .inl h1
  · refine .inr ⟨g, cap, cur, rfl, hb, ?_, rest⟩
    rw [h.block g (Array.getElem?_eq_some_iff.1 hg).1 (hn g rfl)]
    exact hg
theorem apL {P : Program} {w : World} {K : Value → World → Prop} {t e by_ ty : Nat} (h : XE P t e by_) {B B' : Nat} {v : Value} {n : Nat} {xs : List Value} (ho : w.ownsRow B e 1 v n xs) {x : Value} {m : Nat} {news : List Value} (hs : w.ownsRow B' e 1 x m news) (hm : 0 < m) (h1 : news.all oneC = true)
    (hb : (n + m) * by_ ≤ 140737488355328) (h63 : n + m ≤ maxLen) (hB : B ≤ w.heap.size)
    (hk : ∀ g cap w', w'.ownsRow B e 1 (.slice (some ⟨g, 0, none⟩) (n + m) cap) (n + m) (xs ++ news) → w.grownBy w' v.ownBlock → (v.ownBlock = some g ∨ g = w.heap.size) → K (.slice (some ⟨g, 0, none⟩) (n + m) cap) w') :
    V P (Builtin.append_ #[t, t] ty #[v, x]) w K := by
  obtain ⟨z, ht, hi, hz⟩ := h
  obtain ⟨i, hi', hz', hn, hby⟩ := info_parts hi
  have hs0 := hs
  rcases hs.2 with ⟨_, h0⟩ | ⟨b, cap, cur, rfl, _⟩
  · omega
  · obtain ⟨g, cap, w', hr, h2, h3, h4, h5⟩ := run_append_lies (P := P) (w := w) t ty B e i z 1 by_ ht hi' hz' hn hby (by simpa using hz) (by omega) v n xs ho ⟨b, 0, none⟩ m cap news (by have := hs.1; simpa using this) (hs0.cells rfl) (fun u hu => by rw [oneC_eq]; exact List.all_eq_true.1 h1 u hu) hm h63 hb hB _ rfl
    exact V.ok hr (hk g cap w' h2 h3 h4)
end Go.Vc
namespace Go.Vc
theorem fnK {P : Program} {w : World} {K : Value → World → Prop} {f : Fn} {a c : Array Value} (h : K (.func f a c) w) : V P (Instr.makeFunc f a c) w K := V.ok (by simp [Instr.makeFunc]) h
theorem ldV {P : Program} {w : World} {K : Value → World → Prop} {t b : Nat} {v : Value} {e : TypeId} (hl : L1 P t) (hb : Blk w b [v] e) (hk : K v w) : V P (Instr.loadAt t (.pointer (some ⟨b, 0, none⟩))) w K := by
  obtain ⟨d, hd, ha⟩ := hl
  exact V.ok (r_load hd ha (by rw [hb.cell]; rfl)) hk
theorem stF {P : Program} {w : World} {K : World → Prop} {s f o ft b n by_ : Nat} {z u : Value} {cs : List Value} {e : TypeId} (hf : FA P s f o) (hi : Inf P ft z 1 by_) (hb : Blk w b cs e) (hn : cs.length = n) (ho : o < n) (hu : oneC u = true) (hk : K (w.setCell ⟨b, o, none⟩ u)) :
    V P (Instr.fieldAt s (.pointer (some ⟨b, 0, none⟩)) f) w fun q w1 => U P (Instr.storeAt ft q u) w1 fun _ w2 => K w2 := by
  refine V.ok (hf.ex w b 0) ?_
  have hc := hb.cell o
  rw [List.getElem?_eq_getElem (by omega)] at hc
  rw [Nat.zero_add]
  exact U.ok (r_store hi hu hc (hb.frozen _)) hk
end Go.Vc
namespace Go.Vc
theorem stBY {P : Program} {w : World} {x : TypeId} {z : Value} {by_ : Nat} (hx : Inf P x z 1 by_) {g e i : Nat} {cs : List Value} (hb : Blk w g cs e) (h1 : i < cs.length) {u : Value} (hu : oneC u = true) {K' : World → Prop}
    (hk : K' (w.setCell ⟨g, i, none⟩ u)) : U P (Instr.storeAt x (.pointer (some ⟨g, 0 + i * 1, none⟩)) u) w fun _ w2 => K' w2 := by
  have hc := hb.cell i
  rw [List.getElem?_eq_getElem h1] at hc
  simp only [Nat.zero_add, Nat.mul_one]
  exact U.ok (r_store hx hu hc (hb.frozen _)) hk
theorem dynD.mono {P : Program} {w : World} {f : Value} {args : Array Value} {R K : Value → World → Prop} (h : dynD P f args w R) (hk : ∀ v w', R v w' → K v w') : dynD P f args w K := by
  obtain ⟨g, cap, h1, h2⟩ := h
  exact ⟨g, cap, h1, h2.mono hk⟩
end Go.Vc
namespace Go.Vc
end Go.Vc
namespace Go.Vc
section
variable {P : Program} {w : World}
theorem stY {x : TypeId} {z : Value} {by_ : Nat} (hx : Inf P x z 1 by_) {B e n g c : Nat} {xs : List Value} (ho : w.ownsRow B e 1 (.slice (some ⟨g, 0, none⟩) n c) n xs) {i : Nat} (h1 : i < n) {u : Value} (hu : oneC u = true) {K' : World → Prop}
    (hk : ∀ w', w'.ownsRow B e 1 (.slice (some ⟨g, 0, none⟩) n c) n (xs.set i u) → w.grownBy w' (some g) → K' w') :
    U P (Instr.storeAt x (.pointer (some ⟨g, 0 + i * 1, none⟩)) u) w fun _ w2 => K' w2 := by
  obtain ⟨s1, s2⟩ := ho.stored i u
  have hc := ho.cellAt i (by omega)
  have hlt : i < xs.length := by have := ho.1; omega
  rw [List.getElem?_eq_getElem hlt] at hc
  simp only [Nat.zero_add, Nat.mul_one]
  exact U.ok (r_store hx hu hc (ho.frozenAt _)) (hk _ s1 s2)
end
end Go.Vc
namespace Go.Vc
end Go.Vc
namespace Go.Vc
end Go.Vc
namespace Go.Vc
open Go.Proofs
abbrev u8 (b : Int) : Value := .int .u8 b
section
variable {P : Program} {w : World} {K : Value → World → Prop} {S : World → Prop} {L : Value → Prop}
def BytesAre (w : World) (v : Value) (l : List Int) : Prop := SliceIs w v 1 l.length (l.map u8)
end
end Go.Vc
namespace Go.Proofs.YtjcmcfidblhnnaaDoor
open Go.Vc
inductive GNode where
  | const (dst n : Int)
  | move (dst src : Int)
  | bin (op dst a b : Int)
  | un (op dst a : Int)
  | choose (dst c a b : Int)
  | tick
  | goto (to : Int)
  | branch (cond to : Int)
  | getField (dst f : Int)
  | putField (f src : Int)
  | serve (op a b dst : Int) (args : List Int)
  | call (m dst : Int) (args : List Int)
  | callX (i dst : Int) (args : List Int)
  | ret (src : Int)
def GNode.val (sv : Value) : GNode → Value
  | .const d n => .iface 78 (.agg #[i64 d, i32 n])
  | .move d s => .iface 80 (.agg #[i64 d, i64 s])
  | .bin op d a b => .iface 82 (.agg #[i64 op, i64 d, i64 a, i64 b])
  | .un op d a => .iface 84 (.agg #[i64 op, i64 d, i64 a])
  | .choose d c a b => .iface 86 (.agg #[i64 d, i64 c, i64 a, i64 b])
  | .tick => .iface 47 (.agg #[])
  | .goto t => .iface 88 (.agg #[i64 t])
  | .branch c t => .iface 90 (.agg #[i64 c, i64 t])
  | .getField d f => .iface 92 (.agg #[i64 d, i64 f])
  | .putField f s => .iface 94 (.agg #[i64 f, i64 s])
  | .serve op a b d _ => .iface 96 (.agg #[i64 op, i64 a, i64 b, i64 d, sv])
  | .call m d _ => .iface 98 (.agg #[i64 m, i64 d, sv])
  | .callX i d _ => .iface 100 (.agg #[i64 i, i64 d, sv])
  | .ret s => .iface 49 (.agg #[i64 s])
def GNode.args : GNode → List Int
  | .serve _ _ _ _ l | .call _ _ l | .callX _ _ l => l
  | _ => []
def GNode.df : GNode → Int
  | .const d _ | .move d _ | .bin _ d _ _ | .un _ d _ | .choose d _ _ _ | .getField d _ | .serve _ _ _ d _ | .call _ d _ | .callX _ d _ => d
  | _ => -1
def GNode.us : GNode → List Int
  | .move _ s => [s]
  | .bin _ _ a b => [a, b]
  | .un _ _ a => [a]
  | .choose _ c a b => [c, a, b]
  | .branch c _ => [c]
  | .putField _ s => [s]
  | .serve _ _ _ _ l | .call _ _ l | .callX _ _ l => l
  | .ret s => if s = -1 then [] else [s]
  | _ => []
def GNode.nx (n : GNode) (k : Int) : List Int :=
  match n with
  | .goto t => [t]
  | .branch _ t => if t = k + 1 then [k + 1] else [k + 1, t]
  | .ret _ => []
  | _ => [k + 1]
def IntsAre (w : World) (v : Value) (l : List Int) : Prop := SliceIs w v 1 l.length (l.map i64)
def BoolsAre (w : World) (v : Value) (l : List Bool) : Prop := SliceIs w v 1 l.length (l.map .bool)
def NodeIs (w : World) (v : Value) (n : GNode) : Prop := ∃ sv, v = n.val sv ∧ IntsAre w sv n.args
theorem NodeIs.ext {w w' : World} {v : Value} {n : GNode} (h : NodeIs w v n) (hx : Ext w w') : NodeIs w' v n := by
  obtain ⟨sv, h1, h2⟩ := h
  exact ⟨sv, h1, h2.ext hx⟩
structure GProg where
  params : Int
  regs : Int
  nodes : List GNode
def NodesAre (w : World) (v : Value) (l : List GNode) : Prop := ∃ vs, SliceIs w v 1 l.length vs ∧ ∀ (i : Nat) n, l[i]? = some n → ∃ u, vs[i]? = some u ∧ NodeIs w u n
theorem NodesAre.ext {w w' : World} {v : Value} {l : List GNode} (h : NodesAre w v l) (hx : Ext w w') : NodesAre w' v l := by
  obtain ⟨vs, h1, h2⟩ := h
  refine ⟨vs, h1.ext hx, fun i n hi => ?_⟩
  obtain ⟨u, h3, h4⟩ := h2 i n hi
  exact ⟨u, h3, h4.ext hx⟩
def ProgIs (w : World) (v : Value) (p : GProg) : Prop := ∃ ns, v = .agg #[i64 p.params, i64 p.regs, ns] ∧ NodesAre w ns p.nodes ∧ ∀ n ∈ p.nodes, n.args.length ≤ 4294967296
theorem ProgIs.ext {w w' : World} {v : Value} {p : GProg} (h : ProgIs w v p) (hx : Ext w w') : ProgIs w' v p := by
  obtain ⟨ns, h1, h2, h3⟩ := h
  exact ⟨ns, h1, h2.ext hx, h3⟩
theorem us_len (n : GNode) : n.us.length ≤ n.args.length + 3 := by
  cases n <;> simp [GNode.us, GNode.args]
  split <;> simp
theorem nx_len (n : GNode) (k : Int) : (n.nx k).length ≤ 2 := by
  cases n <;> simp [GNode.nx]
  split <;> simp
theorem IntsAre.ext {w w' : World} {v : Value} {l : List Int} (h : IntsAre w v l) (hx : Ext w w') : IntsAre w' v l := SliceIs.ext h hx
theorem BoolsAre.ext {w w' : World} {v : Value} {l : List Bool} (h : BoolsAre w v l) (hx : Ext w w') : BoolsAre w' v l := SliceIs.ext h hx
theorem getI {l : List Int} {j : Nat} {u : Int} (h : l[j]? = some u) : (l.map i64)[(j : Int).toNat]? = some (i64 u) := by simp [h]
theorem getB {l : List Bool} {j : Nat} {u : Bool} (h : l[j]? = some u) : (l.map Value.bool)[(j : Int).toNat]? = some (.bool u) := by simp [h]
theorem ex_get {α : Type} {l : List α} {j : Nat} (h : j < l.length) : ∃ u, l[j]? = some u := ⟨_, List.getElem?_eq_getElem h⟩
theorem i64_succ (j : Nat) : Value.int .i64 ((j : Int) + 1) = i64 ((j + 1 : Nat) : Int) := by simp
theorem intOf_i64 (n : Int) : RowKit.intOf (i64 n) = n := rfl
end Go.Proofs.YtjcmcfidblhnnaaDoor
namespace Go.Vc
section
variable {P : Program} {w : World} {K : Value → World → Prop}
theorem apG {t e by_ ty sz : Nat} {z : Value} (ht : P.underlying t = some (.slice e)) (hi : Inf P e z sz by_) (hz : (z.cells.size == sz) = true) (hsz : 0 < sz) {B : Nat} {v : Value} {n : Nat} {xs : List Value} (ho : w.ownsRow B e sz v n xs) {x : Value} {m : Nat} {news : List Value} (hs : SliceIs w x sz m news) (h1 : news.all oneC = true)
    (hb : (n + m) * by_ ≤ 140737488355328) (h63 : n + m ≤ maxLen) (hB : B ≤ w.heap.size)
    (hk : ∀ v' w', w'.ownsRow B e sz v' (n + m) (xs ++ news) → w.grownBy w' v.ownBlock → (v'.ownBlock = v.ownBlock ∨ v'.ownBlock = some w.heap.size) → K v' w') :
    V P (Builtin.append_ #[t, t] ty #[v, x]) w K := by
  obtain ⟨i, hi', hz', hn, hby⟩ := info_parts hi
  rcases hs.2 with ⟨rfl, rfl⟩ | ⟨b, off, cap, rfl, _, _, hc⟩
  · have hnews : news = [] := by have := hs.1; simpa using this
    subst hnews
    exact V.ok (run_append_owned_none w B t ty e i sz ht hi' v n xs ho) (hk _ _ (by simpa using ho) ⟨rfl, rfl, rfl, Nat.le_refl _, fun _ _ _ => rfl⟩ (.inl rfl))
  · obtain ⟨v', w', hr, h2, h3, _, h5⟩ := run_append_own_at (P := P) w B t ty e i z sz by_ ht hi' hz' hn hby (by simpa using hz) hsz v n xs ho ⟨b, off, none⟩ m cap news hs.1
      (fun j u hj => by rw [add_mk]; exact hc j u hj) (fun u hu => by rw [oneC_eq]; exact List.all_eq_true.1 h1 u hu) h63 hb hB
    exact V.ok hr (hk v' w' h2 h3 h5)
theorem bslG {t e by_ sz : Nat} {z : Value} (ht : P.underlying t = some (.slice e)) (hi : Inf P e z sz by_) (hz : (z.cells.size == sz) = true) (hsz : 0 < sz) (vs : List Value) {n : Nat} {parts : Array (Nat × Value)} (hn : n = vs.length) (hp : parts.toList = (vs.zipIdx 0).map fun x => (x.2, x.1)) (hc : ∀ v ∈ vs, v.cells.size = sz)
    (h0 : 0 < n) (hl : n * sz ≤ 16777216) (hk : ∀ v w', w'.ownsRow w.heap.size e sz v n (vs.flatMap fun v => v.cells.toList) → Ext w w' → K v w') : V P (Instr.buildSlice t n parts) w K := by
  subst hn
  obtain ⟨i, hi', hz', hn, hby⟩ := info_parts hi
  have hz2 : z.cells.size = sz := by simpa using hz
  have hl1 : vs.length ≤ vs.length * sz := Nat.le_mul_of_pos_right _ hsz
  have hf := Go.Great.fill_whole hsz vs ((Array.range (vs.length * sz)).map (z.cells[· % z.cells.size]!)) hc (by simp)
  have hr := run_buildSlice (P := P) w t e vs.length parts _ i z ht hi' hz' (by rw [hn]; omega) (by rw [hn]; omega) (by rw [hn, hp]; exact hf)
  refine V.ok hr (hk _ _ ?_ ((Ext.refl w).alloc _))
  have hsize : ((vs.flatMap fun v => v.cells.toList).toArray).size = vs.length * sz := by
    clear hr hf hl hp h0 hl1 hk
    simp only [List.size_toArray]
    induction vs with
    | nil => simp
    | cons v l ih =>
      have h1 := hc v (by simp)
      have h2 := ih fun u hu => hc u (by simp [hu])
      simp only [List.flatMap_cons, List.length_append, List.length_cons, Array.length_toList, h1, h2, Nat.add_mul]
      omega
  have := World.ownsRow_lit (base := w.heap.size) (e := e) (size := sz) w (vs.flatMap fun v => v.cells.toList).toArray vs.length (Nat.le_refl _) (by unfold maxLen; omega) hsize
  simpa using this
end
end Go.Vc
namespace Go.Proofs.YtjcmcfidblhnnaaDoor
open Go.Vc
theorem all_i64 (l : List Int) : (l.map i64).all oneC = true := by simp [oneC]
theorem all_vb (l : List Bool) : (l.map Value.bool).all oneC = true := by simp [oneC]
theorem clone_int {v : Value} {l : List Int} {w : World} (h : IntsAre w v l) (hl : l.length ≤ 4294967296) :
    callD Tryd.prog 64 #[v] w fun r w' => w'.ownsRow w.heap.size 3 1 r l.length (l.map i64) ∧ Ext w w' := by
  apply F64_wp
  unfold F64_den
  exact cloneD (R := fun r w' => w'.ownsRow w.heap.size 3 1 r l.length (l.map i64) ∧ Ext w w') xe_27 h (all_i64 l) (by omega) fun v' w' h1 h2 => ⟨h1, h2⟩
theorem clone_bool {v : Value} {l : List Bool} {w : World} (h : BoolsAre w v l) (hl : l.length ≤ 4294967296) :
    callD Tryd.prog 73 #[v] w fun r w' => w'.ownsRow w.heap.size 4 1 r l.length (l.map Value.bool) ∧ Ext w w' := by
  apply F73_wp
  unfold F73_den
  exact cloneD (R := fun r w' => w'.ownsRow w.heap.size 4 1 r l.length (l.map Value.bool) ∧ Ext w w') xe_57 h (all_vb l) (by omega) fun v' w' h1 h2 => ⟨h1, h2⟩
theorem def_ok {n : GNode} {v : Value} {w : World} (h : NodeIs w v n) : callD Tryd.prog 37 #[v] w fun r w' => r = i64 n.df ∧ Ext w w' := by
  obtain ⟨sv, rfl, hs⟩ := h
  obtain ⟨sa, sc, rfl⟩ := hs.shape
  apply F37_wp
  unfold F37_den
  cases n <;> (dsimp only [GNode.val]; (repeat (first | (with_reducible refine th (by first | exact ta_100 | exact ta_47 | exact ta_49 | exact ta_78 | exact ta_80 | exact ta_82 | exact ta_84 | exact ta_86 | exact ta_88 | exact ta_90 | exact ta_92 | exact ta_94 | exact ta_96 | exact ta_98) ?_) | ((with_reducible refine tm (by first | exact ta_100 | exact ta_47 | exact ta_49 | exact ta_78 | exact ta_80 | exact ta_82 | exact ta_84 | exact ta_86 | exact ta_88 | exact ta_90 | exact ta_92 | exact ta_94 | exact ta_96 | exact ta_98) (by decide) ?_); intro _ _ _))); first | exact ⟨rfl, Ext.refl _⟩ | (refine asB (by first | exact sa_100 | exact sa_128 | exact sa_136 | exact sa_143 | exact sa_25 | exact sa_29 | exact sa_33 | exact sa_40 | exact sa_47 | exact sa_49 | exact sa_53 | exact sa_57 | exact sa_59 | exact sa_74 | exact sa_78 | exact sa_80 | exact sa_82 | exact sa_84 | exact sa_86 | exact sa_88 | exact sa_90 | exact sa_92 | exact sa_94 | exact sa_96 | exact sa_98) rfl rfl fun b w1 hb x1 => ?_; refine ldB hb (by first | exact fa_100_0 | exact fa_100_1 | exact fa_100_2 | exact fa_106_0 | exact fa_106_1 | exact fa_106_2 | exact fa_106_3 | exact fa_106_4 | exact fa_106_5 | exact fa_106_6 | exact fa_106_7 | exact fa_106_8 | exact fa_136_2 | exact fa_143_0 | exact fa_143_3 | exact fa_143_4 | exact fa_143_5 | exact fa_25_0 | exact fa_25_1 | exact fa_25_2 | exact fa_29_0 | exact fa_29_1 | exact fa_33_0 | exact fa_33_1 | exact fa_33_2 | exact fa_40_0 | exact fa_40_1 | exact fa_40_2 | exact fa_40_3 | exact fa_40_4 | exact fa_40_5 | exact fa_40_6 | exact fa_40_7 | exact fa_49_0 | exact fa_53_0 | exact fa_53_1 | exact fa_53_2 | exact fa_59_0 | exact fa_59_1 | exact fa_59_2 | exact fa_65_0 | exact fa_65_1 | exact fa_65_2 | exact fa_65_3 | exact fa_72_0 | exact fa_72_1 | exact fa_72_2 | exact fa_72_3 | exact fa_72_4 | exact fa_72_5 | exact fa_74_0 | exact fa_74_1 | exact fa_74_2 | exact fa_74_3 | exact fa_74_4 | exact fa_74_5 | exact fa_78_0 | exact fa_78_1 | exact fa_80_0 | exact fa_80_1 | exact fa_82_0 | exact fa_82_1 | exact fa_82_2 | exact fa_82_3 | exact fa_84_0 | exact fa_84_1 | exact fa_84_2 | exact fa_86_0 | exact fa_86_1 | exact fa_86_2 | exact fa_86_3 | exact fa_88_0 | exact fa_90_0 | exact fa_90_1 | exact fa_92_0 | exact fa_92_1 | exact fa_94_0 | exact fa_94_1 | exact fa_96_0 | exact fa_96_1 | exact fa_96_2 | exact fa_96_3 | exact fa_98_1) (by first | exact l1_134 | exact l1_21 | exact l1_23 | exact l1_27 | exact l1_3) rfl ?_; exact ⟨rfl, x1⟩))
theorem uses_ok {n : GNode} {v : Value} {w : World} (h : NodeIs w v n) (hl : n.args.length ≤ 4294967296) : callD Tryd.prog 44 #[v] w fun r w' => w'.ownsRow w.heap.size 3 1 r n.us.length (n.us.map i64) ∧ Ext w w' := by
  obtain ⟨sv, rfl, hs⟩ := h
  obtain ⟨sa, sc, rfl⟩ := hs.shape
  apply F44_wp
  unfold F44_den
  cases n with
  | const _ _ | tick | goto _ | getField _ _ => dsimp only [GNode.val]; (repeat (first | (with_reducible refine th ta_100 ?_) | ((with_reducible refine tm (by first | exact ta_100 | exact ta_47 | exact ta_49 | exact ta_78 | exact ta_80 | exact ta_82 | exact ta_84 | exact ta_86 | exact ta_88 | exact ta_90 | exact ta_92 | exact ta_94 | exact ta_96 | exact ta_98) (by decide) ?_); intro _ _ _))); exact ⟨World.ownsRow_nil _ _ _ _, Ext.refl _⟩
  | move _ a | un _ _ a | branch a _ | putField _ a =>
    dsimp only [GNode.val]; (repeat (first | (with_reducible refine th (by first | exact ta_100 | exact ta_47 | exact ta_49 | exact ta_78 | exact ta_80 | exact ta_82 | exact ta_84 | exact ta_86 | exact ta_88 | exact ta_90 | exact ta_94) ?_) | ((with_reducible refine tm (by first | exact ta_100 | exact ta_47 | exact ta_49 | exact ta_78 | exact ta_80 | exact ta_82 | exact ta_84 | exact ta_86 | exact ta_90) (by decide) ?_); intro _ _ _)))
    refine asB (by first | exact sa_100 | exact sa_128 | exact sa_136 | exact sa_143 | exact sa_25 | exact sa_29 | exact sa_33 | exact sa_40 | exact sa_47 | exact sa_49 | exact sa_53 | exact sa_57 | exact sa_59 | exact sa_74 | exact sa_78 | exact sa_80 | exact sa_82 | exact sa_84 | exact sa_86 | exact sa_88 | exact sa_90 | exact sa_94) rfl rfl fun b w1 hb x1 => ?_; refine ldB hb (by first | exact fa_100_0 | exact fa_100_1 | exact fa_100_2 | exact fa_106_0 | exact fa_106_1 | exact fa_106_2 | exact fa_106_3 | exact fa_106_4 | exact fa_106_5 | exact fa_106_6 | exact fa_106_7 | exact fa_106_8 | exact fa_136_2 | exact fa_143_0 | exact fa_143_3 | exact fa_143_4 | exact fa_143_5 | exact fa_25_0 | exact fa_25_1 | exact fa_25_2 | exact fa_29_0 | exact fa_29_1 | exact fa_33_0 | exact fa_33_1 | exact fa_33_2 | exact fa_40_0 | exact fa_40_1 | exact fa_40_2 | exact fa_40_3 | exact fa_40_4 | exact fa_40_5 | exact fa_40_6 | exact fa_40_7 | exact fa_49_0 | exact fa_53_0 | exact fa_53_1 | exact fa_53_2 | exact fa_59_0 | exact fa_59_1 | exact fa_59_2 | exact fa_65_0 | exact fa_65_1 | exact fa_65_2 | exact fa_65_3 | exact fa_72_0 | exact fa_72_1 | exact fa_72_2 | exact fa_72_3 | exact fa_72_4 | exact fa_72_5 | exact fa_74_0 | exact fa_74_1 | exact fa_74_2 | exact fa_74_3 | exact fa_74_4 | exact fa_74_5 | exact fa_78_0 | exact fa_78_1 | exact fa_80_0 | exact fa_80_1 | exact fa_82_0 | exact fa_82_1 | exact fa_82_2 | exact fa_82_3 | exact fa_84_0 | exact fa_84_1 | exact fa_84_2 | exact fa_86_0 | exact fa_86_1 | exact fa_86_2 | exact fa_86_3 | exact fa_88_0 | exact fa_90_0 | exact fa_94_1) (by first | exact l1_134 | exact l1_21 | exact l1_23 | exact l1_27 | exact l1_3) rfl ?_
    refine bsl (by first | exact xe_23 | exact xe_27) [i64 a] rfl rfl (by simp) rfl fun v w2 ho x2 => ?_
    exact ⟨own_mono ho x1.size, x1.trans x2⟩
  | bin _ _ a c =>
    dsimp only [GNode.val]; (repeat (first | (with_reducible refine th (by first | exact ta_100 | exact ta_82) ?_) | ((with_reducible refine tm (by first | exact ta_100 | exact ta_80) (by decide) ?_); intro _ _ _)))
    refine asB sa_82 rfl rfl fun b w1 hb x1 => ?_; refine ldB hb fa_82_2 l1_3 rfl ?_; refine ldB hb fa_82_3 l1_3 rfl ?_
    refine bsl xe_27 [i64 a, i64 c] rfl rfl (by simp) rfl fun v w2 ho x2 => ?_
    exact ⟨own_mono ho x1.size, x1.trans x2⟩
  | choose _ a c d =>
    dsimp only [GNode.val]; (repeat (first | (with_reducible refine th (by first | exact ta_100 | exact ta_86) ?_) | ((with_reducible refine tm (by first | exact ta_100 | exact ta_47 | exact ta_49 | exact ta_78 | exact ta_80 | exact ta_82 | exact ta_84) (by decide) ?_); intro _ _ _)))
    refine asB sa_86 rfl rfl fun b w1 hb x1 => ?_; refine ldB hb fa_86_1 l1_3 rfl ?_; refine ldB hb fa_86_2 l1_3 rfl ?_; refine ldB hb fa_86_3 l1_3 rfl ?_
    refine bsl xe_27 [i64 a, i64 c, i64 d] rfl rfl (by simp) rfl fun v w2 ho x2 => ?_
    exact ⟨own_mono ho x1.size, x1.trans x2⟩
  | serve _ _ _ _ l | call _ _ l | callX _ _ l =>
    dsimp only [GNode.val]; (repeat (first | (with_reducible refine th (by first | exact ta_100 | exact ta_47 | exact ta_49 | exact ta_78 | exact ta_80 | exact ta_82 | exact ta_84 | exact ta_86 | exact ta_88 | exact ta_90 | exact ta_92 | exact ta_94 | exact ta_96 | exact ta_98) ?_) | ((with_reducible refine tm (by first | exact ta_100 | exact ta_47 | exact ta_49 | exact ta_78 | exact ta_80 | exact ta_82 | exact ta_84 | exact ta_86 | exact ta_88 | exact ta_90 | exact ta_92 | exact ta_94 | exact ta_96 | exact ta_98) (by decide) ?_); intro _ _ _)))
    refine asB (by first | exact sa_100 | exact sa_128 | exact sa_136 | exact sa_143 | exact sa_25 | exact sa_29 | exact sa_33 | exact sa_40 | exact sa_47 | exact sa_49 | exact sa_53 | exact sa_57 | exact sa_59 | exact sa_74 | exact sa_78 | exact sa_80 | exact sa_82 | exact sa_84 | exact sa_86 | exact sa_88 | exact sa_90 | exact sa_92 | exact sa_94 | exact sa_96 | exact sa_98) rfl rfl fun b w1 hb x1 => ?_; refine ldB hb (by first | exact fa_100_0 | exact fa_100_1 | exact fa_100_2 | exact fa_106_0 | exact fa_106_1 | exact fa_106_2 | exact fa_106_3 | exact fa_106_4 | exact fa_106_5 | exact fa_106_6 | exact fa_106_7 | exact fa_106_8 | exact fa_136_2 | exact fa_143_0 | exact fa_143_3 | exact fa_143_4 | exact fa_143_5 | exact fa_25_0 | exact fa_25_1 | exact fa_25_2 | exact fa_29_0 | exact fa_29_1 | exact fa_33_0 | exact fa_33_1 | exact fa_33_2 | exact fa_40_0 | exact fa_40_1 | exact fa_40_2 | exact fa_40_3 | exact fa_40_4 | exact fa_40_5 | exact fa_40_6 | exact fa_40_7 | exact fa_49_0 | exact fa_53_0 | exact fa_53_1 | exact fa_53_2 | exact fa_59_0 | exact fa_59_1 | exact fa_59_2 | exact fa_65_0 | exact fa_65_1 | exact fa_65_2 | exact fa_65_3 | exact fa_72_0 | exact fa_72_1 | exact fa_72_2 | exact fa_72_3 | exact fa_72_4 | exact fa_72_5 | exact fa_74_0 | exact fa_74_1 | exact fa_74_2 | exact fa_74_3 | exact fa_74_4 | exact fa_74_5 | exact fa_78_0 | exact fa_78_1 | exact fa_80_0 | exact fa_80_1 | exact fa_82_0 | exact fa_82_1 | exact fa_82_2 | exact fa_82_3 | exact fa_84_0 | exact fa_84_1 | exact fa_84_2 | exact fa_86_0 | exact fa_86_1 | exact fa_86_2 | exact fa_86_3 | exact fa_88_0 | exact fa_90_0 | exact fa_90_1 | exact fa_92_0 | exact fa_92_1 | exact fa_94_0 | exact fa_94_1 | exact fa_96_0 | exact fa_96_1 | exact fa_96_2 | exact fa_96_3 | exact fa_96_4 | exact fa_98_2) (by first | exact l1_134 | exact l1_21 | exact l1_23 | exact l1_27) rfl ?_
    exact (clone_int (hs.ext x1) hl).mono fun r w2 ⟨h1, h2⟩ => ⟨own_mono h1 x1.size, x1.trans h2⟩
  | ret s =>
    dsimp only [GNode.val]; (repeat (first | (with_reducible refine th (by first | exact ta_100 | exact ta_49) ?_) | ((with_reducible refine tm (by first | exact ta_100 | exact ta_47 | exact ta_49 | exact ta_78 | exact ta_80 | exact ta_82 | exact ta_84 | exact ta_86 | exact ta_88 | exact ta_90 | exact ta_92 | exact ta_94 | exact ta_96 | exact ta_98) (by decide) ?_); intro _ _ _)))
    refine asB sa_49 rfl rfl fun b w1 hb x1 => ?_; refine ldB hb fa_49_0 l1_3 rfl ?_
    refine V_neqI.2 (ifD_dec (fun hne => ?_) fun heq => ?_)
    · refine ldB hb fa_49_0 l1_3 rfl ?_
      refine bsl xe_27 [i64 s] rfl rfl (by simp) rfl fun v w2 ho x2 => ?_
      have hu : GNode.us (.ret s) = [s] := by simp only [GNode.us]; rw [if_neg hne]
      rw [hu]
      exact ⟨own_mono ho x1.size, x1.trans x2⟩
    · have hu : GNode.us (.ret s) = [] := by simp only [GNode.us]; rw [if_pos (by omega)]
      rw [hu]
      exact ⟨World.ownsRow_nil _ _ _ _, x1⟩
theorem next_ok {n : GNode} {v : Value} {w : World} {k : Int} (h : NodeIs w v n) (h0 : 0 ≤ k) (h1 : k ≤ 1000000) : callD Tryd.prog 59 #[v, i64 k] w fun r w' => w'.ownsRow w.heap.size 3 1 r (n.nx k).length ((n.nx k).map i64) ∧ Ext w w' := by
  obtain ⟨sv, rfl, hs⟩ := h
  obtain ⟨sa, sc, rfl⟩ := hs.shape
  apply F59_wp
  unfold F59_den
  have hw : IntKind.i64.wrap (k + 1) = k + 1 := wrap_id (by omega) (by omega)
  cases n with
  | goto t =>
    dsimp only [GNode.val]
    refine V_eqni_43.2 (ifD_false.2 ?_)
    (repeat (first | (with_reducible refine th (by first | exact ta_100 | exact ta_88) ?_) | ((with_reducible refine tm ta_100 (by decide) ?_); intro _ _ _)))
    refine asB sa_88 rfl rfl fun b w1 hb x1 => ?_; refine ldB hb fa_88_0 l1_3 rfl ?_
    refine bsl xe_27 [i64 t] rfl rfl (by simp) rfl fun v w2 ho x2 => ?_
    exact ⟨own_mono ho x1.size, x1.trans x2⟩
  | ret s =>
    dsimp only [GNode.val]
    refine V_eqni_43.2 (ifD_false.2 ?_)
    (repeat (first | (with_reducible refine th (by first | exact ta_100 | exact ta_49) ?_) | ((with_reducible refine tm (by first | exact ta_100 | exact ta_47 | exact ta_49 | exact ta_78 | exact ta_80 | exact ta_82 | exact ta_84 | exact ta_86 | exact ta_88 | exact ta_90) (by decide) ?_); intro _ _ _)))
    refine asB sa_49 rfl rfl fun b w1 hb x1 => ?_
    exact ⟨World.ownsRow_nil _ _ _ _, x1⟩
  | branch c t =>
    dsimp only [GNode.val]
    refine V_eqni_43.2 (ifD_false.2 ?_)
    (repeat (first | (with_reducible refine th (by first | exact ta_100 | exact ta_90) ?_) | ((with_reducible refine tm (by first | exact ta_100 | exact ta_88) (by decide) ?_); intro _ _ _)))
    refine asB sa_90 rfl rfl fun b w1 hb x1 => ?_; refine ldB hb fa_90_1 l1_3 rfl ?_
    refine V_add.2 ?_
    rw [hw]
    refine V_neqI.2 (ifD_dec (fun hne => ?_) fun heq => ?_)
    · refine V_add.2 ?_
      rw [hw]
      refine ldB hb fa_90_1 l1_3 rfl ?_
      refine bsl xe_27 [i64 (k + 1), i64 t] rfl rfl (by simp) rfl fun v w2 ho x2 => ?_
      have hu : GNode.nx (.branch c t) k = [k + 1, t] := by simp only [GNode.nx]; rw [if_neg hne]
      rw [hu]
      exact ⟨own_mono ho x1.size, x1.trans x2⟩
    · refine V_add.2 ?_
      rw [hw]
      refine bsl xe_27 [i64 (k + 1)] rfl rfl (by simp) rfl fun v w2 ho x2 => ?_
      have hu : GNode.nx (.branch c t) k = [k + 1] := by simp only [GNode.nx]; rw [if_pos (by omega)]
      rw [hu]
      exact ⟨own_mono ho x1.size, x1.trans x2⟩
  | _ =>
    dsimp only [GNode.val]
    refine V_eqni_43.2 (ifD_false.2 ?_)
    (repeat (first | (with_reducible refine th ta_100 ?_) | ((with_reducible refine tm (by first | exact ta_100 | exact ta_47 | exact ta_49 | exact ta_78 | exact ta_80 | exact ta_82 | exact ta_84 | exact ta_86 | exact ta_88 | exact ta_90) (by decide) ?_); intro _ _ _)))
    refine V_add.2 ?_
    rw [hw]
    refine bsl (by first | exact xe_23 | exact xe_27) [i64 (k + 1)] rfl rfl (by simp) rfl fun v w2 ho x2 => ?_
    exact ⟨ho, x2⟩
theorem in_ok {n c : Int} {w : World} : callD Tryd.prog 31 #[i64 n, i64 c] w fun r w' => r = .bool (decide (0 ≤ n ∧ n < c)) ∧ w' = w := by
  apply F31_wp
  unfold F31_den
  refine V_geq.2 ?_
  by_cases h : n ≥ 0
  · simp only [h, decide_true, gd_iff, reduceIte, V_lss, pickD_iff]
    have h' : 0 ≤ n := h
    simp []
  · simp only [h, decide_false, gd_iff, Bool.false_eq_true, reduceIte, pickD_iff]
    have h' : ¬ 0 ≤ n := h
    simp []
end Go.Proofs.YtjcmcfidblhnnaaDoor
namespace Go.Proofs.YtjcmcfidblhnnaaDoor
open Go.Vc
def serves (op : Int) : Int :=
  if op = 27 ∨ op = 28 then 1 else if op = 17 ∨ op = 18 ∨ op = 29 then 2 else if op = 30 ∨ op = 36 then 3 else if op = 31 ∨ op = 32 then 5 else -1
def okBin (op : Int) : Prop := (6 ≤ op ∧ op ≤ 14) ∨ (19 ≤ op ∧ op ≤ 21)
def okUn (op : Int) : Prop := op = 15 ∨ op = 16 ∨ op = 26
def GNode.okF : GNode → Prop
  | .bin op _ _ _ => okBin op
  | .un op _ _ => okUn op
  | .getField _ f => 0 ≤ f ∧ f < 8
  | .putField f _ => 0 ≤ f ∧ f < 8
  | .serve op _ _ _ l => serves op = l.length
  | .call m _ l => (0 ≤ m ∧ m < 8) ∧ l.length ≤ 4
  | .callX i _ l => (0 ≤ i ∧ i < 4) ∧ l.length ≤ 4
  | _ => True
def GNode.bareN : GNode → Bool
  | .const _ _ | .move _ _ | .bin _ _ _ _ | .un _ _ _ | .choose _ _ _ _ | .getField _ _ => false
  | _ => true
theorem binary_ok {op : Int} {w : World} : callD Tryd.prog 70 #[i64 op] w fun r w' => (∃ b, r = .bool b ∧ (b = true ↔ okBin op)) ∧ w' = w := by
  apply F70_wp
  have key : ∀ R : Value → World → Prop, (∀ b : Bool, (b = true ↔ okBin op) → R (.bool b) w) → F70_den (i64 op) w R := by
    intro R hR
    unfold F70_den
    by_cases h1 : op ≥ 6 <;> by_cases h2 : op ≤ 14 <;> by_cases h3 : op ≥ 19 <;> by_cases h4 : op ≤ 21 <;>
      simp only [h1, h2, h3, h4, V_leq, V_geq, gd_t, gd_f, gd_tf, gd_ft, gd_undef, pickD_iff, reduceIte, Bool.false_eq_true, decide_true, decide_false] <;> exact hR _ (by simp [okBin]; omega)
  exact key _ fun b hb => ⟨⟨b, rfl, hb⟩, rfl⟩
theorem unary_ok {op : Int} {w : World} : callD Tryd.prog 71 #[i64 op] w fun r w' => (∃ b, r = .bool b ∧ (b = true ↔ okUn op)) ∧ w' = w := by
  apply F71_wp
  have key : ∀ R : Value → World → Prop, (∀ b : Bool, (b = true ↔ okUn op) → R (.bool b) w) → F71_den (i64 op) w R := by
    intro R hR
    unfold F71_den
    rcases Bool.eq_false_or_eq_true (decide (op = 15)) with e1 | e1 <;> rcases Bool.eq_false_or_eq_true (decide (op = 16)) with e2 | e2 <;> rcases Bool.eq_false_or_eq_true (decide (op = 26)) with e3 | e3 <;>
      simp only [e1, e2, e3, V_eqlI, gd_f, gd_tf, pickD_iff, reduceIte, Bool.false_eq_true] <;> exact hR _ (by simp at e1 e2 e3; simp [okUn]; omega)
  exact key _ fun b hb => ⟨⟨b, rfl, hb⟩, rfl⟩
theorem serves_ok {op : Int} {w : World} : callD Tryd.prog 72 #[i64 op] w fun r w' => r = i64 (serves op) ∧ w' = w := by
  apply F72_wp
  unfold F72_den
  refine ⟨fun v w' => v = .bool (decide (op = 27 ∨ op = 28)) ∧ w' = w, ?_, ?_⟩
  · refine V_eqlI.2 (ifD_dec (fun h => ?_) fun h => V_eqlI.2 ?_) <;> exact ⟨by simp [h], rfl⟩
  rintro _ w1 ⟨rfl, rfl⟩ _
  refine ifD_dec (fun h => ⟨by simp [serves, h], rfl⟩) fun h1 => ?_
  refine ⟨fun v w' => v = .bool (decide (op = 17 ∨ op = 18 ∨ op = 29)) ∧ w' = w1, ?_, ?_⟩
  · refine V_eqlI.2 (ifD_dec (fun h => ?_) fun h => V_eqlI.2 (ifD_dec (fun h' => ?_) fun h' => V_eqlI.2 ?_))
    · exact ⟨by simp [h], rfl⟩
    · exact ⟨by simp [h'], rfl⟩
    · exact ⟨by simp [h, h'], rfl⟩
  rintro _ w2 ⟨rfl, rfl⟩ _
  refine ifD_dec (fun h => ⟨by simp [serves, h1, h], rfl⟩) fun h2 => ?_
  refine ⟨fun v w' => v = .bool (decide (op = 30 ∨ op = 36)) ∧ w' = w2, ?_, ?_⟩
  · refine V_eqlI.2 (ifD_dec (fun h => ?_) fun h => V_eqlI.2 ?_) <;> exact ⟨by simp [h], rfl⟩
  rintro _ w3 ⟨rfl, rfl⟩ _
  refine ifD_dec (fun h => ⟨by simp [serves, h1, h2, h], rfl⟩) fun h3 => ?_
  refine V_eqlI.2 (ifD_dec (fun h => ?_) fun h => ?_)
  · exact ifD_dec (fun _ => ⟨by subst h; rfl, rfl⟩) fun h' => absurd h h'
  refine V_eqlI.2 (ifD_dec (fun h' => ?_) fun h' => ?_)
  · exact ⟨by subst h'; rfl, rfl⟩
  · exact ⟨by simp [serves, h1, h2, h3, h, h'], rfl⟩
theorem fields_ok {n : GNode} {v : Value} {w : World} (h : NodeIs w v n) : callD Tryd.prog 58 #[v] w fun r w' => (∃ b, r = .bool b ∧ (b = true ↔ n.okF)) ∧ Ext w w' := by
  obtain ⟨sv, rfl, hs⟩ := h
  obtain ⟨sa, sc, rfl⟩ := hs.shape
  apply F58_wp
  unfold F58_den
  cases n with
  | bin op _ _ _ =>
    dsimp only [GNode.val]; (repeat (first | (with_reducible refine th (by first | exact ta_100 | exact ta_82) ?_) | ((with_reducible refine tm ta_100 (by decide) ?_); intro _ _ _))); refine asB sa_82 rfl rfl fun b w1 hb x1 => ?_; refine ldB hb fa_82_0 l1_3 rfl ?_
    exact binary_ok.mono fun r w2 ⟨h1, h2⟩ => ⟨h1, h2 ▸ x1⟩
  | un op _ _ =>
    dsimp only [GNode.val]; (repeat (first | (with_reducible refine th (by first | exact ta_100 | exact ta_84) ?_) | ((with_reducible refine tm (by first | exact ta_100 | exact ta_82) (by decide) ?_); intro _ _ _))); refine asB sa_84 rfl rfl fun b w1 hb x1 => ?_; refine ldB hb fa_84_0 l1_3 rfl ?_
    exact unary_ok.mono fun r w2 ⟨h1, h2⟩ => ⟨h1, h2 ▸ x1⟩
  | getField _ f | putField f _ =>
    dsimp only [GNode.val]; (repeat (first | (with_reducible refine th (by first | exact ta_100 | exact ta_47 | exact ta_49 | exact ta_78 | exact ta_80 | exact ta_82 | exact ta_84 | exact ta_86 | exact ta_88 | exact ta_90 | exact ta_92 | exact ta_94) ?_) | ((with_reducible refine tm (by first | exact ta_100 | exact ta_47 | exact ta_49 | exact ta_78 | exact ta_80 | exact ta_82 | exact ta_84 | exact ta_92) (by decide) ?_); intro _ _ _))); refine asB (by first | exact sa_100 | exact sa_128 | exact sa_136 | exact sa_143 | exact sa_25 | exact sa_29 | exact sa_33 | exact sa_40 | exact sa_47 | exact sa_49 | exact sa_53 | exact sa_57 | exact sa_59 | exact sa_74 | exact sa_78 | exact sa_80 | exact sa_82 | exact sa_84 | exact sa_86 | exact sa_88 | exact sa_90 | exact sa_92 | exact sa_94) rfl rfl fun b w1 hb x1 => ?_; refine ldB hb (by first | exact fa_100_0 | exact fa_100_1 | exact fa_100_2 | exact fa_106_0 | exact fa_106_1 | exact fa_106_2 | exact fa_106_3 | exact fa_106_4 | exact fa_106_5 | exact fa_106_6 | exact fa_106_7 | exact fa_106_8 | exact fa_136_2 | exact fa_143_0 | exact fa_143_3 | exact fa_143_4 | exact fa_143_5 | exact fa_25_0 | exact fa_25_1 | exact fa_25_2 | exact fa_29_0 | exact fa_29_1 | exact fa_33_0 | exact fa_33_1 | exact fa_33_2 | exact fa_40_0 | exact fa_40_1 | exact fa_40_2 | exact fa_40_3 | exact fa_40_4 | exact fa_40_5 | exact fa_40_6 | exact fa_40_7 | exact fa_49_0 | exact fa_53_0 | exact fa_53_1 | exact fa_53_2 | exact fa_59_0 | exact fa_59_1 | exact fa_59_2 | exact fa_65_0 | exact fa_65_1 | exact fa_65_2 | exact fa_65_3 | exact fa_72_0 | exact fa_72_1 | exact fa_72_2 | exact fa_72_3 | exact fa_72_4 | exact fa_72_5 | exact fa_74_0 | exact fa_74_1 | exact fa_74_2 | exact fa_74_3 | exact fa_74_4 | exact fa_74_5 | exact fa_78_0 | exact fa_78_1 | exact fa_80_0 | exact fa_80_1 | exact fa_82_0 | exact fa_82_1 | exact fa_82_2 | exact fa_82_3 | exact fa_84_0 | exact fa_84_1 | exact fa_84_2 | exact fa_86_0 | exact fa_86_1 | exact fa_86_2 | exact fa_86_3 | exact fa_88_0 | exact fa_90_0 | exact fa_90_1 | exact fa_92_0 | exact fa_92_1 | exact fa_94_0) (by first | exact l1_134 | exact l1_21 | exact l1_23 | exact l1_27 | exact l1_3) rfl ?_
    exact in_ok.mono fun r w2 ⟨h1, h2⟩ => ⟨⟨_, h1, by simp [GNode.okF]⟩, h2 ▸ x1⟩
  | serve op _ _ _ l =>
    dsimp only [GNode.val]; (repeat (first | (with_reducible refine th (by first | exact ta_100 | exact ta_96) ?_) | ((with_reducible refine tm (by first | exact ta_100 | exact ta_47 | exact ta_49 | exact ta_78 | exact ta_80 | exact ta_82 | exact ta_84 | exact ta_86 | exact ta_88 | exact ta_90 | exact ta_92 | exact ta_94) (by decide) ?_); intro _ _ _))); refine asB sa_96 rfl rfl fun b w1 hb x1 => ?_
    refine drawD.mk' (fun w' => Boxed w' b _) (hb.ext (Ext.refl _).drew) ?_
    refine yieldS.ok (fun w' hw => fa_96_0.ex w' b 0) ?_
    refine yieldS.ok (fun w' hw => r_ld_3 (hw 0 _ rfl)) ?_
    refine yieldS.ok (fun w' hw => fa_96_4.ex w' b 0) ?_
    refine yieldS.ok (fun w' hw => r_ld_27 (hw 4 _ rfl)) ?_
    refine yieldS.ok (fun w' hw => r_len Tryd.underlying27) ?_
    refine serves_ok.mono fun r w2 ⟨h1, h2⟩ => ?_
    subst h1 h2
    refine ⟨hb.ext (Ext.refl _).drew, ?_⟩
    refine yieldS.ok (fun w' hw => r_eqlI) ?_
    exact ⟨⟨_, rfl, decide_eq_true_iff⟩, x1.drew⟩
  | call m _ l | callX m _ l =>
    dsimp only [GNode.val]; (repeat (first | (with_reducible refine th (by first | exact ta_100 | exact ta_98) ?_) | ((with_reducible refine tm (by first | exact ta_100 | exact ta_47 | exact ta_49 | exact ta_78 | exact ta_80 | exact ta_82 | exact ta_84 | exact ta_86 | exact ta_88 | exact ta_90 | exact ta_92 | exact ta_94 | exact ta_96 | exact ta_98) (by decide) ?_); intro _ _ _))); refine asB (by first | exact sa_100 | exact sa_98) rfl rfl fun b w1 hb x1 => ?_; refine ldB hb (by first | exact fa_100_0 | exact fa_98_0) (by first | exact l1_134 | exact l1_21 | exact l1_23 | exact l1_27 | exact l1_3) rfl ?_
    refine in_ok.mono fun r w2 ⟨h1, h2⟩ => ?_
    subst h1 h2
    refine gd_iff.2 ?_
    split
    · rename_i hin
      refine V.ok (FA.ex (by first | exact fa_100_0 | exact fa_100_1 | exact fa_100_2 | exact fa_98_2) _ _ _) (gd_iff.2 ?_)
      rw [if_pos hin]
      refine V.ok (r_ld_27 (hb 2 _ rfl)) (gd_iff.2 ?_)
      rw [if_pos hin]
      refine V.ok (r_len Tryd.underlying27) (gd_iff.2 ?_)
      rw [if_pos hin]
      refine V_leq.2 (pickD_mk ?_)
      rw [if_pos hin]
      have := of_decide_eq_true hin
      exact ⟨⟨_, rfl, decide_eq_true_iff.trans ⟨fun h => ⟨this, by simp only [GNode.args] at h; omega⟩, fun h => by have := h.2; simp only [GNode.args]; omega⟩⟩, x1⟩
    · rename_i hin
      refine gd_iff.2 ?_
      rw [if_neg hin]
      refine gd_iff.2 ?_
      rw [if_neg hin]
      refine gd_iff.2 ?_
      rw [if_neg hin]
      refine pickD_mk ?_
      rw [if_neg hin]
      exact ⟨⟨_, rfl, by simp [GNode.okF] at hin ⊢; omega⟩, x1⟩
  | _ => dsimp only [GNode.val]; (repeat (first | (with_reducible refine th ta_100 ?_) | ((with_reducible refine tm (by first | exact ta_100 | exact ta_47 | exact ta_49 | exact ta_78 | exact ta_80 | exact ta_82 | exact ta_84 | exact ta_86 | exact ta_88 | exact ta_90 | exact ta_92 | exact ta_94 | exact ta_96 | exact ta_98) (by decide) ?_); intro _ _ _))); refine V_neqni_43.2 ?_; exact ⟨⟨_, rfl, by simp [GNode.okF]⟩, Ext.refl _⟩
theorem bare_ok {n : GNode} {v : Value} {w : World} (h : NodeIs w v n) : callD Tryd.prog 60 #[v] w fun r w' => r = .bool n.bareN ∧ w' = w := by
  obtain ⟨sv, rfl, hs⟩ := h
  apply F60_wp
  have key : ∀ R : Value → World → Prop, R (.bool n.bareN) w → F60_den (n.val sv) w R := by
    intro R hR
    unfold F60_den
    cases n <;> simp only [GNode.val, V_ta_78, V_ta_80, V_ta_82, V_ta_84, V_ta_86, V_ta_92, V_ext0, V_ext1, reduceIte, Nat.reduceEqDiff, pickD_iff, ifD_true, ifD_false, Bool.false_eq_true] <;> exact hR
  exact key _ ⟨rfl, rfl⟩
structure RightN (n : GNode) (k regs count : Int) : Prop where
  f : n.okF
  u : ∀ r ∈ n.us, 0 ≤ r ∧ r < regs
  t : ∀ r ∈ n.nx k, 0 ≤ r ∧ r < count
  d : (0 ≤ n.df ∧ n.df < regs) ∨ (n.df = -1 ∧ n.bareN = true)
theorem right_ok {p : GProg} {pv nv : Value} {n : GNode} {k : Int} {w : World} (hp : ProgIs w pv p) (hn : NodeIs w nv n) (hl : n.args.length ≤ 4294967296) (h0 : 0 ≤ k) (h1 : k ≤ 1000000) :
    callD Tryd.prog 32 #[pv, nv, i64 k] w fun r w' => (∃ b, r = .bool b ∧ (b = true ↔ RightN n k p.regs p.nodes.length)) ∧ Ext w w' := by
  obtain ⟨ns, rfl, ⟨vs, hs, _⟩, _⟩ := hp
  apply F32_wp
  unfold F32_den
  refine bx fun b w1 hb x1 => ?_
  refine (fields_ok (hn.ext x1)).mono fun r w2 ⟨⟨bf, hr, hbf⟩, x2⟩ => ?_
  subst hr
  refine V_not.2 (ifD.mk (fun hf => ?_) fun hf => ?_)
  · refine ⟨⟨false, rfl, ⟨(fun h => by cases h), fun h => ?_⟩⟩, x1.trans x2⟩
    have := hbf.2 h.f
    subst this; cases hf
  have hok : n.okF := hbf.1 (by cases bf <;> simp_all)
  refine (uses_ok (hn.ext (x1.trans x2)) hl).mono fun ul w3 ⟨hu', x3⟩ => ?_
  have hu : IntsAre w3 ul n.us := SliceIs.of_own hu'
  clear hu'
  have X3 := x1.trans (x2.trans x3)
  have hb3 := hb.ext (x2.trans x3)
  have hlen := us_len n
  refine lnx xa_27 hu ?_
  refine ⟨fun v w' => ∃ j : Nat, v = i64 j ∧ j ≤ n.us.length ∧ Ext w3 w' ∧ ∀ (i : Nat) u, i < j → n.us[i]? = some u → 0 ≤ u ∧ u < p.regs, fun v _ => n.us.length - (RowKit.intOf v).toNat,
    ⟨0, rfl, by omega, Ext.refl _, fun i u hi => by omega⟩, ?_⟩
  rintro _ w4 ⟨j, rfl, hj, x4, hall⟩ _
  refine V_lss.2 (ifD_dec (fun hlt => ?_) fun hge => ?_)
  · have hlt' : j < n.us.length := by omega
    obtain ⟨u, hu'⟩ := ex_get hlt'
    refine ldx xa_27 l1_3 (hu.ext x4) (by omega) (by omega) (getI hu') ?_
    refine ldB (hb3.ext x4) fa_25_1 l1_3 rfl ?_
    refine in_ok.mono fun r w5 ⟨hr, hw⟩ => ?_
    subst hr hw
    refine V_not.2 (ifD.mk (fun hf => ?_) fun hf => ?_)
    · refine ⟨⟨false, rfl, ⟨(fun h => by cases h), fun h => ?_⟩⟩, X3.trans x4⟩
      have := h.u u (List.mem_of_getElem? hu')
      simp [this] at hf
    · have hin : 0 ≤ u ∧ u < p.regs := by simpa using hf
      refine V_add.2 ?_
      rw [wrap_id (by omega) (by omega), i64_succ]
      refine ⟨⟨j + 1, rfl, by omega, x4, fun i u' hi hu2 => ?_⟩, by simp only [intOf_i64]; omega⟩
      by_cases hij : i = j
      · subst hij; rw [hu'] at hu2; cases hu2; exact hin
      · exact hall i u' (by omega) hu2
  have hju : j = n.us.length := by omega
  have hus : ∀ r ∈ n.us, 0 ≤ r ∧ r < p.regs := fun r hr => by
    obtain ⟨i, hi⟩ := List.getElem?_of_mem hr
    exact hall i r (by have := (List.getElem?_eq_some_iff.1 hi).1; omega) hi
  have X4 := X3.trans x4
  have hb4 := hb3.ext x4
  refine (next_ok (hn.ext X4) h0 h1).mono fun tl w5 ⟨ht', x5⟩ => ?_
  have ht : IntsAre w5 tl (n.nx k) := SliceIs.of_own ht'
  clear ht'
  have X5 := X4.trans x5
  have hb5 := hb4.ext x5
  have hlen2 := nx_len n k
  refine lnx xa_27 ht ?_
  refine ⟨fun v w' => ∃ j : Nat, v = i64 j ∧ j ≤ (n.nx k).length ∧ Ext w5 w' ∧ ∀ (i : Nat) u, i < j → (n.nx k)[i]? = some u → 0 ≤ u ∧ u < p.nodes.length, fun v _ => (n.nx k).length - (RowKit.intOf v).toNat,
    ⟨0, rfl, by omega, Ext.refl _, fun i u hi => by omega⟩, ?_⟩
  rintro _ w6 ⟨j2, rfl, hj2, x6, hall2⟩ _
  refine V_lss.2 (ifD_dec (fun hlt => ?_) fun hge2 => ?_)
  · have hlt' : j2 < (n.nx k).length := by omega
    obtain ⟨u, hu'⟩ := ex_get hlt'
    refine ldx xa_27 l1_3 (ht.ext x6) (by omega) (by omega) (getI hu') ?_
    refine ldB (hb5.ext x6) fa_25_2 l1_23 rfl ?_
    refine lnx xa_23 (hs.ext (X5.trans x6)) ?_
    refine in_ok.mono fun r w7 ⟨hr, hw⟩ => ?_
    subst hr hw
    refine V_not.2 (ifD.mk (fun hf => ?_) fun hf => ?_)
    · refine ⟨⟨false, rfl, ⟨(fun h => by cases h), fun h => ?_⟩⟩, X5.trans x6⟩
      have := h.t u (List.mem_of_getElem? hu')
      simp [this] at hf
    · have hin : 0 ≤ u ∧ u < p.nodes.length := by simpa using hf
      refine V_add.2 ?_
      rw [wrap_id (by omega) (by omega), i64_succ]
      refine ⟨⟨j2 + 1, rfl, by omega, x6, fun i u' hi hu2 => ?_⟩, by simp only [intOf_i64]; omega⟩
      by_cases hij : i = j2
      · subst hij; rw [hu'] at hu2; cases hu2; exact hin
      · exact hall2 i u' (by omega) hu2
  have hns : ∀ r ∈ n.nx k, 0 ≤ r ∧ r < p.nodes.length := fun r hr => by
    obtain ⟨i, hi⟩ := List.getElem?_of_mem hr
    exact hall2 i r (by have := (List.getElem?_eq_some_iff.1 hi).1; omega) hi
  have X6 := X5.trans x6
  have hb6 := hb5.ext x6
  refine (def_ok (hn.ext X6)).mono fun r w7 ⟨hr, x7⟩ => ?_
  subst hr
  refine ldB (hb6.ext x7) fa_25_1 l1_3 rfl ?_
  refine in_ok.mono fun r w8 ⟨hr, hw⟩ => ?_
  subst hr hw
  have X7 := X6.trans x7
  by_cases hd : 0 ≤ n.df ∧ n.df < p.regs
  · simp only [decide_eq_true hd, gd_tf, gd_undef, pickD_iff, reduceIte]
    exact ⟨⟨true, rfl, ⟨fun _ => ⟨hok, hus, hns, .inl hd⟩, fun _ => rfl⟩⟩, X7⟩
  · simp only [decide_eq_false hd, gd_f, pickD_iff, V_eqlI]
    by_cases hm : n.df = -1
    · simp only [decide_eq_true hm, gd_t]
      refine (bare_ok (hn.ext X7)).mono fun r w9 ⟨hr, hw⟩ => ?_
      subst hr hw
      refine ⟨⟨n.bareN, by simp, ⟨fun hb => ⟨hok, hus, hns, .inr ⟨hm, hb⟩⟩, fun h => ?_⟩⟩, X7⟩
      rcases h.d with h | h
      · exact absurd h hd
      · exact h.2
    · simp only [decide_eq_false hm, gd_ft]
      refine ⟨⟨false, by simp, ⟨(fun h => by cases h), fun h => ?_⟩⟩, X7⟩
      rcases h.d with h | h
      · exact absurd h hd
      · exact absurd h.1 hm
structure OkProg (p : GProg) : Prop where
  l1 : 1 ≤ p.nodes.length
  l2 : p.nodes.length ≤ 250
  r1 : 0 ≤ p.regs
  r2 : p.regs ≤ 40
  p1 : 0 ≤ p.params
  p2 : p.params ≤ 4
  p3 : p.params ≤ p.regs
  nodes : ∀ (i : Nat) n, p.nodes[i]? = some n → RightN n i p.regs p.nodes.length
theorem check_ok {p : GProg} {pv : Value} {w : World} (hp : ProgIs w pv p) (hv : OkProg p) :
    callD Tryd.prog 14 #[pv] w fun r w' => r = .bool true ∧ Ext w w' := by
  obtain ⟨ns, rfl, hn, hargs⟩ := hp
  have hn' := hn
  obtain ⟨vs, hs, hvs⟩ := hn'
  obtain ⟨l1, l2, r1, r2, p1, p2, p3, hnodes⟩ := hv
  apply F14_wp
  unfold F14_den
  refine bx fun b w1 hb x1 => ?_
  refine ldB hb fa_25_2 l1_23 rfl (lnx xa_23 (hs.ext x1) (V_lss.2 ?_))
  simp only [show decide ((p.nodes.length : Int) < 1) = false from by simp; omega, gd_f]
  refine ldB hb fa_25_2 l1_23 rfl (lnx xa_23 (hs.ext x1) (V_gtr.2 ?_))
  simp only [show decide ((p.nodes.length : Int) > 250) = false from by simp; omega, pickD_iff, Bool.false_eq_true, reduceIte, gd_f]
  refine ldB hb fa_25_1 l1_3 rfl ?_
  refine in_ok.mono fun r w5 ⟨hr, hw⟩ => ?_
  subst hr hw
  simp only [show decide (0 ≤ p.regs ∧ p.regs < 41) = true from by simp; omega, V_not, Bool.not_true, pickD_iff, Bool.false_eq_true, reduceIte, gd_f]
  refine ldB hb fa_25_0 l1_3 rfl ?_
  refine in_ok.mono fun r w5 ⟨hr, hw⟩ => ?_
  subst hr hw
  simp only [show decide (0 ≤ p.params ∧ p.params < 5) = true from by simp; omega, V_not, Bool.not_true, pickD_iff, Bool.false_eq_true, reduceIte, gd_f]
  refine ldB hb fa_25_0 l1_3 rfl (ldB hb fa_25_1 l1_3 rfl (V_gtr.2 ?_))
  simp only [show decide (p.params > p.regs) = false from by simp; omega, ifD_false]
  refine ldB hb fa_25_2 l1_23 rfl (lnx xa_23 (hs.ext x1) ?_)
  refine ⟨fun v w' => ∃ j : Nat, v = i64 j ∧ j ≤ p.nodes.length ∧ Ext w5 w', fun v _ => p.nodes.length - (RowKit.intOf v).toNat, ⟨0, rfl, by omega, Ext.refl _⟩, ?_⟩
  rintro _ w6 ⟨j, rfl, hj, x6⟩ _
  refine V_lss.2 (ifD_dec (fun hlt => ?_) fun hge => ⟨trivial, x1.trans x6⟩)
  have hlt' : j < p.nodes.length := by omega
  obtain ⟨n, hn1⟩ := ex_get hlt'
  obtain ⟨u, hu, hnu⟩ := hvs j n hn1
  have hb6 := hb.ext x6
  refine ldx xa_23 l1_43 (hs.ext (x1.trans x6)) (by omega) (by omega) (by simpa using hu) ?_
  refine ldA hb6 la_25 rfl ?_
  refine (right_ok (p := p) ⟨ns, rfl, hn.ext (x1.trans x6), hargs⟩ (hnu.ext (x1.trans x6)) (hargs n (List.mem_of_getElem? hn1)) (by omega) (by omega)).mono fun r w7 ⟨⟨bb, hr, hbb⟩, x7⟩ => ?_
  subst hr
  have := hbb.2 (hnodes j n hn1)
  subst this
  refine V_not.2 (ifD_false.2 (V_add.2 ?_))
  rw [wrap_id (by omega) (by omega), i64_succ]
  exact ⟨⟨j + 1, rfl, by omega, x6.trans x7⟩, by simp only [intOf_i64]; omega⟩
end Go.Proofs.YtjcmcfidblhnnaaDoor
namespace Go.Proofs.YtjcmcfidblhnnaaDoor
open Go.Vc
def killL (d : Int) (bs : List Bool) : List Bool := if 0 ≤ d then bs.set d.toNat false else bs
def aheadL (n : GNode) (bs : List Bool) : List Bool := n.us.foldl (fun a r => a.set r.toNat true) (killL n.df bs)
theorem killL_len (d : Int) (bs : List Bool) : (killL d bs).length = bs.length := by unfold killL; split <;> simp
theorem foldSet_len (l : List Int) (bs : List Bool) : (l.foldl (fun a r => a.set r.toNat true) bs).length = bs.length := by
  induction l generalizing bs with
  | nil => rfl
  | cons x l ih => simp [ih]
theorem aheadL_len (n : GNode) (bs : List Bool) : (aheadL n bs).length = bs.length := by unfold aheadL; rw [foldSet_len, killL_len]
theorem map_set_b (bs : List Bool) (i : Nat) (b : Bool) : (bs.map Value.bool).set i (.bool b) = (bs.set i b).map Value.bool := by rw [List.map_set]
theorem ahead_ok {n : GNode} {nv bv : Value} {bs : List Bool} {w : World} (hn : NodeIs w nv n) (hb : BoolsAre w bv bs) (hl : n.args.length ≤ 4294967296) (hbl : bs.length ≤ 4294967296)
    (hd : n.df < bs.length) (hu : ∀ r ∈ n.us, 0 ≤ r ∧ r < bs.length) :
    callD Tryd.prog 61 #[nv, bv] w fun r w' => w'.ownsRow w.heap.size 4 1 r bs.length ((aheadL n bs).map Value.bool) ∧ Ext w w' := by
  apply F61_wp
  unfold F61_den
  refine (clone_bool hb hbl).mono fun ov w1 ⟨ho, x1⟩ => ?_
  refine ⟨fun w' => w'.ownsRow w.heap.size 4 1 ov bs.length ((killL n.df bs).map Value.bool) ∧ Ext w w', ?_, ?_⟩
  · refine (def_ok (hn.ext x1)).mono fun r w2 ⟨hr, x2⟩ => ?_
    subst hr
    refine V_geq.2 (ifD_dec (fun hge => ?_) fun hlt => ?_)
    · have hge' : 0 ≤ n.df := hge
      refine stO xa_57 inf4 (x2.own ho) hge' hd rfl fun w3 ho3 hg => ?_
      rw [map_set_b] at ho3
      refine ⟨?_, (x1.trans x2).grown hg fun k hk => ((x2.own ho).lt k hk).1⟩
      unfold killL
      rw [if_pos hge']
      exact ho3
    · refine ⟨?_, x1.trans x2⟩
      unfold killL
      rw [if_neg (by simpa using hlt)]
      exact x2.own ho
  rintro w2 ⟨ho2, x2⟩ _
  refine (uses_ok (hn.ext x2) hl).mono fun ul w3 ⟨hus, x3⟩ => ?_
  have hlen := us_len n
  have hov : ∀ k, ov.ownBlock = some k → k < w2.heap.size := fun k hk => (ho2.lt k hk).2
  refine lnx xa_27 (SliceIs.of_own hus) ?_
  refine ⟨fun v w' => ∃ j : Nat, v = i64 j ∧ j ≤ n.us.length ∧ Ext w w' ∧ w'.ownsRow w2.heap.size 3 1 ul n.us.length (n.us.map i64) ∧ w'.ownsRow w.heap.size 4 1 ov bs.length (((n.us.take j).foldl (fun a r => a.set r.toNat true) (killL n.df bs)).map Value.bool),
    fun v _ => n.us.length - (RowKit.intOf v).toNat, ⟨0, rfl, by omega, x2.trans x3, hus, by simpa using x3.own ho2⟩, ?_⟩
  rintro _ w4 ⟨j, rfl, hj, x4, hus4, ho4⟩ _
  refine V_lss.2 (ifD_dec (fun hlt => ?_) fun hge => ?_)
  · have hlt' : j < n.us.length := by omega
    obtain ⟨u, hu'⟩ := ex_get hlt'
    obtain ⟨hu0, hu1⟩ := hu u (List.mem_of_getElem? hu')
    refine ldO' xa_27 l1_3 hus4 (by omega) (by omega) (getI hu') ?_
    refine stO xa_57 inf4 ho4 hu0 (by omega) rfl fun w5 ho5 hg => ?_
    refine V_add.2 ?_
    rw [wrap_id (by omega) (by omega), i64_succ]
    rw [map_set_b] at ho5
    refine ⟨⟨j + 1, rfl, by omega, x4.grown hg fun k hk => (ho4.lt k hk).1, hus4.kept hg (own_ne hus4 hov), ?_⟩, by simp only [intOf_i64]; omega⟩
    rw [List.take_add_one, hu']
    simpa using ho5
  · have hju : j = n.us.length := by omega
    subst hju
    rw [List.take_length] at ho4
    exact ⟨ho4, x4⟩
end Go.Proofs.YtjcmcfidblhnnaaDoor
namespace Go.Proofs.YtjcmcfidblhnnaaDoor
open Go.Vc
def GProg.at' (p : GProg) (k : Nat) : GNode := p.nodes.getD k .tick
inductive Alive (p : GProg) : Nat → Nat → Prop
  | use {k to r : Nat} : (to : Int) ∈ (p.at' k).nx k → (r : Int) ∈ (p.at' to).us → Alive p k r
  | pass {k to r : Nat} : (to : Int) ∈ (p.at' k).nx k → (r : Int) ≠ (p.at' to).df → Alive p to r → Alive p k r
def AheadP (p : GProg) (m : Nat → Nat → Prop) (to r : Nat) : Prop := (r : Int) ∈ (p.at' to).us ∨ ((r : Int) ≠ (p.at' to).df ∧ m to r)
abbrev Mx := Nat → Nat → Bool
def updM (m : Mx) (k r : Nat) (b : Bool) : Mx := fun k' r' => if k' = k ∧ r' = r then b else m k' r'
theorem updM_same (m : Mx) (k r : Nat) : updM m k r (m k r) = m := by
  funext k' r'
  unfold updM
  split
  · rename_i h; rw [h.1, h.2]
  · rfl
def rowL (m : Mx) (k R : Nat) : List Bool := (List.range R).map (m k)
theorem rowL_len (m : Mx) (k R : Nat) : (rowL m k R).length = R := by simp [rowL]
theorem rowL_get {m : Mx} {k R r : Nat} (h : r < R) : (rowL m k R)[r]? = some (m k r) := by simp [rowL, h]
theorem rowL_upd (m : Mx) (k r R : Nat) (b : Bool) : rowL (updM m k r b) k R = (rowL m k R).set r b := by
  apply List.ext_getElem?
  intro j
  by_cases hj : j < R
  · rw [rowL_get hj, List.getElem?_set]
    by_cases hr : r = j
    · subst hr; simp [updM, rowL, hj]
    · have : ¬ j = r := fun h => hr h.symm
      simp [updM, this, hr, rowL_get hj]
  · simp [rowL, hj]
theorem rowL_other {m : Mx} {k k' r R : Nat} {b : Bool} (h : k' ≠ k) : rowL (updM m k r b) k' R = rowL m k' R := by
  unfold rowL
  apply List.map_congr_left
  intro j _
  simp [updM, h]
def cntR (f : Nat → Bool) : Nat → Nat
  | 0 => 0
  | n + 1 => cntR f n + if f n then 0 else 1
def cntM (m : Mx) (R : Nat) : Nat → Nat
  | 0 => 0
  | n + 1 => cntM m R n + cntR (m n) R
theorem cntR_le {f g : Nat → Bool} (h : ∀ j, f j = true → g j = true) : ∀ n, cntR g n ≤ cntR f n
  | 0 => Nat.le_refl _
  | n + 1 => by
    have := cntR_le h n
    unfold cntR
    have hj := h n
    cases hf : f n <;> cases hg : g n <;> simp [hf, hg] at hj ⊢ <;> omega
theorem cntR_lt {f g : Nat → Bool} (h : ∀ j, f j = true → g j = true) {i : Nat} (hf : f i = false) (hg : g i = true) : ∀ n, i < n → cntR g n < cntR f n
  | 0, hi => by omega
  | n + 1, hi => by
    unfold cntR
    by_cases he : i = n
    · subst he
      have := cntR_le h i
      simp [hf, hg]; omega
    · have := cntR_lt h hf hg n (by omega)
      have hj := h n
      cases h1 : f n <;> cases h2 : g n <;> simp [h1, h2] at hj ⊢ <;> omega
theorem cntM_le {m m' : Mx} (h : ∀ k r, m k r = true → m' k r = true) (R : Nat) : ∀ n, cntM m' R n ≤ cntM m R n
  | 0 => Nat.le_refl _
  | n + 1 => by
    have h1 := cntM_le h R n
    have h2 := cntR_le (h n) R
    unfold cntM
    omega
theorem cntM_lt {m m' : Mx} (h : ∀ k r, m k r = true → m' k r = true) {R k r : Nat} (hr : r < R) (hf : m k r = false) (hg : m' k r = true) : ∀ n, k < n → cntM m' R n < cntM m R n
  | 0, hi => by omega
  | n + 1, hi => by
    unfold cntM
    have h2 := cntR_le (h n) R
    by_cases he : k = n
    · subst he
      have h1 := cntM_le h R k
      have := cntR_lt (h k) hf hg R hr
      omega
    · have := cntM_lt h hr hf hg n (by omega)
      omega
theorem foldSet_get (l : List Int) : ∀ (bs : List Bool) (r : Nat), r < bs.length → (∀ x ∈ l, 0 ≤ x) → (l.foldl (fun a r => a.set r.toNat true) bs)[r]? = some (decide ((r : Int) ∈ l) || bs.getD r false) := by
  induction l with
  | nil => intro bs r h _; simp [h]
  | cons x l ih =>
    intro bs r h h0
    rw [List.foldl_cons, ih (bs.set x.toNat true) r (by simpa using h) (fun y hy => h0 y (by simp [hy]))]
    have hx := h0 x (by simp)
    by_cases hr : x.toNat = r
    · have : (r : Int) = x := by omega
      simp [hr, this, h]
    · have : ¬ (r : Int) = x := by omega
      simp [List.getD_eq_getElem?_getD, hr, this]
theorem aheadL_get {n : GNode} {bs : List Bool} {r : Nat} (h : r < bs.length) (h0 : ∀ x ∈ n.us, 0 ≤ x) :
    (aheadL n bs)[r]? = some (decide ((r : Int) ∈ n.us) || (decide ((r : Int) ≠ n.df) && bs.getD r false)) := by
  unfold aheadL
  rw [foldSet_get _ _ _ (by rw [killL_len]; exact h) h0]
  congr 2
  unfold killL
  split
  · rename_i hd
    by_cases hr : n.df.toNat = r
    · have : (r : Int) = n.df := by omega
      simp [hr, this, h]
    · have : ¬ (r : Int) = n.df := by omega
      simp [List.getD_eq_getElem?_getD, hr, this]
  · rename_i hd
    have : ¬ (r : Int) = n.df := by omega
    simp [this]
end Go.Proofs.YtjcmcfidblhnnaaDoor
namespace Go.Proofs.YtjcmcfidblhnnaaDoor
open Go.Vc
def sl (R g : Nat) : Value := .slice (some ⟨g, 0, none⟩) R R
structure St (w0 w : World) (b : Nat) (cs : List Value) (g0 : Nat) (gs : List Nat) (R : Nat) (m : Mx) : Prop where
  x : Ext w0 w
  box : Boxed w b cs
  lo : w0.heap.size ≤ g0
  bg : b < g0
  gg : ∀ g ∈ gs, g0 < g
  nd : gs.Nodup
  out : Blk w g0 (gs.map (sl R)) 57
  rows : ∀ (k g : Nat), gs[k]? = some g → Blk w g ((rowL m k R).map Value.bool) 4
theorem St.ext {w0 w w' : World} {b g0 R : Nat} {cs : List Value} {gs : List Nat} {m : Mx} (h : St w0 w b cs g0 gs R m) (hx : Ext w w') : St w0 w' b cs g0 gs R m :=
  ⟨h.x.trans hx, h.box.ext hx, h.lo, h.bg, h.gg, h.nd, h.out.ext hx, fun k g hk => (h.rows k g hk).ext hx⟩
theorem nd_inj {gs : List Nat} (h : gs.Nodup) {i j g : Nat} (hi : gs[i]? = some g) (hj : gs[j]? = some g) : i = j := by
  obtain ⟨hi', hi2⟩ := List.getElem?_eq_some_iff.1 hi
  obtain ⟨hj', hj2⟩ := List.getElem?_eq_some_iff.1 hj
  have hp := List.pairwise_iff_getElem.1 h
  rcases Nat.lt_trichotomy i j with hlt | he | hgt
  · exact absurd (hi2.trans hj2.symm) (hp i j hi' hj' hlt)
  · exact he
  · exact absurd (hj2.trans hi2.symm) (hp j i hj' hi' hgt)
theorem St.set {w0 w : World} {b g0 R : Nat} {cs : List Value} {gs : List Nat} {m : Mx} (h : St w0 w b cs g0 gs R m) {k g : Nat} (hk : gs[k]? = some g) (r : Nat) (v : Bool) :
    St w0 (w.setCell ⟨g, r, none⟩ (.bool v)) b cs g0 gs R (updM m k r v) := by
  have hgm := List.mem_of_getElem? hk
  have hg := h.gg g hgm
  refine ⟨h.x.setCell (by have := h.lo; omega) _, h.box.other (by have := h.bg; omega), h.lo, h.bg, h.gg, h.nd, h.out.other (by omega), fun k' g' hk' => ?_⟩
  by_cases he : k' = k
  · subst he
    rw [hk] at hk'
    cases hk'
    rw [rowL_upd, ← map_set_b]
    exact (h.rows _ _ hk).set r _
  · rw [rowL_other he]
    exact (h.rows k' g' hk').other fun hgg => he (nd_inj h.nd hk' (hgg ▸ hk))
def readM (gs : List Nat) (w : World) : Mx := fun k r =>
  match gs[k]? with
  | some g => (match w.cell? ⟨g, r, none⟩ with | some (.bool b) => b | _ => false)
  | none => false
theorem St.read {w0 w : World} {b g0 R : Nat} {cs : List Value} {gs : List Nat} {m : Mx} (h : St w0 w b cs g0 gs R m) {k r : Nat} (hk : k < gs.length) (hr : r < R) : readM gs w k r = m k r := by
  obtain ⟨g, hg⟩ := ex_get hk
  unfold readM
  rw [hg]
  have := (h.rows k g hg).cell r
  rw [List.getElem?_map, rowL_get hr] at this
  simp [this]
theorem cntR_congr {f g : Nat → Bool} : ∀ n, (∀ j, j < n → f j = g j) → cntR f n = cntR g n
  | 0, _ => rfl
  | n + 1, h => by unfold cntR; rw [cntR_congr n fun j hj => h j (by omega), h n (by omega)]
theorem cntM_congr {m m' : Mx} {R : Nat} : ∀ n, (∀ k r, k < n → r < R → m k r = m' k r) → cntM m R n = cntM m' R n
  | 0, _ => rfl
  | n + 1, h => by unfold cntM; rw [cntM_congr n fun k r hk hr => h k r (by omega) hr, cntR_congr R fun r hr => h n r (by omega) hr]
theorem St.cnt {w0 w : World} {b g0 R : Nat} {cs : List Value} {gs : List Nat} {m : Mx} (h : St w0 w b cs g0 gs R m) : cntM (readM gs w) R gs.length = cntM m R gs.length :=
  cntM_congr _ fun _ _ hk hr => h.read hk hr
def Done (p : GProg) (R : Nat) (m : Mx) (k : Nat) : Prop := ∀ to : Nat, (to : Int) ∈ (p.at' k).nx k → ∀ r < R, AheadP p (fun a b => m a b = true) to r → m k r = true
def Snd (p : GProg) (m : Mx) : Prop := ∀ k r, m k r = true → Alive p k r
structure Swp (p : GProg) (N R : Nat) (m0 m : Mx) (f : Bool) : Prop where
  le : ∀ k r, m0 k r = true → m k r = true
  snd : Snd p m
  no : f = false → m = m0
  yes : f = true → ∃ k r, k < N ∧ r < R ∧ m0 k r = false ∧ m k r = true
theorem Swp.step {p : GProg} {N R : Nat} {m0 m : Mx} {f : Bool} (h : Swp p N R m0 m f) {k r : Nat} (hk : k < N) (hr : r < R) (a : Bool) (ha : a = true → Alive p k r) :
    Swp p N R m0 (updM m k r (m k r || a)) (f || (a && !m k r)) := by
  have hle : ∀ k' r', m k' r' = true → updM m k r (m k r || a) k' r' = true := by
    intro k' r' h'
    unfold updM
    split
    · rename_i he; rw [he.1, he.2] at h'; simp [h']
    · exact h'
  refine ⟨fun k' r' h' => hle _ _ (h.le _ _ h'), ?_, ?_, ?_⟩
  · intro k' r' h'
    unfold updM at h'
    split at h'
    · rename_i he
      rw [he.1, he.2]
      rcases Bool.or_eq_true_iff.1 h' with h1 | h1
      · exact h.snd _ _ h1
      · exact ha h1
    · exact h.snd _ _ h'
  · intro hf
    have hf' := Bool.or_eq_false_iff.1 hf
    have : (m k r || a) = m k r := by
      have := hf'.2
      cases hm : m k r <;> cases a <;> simp_all
    rw [this, updM_same]
    exact h.no hf'.1
  · intro hf
    rcases Bool.or_eq_true_iff.1 hf with h1 | h1
    · obtain ⟨k', r', h2, h3, h4, h5⟩ := h.yes h1
      exact ⟨k', r', h2, h3, h4, hle _ _ h5⟩
    · have h2 : a = true ∧ m k r = false := by simpa using h1
      refine ⟨k, r, hk, hr, ?_, by simp [updM, h2.1]⟩
      cases h0 : m0 k r with
      | false => rfl
      | true => have := h.le _ _ h0; rw [h2.2] at this; cases this
theorem alive_of_done {p : GProg} {N R : Nat} {m : Mx} (hN : N = p.nodes.length) (hv : ∀ (i : Nat) n, p.nodes[i]? = some n → RightN n i R N) (h : ∀ k < N, Done p R m k) : ∀ {k r : Nat}, Alive p k r → k < N → r < R → m k r = true := by
  intro k r ha
  have hat : ∀ k < N, p.nodes[k]? = some (p.at' k) := fun k hk => by
    unfold GProg.at'
    rw [List.getD_eq_getElem?_getD]
    obtain ⟨n, hn⟩ := ex_get (l := p.nodes) (j := k) (by omega)
    simp [hn]
  induction ha with
  | use h1 h2 => intro hk hr; exact h _ hk _ h1 _ hr (.inl h2)
  | @pass k to r h1 h2 h3 ih =>
    intro hk hr
    have hto : to < N := by have := (hv _ _ (hat _ hk)).t _ h1; omega
    exact h _ hk _ h1 _ hr (.inr ⟨h2, ih hto hr⟩)
end Go.Proofs.YtjcmcfidblhnnaaDoor
namespace Go.Proofs.YtjcmcfidblhnnaaDoor
open Go.Vc
theorem rowL_false (k R : Nat) : (rowL (fun _ _ => false) k R).map Value.bool = List.replicate R (.bool false) := by
  apply List.ext_getElem?
  intro j
  by_cases hj : j < R
  · simp [rowL_get hj, hj]
  · simp [rowL, hj]
theorem OkProg.at {p : GProg} (hv : OkProg p) {k : Nat} (hk : k < p.nodes.length) : p.nodes[k]? = some (p.at' k) ∧ RightN (p.at' k) k p.regs p.nodes.length := by
  obtain ⟨n, hn⟩ := ex_get hk
  have : p.at' k = n := by unfold GProg.at'; rw [List.getD_eq_getElem?_getD, hn]; rfl
  rw [this]
  exact ⟨hn, hv.nodes k n hn⟩
set_option maxHeartbeats 1600000 in
theorem sweep5 {p : GProg} {N R : Nat} {w0 : World} {b g0 : Nat} {cs : List Value} {gs : List Nat} {m0 : Mx} (hN : gs.length = N) (hN2 : N ≤ 250) (hR1 : R ≤ 40)
    {k g : Nat} (hkN : k < N) (hg : gs[k]? = some g) {av : Value} {A : List Bool} {B : Nat} (hA : A.length = R) (hgB : ∀ g ∈ gs, g < B)
    (hal : ∀ r, A[r]? = some true → Alive p k r) {Q : Value → World → Prop} {w : World} {f : Bool} {m : Mx} (hst : St w0 w b cs g0 gs R m) (hsw : Swp p N R m0 m f)
    (ha : w.ownsRow B 4 1 av R (A.map Value.bool))
    (hQ : ∀ (f' : Bool) (m' : Mx) w', St w0 w' b cs g0 gs R m' → Swp p N R m0 m' f' → (f = true → f' = true) → (f' = false → ∀ r, A[r]? = some true → m0 k r = true) → Ext w0 w' → (∀ B' e size n v xs, w.ownsRow B' e size n v xs → (∀ g ∈ gs, g < B') → w'.ownsRow B' e size n v xs) → Q (.bool f') w') :
    ∃ (I5 : NP 2) (μ5 : NF 2), I5 (.bool f) (Value.int IntKind.i64 0) w ∧
      ∀ (t5_3 : Value) (t62 : Value), ∀ w37 : World, I5 t5_3 t62 w37 → ∀ _f : Env,
      V Tryd.prog (binOp .lss 3 t62 (i64 R)) w37 fun t63 w38 =>
      ifD t63 (
      V Tryd.prog (Instr.indexAt 57 av t62) w38 fun t65 w39 =>
      V Tryd.prog (Instr.loadAt 4 t65) w39 fun t66 w40 =>
      gd t5_3 false (fun K => K t66 w40) w40 fun t69 w41 =>
      gd t5_3 false (fun K => K t69 w41) w41 fun t70 w42 =>
      gd t70 true (fun K => K (.slice (some ⟨g0, 0, none⟩) N N) w42) w42 fun t71 w43 =>
      gd t70 true (fun K => K (i64 k) w43) w43 fun t72 w44 =>
      gd t70 true (fun K => V Tryd.prog (Instr.indexAt 56 t71 t72) w44 K) w44 fun t73 w45 =>
      gd t70 true (fun K => V Tryd.prog (Instr.loadAt 57 t73) w45 K) w45 fun t74 w46 =>
      gd t70 true (fun K => K t62 w46) w46 fun t75 w47 =>
      gd t70 true (fun K => V Tryd.prog (Instr.indexAt 57 t74 t75) w47 K) w47 fun t76 w48 =>
      gd t70 true (fun K => V Tryd.prog (Instr.loadAt 4 t76) w48 K) w48 fun t77 w49 =>
      gd t70 true (fun K => V Tryd.prog (Op.unary UnOp.not t77) w49 K) w49 fun t78 w50 =>
      gd t5_3 false (fun K => pickD t70 t78 (Value.bool false) fun v => K v w50) w50 fun t79 w51 =>
      pickD t5_3 (Value.bool true) t79 fun t80 =>
      drawD w51 fun S22 w53 =>
      yieldS Tryd.prog S22 (Instr.indexAt 56 (.slice (some ⟨g0, 0, none⟩) N N) (i64 k)) fun t83 =>
      yieldS Tryd.prog S22 (Instr.loadAt 57 t83) fun t84 =>
      yieldS Tryd.prog S22 (Instr.indexAt 56 (.slice (some ⟨g0, 0, none⟩) N N) (i64 k)) fun t88 =>
      yieldS Tryd.prog S22 (Instr.loadAt 57 t88) fun t89 =>
      yieldS Tryd.prog S22 (Instr.indexAt 57 t89 t62) fun t91 =>
      yieldS Tryd.prog S22 (Instr.loadAt 4 t91) fun t92 =>
      gdY t92 false (fun K => K t66) fun t94 =>
      pickD t92 (Value.bool true) t94 fun t95 =>
      yieldS Tryd.prog S22 (Instr.indexAt 57 t84 t62) fun t96 =>
      U Tryd.prog (Instr.storeAt 4 t96 t95) w53 fun _ w54 =>
      V Tryd.prog (binOp .add 3 t62 (Value.int IntKind.i64 1)) w54 fun t97 w55 =>
      I5 t80 t97 w55 ∧ μ5 t80 t97 w55 < μ5 t5_3 t62 w37) (
      Q t5_3 w38) := by
  have hgm := List.mem_of_getElem? hg
  refine ⟨fun v1 v2 w' => ∃ (f' : Bool) (r : Nat) (m' : Mx), v1 = .bool f' ∧ v2 = i64 r ∧ r ≤ R ∧ St w0 w' b cs g0 gs R m' ∧ Swp p N R m0 m' f' ∧ (f = true → f' = true) ∧ (f' = false → ∀ j, j < r → A[j]? = some true → m0 k j = true) ∧
      w'.ownsRow B 4 1 av R (A.map Value.bool) ∧ (∀ B' e size n v xs, w.ownsRow B' e size n v xs → (∀ g ∈ gs, g < B') → w'.ownsRow B' e size n v xs), fun _ v2 _ => R - (RowKit.intOf v2).toNat,
    ⟨f, 0, m, rfl, rfl, Nat.zero_le _, hst, hsw, id, fun _ j hj => by omega, ha, fun _ _ _ _ _ _ h _ => h⟩, ?_⟩
  rintro _ _ w1 ⟨f', r, m', rfl, rfl, hr, hst', hsw', hff, hcl, ha', hkeep⟩ _
  refine V_lss.2 (ifD_dec (fun hlt => ?_) fun hge => ?_)
  · have hr' : r < R := by omega
    obtain ⟨a, haa⟩ := ex_get (l := A) (j := r) (by omega)
    refine ldO' xa_57 l1_4 ha' (by omega) (by omega) (getB haa) ?_
    have hrow := hst'.rows k g hg
    have hslO : SliceIs w1 (.slice (some ⟨g0, 0, none⟩) N N) 1 N (gs.map (sl R)) := hst'.out.slice (by simpa using hN) (by unfold maxLen; omega)
    have hslR : SliceIs w1 (sl R g) 1 R ((rowL m' k R).map Value.bool) := hrow.slice (by simp [rowL_len]) (by unfold maxLen; omega)
    have hgk : (gs.map (sl R))[((k : Nat) : Int).toNat]? = some (sl R g) := by simp [hg]
    have hmk : ((rowL m' k R).map Value.bool)[((r : Nat) : Int).toNat]? = some (.bool (m' k r)) := by simp [rowL_get hr']
    have flag : ∀ {Z : Value → World → Prop}, Z (.bool (f' || (a && !m' k r))) w1 →
        (gd (.bool f') false (fun K => K (.bool a) w1) w1 fun t69 w41 =>
      gd (.bool f') false (fun K => K t69 w41) w41 fun t70 w42 =>
      gd t70 true (fun K => K (.slice (some ⟨g0, 0, none⟩) N N) w42) w42 fun t71 w43 =>
      gd t70 true (fun K => K (i64 k) w43) w43 fun t72 w44 =>
      gd t70 true (fun K => V Tryd.prog (Instr.indexAt 56 t71 t72) w44 K) w44 fun t73 w45 =>
      gd t70 true (fun K => V Tryd.prog (Instr.loadAt 57 t73) w45 K) w45 fun t74 w46 =>
      gd t70 true (fun K => K (i64 r) w46) w46 fun t75 w47 =>
      gd t70 true (fun K => V Tryd.prog (Instr.indexAt 57 t74 t75) w47 K) w47 fun t76 w48 =>
      gd t70 true (fun K => V Tryd.prog (Instr.loadAt 4 t76) w48 K) w48 fun t77 w49 =>
      gd t70 true (fun K => V Tryd.prog (Op.unary UnOp.not t77) w49 K) w49 fun t78 w50 =>
      gd (.bool f') false (fun K => pickD t70 t78 (Value.bool false) fun v => K v w50) w50 fun t79 w51 =>
      pickD (.bool f') (Value.bool true) t79 fun t80 => Z t80 w51) := by
      intro Z hZ
      cases f' with
      | true => simp only [gd_tf, gd_undef, pickD_iff, reduceIte]; simpa using hZ
      | false =>
        cases a with
        | false => simp only [gd_f, gd_ft, pickD_iff, Bool.false_eq_true, reduceIte]; simpa using hZ
        | true =>
          simp only [gd_f, gd_t]
          refine ldx xa_56 l1_57 hslO (by omega) (by omega) hgk ?_
          refine ldx xa_57 l1_4 hslR (by omega) (by omega) hmk ?_
          simp only [V_not, pickD_iff, Bool.false_eq_true, reduceIte]
          simpa using hZ
    refine flag ?_
    refine drawD.mk' (fun w' => w' = w1.drew) rfl ?_
    have hx : ∀ w', w' = w1.drew → Ext w1 w' := fun w' h => h ▸ (Ext.refl _).drew
    refine ySl xa_56 l1_57 hslO hx (by omega) (by omega) hgk ?_
    refine ySl xa_56 l1_57 hslO hx (by omega) (by omega) hgk ?_
    refine ySl xa_57 l1_4 hslR hx (by omega) (by omega) hmk ?_
    have val : ∀ {Z : Value → Prop}, Z (.bool (m' k r || a)) → gdY (.bool (m' k r)) false (fun K => K (.bool a)) fun t94 => pickD (.bool (m' k r)) (Value.bool true) t94 Z := by
      intro Z hZ
      cases hm : m' k r with
      | true => simp only [gdY_tf, pickD_iff, reduceIte]; simpa [hm] using hZ
      | false => simp only [gdY_f, pickD_iff, Bool.false_eq_true, reduceIte]; simpa [hm] using hZ
    refine val ?_
    refine yieldS.ok (fun w' _ => r_ix_57 (by omega) (by omega)) ?_
    refine U.ok (r_store inf4 rfl (u := .bool (m' k r)) ?_ ?_) ?_
    · have := hrow.cell r
      rw [List.getElem?_map, rowL_get hr'] at this
      simpa using this
    · exact hrow.frozen _
    · refine V_add.2 ?_
      rw [wrap_id (by omega) (by omega), i64_succ]
      have hset := (hst'.ext (Ext.refl _).drew).set hg r (m' k r || a)
      have hk' : ∀ {B' e size n v xs}, w1.ownsRow B' e size v n xs → (∀ g ∈ gs, g < B') → (w1.drew.setCell ⟨g, 0 + (r : Int).toNat * 1, none⟩ (.bool (m' k r || a))).ownsRow B' e size v n xs := by
        intro B' e size n v xs h hB
        have h' : w1.drew.ownsRow B' e size v n xs := h
        refine h'.kept (row := some g) ⟨rfl, rfl, rfl, by simp, fun i _ hi => heap_setCell_other _ _ _ _ (fun he => hi (by simp [he]))⟩ (own_ne h' fun x hx => ?_)
        cases hx
        exact hB g hgm
      refine ⟨⟨f' || (a && !m' k r), r + 1, updM m' k r (m' k r || a), rfl, rfl, by omega, by simpa using hset, hsw'.step hkN hr' a (fun h => hal r (by rw [haa, h])), fun h => by simp [hff h], ?_, hk' ha' hgB, fun B' e size n v xs h hB => hk' (hkeep B' e size n v xs h hB) hB⟩, by simp only [intOf_i64]; omega⟩
      intro hf j hj hAj
      have hf' := Bool.or_eq_false_iff.1 hf
      by_cases hjr : j = r
      · subst hjr
        rw [haa] at hAj
        cases hAj
        have : m' k j = true := by simpa using hf'.2
        rw [← hsw'.no hf'.1]
        exact this
      · exact hcl hf'.1 j (by omega) hAj
  · refine hQ f' m' w1 hst' hsw' hff (fun hf r' hr' => hcl hf r' ?_ hr') hst'.x hkeep
    have := (List.getElem?_eq_some_iff.1 hr').1
    omega
end Go.Proofs.YtjcmcfidblhnnaaDoor
namespace Go.Proofs.YtjcmcfidblhnnaaDoor
open Go.Vc
def MatIs (w : World) (v : Value) (N R : Nat) (m : Mx) : Prop := ∃ (g0 : Nat) (gs : List Nat), v = .slice (some ⟨g0, 0, none⟩) N N ∧ gs.length = N ∧ Blk w g0 (gs.map (sl R)) 57 ∧ ∀ (k g : Nat), gs[k]? = some g → Blk w g ((rowL m k R).map Value.bool) 4
theorem MatIs.ext {w w' : World} {v : Value} {N R : Nat} {m : Mx} (h : MatIs w v N R m) (hx : Ext w w') : MatIs w' v N R m := by
  obtain ⟨g0, gs, h1, h2, h3, h4⟩ := h
  exact ⟨g0, gs, h1, h2, h3.ext hx, fun k g hk => (h4 k g hk).ext hx⟩
theorem set_rows (R g : Nat) (gs : List Nat) (n : Nat) (h : gs.length < n) :
    ((gs.map (sl R)) ++ List.replicate (n - gs.length) (Value.slice none 0 0)).set gs.length (sl R g) = (gs ++ [g]).map (sl R) ++ List.replicate (n - (gs ++ [g]).length) (Value.slice none 0 0) := by
  obtain ⟨k, hk⟩ : ∃ k, n - gs.length = k + 1 := ⟨n - gs.length - 1, by omega⟩
  have hk2 : n - (gs ++ [g]).length = k := by simp; omega
  rw [hk, hk2, List.set_append_right _ _ (by simp)]
  simp [List.replicate_succ]
def MatIn (w0 w : World) (v : Value) (N R : Nat) (m : Mx) : Prop := ∃ (g0 : Nat) (gs : List Nat), v = .slice (some ⟨g0, 0, none⟩) N N ∧ gs.length = N ∧ Blk w g0 (gs.map (sl R)) 57 ∧ (∀ (k g : Nat), gs[k]? = some g → Blk w g ((rowL m k R).map Value.bool) 4) ∧ w0.heap.size ≤ g0 ∧ ∀ g ∈ gs, w0.heap.size ≤ g
theorem MatIn.is {w0 w : World} {v : Value} {N R : Nat} {m : Mx} (h : MatIn w0 w v N R m) : MatIs w v N R m := by
  obtain ⟨g0, gs, h1, h2, h3, h4, _⟩ := h
  exact ⟨g0, gs, h1, h2, h3, h4⟩
set_option maxHeartbeats 1600000 in
theorem behindO_ok {p : GProg} {R : Nat} {pv : Value} {w : World} (hp : ProgIs w pv p) (hv : OkProg p) (hR : p.regs = R) :
    callD Tryd.prog 36 #[pv] w fun r w' => (∃ m, MatIn w w' r p.nodes.length R m ∧ ∀ k r, k < p.nodes.length → r < R → (m k r = true ↔ Alive p k r)) ∧ Ext w w' := by
  have hp0 := hp
  obtain ⟨ns, rfl, hns, hargs⟩ := hp
  have hns0 := hns
  obtain ⟨vs, hs, hvs⟩ := hns
  have hl1 := hv.l1; have hl2 := hv.l2; have hr1 := hv.r1; have hr2 := hv.r2
  have hat := fun {k : Nat} (hk : k < p.nodes.length) => hv.at hk
  generalize hN : p.nodes.length = N at *
  apply F36_wp
  unfold F36_den
  refine bx fun b w1 hb x1 => ?_
  refine ldA hb la_25 rfl ?_
  refine (check_ok (p := p) (hp0.ext x1) hv).mono fun r w2 ⟨hr, x2⟩ => ?_
  subst hr
  refine V_not.2 (ifD_false.2 ?_)
  have hb2 := hb.ext x2
  have X2 := x1.trans x2
  refine ldB hb2 fa_25_2 l1_23 rfl (lnx xa_23 (hs.ext X2) ?_)
  refine mkB Tryd.underlying56 inf57 rfl (n := N) (by omega) (by omega) fun w3 ho x3 hsz3 => ?_
  refine V_ln_56.2 ?_
  have hbB : b < w2.heap.size := by
    have := hb2 0 (i64 p.params) rfl
    exact World.block_lt_of_cell? _ _ this
  have hlo : w.heap.size ≤ w2.heap.size := X2.size
  generalize w2.heap.size = g0 at *
  have X3 := X2.trans x3
  refine ⟨fun v w' => ∃ gs : List Nat, v = i64 gs.length ∧ gs.length ≤ N ∧ Ext w w' ∧ Boxed w' b [i64 p.params, i64 p.regs, ns] ∧ (∀ g ∈ gs, g0 < g) ∧ gs.Nodup ∧ (∀ g ∈ gs, g < w'.heap.size) ∧
      Blk w' g0 (gs.map (sl R) ++ List.replicate (N - gs.length) (.slice none 0 0)) 57 ∧ ∀ g ∈ gs, Blk w' g (List.replicate R (.bool false)) 4,
    fun v _ => N - (RowKit.intOf v).toNat, ⟨[], rfl, Nat.zero_le _, X3, hb2.ext x3, by simp, List.nodup_nil, by simp, by simpa using ho, by simp⟩, ?_⟩
  rintro _ w4 ⟨gs, rfl, hle, x4, hb4, hgg, hnd, hlt4, ho4, hrows4⟩ _
  refine V_lss.2 (ifD_dec (fun hlt => ?_) fun hge => ?_)
  · refine ldB hb4 fa_25_1 l1_3 rfl ?_
    refine mkBv hR Tryd.underlying57 inf4 rfl (n := R) (by omega) (by omega) fun w5 hrow x5 hsz5 => ?_
    refine stB xa_56 inf57 (ho4.ext x5) (by simp; omega) (by omega) (by omega) rfl ?_
    refine V_add.2 ?_
    rw [wrap_id (by omega) (by omega), i64_succ]
    simp only [Int.toNat_natCast]
    have hset := (ho4.ext x5).set gs.length (sl R w4.heap.size)
    rw [set_rows R _ gs N (by omega)] at hset
    have hg0 := ho4.lt
    refine ⟨⟨gs ++ [w4.heap.size], by simp, by simp; omega, (x4.trans x5).setCell hlo _, Boxed.other (g := g0) (hb4.ext x5) (by omega), ?_, ?_, ?_, hset, ?_⟩, by simp only [intOf_i64]; omega⟩
    · intro g hg
      rcases List.mem_append.1 hg with h | h
      · exact hgg g h
      · have : g = w4.heap.size := by simpa using h
        omega
    · refine List.nodup_append.2 ⟨hnd, by simp, ?_⟩
      intro a ha c hc
      have : c = w4.heap.size := by simpa using hc
      have := hlt4 a ha
      omega
    · intro g hg
      simp only [World.size_setCell]
      rcases List.mem_append.1 hg with h | h
      · have := hlt4 g h; omega
      · have : g = w4.heap.size := by simpa using h
        omega
    · intro g hg
      rcases List.mem_append.1 hg with h | h
      · exact ((hrows4 g h).ext x5).other (by have := hgg g h; omega)
      · have he : g = w4.heap.size := by simpa using h
        subst he
        exact hrow.other (by omega)
  have hgl : gs.length = N := by omega
  rw [hgl, Nat.sub_self] at ho4
  simp only [List.replicate_zero, List.append_nil] at ho4
  have hst0 : St w w4 b [i64 p.params, i64 p.regs, ns] g0 gs R (fun _ _ => false) :=
    ⟨x4, hb4, hlo, hbB, hgg, hnd, ho4, fun k g hk => by rw [rowL_false]; exact hrows4 g (List.mem_of_getElem? hk)⟩
  clear hrows4 ho4 hlt4 hle hge hb4 x4
  have hslO : ∀ {w' m}, St w w' b [i64 p.params, i64 p.regs, ns] g0 gs R m → SliceIs w' (.slice (some ⟨g0, 0, none⟩) N N) 1 N (gs.map (sl R)) := fun h => h.out.slice (by simpa using hgl) (by unfold maxLen; omega)
  have hslR : ∀ {w' m k g}, St w w' b [i64 p.params, i64 p.regs, ns] g0 gs R m → gs[k]? = some g → SliceIs w' (sl R g) 1 R ((rowL m k R).map Value.bool) := fun h hk => (h.rows _ _ hk).slice (by simp [rowL_len]) (by unfold maxLen; omega)
  have hglt : ∀ {w' m}, St w w' b [i64 p.params, i64 p.regs, ns] g0 gs R m → ∀ g ∈ gs, g < w'.heap.size := fun h g hg => by
    obtain ⟨k, hk⟩ := List.getElem?_of_mem hg
    exact (h.rows k g hk).lt
  refine ⟨fun v w' => ∃ (f : Bool) (m : Mx), v = .bool f ∧ St w w' b [i64 p.params, i64 p.regs, ns] g0 gs R m ∧ Snd p m ∧ (f = false → ∀ k < N, Done p R m k),
    fun v w' => 2 * cntM (readM gs w') R gs.length + (match v with | .bool true => 1 | _ => 0), ⟨true, _, rfl, hst0, (fun _ _ h => by cases h), (fun h => by cases h)⟩, ?_⟩
  rintro _ w5 ⟨f0, m0, rfl, hst, hsnd, hcl⟩ _
  refine ifD.mk (fun hf => ?_) fun hf => ?_
  rotate_left
  · refine ⟨⟨m0, ⟨g0, gs, rfl, hgl, hst.out, hst.rows, hst.lo, fun g hg => Nat.le_of_lt (Nat.lt_of_le_of_lt hst.lo (hst.gg g hg))⟩, fun k r hk hr => ⟨hsnd k r, fun h => ?_⟩⟩, hst.x⟩
    exact alive_of_done hN.symm (fun i n hn => hR ▸ hN ▸ hv.nodes i n hn) (hcl hf) h hk hr
  subst hf
  refine ldB hst.box fa_25_2 l1_23 rfl (lnx xa_23 (hs.ext hst.x) (V_sub.2 ?_))
  rw [wrap_id (by omega) (by omega)]
  refine ⟨fun v1 v2 w' => ∃ (f : Bool) (kk : Int) (m : Mx), v1 = .bool f ∧ v2 = i64 kk ∧ -1 ≤ kk ∧ kk < N ∧ St w w' b [i64 p.params, i64 p.regs, ns] g0 gs R m ∧ Swp p N R m0 m f ∧ (f = false → ∀ k : Nat, kk < k → k < N → Done p R m0 k),
    fun _ v2 _ => (RowKit.intOf v2 + 1).toNat, ⟨false, _, m0, rfl, rfl, by omega, by omega, hst, ⟨fun _ _ h => h, hsnd, fun _ => rfl, (fun h => by cases h)⟩, fun _ k h1 h2 => by omega⟩, ?_⟩
  rintro _ _ w6 ⟨f, kk, m, rfl, rfl, hk1, hk2, hst6, hsw6, hcl6⟩ _
  refine V_geq.2 (ifD_dec (fun hge => ?_) fun hlt => ?_)
  rotate_left
  · -- the sweep is over
    have hkk : kk = -1 := by have : ¬ 0 ≤ kk := hlt; omega
    refine ⟨⟨f, m, rfl, hst6, hsw6.snd, fun hf k hk => ?_⟩, ?_⟩
    · rw [hsw6.no hf]; exact hcl6 hf k (by omega) hk
    · show 2 * cntM (readM gs w6) R gs.length + _ < 2 * cntM (readM gs w5) R gs.length + 1
      rw [hst6.cnt, hst.cnt]
      cases f with
      | false =>
        have := cntM_le hsw6.le R gs.length
        show 2 * _ + 0 < _
        omega
      | true =>
        obtain ⟨k, r, h1, h2, h3, h4⟩ := hsw6.yes rfl
        have := cntM_lt hsw6.le h2 h3 h4 gs.length (by omega)
        show 2 * _ + 1 < _
        omega
  have hge' : 0 ≤ kk := hge
  obtain ⟨k, rfl⟩ := Int.eq_ofNat_of_zero_le hge'
  have hk : k < N := by omega
  obtain ⟨g, hg⟩ := ex_get (l := gs) (j := k) (by omega)
  obtain ⟨hpk, hrk⟩ := hat hk
  obtain ⟨u, hu, hnu⟩ := hvs k _ hpk
  refine ldB hst6.box fa_25_2 l1_23 rfl ?_
  refine ldx xa_23 l1_43 (hs.ext hst6.x) (by omega) (by omega) (by simpa using hu) ?_
  refine (next_ok (hnu.ext hst6.x) (by omega) (by omega)).mono fun tl w7 ⟨htl, x7⟩ => ?_
  refine lnx xa_27 (SliceIs.of_own htl) ?_
  have hst7 := hst6.ext x7
  have hlen := nx_len (p.at' k) k
  refine ⟨fun v1 v2 w' => ∃ (f' : Bool) (j : Nat) (m' : Mx), v1 = .bool f' ∧ v2 = i64 j ∧ j ≤ ((p.at' k).nx k).length ∧ St w w' b [i64 p.params, i64 p.regs, ns] g0 gs R m' ∧ Swp p N R m0 m' f' ∧ (f = true → f' = true) ∧
      (f' = false → ∀ (i : Nat) (to : Nat), i < j → ((p.at' k).nx k)[i]? = some (to : Int) → ∀ r < R, AheadP p (fun a b => m0 a b = true) to r → m0 k r = true) ∧ w'.ownsRow w6.heap.size 3 1 tl ((p.at' k).nx k).length (((p.at' k).nx k).map i64),
    fun _ v2 _ => ((p.at' k).nx k).length - (RowKit.intOf v2).toNat, ⟨f, 0, m, rfl, rfl, Nat.zero_le _, hst7, hsw6, id, fun _ i to hi => by omega, htl⟩, ?_⟩
  rintro _ _ w8 ⟨f', j, m', rfl, rfl, hj, hst8, hsw8, hff, hcl8, htl8⟩ _
  refine V_lss.2 (ifD_dec (fun hjlt => ?_) fun hjge => ?_)
  rotate_left
  · refine V_sub.2 ?_
    rw [wrap_id (by omega) (by omega)]
    refine ⟨⟨f', (k : Int) - 1, m', rfl, rfl, by omega, by omega, hst8, hsw8, fun hf k' hk' hkN => ?_⟩, by simp only [intOf_i64]; omega⟩
    by_cases he : k' = k
    · subst he
      intro to hto r hr ha
      obtain ⟨i, hi⟩ := List.getElem?_of_mem hto
      have hi' := (List.getElem?_eq_some_iff.1 hi).1
      exact hcl8 hf i to (by omega) hi r hr ha
    · have hf0 : f = false := by cases f with | false => rfl | true => rw [hff rfl] at hf; cases hf
      exact hcl6 hf0 k' (by omega) hkN
  obtain ⟨to, hto⟩ := ex_get (l := (p.at' k).nx k) (j := j) (by omega)
  have htor := hrk.t to (List.mem_of_getElem? hto)
  obtain ⟨to, rfl⟩ := Int.eq_ofNat_of_zero_le htor.1
  have htoN : to < N := by omega
  obtain ⟨hpt, hrt⟩ := hat htoN
  obtain ⟨ut, hut, hnut⟩ := hvs to _ hpt
  obtain ⟨gt, hgt⟩ := ex_get (l := gs) (j := to) (by omega)
  refine ldO' xa_27 l1_3 htl8 (by omega) (by omega) (getI hto) ?_
  refine drawD.mk' (fun w' => Ext w8 w') (Ext.refl _).drew ?_
  refine yfB (fun w' hw => hst8.box.ext hw) fa_25_2 l1_23 rfl ?_
  refine ySl xa_23 l1_43 (hs.ext hst8.x) (fun _ h => h) (by omega) (by omega) (by simpa using hut) ?_
  refine ySl xa_56 l1_57 (hslO hst8) (fun _ h => h) (by omega) (by omega) (by simp [hgt] : (gs.map (sl R))[((to : Nat) : Int).toNat]? = some (sl R gt)) ?_
  have hrl := rowL_len m' to R
  have hdf : (p.at' to).df < R := by rcases hrt.d with h | h <;> omega
  have hus : ∀ r ∈ (p.at' to).us, 0 ≤ r ∧ r < ((rowL m' to R).length : Int) := fun r hr => by have := hrt.u r hr; rw [hrl]; omega
  have hrow8 : BoolsAre w8.drew (sl R gt) (rowL m' to R) := by
    have := (hslR hst8 hgt).ext (Ext.refl _).drew
    unfold BoolsAre
    rw [hrl]; exact this
  refine (ahead_ok (hnut.ext (hst8.x.trans (Ext.refl _).drew)) hrow8 (hargs _ (List.mem_of_getElem? hpt)) (by omega) (by rw [hrl]; exact hdf) hus).mono fun av w9 ⟨hav, x9⟩ => ?_
  have x9' : Ext w8 w9 := Ext.trans (Ext.refl _).drew x9
  refine ⟨x9', ?_⟩
  rw [hrl] at hav
  refine yLen xa_57 (SliceIs.of_own hav) ?_
  have hst9 := hst8.ext x9'
  have hag : ∀ r, r < R → (aheadL (p.at' to) (rowL m' to R))[r]? = some (decide ((r : Int) ∈ (p.at' to).us) || (decide ((r : Int) ≠ (p.at' to).df) && m' to r)) := fun r hr => by
    rw [aheadL_get (by rw [hrl]; exact hr) (fun x hx => (hus x hx).1)]
    congr 3
    rw [List.getD_eq_getElem?_getD, rowL_get hr]; rfl
  have hagT : ∀ r, r < R → ((aheadL (p.at' to) (rowL m' to R))[r]? = some true ↔ AheadP p (fun a b => m' a b = true) to r) := fun r hr => by
    rw [hag r hr]
    simp [AheadP]
  refine sweep5 hgl hl2 (by omega) hk hg (A := aheadL (p.at' to) (rowL m' to R)) (by rw [aheadL_len, hrl]) (hglt hst8) (fun r hr => ?_) hst9 hsw8 hav ?_
  · have hrR : r < R := by have := (List.getElem?_eq_some_iff.1 hr).1; rw [aheadL_len, hrl] at this; exact this
    rw [hagT r hrR] at hr
    rcases hr with h | ⟨h1, h2⟩
    · exact .use (List.mem_of_getElem? hto) h
    · exact .pass (List.mem_of_getElem? hto) h1 (hsw8.snd _ _ h2)
  · intro f'' m'' w10 hst10 hsw10 hff10 hcl10 _ hkeep
    refine V_add.2 ?_
    rw [wrap_id (by omega) (by omega), i64_succ]
    refine ⟨⟨f'', j + 1, m'', rfl, rfl, by omega, hst10, hsw10, fun h => hff10 (hff h), fun hf i to' hi hto' r hr ha => ?_, hkeep _ _ _ _ _ _ (x9'.own htl8) (fun g hg => hglt hst6 g hg)⟩, by simp only [intOf_i64]; omega⟩
    by_cases hij : i = j
    · subst hij
      rw [hto] at hto'
      have : (to : Int) = to' := by simpa using hto'
      have : to = to' := by omega
      subst this
      have hf' : f' = false := by cases f' with | false => rfl | true => rw [hff10 rfl] at hf; cases hf
      refine hcl10 hf r ?_
      rw [hagT r hr, hsw8.no hf']
      exact ha
    · have hf' : f' = false := by cases f' with | false => rfl | true => rw [hff10 rfl] at hf; cases hf
      exact hcl8 hf' i to' (by omega) hto' r hr ha
theorem behind_ok {p : GProg} {R : Nat} {pv : Value} {w : World} (hp : ProgIs w pv p) (hv : OkProg p) (hR : p.regs = R) :
    callD Tryd.prog 36 #[pv] w fun r w' => (∃ m, MatIs w' r p.nodes.length R m ∧ ∀ k r, k < p.nodes.length → r < R → (m k r = true ↔ Alive p k r)) ∧ Ext w w' :=
  (behindO_ok hp hv hR).mono fun _ _ ⟨⟨m, h1, h2⟩, hx⟩ => ⟨⟨m, h1.is, h2⟩, hx⟩
end Go.Proofs.YtjcmcfidblhnnaaDoor
namespace Go.Proofs.YtjcmcfidblhnnaaDoor
open Go.Vc
theorem MatIs.row {w : World} {v : Value} {N R : Nat} {m : Mx} (h : MatIs w v N R m) (hN : N ≤ 250) (hR : R ≤ 40) : ∃ cs, SliceIs w v 1 N cs ∧ ∀ k, k < N → ∃ u, cs[k]? = some u ∧ BoolsAre w u (rowL m k R) := by
  obtain ⟨g0, gs, rfl, hl, h1, h2⟩ := h
  refine ⟨_, h1.slice (by simpa using hl) (by unfold maxLen; omega), fun k hk => ?_⟩
  obtain ⟨g, hg⟩ := ex_get (l := gs) (j := k) (by omega)
  refine ⟨sl R g, by simp [hg], ?_⟩
  have := (h2 k g hg).slice (n := R) (by simp [rowL_len]) (by unfold maxLen; omega)
  unfold BoolsAre
  rw [rowL_len]; exact this
def doneB (p : GProg) (R : Nat) (m : Mx) : Bool :=
  (List.range p.nodes.length).all fun k => ((p.at' k).nx k).all fun to => (List.range R).all fun r => !((p.at' to.toNat).us.contains (r : Int) || (decide ((r : Int) ≠ (p.at' to.toNat).df) && m to.toNat r)) || m k r
end Go.Proofs.YtjcmcfidblhnnaaDoor
namespace Go.Proofs.YtjcmcfidblhnnaaDoor
open Go.Vc
structure Tin where
  op : Int
  d : Int
  n : Int
  m : Int
  imm : Int
  cond : Int
inductive Itm where
  | one (i : Tin)
  | place (l : Int)
  | jump (c l : Int)
  | load (r n : Int)
def Itm.cells : Itm → List Value
  | .one i => [i64 1, i64 i.op, i64 i.d, i64 i.n, i64 i.m, i64 i.imm, i64 i.cond, i64 0, i64 0, i64 0, i32 0]
  | .place l => [i64 2, i64 0, i64 0, i64 0, i64 0, i64 0, i64 0, i64 l, i64 0, i64 0, i32 0]
  | .jump c l => [i64 3, i64 0, i64 0, i64 0, i64 0, i64 0, i64 0, i64 l, i64 c, i64 0, i32 0]
  | .load r n => [i64 4, i64 0, i64 0, i64 0, i64 0, i64 0, i64 0, i64 0, i64 0, i64 r, i32 n]
theorem Itm.len (x : Itm) : x.cells.length = 11 := by cases x <;> rfl
def itC (l : List Itm) : List Value := l.flatMap Itm.cells
def eTwo (op d m : Int) : Itm := .one ⟨op, d, 0, m, 0, 0⟩
def eSmall (op d n : Int) : Itm := .one ⟨op, d, 0, 0, n, 0⟩
def eLd (of : List Int) (reg r : Int) : Itm := let a := of.getD r.toNat 0; if a < 16 then eTwo 28 reg a else eSmall 35 reg (4 * (a - 16))
def eSt (of : List Int) (r reg : Int) : Itm := let a := of.getD r.toNat 0; if a < 16 then eTwo 28 a reg else eSmall 36 reg (4 * (a - 16))
def eTick (l : Int) : List Itm := [eSmall 9 7 0, .jump 1 l, .one ⟨44, 0, 0, 0, 0, 0⟩, .place l, eSmall 11 7 1]
def eCarry : List Itm := [eSmall 8 0 0, eTwo 17 0 0]
def eBelow : List Itm := [eTwo 22 0 1, eTwo 18 0 0, eTwo 21 0 0]
def eZero : List Itm := eTwo 21 0 0 :: eCarry
def eShift (op : Int) : List Itm := [eSmall 8 2 31, eTwo 12 1 2, eTwo op 0 1]
def eBin (op : Int) : List Itm :=
  if op = 6 then [.one ⟨4, 0, 0, 1, 0, 0⟩] else if op = 7 then [.one ⟨5, 0, 0, 1, 0, 0⟩] else if op = 8 then [eTwo 25 0 1] else if op = 9 then [eTwo 12 0 1] else if op = 10 then [eTwo 24 0 1]
  else if op = 11 then [eTwo 13 0 1] else if op = 12 then eShift 14 else if op = 13 then eShift 15 else if op = 14 then eShift 16 else if op = 19 then .one ⟨5, 0, 0, 1, 0, 0⟩ :: eZero
  else if op = 20 then .load 2 (-2147483648) :: eTwo 13 0 2 :: eTwo 13 1 2 :: eBelow else eBelow
def eUn (op : Int) : List Itm := if op = 15 then [eTwo 21 0 0] else if op = 16 then [eTwo 27 0 0] else eZero
def eChoose : List Itm := [eTwo 21 0 0, eTwo 18 0 0, eTwo 13 1 2, eTwo 12 0 1, eTwo 13 0 2]
def eField (applet : Int) : Itm := .load 1 (IntKind.i32.wrap (131072 + 64 * applet))
def eLds (of : List Int) (l : List Int) : List Itm := (List.range l.length).map fun (k : Nat) => eLd of (k : Int) (l.getD k 0)
def eDef (of : List Int) (n : GNode) : List Itm := if n.df ≥ 0 then [eSt of n.df 0] else []
def GNode.srvB : GNode → Bool
  | .serve .. | .call .. | .callX .. | .ret _ => true
  | _ => false
def GNode.tkB : GNode → Bool
  | .tick => true
  | _ => false
def eNode (of : List Int) (N applet : Int) (tl : Nat) (n : GNode) (at' : Int) : List Itm :=
  (match n with
  | .const _ k => [.load 0 k]
  | .move _ _ => eLds of n.us
  | .bin op _ _ _ => eLds of n.us ++ eBin op
  | .un op _ _ => eLds of n.us ++ eUn op
  | .choose _ _ _ _ => eLds of n.us ++ eChoose
  | .tick => eTick (N + at')
  | .goto t => [.jump 14 t]
  | .branch _ t => eLds of n.us ++ [eSmall 9 0 0, .jump 1 t]
  | .getField _ f => [eField applet, .one ⟨31, 0, 1, 0, 4 * f, 0⟩]
  | .putField f _ => eLds of n.us ++ [eField applet, .one ⟨32, 0, 1, 0, 4 * f, 0⟩]
  | _ => eLds of n.us ++ [.one ⟨44, 0, 0, 0, (tl : Int) + 1, 0⟩]) ++ eDef of n
def emitK (p : GProg) (of : List Int) (applet : Int) : Nat → List Itm × List GNode
  | 0 => ((List.range p.params.toNat).map fun (k : Nat) => eSt of (k : Int) (k : Int), [])
  | k + 1 =>
    let s := emitK p of applet k
    (s.1 ++ .place k :: eNode of p.nodes.length applet s.2.length (p.at' k) k, if (p.at' k).srvB then s.2 ++ [p.at' k] else s.2)
def r07 (x : Int) : Prop := 0 ≤ x ∧ x ≤ 7
def Tin.okT (i : Tin) : Prop :=
  (i.op = 28 ∧ (0 ≤ i.d ∧ i.d < 15 ∧ i.d ≠ 13) ∧ (0 ≤ i.m ∧ i.m < 15) ∧ i.n = 0 ∧ i.imm = 0 ∧ i.cond = 0)
  ∨ ((i.op = 35 ∨ i.op = 36) ∧ r07 i.d ∧ i.n = 0 ∧ i.m = 0 ∧ (0 ≤ i.imm ∧ i.imm ≤ 1020 ∧ i.imm % 4 = 0) ∧ i.cond = 0)
  ∨ ((8 ≤ i.op ∧ i.op ≤ 11) ∧ r07 i.d ∧ i.n = 0 ∧ i.m = 0 ∧ (0 ≤ i.imm ∧ i.imm ≤ 255) ∧ i.cond = 0)
  ∨ ((12 ≤ i.op ∧ i.op ≤ 27) ∧ r07 i.d ∧ i.n = 0 ∧ r07 i.m ∧ i.imm = 0 ∧ i.cond = 0)
  ∨ ((i.op = 4 ∨ i.op = 5) ∧ r07 i.d ∧ r07 i.n ∧ r07 i.m ∧ i.imm = 0 ∧ i.cond = 0)
  ∨ ((i.op = 31 ∨ i.op = 32) ∧ r07 i.d ∧ r07 i.n ∧ i.m = 0 ∧ (0 ≤ i.imm ∧ i.imm ≤ 124 ∧ i.imm % 4 = 0) ∧ i.cond = 0)
  ∨ (i.op = 44 ∧ i.d = 0 ∧ i.n = 0 ∧ i.m = 0 ∧ (0 ≤ i.imm ∧ i.imm ≤ 255) ∧ i.cond = 0)
def Itm.okI : Itm → Prop
  | .one i => i.okT
  | .place l => 0 ≤ l ∧ l ≤ 2000
  | .jump c l => (0 ≤ l ∧ l ≤ 2000) ∧ (0 ≤ c ∧ c ≤ 14)
  | .load r _ => r07 r
def Itm.pl : Itm → List Int
  | .place l => [l]
  | _ => []
def Itm.jl : Itm → List Int
  | .jump _ l => [l]
  | _ => []
def plcs (l : List Itm) : List Int := l.flatMap Itm.pl
def jmps (l : List Itm) : List Int := l.flatMap Itm.jl
def OfOk (of : List Int) (R : Nat) : Prop := ∀ r : Int, 0 ≤ r → r < R → of.getD r.toNat 0 = 5 ∨ of.getD r.toNat 0 = 6 ∨ (16 ≤ of.getD r.toNat 0 ∧ of.getD r.toNat 0 < 56)
theorem two_ok {op d m : Int} (h : 12 ≤ op ∧ op ≤ 27) (hd : r07 d) (hm : r07 m) : (eTwo op d m).okI := .inr (.inr (.inr (.inl ⟨h, hd, rfl, hm, rfl, rfl⟩)))
theorem small_ok {op d n : Int} (h : 8 ≤ op ∧ op ≤ 11) (hd : r07 d) (hn : 0 ≤ n ∧ n ≤ 255) : (eSmall op d n).okI := .inr (.inr (.inl ⟨h, hd, rfl, rfl, hn, rfl⟩))
theorem r07_0 : r07 0 := ⟨by decide, by decide⟩
theorem r07_1 : r07 1 := ⟨by decide, by decide⟩
theorem r07_2 : r07 2 := ⟨by decide, by decide⟩
theorem eLd_ok {of : List Int} {R : Nat} {reg r : Int} (ho : OfOk of R) (hg : r07 reg) (h0 : 0 ≤ r) (h1 : r < R) : (eLd of reg r).okI ∧ (eLd of reg r).pl = [] ∧ (eLd of reg r).jl = [] := by
  have hr := ho r h0 h1
  unfold eLd
  obtain ⟨g0, g7⟩ := hg
  by_cases h : of.getD r.toNat 0 < 16
  · simp only [h, if_true]
    refine ⟨.inl ⟨rfl, ⟨g0, ?_, ?_⟩, ⟨?_, ?_⟩, rfl, rfl, rfl⟩, rfl, rfl⟩ <;> dsimp only <;> omega
  · simp only [h, if_false]
    refine ⟨.inr (.inl ⟨.inl rfl, ⟨g0, g7⟩, rfl, rfl, ⟨?_, ?_, ?_⟩, rfl⟩), rfl, rfl⟩ <;> dsimp only <;> omega
theorem eSt_ok {of : List Int} {R : Nat} {reg r : Int} (ho : OfOk of R) (hg : r07 reg) (h0 : 0 ≤ r) (h1 : r < R) : (eSt of r reg).okI ∧ (eSt of r reg).pl = [] ∧ (eSt of r reg).jl = [] := by
  have hr := ho r h0 h1
  unfold eSt
  obtain ⟨g0, g7⟩ := hg
  by_cases h : of.getD r.toNat 0 < 16
  · simp only [h, if_true]
    refine ⟨.inl ⟨rfl, ⟨?_, ?_, ?_⟩, ⟨g0, ?_⟩, rfl, rfl, rfl⟩, rfl, rfl⟩ <;> dsimp only <;> omega
  · simp only [h, if_false]
    refine ⟨.inr (.inl ⟨.inr rfl, ⟨g0, g7⟩, rfl, rfl, ⟨?_, ?_, ?_⟩, rfl⟩), rfl, rfl⟩ <;> dsimp only <;> omega
structure Flat (l : List Itm) (n : Nat) : Prop where
  ok : ∀ x ∈ l, x.okI
  pl : plcs l = []
  jl : jmps l = []
  len : l.length ≤ n
theorem Flat.nil : Flat [] 0 := ⟨fun x h => (by cases h), rfl, rfl, Nat.le_refl _⟩
theorem Flat.cons {x : Itm} {l : List Itm} {n : Nat} (hx : x.okI ∧ x.pl = [] ∧ x.jl = []) (h : Flat l n) : Flat (x :: l) (n + 1) := by
  refine ⟨fun y hy => ?_, ?_, ?_, Nat.succ_le_succ h.len⟩
  · rcases List.mem_cons.1 hy with rfl | hy
    · exact hx.1
    · exact h.ok y hy
  · show x.pl ++ plcs l = []
    rw [hx.2.1, h.pl]; rfl
  · show x.jl ++ jmps l = []
    rw [hx.2.2, h.jl]; rfl
theorem Flat.app {l l' : List Itm} {n n' : Nat} (h : Flat l n) (h' : Flat l' n') : Flat (l ++ l') (n + n') := by
  refine ⟨fun y hy => ?_, ?_, ?_, by rw [List.length_append]; have := h.len; have := h'.len; omega⟩
  · rcases List.mem_append.1 hy with hy | hy
    · exact h.ok y hy
    · exact h'.ok y hy
  · show plcs (l ++ l') = []
    unfold plcs; rw [List.flatMap_append]; show plcs l ++ plcs l' = []
    rw [h.pl, h'.pl]; rfl
  · show jmps (l ++ l') = []
    unfold jmps; rw [List.flatMap_append]; show jmps l ++ jmps l' = []
    rw [h.jl, h'.jl]; rfl
theorem Flat.mono {l : List Itm} {n n' : Nat} (h : Flat l n) (hn : n ≤ n') : Flat l n' := ⟨h.ok, h.pl, h.jl, Nat.le_trans h.len hn⟩
theorem fTwo {op d m : Int} (h : 12 ≤ op ∧ op ≤ 27) (hd : r07 d) (hm : r07 m) : (eTwo op d m).okI ∧ (eTwo op d m).pl = [] ∧ (eTwo op d m).jl = [] := ⟨two_ok h hd hm, rfl, rfl⟩
theorem fSmall {op d n : Int} (h : 8 ≤ op ∧ op ≤ 11) (hd : r07 d) (hn : 0 ≤ n ∧ n ≤ 255) : (eSmall op d n).okI ∧ (eSmall op d n).pl = [] ∧ (eSmall op d n).jl = [] := ⟨small_ok h hd hn, rfl, rfl⟩
theorem fAdd {op : Int} (h : op = 4 ∨ op = 5) : (Itm.one ⟨op, 0, 0, 1, 0, 0⟩).okI ∧ (Itm.one ⟨op, 0, 0, 1, 0, 0⟩).pl = [] ∧ (Itm.one ⟨op, 0, 0, 1, 0, 0⟩).jl = [] := ⟨.inr (.inr (.inr (.inr (.inl ⟨h, r07_0, r07_0, r07_1, rfl, rfl⟩)))), rfl, rfl⟩
theorem fLoad {r n : Int} (h : r07 r) : (Itm.load r n).okI ∧ (Itm.load r n).pl = [] ∧ (Itm.load r n).jl = [] := ⟨h, rfl, rfl⟩
theorem eBelow_f : Flat eBelow 3 := Flat.nil.cons (fTwo (by decide) r07_0 r07_0) |>.cons (fTwo (by decide) r07_0 r07_0) |>.cons (fTwo (by decide) r07_0 r07_1)
theorem eCarry_f : Flat eCarry 2 := Flat.nil.cons (fTwo (by decide) r07_0 r07_0) |>.cons (fSmall (by decide) r07_0 (by decide))
theorem eZero_f : Flat eZero 3 := eCarry_f.cons (fTwo (by decide) r07_0 r07_0)
theorem eShift_f {op : Int} (h : 12 ≤ op ∧ op ≤ 27) : Flat (eShift op) 3 := Flat.nil.cons (fTwo h r07_0 r07_1) |>.cons (fTwo (by decide) r07_1 r07_2) |>.cons (fSmall (by decide) r07_2 (by decide))
theorem eBin_f (op : Int) : Flat (eBin op) 6 := by
  unfold eBin
  have one : ∀ {x : Itm}, (x.okI ∧ x.pl = [] ∧ x.jl = []) → Flat [x] 6 := fun h => (Flat.nil.cons h).mono (by decide)
  split; · exact one (fAdd (.inl rfl))
  split; · exact one (fAdd (.inr rfl))
  split; · exact one (fTwo (by decide) r07_0 r07_1)
  split; · exact one (fTwo (by decide) r07_0 r07_1)
  split; · exact one (fTwo (by decide) r07_0 r07_1)
  split; · exact one (fTwo (by decide) r07_0 r07_1)
  split; · exact (eShift_f (by decide)).mono (by decide)
  split; · exact (eShift_f (by decide)).mono (by decide)
  split; · exact (eShift_f (by decide)).mono (by decide)
  split; · exact (eZero_f.cons (fAdd (.inr rfl))).mono (by decide)
  split
  · exact (eBelow_f.cons (fTwo (by decide) r07_1 r07_2)).cons (fTwo (by decide) r07_0 r07_2) |>.cons (fLoad r07_2)
  · exact eBelow_f.mono (by decide)
theorem eUn_f (op : Int) : Flat (eUn op) 3 := by
  unfold eUn
  split; · exact (Flat.nil.cons (fTwo (by decide) r07_0 r07_0)).mono (by decide)
  split; · exact (Flat.nil.cons (fTwo (by decide) r07_0 r07_0)).mono (by decide)
  exact eZero_f
theorem eChoose_f : Flat eChoose 5 := Flat.nil.cons (fTwo (by decide) r07_0 r07_2) |>.cons (fTwo (by decide) r07_0 r07_1) |>.cons (fTwo (by decide) r07_1 r07_2) |>.cons (fTwo (by decide) r07_0 r07_0) |>.cons (fTwo (by decide) r07_0 r07_0)
theorem eLds_f {of : List Int} {R : Nat} {l : List Int} (ho : OfOk of R) (hl : ∀ r ∈ l, 0 ≤ r ∧ r < R) (h5 : l.length ≤ 5) : Flat (eLds of l) 5 := by
  have each : ∀ x ∈ eLds of l, x.okI ∧ x.pl = [] ∧ x.jl = [] := fun x hx => by
    simp only [eLds, List.mem_map, List.mem_range] at hx
    obtain ⟨k, hk, rfl⟩ := hx
    have hm : l.getD k 0 ∈ l := by rw [List.getD_eq_getElem?_getD, List.getElem?_eq_getElem hk]; exact List.getElem_mem hk
    obtain ⟨a, b⟩ := hl _ hm
    exact eLd_ok ho ⟨by omega, by omega⟩ a b
  have fl : ∀ m : List Itm, (∀ x ∈ m, x.okI ∧ x.pl = [] ∧ x.jl = []) → Flat m m.length := fun m => by
    induction m with
    | nil => exact fun _ => Flat.nil
    | cons x m ih => exact fun h => (ih fun y hy => h y (List.mem_cons_of_mem _ hy)).cons (h x List.mem_cons_self)
  exact (fl _ each).mono (by simpa [eLds] using h5)
end Go.Proofs.YtjcmcfidblhnnaaDoor
namespace Go.Proofs.YtjcmcfidblhnnaaDoor
open Go.Vc
theorem RightN.us5 {n : GNode} {k r c : Int} (h : RightN n k r c) : n.us.length ≤ 5 := by
  have hf := h.f
  cases n with
  | serve op a b d l =>
    have hf : serves op = l.length := hf
    unfold serves at hf
    show l.length ≤ 5
    split at hf
    · omega
    · split at hf
      · omega
      · split at hf
        · omega
        · split at hf <;> omega
  | call m d l => have := hf.2; show l.length ≤ 5; omega
  | callX m d l => have := hf.2; show l.length ≤ 5; omega
  | ret s => simp only [GNode.us]; split <;> simp
  | _ => simp [GNode.us]
theorem plcs_app (l l' : List Itm) : plcs (l ++ l') = plcs l ++ plcs l' := by unfold plcs; rw [List.flatMap_append]
theorem jmps_app (l l' : List Itm) : jmps (l ++ l') = jmps l ++ jmps l' := by unfold jmps; rw [List.flatMap_append]
theorem eDef_f {of : List Int} {R : Nat} {n : GNode} {k c : Int} (ho : OfOk of R) (hn : RightN n k R c) : Flat (eDef of n) 1 := by
  unfold eDef
  split
  · rename_i h
    rcases hn.d with h1 | h1
    · exact Flat.nil.cons (eSt_ok ho r07_0 h1.1 h1.2)
    · omega
  · exact Flat.nil.mono (by decide)
structure NOk (n : GNode) (N : Nat) (k : Nat) (l : List Itm) : Prop where
  ok : ∀ x ∈ l, x.okI
  pl : plcs l = if n.tkB then [(N : Int) + k] else []
  jl : ∀ q ∈ jmps l, (0 ≤ q ∧ q < N) ∨ (n.tkB = true ∧ q = (N : Int) + k)
  len : l.length ≤ 13
theorem NOk.of_flat {n : GNode} {N k m : Nat} {l : List Itm} (hn : n.tkB = false) (h : Flat l m) (hm : m ≤ 13) : NOk n N k l := ⟨h.ok, (by rw [hn, h.pl]; rfl), fun q hq => (by rw [h.jl] at hq; cases hq), Nat.le_trans h.len hm⟩
theorem eNode_ok {of : List Int} {R N k tl : Nat} {applet : Int} {n : GNode} (ho : OfOk of R) (hn : RightN n k R N) (hN : N ≤ 250) (hk : k < N) (ht : tl ≤ k) : NOk n N k (eNode of N applet tl n k) := by
  have h5 := hn.us5
  have hl : Flat (eLds of n.us) 5 := eLds_f ho hn.u h5
  have hd := eDef_f ho hn
  have hd0 : ∀ {n : GNode}, n.df = -1 → eDef of n = [] := fun h => by unfold eDef; rw [if_neg (by omega)]
  have jump : ∀ {c t : Int} {l : List Itm} {m : Nat}, Flat l m → m ≤ 12 → (0 ≤ t ∧ t < N) → 0 ≤ c ∧ c ≤ 14 → n.tkB = false → NOk n N k (l ++ [.jump c t]) := fun {c t l m} hf hm h2 hc hne => ⟨fun x hx => by
      rcases List.mem_append.1 hx with hx | hx
      · exact hf.ok x hx
      · rw [List.mem_singleton] at hx; subst hx; exact ⟨⟨h2.1, by omega⟩, hc⟩, by rw [plcs_app, hf.pl, hne]; rfl, fun q hq => by
      rw [jmps_app, hf.jl] at hq
      have : q = t := by simpa [jmps, Itm.jl] using hq
      subst this; exact .inl h2, by rw [List.length_append]; have := hf.len; simp; omega⟩
  cases n with
  | const d v => exact .of_flat rfl ((Flat.nil.cons (fLoad (n := v) r07_0)).app hd) (by decide)
  | move d s => exact .of_flat rfl (hl.app hd) (by decide)
  | bin op d a b => exact .of_flat rfl ((hl.app (eBin_f op)).app hd) (by decide)
  | un op d a => exact .of_flat rfl ((hl.app (eUn_f op)).app hd) (by decide)
  | choose d c a b => exact .of_flat rfl ((hl.app eChoose_f).app hd) (by decide)
  | tick =>
    show NOk .tick N k (eTick ((N : Int) + k) ++ eDef of .tick)
    rw [hd0 rfl, List.append_nil]
    refine ⟨fun x hx => ?_, by simp [eTick, plcs, Itm.pl, eSmall, GNode.tkB], fun q hq => .inr ⟨rfl, by simpa [eTick, jmps, Itm.jl, eSmall] using hq⟩, by simp [eTick]⟩
    simp only [eTick, List.mem_cons, List.not_mem_nil, or_false] at hx
    rcases hx with rfl | rfl | rfl | rfl | rfl
    · exact small_ok (by decide) ⟨by decide, by decide⟩ (by decide)
    · exact ⟨⟨by omega, by omega⟩, by decide⟩
    · exact .inr (.inr (.inr (.inr (.inr (.inr ⟨rfl, rfl, rfl, rfl, by decide, rfl⟩)))))
    · exact ⟨by omega, by omega⟩
    · exact small_ok (by decide) ⟨by decide, by decide⟩ (by decide)
  | goto t =>
    show NOk (.goto t) N k ([.jump 14 t] ++ eDef of (.goto t))
    rw [hd0 rfl, List.append_nil]
    exact jump (l := []) Flat.nil (by decide) (hn.t t (by simp [GNode.nx])) (by decide) rfl
  | branch c t =>
    show NOk (.branch c t) N k ((eLds of _ ++ [eSmall 9 0 0, .jump 1 t]) ++ eDef of (.branch c t))
    rw [hd0 rfl, List.append_nil, show [eSmall 9 0 0, Itm.jump 1 t] = [eSmall 9 0 0] ++ [.jump 1 t] from rfl, ← List.append_assoc]
    have h2 : 0 ≤ t ∧ t < N := by
      refine hn.t t ?_
      simp only [GNode.nx]
      split
      · rename_i h; rw [h]; exact List.mem_singleton.2 rfl
      · simp
    exact jump (hl.app (Flat.nil.cons (fSmall (by decide) r07_0 (by decide)))) (by decide) h2 (by decide) rfl
  | getField d f =>
    have hf : 0 ≤ f ∧ f < 8 := hn.f
    refine .of_flat rfl (((Flat.nil.cons (x := .one ⟨31, 0, 1, 0, 4 * f, 0⟩) ⟨.inr (.inr (.inr (.inr (.inr (.inl ⟨.inl rfl, r07_0, r07_1, rfl, ⟨?_, ?_, ?_⟩, rfl⟩))))), rfl, rfl⟩).cons (fLoad r07_1)).app hd) (by decide) <;> dsimp only <;> omega
  | putField f s =>
    have hf : 0 ≤ f ∧ f < 8 := hn.f
    refine .of_flat rfl ((hl.app ((Flat.nil.cons (x := .one ⟨32, 0, 1, 0, 4 * f, 0⟩) ⟨.inr (.inr (.inr (.inr (.inr (.inl ⟨.inr rfl, r07_0, r07_1, rfl, ⟨?_, ?_, ?_⟩, rfl⟩))))), rfl, rfl⟩).cons (fLoad r07_1))).app hd) (by decide) <;> dsimp only <;> omega
  | serve op a b d l => exact .of_flat rfl ((hl.app (Flat.nil.cons (x := .one ⟨44, 0, 0, 0, (tl : Int) + 1, 0⟩) ⟨.inr (.inr (.inr (.inr (.inr (.inr ⟨rfl, rfl, rfl, rfl, ⟨by dsimp only; omega, by dsimp only; omega⟩, rfl⟩))))), rfl, rfl⟩)).app hd) (by decide)
  | call m d l => exact .of_flat rfl ((hl.app (Flat.nil.cons (x := .one ⟨44, 0, 0, 0, (tl : Int) + 1, 0⟩) ⟨.inr (.inr (.inr (.inr (.inr (.inr ⟨rfl, rfl, rfl, rfl, ⟨by dsimp only; omega, by dsimp only; omega⟩, rfl⟩))))), rfl, rfl⟩)).app hd) (by decide)
  | callX m d l => exact .of_flat rfl ((hl.app (Flat.nil.cons (x := .one ⟨44, 0, 0, 0, (tl : Int) + 1, 0⟩) ⟨.inr (.inr (.inr (.inr (.inr (.inr ⟨rfl, rfl, rfl, rfl, ⟨by dsimp only; omega, by dsimp only; omega⟩, rfl⟩))))), rfl, rfl⟩)).app hd) (by decide)
  | ret s => exact .of_flat rfl ((hl.app (Flat.nil.cons (x := .one ⟨44, 0, 0, 0, (tl : Int) + 1, 0⟩) ⟨.inr (.inr (.inr (.inr (.inr (.inr ⟨rfl, rfl, rfl, rfl, ⟨by dsimp only; omega, by dsimp only; omega⟩, rfl⟩))))), rfl, rfl⟩)).app hd) (by decide)
structure EOk (p : GProg) (N k : Nat) (l : List Itm) (tab : List GNode) : Prop where
  ok : ∀ x ∈ l, x.okI
  pl : ∀ q ∈ plcs l, (∃ i : Nat, i < k ∧ q = i) ∨ ∃ i : Nat, i < k ∧ q = (N : Int) + i ∧ (p.at' i).tkB = true
  nd : (plcs l).Nodup
  mem : ∀ i : Nat, i < k → (i : Int) ∈ plcs l
  jl : ∀ q ∈ jmps l, (0 ≤ q ∧ q < N) ∨ q ∈ plcs l
  len : l.length ≤ 4 + 14 * k
  tab : tab = ((List.range k).map p.at').filter GNode.srvB
theorem emitK_ok {p : GProg} {of : List Int} {R N : Nat} {applet : Int} (hv : OkProg p) (hR : p.regs = R) (hN : p.nodes.length = N) (ho : OfOk of R) : ∀ k, k ≤ N → EOk p N k (emitK p of applet k).1 (emitK p of applet k).2
  | 0, _ => by
    have hp1 := hv.p1; have hp2 := hv.p2; have hp3 := hv.p3
    have each : ∀ x ∈ (emitK p of applet 0).1, x.okI ∧ x.pl = [] ∧ x.jl = [] := fun x hx => by
      simp only [emitK, List.mem_map, List.mem_range] at hx
      obtain ⟨k, hk, rfl⟩ := hx
      exact eSt_ok ho ⟨by omega, by omega⟩ (by omega) (by omega)
    have h1 : plcs (emitK p of applet 0).1 = [] := List.flatMap_eq_nil_iff.2 fun x hx => (each x hx).2.1
    have h2 : jmps (emitK p of applet 0).1 = [] := List.flatMap_eq_nil_iff.2 fun x hx => (each x hx).2.2
    exact ⟨fun x hx => (each x hx).1, fun q hq => (by rw [h1] at hq; cases hq), (by rw [h1]; exact List.nodup_nil), fun i hi => (by omega), fun q hq => (by rw [h2] at hq; cases hq), by simp [emitK]; omega, rfl⟩
  | k + 1, hk => by
    have ih := emitK_ok (applet := applet) hv hR hN ho k (by omega)
    have l2 := hv.l2
    obtain ⟨hpk, hrk⟩ := hv.at (k := k) (by omega)
    rw [hR, hN] at hrk
    have htl : (emitK p of applet k).2.length ≤ k := by rw [ih.tab]; exact Nat.le_trans (List.length_filter_le _ _) (by simp)
    have hn := eNode_ok (applet := applet) (tl := (emitK p of applet k).2.length) ho hrk (by omega) (by omega) htl
    have e1 : (emitK p of applet (k + 1)).1 = (emitK p of applet k).1 ++ .place k :: eNode of N applet (emitK p of applet k).2.length (p.at' k) k := by rw [← hN]; rfl
    have e2 : (emitK p of applet (k + 1)).2 = if (p.at' k).srvB then (emitK p of applet k).2 ++ [p.at' k] else (emitK p of applet k).2 := rfl
    generalize emitK p of applet k = s at *
    rw [e1, e2]
    have epl : plcs (s.1 ++ .place k :: eNode of N applet s.2.length (p.at' k) k) = plcs s.1 ++ ((k : Int) :: if (p.at' k).tkB then [(N : Int) + k] else []) := by
      rw [plcs_app, show plcs (.place k :: eNode of N applet s.2.length (p.at' k) k) = (k : Int) :: plcs (eNode of N applet s.2.length (p.at' k) k) from rfl, hn.pl]
    refine ⟨fun x hx => ?_, fun q hq => ?_, ?_, fun i hi => ?_, fun q hq => ?_, ?_, ?_⟩
    · rcases List.mem_append.1 hx with hx | hx
      · exact ih.ok x hx
      · rcases List.mem_cons.1 hx with rfl | hx
        · exact ⟨by omega, by omega⟩
        · exact hn.ok x hx
    · rw [epl] at hq
      rcases List.mem_append.1 hq with hq | hq
      · rcases ih.pl q hq with ⟨i, h1, h2⟩ | ⟨i, h1, h2⟩
        · exact .inl ⟨i, by omega, h2⟩
        · exact .inr ⟨i, by omega, h2⟩
      · rcases List.mem_cons.1 hq with rfl | hq
        · exact .inl ⟨k, by omega, rfl⟩
        · split at hq
          · rename_i ht
            rw [List.mem_singleton] at hq
            exact .inr ⟨k, by omega, hq, ht⟩
          · cases hq
    · rw [epl]
      refine List.nodup_append.2 ⟨ih.nd, ?_, fun a ha b hb he => ?_⟩
      · split
        · refine List.nodup_cons.2 ⟨fun h => ?_, by simp⟩
          rw [List.mem_singleton] at h; omega
        · simp
      · subst he
        have hb2 : a = (k : Int) ∨ a = (N : Int) + k := by
          rcases List.mem_cons.1 hb with hb | hb
          · exact .inl hb
          · split at hb
            · exact .inr (by simpa using hb)
            · cases hb
        rcases ih.pl a ha with ⟨i, h1, h2⟩ | ⟨i, h1, h2, _⟩ <;> omega
    · rw [epl]
      by_cases hik : i = k
      · subst hik; exact List.mem_append_right _ List.mem_cons_self
      · exact List.mem_append_left _ (ih.mem i (by omega))
    · rw [epl]
      rw [jmps_app, show jmps (.place k :: eNode of N applet s.2.length (p.at' k) k) = jmps (eNode of N applet s.2.length (p.at' k) k) from rfl] at hq
      rcases List.mem_append.1 hq with hq | hq
      · rcases ih.jl q hq with h1 | h1
        · exact .inl h1
        · exact .inr (List.mem_append_left _ h1)
      · rcases hn.jl q hq with h1 | ⟨h1, h2⟩
        · exact .inl h1
        · right
          rw [if_pos h1]
          exact List.mem_append_right _ (by rw [h2]; simp)
    · have := ih.len; have := hn.len
      rw [List.length_append, List.length_cons]; omega
    · rw [List.range_succ, List.map_append, List.filter_append, ← ih.tab]
      simp only [List.map_cons, List.map_nil, List.filter_cons, List.filter_nil]
      split <;> simp
structure AsmOk (l : List Itm) : Prop where
  len : l.length ≤ 6000
  ok : ∀ x ∈ l, x.okI
  nd : (plcs l).Nodup
  jl : ∀ q ∈ jmps l, q ∈ plcs l
def emitP (p : GProg) (of : List Int) (applet : Int) : List Itm := (emitK p of applet p.nodes.length).1
def tableP (p : GProg) : List GNode := p.nodes.filter GNode.srvB
theorem range_at {p : GProg} : (List.range p.nodes.length).map p.at' = p.nodes := by
  apply List.ext_getElem?
  intro i
  by_cases hi : i < p.nodes.length
  · rw [List.getElem?_map, List.getElem?_range hi, List.getElem?_eq_getElem hi]
    show some (p.nodes.getD i _) = _
    rw [List.getD_eq_getElem?_getD, List.getElem?_eq_getElem hi]; rfl
  · rw [List.getElem?_eq_none (by simp; omega), List.getElem?_eq_none (by omega)]
theorem emitP_ok {p : GProg} {of : List Int} {R : Nat} {applet : Int} (hv : OkProg p) (hR : p.regs = R) (ho : OfOk of R) : AsmOk (emitP p of applet) ∧ (emitK p of applet p.nodes.length).2 = tableP p := by
  have h := emitK_ok (applet := applet) hv hR rfl ho p.nodes.length (Nat.le_refl _)
  have l2 := hv.l2
  refine ⟨⟨by have := h.len; unfold emitP; omega, h.ok, h.nd, fun q hq => ?_⟩, by rw [h.tab, range_at]; rfl⟩
  rcases h.jl q hq with ⟨h1, h2⟩ | h1
  · obtain ⟨k, rfl⟩ : ∃ k : Nat, q = k := ⟨q.toNat, by omega⟩
    exact h.mem k (by omega)
  · exact h1
end Go.Proofs.YtjcmcfidblhnnaaDoor
namespace Go.Proofs.YtjcmcfidblhnnaaDoor
open Go.Vc
def GNode.pk : GNode → Int
  | .const _ _ => 1 | .move _ _ => 2 | .bin _ _ _ _ => 3 | .un _ _ _ => 4 | .choose _ _ _ _ => 5 | .tick => 6 | .goto _ => 7 | .branch _ _ => 8
  | .getField _ _ => 9 | .putField _ _ => 10 | .serve _ _ _ _ _ => 11 | .call _ _ _ => 12 | .callX _ _ _ => 13 | .ret _ => 14
def GNode.pop : GNode → Int
  | .bin op _ _ _ | .un op _ _ | .serve op _ _ _ _ => op
  | _ => 0
def GNode.pN (_ : Int) : GNode → Int
  | .const _ n => IntKind.i64.wrap n
  | .getField _ f | .putField f _ => f
  | .call k _ _ | .callX k _ _ => k
  | _ => 0
def GNode.pA : GNode → Int
  | .serve _ a _ _ _ => a
  | _ => 0
def GNode.pB : GNode → Int
  | .serve _ _ b _ _ => b
  | _ => 0
def GNode.pT : GNode → Int
  | .goto t | .branch _ t => t
  | _ => 0
def GNode.pcs (g : GNode) (m : Int) (sv : Value) : List Value := [i64 g.pk, i64 g.df, i64 g.pop, i64 (g.pN m), i64 g.pA, i64 g.pB, i64 g.pT, sv]
def PlainIs (w : World) (v : Value) (g : GNode) : Prop := ∃ m sv, v = .agg (g.pcs m sv).toArray ∧ IntsAre w sv g.us
theorem PlainIs.ext {w w' : World} {v : Value} {g : GNode} (h : PlainIs w v g) (hx : Ext w w') : PlainIs w' v g := by
  obtain ⟨m, sv, h1, h2⟩ := h
  exact ⟨m, sv, h1, h2.ext hx⟩
theorem ints_nil (w : World) : IntsAre w (.slice none 0 0) [] := SliceIs.nil w 1
theorem plainEnd {R : Value → World → Prop} {w0 w1 : World} {g : Nat} {old : List Value} {parts : Array (Nat × Value)} (n : GNode) (m : Int) (sv : Value) (l : List (Nat × Value)) (hp : parts = l.toArray) (h1 : (l.all fun x => decide (x.1 < 8) && oneC x.2) = true)
    (hl : l.foldl (fun cs x => cs.set x.1 x.2) [i64 0, i64 0, i64 0, i64 0, i64 0, i64 0, i64 0, .slice none 0 0] = n.pcs m sv) (hsv : oneC sv = true) (hb : Blk w1 g old 40) (ho : old.length = 8)
    (hx : Ext w0 w1) (hg : w0.heap.size ≤ g) (hk : ∀ w', Ext w0 w' → Chg w1 g w' → R (.agg (n.pcs m sv).toArray) w') :
    V Tryd.prog (Instr.build 40 parts) w1 fun t w2 => U Tryd.prog (Instr.storeAt 40 (.pointer (some ⟨g, 0, none⟩)) t) w2 fun _ w3 =>
      ∃ r1, (loadVar 40 (match (Value.pointer (some ⟨g, 0, none⟩)) with | .pointer (some p) => p | _ => ⟨0, 0, none⟩)).run Tryd.prog w3 = .ok r1 w3 ∧ (∃ p, (Value.pointer (some ⟨g, 0, none⟩)) = Value.pointer (some p)) ∧ R r1 w3 := by
  refine bld bd_40 l hp h1 ?_
  have hl' : l.foldl (fun cs x => cs.set x.1 x.2) [.int .i64 0, .int .i64 0, .int .i64 0, .int .i64 0, .int .i64 0, .int .i64 0, .int .i64 0, .slice none 0 0] = n.pcs m sv := hl
  rw [hl']
  refine stA inf40 hb (l := n.pcs m sv) rfl rfl ho (by simp [GNode.pcs, oneC]; cases sv <;> simp_all [oneC]) fun w' h2 hc => ?_
  exact ⟨_, r_var Tryd.underlying40 rfl inf40 h2 rfl, ⟨_, rfl⟩, hk w' (hc.ext _ hx hg) hc⟩
def PlainO (v0 : Value) (w w' : World) (v : Value) (g : GNode) : Prop := ∃ m sv, v = .agg (g.pcs m sv).toArray ∧ ((∀ w0, NodeIs w0 v0 g → IntsAre w0 sv g.us) ∨ w'.ownsRow w.heap.size 3 1 sv g.us.length (g.us.map i64))
theorem own1 {w : World} {B e n : Nat} {v : Value} {xs : List Value} (h : w.ownsRow B e 1 v n xs) : oneC v = true := by
  obtain ⟨a, c, rfl⟩ := (SliceIs.of_own h).shape; rfl
theorem shape_ints {w : World} {sv : Value} {l : List Int} (h : IntsAre w sv l) : oneC sv = true := by
  obtain ⟨a, c, rfl⟩ := h.shape; rfl
set_option maxHeartbeats 1000000 in
theorem plainO_ok {n : GNode} {v : Value} {w : World} (h : NodeIs w v n) : callD Tryd.prog 9 #[v] w fun r w' => PlainO v w w' r n ∧ Ext w w' := by
  obtain ⟨sv, rfl, hs⟩ := h
  obtain ⟨sa, sc, rfl⟩ := hs.shape
  apply F9_wp
  unfold F9_den
  refine alK inf40 fun w0 h0 x0 => ?_
  have fin0 : ∀ {n : GNode} {v0 : Value} {m : Int} {w1 w2 : World}, Ext w w2 → Chg w1 w.heap.size w2 → n.us = [] → PlainO v0 w w2 (.agg (n.pcs m (.slice none 0 0)).toArray) n ∧ Ext w w2 := fun {n v0 m w1 w2} hx _ hu => ⟨⟨m, _, rfl, .inl fun _ _ => by rw [hu]; exact ints_nil _⟩, hx⟩
  cases n with
  | const d m =>
    dsimp only [GNode.val]; (repeat (first | (with_reducible refine th (by first | exact ta_100 | exact ta_78) ?_) | ((with_reducible refine tm ta_100 (by decide) ?_); intro _ _ _)))
    refine asB sa_78 rfl rfl fun b w1 hb x1 => ?_; refine ldB hb fa_78_0 l1_3 rfl ?_; refine ldB hb fa_78_1 l1_21 rfl ?_
    refine V_cv_21_3.2 ?_
    exact plainEnd (.const d m) 0 (.slice none 0 0) [(0, i64 1), (1, i64 d), (3, _)] rfl rfl rfl rfl (h0.ext x1) rfl (x0.trans x1) (Nat.le_refl _) fun w' hx hc => fin0 hx hc rfl
  | tick =>
    dsimp only [GNode.val]; (repeat (first | (with_reducible refine th (by first | exact ta_100 | exact ta_47) ?_) | ((with_reducible refine tm (by first | exact ta_100 | exact ta_47 | exact ta_49 | exact ta_78 | exact ta_80 | exact ta_82 | exact ta_84 | exact ta_86) (by decide) ?_); intro _ _ _)))
    refine asB sa_47 rfl rfl fun b w1 hb x1 => ?_
    exact plainEnd .tick 0 (.slice none 0 0) [(0, i64 6), (1, i64 (-1))] rfl rfl rfl rfl (h0.ext x1) rfl (x0.trans x1) (Nat.le_refl _) fun w' hx hc => fin0 hx hc rfl
  | goto t =>
    dsimp only [GNode.val]; (repeat (first | (with_reducible refine th (by first | exact ta_100 | exact ta_88) ?_) | ((with_reducible refine tm (by first | exact ta_100 | exact ta_47 | exact ta_49 | exact ta_78 | exact ta_80 | exact ta_82 | exact ta_84 | exact ta_86) (by decide) ?_); intro _ _ _)))
    refine asB sa_88 rfl rfl fun b w1 hb x1 => ?_; refine ldB hb fa_88_0 l1_3 rfl ?_
    exact plainEnd (.goto t) 0 (.slice none 0 0) [(0, i64 7), (1, i64 (-1)), (6, i64 t)] rfl rfl rfl rfl (h0.ext x1) rfl (x0.trans x1) (Nat.le_refl _) fun w' hx hc => fin0 hx hc rfl
  | getField d f =>
    dsimp only [GNode.val]; (repeat (first | (with_reducible refine th (by first | exact ta_100 | exact ta_92) ?_) | ((with_reducible refine tm (by first | exact ta_100 | exact ta_47 | exact ta_49 | exact ta_78 | exact ta_80 | exact ta_82 | exact ta_84 | exact ta_86 | exact ta_88 | exact ta_90) (by decide) ?_); intro _ _ _)))
    refine asB sa_92 rfl rfl fun b w1 hb x1 => ?_; refine ldB hb fa_92_0 l1_3 rfl ?_; refine ldB hb fa_92_1 l1_3 rfl ?_
    exact plainEnd (.getField d f) 0 (.slice none 0 0) [(0, i64 9), (1, i64 d), (3, i64 f)] rfl rfl rfl rfl (h0.ext x1) rfl (x0.trans x1) (Nat.le_refl _) fun w' hx hc => fin0 hx hc rfl
  | move d s =>
    dsimp only [GNode.val]; (repeat (first | (with_reducible refine th (by first | exact ta_100 | exact ta_80) ?_) | ((with_reducible refine tm (by first | exact ta_100 | exact ta_78) (by decide) ?_); intro _ _ _)))
    refine asB sa_80 rfl rfl fun b w1 hb x1 => ?_; refine ldB hb fa_80_0 l1_3 rfl ?_; refine ldB hb fa_80_1 l1_3 rfl ?_
    refine bsl xe_27 [i64 s] rfl rfl (by simp) rfl fun v w2 ho x2 => ?_
    exact plainEnd (.move d s) 0 v [(0, i64 2), (1, i64 d), (7, v)] rfl (by obtain ⟨_, _, rfl⟩ := (SliceIs.of_own ho).shape; rfl) rfl (own1 ho) ((h0.ext x1).ext x2) rfl ((x0.trans x1).trans x2) (Nat.le_refl _) fun w' hx hc => ⟨⟨0, v, rfl, .inr (own_mono (hc.ownRow ho (Nat.lt_of_lt_of_le h0.lt x1.size)) (x0.trans x1).size)⟩, hx⟩
  | bin op d a c =>
    dsimp only [GNode.val]; (repeat (first | (with_reducible refine th (by first | exact ta_100 | exact ta_82) ?_) | ((with_reducible refine tm (by first | exact ta_100 | exact ta_47 | exact ta_49 | exact ta_78 | exact ta_80) (by decide) ?_); intro _ _ _)))
    refine asB sa_82 rfl rfl fun b w1 hb x1 => ?_; refine ldB hb fa_82_0 l1_3 rfl ?_; refine ldB hb fa_82_1 l1_3 rfl ?_; refine ldB hb fa_82_2 l1_3 rfl ?_; refine ldB hb fa_82_3 l1_3 rfl ?_
    refine bsl xe_27 [i64 a, i64 c] rfl rfl (by simp) rfl fun v w2 ho x2 => ?_
    exact plainEnd (.bin op d a c) 0 v [(0, i64 3), (2, i64 op), (1, i64 d), (7, v)] rfl (by obtain ⟨_, _, rfl⟩ := (SliceIs.of_own ho).shape; rfl) rfl (own1 ho) ((h0.ext x1).ext x2) rfl ((x0.trans x1).trans x2) (Nat.le_refl _) fun w' hx hc => ⟨⟨0, v, rfl, .inr (own_mono (hc.ownRow ho (Nat.lt_of_lt_of_le h0.lt x1.size)) (x0.trans x1).size)⟩, hx⟩
  | un op d a =>
    dsimp only [GNode.val]; (repeat (first | (with_reducible refine th (by first | exact ta_100 | exact ta_84) ?_) | ((with_reducible refine tm (by first | exact ta_100 | exact ta_47 | exact ta_49 | exact ta_78 | exact ta_80 | exact ta_82) (by decide) ?_); intro _ _ _)))
    refine asB sa_84 rfl rfl fun b w1 hb x1 => ?_; refine ldB hb fa_84_0 l1_3 rfl ?_; refine ldB hb fa_84_1 l1_3 rfl ?_; refine ldB hb fa_84_2 l1_3 rfl ?_
    refine bsl xe_27 [i64 a] rfl rfl (by simp) rfl fun v w2 ho x2 => ?_
    exact plainEnd (.un op d a) 0 v [(0, i64 4), (2, i64 op), (1, i64 d), (7, v)] rfl (by obtain ⟨_, _, rfl⟩ := (SliceIs.of_own ho).shape; rfl) rfl (own1 ho) ((h0.ext x1).ext x2) rfl ((x0.trans x1).trans x2) (Nat.le_refl _) fun w' hx hc => ⟨⟨0, v, rfl, .inr (own_mono (hc.ownRow ho (Nat.lt_of_lt_of_le h0.lt x1.size)) (x0.trans x1).size)⟩, hx⟩
  | choose d c a e =>
    dsimp only [GNode.val]; (repeat (first | (with_reducible refine th (by first | exact ta_100 | exact ta_86) ?_) | ((with_reducible refine tm (by first | exact ta_100 | exact ta_47 | exact ta_49 | exact ta_78 | exact ta_80 | exact ta_82 | exact ta_84) (by decide) ?_); intro _ _ _)))
    refine asB sa_86 rfl rfl fun b w1 hb x1 => ?_; refine ldB hb fa_86_0 l1_3 rfl ?_; refine ldB hb fa_86_1 l1_3 rfl ?_; refine ldB hb fa_86_2 l1_3 rfl ?_; refine ldB hb fa_86_3 l1_3 rfl ?_
    refine bsl xe_27 [i64 c, i64 a, i64 e] rfl rfl (by simp) rfl fun v w2 ho x2 => ?_
    exact plainEnd (.choose d c a e) 0 v [(0, i64 5), (1, i64 d), (7, v)] rfl (by obtain ⟨_, _, rfl⟩ := (SliceIs.of_own ho).shape; rfl) rfl (own1 ho) ((h0.ext x1).ext x2) rfl ((x0.trans x1).trans x2) (Nat.le_refl _) fun w' hx hc => ⟨⟨0, v, rfl, .inr (own_mono (hc.ownRow ho (Nat.lt_of_lt_of_le h0.lt x1.size)) (x0.trans x1).size)⟩, hx⟩
  | branch c t =>
    dsimp only [GNode.val]; (repeat (first | (with_reducible refine th (by first | exact ta_100 | exact ta_90) ?_) | ((with_reducible refine tm (by first | exact ta_100 | exact ta_47 | exact ta_49 | exact ta_78 | exact ta_80 | exact ta_82 | exact ta_84 | exact ta_86 | exact ta_88) (by decide) ?_); intro _ _ _)))
    refine asB sa_90 rfl rfl fun b w1 hb x1 => ?_; refine ldB hb fa_90_1 l1_3 rfl ?_; refine ldB hb fa_90_0 l1_3 rfl ?_
    refine bsl xe_27 [i64 c] rfl rfl (by simp) rfl fun v w2 ho x2 => ?_
    exact plainEnd (.branch c t) 0 v [(0, i64 8), (1, i64 (-1)), (6, i64 t), (7, v)] rfl (by obtain ⟨_, _, rfl⟩ := (SliceIs.of_own ho).shape; rfl) rfl (own1 ho) ((h0.ext x1).ext x2) rfl ((x0.trans x1).trans x2) (Nat.le_refl _) fun w' hx hc => ⟨⟨0, v, rfl, .inr (own_mono (hc.ownRow ho (Nat.lt_of_lt_of_le h0.lt x1.size)) (x0.trans x1).size)⟩, hx⟩
  | putField f s =>
    dsimp only [GNode.val]; (repeat (first | (with_reducible refine th (by first | exact ta_100 | exact ta_94) ?_) | ((with_reducible refine tm (by first | exact ta_100 | exact ta_47 | exact ta_49 | exact ta_78 | exact ta_80 | exact ta_82 | exact ta_84 | exact ta_86 | exact ta_88 | exact ta_90 | exact ta_92) (by decide) ?_); intro _ _ _)))
    refine asB sa_94 rfl rfl fun b w1 hb x1 => ?_; refine ldB hb fa_94_0 l1_3 rfl ?_; refine ldB hb fa_94_1 l1_3 rfl ?_
    refine bsl xe_27 [i64 s] rfl rfl (by simp) rfl fun v w2 ho x2 => ?_
    exact plainEnd (.putField f s) 0 v [(0, i64 10), (1, i64 (-1)), (3, i64 f), (7, v)] rfl (by obtain ⟨_, _, rfl⟩ := (SliceIs.of_own ho).shape; rfl) rfl (own1 ho) ((h0.ext x1).ext x2) rfl ((x0.trans x1).trans x2) (Nat.le_refl _) fun w' hx hc => ⟨⟨0, v, rfl, .inr (own_mono (hc.ownRow ho (Nat.lt_of_lt_of_le h0.lt x1.size)) (x0.trans x1).size)⟩, hx⟩
  | serve op a c d l =>
    dsimp only [GNode.val]; (repeat (first | (with_reducible refine th (by first | exact ta_100 | exact ta_96) ?_) | ((with_reducible refine tm (by first | exact ta_100 | exact ta_47 | exact ta_49 | exact ta_78 | exact ta_80 | exact ta_82 | exact ta_84 | exact ta_86 | exact ta_88 | exact ta_90 | exact ta_92 | exact ta_94) (by decide) ?_); intro _ _ _)))
    refine asB sa_96 rfl rfl fun b w1 hb x1 => ?_; refine ldB hb fa_96_0 l1_3 rfl ?_; refine ldB hb fa_96_1 l1_3 rfl ?_; refine ldB hb fa_96_2 l1_3 rfl ?_; refine ldB hb fa_96_3 l1_3 rfl ?_; refine ldB hb fa_96_4 l1_27 rfl ?_
    exact plainEnd (.serve op a c d l) 0 _ [(0, i64 11), (2, i64 op), (4, i64 a), (5, i64 c), (1, i64 d), (7, _)] rfl rfl rfl rfl (h0.ext x1) rfl (x0.trans x1) (Nat.le_refl _) fun w' hx hc => ⟨⟨0, _, rfl, .inl fun w0 h0 => by obtain ⟨sv', e, h⟩ := h0; simp only [GNode.val] at e; cases e; exact h⟩, hx⟩
  | call k d l =>
    dsimp only [GNode.val]; (repeat (first | (with_reducible refine th (by first | exact ta_100 | exact ta_98) ?_) | ((with_reducible refine tm (by first | exact ta_100 | exact ta_47 | exact ta_49 | exact ta_78 | exact ta_80 | exact ta_82 | exact ta_84 | exact ta_86 | exact ta_88 | exact ta_90 | exact ta_92 | exact ta_94 | exact ta_96) (by decide) ?_); intro _ _ _)))
    refine asB sa_98 rfl rfl fun b w1 hb x1 => ?_; refine ldB hb fa_98_0 l1_3 rfl ?_; refine ldB hb fa_98_1 l1_3 rfl ?_; refine ldB hb fa_98_2 l1_27 rfl ?_
    exact plainEnd (.call k d l) 0 _ [(0, i64 12), (3, i64 k), (1, i64 d), (7, _)] rfl rfl rfl rfl (h0.ext x1) rfl (x0.trans x1) (Nat.le_refl _) fun w' hx hc => ⟨⟨0, _, rfl, .inl fun w0 h0 => by obtain ⟨sv', e, h⟩ := h0; simp only [GNode.val] at e; cases e; exact h⟩, hx⟩
  | callX k d l =>
    dsimp only [GNode.val]; (repeat (first | (with_reducible refine th ta_100 ?_) | ((with_reducible refine tm (by first | exact ta_100 | exact ta_47 | exact ta_49 | exact ta_78 | exact ta_80 | exact ta_82 | exact ta_84 | exact ta_86 | exact ta_88 | exact ta_90 | exact ta_92 | exact ta_94 | exact ta_96 | exact ta_98) (by decide) ?_); intro _ _ _)))
    refine asB sa_100 rfl rfl fun b w1 hb x1 => ?_; refine ldB hb fa_100_0 l1_3 rfl ?_; refine ldB hb fa_100_1 l1_3 rfl ?_; refine ldB hb fa_100_2 l1_27 rfl ?_
    exact plainEnd (.callX k d l) 0 _ [(0, i64 13), (3, i64 k), (1, i64 d), (7, _)] rfl rfl rfl rfl (h0.ext x1) rfl (x0.trans x1) (Nat.le_refl _) fun w' hx hc => ⟨⟨0, _, rfl, .inl fun w0 h0 => by obtain ⟨sv', e, h⟩ := h0; simp only [GNode.val] at e; cases e; exact h⟩, hx⟩
  | ret s =>
    dsimp only [GNode.val]; (repeat (first | (with_reducible refine th (by first | exact ta_100 | exact ta_49) ?_) | ((with_reducible refine tm (by first | exact ta_100 | exact ta_47 | exact ta_49 | exact ta_78 | exact ta_80 | exact ta_82 | exact ta_84 | exact ta_86 | exact ta_88 | exact ta_90 | exact ta_92 | exact ta_94 | exact ta_96 | exact ta_98) (by decide) ?_); intro _ _ _)))
    refine asB sa_49 rfl rfl fun b w1 hb x1 => ?_; refine ldB hb fa_49_0 l1_3 rfl ?_
    refine V_eqlI.2 (ifD_dec (fun heq => ?_) fun hne => ?_)
    · exact plainEnd (.ret s) 0 (.slice none 0 0) [(0, i64 14), (1, i64 (-1))] rfl rfl rfl rfl (h0.ext x1) rfl (x0.trans x1) (Nat.le_refl _) fun w' hx hc => fin0 hx hc (by simp [GNode.us, heq])
    · refine ldB hb fa_49_0 l1_3 rfl ?_
      refine bsl xe_27 [i64 s] rfl rfl (by simp) rfl fun v w2 ho x2 => ?_
      exact plainEnd (.ret s) 0 v [(0, i64 14), (1, i64 (-1)), (7, v)] rfl (by obtain ⟨_, _, rfl⟩ := (SliceIs.of_own ho).shape; rfl) rfl (own1 ho) ((h0.ext x1).ext x2) rfl ((x0.trans x1).trans x2) (Nat.le_refl _) fun w' hx hc => ⟨⟨0, v, rfl, by
        have hu : GNode.us (.ret s) = [s] := by simp only [GNode.us]; rw [if_neg hne]
        rw [hu]
        exact .inr (own_mono (hc.ownRow ho (Nat.lt_of_lt_of_le h0.lt x1.size)) (x0.trans x1).size)⟩, hx⟩
theorem PlainO.is {v0 : Value} {w w' : World} {v : Value} {g : GNode} (h : PlainO v0 w w' v g) (hx : NodeIs w' v0 g) : PlainIs w' v g := by
  obtain ⟨m, sv, h1, h2⟩ := h
  refine ⟨m, sv, h1, ?_⟩
  rcases h2 with h2 | h2
  · exact h2 _ hx
  · exact SliceIs.of_own h2
theorem bs83 {w : World} {K : Value → World → Prop} {g : GNode} {m : Int} {sv : Value} (_ : oneC sv = true) (hk : ∀ w', w'.ownsRow w.heap.size 40 8 (.slice (some ⟨w.heap.size, 0, none⟩) 1 1) 1 (g.pcs m sv) → Ext w w' → K (.slice (some ⟨w.heap.size, 0, none⟩) 1 1) w') :
    V Tryd.prog (Instr.buildSlice 51 1 #[(0, .agg (g.pcs m sv).toArray)]) w K := by
  have hr : (Instr.buildSlice 51 1 #[(0, .agg (g.pcs m sv).toArray)]).run Tryd.prog w = .ok (.slice (some ⟨w.heap.size, 0, none⟩) 1 1) (w.alloc (.cells (g.pcs m sv).toArray 40)) := by
    simp only [Instr.buildSlice, Sem.run_bind, run_underlying Tryd.underlying51, Result.andThen_ok, run_size inf40]
    rw [if_neg (by decide), if_neg (by decide)]
    simp only [Sem.run_bind, run_zero inf40, Result.andThen_ok, Sem.run_pure]
    have hf : ∀ z : Array Value, z = #[.int .i64 0, .int .i64 0, .int .i64 0, .int .i64 0, .int .i64 0, .int .i64 0, .int .i64 0, .slice none 0 0] → Instr.fill (fun i => some (i * 8, 8)) (Array.map (fun x => z[x % z.size]!) (Array.range (1 * 8))) [(0, Value.agg (g.pcs m sv).toArray)] = some (g.pcs m sv).toArray := by
      rintro _ rfl
      kernel_rfl
    have hf' := hf _ rfl
    simp only [Value.cells] at hf' ⊢
    erw [hf']
    simp [newRow, newObj, Sem.run]
  refine V.ok hr (hk _ ?_ ((Ext.refl w).alloc _))
  exact ⟨rfl, .inr ⟨_, 1, _, rfl, Nat.le_refl _, by rw [heap_alloc_new], by decide, by decide, by rfl, rfl⟩⟩
end Go.Proofs.YtjcmcfidblhnnaaDoor
namespace Go.Proofs.YtjcmcfidblhnnaaDoor
open Go.Vc
theorem serves8_ok {op : Int} {w : World} : callD Tryd.prog 57 #[i64 op] w fun r w' => r = i64 (serves op) ∧ w' = w := by
  apply F57_wp
  unfold F57_den
  refine ⟨fun v w' => v = .bool (decide (op = 27 ∨ op = 28)) ∧ w' = w, ?_, ?_⟩
  · refine V_eqlI.2 (ifD_dec (fun h => ?_) fun h => V_eqlI.2 ?_) <;> exact ⟨by simp [h], rfl⟩
  rintro _ w1 ⟨rfl, rfl⟩ _
  refine ifD_dec (fun h => ⟨by simp [serves, h], rfl⟩) fun h1 => ?_
  refine ⟨fun v w' => v = .bool (decide (op = 17 ∨ op = 18 ∨ op = 29)) ∧ w' = w1, ?_, ?_⟩
  · refine V_eqlI.2 (ifD_dec (fun h => ?_) fun h => V_eqlI.2 (ifD_dec (fun h' => ?_) fun h' => V_eqlI.2 ?_))
    · exact ⟨by simp [h], rfl⟩
    · exact ⟨by simp [h'], rfl⟩
    · exact ⟨by simp [h, h'], rfl⟩
  rintro _ w2 ⟨rfl, rfl⟩ _
  refine ifD_dec (fun h => ⟨by simp [serves, h1, h], rfl⟩) fun h2 => ?_
  refine ⟨fun v w' => v = .bool (decide (op = 30 ∨ op = 36)) ∧ w' = w2, ?_, ?_⟩
  · refine V_eqlI.2 (ifD_dec (fun h => ?_) fun h => V_eqlI.2 ?_) <;> exact ⟨by simp [h], rfl⟩
  rintro _ w3 ⟨rfl, rfl⟩ _
  refine ifD_dec (fun h => ⟨by simp [serves, h1, h2, h], rfl⟩) fun h3 => ?_
  refine V_eqlI.2 (ifD_dec (fun h => ?_) fun h => ?_)
  · exact ifD_dec (fun _ => ⟨by subst h; rfl, rfl⟩) fun h' => absurd h h'
  refine V_eqlI.2 (ifD_dec (fun h' => ?_) fun h' => ?_)
  · exact ⟨by subst h'; rfl, rfl⟩
  · exact ⟨by simp [serves, h1, h2, h3, h, h'], rfl⟩
def GNode.wr : GNode → Int
  | .const _ _ | .move _ _ | .bin _ _ _ _ | .un _ _ _ | .choose _ _ _ _ | .getField _ _ => 1
  | .serve _ _ _ _ _ | .call _ _ _ | .callX _ _ _ => 0
  | _ => -1
theorem writes_ok {g : GNode} {v : Value} {w : World} (h : PlainIs w v g) : callD Tryd.prog 29 #[v] w fun r w' => r = i64 g.wr ∧ Ext w w' := by
  obtain ⟨m, sv, rfl, hs⟩ := h
  apply F29_wp
  unfold F29_den
  refine bx fun b w1 hb x1 => ?_
  refine ldB hb fa_40_0 l1_3 rfl ?_
  refine ⟨fun v w' => v = .bool (decide (g.wr = 1)) ∧ w' = w1, ?_, ?_⟩
  · cases g <;> (simp only [GNode.pk, V_eqlI, Int.reduceEq, decide_true, decide_false, ifD_true, ifD_false]; first | exact ⟨rfl, rfl⟩ | simp [GNode.wr])
  · rintro _ w2 ⟨rfl, rfl⟩ _
    cases g <;> (simp only [GNode.wr, GNode.pk, V_eqlI, Int.reduceEq, Int.reduceNeg, decide_true, decide_false, ifD_true, ifD_false]; first | exact ⟨rfl, x1⟩ | exact ⟨trivial, x1⟩)
theorem nextP_ok {g : GNode} {v : Value} {w : World} {k : Int} (h : PlainIs w v g) (h0 : 0 ≤ k) (h1 : k ≤ 1000000) : callD Tryd.prog 30 #[v, i64 k] w fun r w' => w'.ownsRow w.heap.size 3 1 r (g.nx k).length ((g.nx k).map i64) ∧ Ext w w' := by
  obtain ⟨m, sv, rfl, hs⟩ := h
  apply F30_wp
  unfold F30_den
  have hw : IntKind.i64.wrap (k + 1) = k + 1 := wrap_id (by omega) (by omega)
  refine bx fun b w1 hb x1 => ?_
  refine ldB hb fa_40_0 l1_3 rfl ?_
  refine ⟨fun v w' => v = .bool (decide (g.pk = 0 ∨ g.pk = 14)) ∧ w' = w1, ?_, ?_⟩
  · cases g <;> (simp only [GNode.pk, V_eqlI, Int.reduceEq, decide_true, decide_false, ifD_false]; first | exact ⟨rfl, rfl⟩ | simp [])
  · rintro _ w2 ⟨rfl, rfl⟩ _
    cases g with
    | ret s =>
      simp only [GNode.pk, Int.reduceEq, or_true, decide_true, ifD_true]
      exact ⟨World.ownsRow_nil _ _ _ _, x1⟩
    | goto t =>
      simp only [GNode.pk, Int.reduceEq, or_false, decide_false, ifD_false, V_eqlI, decide_true, ifD_true]
      refine ldB hb fa_40_6 l1_3 rfl ?_
      refine bsl xe_27 [i64 t] rfl rfl (by simp) rfl fun v w2 ho x2 => ?_
      exact ⟨own_mono ho x1.size, x1.trans x2⟩
    | branch c t =>
      simp only [GNode.pk, Int.reduceEq, or_false, decide_false, ifD_false, V_eqlI, decide_true, ifD_true]
      refine ldB hb fa_40_6 l1_3 rfl ?_
      refine V_add.2 ?_
      rw [hw]
      refine V_eqlI.2 (ifD_dec (fun heq => ?_) fun hne => ?_)
      · refine V_add.2 ?_
        rw [hw]
        refine bsl xe_27 [i64 (k + 1)] rfl rfl (by simp) rfl fun v w2 ho x2 => ?_
        have hu : GNode.nx (.branch c t) k = [k + 1] := by simp only [GNode.nx]; rw [if_pos (show t = k + 1 from heq)]
        rw [hu]
        exact ⟨own_mono ho x1.size, x1.trans x2⟩
      · refine V_add.2 ?_
        rw [hw]
        refine ldB hb fa_40_6 l1_3 rfl ?_
        refine bsl xe_27 [i64 (k + 1), i64 t] rfl rfl (by simp) rfl fun v w2 ho x2 => ?_
        have hu : GNode.nx (.branch c t) k = [k + 1, t] := by simp only [GNode.nx]; rw [if_neg (show ¬ t = k + 1 from hne)]
        rw [hu]
        exact ⟨own_mono ho x1.size, x1.trans x2⟩
    | _ =>
      simp only [GNode.pk, Int.reduceEq, or_false, decide_false, ifD_false, V_eqlI]
      refine V_add.2 ?_
      rw [hw]
      refine bsl (by first | exact xe_23 | exact xe_27) [i64 (k + 1)] rfl rfl (by simp) rfl fun v w2 ho x2 => ?_
      exact ⟨own_mono ho x1.size, x1.trans x2⟩
end Go.Proofs.YtjcmcfidblhnnaaDoor
namespace Go.Proofs.YtjcmcfidblhnnaaDoor
open Go.Vc
set_option maxHeartbeats 4000000 in
theorem rightP_ok {g : GNode} {v : Value} {w : World} (h : PlainIs w v g) : callD Tryd.prog 28 #[v] w fun r w' => (∃ ok : Bool, r = .bool ok ∧ (ok = true → g.okF)) ∧ Ext w w' := by
  obtain ⟨m, sv, rfl, hs⟩ := h
  obtain ⟨sa, sc, rfl⟩ := hs.shape
  apply F28_wp
  unfold F28_den
  refine bx fun b w1 hb x1 => ?_
  refine ⟨fun u v w' => ∃ (r : Int) (ok : Bool), u = i64 r ∧ v = .bool ok ∧ w' = w1 ∧ (ok = true → (g.us.length : Int) = r → g.okF), ?_, ?_⟩
  · refine ldB hb fa_40_0 l1_3 rfl ?_
    refine ⟨fun v w' => v = .bool (decide (g.pk = 1 ∨ g.pk = 6 ∨ g.pk = 7)) ∧ w' = w1, ?_, ?_⟩
    · cases g <;> (simp only [GNode.pk, V_eqlI, Int.reduceEq, decide_true, decide_false, ifD_true, ifD_false]; first | exact ⟨rfl, rfl⟩ | simp)
    rintro _ w1 ⟨rfl, rfl⟩ _
    have c2 : w1.cell? ⟨b, 0 + 2, none⟩ = some (i64 g.pop) := hb 2 _ rfl
    have c3 : w1.cell? ⟨b, 0 + 3, none⟩ = some (i64 (g.pN m)) := hb 3 _ rfl
    cases g with
    | const d k | tick | goto t =>
      simp only [GNode.pk, Int.reduceEq, or_false, or_true, decide_true, ifD_true]
      exact ⟨0, true, rfl, rfl, (by first | rfl | trivial), fun _ _ => trivial⟩
    | move d s =>
      simp only [GNode.pk, V_eqlI, Int.reduceEq, or_false, decide_true, decide_false, ifD_true, ifD_false]
      exact ⟨1, true, rfl, rfl, (by first | rfl | trivial), fun _ _ => trivial⟩
    | branch c t =>
      simp only [GNode.pk, V_eqlI, Int.reduceEq, or_false, decide_true, decide_false, ifD_true, ifD_false]
      exact ⟨1, true, rfl, rfl, (by first | rfl | trivial), fun _ _ => trivial⟩
    | choose d c a e =>
      simp only [GNode.pk, V_eqlI, Int.reduceEq, or_false, decide_true, decide_false, ifD_true, ifD_false]
      exact ⟨3, true, rfl, rfl, (by first | rfl | trivial), fun _ _ => trivial⟩
    | bin op d a e =>
      simp only [GNode.pk, V_eqlI, Int.reduceEq, or_false, decide_true, decide_false, ifD_true, ifD_false]
      simp only [GNode.pop] at c2
      by_cases h1 : op ≥ 6 <;> by_cases h2 : op ≤ 14 <;> rcases Bool.eq_false_or_eq_true (decide (op = 19)) with e3 | e3 <;> rcases Bool.eq_false_or_eq_true (decide (op = 20)) with e4 | e4 <;> rcases Bool.eq_false_or_eq_true (decide (op = 21)) with e5 | e5 <;>
        simp only [V_fd_40_2, V_ld_3, c2, ldO_some, h1, h2, e3, e4, e5, V_leq, V_geq, V_eqlI, gd_t, gd_f, gd_tf, gd_ft, pickD_iff, reduceIte, Bool.false_eq_true, decide_true, decide_false] <;> exact ⟨2, _, rfl, rfl, (by first | rfl | trivial), by simp at e3 e4 e5; simp [GNode.okF, okBin]; try omega⟩
    | un op d a =>
      simp only [GNode.pk, V_eqlI, Int.reduceEq, or_false, decide_true, decide_false, ifD_true, ifD_false]
      simp only [GNode.pop] at c2
      rcases Bool.eq_false_or_eq_true (decide (op = 15)) with e1 | e1 <;> rcases Bool.eq_false_or_eq_true (decide (op = 16)) with e2 | e2 <;> rcases Bool.eq_false_or_eq_true (decide (op = 26)) with e3 | e3 <;>
        simp only [V_fd_40_2, V_ld_3, c2, ldO_some, e1, e2, e3, V_eqlI, gd_f, gd_tf, pickD_iff, reduceIte, Bool.false_eq_true] <;> exact ⟨1, _, rfl, rfl, (by first | rfl | trivial), by simp at e1 e2 e3; simp [GNode.okF, okUn]; try omega⟩
    | getField d f =>
      simp only [GNode.pk, V_eqlI, Int.reduceEq, or_false, decide_true, decide_false, ifD_true, ifD_false]
      simp only [GNode.pN] at c3
      by_cases h1 : f ≥ 0 <;> by_cases h2 : f < 8 <;> simp only [V_fd_40_3, V_ld_3, c3, ldO_some, h1, h2, V_lss, V_geq, gd_t, gd_ft, pickD_iff, reduceIte, Bool.false_eq_true, decide_true, decide_false] <;> exact ⟨0, _, rfl, rfl, (by first | rfl | trivial), by simp [GNode.okF]; try omega⟩
    | putField f s =>
      simp only [GNode.pk, V_eqlI, Int.reduceEq, or_false, decide_true, decide_false, ifD_true, ifD_false]
      simp only [GNode.pN] at c3
      by_cases h1 : f ≥ 0 <;> by_cases h2 : f < 8 <;> simp only [V_fd_40_3, V_ld_3, c3, ldO_some, h1, h2, V_lss, V_geq, gd_t, gd_ft, pickD_iff, reduceIte, Bool.false_eq_true, decide_true, decide_false] <;> exact ⟨1, _, rfl, rfl, (by first | rfl | trivial), by simp [GNode.okF]; try omega⟩
    | serve op a e d l =>
      simp only [GNode.pk, V_eqlI, Int.reduceEq, or_false, decide_true, decide_false, ifD_true, ifD_false]
      refine ldB hb fa_40_2 l1_3 rfl ?_
      refine serves8_ok.mono fun r w2 ⟨hr, hw⟩ => ?_
      subst hr hw
      refine V_geq.2 ?_
      exact ⟨serves op, _, rfl, rfl, (by first | rfl | trivial), fun _ h => h.symm⟩
    | call k d l =>
      simp only [GNode.pk, V_eqlI, Int.reduceEq, or_false, decide_true, decide_false, ifD_true, ifD_false]
      simp only [GNode.pN] at c3
      refine ldB hb fa_40_7 l1_27 rfl ?_
      refine V_ln_27.2 ?_
      by_cases h1 : k ≥ 0 <;> by_cases h2 : k < 8 <;> by_cases h3 : (((GNode.call k d l).us.length : Nat) : Int) ≤ 4 <;> simp only [V_fd_40_3, V_ld_3, c3, ldO_some, h1, h2, h3, V_lss, V_leq, V_geq, gd_t, gd_ft, pickD_iff, reduceIte, Bool.false_eq_true, decide_true, decide_false] <;>
        exact ⟨_, _, rfl, rfl, (by first | rfl | trivial), by simp [GNode.okF, GNode.us] at h3 ⊢; try omega⟩
    | callX k d l =>
      simp only [GNode.pk, V_eqlI, Int.reduceEq, or_false, decide_true, decide_false, ifD_true, ifD_false]
      simp only [GNode.pN] at c3
      refine ldB hb fa_40_7 l1_27 rfl ?_
      refine V_ln_27.2 ?_
      by_cases h1 : k ≥ 0 <;> by_cases h2 : k < 4 <;> by_cases h3 : (((GNode.callX k d l).us.length : Nat) : Int) ≤ 4 <;> simp only [V_fd_40_3, V_ld_3, c3, ldO_some, h1, h2, h3, V_lss, V_leq, V_geq, gd_t, gd_ft, pickD_iff, reduceIte, Bool.false_eq_true, decide_true, decide_false] <;>
        exact ⟨_, _, rfl, rfl, (by first | rfl | trivial), by simp [GNode.okF, GNode.us] at h3 ⊢; try omega⟩
    | ret s =>
      simp only [GNode.pk, V_eqlI, Int.reduceEq, or_false, decide_true, decide_false, ifD_true, ifD_false]
      refine ldB hb fa_40_7 l1_27 rfl ?_
      refine V_ln_27.2 ?_
      refine V_leq.2 ?_
      exact ⟨_, _, rfl, rfl, (by first | rfl | trivial), fun _ _ => trivial⟩
  · rintro _ _ w1 ⟨r, ok, rfl, rfl, rfl, hok⟩ _
    cases ok with
    | true =>
      simp only [gd_t]
      refine ldB hb fa_40_7 l1_27 rfl ?_
      refine V_ln_27.2 ?_
      refine V_eqlI.2 ?_
      simp only [pickD_iff, reduceIte]
      exact ⟨⟨_, rfl, fun h => hok rfl (of_decide_eq_true h)⟩, x1⟩
    | false =>
      simp only [gd_ft, pickD_iff, Bool.false_eq_true, reduceIte]
      exact ⟨⟨false, rfl, fun h => by cases h⟩, x1⟩
end Go.Proofs.YtjcmcfidblhnnaaDoor
namespace Go.Proofs.YtjcmcfidblhnnaaDoor
open Go.Vc
def PProgIs (w : World) (v : Value) (params regs : Int) (gs : List GNode) : Prop := ∃ ns cs, v = .agg #[i64 params, i64 regs, ns] ∧ SliceIs w ns 8 gs.length cs ∧ ∀ (i : Nat) g, gs[i]? = some g → ∃ m sv, (cs.drop (i * 8)).take 8 = g.pcs m sv ∧ IntsAre w sv g.us
theorem rightN_of {g : GNode} {k R N : Int} (hf : g.okF) (hu : ∀ r ∈ g.us, 0 ≤ r ∧ r < R) (ht : ∀ r ∈ g.nx k, 0 ≤ r ∧ r < N) (hd : g.wr ≥ 0 → ¬ g.df ≥ R ∧ ¬ g.df < g.wr - 1) : RightN g k R N := by
  refine ⟨hf, hu, ht, ?_⟩
  cases g <;> simp only [GNode.wr, GNode.df, GNode.bareN] at hd ⊢ <;> (try have := hd (by omega)) <;> first | omega | (simp; done) | (simp; omega)
theorem checkTail {g : GNode} {i : Nat} {m R params : Int} {N b b4 : Nat} {sv ns : Value} {cs : List Value} {w : World} {Rr : Value → World → Prop} {I : Value → World → Prop} (hi : i ≤ 1000) (_ : N ≤ 1000) (hg : IntsAre w sv g.us)
    (hb4 : Boxed w b4 (g.pcs m sv)) (hb : Boxed w b [i64 params, i64 R, ns]) (hs : SliceIs w ns 8 N cs) (hfalse : ∀ w', Ext w w' → Rr (.bool false) w')
    (hgo : (∀ r ∈ g.nx i, 0 ≤ r ∧ r < N) → ∀ w', Ext w w' → I (i64 ((i + 1 : Nat) : Int)) w') :
    V Tryd.prog (Instr.loadAt 40 (Value.pointer (some ⟨b4, 0, none⟩))) w fun t102 w70 =>
      callD Tryd.prog 30 #[t102, (i64 i)] w70 fun t104 w71 =>
      ∃ (I3 : NP 1) (μ3 : NF 1), I3 (Value.int IntKind.i64 0) w71 ∧
      ∀ (t8 : Value), ∀ w72 : World, I3 t8 w72 → ∀ _f : Env,
      V Tryd.prog (Builtin.len_ #[27] 3 #[t104]) w72 fun t107 w73 =>
      V Tryd.prog (binOp .lss 3 t8 t107) w73 fun t108 w74 =>
      ifD t108 (
      drawD w74 fun S21 w75 =>
      yieldS Tryd.prog S21 (Instr.indexAt 27 t104 t8) fun t113 =>
      yieldS Tryd.prog S21 (Instr.loadAt 3 t113) fun t114 =>
      yieldS Tryd.prog S21 (binOp .lss 3 t114 (Value.int IntKind.i64 0)) fun t115 =>
      gdY t115 false (fun K => K t104) fun t117 =>
      gdY t115 false (fun K => K t8) fun t118 =>
      gdY t115 false (fun K => yieldS Tryd.prog S21 (Instr.indexAt 27 t117 t118) K) fun t119 =>
      gdY t115 false (fun K => yieldS Tryd.prog S21 (Instr.loadAt 3 t119) K) fun t120 =>
      gdY t115 false (fun K => yieldS Tryd.prog S21 (Instr.fieldAt 53 (Value.pointer (some ⟨b, 0, none⟩)) 2) K) fun t121 =>
      gdY t115 false (fun K => yieldS Tryd.prog S21 (Instr.loadAt 51 t121) K) fun t122 =>
      gdY t115 false (fun K => yieldS Tryd.prog S21 (Builtin.len_ #[51] 3 #[t122]) K) fun t123 =>
      gdY t115 false (fun K => yieldS Tryd.prog S21 (binOp .geq 3 t120 t123) K) fun t124 =>
      pickD t115 (Value.bool true) t124 fun t125 =>
      ifD t125 (
      Rr (Value.bool false) w75) (
      V Tryd.prog (binOp .add 3 t8 (Value.int IntKind.i64 1)) w75 fun t110 w76 =>
      I3 t110 w76 ∧ μ3 t110 w76 < μ3 t8 w72)) (
      V Tryd.prog (binOp .add 3 (i64 i) (Value.int IntKind.i64 1)) w74 fun t52 w77 =>
      I t52 w77) := by
  obtain ⟨na, nc, rfl⟩ := hs.shape
  refine ldA hb4 la_40 rfl ?_
  refine (nextP_ok (g := g) (k := i) ⟨m, sv, rfl, hg⟩ (by omega) (by omega)).mono fun t w1 ⟨ht, x1⟩ => ?_
  have hts := SliceIs.of_own ht
  obtain ⟨ta, tc, rfl⟩ := hts.shape
  refine ⟨fun v w' => ∃ j : Nat, v = i64 j ∧ j ≤ (g.nx i).length ∧ Ext w1 w' ∧ ∀ (q : Nat) r, q < j → (g.nx i)[q]? = some r → 0 ≤ r ∧ r < N, fun v _ => (g.nx i).length - (RowKit.intOf v).toNat, ⟨0, rfl, Nat.zero_le _, Ext.refl _, fun q r hq => by omega⟩, ?_⟩
  rintro _ w2 ⟨j, rfl, hj, x2, hread⟩ _
  have hlen := nx_len g i
  refine V_ln_27.2 (V_lss.2 (ifD_dec (fun hjl => ?_) fun hjg => ?_))
  · have hj' : j < (g.nx i).length := by omega
    obtain ⟨r, hr⟩ := ex_get hj'
    have X := x1.trans x2
    refine drawD.mk' (fun w' => Ext w2 w') (Ext.refl _).drew ?_
    refine ySl xa_27 l1_3 (hts.ext x2) (fun _ h => h) (by omega) (by omega) (getI hr) ?_
    refine yLss ?_
    by_cases hr0 : r < 0
    · simp only [hr0, gdY_tf, pickD_iff, ifD_true, reduceIte, decide_true]; exact hfalse _ (X.trans (Ext.refl _).drew)
    simp only [hr0, gdY_f, pickD_iff, reduceIte, Bool.false_eq_true, decide_false]
    refine ySl xa_27 l1_3 (hts.ext x2) (fun _ h => h) (by omega) (by omega) (getI hr) ?_
    refine yfB (fun w' hw => (hb.ext X).ext hw) fa_53_2 l1_51 rfl ?_
    refine yieldS.ok (fun w' _ => r_len Tryd.underlying51) ?_
    refine yGeq ?_
    by_cases hrN : r ≥ (N : Int)
    · simp only [hrN, ifD_true, decide_true]; exact hfalse _ (X.trans (Ext.refl _).drew)
    simp only [hrN, ifD_false, decide_false]
    refine V_add.2 ?_
    rw [wrap_id (by omega) (by omega), i64_succ]
    refine ⟨⟨j + 1, rfl, by omega, x2.trans (Ext.refl _).drew, fun q r' hq hqr => ?_⟩, by simp only [intOf_i64]; omega⟩
    by_cases hqj : q = j
    · subst hqj
      rw [hr] at hqr
      cases hqr
      omega
    · exact hread q r' (by omega) hqr
  · refine V_add.2 ?_
    rw [wrap_id (by omega) (by omega), i64_succ]
    refine hgo (fun r hr => ?_) _ (x1.trans x2)
    obtain ⟨q, hq⟩ := List.getElem?_of_mem hr
    have := (List.getElem?_eq_some_iff.1 hq).1
    exact hread q r (by omega) hq
end Go.Proofs.YtjcmcfidblhnnaaDoor
namespace Go.Proofs.YtjcmcfidblhnnaaDoor
open Go.Vc
theorem wr_range (g : GNode) : -1 ≤ g.wr ∧ g.wr ≤ 1 := by cases g <;> simp [GNode.wr]
set_option maxHeartbeats 4000000 in
theorem checkP_ok {params R : Int} {gs : List GNode} {pv : Value} {w : World} (hp : PProgIs w pv params R gs) (hN : gs.length ≤ 1000) (hU : ∀ g ∈ gs, g.us.length ≤ 1000) :
    callD Tryd.prog 12 #[pv] w fun r w' => (∃ ok : Bool, r = .bool ok ∧ (ok = true → ∀ (i : Nat) g, gs[i]? = some g → RightN g i R gs.length)) ∧ Ext w w' := by
  obtain ⟨ns, cs, rfl, hs, hel⟩ := hp
  apply F12_wp
  unfold F12_den
  refine bx fun b w1 hb x1 => ?_
  have hs1 := hs.ext x1
  obtain ⟨na, nc, rfl⟩ := hs.shape
  have no : ∀ {w'}, Ext w w' → (∃ ok : Bool, Value.bool false = .bool ok ∧ (ok = true → ∀ (i : Nat) g, gs[i]? = some g → RightN g i R gs.length)) ∧ Ext w w' := fun hx => ⟨⟨false, rfl, fun h => by cases h⟩, hx⟩
  refine ldB hb fa_53_2 l1_51 rfl ?_
  refine V_ln_51.2 (V_lss.2 ?_)
  by_cases h1 : ((gs.length : Nat) : Int) < 1
  · simp only [h1, gd_tf, pickD_iff, ifD_true, reduceIte, decide_true]; exact no x1
  simp only [h1, gd_f, pickD_iff, reduceIte, Bool.false_eq_true, decide_false]
  refine ldB hb fa_53_2 l1_51 rfl ?_
  refine V_ln_51.2 ?_
  by_cases h2 : ((gs.length : Nat) : Int) > 250
  · simp only [h2, V_gtr, gd_tf, pickD_iff, ifD_true, reduceIte, decide_true]; exact no x1
  simp only [h2, V_gtr, gd_f, pickD_iff, reduceIte, Bool.false_eq_true, decide_false]
  refine ldB hb fa_53_1 l1_3 rfl ?_
  by_cases h3 : R < 0
  · simp only [h3, V_lss, gd_tf, pickD_iff, ifD_true, reduceIte, decide_true]; exact no x1
  simp only [h3, V_lss, gd_f, pickD_iff, reduceIte, Bool.false_eq_true, decide_false]
  refine ldB hb fa_53_1 l1_3 rfl ?_
  by_cases h4 : R > 40
  · simp only [h4, V_gtr, gd_tf, pickD_iff, ifD_true, reduceIte, decide_true]; exact no x1
  simp only [h4, V_gtr, gd_f, pickD_iff, reduceIte, Bool.false_eq_true, decide_false]
  refine ldB hb fa_53_0 l1_3 rfl ?_
  by_cases h5 : params < 0
  · simp only [h5, V_lss, gd_tf, pickD_iff, ifD_true, reduceIte, decide_true]; exact no x1
  simp only [h5, V_lss, gd_f, pickD_iff, reduceIte, Bool.false_eq_true, decide_false]
  refine ldB hb fa_53_0 l1_3 rfl ?_
  by_cases h6 : params > 4
  · simp only [h6, V_gtr, gd_tf, pickD_iff, ifD_true, reduceIte, decide_true]; exact no x1
  simp only [h6, V_gtr, gd_f, pickD_iff, reduceIte, Bool.false_eq_true, decide_false]
  refine ldB hb fa_53_0 l1_3 rfl ?_
  refine ldB hb fa_53_1 l1_3 rfl ?_
  by_cases h7 : params > R
  · simp only [h7, V_gtr, ifD_true, decide_true]; exact no x1
  simp only [h7, V_gtr, ifD_false, decide_false]
  refine ⟨fun v w' => ∃ i : Nat, v = i64 i ∧ i ≤ gs.length ∧ Ext w1 w' ∧ ∀ (j : Nat) g, j < i → gs[j]? = some g → RightN g j R gs.length, fun v _ => gs.length - (RowKit.intOf v).toNat, ⟨0, rfl, Nat.zero_le _, Ext.refl _, fun j g hj => by omega⟩, ?_⟩
  rintro _ w2 ⟨i, rfl, hi, x2, hdone⟩ _
  refine ldB (hb.ext x2) fa_53_2 l1_51 rfl ?_
  refine V_ln_51.2 (V_lss.2 (ifD_dec (fun hlt => ?_) fun hge => ?_))
  · have hi' : i < gs.length := by omega
    obtain ⟨g, hg⟩ := ex_get hi'
    obtain ⟨m, sv, hc, hargs⟩ := hel i g hg
    have hul := hU g (List.mem_of_getElem? hg)
    have x12 := x1.trans x2
    refine ldB (hb.ext x2) fa_53_2 l1_51 rfl ?_
    refine ldxA xa_51 la_40 (hs.ext x12) (by omega) (by omega) hc rfl ?_
    refine asB sa_40 rfl (by obtain ⟨_, _, rfl⟩ := hargs.shape; rfl) fun b4 w3 hb4 x3 => ?_
    refine ldA hb4 la_40 rfl ?_
    have x13 := x12.trans x3
    refine (rightP_ok (g := g) ⟨m, sv, rfl, hargs.ext x13⟩).mono fun r w4 ⟨⟨ok, hr, hok⟩, x4⟩ => ?_
    subst hr
    have x14 := x13.trans x4
    refine V_not.2 (ifD.mk (fun hn => ?_) fun hn => ?_)
    · exact no x14
    have hf : g.okF := hok (by simpa using hn)
    refine ⟨fun v w' => ∃ j : Nat, v = i64 j ∧ j ≤ g.us.length ∧ Ext w4 w' ∧ ∀ (q : Nat) r, q < j → g.us[q]? = some r → 0 ≤ r ∧ r < R, fun v _ => g.us.length - (RowKit.intOf v).toNat, ⟨0, rfl, Nat.zero_le _, Ext.refl _, fun q r hq => by omega⟩, ?_⟩
    rintro _ w5 ⟨j, rfl, hj, x5, hread⟩ _
    have hb45 := (hb4.ext x4).ext x5
    have x15 := x14.trans x5
    have hsv5 := hargs.ext x15
    refine ldB hb45 fa_40_7 l1_27 rfl ?_
    have hsh := hargs.shape
    obtain ⟨sa, sc, hsv⟩ := hsh
    subst hsv
    refine V_ln_27.2 (V_lss.2 (ifD_dec (fun hjl => ?_) fun hjg => ?_))
    · have hj' : j < g.us.length := by omega
      obtain ⟨r, hr⟩ := ex_get hj'
      refine drawD.mk' (fun w' => Ext w5 w') (Ext.refl _).drew ?_
      refine yfB (fun w' hw => hb45.ext hw) fa_40_7 l1_27 rfl ?_
      refine ySl xa_27 l1_3 hsv5 (fun _ h => h) (by omega) (by omega) (getI hr) ?_
      refine yLss ?_
      by_cases hr0 : r < 0
      · simp only [hr0, gdY_tf, pickD_iff, ifD_true, reduceIte, decide_true]; exact no (x15.trans (Ext.refl _).drew)
      simp only [hr0, gdY_f, pickD_iff, reduceIte, Bool.false_eq_true, decide_false]
      refine yfB (fun w' hw => hb45.ext hw) fa_40_7 l1_27 rfl ?_
      refine ySl xa_27 l1_3 hsv5 (fun _ h => h) (by omega) (by omega) (getI hr) ?_
      refine yfB (fun w' hw => ((hb.ext (((x2.trans x3).trans x4).trans x5))).ext hw) fa_53_1 l1_3 rfl ?_
      refine yGeq ?_
      by_cases hrR : r ≥ R
      · simp only [hrR, ifD_true, decide_true]; exact no (x15.trans (Ext.refl _).drew)
      simp only [hrR, ifD_false, decide_false]
      refine V_add.2 ?_
      rw [wrap_id (by omega) (by omega), i64_succ]
      refine ⟨⟨j + 1, rfl, by omega, x5.trans (Ext.refl _).drew, fun q r' hq hqr => ?_⟩, by simp only [intOf_i64]; omega⟩
      by_cases hqj : q = j
      · subst hqj
        rw [hr] at hqr
        cases hqr
        omega
      · exact hread q r' (by omega) hqr
    have hus : ∀ r ∈ g.us, 0 ≤ r ∧ r < R := fun r hr => by
      obtain ⟨q, hq⟩ := List.getElem?_of_mem hr
      have := (List.getElem?_eq_some_iff.1 hq).1
      exact hread q r (by omega) hq
    refine ldA hb45 la_40 rfl ?_
    refine (writes_ok (g := g) ⟨m, _, rfl, hsv5⟩).mono fun r w6 ⟨hr, x6⟩ => ?_
    subst hr
    have hb46 := hb45.ext x6
    have hbw : Boxed w6 b _ := (hb.ext (((x2.trans x3).trans x4).trans x5)).ext x6
    have x16 := x15.trans x6
    refine V_geq.2 ?_
    have hwr := wr_range g
    have X6 : Ext w1 w6 := (((x2.trans x3).trans x4).trans x5).trans x6
    have fin : (g.wr ≥ 0 → ¬ g.df ≥ R ∧ ¬ g.df < g.wr - 1) → (∀ r ∈ g.nx i, 0 ≤ r ∧ r < ((gs.length : Nat) : Int)) → ∀ w', Ext w6 w' → (∃ i' : Nat, i64 ((i + 1 : Nat) : Int) = i64 i' ∧ i' ≤ gs.length ∧ Ext w1 w' ∧ ∀ (j : Nat) g, j < i' → gs[j]? = some g → RightN g j R gs.length) ∧
        gs.length - (RowKit.intOf (i64 ((i + 1 : Nat) : Int))).toNat < gs.length - (RowKit.intOf (i64 (i : Int))).toNat := fun hd hnx w' hx =>
      ⟨⟨i + 1, rfl, by omega, X6.trans hx, fun j' g' hj' hg' => by
        by_cases he : j' = i
        · subst he
          rw [hg] at hg'
          cases hg'
          exact rightN_of hf hus hnx hd
        · exact hdone j' g' (by omega) hg'⟩, by simp only [intOf_i64]; omega⟩
    by_cases hw : g.wr ≥ 0
    · simp only [hw, gd_t, pickD_iff, reduceIte, decide_true]
      refine ldB hb46 fa_40_1 l1_3 rfl ?_
      refine ldB hbw fa_53_1 l1_3 rfl ?_
      refine V_geq.2 ?_
      by_cases hd1 : g.df ≥ R
      · simp only [hd1, gd_tf, pickD_iff, ifD_true, reduceIte, decide_true]; exact no x16
      simp only [hd1, gd_f, pickD_iff, reduceIte, Bool.false_eq_true, decide_false]
      refine ldB hb46 fa_40_1 l1_3 rfl ?_
      refine V_sub.2 ?_
      rw [wrap_id (by omega) (by omega)]
      refine V_lss.2 ?_
      by_cases hd2 : g.df < g.wr - 1
      · simp only [hd2, ifD_true, decide_true]; exact no x16
      simp only [hd2, ifD_false, decide_false]
      exact checkTail (i := i) (Rr := fun r w' => (∃ ok : Bool, r = .bool ok ∧ (ok = true → ∀ (i : Nat) g, gs[i]? = some g → RightN g i R gs.length)) ∧ Ext w w') (I := fun t w' => (∃ i' : Nat, t = i64 i' ∧ i' ≤ gs.length ∧ Ext w1 w' ∧ ∀ (j : Nat) g, j < i' → gs[j]? = some g → RightN g j R gs.length) ∧ gs.length - (RowKit.intOf t).toNat < gs.length - (RowKit.intOf (i64 (i : Int))).toNat) (by omega) hN (hsv5.ext x6) hb46 hbw (hs.ext x16) (fun w' hx => no (x16.trans hx)) (fin fun _ => ⟨hd1, hd2⟩)
    · simp only [hw, gd_ft, gd_undef, pickD_iff, ifD_false, reduceIte, Bool.false_eq_true, decide_false]
      exact checkTail (i := i) (Rr := fun r w' => (∃ ok : Bool, r = .bool ok ∧ (ok = true → ∀ (i : Nat) g, gs[i]? = some g → RightN g i R gs.length)) ∧ Ext w w') (I := fun t w' => (∃ i' : Nat, t = i64 i' ∧ i' ≤ gs.length ∧ Ext w1 w' ∧ ∀ (j : Nat) g, j < i' → gs[j]? = some g → RightN g j R gs.length) ∧ gs.length - (RowKit.intOf t).toNat < gs.length - (RowKit.intOf (i64 (i : Int))).toNat) (by omega) hN (hsv5.ext x6) hb46 hbw (hs.ext x16) (fun w' hx => no (x16.trans hx)) (fin fun h => absurd h hw)
  · exact ⟨⟨true, rfl, fun _ j g hg => hdone j g (by have := (List.getElem?_eq_some_iff.1 hg).1; omega) hg⟩, x1.trans x2⟩
end Go.Proofs.YtjcmcfidblhnnaaDoor
namespace Go.Vc
open Go.Proofs
section
variable {P : Program} {w : World}
theorem Blk.grown {w w' : World} {g : Nat} {cs : List Value} {e : TypeId} {row : Option Nat} (h : Blk w g cs e) (hg : w.grownBy w' row) (hne : row ≠ some g) : Blk w' g cs e := by
  have := hg.block g h.lt (fun he => hne he.symm)
  unfold Blk at h ⊢
  rw [this]; exact h
theorem own_ty {w : World} {B B' e e' s s' n n' : Nat} {v v' : Value} {xs xs' : List Value} (h : w.ownsRow B e s v n xs) (h' : w.ownsRow B' e' s' v' n' xs') (hne : e ≠ e') : v.ownBlock = none ∨ v.ownBlock ≠ v'.ownBlock := by
  rcases h.2 with ⟨rfl, _⟩ | ⟨g, cap, cur, rfl, _, h1, _⟩
  · exact .inl rfl
  · refine .inr ?_
    rcases h'.2 with ⟨rfl, _⟩ | ⟨g', cap', cur', rfl, _, h2, _⟩
    · simp [Value.ownBlock]
    · simp only [Value.ownBlock, ne_eq, Option.some.injEq]
      rintro rfl
      rw [h1] at h2
      cases h2
      exact hne rfl
theorem own_blk {w : World} {B e s n g : Nat} {v : Value} {xs : List Value} (h : w.ownsRow B e s v n xs) (hg : g < B) : v.ownBlock ≠ some g := fun he => by have := (h.lt g he).1; omega
theorem set_grown {w : World} {g o : Nat} {u : Value} : w.grownBy (w.setCell ⟨g, o, none⟩ u) (some g) := ⟨rfl, rfl, rfl, by simp, fun _ _ hne => heap_setCell_other _ _ _ _ (fun he => hne (by simp [he]))⟩
theorem own_set {w : World} {B e s n g o : Nat} {v u : Value} {xs : List Value} (h : w.ownsRow B e s v n xs) (hg : g < B) : (w.setCell ⟨g, o, none⟩ u).ownsRow B e s v n xs :=
  h.kept set_grown (.inr (own_blk h hg))
theorem el_old {cs l : List Value} {i j sz : Nat} (hl : cs.length = i * sz) (hj : j < i) : ((cs ++ l).drop (j * sz)).take sz = (cs.drop (j * sz)).take sz := by
  have h1 : (j + 1) * sz ≤ i * sz := Nat.mul_le_mul_right sz hj
  rw [Nat.add_mul, Nat.one_mul] at h1
  rw [List.drop_append_of_le_length (by omega), List.take_append_of_le_length (by rw [List.length_drop]; omega)]
theorem el_new {cs l : List Value} {i sz : Nat} (hl : cs.length = i * sz) (h2 : l.length = sz) : ((cs ++ l).drop (i * sz)).take sz = l := by
  rw [← hl, List.drop_left, ← h2, List.take_length]
end
end Go.Vc
namespace Go.Proofs.YtjcmcfidblhnnaaDoor
open Go.Vc
theorem own1' {w : World} {B e s n : Nat} {v : Value} {xs : List Value} (h : w.ownsRow B e s v n xs) : oneC v = true := by
  obtain ⟨a, c, rfl⟩ := (SliceIs.of_own h).shape; rfl
def El (p : GProg) (w0 w : World) (B i : Nat) (cs : List Value) : Prop := ∀ j, j < i → ∃ g m sv, p.nodes[j]? = some g ∧ (cs.drop (j * 8)).take 8 = g.pcs m sv ∧ (IntsAre w0 sv g.us ∨ w.ownsRow B 3 1 sv g.us.length (g.us.map i64))
set_option maxHeartbeats 2000000 in
theorem plainProg_ok {p : GProg} {pv : Value} {w : World} (hp : ProgIs w pv p) (hl : p.nodes.length ≤ 1000) : callD Tryd.prog 13 #[pv] w fun r w' => PProgIs w' r p.params p.regs p.nodes ∧ Ext w w' := by
  obtain ⟨ns, rfl, ⟨vs, hs, hvs⟩, _⟩ := hp
  apply F13_wp
  unfold F13_den
  refine bxK fun w1 h1 x1 => ?_
  refine alK inf53 fun w2 h2 x2 => ?_
  have h12 : Blk w2 w.heap.size [i64 p.params, i64 p.regs, ns] 25 := h1.ext x2
  refine ldB h12.boxed fa_25_0 l1_3 rfl ?_
  refine ldB h12.boxed fa_25_1 l1_3 rfl ?_
  refine bld bd_53 [(0, i64 p.params), (1, i64 p.regs)] rfl rfl ?_
  refine asK sa_53 rfl rfl fun w3 h3 x3 => ?_
  obtain ⟨na, nc, rfl⟩ := hs.shape
  have l1 := h1.lt
  have l2 := h2.lt
  have X3 := (x1.trans x2).trans x3
  refine ⟨fun v w' => ∃ (i : Nat) (nv : Value) (cs : List Value), v = i64 i ∧ i ≤ p.nodes.length ∧ Ext w w' ∧ w2.heap.size < w'.heap.size ∧ Blk w' w.heap.size [i64 p.params, i64 p.regs, .slice na p.nodes.length nc] 25 ∧ Blk w' w1.heap.size [i64 0, i64 0, .slice none 0 0] 53 ∧
      Blk w' w2.heap.size [i64 p.params, i64 p.regs, nv] 53 ∧ w'.ownsRow (w2.heap.size + 1) 40 8 nv i cs ∧ El p w w' (w2.heap.size + 1) i cs, fun v _ => p.nodes.length - (RowKit.intOf v).toNat,
    ⟨0, .slice none 0 0, [], rfl, Nat.zero_le _, X3, h3.lt, h12.ext x3, h2.ext x3, h3, World.ownsRow_nil _ _ _ _, fun j hj => by omega⟩, ?_⟩
  rintro _ w4 ⟨i, nv, cs, rfl, hi, X4, hsz, k1, k2, k3, ho, hel⟩ _
  refine ldB k1.boxed fa_25_2 l1_23 rfl ?_
  refine V_ln_23.2 (V_lss.2 (ifD_dec (fun hlt => ?_) fun hge => ?_))
  · have hi' : i < p.nodes.length := by omega
    obtain ⟨g, hg⟩ := ex_get hi'
    obtain ⟨u, hu, hnu⟩ := hvs i g hg
    have D4 : Ext w4 w4.drew := (Ext.refl _).drew
    refine drawD.mk' (fun w' => Ext w w' ∧ Blk w' w.heap.size [i64 p.params, i64 p.regs, .slice na p.nodes.length nc] 25 ∧ Blk w' w2.heap.size [i64 p.params, i64 p.regs, nv] 53) ⟨X4.trans D4, k1.ext D4, k3.ext D4⟩ ?_
    refine yfB (fun w' hw => hw.2.2.boxed) fa_53_2 l1_51 rfl ?_
    refine yfB (fun w' hw => hw.2.1.boxed) fa_25_2 l1_23 rfl ?_
    refine ySl xa_23 l1_43 hs (fun _ h => h.1) (by omega) (by omega) (by simpa using hu) ?_
    refine (plainO_ok (hnu.ext (X4.trans D4))).mono fun r w5 ⟨⟨m, sv, hr, hsv⟩, x5⟩ => ?_
    subst hr
    have D5 := D4.trans x5
    refine ⟨⟨X4.trans D5, k1.ext D5, k3.ext D5⟩, ?_⟩
    have hsvc : oneC sv = true := by
      rcases hsv with h | h
      · exact shape_ints (h _ hnu)
      · exact own1 h
    refine bs83 hsvc fun w6 ho6 x6 => ?_
    have D6 := D5.trans x6
    refine ⟨⟨X4.trans D6, k1.ext D6, k3.ext D6⟩, ?_⟩
    have hoo := D6.own ho
    have hs6 := D6.size
    refine apA Tryd.underlying51 inf40 rfl (by decide) hoo (SliceIs.of_own ho6) (by simp only [GNode.pcs, List.all_cons, List.all_nil, hsvc, Bool.and_true]; rfl) (by omega) (by unfold maxLen; omega) (by omega) fun nv' w7 ho7 hg7 => ?_
    have hrow : ∀ k, nv.ownBlock = some k → w2.heap.size + 1 ≤ k := fun k hk => (hoo.lt k hk).1
    have X7 : Ext w w7 := (X4.trans D6).grown hg7 fun k hk => by have := hrow k hk; omega
    have k1' := (k1.ext D6).grown hg7 (own_blk hoo (by omega))
    have k2' := (k2.ext D6).grown hg7 (own_blk hoo (by omega))
    have k3' := (k3.ext D6).grown hg7 (own_blk hoo (by omega))
    refine ⟨⟨X7, k1', k3'⟩, ?_⟩
    refine yieldS.ok (fun w' _ => r_fd_53_2) ?_
    refine U.ok (r_store inf51 (own1' ho7) (by rw [Nat.zero_add, k3'.cell]; rfl) (by rw [Nat.zero_add]; exact k3'.frozen 2)) ?_
    refine V_add.2 ?_
    rw [wrap_id (by omega) (by omega), i64_succ, Nat.zero_add]
    refine ⟨⟨i + 1, nv', cs ++ g.pcs m sv, rfl, by omega, X7.setCell (by omega) _, by have := hg7.size; rw [show (w7.setCell ⟨w2.heap.size, 2, none⟩ nv').heap.size = w7.heap.size by simp]; omega, k1'.other (by omega), k2'.other (by omega), k3'.set 2 nv', own_set ho7 (by omega), fun j hj => ?_⟩, by simp only [intOf_i64]; omega⟩
    have hcl : cs.length = i * 8 := ho.1
    by_cases hji : j = i
    · subst hji
      refine ⟨g, m, sv, hg, el_new hcl rfl, ?_⟩
      rcases hsv with h | h
      · exact .inl (h _ hnu)
      · have h6 := own_mono (x6.own h) (show w2.heap.size + 1 ≤ w4.drew.heap.size by have := D4.size; omega)
        exact .inr (own_set (h6.kept hg7 (own_ty h6 hoo (by decide))) (by omega))
    · obtain ⟨g', m', sv', e1, e2, e3⟩ := hel j (by omega)
      refine ⟨g', m', sv', e1, (el_old hcl (by omega)).trans e2, e3.imp id fun h => ?_⟩
      exact own_set ((D6.own h).kept hg7 (own_ty (D6.own h) hoo (by decide))) (by omega)
  · refine ldA k3.boxed la_53 rfl ?_
    refine stA inf53 k2 (l := [i64 p.params, i64 p.regs, nv]) rfl rfl rfl (by have := own1' ho; simp only [List.all_cons, List.all_nil, this, Bool.and_true]; rfl) fun w' h2' hc => ?_
    have hin : i = p.nodes.length := by omega
    subst hin
    have X' := hc.ext _ X4 (by omega)
    refine ⟨_, r_var Tryd.underlying53 rfl inf53 h2' rfl, ⟨_, rfl⟩, ⟨nv, cs, rfl, SliceIs.of_own (hc.ownRow ho (by omega)), fun j g hg => ?_⟩, X'⟩
    obtain ⟨g', m', sv', e1, e2, e3⟩ := hel j (List.getElem?_eq_some_iff.1 hg).1
    rw [hg] at e1
    cases e1
    refine ⟨m', sv', e2, ?_⟩
    rcases e3 with h | h
    · exact h.ext X'
    · exact SliceIs.of_own (hc.ownRow h (by omega))
end Go.Proofs.YtjcmcfidblhnnaaDoor
namespace Go.Proofs.YtjcmcfidblhnnaaDoor
open Go.Vc
theorem pick_ok {n m : Int} {w : World} (hm : 0 < m) (hm2 : m ≤ 1000000) : callD Tryd.prog 26 #[i64 n, i64 m] w fun r w' => (∃ k, r = i64 k ∧ 0 ≤ k ∧ k < m) ∧ w' = w := by
  apply F26_wp
  unfold F26_den
  refine rm hm fun c _ h1 h2 => ?_
  refine V_lss.2 (ifD_dec (fun hlt => ?_) fun hge => ?_)
  · refine V_add.2 ?_
    rw [wrap_id (by omega) (by omega)]
    exact ⟨⟨_, rfl, by omega, by omega⟩, rfl⟩
  · exact ⟨⟨c, rfl, by omega, h2⟩, rfl⟩
theorem reg_ok {n regs : Int} {b : Nat} {w : World} (hb : w.cell? ⟨b, 0, none⟩ = some (i64 regs)) (hr : regs ≤ 1000000) : callD Tryd.prog 56 #[i64 n, .pointer (some ⟨b, 0, none⟩)] w fun r w' => (∃ k, r = i64 k) ∧ w' = w := by
  apply F56_wp
  unfold F56_den
  refine rm (by omega) fun c _ _ _ => ?_
  refine V_eqlI.2 (ifD_dec (fun _ => ?_) fun _ => ?_)
  · exact rm (by omega) fun c _ _ _ => ⟨⟨_, rfl⟩, rfl⟩
  · refine V.ok (r_ld_3 hb) ?_
    refine mx2 fun c hc h1 h2 => ?_
    exact (pick_ok (by omega) (by rcases hc with rfl | rfl <;> omega)).mono fun r w' ⟨⟨k, hk, _⟩, hw⟩ => ⟨⟨k, hk⟩, hw⟩
theorem dyn_reg {n regs : Int} {b : Nat} {w : World} {K : Value → World → Prop} (hb : w.cell? ⟨b, 0, none⟩ = some (i64 regs)) (hr : regs ≤ 1000000) (hk : ∀ k, K (i64 k) w) : dynD Tryd.prog (.func (.func 56) #[] #[.pointer (some ⟨b, 0, none⟩)]) #[i64 n] w K :=
  ⟨⟨_, _, rfl, (reg_ok hb hr).mono fun r w' ⟨⟨k, h1⟩, h2⟩ => by subst h1 h2; exact hk k⟩⟩
end Go.Proofs.YtjcmcfidblhnnaaDoor
namespace Go.Proofs.YtjcmcfidblhnnaaDoor
open Go.Vc
def BinsOk (w : World) : Prop := ∀ j, j < 12 → ∃ n, w.cell? ⟨0, j, none⟩ = some (i64 n)
theorem BinsOk.ext {w w' : World} (h : BinsOk w) (hx : Ext w w') : BinsOk w' := fun j hj => by
  obtain ⟨n, hn⟩ := h j hj
  exact ⟨n, hx.cell hn⟩
def Ty3 (w : World) (sv : Value) : Prop := ∀ b off n c, sv = .slice (some ⟨b, off, none⟩) n c → ∃ cs fr, w.heap[b]? = some (.cells cs 3 fr)
theorem Ty3.ext {w w' : World} {sv : Value} (h : Ty3 w sv) (hx : Ext w w') : Ty3 w' sv := fun b off n c he => by
  obtain ⟨cs, fr, h1⟩ := h b off n c he
  exact ⟨cs, fr, hx.obj h1⟩
theorem Ty3.nil (w : World) : Ty3 w (.slice none 0 0) := fun _ _ _ _ h => by cases h
theorem Ty3.own {w : World} {B n : Nat} {v : Value} {xs : List Value} (h : w.ownsRow B 3 1 v n xs) : Ty3 w v := fun b off n' c he => by
  rcases h.2 with ⟨h1, _⟩ | ⟨g, cap, cur, h1, _, h2, _⟩
  · rw [h1] at he; cases he
  · rw [h1] at he
    cases he
    exact ⟨_, _, h2⟩
def NodeT (w : World) (v : Value) (g : GNode) : Prop := ∃ sv, v = g.val sv ∧ IntsAre w sv g.args ∧ Ty3 w sv
theorem NodeT.is {w : World} {v : Value} {g : GNode} (h : NodeT w v g) : NodeIs w v g := by
  obtain ⟨sv, h1, h2, _⟩ := h
  exact ⟨sv, h1, h2⟩
theorem NodeT.ext {w w' : World} {v : Value} {g : GNode} (h : NodeT w v g) (hx : Ext w w') : NodeT w' v g := by
  obtain ⟨sv, h1, h2, h3⟩ := h
  exact ⟨sv, h1, h2.ext hx, h3.ext hx⟩
theorem NodeT.grown {w w' : World} {v : Value} {g : GNode} {k : Nat} {cs : Array Value} {e : TypeId} {fr : Nat × Nat} (h : NodeT w v g) (hg : w.grownBy w' (some k)) (hk : w.heap[k]? = some (.cells cs e fr)) (he : e ≠ 3) : NodeT w' v g := by
  obtain ⟨sv, h1, h2, h3⟩ := h
  have same : ∀ b off n c, sv = .slice (some ⟨b, off, none⟩) n c → w'.heap[b]? = w.heap[b]? := fun b off n c hs => by
    obtain ⟨cs', fr', h4⟩ := h3 b off n c hs
    refine hg.block b (Array.getElem?_eq_some_iff.1 h4).1 fun hbk => ?_
    cases hbk
    rw [h4] at hk
    cases hk
    exact he rfl
  refine ⟨sv, h1, ⟨h2.1, ?_⟩, fun b off n c hs => ?_⟩
  · rcases h2.2 with h4 | ⟨b, off, cap, h4, h5, h6, h7⟩
    · exact .inl h4
    · refine .inr ⟨b, off, cap, h4, h5, h6, fun j u hj => ?_⟩
      have := h7 j u hj
      unfold World.cell? at this ⊢
      rw [same b off _ _ h4]; exact this
  · obtain ⟨cs', fr', h4⟩ := h3 b off n c hs
    exact ⟨cs', fr', by rw [same b off n c hs]; exact h4⟩
theorem NodeT.grown' {w w' : World} {v x : Value} {g : GNode} {B n sz : Nat} {e : TypeId} {xs : List Value} (h : NodeT w v g) (ho : w.ownsRow B e sz x n xs) (hg : w.grownBy w' x.ownBlock) (he : e ≠ 3) : NodeT w' v g := by
  rcases ho.2 with ⟨rfl, _⟩ | ⟨k, cap, cur, rfl, _, h2, _⟩
  · exact h.ext hg
  · exact h.grown hg h2 he
def SomeNode (w : World) (r : Value) : Prop := ∃ g, NodeT w r g ∧ g.args.length ≤ 6
def rawCells (k d o n a b c t : Int) (sv : Value) : List Value := [i64 k, i64 d, i64 o, i64 n, i64 a, i64 b, i64 c, i64 t, sv]
def nodeRest (xb rb : Nat) (to : Int) (av : Value) (w : World) (R : Value → World → Prop) : Prop :=
  V Tryd.prog (Instr.fieldAt 106 (Value.pointer (some ⟨xb, 0, none⟩)) 1) w fun t54 w29 =>
  V Tryd.prog (Instr.loadAt 3 t54) w29 fun t55 w30 =>
  dynD Tryd.prog (Value.func (.func 56) #[] #[.pointer (some ⟨rb, 0, none⟩)]) #[t55] w30 fun t56 w31 =>
  V Tryd.prog (Instr.fieldAt 106 (Value.pointer (some ⟨xb, 0, none⟩)) 0) w31 fun t57 w32 =>
  V Tryd.prog (Instr.loadAt 3 t57) w32 fun t58 w33 =>
  callD Tryd.prog 26 #[t58, (Value.int IntKind.i64 18)] w33 fun t59 w34 =>
  ∃ J3 : NP 1,
  (V Tryd.prog (do eqGuard .eql 3 (Operand.tmp 59) (Operand.const (Value.int IntKind.i64 0)) t59 (Value.int IntKind.i64 0); binOp .eql 3 t59 (Value.int IntKind.i64 0)) w34 fun t61 w35 =>
  ifD t61 (
  J3 t61 w35) (
  V Tryd.prog (do eqGuard .eql 3 (Operand.tmp 59) (Operand.const (Value.int IntKind.i64 1)) t59 (Value.int IntKind.i64 1); binOp .eql 3 t59 (Value.int IntKind.i64 1)) w35 fun t62 w36 =>
  J3 t62 w36)) ∧
  ∀ (t60 : Value), ∀ w37 : World, J3 t60 w37 → ∀ _f : Env,
  ifD t60 (
  V Tryd.prog (Instr.fieldAt 106 (Value.pointer (some ⟨xb, 0, none⟩)) 3) w37 fun t64 w38 =>
  V Tryd.prog (Instr.loadAt 3 t64) w38 fun t65 w39 =>
  V Tryd.prog (convert 3 21 t65) w39 fun t66 w40 =>
  V Tryd.prog (Instr.build 78 #[(0, t56), (1, t66)]) w40 fun t67 w41 =>
  V Tryd.prog (Instr.makeInterface 78 t67) w41 fun t68 w42 =>
  R t68 w42) (
  V Tryd.prog (do eqGuard .eql 3 (Operand.tmp 59) (Operand.const (Value.int IntKind.i64 2)) t59 (Value.int IntKind.i64 2); binOp .eql 3 t59 (Value.int IntKind.i64 2)) w37 fun t70 w43 =>
  ifD t70 (
  V Tryd.prog (Instr.fieldAt 106 (Value.pointer (some ⟨xb, 0, none⟩)) 4) w43 fun t73 w44 =>
  V Tryd.prog (Instr.loadAt 3 t73) w44 fun t74 w45 =>
  dynD Tryd.prog (Value.func (.func 56) #[] #[.pointer (some ⟨rb, 0, none⟩)]) #[t74] w45 fun t75 w46 =>
  V Tryd.prog (Instr.build 80 #[(0, t56), (1, t75)]) w46 fun t76 w47 =>
  V Tryd.prog (Instr.makeInterface 80 t76) w47 fun t77 w48 =>
  R t77 w48) (
  ∃ J4 : NP 1,
  (V Tryd.prog (do eqGuard .eql 3 (Operand.tmp 59) (Operand.const (Value.int IntKind.i64 3)) t59 (Value.int IntKind.i64 3); binOp .eql 3 t59 (Value.int IntKind.i64 3)) w43 fun t79 w49 =>
  ifD t79 (
  J4 t79 w49) (
  V Tryd.prog (do eqGuard .eql 3 (Operand.tmp 59) (Operand.const (Value.int IntKind.i64 4)) t59 (Value.int IntKind.i64 4); binOp .eql 3 t59 (Value.int IntKind.i64 4)) w49 fun t80 w50 =>
  ifD t80 (
  J4 t80 w50) (
  V Tryd.prog (do eqGuard .eql 3 (Operand.tmp 59) (Operand.const (Value.int IntKind.i64 5)) t59 (Value.int IntKind.i64 5); binOp .eql 3 t59 (Value.int IntKind.i64 5)) w50 fun t81 w51 =>
  J4 t81 w51))) ∧
  ∀ (t78 : Value), ∀ w52 : World, J4 t78 w52 → ∀ _f : Env,
  ifD t78 (
  V Tryd.prog (Instr.fieldAt 106 (Value.pointer (some ⟨xb, 0, none⟩)) 2) w52 fun t82 w53 =>
  V Tryd.prog (Instr.loadAt 3 t82) w53 fun t83 w54 =>
  callD Tryd.prog 26 #[t83, (Value.int IntKind.i64 12)] w54 fun t84 w55 =>
  V Tryd.prog (Instr.indexAt 126 (Value.pointer (some ⟨0, 0, none⟩)) t84) w55 fun t85 w56 =>
  V Tryd.prog (Instr.loadAt 3 t85) w56 fun t86 w57 =>
  ∃ J5 : NP 1,
  (V Tryd.prog (Instr.fieldAt 106 (Value.pointer (some ⟨xb, 0, none⟩)) 2) w57 fun t87 w58 =>
  V Tryd.prog (Instr.loadAt 3 t87) w58 fun t88 w59 =>
  V Tryd.prog (binOp .rem 3 t88 (Value.int IntKind.i64 83)) w59 fun t89 w60 =>
  V Tryd.prog (do eqGuard .eql 3 (Operand.tmp 89) (Operand.const (Value.int IntKind.i64 82)) t89 (Value.int IntKind.i64 82); binOp .eql 3 t89 (Value.int IntKind.i64 82)) w60 fun t90 w61 =>
  ifD t90 (
  V Tryd.prog (Instr.fieldAt 106 (Value.pointer (some ⟨xb, 0, none⟩)) 2) w61 fun t91 w62 =>
  V Tryd.prog (Instr.loadAt 3 t91) w62 fun t92 w63 =>
  callD Tryd.prog 26 #[t92, (Value.int IntKind.i64 45)] w63 fun t93 w64 =>
  J5 t93 w64) (
  J5 t86 w61)) ∧
  ∀ (t12 : Value), ∀ w65 : World, J5 t12 w65 → ∀ _f : Env,
  drawD w65 fun S23 w66 =>
  yieldS Tryd.prog S23 (Instr.fieldAt 106 (Value.pointer (some ⟨xb, 0, none⟩)) 4) fun t97 =>
  yieldS Tryd.prog S23 (Instr.loadAt 3 t97) fun t98 =>
  yieldS Tryd.prog S23 (Instr.fieldAt 106 (Value.pointer (some ⟨xb, 0, none⟩)) 5) fun t101 =>
  yieldS Tryd.prog S23 (Instr.loadAt 3 t101) fun t102 =>
  dynD Tryd.prog (Value.func (.func 56) #[] #[.pointer (some ⟨rb, 0, none⟩)]) #[t98] w66 fun t99 w67 =>
  S23 w67 ∧
  dynD Tryd.prog (Value.func (.func 56) #[] #[.pointer (some ⟨rb, 0, none⟩)]) #[t102] w67 fun t103 w68 =>
  S23 w68 ∧
  yieldS Tryd.prog S23 (Instr.build 82 #[(0, t12), (1, t56), (2, t99), (3, t103)]) fun t104 =>
  yieldS Tryd.prog S23 (Instr.makeInterface 82 t104) fun t105 =>
  R t105 w68) (
  V Tryd.prog (do eqGuard .eql 3 (Operand.tmp 59) (Operand.const (Value.int IntKind.i64 6)) t59 (Value.int IntKind.i64 6); binOp .eql 3 t59 (Value.int IntKind.i64 6)) w52 fun t107 w69 =>
  ifD t107 (
  drawD w69 fun S25 w70 =>
  yieldS Tryd.prog S25 (Instr.build 127 #[(0, (Value.int IntKind.i64 15)), (1, (Value.int IntKind.i64 16)), (2, (Value.int IntKind.i64 26))]) fun t108 =>
  yieldS Tryd.prog S25 (Instr.fieldAt 106 (Value.pointer (some ⟨xb, 0, none⟩)) 2) fun t109 =>
  yieldS Tryd.prog S25 (Instr.loadAt 3 t109) fun t110 =>
  yieldS Tryd.prog S25 (Instr.fieldAt 106 (Value.pointer (some ⟨xb, 0, none⟩)) 4) fun t115 =>
  yieldS Tryd.prog S25 (Instr.loadAt 3 t115) fun t116 =>
  callD Tryd.prog 26 #[t110, (Value.int IntKind.i64 3)] w70 fun t111 w71 =>
  S25 w71 ∧
  yieldS Tryd.prog S25 (Instr.index 127 t108 t111) fun t112 =>
  dynD Tryd.prog (Value.func (.func 56) #[] #[.pointer (some ⟨rb, 0, none⟩)]) #[t116] w71 fun t117 w72 =>
  S25 w72 ∧
  yieldS Tryd.prog S25 (Instr.build 84 #[(0, t112), (1, t56), (2, t117)]) fun t118 =>
  yieldS Tryd.prog S25 (Instr.makeInterface 84 t118) fun t119 =>
  R t119 w72) (
  V Tryd.prog (do eqGuard .eql 3 (Operand.tmp 59) (Operand.const (Value.int IntKind.i64 7)) t59 (Value.int IntKind.i64 7); binOp .eql 3 t59 (Value.int IntKind.i64 7)) w69 fun t121 w73 =>
  ifD t121 (
  drawD w73 fun S27 w74 =>
  yieldS Tryd.prog S27 (Instr.fieldAt 106 (Value.pointer (some ⟨xb, 0, none⟩)) 6) fun t124 =>
  yieldS Tryd.prog S27 (Instr.loadAt 3 t124) fun t125 =>
  yieldS Tryd.prog S27 (Instr.fieldAt 106 (Value.pointer (some ⟨xb, 0, none⟩)) 4) fun t128 =>
  yieldS Tryd.prog S27 (Instr.loadAt 3 t128) fun t129 =>
  yieldS Tryd.prog S27 (Instr.fieldAt 106 (Value.pointer (some ⟨xb, 0, none⟩)) 5) fun t132 =>
  yieldS Tryd.prog S27 (Instr.loadAt 3 t132) fun t133 =>
  dynD Tryd.prog (Value.func (.func 56) #[] #[.pointer (some ⟨rb, 0, none⟩)]) #[t125] w74 fun t126 w75 =>
  S27 w75 ∧
  dynD Tryd.prog (Value.func (.func 56) #[] #[.pointer (some ⟨rb, 0, none⟩)]) #[t129] w75 fun t130 w76 =>
  S27 w76 ∧
  dynD Tryd.prog (Value.func (.func 56) #[] #[.pointer (some ⟨rb, 0, none⟩)]) #[t133] w76 fun t134 w77 =>
  S27 w77 ∧
  yieldS Tryd.prog S27 (Instr.build 86 #[(0, t56), (1, t126), (2, t130), (3, t134)]) fun t135 =>
  yieldS Tryd.prog S27 (Instr.makeInterface 86 t135) fun t136 =>
  R t136 w77) (
  ∃ J6 : NP 1,
  (V Tryd.prog (do eqGuard .eql 3 (Operand.tmp 59) (Operand.const (Value.int IntKind.i64 8)) t59 (Value.int IntKind.i64 8); binOp .eql 3 t59 (Value.int IntKind.i64 8)) w73 fun t138 w78 =>
  ifD t138 (
  J6 t138 w78) (
  V Tryd.prog (do eqGuard .eql 3 (Operand.tmp 59) (Operand.const (Value.int IntKind.i64 9)) t59 (Value.int IntKind.i64 9); binOp .eql 3 t59 (Value.int IntKind.i64 9)) w78 fun t139 w79 =>
  J6 t139 w79)) ∧
  ∀ (t137 : Value), ∀ w80 : World, J6 t137 w80 → ∀ _f : Env,
  ifD t137 (
  V Tryd.prog (Instr.build 47 #[]) w80 fun t140 w81 =>
  V Tryd.prog (Instr.makeInterface 47 t140) w81 fun t141 w82 =>
  R t141 w82) (
  V Tryd.prog (do eqGuard .eql 3 (Operand.tmp 59) (Operand.const (Value.int IntKind.i64 10)) t59 (Value.int IntKind.i64 10); binOp .eql 3 t59 (Value.int IntKind.i64 10)) w80 fun t143 w83 =>
  ifD t143 (
  V Tryd.prog (Instr.build 88 #[(0, (i64 to))]) w83 fun t145 w84 =>
  V Tryd.prog (Instr.makeInterface 88 t145) w84 fun t146 w85 =>
  R t146 w85) (
  ∃ J7 : NP 1,
  (V Tryd.prog (do eqGuard .eql 3 (Operand.tmp 59) (Operand.const (Value.int IntKind.i64 11)) t59 (Value.int IntKind.i64 11); binOp .eql 3 t59 (Value.int IntKind.i64 11)) w83 fun t148 w86 =>
  ifD t148 (
  J7 t148 w86) (
  V Tryd.prog (do eqGuard .eql 3 (Operand.tmp 59) (Operand.const (Value.int IntKind.i64 12)) t59 (Value.int IntKind.i64 12); binOp .eql 3 t59 (Value.int IntKind.i64 12)) w86 fun t149 w87 =>
  J7 t149 w87)) ∧
  ∀ (t147 : Value), ∀ w88 : World, J7 t147 w88 → ∀ _f : Env,
  ifD t147 (
  V Tryd.prog (Instr.fieldAt 106 (Value.pointer (some ⟨xb, 0, none⟩)) 6) w88 fun t151 w89 =>
  V Tryd.prog (Instr.loadAt 3 t151) w89 fun t152 w90 =>
  dynD Tryd.prog (Value.func (.func 56) #[] #[.pointer (some ⟨rb, 0, none⟩)]) #[t152] w90 fun t153 w91 =>
  V Tryd.prog (Instr.build 90 #[(0, t153), (1, (i64 to))]) w91 fun t155 w92 =>
  V Tryd.prog (Instr.makeInterface 90 t155) w92 fun t156 w93 =>
  R t156 w93) (
  V Tryd.prog (do eqGuard .eql 3 (Operand.tmp 59) (Operand.const (Value.int IntKind.i64 13)) t59 (Value.int IntKind.i64 13); binOp .eql 3 t59 (Value.int IntKind.i64 13)) w88 fun t158 w94 =>
  ifD t158 (
  V Tryd.prog (Instr.fieldAt 106 (Value.pointer (some ⟨xb, 0, none⟩)) 3) w94 fun t160 w95 =>
  V Tryd.prog (Instr.loadAt 3 t160) w95 fun t161 w96 =>
  callD Tryd.prog 26 #[t161, (Value.int IntKind.i64 9)] w96 fun t162 w97 =>
  V Tryd.prog (Instr.build 92 #[(0, t56), (1, t162)]) w97 fun t163 w98 =>
  V Tryd.prog (Instr.makeInterface 92 t163) w98 fun t164 w99 =>
  R t164 w99) (
  V Tryd.prog (do eqGuard .eql 3 (Operand.tmp 59) (Operand.const (Value.int IntKind.i64 14)) t59 (Value.int IntKind.i64 14); binOp .eql 3 t59 (Value.int IntKind.i64 14)) w94 fun t166 w100 =>
  ifD t166 (
  drawD w100 fun S39 w101 =>
  yieldS Tryd.prog S39 (Instr.fieldAt 106 (Value.pointer (some ⟨xb, 0, none⟩)) 3) fun t167 =>
  yieldS Tryd.prog S39 (Instr.loadAt 3 t167) fun t168 =>
  yieldS Tryd.prog S39 (Instr.fieldAt 106 (Value.pointer (some ⟨xb, 0, none⟩)) 4) fun t171 =>
  yieldS Tryd.prog S39 (Instr.loadAt 3 t171) fun t172 =>
  callD Tryd.prog 26 #[t168, (Value.int IntKind.i64 8)] w101 fun t169 w102 =>
  S39 w102 ∧
  dynD Tryd.prog (Value.func (.func 56) #[] #[.pointer (some ⟨rb, 0, none⟩)]) #[t172] w102 fun t173 w103 =>
  S39 w103 ∧
  yieldS Tryd.prog S39 (Instr.build 94 #[(0, t169), (1, t173)]) fun t174 =>
  yieldS Tryd.prog S39 (Instr.makeInterface 94 t174) fun t175 =>
  R t175 w103) (
  V Tryd.prog (do eqGuard .eql 3 (Operand.tmp 59) (Operand.const (Value.int IntKind.i64 15)) t59 (Value.int IntKind.i64 15); binOp .eql 3 t59 (Value.int IntKind.i64 15)) w100 fun t177 w104 =>
  ifD t177 (
  V Tryd.prog (Instr.build 128 #[(0, (Value.int IntKind.i64 17)), (1, (Value.int IntKind.i64 18)), (2, (Value.int IntKind.i64 27)), (3, (Value.int IntKind.i64 28)), (4, (Value.int IntKind.i64 29)), (5, (Value.int IntKind.i64 30)), (6, (Value.int IntKind.i64 31)), (7, (Value.int IntKind.i64 32)), (8, (Value.int IntKind.i64 36)), (9, (Value.int IntKind.i64 6))]) w104 fun t178 w105 =>
  V Tryd.prog (Instr.alloc 128 true (.tuple #[])) w105 fun t13 w106 =>
  U Tryd.prog (Instr.storeAt 128 t13 t178) w106 fun _ w107 =>
  V Tryd.prog (Instr.fieldAt 106 (Value.pointer (some ⟨xb, 0, none⟩)) 2) w107 fun t179 w108 =>
  V Tryd.prog (Instr.loadAt 3 t179) w108 fun t180 w109 =>
  callD Tryd.prog 26 #[t180, (Value.int IntKind.i64 10)] w109 fun t181 w110 =>
  V Tryd.prog (Instr.build 128 #[(0, (Value.int IntKind.i64 2)), (1, (Value.int IntKind.i64 2)), (2, (Value.int IntKind.i64 1)), (3, (Value.int IntKind.i64 1)), (4, (Value.int IntKind.i64 2)), (5, (Value.int IntKind.i64 3)), (6, (Value.int IntKind.i64 5)), (7, (Value.int IntKind.i64 5)), (8, (Value.int IntKind.i64 3)), (9, (Value.int IntKind.i64 2))]) w110 fun t182 w111 =>
  V Tryd.prog (Instr.index 128 t182 t181) w111 fun t184 w112 =>
  ∃ (I8 : NP 2) (μ8 : NF 2), I8 (Value.slice none 0 0) (Value.int IntKind.i64 0) w112 ∧
  ∀ (t16 : Value) (t17 : Value), ∀ w113 : World, I8 t16 t17 w113 → ∀ _f : Env,
  V Tryd.prog (binOp .lss 3 t17 t184) w113 fun t187 w114 =>
  ifD t187 (
  V Tryd.prog (Instr.fieldAt 106 (Value.pointer (some ⟨xb, 0, none⟩)) 4) w114 fun t192 w115 =>
  V Tryd.prog (Instr.loadAt 3 t192) w115 fun t193 w116 =>
  V Tryd.prog (binOp .mul 3 (Value.int IntKind.i64 7) t17) w116 fun t195 w117 =>
  V Tryd.prog (binOp .add 3 t193 t195) w117 fun t196 w118 =>
  dynD Tryd.prog (Value.func (.func 56) #[] #[.pointer (some ⟨rb, 0, none⟩)]) #[t196] w118 fun t197 w119 =>
  V Tryd.prog (Instr.buildSlice 27 1 #[(0, t197)]) w119 fun t198 w120 =>
  V Tryd.prog (Builtin.append_ #[27, 27] 27 #[t16, t198]) w120 fun t199 w121 =>
  V Tryd.prog (binOp .add 3 t17 (Value.int IntKind.i64 1)) w121 fun t189 w122 =>
  I8 t199 t189 w122 ∧ μ8 t199 t189 w122 < μ8 t16 t17 w113) (
  ∃ J9 : NP 1,
  (V Tryd.prog (Instr.fieldAt 106 (Value.pointer (some ⟨xb, 0, none⟩)) 5) w114 fun t200 w123 =>
  V Tryd.prog (Instr.loadAt 3 t200) w123 fun t201 w124 =>
  V Tryd.prog (binOp .rem 3 t201 (Value.int IntKind.i64 13)) w124 fun t202 w125 =>
  V Tryd.prog (do eqGuard .eql 3 (Operand.tmp 202) (Operand.const (Value.int IntKind.i64 12)) t202 (Value.int IntKind.i64 12); binOp .eql 3 t202 (Value.int IntKind.i64 12)) w125 fun t203 w126 =>
  ifD t203 (
  J9 av w126) (
  J9 t16 w126)) ∧
  ∀ (t16_1 : Value), ∀ w127 : World, J9 t16_1 w127 → ∀ _f : Env,
  ∃ J10 : NP 1,
  (V Tryd.prog (Instr.fieldAt 106 (Value.pointer (some ⟨xb, 0, none⟩)) 6) w127 fun t206 w128 =>
  V Tryd.prog (Instr.loadAt 3 t206) w128 fun t207 w129 =>
  V Tryd.prog (binOp .rem 3 t207 (Value.int IntKind.i64 3)) w129 fun t208 w130 =>
  V Tryd.prog (do eqGuard .eql 3 (Operand.tmp 208) (Operand.const (Value.int IntKind.i64 0)) t208 (Value.int IntKind.i64 0); binOp .eql 3 t208 (Value.int IntKind.i64 0)) w130 fun t209 w131 =>
  ifD t209 (
  J10 (Value.int IntKind.i64 (-1)) w131) (
  J10 t56 w131)) ∧
  ∀ (t18 : Value), ∀ w132 : World, J10 t18 w132 → ∀ _f : Env,
  drawD w132 fun S54 w133 =>
  yieldS Tryd.prog S54 (Instr.indexAt 128 t13 t181) fun t211 =>
  yieldS Tryd.prog S54 (Instr.loadAt 3 t211) fun t212 =>
  yieldS Tryd.prog S54 (Instr.fieldAt 106 (Value.pointer (some ⟨xb, 0, none⟩)) 5) fun t213 =>
  yieldS Tryd.prog S54 (Instr.loadAt 3 t213) fun t214 =>
  callD Tryd.prog 26 #[t214, (Value.int IntKind.i64 7)] w133 fun t215 w134 =>
  S54 w134 ∧
  yieldS Tryd.prog S54 (Instr.build 96 #[(0, t212), (1, (Value.int IntKind.i64 3)), (2, t215), (3, t18), (4, t16_1)]) fun t218 =>
  yieldS Tryd.prog S54 (Instr.makeInterface 96 t218) fun t219 =>
  R t219 w134)) (
  V Tryd.prog (do eqGuard .eql 3 (Operand.tmp 59) (Operand.const (Value.int IntKind.i64 16)) t59 (Value.int IntKind.i64 16); binOp .eql 3 t59 (Value.int IntKind.i64 16)) w104 fun t221 w135 =>
  ifD t221 (
  ∃ J11 : NP 1,
  (V Tryd.prog (Instr.fieldAt 106 (Value.pointer (some ⟨xb, 0, none⟩)) 6) w135 fun t223 w136 =>
  V Tryd.prog (Instr.loadAt 3 t223) w136 fun t224 w137 =>
  V Tryd.prog (binOp .rem 3 t224 (Value.int IntKind.i64 3)) w137 fun t225 w138 =>
  V Tryd.prog (do eqGuard .eql 3 (Operand.tmp 225) (Operand.const (Value.int IntKind.i64 0)) t225 (Value.int IntKind.i64 0); binOp .eql 3 t225 (Value.int IntKind.i64 0)) w138 fun t226 w139 =>
  ifD t226 (
  J11 (Value.int IntKind.i64 (-1)) w139) (
  J11 t56 w139)) ∧
  ∀ (t19 : Value), ∀ w140 : World, J11 t19 w140 → ∀ _f : Env,
  V Tryd.prog (Builtin.len_ #[27] 3 #[av]) w140 fun t229 w141 =>
  V Tryd.prog (Builtin.min_ #[3, 3] 3 #[t229, (Value.int IntKind.i64 4)]) w141 fun t230 w142 =>
  V Tryd.prog (Instr.sliceAt 27 av none (some t230) none) w142 fun t231 w143 =>
  V Tryd.prog (Instr.fieldAt 106 (Value.pointer (some ⟨xb, 0, none⟩)) 4) w143 fun t232 w144 =>
  V Tryd.prog (Instr.loadAt 3 t232) w144 fun t233 w145 =>
  V Tryd.prog (binOp .rem 3 t233 (Value.int IntKind.i64 2)) w145 fun t234 w146 =>
  V Tryd.prog (do eqGuard .eql 3 (Operand.tmp 234) (Operand.const (Value.int IntKind.i64 0)) t234 (Value.int IntKind.i64 0); binOp .eql 3 t234 (Value.int IntKind.i64 0)) w146 fun t235 w147 =>
  ifD t235 (
  V Tryd.prog (Instr.fieldAt 106 (Value.pointer (some ⟨xb, 0, none⟩)) 3) w147 fun t236 w148 =>
  V Tryd.prog (Instr.loadAt 3 t236) w148 fun t237 w149 =>
  callD Tryd.prog 26 #[t237, (Value.int IntKind.i64 9)] w149 fun t238 w150 =>
  V Tryd.prog (Instr.build 98 #[(0, t238), (1, t19), (2, t231)]) w150 fun t241 w151 =>
  V Tryd.prog (Instr.makeInterface 98 t241) w151 fun t242 w152 =>
  R t242 w152) (
  V Tryd.prog (Instr.fieldAt 106 (Value.pointer (some ⟨xb, 0, none⟩)) 3) w147 fun t243 w153 =>
  V Tryd.prog (Instr.loadAt 3 t243) w153 fun t244 w154 =>
  callD Tryd.prog 26 #[t244, (Value.int IntKind.i64 5)] w154 fun t245 w155 =>
  V Tryd.prog (Instr.build 100 #[(0, t245), (1, t19), (2, t231)]) w155 fun t248 w156 =>
  V Tryd.prog (Instr.makeInterface 100 t248) w156 fun t249 w157 =>
  R t249 w157)) (
  V Tryd.prog (Instr.fieldAt 106 (Value.pointer (some ⟨xb, 0, none⟩)) 4) w135 fun t250 w158 =>
  V Tryd.prog (Instr.loadAt 3 t250) w158 fun t251 w159 =>
  V Tryd.prog (binOp .rem 3 t251 (Value.int IntKind.i64 3)) w159 fun t252 w160 =>
  V Tryd.prog (do eqGuard .eql 3 (Operand.tmp 252) (Operand.const (Value.int IntKind.i64 0)) t252 (Value.int IntKind.i64 0); binOp .eql 3 t252 (Value.int IntKind.i64 0)) w160 fun t253 w161 =>
  ifD t253 (
  V Tryd.prog (Instr.build 49 #[(0, (Value.int IntKind.i64 (-1)))]) w161 fun t254 w162 =>
  V Tryd.prog (Instr.makeInterface 49 t254) w162 fun t255 w163 =>
  R t255 w163) (
  V Tryd.prog (Instr.fieldAt 106 (Value.pointer (some ⟨xb, 0, none⟩)) 4) w161 fun t257 w164 =>
  V Tryd.prog (Instr.loadAt 3 t257) w164 fun t258 w165 =>
  dynD Tryd.prog (Value.func (.func 56) #[] #[.pointer (some ⟨rb, 0, none⟩)]) #[t258] w165 fun t259 w166 =>
  V Tryd.prog (Instr.build 49 #[(0, t259)]) w166 fun t260 w167 =>
  V Tryd.prog (Instr.makeInterface 49 t260) w167 fun t261 w168 =>
  R t261 w168)))))))))))))
theorem somePlain {w : World} {g : GNode} (h : g.args = []) : SomeNode w (g.val (.slice none 0 0)) := ⟨g, ⟨_, rfl, by rw [h]; exact ints_nil w, Ty3.nil w⟩, by rw [h]; exact Nat.zero_le _⟩
set_option maxHeartbeats 4000000 in
theorem nodeRest_ok {xb rb : Nat} {to regs k d o n a b c t : Int} {sv av : Value} {w : World} {xs : List Int} (h1 : Boxed w xb (rawCells k d o n a b c t sv)) (hreg : w.cell? ⟨rb, 0, none⟩ = some (i64 regs)) (hr : regs ≤ 1000000) (hbins : BinsOk w)
    (hav : IntsAre w av xs) (htv : Ty3 w av) (hxs : xs.length ≤ 6) {w0 : World} (X0 : Ext w0 w) : nodeRest xb rb to av w fun r w' => SomeNode w' r ∧ Ext w0 w' := by
  unfold nodeRest
  have hB : Boxed w.drew xb (rawCells k d o n a b c t sv) := h1.ext (Ext.refl _).drew
  have hregB : w.drew.cell? ⟨rb, 0, none⟩ = some (i64 regs) := (Ext.refl _).drew.cell hreg
  have XD : Ext w w.drew := (Ext.refl _).drew
  refine ldB h1 fa_106_1 l1_3 rfl ?_
  refine dyn_reg hreg hr fun dst => ?_
  refine ldB h1 fa_106_0 l1_3 rfl ?_
  refine (pick_ok (by decide) (by decide)).mono fun r w' ⟨⟨kk, hkk, _⟩, hw⟩ => ?_
  subst hkk; have hw := hw.symm; subst hw
  refine ⟨fun v w' => (∃ b : Bool, v = .bool b) ∧ w' = w, V_eqlI.2 (ifD.mk (fun _ => ⟨⟨_, rfl⟩, rfl⟩) fun _ => V_eqlI.2 ⟨⟨_, rfl⟩, rfl⟩), ?_⟩
  rintro _ w ⟨⟨bb, rfl⟩, rfl⟩ _
  refine ifD.mk (fun _ => ?_) fun _ => ?_
  · refine ldB h1 fa_106_3 l1_3 rfl ?_
    refine V_cv_3_21.2 ?_
    refine bld bd_78 [(0, i64 dst), (1, _)] rfl rfl ?_
    exact mki mi_78 ⟨somePlain (g := .const dst _) rfl, X0⟩
  refine V_eqlI.2 (ifD.mk (fun _ => ?_) fun _ => ?_)
  · refine ldB h1 fa_106_4 l1_3 rfl ?_
    refine dyn_reg hreg hr fun p => ?_
    refine bld bd_80 [(0, i64 dst), (1, i64 p)] rfl rfl ?_
    exact mki mi_80 ⟨somePlain (g := .move dst p) rfl, X0⟩
  refine ⟨fun v w' => (∃ b : Bool, v = .bool b) ∧ w' = w, V_eqlI.2 (ifD.mk (fun _ => ⟨⟨_, rfl⟩, rfl⟩) fun _ => V_eqlI.2 (ifD.mk (fun _ => ⟨⟨_, rfl⟩, rfl⟩) fun _ => V_eqlI.2 ⟨⟨_, rfl⟩, rfl⟩)), ?_⟩
  rintro _ w ⟨⟨bb, rfl⟩, rfl⟩ _
  refine ifD.mk (fun _ => ?_) fun _ => ?_
  · refine ldB h1 fa_106_2 l1_3 rfl ?_
    refine (pick_ok (by decide) (by decide)).mono fun r w' ⟨⟨ko, hko, hk0, hk12⟩, hw⟩ => ?_
    subst hko; have hw := hw.symm; subst hw
    refine V.ok (r_arr Tryd.underlying126 inf3 hk0 (by simpa using hk12)) ?_
    obtain ⟨op, hop⟩ := hbins ko.toNat (by omega)
    refine V.ok (r_ld_3 (by rw [Nat.zero_add]; exact hop)) ?_
    refine ⟨fun v w' => (∃ q, v = i64 q) ∧ w' = w, ?_, ?_⟩
    · refine ldB h1 fa_106_2 l1_3 rfl ?_
      refine rm (by decide) fun _ _ _ _ => ?_
      refine V_eqlI.2 (ifD.mk (fun _ => ?_) fun _ => ⟨⟨_, rfl⟩, rfl⟩)
      refine ldB h1 fa_106_2 l1_3 rfl ?_
      exact (pick_ok (by decide) (by decide)).mono fun r w' ⟨⟨q, hq, _⟩, hw⟩ => ⟨⟨q, hq⟩, hw⟩
    rintro _ w ⟨⟨q, rfl⟩, rfl⟩ _
    refine drawD.mk' (fun w' => Boxed w' xb (rawCells k d o n a b c t sv)) hB ?_
    refine yfB (fun _ hw => hw) fa_106_4 l1_3 rfl ?_
    refine yfB (fun _ hw => hw) fa_106_5 l1_3 rfl ?_
    refine dyn_reg hregB hr fun p1 => ⟨hB, dyn_reg hregB hr fun p2 => ⟨hB, ?_⟩⟩
    refine yBld bd_82 [(0, i64 q), (1, i64 dst), (2, i64 p1), (3, i64 p2)] rfl rfl ?_
    exact yMki mi_82 ⟨somePlain (g := .bin q dst p1 p2) rfl, X0.trans XD⟩
  refine V_eqlI.2 (ifD.mk (fun _ => ?_) fun _ => ?_)
  · refine drawD.mk' (fun w' => Boxed w' xb (rawCells k d o n a b c t sv)) hB ?_
    refine yieldS.ok (v := .agg #[i64 15, i64 16, i64 26]) (fun w' _ => by kernel_rfl) ?_
    refine yfB (fun _ hw => hw) fa_106_2 l1_3 rfl ?_
    refine yfB (fun _ hw => hw) fa_106_4 l1_3 rfl ?_
    refine (pick_ok (by decide) (by decide)).mono fun r w' ⟨⟨ko, hko, hk0, hk3⟩, hw⟩ => ?_
    subst hko; have hw := hw.symm; subst hw
    refine ⟨hB, ?_⟩
    obtain ⟨uo, huo⟩ : ∃ uo : Int, (#[i64 15, i64 16, i64 26] : Array Value)[ko.toNat]? = some (i64 uo) := by
      have : ko = 0 ∨ ko = 1 ∨ ko = 2 := by omega
      rcases this with rfl | rfl | rfl
      · exact ⟨15, rfl⟩
      · exact ⟨16, rfl⟩
      · exact ⟨26, rfl⟩
    refine yieldS.ok (fun w' _ => r_idx Tryd.underlying127 inf3 ⟨_, Tryd.underlying3⟩ hk0 (by simpa using hk3) huo rfl) ?_
    refine dyn_reg hregB hr fun p1 => ⟨hB, ?_⟩
    refine yBld bd_84 [(0, i64 uo), (1, i64 dst), (2, i64 p1)] rfl rfl ?_
    exact yMki mi_84 ⟨somePlain (g := .un uo dst p1) rfl, X0.trans XD⟩
  refine V_eqlI.2 (ifD.mk (fun _ => ?_) fun _ => ?_)
  · refine drawD.mk' (fun w' => Boxed w' xb (rawCells k d o n a b c t sv)) hB ?_
    refine yfB (fun _ hw => hw) fa_106_6 l1_3 rfl ?_
    refine yfB (fun _ hw => hw) fa_106_4 l1_3 rfl ?_
    refine yfB (fun _ hw => hw) fa_106_5 l1_3 rfl ?_
    refine dyn_reg hregB hr fun p1 => ⟨hB, dyn_reg hregB hr fun p2 => ⟨hB, dyn_reg hregB hr fun p3 => ⟨hB, ?_⟩⟩⟩
    refine yBld bd_86 [(0, i64 dst), (1, i64 p1), (2, i64 p2), (3, i64 p3)] rfl rfl ?_
    exact yMki mi_86 ⟨somePlain (g := .choose dst p1 p2 p3) rfl, X0.trans XD⟩
  refine ⟨fun v w' => (∃ b : Bool, v = .bool b) ∧ w' = w, V_eqlI.2 (ifD.mk (fun _ => ⟨⟨_, rfl⟩, rfl⟩) fun _ => V_eqlI.2 ⟨⟨_, rfl⟩, rfl⟩), ?_⟩
  rintro _ w ⟨⟨bb, rfl⟩, rfl⟩ _
  refine ifD.mk (fun _ => ?_) fun _ => ?_
  · refine bld bd_47 [] rfl rfl ?_
    exact mki mi_47 ⟨somePlain (g := .tick) rfl, X0⟩
  refine V_eqlI.2 (ifD.mk (fun _ => ?_) fun _ => ?_)
  · refine bld bd_88 [(0, i64 to)] rfl rfl ?_
    exact mki mi_88 ⟨somePlain (g := .goto to) rfl, X0⟩
  refine ⟨fun v w' => (∃ b : Bool, v = .bool b) ∧ w' = w, V_eqlI.2 (ifD.mk (fun _ => ⟨⟨_, rfl⟩, rfl⟩) fun _ => V_eqlI.2 ⟨⟨_, rfl⟩, rfl⟩), ?_⟩
  rintro _ w ⟨⟨bb, rfl⟩, rfl⟩ _
  refine ifD.mk (fun _ => ?_) fun _ => ?_
  · refine ldB h1 fa_106_6 l1_3 rfl ?_
    refine dyn_reg hreg hr fun p => ?_
    refine bld bd_90 [(0, i64 p), (1, i64 to)] rfl rfl ?_
    exact mki mi_90 ⟨somePlain (g := .branch p to) rfl, X0⟩
  refine V_eqlI.2 (ifD.mk (fun _ => ?_) fun _ => ?_)
  · refine ldB h1 fa_106_3 l1_3 rfl ?_
    refine (pick_ok (by decide) (by decide)).mono fun r w' ⟨⟨q, hq, _⟩, hw⟩ => ?_
    subst hq; have hw := hw.symm; subst hw
    refine bld bd_92 [(0, i64 dst), (1, i64 q)] rfl rfl ?_
    exact mki mi_92 ⟨somePlain (g := .getField dst q) rfl, X0⟩
  refine V_eqlI.2 (ifD.mk (fun _ => ?_) fun _ => ?_)
  · refine drawD.mk' (fun w' => Boxed w' xb (rawCells k d o n a b c t sv)) hB ?_
    refine yfB (fun _ hw => hw) fa_106_3 l1_3 rfl ?_
    refine yfB (fun _ hw => hw) fa_106_4 l1_3 rfl ?_
    refine (pick_ok (by decide) (by decide)).mono fun r w' ⟨⟨q, hq, _⟩, hw⟩ => ?_
    subst hq; have hw := hw.symm; subst hw
    refine ⟨hB, dyn_reg hregB hr fun p1 => ⟨hB, ?_⟩⟩
    refine yBld bd_94 [(0, i64 q), (1, i64 p1)] rfl rfl ?_
    exact yMki mi_94 ⟨somePlain (g := .putField q p1) rfl, X0.trans XD⟩
  refine V_eqlI.2 (ifD.mk (fun _ => ?_) fun _ => ?_)
  · refine V.ok (w' := w) (v := .agg #[i64 17, i64 18, i64 27, i64 28, i64 29, i64 30, i64 31, i64 32, i64 36, i64 6]) (by kernel_rfl) ?_
    refine asB sa_128 rfl rfl fun g w3 hg x3 => ?_
    refine ldB (h1.ext x3) fa_106_2 l1_3 rfl ?_
    refine (pick_ok (by decide) (by decide)).mono fun r w' ⟨⟨ko, hko, hk0, hk10⟩, hw⟩ => ?_
    subst hko; have hw := hw.symm; subst hw
    refine V.ok (w' := w3) (v := .agg #[i64 2, i64 2, i64 1, i64 1, i64 2, i64 3, i64 5, i64 5, i64 3, i64 2]) (by kernel_rfl) ?_
    have hcase : ko = 0 ∨ ko = 1 ∨ ko = 2 ∨ ko = 3 ∨ ko = 4 ∨ ko = 5 ∨ ko = 6 ∨ ko = 7 ∨ ko = 8 ∨ ko = 9 := by omega
    obtain ⟨nn, hnn, hn5⟩ : ∃ nn : Int, (#[i64 2, i64 2, i64 1, i64 1, i64 2, i64 3, i64 5, i64 5, i64 3, i64 2] : Array Value)[ko.toNat]? = some (i64 nn) ∧ nn ≤ 5 := by
      rcases hcase with rfl | rfl | rfl | rfl | rfl | rfl | rfl | rfl | rfl | rfl <;> exact ⟨_, rfl, by decide⟩
    obtain ⟨op, hop⟩ : ∃ op : Int, (Value.cells (.agg #[i64 17, i64 18, i64 27, i64 28, i64 29, i64 30, i64 31, i64 32, i64 36, i64 6])).toList[ko.toNat]? = some (i64 op) := by
      rcases hcase with rfl | rfl | rfl | rfl | rfl | rfl | rfl | rfl | rfl | rfl <;> exact ⟨_, rfl⟩
    refine V.ok (r_idx Tryd.underlying128 inf3 ⟨_, Tryd.underlying3⟩ hk0 (by simpa using hk10) hnn rfl) ?_
    refine ⟨fun v u w' => ∃ (i : Nat) (ys : List Int), u = i64 i ∧ i ≤ 5 ∧ ys.length = i ∧ w'.ownsRow w3.heap.size 3 1 v i (ys.map i64) ∧ Ext w3 w', fun _ u _ => 6 - (RowKit.intOf u).toNat, ⟨0, [], rfl, by omega, rfl, World.ownsRow_nil _ _ _ _, Ext.refl _⟩, ?_⟩
    rintro lv _ w4 ⟨i, ys, rfl, hi5, hyl, ho, x4⟩ _
    have X4 := x3.trans x4
    refine V_lss.2 (ifD_dec (fun hlt => ?_) fun _ => ?_)
    · refine ldB (h1.ext X4) fa_106_4 l1_3 rfl ?_
      refine V_mul.2 (V_add.2 ?_)
      refine dyn_reg (X4.cell hreg) hr fun q => ?_
      refine bsl xe_27 [i64 q] rfl rfl (by simp) rfl fun v5 w5 ho5 x5 => ?_
      have hoo := x5.own ho
      refine apO xe_27 hoo (SliceIs.of_own ho5) rfl (by omega) (by unfold maxLen; omega) (by have := (x4.trans x5).size; omega) fun v6 w6 ho6 hg6 => ?_
      refine V_add.2 ?_
      rw [wrap_id (by omega) (by omega), i64_succ]
      exact ⟨⟨i + 1, ys ++ [q], rfl, by omega, by simp [hyl], by simpa [List.map_append] using ho6, (x4.trans x5).grown hg6 fun k hk => (hoo.lt k hk).1⟩, by simp only [intOf_i64]; omega⟩
    · refine ⟨fun v w' => (∃ zs, IntsAre w' v zs ∧ Ty3 w' v ∧ zs.length ≤ 6) ∧ w' = w4, ?_, ?_⟩
      · refine ldB (h1.ext X4) fa_106_5 l1_3 rfl ?_
        refine rm (by decide) fun _ _ _ _ => ?_
        refine V_eqlI.2 (ifD.mk (fun _ => ⟨⟨xs, hav.ext X4, htv.ext X4, hxs⟩, rfl⟩) fun _ => ⟨⟨ys, ?_, Ty3.own ho, by omega⟩, rfl⟩)
        have := SliceIs.of_own ho
        unfold IntsAre
        rw [hyl]
        exact this
      rintro av' w4 ⟨⟨zs, hz, hzt, hzl⟩, rfl⟩ _
      refine ⟨fun v w' => (∃ q, v = i64 q) ∧ w' = w4, ?_, ?_⟩
      · refine ldB (h1.ext X4) fa_106_6 l1_3 rfl ?_
        refine rm (by decide) fun _ _ _ _ => ?_
        exact V_eqlI.2 (ifD.mk (fun _ => ⟨⟨_, rfl⟩, rfl⟩) fun _ => ⟨⟨_, rfl⟩, rfl⟩)
      rintro _ w4 ⟨⟨q, rfl⟩, rfl⟩ _
      have XD4 : Ext w4 w4.drew := (Ext.refl _).drew
      have hS : Boxed w4.drew xb (rawCells k d o n a b c t sv) ∧ Boxed w4.drew g _ := ⟨(h1.ext X4).ext XD4, (hg.ext x4).ext XD4⟩
      refine drawD.mk' (fun w' => Boxed w' xb (rawCells k d o n a b c t sv) ∧ Boxed w' g (Value.cells (.agg #[i64 17, i64 18, i64 27, i64 28, i64 29, i64 30, i64 31, i64 32, i64 36, i64 6])).toList) hS ?_
      refine yieldS.ok (fun w' _ => r_arr Tryd.underlying128 inf3 hk0 (by simpa using hk10)) ?_
      refine yieldS.ok (fun w' hw => r_ld_3 (hw.2 ko.toNat _ hop)) ?_
      refine yfB (fun _ hw => hw.1) fa_106_5 l1_3 rfl ?_
      refine (pick_ok (by decide) (by decide)).mono fun r w' ⟨⟨p, hp, _⟩, hw⟩ => ?_
      subst hp; have hw := hw.symm; subst hw
      refine ⟨hS, ?_⟩
      refine yBld bd_96 [(0, i64 op), (1, i64 3), (2, i64 p), (3, i64 q), (4, av')] rfl (by have := shape_ints hz; simp only [List.all_cons, List.all_nil, this, Bool.and_true]; rfl) ?_
      exact yMki mi_96 ⟨⟨.serve op 3 p q zs, ⟨av', rfl, hz.ext XD4, hzt.ext XD4⟩, hzl⟩, X0.trans (X4.trans XD4)⟩
  refine V_eqlI.2 (ifD.mk (fun _ => ?_) fun _ => ?_)
  · refine ⟨fun v w' => (∃ q, v = i64 q) ∧ w' = w, ?_, ?_⟩
    · refine ldB h1 fa_106_6 l1_3 rfl ?_
      refine rm (by decide) fun _ _ _ _ => ?_
      exact V_eqlI.2 (ifD.mk (fun _ => ⟨⟨_, rfl⟩, rfl⟩) fun _ => ⟨⟨_, rfl⟩, rfl⟩)
    rintro _ w ⟨⟨q, rfl⟩, rfl⟩ _
    refine lnx xa_27 hav ?_
    refine mn2 fun m hm hm1 hm2 => ?_
    have hm0 : 0 ≤ m := by rcases hm with rfl | rfl <;> omega
    obtain ⟨km, rfl⟩ : ∃ km : Nat, m = (km : Int) := ⟨m.toNat, by omega⟩
    obtain ⟨sv', hsr, hsl, hsb⟩ := take_ints (k := km) Tryd.underlying27 inf3 hav (by omega)
    refine V.ok hsr ?_
    have hsc : oneC sv' = true := by obtain ⟨_, _, rfl⟩ := hsl.shape; rfl
    have hst : Ty3 w sv' := fun b' off' n' c' he => by
      obtain ⟨o2, n2, c2, h2⟩ := hsb b' off' n' c' he
      exact htv b' o2 n2 c2 h2
    have hl6 : (xs.take km).length ≤ 6 := by simp; omega
    refine ldB h1 fa_106_4 l1_3 rfl ?_
    refine rm (by decide) fun _ _ _ _ => ?_
    refine V_eqlI.2 (ifD.mk (fun _ => ?_) fun _ => ?_)
    · refine ldB h1 fa_106_3 l1_3 rfl ?_
      refine (pick_ok (by decide) (by decide)).mono fun r w' ⟨⟨p, hp, _⟩, hw⟩ => ?_
      subst hp; have hw := hw.symm; subst hw
      refine bld bd_98 [(0, i64 p), (1, i64 q), (2, sv')] rfl (by simp only [List.all_cons, List.all_nil, hsc, Bool.and_true]; rfl) ?_
      exact mki mi_98 ⟨⟨.call p q (xs.take km), ⟨sv', rfl, hsl, hst⟩, hl6⟩, X0⟩
    · refine ldB h1 fa_106_3 l1_3 rfl ?_
      refine (pick_ok (by decide) (by decide)).mono fun r w' ⟨⟨p, hp, _⟩, hw⟩ => ?_
      subst hp; have hw := hw.symm; subst hw
      refine bld bd_100 [(0, i64 p), (1, i64 q), (2, sv')] rfl (by simp only [List.all_cons, List.all_nil, hsc, Bool.and_true]; rfl) ?_
      exact mki mi_100 ⟨⟨.callX p q (xs.take km), ⟨sv', rfl, hsl, hst⟩, hl6⟩, X0⟩
  refine ldB h1 fa_106_4 l1_3 rfl ?_
  refine rm (by decide) fun _ _ _ _ => ?_
  refine V_eqlI.2 (ifD.mk (fun _ => ?_) fun _ => ?_)
  · refine bld bd_49 [(0, i64 (-1))] rfl rfl ?_
    exact mki mi_49 ⟨somePlain (g := .ret (-1)) rfl, X0⟩
  · refine ldB h1 fa_106_4 l1_3 rfl ?_
    refine dyn_reg hreg hr fun p => ?_
    refine bld bd_49 [(0, i64 p)] rfl rfl ?_
    exact mki mi_49 ⟨somePlain (g := .ret p) rfl, X0⟩
def ArgsLike (w : World) (sv : Value) (l : List Int) : Prop := (∃ a c, sv = .slice a l.length c) ∧ (0 < l.length → IntsAre w sv l)
theorem ArgsLike.ext {w w' : World} {sv : Value} {l : List Int} (h : ArgsLike w sv l) (hx : Ext w w') : ArgsLike w' sv l := ⟨h.1, fun h0 => (h.2 h0).ext hx⟩
def RawIs (w : World) (v : Value) : Prop := ∃ k d o n a b c t sv l, v = .agg (rawCells k d o n a b c t sv).toArray ∧ ArgsLike w sv l
set_option maxHeartbeats 1000000 in
theorem node_ok {x : Value} {regs nodes : Int} {w : World} (hx : RawIs w x) (hr : regs ≤ 1000000) (hn : nodes ≤ 1000000) (hb : BinsOk w) :
    callD Tryd.prog 27 #[x, i64 regs, i64 nodes] w fun r w' => SomeNode w' r ∧ Ext w w' := by
  obtain ⟨k, d, o, n, a, b, c, t, sv, l, rfl, hs⟩ := hx
  apply F27_wp
  unfold F27_den
  refine bx fun xb w1 h1 x1 => ?_
  refine bx fun rb w2 h2 x2 => ?_
  have hreg : w2.cell? ⟨rb, 0, none⟩ = some (i64 regs) := h2 0 _ rfl
  refine V.ok (w' := w2) (v := .func (.func 56) #[] #[.pointer (some ⟨rb, 0, none⟩)]) (by simp [Instr.makeFunc]) ?_
  have h1' : Boxed w2 xb (rawCells k d o n a b c t sv) := h1.ext x2
  have X2 := x1.trans x2
  refine ldB h1' fa_106_7 l1_3 rfl ?_
  refine mx2 fun m hm hm1 _ => ?_
  refine (pick_ok (by omega) (by rcases hm with rfl | rfl <;> omega)).mono fun r w' ⟨⟨tt, htt, _⟩, hw⟩ => ?_
  subst htt; have hw := hw.symm; subst hw
  refine ⟨fun v w' => (∃ to, v = i64 to) ∧ w' = w2, ?_, ?_⟩
  · refine ldB h1' fa_106_7 l1_3 rfl ?_
    refine rm (by decide) fun _ _ _ _ => ?_
    exact V_eqlI.2 (ifD.mk (fun _ => ⟨⟨_, rfl⟩, rfl⟩) fun _ => ⟨⟨_, rfl⟩, rfl⟩)
  rintro _ w2 ⟨⟨to, rfl⟩, rfl⟩ _
  obtain ⟨⟨sa, sc, rfl⟩, hs⟩ := hs
  refine ⟨fun v u w' => ∃ (i : Nat) (xs : List Int), u = i64 i ∧ i ≤ 6 ∧ xs.length = i ∧ w'.ownsRow w2.heap.size 3 1 v i (xs.map i64) ∧ Ext w2 w', fun _ u _ => 6 - (RowKit.intOf u).toNat, ⟨0, [], rfl, by omega, rfl, World.ownsRow_nil _ _ _ _, Ext.refl _⟩, ?_⟩
  rintro av _ w3 ⟨i, xs, rfl, hi6, hxl, ho, x3⟩ _
  have X3 := X2.trans x3
  have hai : IntsAre w3 av xs := by
    have := SliceIs.of_own ho
    unfold IntsAre
    rw [hxl]; exact this
  have fin : nodeRest xb rb to av w3 fun r w' => SomeNode w' r ∧ Ext w w' := nodeRest_ok (h1'.ext x3) (x3.cell hreg) hr ((hb.ext X2).ext x3) hai (Ty3.own ho) (by omega) X3
  refine ldB (h1'.ext x3) fa_106_8 l1_27 rfl ?_
  refine V_ln_27.2 (V_lss.2 ?_)
  by_cases hl1 : (i : Int) < (l.length : Nat)
  · simp only [hl1, V_lss, gd_t, pickD_iff, reduceIte, decide_true]
    by_cases hl2 : (i : Int) < 6
    · simp only [hl2, ifD_true, decide_true]
      obtain ⟨q, hq⟩ := ex_get (l := l) (j := i) (by omega)
      refine ldB (h1'.ext x3) fa_106_8 l1_27 rfl ?_
      refine ldx xa_27 l1_3 ((hs (by omega)).ext X3) (by omega) (by omega) (getI hq) ?_
      refine dyn_reg (x3.cell hreg) hr fun q' => ?_
      refine bsl xe_27 [i64 q'] rfl rfl (by simp) rfl fun v5 w5 ho5 x5 => ?_
      have hoo := x5.own ho
      refine apO xe_27 hoo (SliceIs.of_own ho5) rfl (by omega) (by unfold maxLen; omega) (by have := (x3.trans x5).size; omega) fun v6 w6 ho6 hg6 => ?_
      refine V_add.2 ?_
      rw [wrap_id (by omega) (by omega), i64_succ]
      exact ⟨⟨i + 1, xs ++ [q'], rfl, by omega, by simp [hxl], by simpa [List.map_append] using ho6, (x3.trans x5).grown hg6 fun k hk => (hoo.lt k hk).1⟩, by simp only [intOf_i64]; omega⟩
    · simp only [hl2, ifD_false, decide_false]
      exact fin
  · simp only [hl1, gd_ft, pickD_iff, ifD_false, reduceIte, Bool.false_eq_true, decide_false]
    exact fin
end Go.Proofs.YtjcmcfidblhnnaaDoor
namespace Go.Vc
section
variable {P : Program} {w : World} {S : World → Prop} {L : Value → Prop}
theorem yldxA {t x : TypeId} {v : Value} {n sz : Nat} {cs l : List Value} {k : IntKind} {i : Int} (h : XA P t sz) (ht : ∃ d z by_, P.underlying x = some d ∧ aggB d = true ∧ Inf P x z sz by_) (hs : SliceIs w v sz n cs) (hx : ∀ w', S w' → Ext w w') (h0 : 0 ≤ i) (h1 : i < n)
    (hc : (cs.drop (i.toNat * sz)).take sz = l) (hl : l.length = sz) (hk : L (.agg l.toArray)) :
    yieldS P S (Instr.indexAt t v (.int k i)) fun p => yieldS P S (Instr.loadAt x p) L := by
  obtain ⟨e, z, b', hte, hi⟩ := h
  obtain ⟨d, z', by_, h2, h3, h4⟩ := ht
  obtain ⟨b, off, cap, rfl, hcell⟩ := hs.there (by omega)
  refine yieldS.ok (fun w' _ => r_index hte hi h0 h1) (yieldS.ok (fun w' hw => r_loadAgg h2 h3 h4 hl fun j hj => ?_) hk)
  obtain ⟨u, hu⟩ : ∃ u, l[j]? = some u := ⟨_, List.getElem?_eq_getElem hj⟩
  rw [hu, Nat.add_assoc]
  refine (hx w' hw).cell (hcell _ u ?_)
  rw [← hc, List.getElem?_take, List.getElem?_drop] at hu
  split at hu
  · exact hu
  · cases hu
end
end Go.Vc
namespace Go.Proofs.YtjcmcfidblhnnaaDoor
open Go.Vc
def RawsAre (w : World) (v : Value) (n : Nat) : Prop := (∃ a c, v = .slice a n c) ∧ (0 < n → ∃ cs, SliceIs w v 9 n cs ∧ ∀ i, i < n → ∃ k d o m a b c t sv l, (cs.drop (i * 9)).take 9 = rawCells k d o m a b c t sv ∧ ArgsLike w sv l)
def OwnProg (w : World) (B : Nat) (ns : Value) (gs : List GNode) (vs : List Value) : Prop := w.ownsRow B 43 1 ns gs.length vs ∧ ∀ (i : Nat) g, gs[i]? = some g → ∃ u, vs[i]? = some u ∧ NodeT w u g
theorem val_one (g : GNode) (sv : Value) : oneC (g.val sv) = true := by cases g <;> rfl
theorem NodeT.one {w : World} {v : Value} {g : GNode} (h : NodeT w v g) : oneC v = true := by
  obtain ⟨sv, rfl, _⟩ := h
  exact val_one g sv
theorem OwnProg.ext {w w' : World} {B : Nat} {ns : Value} {gs : List GNode} {vs : List Value} (h : OwnProg w B ns gs vs) (hx : Ext w w') : OwnProg w' B ns gs vs := ⟨hx.own h.1, fun i g hg => by
  obtain ⟨u, h1, h2⟩ := h.2 i g hg
  exact ⟨u, h1, h2.ext hx⟩⟩
theorem OwnProg.app {w w' : World} {B : Nat} {ns ns' u : Value} {gs : List GNode} {vs : List Value} {g : GNode} (h : OwnProg w B ns gs vs) (hu : NodeT w u g) (ho : w'.ownsRow B 43 1 ns' (gs.length + 1) (vs ++ [u])) (hg : w.grownBy w' ns.ownBlock) : OwnProg w' B ns' (gs ++ [g]) (vs ++ [u]) := by
  have hvl : vs.length = gs.length := by have := h.1.1; simpa using this
  refine ⟨by simpa using ho, fun i g' hi => ?_⟩
  rcases Nat.lt_or_ge i gs.length with hlt | hge
  · rw [List.getElem?_append_left hlt] at hi
    obtain ⟨u', h1, h2⟩ := h.2 i g' hi
    exact ⟨u', by rw [List.getElem?_append_left (by omega)]; exact h1, h2.grown' h.1 hg (by decide)⟩
  · have hi' := (List.getElem?_eq_some_iff.1 hi).1
    simp at hi'
    obtain rfl : i = gs.length := by omega
    rw [List.getElem?_append_right (Nat.le_refl _)] at hi
    simp at hi
    subst hi
    exact ⟨u, by rw [← hvl, List.getElem?_append_right (Nat.le_refl _)]; simp, hu.grown' h.1 hg (by decide)⟩
theorem OwnProg.set {w : World} {B b o : Nat} {ns x : Value} {gs : List GNode} {vs cs : List Value} {e : TypeId} (h : OwnProg w B ns gs vs) (hb : Blk w b cs e) (he : e ≠ 3) (hB : b < B) : OwnProg (w.setCell ⟨b, o, none⟩ x) B ns gs vs :=
  ⟨own_set h.1 hB, fun i g hg => by
    obtain ⟨u, h1, h2⟩ := h.2 i g hg
    exact ⟨u, h1, h2.grown set_grown hb he⟩⟩
theorem OwnProg.chg {w w' : World} {B b : Nat} {ns : Value} {gs : List GNode} {vs cs : List Value} {e : TypeId} (h : OwnProg w B ns gs vs) (hb : Blk w b cs e) (he : e ≠ 3) (hB : b < B) (hc : Chg w b w') : OwnProg w' B ns gs vs :=
  ⟨hc.ownRow h.1 hB, fun i g hg => by
    obtain ⟨u, h1, h2⟩ := h.2 i g hg
    exact ⟨u, h1, h2.grown hc.grown hb he⟩⟩
structure Made (gs : List GNode) (P0 R : Int) : Prop where
  r1 : 1 ≤ R
  r2 : R ≤ 14
  p1 : 0 ≤ P0
  p2 : P0 ≤ 4
  p3 : P0 ≤ R
  l1 : 1 ≤ gs.length
  l2 : gs.length ≤ 41
  last : gs[gs.length - 1]? = some (.ret (-1))
  args : ∀ g ∈ gs, g.args.length ≤ 6
set_option maxHeartbeats 4000000 in
theorem program_ok {lv : Value} {n : Nat} {regs params : Int} {w : World} (hl : RawsAre w lv n) (hb : BinsOk w) : callD Tryd.prog 11 #[lv, i64 regs, i64 params] w fun r w' =>
    (∃ P0 R ns gs vs, r = .agg #[i64 P0, i64 R, ns] ∧ OwnProg w' w.heap.size ns gs vs ∧ Made gs P0 R) ∧ Ext w w' := by
  obtain ⟨⟨la, lc, rfl⟩, hl⟩ := hl
  apply F11_wp
  unfold F11_den
  refine alK inf25 fun w1 h1 x1 => ?_
  refine (pick_ok (by decide) (by decide)).mono fun r w' ⟨⟨k, hk, hk0, hk14⟩, hw⟩ => ?_
  subst hk; have hw := hw.symm; subst hw
  refine V_add.2 ?_
  rw [wrap_id (by omega) (by omega)]
  refine bld bd_25 [(1, i64 (1 + k))] rfl rfl ?_
  refine asK sa_25 rfl rfl fun w2 h2 x2 => ?_
  have h2' : Blk w2 w1.heap.size [i64 0, i64 (1 + k), .slice none 0 0] 25 := h2
  refine ldB h2'.boxed fa_25_1 l1_3 rfl ?_
  refine V_add.2 ?_
  rw [wrap_id (by omega) (by omega)]
  refine mn2 fun m hm hm1 hm2 => ?_
  refine (pick_ok (by omega) (by omega)).mono fun r w' ⟨⟨p0, hp, hp0, hpm⟩, hw⟩ => ?_
  subst hp; have hw := hw.symm; subst hw
  refine V.ok r_fd_25_0 ?_
  refine U.ok (r_store inf3 rfl (by rw [Nat.zero_add, h2'.cell]; rfl) (by rw [Nat.zero_add]; exact h2'.frozen 0)) ?_
  rw [Nat.zero_add]
  have l1 := h1.lt
  have l2 := h2.lt
  have X3 : Ext w (w2.setCell ⟨w1.heap.size, 0, none⟩ (i64 p0)) := (x1.trans x2).setCell (by omega) _
  have h3 : Blk (w2.setCell ⟨w1.heap.size, 0, none⟩ (i64 p0)) w1.heap.size [i64 p0, i64 (1 + k), .slice none 0 0] 25 := h2'.set 0 (i64 p0)
  have h13 : Blk (w2.setCell ⟨w1.heap.size, 0, none⟩ (i64 p0)) w.heap.size [i64 0, i64 0, .slice none 0 0] 25 := (h1.ext x2).other (by omega)
  have s3 : (w2.setCell ⟨w1.heap.size, 0, none⟩ (i64 p0)).heap.size = w2.heap.size := by simp
  generalize (w2.setCell ⟨w1.heap.size, 0, none⟩ (i64 p0)) = w3 at X3 h3 h13 s3 ⊢
  refine V_ln_22.2 ?_
  refine mn2 fun q hq hq1 hq2 => ?_
  have hq0 : 0 ≤ q := by rcases hq with rfl | rfl <;> omega
  obtain ⟨M, rfl⟩ : ∃ M : Nat, q = (M : Int) := ⟨q.toNat, by omega⟩
  refine V_add.2 ?_
  rw [wrap_id (by omega) (by omega)]
  refine ⟨fun v w' => ∃ (i : Nat) (nv : Value) (gs : List GNode) (vs : List Value), v = i64 i ∧ i ≤ M ∧ gs.length = i ∧ Ext w w' ∧ w2.heap.size ≤ w'.heap.size ∧ Blk w' w.heap.size [i64 0, i64 0, .slice none 0 0] 25 ∧ Blk w' w1.heap.size [i64 p0, i64 (1 + k), nv] 25 ∧
      OwnProg w' (w1.heap.size + 1) nv gs vs ∧ (∀ g ∈ gs, g.args.length ≤ 6), fun v _ => M - (RowKit.intOf v).toNat, ⟨0, .slice none 0 0, [], [], rfl, Nat.zero_le _, rfl, X3, by omega, h13, h3, ⟨World.ownsRow_nil _ _ _ _, fun i g hg => by simp at hg⟩, fun g hg => by simp at hg⟩, ?_⟩
  rintro _ w4 ⟨i, nv, gs, vs, rfl, hi, hgl, X4, hsz, k1, k2, ho, hargs⟩ _
  refine V_sub.2 ?_
  rw [wrap_id (by omega) (by omega), show ((M : Int) + 1 - 1) = M by omega]
  have hnv : oneC nv = true := own1' ho.1
  refine V_lss.2 (ifD_dec (fun hlt => ?_) fun hge => ?_)
  · obtain ⟨cs, hs, hel⟩ := hl (by omega)
    obtain ⟨rk, rd, ro, rn, ra, rb, rc, rt, sv, rl, hc, hri⟩ := hel i (by omega)
    have D4 : Ext w4 w4.drew := (Ext.refl _).drew
    refine drawD.mk' (fun w' => Ext w w' ∧ Blk w' w1.heap.size [i64 p0, i64 (1 + k), nv] 25) ⟨X4.trans D4, k2.ext D4⟩ ?_
    refine yfB (fun w' hw => hw.2.boxed) fa_25_2 l1_23 rfl ?_
    refine yldxA xa_22 la_106 hs (fun _ h => h.1) (by omega) (by omega) hc rfl ?_
    refine yfB (fun w' hw => hw.2.boxed) fa_25_1 l1_3 rfl ?_
    refine (node_ok (x := .agg (rawCells rk rd ro rn ra rb rc rt sv).toArray) ⟨_, _, _, _, _, _, _, _, _, _, rfl, hri.ext (X4.trans D4)⟩ (by omega) (by omega) (hb.ext (X4.trans D4))).mono fun u w5 ⟨⟨g, hg, hg6⟩, x5⟩ => ?_
    have D5 := D4.trans x5
    refine ⟨⟨X4.trans D5, k2.ext D5⟩, ?_⟩
    have hu1 := hg.one
    refine bsl xe_23 [u] rfl rfl (by simp) (by simp [hu1]) fun v6 w6 ho6 x6 => ?_
    have D6 := D5.trans x6
    refine ⟨⟨X4.trans D6, k2.ext D6⟩, ?_⟩
    have hoo := ho.ext D6
    have hs6 := D6.size
    refine apO xe_23 hoo.1 (SliceIs.of_own ho6) (by simp [hu1]) (by omega) (by unfold maxLen; omega) (by omega) fun nv' w7 ho7 hg7 => ?_
    have X7 : Ext w w7 := (X4.trans D6).grown hg7 fun k hk => by have := (hoo.1.lt k hk).1; omega
    have k1' := (k1.ext D6).grown hg7 (own_blk hoo.1 (by omega))
    have k2' := (k2.ext D6).grown hg7 (own_blk hoo.1 (by omega))
    have hp7 := hoo.app (hg.ext x6) ho7 hg7
    refine ⟨⟨X7, k2'⟩, ?_⟩
    refine yieldS.ok (fun w' _ => r_fd_25_2) ?_
    refine U.ok (r_store inf23 (own1' ho7) (by rw [Nat.zero_add, k2'.cell]; rfl) (by rw [Nat.zero_add]; exact k2'.frozen 2)) ?_
    refine V_add.2 ?_
    rw [wrap_id (by omega) (by omega), i64_succ, Nat.zero_add]
    refine ⟨⟨i + 1, nv', gs ++ [g], vs ++ [u], rfl, by omega, by simp [hgl], X7.setCell (by omega) _, by have := hg7.size; rw [show (w7.setCell ⟨w1.heap.size, 2, none⟩ nv').heap.size = w7.heap.size by simp]; omega, k1'.other (by omega), k2'.set 2 nv', hp7.set k2' (by decide) (by omega), fun g' hg' => ?_⟩, by simp only [intOf_i64]; omega⟩
    rcases List.mem_append.1 hg' with h | h
    · exact hargs g' h
    · simp at h; subst h; exact hg6
  · refine ldB k2.boxed fa_25_2 l1_23 rfl ?_
    refine bld bd_49 [(0, i64 (-1))] rfl rfl ?_
    refine mki mi_49 ?_
    have hret : NodeT w4 (.iface 49 (.agg #[i64 (-1)])) (.ret (-1)) := ⟨.slice none 0 0, rfl, ints_nil _, Ty3.nil _⟩
    refine bsl xe_23 [.iface 49 (.agg #[i64 (-1)])] rfl rfl (by simp) rfl fun v6 w6 ho6 x6 => ?_
    have hoo := ho.ext x6
    have hs6 := x6.size
    refine apO xe_23 hoo.1 (SliceIs.of_own ho6) rfl (by omega) (by unfold maxLen; omega) (by omega) fun nv' w7 ho7 hg7 => ?_
    have X7 : Ext w w7 := (X4.trans x6).grown hg7 fun k hk => by have := (hoo.1.lt k hk).1; omega
    have k1' := (k1.ext x6).grown hg7 (own_blk hoo.1 (by omega))
    have k2' := (k2.ext x6).grown hg7 (own_blk hoo.1 (by omega))
    have hp7 := hoo.app (hret.ext x6) ho7 hg7
    refine V.ok r_fd_25_2 ?_
    refine U.ok (r_store inf23 (own1' ho7) (by rw [Nat.zero_add, k2'.cell]; rfl) (by rw [Nat.zero_add]; exact k2'.frozen 2)) ?_
    rw [Nat.zero_add]
    have k3 := k2'.set 2 nv'
    have k13 : Blk (w7.setCell ⟨w1.heap.size, 2, none⟩ nv') w.heap.size [i64 0, i64 0, .slice none 0 0] 25 := k1'.other (by omega)
    have hp8 := hp7.set (o := 2) (x := nv') k2' (by decide) (by omega)
    have X8 : Ext w (w7.setCell ⟨w1.heap.size, 2, none⟩ nv') := X7.setCell (by omega) _
    refine ldA k3.boxed la_25 rfl ?_
    refine stA inf25 k13 (l := [i64 p0, i64 (1 + k), nv']) rfl rfl rfl (by have := own1' ho7; simp only [List.all_cons, List.all_nil, this, Bool.and_true]; rfl) fun w9 h9 hc => ?_
    refine ⟨_, r_var Tryd.underlying25 rfl inf25 h9 rfl, ⟨_, rfl⟩, ⟨p0, 1 + k, nv', gs ++ [.ret (-1)], vs ++ [.iface 49 (.agg #[i64 (-1)])], rfl, ?_, ⟨by omega, by omega, hp0, by omega, by omega, by simp, by simp; omega, by simp, fun g' hg' => ?_⟩⟩, hc.ext _ X8 (Nat.le_refl _)⟩
    · have h10 := hp8.chg k13 (by decide) (by omega) hc
      exact ⟨own_mono h10.1 (by omega), h10.2⟩
    · rcases List.mem_append.1 hg' with h | h
      · exact hargs g' h
      · simp at h; subst h; exact Nat.zero_le _
end Go.Proofs.YtjcmcfidblhnnaaDoor
namespace Go.Proofs.YtjcmcfidblhnnaaDoor
open Go.Vc
theorem NodeT.grow {w w' : World} {v : Value} {g : GNode} {row : Option Nat} (h : NodeT w v g) (hg : w.grownBy w' row) (hr : ∀ k, row = some k → ∃ cs e fr, w.heap[k]? = some (.cells cs e fr) ∧ e ≠ 3) : NodeT w' v g := by
  cases row with
  | none => exact h.ext hg
  | some k =>
    obtain ⟨cs, e, fr, h1, h2⟩ := hr k rfl
    exact h.grown hg h1 h2
structure TF (w0 w : World) (B g6 g7 : Nat) (P0 R : Int) (ns : Value) (gs : List GNode) (vs : List Value) : Prop where
  x : Ext w0 w
  z : Blk w g6 [i64 0, i64 0, .slice none 0 0] 25
  t : Blk w g7 [i64 P0, i64 R, ns] 25
  own : OwnProg w B ns gs vs
  b6 : w0.heap.size ≤ g6
  b67 : g6 < B
  b7 : B ≤ g7
  nb : ∀ k, ns.ownBlock = some k → k < g7
section
variable {w0 w w' : World} {B g6 g7 : Nat} {P0 R : Int} {ns : Value} {gs : List GNode} {vs : List Value}
theorem TF.ext (h : TF w0 w B g6 g7 P0 R ns gs vs) (hx : Ext w w') : TF w0 w' B g6 g7 P0 R ns gs vs := ⟨h.x.trans hx, h.z.ext hx, h.t.ext hx, h.own.ext hx, h.b6, h.b67, h.b7, h.nb⟩
theorem TF.grow {row : Option Nat} (h : TF w0 w B g6 g7 P0 R ns gs vs) (hg : w.grownBy w' row) (hr : ∀ k, row = some k → g7 < k ∧ ∃ cs e fr, w.heap[k]? = some (.cells cs e fr) ∧ e ≠ 3) : TF w0 w' B g6 g7 P0 R ns gs vs := by
  have b6 := h.b6; have b67 := h.b67; have b7 := h.b7
  refine ⟨h.x.grown hg fun k hk => by have := (hr k hk).1; omega, h.z.grown hg fun he => by have := (hr _ he).1; omega, h.t.grown hg fun he => by have := (hr _ he).1; omega, ⟨h.own.1.kept hg ?_, fun i g hi => ?_⟩, h.b6, h.b67, h.b7, h.nb⟩
  · cases hn : ns.ownBlock with
    | none => exact .inl rfl
    | some k => exact .inr fun he => by have := h.nb k hn; have := (hr k he.symm).1; omega
  · obtain ⟨u, h1, h2⟩ := h.own.2 i g hi
    exact ⟨u, h1, h2.grow hg fun k hk => (hr k hk).2⟩
theorem TF.own' {Bx n sz : Nat} {e : TypeId} {v : Value} {xs : List Value} (h : TF w0 w B g6 g7 P0 R ns gs vs) (ho : w.ownsRow Bx e sz v n xs) (hg : w.grownBy w' v.ownBlock) (he : e ≠ 3) (hB : g7 < Bx) : TF w0 w' B g6 g7 P0 R ns gs vs :=
  h.grow hg fun k hk => by
    rcases ho.2 with ⟨rfl, _⟩ | ⟨g, cap, cur, rfl, h1, h2, _⟩
    · cases hk
    · cases hk
      exact ⟨by show g7 < g; omega, _, _, _, h2, he⟩
theorem TF.chg {g : Nat} {cs : List Value} {e : TypeId} (h : TF w0 w B g6 g7 P0 R ns gs vs) (hb : Blk w g cs e) (hc : Chg w g w') (he : e ≠ 3) (hB : g7 < g) : TF w0 w' B g6 g7 P0 R ns gs vs :=
  h.grow hc.grown fun k hk => by cases hk; exact ⟨hB, _, _, _, hb, he⟩
theorem TF.put {i : Nat} {g : GNode} {u : Value} (h : TF w0 w B g6 g7 P0 R ns gs vs) (hi : i < gs.length) (ho : w'.ownsRow B 43 1 ns gs.length (vs.set i u)) (hg : w.grownBy w' ns.ownBlock) (hu : NodeT w u g) : TF w0 w' B g6 g7 P0 R ns (gs.set i g) (vs.set i u) := by
  have b6 := h.b6; have b67 := h.b67; have b7 := h.b7
  have hvl : vs.length = gs.length := by have := h.own.1.1; simpa using this
  refine ⟨h.x.grown hg fun k hk => by have := (h.own.1.lt k hk).1; omega, h.z.grown hg (own_blk h.own.1 h.b67), h.t.grown hg (fun he => by have := h.nb _ he; omega), ⟨by simpa using ho, fun j g' hj => ?_⟩, h.b6, h.b67, h.b7, h.nb⟩
  by_cases hji : j = i
  · subst hji
    rw [List.getElem?_set_self hi] at hj
    cases hj
    exact ⟨u, by rw [List.getElem?_set_self (by omega)], hu.grown' h.own.1 hg (by decide)⟩
  · rw [List.getElem?_set_ne (fun he => hji he.symm)] at hj
    obtain ⟨u', h1, h2⟩ := h.own.2 j g' hj
    exact ⟨u', by rw [List.getElem?_set_ne (fun he => hji he.symm)]; exact h1, h2.grown' h.own.1 hg (by decide)⟩
end
theorem blk_own {w : World} {g n : Nat} {cs : List Value} {e : TypeId} (h : Blk w g cs e) (hn : cs.length = n) (hm : n ≤ maxLen) : w.ownsRow g e 1 (.slice (some ⟨g, 0, none⟩) n n) n cs :=
  by
  subst hn
  exact ⟨by omega, .inr ⟨g, cs.length, cs.toArray, rfl, Nat.le_refl _, h, Nat.le_refl _, hm, by simp, by simp⟩⟩
theorem right_tick {i N : Nat} {R : Int} (h : i + 1 < N) : RightN .tick i R N := ⟨trivial, fun r hr => by simp [GNode.us] at hr, fun r hr => by simp [GNode.nx] at hr; omega, .inr ⟨rfl, rfl⟩⟩
theorem right_ret {i N : Nat} {R : Int} : RightN (.ret (-1)) i R N := ⟨trivial, fun r hr => by simp [GNode.us] at hr, fun r hr => by simp [GNode.nx] at hr, .inr ⟨rfl, rfl⟩⟩
def Tamed (w0 w : World) (r : Value) : Prop := ∃ (p : GProg) (ns : Value) (vs : List Value), r = .agg #[i64 p.params, i64 p.regs, ns] ∧ OwnProg w w0.heap.size ns p.nodes vs ∧ OkProg p ∧ 1 ≤ p.regs ∧ p.regs ≤ 14 ∧ p.nodes.length ≤ 41 ∧ ∀ g ∈ p.nodes, g.args.length ≤ 6
theorem tameEnd {w0 w : World} {B g6 g7 : Nat} {P0 R : Int} {ns : Value} {gs0 gs : List GNode} {vs : List Value} (h : TF w0 w B g6 g7 P0 R ns gs vs) (hm : Made gs0 P0 R) (hlen : gs.length = gs0.length) (hlast : gs[gs.length - 1]? = some (.ret (-1))) (hargs : ∀ g ∈ gs, g.args.length ≤ 6)
    (hdone : ∀ (j : Nat) g, j < gs.length - 1 → gs[j]? = some g → RightN g j R gs.length) :
    V Tryd.prog (Instr.loadAt 25 (.pointer (some ⟨g7, 0, none⟩))) w fun t76 w47 => U Tryd.prog (Instr.storeAt 25 (.pointer (some ⟨g6, 0, none⟩)) t76) w47 fun _ w48 =>
      ∃ r1, (loadVar 25 (match (Value.pointer (some ⟨g6, 0, none⟩)) with | .pointer (some p) => p | _ => ⟨0, 0, none⟩)).run Tryd.prog w48 = .ok r1 w48 ∧ (∃ p, (Value.pointer (some ⟨g6, 0, none⟩)) = Value.pointer (some p)) ∧ (Tamed w0 w48 r1 ∧ Ext w0 w48) := by
  have b6 := h.b6; have b67 := h.b67; have b7 := h.b7
  have l1 := hm.l1; have l2 := hm.l2
  refine ldA h.t.boxed la_25 rfl ?_
  refine stA inf25 h.z (l := [i64 P0, i64 R, ns]) rfl rfl rfl (by have := own1' h.own.1; simp only [List.all_cons, List.all_nil, this, Bool.and_true]; rfl) fun w9 h9 hc => ?_
  have ho := h.own.chg h.z (by decide) b67 hc
  refine ⟨_, r_var Tryd.underlying25 rfl inf25 h9 rfl, ⟨_, rfl⟩, ⟨⟨P0, R, gs⟩, ns, vs, rfl, ⟨own_mono ho.1 (by omega), ho.2⟩, ⟨by show 1 ≤ gs.length; omega, by show gs.length ≤ 250; omega, by have := hm.r1; show 0 ≤ R; omega, by have := hm.r2; show R ≤ 40; omega, hm.p1, hm.p2, hm.p3, fun j g hj => ?_⟩, hm.r1, hm.r2, by show gs.length ≤ 41; omega, hargs⟩, hc.ext _ h.x b6⟩
  have hj' : j < gs.length := (List.getElem?_eq_some_iff.1 hj).1
  by_cases hlt : j < gs.length - 1
  · exact hdone j g hlt hj
  · have : j = gs.length - 1 := by omega
    subst this
    rw [hlast] at hj
    cases hj
    exact right_ret
end Go.Proofs.YtjcmcfidblhnnaaDoor
namespace Go.Proofs.YtjcmcfidblhnnaaDoor
open Go.Vc
theorem RawsAre.ext {w w' : World} {v : Value} {n : Nat} (h : RawsAre w v n) (hx : Ext w w') : RawsAre w' v n := by
  refine ⟨h.1, fun h0 => ?_⟩
  obtain ⟨cs, h1, h2⟩ := h.2 h0
  refine ⟨cs, h1.ext hx, fun i hi => ?_⟩
  obtain ⟨k, d, o, m, a, b, c, t, sv, l, h3, h4⟩ := h2 i hi
  exact ⟨k, d, o, m, a, b, c, t, sv, l, h3, h4.ext hx⟩
def tickV : Value := .iface 47 (.agg #[])
def retV : Value := .iface 49 (.agg #[i64 (-1)])
theorem tickT (w : World) : NodeT w tickV .tick := ⟨.slice none 0 0, rfl, ints_nil _, Ty3.nil _⟩
theorem retT (w : World) : NodeT w retV (.ret (-1)) := ⟨.slice none 0 0, rfl, ints_nil _, Ty3.nil _⟩
def tried (N i : Nat) (g : GNode) : List GNode := ((List.replicate N GNode.tick).set i g).set (N - 1) (.ret (-1))
theorem tried_len (N i : Nat) (g : GNode) : (tried N i g).length = N := by simp [tried]
theorem tried_get {N i j : Nat} {g n : GNode} (h : (tried N i g)[j]? = some n) : (j = N - 1 ∧ n = .ret (-1)) ∨ (j ≠ N - 1 ∧ j = i ∧ n = g) ∨ (j ≠ N - 1 ∧ j ≠ i ∧ n = .tick) := by
  have hj : j < N := by have := (List.getElem?_eq_some_iff.1 h).1; simpa [tried] using this
  unfold tried at h
  by_cases h1 : j = N - 1
  · subst h1
    rw [List.getElem?_set_self (by simp; omega)] at h
    cases h
    exact .inl ⟨rfl, rfl⟩
  · rw [List.getElem?_set_ne (fun e => h1 e.symm)] at h
    by_cases h2 : j = i
    · subst h2
      rw [List.getElem?_set_self (by simp; omega)] at h
      cases h
      exact .inr (.inl ⟨h1, rfl, rfl⟩)
    · rw [List.getElem?_set_ne (fun e => h2 e.symm)] at h
      simp [hj] at h
      exact .inr (.inr ⟨h1, h2, h.symm⟩)
theorem tried_at {N i : Nat} {g : GNode} (hi : i < N) (h : i ≠ N - 1) : (tried N i g)[i]? = some g := by
  unfold tried
  rw [List.getElem?_set_ne (fun e => h e.symm), List.getElem?_set_self (by simpa using hi)]
set_option maxHeartbeats 8000000 in
theorem tame_ok {lv : Value} {n : Nat} {regs params : Int} {w : World} (hl : RawsAre w lv n) (hb : BinsOk w) : callD Tryd.prog 4 #[lv, i64 regs, i64 params] w fun r w' => Tamed w w' r ∧ Ext w w' := by
  apply F4_wp
  unfold F4_den
  refine alK inf25 fun w1 h1 x1 => ?_
  refine (program_ok (hl.ext x1) (hb.ext x1)).mono fun r w2 ⟨⟨P0, R, ns, gs0, vs0, hr, ho2, hm⟩, x2⟩ => ?_
  subst hr
  have m1 := hm.l1; have m2 := hm.l2; have r1 := hm.r1; have r2 := hm.r2
  obtain ⟨ng, nc, rfl⟩ : ∃ ng nc, ns = .slice (some ⟨ng, 0, none⟩) gs0.length nc := by
    rcases ho2.1.2 with ⟨_, h⟩ | ⟨g, cap, cur, h, _⟩
    · omega
    · exact ⟨g, cap, h⟩
  refine asK sa_25 rfl rfl fun w3 h3 x3 => ?_
  have T3 : TF w w3 w1.heap.size w.heap.size w2.heap.size P0 R (.slice (some ⟨ng, 0, none⟩) gs0.length nc) gs0 vs0 := ⟨(x1.trans x2).trans x3, (h1.ext x2).ext x3, h3, ho2.ext x3, Nat.le_refl _, h1.lt, x2.size, fun k hk => (ho2.1.lt k hk).2⟩
  refine ⟨fun v w' => ∃ (i : Nat) (gs : List GNode) (vs : List Value), v = i64 i ∧ i ≤ gs0.length ∧ TF w w' w1.heap.size w.heap.size w2.heap.size P0 R (.slice (some ⟨ng, 0, none⟩) gs0.length nc) gs vs ∧ gs.length = gs0.length ∧ gs[gs0.length - 1]? = some (.ret (-1)) ∧ (∀ g ∈ gs, g.args.length ≤ 6) ∧
      (∀ (j : Nat) g, j < i → j < gs0.length - 1 → gs[j]? = some g → RightN g j R gs0.length), fun v _ => gs0.length - (RowKit.intOf v).toNat, ⟨0, gs0, vs0, rfl, Nat.zero_le _, T3, rfl, hm.last, hm.args, fun j g hj => by omega⟩, ?_⟩
  rintro _ w4 ⟨i, gs, vs, rfl, hi, T4, hgl, hlast, hargs, hdone⟩ _
  refine ldB T4.t.boxed fa_25_2 l1_23 rfl ?_
  refine V_ln_23.2 (V_lss.2 (ifD_dec (fun hlt => ?_) fun hge => ?_))
  · have hi' : i < gs0.length := by omega
    refine ⟨fun v w' => ∃ g9 g10, v = .pointer (some ⟨g9, 0, none⟩) ∧ TF w w' w1.heap.size w.heap.size w2.heap.size P0 R (.slice (some ⟨ng, 0, none⟩) gs0.length nc) gs vs ∧ Blk w' g9 [i64 0, i64 R, .slice (some ⟨g10, 0, none⟩) gs0.length gs0.length] 25 ∧
        w'.ownsRow g10 43 1 (.slice (some ⟨g10, 0, none⟩) gs0.length gs0.length) gs0.length (List.replicate gs0.length .nilIface) ∧ w2.heap.size < g9 ∧ w2.heap.size < g10 ∧ g9 ≠ g10, ?_, ?_⟩
    · have D4 : Ext w4 w4.drew := (Ext.refl _).drew
      have lt7 := T4.t.lt
      have sd := D4.size
      have T5 := T4.ext D4
      refine drawD.mk' (fun w' => Boxed w' w2.heap.size [i64 P0, i64 R, .slice (some ⟨ng, 0, none⟩) gs0.length nc]) T5.t.boxed ?_
      refine yfB (fun _ hw => hw) fa_25_1 l1_3 rfl ?_
      refine yfB (fun _ hw => hw) fa_25_2 l1_23 rfl ?_
      refine yieldS.ok (fun w' _ => r_len Tryd.underlying23) ⟨?_, ?_⟩
      · refine mkB Tryd.underlying23 inf43 rfl (n := gs0.length) (by omega) (by omega) fun w6 hb6 x6 hs6 => ?_
        have T6 := T5.ext x6
        refine ⟨T6.t.boxed, ?_⟩
        refine yBld bd_25 [(1, i64 R), (2, .slice (some ⟨w4.drew.heap.size, 0, none⟩) gs0.length gs0.length)] rfl rfl ?_
        refine alK inf25 fun w7 h7 x7 => ?_
        have T7 := T6.ext x7
        refine ⟨T7.t.boxed, ?_⟩
        refine stA inf25 h7 (l := [i64 0, i64 R, .slice (some ⟨w4.drew.heap.size, 0, none⟩) gs0.length gs0.length]) rfl rfl rfl rfl fun w8 h8 hc => ?_
        exact ⟨w6.heap.size, w4.drew.heap.size, rfl, T7.chg h7 hc (by decide) (by omega), h8, blk_own (hc.other (by omega) (hb6.ext x7)) (by simp) (by unfold maxLen; omega), by omega, by omega, by omega⟩
      · refine alK inf25 fun w7 h7 x7 => ?_
        have T7 := T5.ext x7
        refine ⟨T7.t.boxed, ?_⟩
        have l7 := h7.lt
        refine mkB Tryd.underlying23 inf43 rfl (n := gs0.length) (by omega) (by omega) fun w6 hb6 x6 hs6 => ?_
        have T6 := T7.ext x6
        refine ⟨T6.t.boxed, ?_⟩
        refine yBld bd_25 [(1, i64 R), (2, .slice (some ⟨w7.heap.size, 0, none⟩) gs0.length gs0.length)] rfl rfl ?_
        refine stA inf25 (h7.ext x6) (l := [i64 0, i64 R, .slice (some ⟨w7.heap.size, 0, none⟩) gs0.length gs0.length]) rfl rfl rfl rfl fun w8 h8 hc => ?_
        exact ⟨w4.drew.heap.size, w7.heap.size, rfl, T6.chg (h7.ext x6) hc (by decide) (by omega), h8, blk_own (hc.other (by omega) hb6) (by simp) (by unfold maxLen; omega), by omega, by omega, by omega⟩
    rintro _ w10 ⟨g9, g10, rfl, T10, k10, o10, l9, l10, hne⟩ _
    refine ⟨fun v w' => ∃ (k : Nat) (cs : List Value), v = i64 k ∧ k ≤ gs0.length ∧ TF w w' w1.heap.size w.heap.size w2.heap.size P0 R (.slice (some ⟨ng, 0, none⟩) gs0.length nc) gs vs ∧ Blk w' g9 [i64 0, i64 R, .slice (some ⟨g10, 0, none⟩) gs0.length gs0.length] 25 ∧
        w'.ownsRow g10 43 1 (.slice (some ⟨g10, 0, none⟩) gs0.length gs0.length) gs0.length cs ∧ ∀ j, j < k → cs[j]? = some tickV, fun v _ => gs0.length - (RowKit.intOf v).toNat, ⟨0, _, rfl, Nat.zero_le _, T10, k10, o10, fun j hj => by omega⟩, ?_⟩
    rintro _ w11 ⟨k, cs, rfl, hk, T11, k11, o11, htick⟩ _
    have hcl : cs.length = gs0.length := by have := o11.1; simpa using this
    refine ldB k11.boxed fa_25_2 l1_23 rfl ?_
    refine V_ln_23.2 (V_lss.2 (ifD_dec (fun hkl => ?_) fun hkg => ?_))
    · refine ldB k11.boxed fa_25_2 l1_23 rfl ?_
      refine bld bd_47 [] rfl rfl ?_
      refine mki mi_47 ?_
      refine stO xa_23 inf43 o11 (by omega) (by omega) rfl fun w12 o12 hg12 => ?_
      refine V_add.2 ?_
      rw [wrap_id (by omega) (by omega), i64_succ]
      refine ⟨⟨k + 1, cs.set k tickV, rfl, by omega, T11.own' o11 hg12 (by decide) l10, k11.grown hg12 (fun he => hne (by cases he; rfl)), by simpa [tickV] using o12, fun j hj => ?_⟩, by simp only [intOf_i64]; omega⟩
      by_cases hjk : j = k
      · subst hjk; rw [List.getElem?_set_self (by omega)]
      · rw [List.getElem?_set_ne (fun e => hjk e.symm)]; exact htick j (by omega)
    · have D11 : Ext w11 w11.drew := (Ext.refl _).drew
      obtain ⟨g, hg⟩ := ex_get (l := gs) (j := i) (by omega)
      obtain ⟨u, hu, hut⟩ := T11.own.2 i g hg
      refine drawD.mk' (fun w' => w' = w11.drew) rfl ?_
      refine yfB (fun w' hw => hw ▸ (k11.ext D11).boxed) fa_25_2 l1_23 rfl ?_
      refine yfB (fun w' hw => hw ▸ (T11.ext D11).t.boxed) fa_25_2 l1_23 rfl ?_
      have hsn := SliceIs.of_own T11.own.1
      rw [hgl] at hsn
      refine ySl xa_23 l1_43 hsn (fun w' hw => hw ▸ D11) (by omega) (by omega) (by simpa using hu) ?_
      refine yieldS.ok (fun w' _ => r_ix_23 (by omega) (by omega)) ?_
      have hii : ((i : Nat) : Int).toNat = i := by simp
      rw [hii]
      refine stY inf43 (D11.own o11) hi' hut.one fun w12 o12 hg12 => ?_
      have T12 := (T11.ext D11).own' (D11.own o11) hg12 (by decide) l10
      have k12 := (k11.ext D11).grown hg12 (fun he => hne (by cases he; rfl))
      refine ldB k12.boxed fa_25_2 l1_23 rfl ?_
      refine ldB k12.boxed fa_25_2 l1_23 rfl ?_
      refine V_ln_23.2 (V_sub.2 ?_)
      rw [wrap_id (by omega) (by omega), show ((gs0.length : Nat) : Int) - 1 = ((gs0.length - 1 : Nat) : Int) by omega]
      refine bld bd_49 [(0, i64 (-1))] rfl rfl ?_
      refine mki mi_49 ?_
      refine stO xa_23 inf43 o12 (by omega) (by omega) rfl fun w13 o13 hg13 => ?_
      have T13 := T12.own' o12 hg13 (by decide) l10
      have k13 := k12.grown hg13 (fun he => hne (by cases he; rfl))
      have o13' : w13.ownsRow g10 43 1 (.slice (some ⟨g10, 0, none⟩) gs0.length gs0.length) gs0.length ((cs.set i u).set (gs0.length - 1) retV) := by simpa [retV] using o13
      have hut13 : NodeT w13 u g := ((hut.ext D11).grown' (D11.own o11) hg12 (by decide)).grown' o12 hg13 (by decide)
      refine ldB T13.t.boxed fa_25_2 l1_23 rfl ?_
      refine V_ln_23.2 (V_sub.2 ?_)
      rw [wrap_id (by omega) (by omega), show ((gs0.length : Nat) : Int) - 1 = ((gs0.length - 1 : Nat) : Int) by omega]
      refine V_eqlI.2 (ifD_dec (fun heq => ?_) fun hneq => ?_)
      · exact tameEnd T13 hm hgl (by rw [hgl]; exact hlast) hargs fun j g hj hgj => by rw [hgl] at hj ⊢; exact hdone j g (by omega) hj hgj
      have hiN : i ≠ gs0.length - 1 := fun e => hneq (by rw [e])
      refine ldA k13.boxed la_25 rfl ?_
      have hq : ProgIs w13 (.agg #[i64 0, i64 R, .slice (some ⟨g10, 0, none⟩) gs0.length gs0.length]) ⟨0, R, tried gs0.length i g⟩ := by
        refine ⟨_, rfl, ⟨_, by rw [tried_len]; exact SliceIs.of_own o13', fun j m hj => ?_⟩, fun m hm' => ?_⟩
        · have hjN : j < gs0.length := by have := (List.getElem?_eq_some_iff.1 hj).1; simpa [tried] using this
          rcases tried_get hj with ⟨h1, rfl⟩ | ⟨h1, rfl, rfl⟩ | ⟨h1, h2, rfl⟩
          · subst h1
            exact ⟨retV, by rw [List.getElem?_set_self (by simp; omega)], (retT _).is⟩
          · exact ⟨u, by rw [List.getElem?_set_ne (fun e => h1 e.symm), List.getElem?_set_self (by omega)], hut13.is⟩
          · exact ⟨tickV, by rw [List.getElem?_set_ne (fun e => h1 e.symm), List.getElem?_set_ne (fun e => h2 e.symm)]; exact htick j (by omega), (tickT _).is⟩
        · obtain ⟨j, hj⟩ := List.getElem?_of_mem hm'
          rcases tried_get hj with ⟨_, rfl⟩ | ⟨_, rfl, rfl⟩ | ⟨_, _, rfl⟩
          · exact Nat.zero_le _
          · have := hargs _ (List.mem_of_getElem? hg); omega
          · exact Nat.zero_le _
      refine (plainProg_ok hq (by show (tried gs0.length i g).length ≤ 1000; rw [tried_len]; omega)).mono fun v w14 ⟨hv, x14⟩ => ?_
      refine (checkP_ok hv (by show (tried gs0.length i g).length ≤ 1000; rw [tried_len]; omega) fun m hm' => ?_).mono fun v w15 ⟨⟨ok, hok, hall⟩, x15⟩ => ?_
      · have h3 := us_len m
        obtain ⟨j, hj⟩ := List.getElem?_of_mem hm'
        rcases tried_get hj with ⟨_, rfl⟩ | ⟨_, rfl, rfl⟩ | ⟨_, _, rfl⟩
        · simp [GNode.args] at h3; omega
        · have := hargs _ (List.mem_of_getElem? hg); omega
        · simp [GNode.args] at h3; omega
      subst hok
      have T15 := (T13.ext x14).ext x15
      refine V_not.2 (ifD.mk (fun hn => ?_) fun hn => ?_)
      · refine ldB T15.t.boxed fa_25_2 l1_23 rfl ?_
        refine bld bd_47 [] rfl rfl ?_
        refine mki mi_47 ?_
        have ho15 := T15.own.1
        rw [hgl] at ho15
        refine stO xa_23 inf43 ho15 (by omega) (by omega) rfl fun w16 o16 hg16 => ?_
        refine V_add.2 ?_
        rw [wrap_id (by omega) (by omega), i64_succ]
        have T16 := T15.put (i := i) (g := .tick) (u := tickV) (w' := w16) (by omega) (by rw [hgl]; simpa [tickV] using o16) hg16 (tickT _)
        refine ⟨⟨i + 1, gs.set i .tick, vs.set i tickV, rfl, by omega, T16, by simpa using hgl, by rw [List.getElem?_set_ne (fun e => hiN e)]; exact hlast, fun g' hg' => ?_, fun j g' hj hjN hgj => ?_⟩, by simp only [intOf_i64]; omega⟩
        · rcases List.mem_or_eq_of_mem_set hg' with h | rfl
          · exact hargs g' h
          · exact Nat.zero_le _
        · by_cases hji : j = i
          · subst hji
            rw [List.getElem?_set_self (by omega)] at hgj
            cases hgj
            exact right_tick (by omega)
          · rw [List.getElem?_set_ne (fun e => hji e.symm)] at hgj
            exact hdone j g' (by omega) hjN hgj
      · refine V_add.2 ?_
        rw [wrap_id (by omega) (by omega), i64_succ]
        refine ⟨⟨i + 1, gs, vs, rfl, by omega, T15, hgl, hlast, hargs, fun j g' hj hjN hgj => ?_⟩, by simp only [intOf_i64]; omega⟩
        by_cases hji : j = i
        · subst hji
          rw [hg] at hgj
          cases hgj
          have := hall (by simpa using hn) j g (tried_at hi' hiN)
          rw [show (tried gs0.length j g).length = gs0.length from tried_len _ _ _] at this
          exact this
        · exact hdone j g' (by omega) hjN hgj
  · exact tameEnd T4 hm hgl (by rw [hgl]; exact hlast) hargs fun j g hj hgj => by rw [hgl] at hj ⊢; exact hdone j g (by omega) hj hgj
end Go.Proofs.YtjcmcfidblhnnaaDoor
namespace Go.Proofs.YtjcmcfidblhnnaaDoor
open Go.Vc
def Apart (l : List Bool) (of : List Int) : Prop := ∀ (r s : Nat), s < r → l[r]? = some true → l[s]? = some true → of[r]? ≠ of[s]?
set_option maxHeartbeats 1000000 in
def withL (l : List Bool) (d : Int) : List Bool := if 0 ≤ d then l.set d.toNat true else l
theorem withL_len (l : List Bool) (d : Int) : (withL l d).length = l.length := by unfold withL; split <;> simp
theorem with_ok {l : List Bool} {lv : Value} {d : Int} {w : World} (hl : BoolsAre w lv l) (hb : l.length ≤ 1000) (hd : d < l.length) :
    callD Tryd.prog 38 #[lv, i64 d] w fun r w' => w'.ownsRow w.heap.size 4 1 r l.length ((withL l d).map Value.bool) ∧ Ext w w' := by
  apply F38_wp
  unfold F38_den
  refine bsl xe_57 [] rfl rfl (by simp) rfl fun v0 w2 ho2 x2 => ?_
  refine apO xe_57 ho2 (hl.ext x2) (by simp [oneC]) (by omega) (by unfold maxLen; omega) x2.size fun ov w3 ho3 hg3 => ?_
  have x3 : Ext w w3 := x2.grown hg3 fun k hk => (ho2.lt k hk).1
  simp only [Nat.zero_add, List.nil_append] at ho3
  refine V_geq.2 (ifD_dec (fun hge => ?_) fun hlt => ?_)
  · have hge' : 0 ≤ d := hge
    refine stO xa_57 inf4 ho3 hge' hd rfl fun w5 ho5 hg => ?_
    rw [map_set_b] at ho5
    refine ⟨?_, x3.grown hg fun k hk => (ho3.lt k hk).1⟩
    unfold withL
    rw [if_pos hge']
    exact ho5
  · refine ⟨?_, x3⟩
    unfold withL
    rw [if_neg (by simpa using hlt)]
    exact ho3
end Go.Proofs.YtjcmcfidblhnnaaDoor
namespace Go.Proofs.YtjcmcfidblhnnaaDoor
open Go.Vc
def MayP (m : Mx) (sl : List Bool) (of : List Int) (r : Nat) (at' : Int) : Prop := (sl[r]? = some true → 16 ≤ at') ∧ ∀ (o : Nat) (y : Int), of[o]? = some y → m r o = true → y ≠ at'
set_option maxHeartbeats 1000000 in
theorem may_ok {R : Nat} {m : Mx} {sl : List Bool} {of : List Int} {mv slv ov ofv : Value} {r : Nat} {at' : Int} {w : World} (hR : R ≤ 40) (hm : MatIs w mv R R m) (hs : BoolsAre w slv sl) (hsl : sl.length = R) (ho : IntsAre w ofv of) (hof : of.length = R) (hr : r < R) :
    callD Tryd.prog 16 #[.agg #[mv, slv, ov], i64 r, i64 at', ofv] w fun q w' => (∃ ok : Bool, q = .bool ok ∧ (ok = true ↔ MayP m sl of r at')) ∧ Ext w w' := by
  apply F16_wp
  unfold F16_den
  obtain ⟨cs, hcs, hrow⟩ := hm.row (by omega) hR
  obtain ⟨u, hu, hub⟩ := hrow r hr
  obtain ⟨oa, oc, rfl⟩ := ho.shape
  obtain ⟨s, hss⟩ := ex_get (l := sl) (j := r) (by omega)
  refine bx fun b w1 hb1 x1 => ?_
  refine ldB hb1 fa_59_1 l1_57 rfl ?_
  refine ldx xa_57 l1_4 (hs.ext x1) (by omega) (by omega) (getB hss) ?_
  have key : ∀ {X : Prop}, ((s = true ∧ at' < 16) → (∃ ok : Bool, Value.bool false = .bool ok ∧ (ok = true ↔ MayP m sl of r at')) ∧ Ext w w1) ∧ (¬ (s = true ∧ at' < 16) → X) → True := fun _ => trivial
  have no : ∀ {w'}, Ext w w' → ¬ MayP m sl of r at' → (∃ ok : Bool, Value.bool false = .bool ok ∧ (ok = true ↔ MayP m sl of r at')) ∧ Ext w w' := fun hx hn => ⟨⟨false, rfl, fun h => (by cases h), fun h => absurd h hn⟩, hx⟩
  have rest : (s = true → 16 ≤ at') → ∃ (I1 : NP 1) (μ1 : NF 1), I1 (Value.int IntKind.i64 0) w1 ∧
      ∀ (t22 : Value), ∀ w10 : World, I1 t22 w10 → ∀ _f : Env,
      V Tryd.prog (binOp .lss 3 t22 (i64 of.length)) w10 fun t23 w11 =>
      ifD t23 (
      V Tryd.prog (Instr.indexAt 27 (.slice oa of.length oc) t22) w11 fun t25 w12 =>
      V Tryd.prog (Instr.loadAt 3 t25) w12 fun t26 w13 =>
      V Tryd.prog (Instr.fieldAt 59 (.pointer (some ⟨b, 0, none⟩)) 0) w13 fun t27 w14 =>
      V Tryd.prog (Instr.loadAt 56 t27) w14 fun t28 w15 =>
      V Tryd.prog (Instr.indexAt 56 t28 (i64 r)) w15 fun t30 w16 =>
      V Tryd.prog (Instr.loadAt 57 t30) w16 fun t31 w17 =>
      V Tryd.prog (Instr.indexAt 57 t31 t22) w17 fun t33 w18 =>
      V Tryd.prog (Instr.loadAt 4 t33) w18 fun t34 w19 =>
      gd t34 true (fun K => K t26 w19) w19 fun t36 w20 =>
      gd t34 true (fun K => K (i64 at') w20) w20 fun t37 w21 =>
      gd t34 true (fun K => V Tryd.prog (do eqGuard .eql 3 (Operand.tmp 36) (Operand.tmp 37) t36 t37; binOp .eql 3 t36 t37) w21 K) w21 fun t38 w22 =>
      pickD t34 t38 (Value.bool false) fun t39 =>
      ifD t39 (
      (∃ ok : Bool, Value.bool false = .bool ok ∧ (ok = true ↔ MayP m sl of r at')) ∧ Ext w w22) (
      V Tryd.prog (binOp .add 3 t22 (Value.int IntKind.i64 1)) w22 fun t40 w24 =>
      I1 t40 w24 ∧ μ1 t40 w24 < μ1 t22 w10)) (
      (∃ ok : Bool, Value.bool true = .bool ok ∧ (ok = true ↔ MayP m sl of r at')) ∧ Ext w w11) := by
    intro hslot
    refine ⟨fun v w' => ∃ i : Nat, v = i64 i ∧ i ≤ of.length ∧ w1 = w' ∧ ∀ (o : Nat) (y : Int), o < i → of[o]? = some y → m r o = true → y ≠ at', fun v _ => of.length - (RowKit.intOf v).toNat, ⟨0, rfl, Nat.zero_le _, rfl, fun o y h => by omega⟩, ?_⟩
    rintro _ _ ⟨i, rfl, hi, rfl, hdone⟩ _
    refine V_lss.2 (ifD_dec (fun hlt => ?_) fun hge => ?_)
    · have hi' : i < of.length := by omega
      obtain ⟨y, hy⟩ := ex_get hi'
      refine ldx xa_27 l1_3 (ho.ext x1) (by omega) (by omega) (getI hy) ?_
      refine ldB hb1 fa_59_0 l1_56 rfl ?_
      refine ldx xa_56 l1_57 (hcs.ext x1) (by omega) (by omega) (by simpa using hu) ?_
      have hub' : SliceIs w u 1 R ((rowL m r R).map Value.bool) := by have := hub; unfold BoolsAre at this; rw [rowL_len] at this; exact this
      refine ldx xa_57 l1_4 (hub'.ext x1) (by omega) (by omega) (getB (rowL_get (by omega))) ?_
      have go : (m r i = true → y ≠ at') → V Tryd.prog (binOp .add 3 (i64 i) (Value.int IntKind.i64 1)) w1 fun t40 w24 => (∃ i : Nat, t40 = i64 i ∧ i ≤ of.length ∧ w1 = w24 ∧ ∀ (o : Nat) (y : Int), o < i → of[o]? = some y → m r o = true → y ≠ at') ∧ of.length - (RowKit.intOf t40).toNat < of.length - (RowKit.intOf (i64 (i : Int))).toNat := by
        intro h
        refine V_add.2 ?_
        rw [wrap_id (by omega) (by omega), i64_succ]
        refine ⟨⟨i + 1, rfl, by omega, rfl, fun o y' ho1 ho2 => ?_⟩, by simp only [intOf_i64]; omega⟩
        by_cases hoi : o = i
        · subst hoi
          rw [hy] at ho2
          cases ho2
          exact h
        · exact hdone o y' (by omega) ho2
      cases hmi : m r i with
      | false =>
        simp only [gd_ft, pickD_iff, Bool.false_eq_true, reduceIte, ifD_false]
        exact go fun h => by rw [hmi] at h; cases h
      | true =>
        simp only [gd_t]
        refine V_eqlI.2 ?_
        simp only [pickD_iff, reduceIte]
        refine ifD_dec (fun heq => ?_) fun hne => ?_
        · exact no x1 fun h => h.2 i y hy hmi heq
        · exact go fun _ h => hne h
    · have hil : i = of.length := by omega
      refine ⟨⟨true, rfl, fun _ => ⟨fun h => hslot (by rw [hss] at h; exact Option.some.inj h), fun o y h1 h2 => hdone o y (by have := (List.getElem?_eq_some_iff.1 h1).1; omega) h1 h2⟩, fun _ => rfl⟩, x1⟩
  clear key
  cases s with
  | false =>
    simp only [gd_ft, pickD_iff, Bool.false_eq_true, reduceIte, ifD_false]
    refine V_ln_27.2 ?_
    exact rest fun h => by cases h
  | true =>
    simp only [gd_t]
    refine V_lss.2 ?_
    simp only [pickD_iff, reduceIte]
    refine ifD_dec (fun hlt => ?_) fun hge => ?_
    · exact no x1 fun h => by have := h.1 hss; omega
    · refine V_ln_27.2 ?_
      exact rest fun _ => by omega
end Go.Proofs.YtjcmcfidblhnnaaDoor
namespace Go.Proofs.YtjcmcfidblhnnaaDoor
open Go.Vc
def GNode.pureB : GNode → Bool
  | .const _ _ | .move _ _ | .bin _ _ _ _ | .un _ _ _ | .choose _ _ _ _ | .tick | .goto _ | .branch _ _ => true
  | _ => false
def GNode.leavesB : GNode → Bool
  | .getField _ _ | .putField _ _ => true
  | g => g.pureB
set_option maxHeartbeats 1000000 in
theorem pure_ok {g : GNode} {v : Value} {w : World} (h : NodeIs w v g) : callD Tryd.prog 62 #[v] w fun r w' => r = .bool g.pureB ∧ w' = w := by
  obtain ⟨sv, rfl, hs⟩ := h
  apply F62_wp
  unfold F62_den
  cases g <;> (dsimp only [GNode.val]; (repeat (first | (with_reducible refine thK (by first | exact ta_100 | exact ta_47 | exact ta_49 | exact ta_78 | exact ta_80 | exact ta_82 | exact ta_84 | exact ta_86 | exact ta_88 | exact ta_90) ?_) | (with_reducible refine tmK (by first | exact ta_100 | exact ta_47 | exact ta_49 | exact ta_78 | exact ta_80 | exact ta_82 | exact ta_84 | exact ta_86 | exact ta_88 | exact ta_90) (by decide) fun _ => ?_))); simp only [pickD_iff, ifD_true, ifD_false, Bool.false_eq_true, reduceIte]; first | exact ⟨rfl, rfl⟩ | exact ⟨trivial, rfl⟩ | exact ⟨trivial, trivial⟩ | exact ⟨rfl, trivial⟩)
set_option maxHeartbeats 1000000 in
theorem leaves_ok {g : GNode} {v : Value} {w : World} (h : NodeIs w v g) : callD Tryd.prog 39 #[v] w fun r w' => r = .bool g.leavesB ∧ w' = w := by
  have h0 := h
  obtain ⟨sv, rfl, hs⟩ := h
  apply F39_wp
  unfold F39_den
  have hp := pure_ok h0
  cases g <;> (dsimp only [GNode.val] at hp ⊢; (repeat (first | (with_reducible refine thK (by first | exact ta_100 | exact ta_47 | exact ta_49 | exact ta_78 | exact ta_80 | exact ta_82 | exact ta_84 | exact ta_86 | exact ta_88 | exact ta_90 | exact ta_92 | exact ta_94) ?_) | (with_reducible refine tmK (by first | exact ta_100 | exact ta_47 | exact ta_49 | exact ta_78 | exact ta_80 | exact ta_82 | exact ta_84 | exact ta_86 | exact ta_88 | exact ta_90 | exact ta_92 | exact ta_94) (by decide) fun _ => ?_))); simp only [pickD_iff, ifD_true, ifD_false, Bool.false_eq_true, reduceIte]; first | exact ⟨rfl, rfl⟩ | exact ⟨trivial, rfl⟩ | exact ⟨trivial, trivial⟩ | exact ⟨rfl, trivial⟩ | exact hp)
end Go.Proofs.YtjcmcfidblhnnaaDoor
