/- General laws of operations (from the other texts of this seed). Bytes; slices of slices; the heap's and the room's small functions. The heap's arrays are read, and written. What the room serves: ranges, bytes, put, copy. What the room serves: copy; Begin. Begin; Serve. Serve. What the room serves: send; Told. A heap of any arrays: read, checked. A room of any arrays: ranges, bytes, put. What the room serves, of any arrays: length, get, put, copy, same, send. What the room serves, of any arrays: same, send; arrays compared. A heap of any arrays: used, an array is made. A heap is copied. An array is made for an applet. Serves, Serve. RoomWalls, walked. RoomWalls, walked. RoomWalls, walked. -/
import Derived.Test.YtgjmpnngheohbaaLaws2
import Derived.Test.YtgjmpnngheohbaaInsts
import Derived.Test.YtgjmpnngheohbaaDens
import Derived.Deep.AppendLies
import Derived.Laws.CopyRow
import Derived.Laws.BytesArg
namespace Go.Vc
section
variable {P : Program} {w : World} {K : Value → World → Prop}
/-- A store into a whole block. -/
theorem stB {t x : TypeId} {z : Value} {by_ : Nat} (h : XA P t 1) (hx : Inf P x z 1 by_) {g n c e : Nat} {cs : List Value} (hb : Blk w g cs e) (hn : cs.length = n) {k : IntKind} {i : Int} (h0 : 0 ≤ i) (h1 : i < n) {u : Value} (hu : oneC u = true) {K' : World → Prop}
    (hk : K' (w.setCell ⟨g, i.toNat, none⟩ u)) :
    V P (Instr.indexAt t (.slice (some ⟨g, 0, none⟩) n c) (.int k i)) w fun p w1 => U P (Instr.storeAt x p u) w1 fun _ w2 => K' w2 := by
  obtain ⟨e', z', b', ht, hi⟩ := h
  refine V.ok (r_index ht hi h0 h1) ?_
  have hlt : i.toNat < cs.length := by omega
  have hc := hb.cell i.toNat
  rw [List.getElem?_eq_getElem hlt] at hc
  simp only [Nat.zero_add, Nat.mul_one]
  exact U.ok (r_store hx hu hc (hb.frozen _)) hk
theorem Boxed.other {b g j : Nat} {cs : List Value} {u : Value} (h : Boxed w b cs) (hne : b ≠ g) : Boxed (w.setCell ⟨g, j, none⟩ u) b cs := fun i v hi => by
  have := h i v hi
  rw [World.cell?_setCell_other _ _ _ _ (by intro he; cases he; exact hne rfl)]
  exact this
end
end Go.Vc
namespace Go.Vc
section
variable {P : Program} {w : World} {K : Value → World → Prop} {S : World → Prop} {L : Value → Prop}
/-- The steps under S. -/
theorem yfB {s f o ft b : Nat} {cs : List Value} {u : Value} (hb : ∀ w', S w' → Boxed w' b cs) (h : FA P s f o) (hl : L1 P ft) (hc : cs[o]? = some u) (hk : L u) :
    yieldS P S (Instr.fieldAt s (.pointer (some ⟨b, 0, none⟩)) f) fun q => yieldS P S (Instr.loadAt ft q) L := by
  obtain ⟨d, hd, ha⟩ := hl
  exact yieldS.ok (fun w' _ => h.ex w' b 0) (yieldS.ok (fun w' hw => r_load hd ha (hb w' hw o u hc)) hk)
theorem ySl {t x : TypeId} {v : Value} {n : Nat} {cs : List Value} {k : IntKind} {i : Int} {u : Value} (h : XA P t 1) (hl : L1 P x) (hs0 : SliceIs w v 1 n cs) (hx : ∀ w', S w' → Ext w w') (h0 : 0 ≤ i) (h1 : i < n) (hu : cs[i.toNat]? = some u) (hk : L u) :
    yieldS P S (Instr.indexAt t v (.int k i)) fun p => yieldS P S (Instr.loadAt x p) L := by
  obtain ⟨e, z, b', ht, hi⟩ := h
  obtain ⟨d, hd, ha⟩ := hl
  obtain ⟨b, off, cap, rfl, hc⟩ := hs0.there (by omega)
  refine yieldS.ok (fun w' _ => r_index ht hi h0 h1) (yieldS.ok (fun w' hw => r_load hd ha ((hx w' hw).cell ?_)) hk)
  simpa using hc _ _ hu
theorem yLen {t ty n : Nat} {m : Nat} {v : Value} {size : Nat} {cs : List Value} (h : XA P t n) (hs : SliceIs w v size m cs) (hk : L (i64 m)) : yieldS P S (Builtin.len_ #[t] ty #[v]) L := by
  obtain ⟨e, z, b, ht, hi⟩ := h
  obtain ⟨a, c, rfl⟩ := hs.shape
  exact yieldS.ok (fun w' _ => r_len ht) hk
end
end Go.Vc
namespace Go.Vc
theorem mkBv {P : Program} {w : World} {K : Value → World → Prop} {t e by_ : Nat} {z : Value} {x : Int} {n : Nat} (hx : x = (n : Int)) (ht : P.underlying t = some (.slice e)) (hi : Inf P e z 1 by_) (hz : z.cells = #[z]) (hb : by_ * n ≤ 281474976710656) (h63 : n ≤ 9223372036854775807)
    (hk : ∀ w', Blk w' w.heap.size (List.replicate n z) e → Ext w w' → w'.heap.size = w.heap.size + 1 → K (.slice (some ⟨w.heap.size, 0, none⟩) n n) w') : V P (Instr.makeSlice t (.int .i64 x) (.int .i64 x)) w K := by
  subst hx
  exact mkB ht hi hz hb h63 hk
end Go.Vc
namespace Go.Vc
section
variable {P : Program} {w : World} {S : World → Prop} {L : Value → Prop}
theorem yA {t n b : Nat} {cs : List Value} (hb : ∀ w', S w' → Boxed w' b cs) (ht : ∃ d z by_, P.underlying t = some d ∧ aggB d = true ∧ Inf P t z n by_) (hl : cs.length = n) (hk : L (.agg cs.toArray)) : yieldS P S (Instr.loadAt t (.pointer (some ⟨b, 0, none⟩))) L := by
  obtain ⟨d, z, by_, h1, h2, h3⟩ := ht
  exact yieldS.ok (fun w' hw => r_loadAgg h1 h2 h3 hl fun j hj => by
    obtain ⟨u, hu⟩ : ∃ u, cs[j]? = some u := ⟨_, List.getElem?_eq_getElem hj⟩
    rw [hu]; exact hb w' hw j u hu) hk
variable {K : Value → World → Prop}
theorem pickT {x y : Value} (h : L x) : pickD (.bool true) x y L := pickD_mk (by simpa using h)
theorem pickF {x y : Value} (h : L y) : pickD (.bool false) x y L := pickD_mk (by simpa using h)
/-- m[k][r], guarded by what is true. -/
theorem gRead {tm tr tb : TypeId} {v u : Value} {N n : Nat} {cs : List Value} {row : List Value} {k r : Int} {b : Value} (hm : XA P tm 1) (lm : L1 P tr) (hr : XA P tr 1) (lr : L1 P tb)
    (hs : SliceIs w v 1 N cs) (hk0 : 0 ≤ k) (hk1 : k < N) (hu : cs[k.toNat]? = some u) (hs' : SliceIs w u 1 n row) (hr0 : 0 ≤ r) (hr1 : r < n) (hb : row[r.toNat]? = some b) (hK : K b w) :
    gd (.bool true) true (fun K => K v w) w fun t1 w1 => gd (.bool true) true (fun K => V P (Instr.indexAt tm t1 (i64 k)) w1 K) w1 fun t2 w2 => gd (.bool true) true (fun K => V P (Instr.loadAt tr t2) w2 K) w2 fun t3 w3 =>
    gd (.bool true) true (fun K => V P (Instr.indexAt tr t3 (i64 r)) w3 K) w3 fun t4 w4 => gd (.bool true) true (fun K => V P (Instr.loadAt tb t4) w4 K) w4 K := by
  refine gd_t.2 (gd_t.2 ?_)
  have h2 := ldx (K := fun t3 w3 => gd (.bool true) true (fun K => V P (Instr.indexAt tr t3 (i64 r)) w3 K) w3 fun t4 w4 => gd (.bool true) true (fun K => V P (Instr.loadAt tb t4) w4 K) w4 K) hm lm hs (k := .i64) hk0 hk1 hu
    (gd_t.2 (by have := ldx (K := K) hr lr hs' (k := .i64) hr0 hr1 hb hK; obtain ⟨p, w', h1, h2⟩ := this; exact ⟨p, w', h1, gd_t.2 h2⟩))
  obtain ⟨p, w', h3, h4⟩ := h2
  exact ⟨p, w', h3, gd_t.2 h4⟩
/-- len(m[k]), so guarded. -/
theorem gRowLen {tm tr ty : TypeId} {v u : Value} {N n m : Nat} {cs : List Value} {row : List Value} {k : Int} (hm : XA P tm 1) (lm : L1 P tr) (hr : XA P tr m)
    (hs : SliceIs w v 1 N cs) (hk0 : 0 ≤ k) (hk1 : k < N) (hu : cs[k.toNat]? = some u) (hs' : SliceIs w u 1 n row) (hK : K (i64 n) w) :
    gd (.bool true) true (fun K => K v w) w fun t1 w1 => gd (.bool true) true (fun K => V P (Instr.indexAt tm t1 (i64 k)) w1 K) w1 fun t2 w2 => gd (.bool true) true (fun K => V P (Instr.loadAt tr t2) w2 K) w2 fun t3 w3 =>
    gd (.bool true) true (fun K => V P (Builtin.len_ #[tr] ty #[t3]) w3 K) w3 K := by
  refine gd_t.2 (gd_t.2 ?_)
  obtain ⟨p, w', h3, h4⟩ := ldx (K := fun t3 w3 => gd (.bool true) true (fun K => V P (Builtin.len_ #[tr] ty #[t3]) w3 K) w3 K) hm lm hs (k := .i64) hk0 hk1 hu (gd_t.2 (lnx hr hs' hK))
  exact ⟨p, w', h3, gd_t.2 h4⟩
/-- l[r], so guarded. -/
theorem gRead1 {tr tb : TypeId} {v : Value} {n : Nat} {row : List Value} {r : Int} {b : Value} (hr : XA P tr 1) (lr : L1 P tb) (hs : SliceIs w v 1 n row) (hr0 : 0 ≤ r) (hr1 : r < n) (hb : row[r.toNat]? = some b) (hK : K b w) :
    gd (.bool true) true (fun K => K v w) w fun t1 w1 => gd (.bool true) true (fun K => V P (Instr.indexAt tr t1 (i64 r)) w1 K) w1 fun t4 w4 => gd (.bool true) true (fun K => V P (Instr.loadAt tb t4) w4 K) w4 K := by
  refine gd_t.2 (gd_t.2 ?_)
  obtain ⟨p, w', h3, h4⟩ := ldx (K := K) hr lr hs (k := .i64) hr0 hr1 hb hK
  exact ⟨p, w', h3, gd_t.2 h4⟩
theorem gLen {tr ty m : TypeId} {v : Value} {n : Nat} {row : List Value} (hr : XA P tr m) (hs : SliceIs w v 1 n row) (hK : K (i64 n) w) :
    gd (.bool true) true (fun K => K v w) w fun t1 w1 => gd (.bool true) true (fun K => V P (Builtin.len_ #[tr] ty #[t1]) w1 K) w1 K := gd_t.2 (gd_t.2 (lnx hr hs hK))
end
end Go.Vc
namespace Go.Vc
open Go.Proofs
section
variable {P : Program} {w : World} {K : Value → World → Prop}
/-- A new block. -/
theorem alK {t : TypeId} {z : Value} {n by_ : Nat} (hi : Inf P t z n by_) (hk : ∀ w1, Blk w1 w.heap.size z.cells.toList t → Ext w w1 → K (.pointer (some ⟨w.heap.size, 0, none⟩)) w1) : V P (Instr.alloc t true (.tuple #[])) w K :=
  V.ok (r_alloc hi) (hk _ (by unfold Blk; rw [heap_alloc_new]) ((Ext.refl w).alloc _))
theorem bxK {t : TypeId} {v : Value} (hk : ∀ w1, Blk w1 w.heap.size v.cells.toList t → Ext w w1 → K (.pointer (some ⟨w.heap.size, 0, none⟩)) w1) : V P (Instr.box t v) w K :=
  V.ok r_box (hk _ (by unfold Blk; rw [heap_alloc_new]) ((Ext.refl w).alloc _))
theorem asK {t n : TypeId} {v : Value} {K' : Value → World → Prop} (h : SA P t n) (hn : v.cells.size = n) (h1 : v.cells.toList.all oneC = true) (hk : ∀ w1, Blk w1 w.heap.size v.cells.toList t → Ext w w1 → K' (.pointer (some ⟨w.heap.size, 0, none⟩)) w1) :
    V P (Instr.alloc t true (.tuple #[])) w (fun p w1 => U P (Instr.storeAt t p v) w1 fun _ w2 => K' p w2) :=
  as_ h hn h1 (hk _ (by unfold Blk; rw [heap_alloc_new]) ((Ext.refl w).alloc _))
/-- An append onto what the call owns, of elements of any size. -/
theorem apA {t e by_ ty sz : Nat} {z : Value} (ht : P.underlying t = some (.slice e)) (hi : Inf P e z sz by_) (hz : (z.cells.size == sz) = true) (hsz : 0 < sz) {B : Nat} {v : Value} {n : Nat} {xs : List Value} (ho : w.ownsRow B e sz v n xs) {x : Value} {m : Nat} {news : List Value} (hs : SliceIs w x sz m news) (h1 : news.all oneC = true)
    (hb : (n + m) * by_ ≤ 140737488355328) (h63 : n + m ≤ maxLen) (hB : B ≤ w.heap.size) (hk : ∀ v' w', w'.ownsRow B e sz v' (n + m) (xs ++ news) → w.grownBy w' v.ownBlock → K v' w') :
    V P (Builtin.append_ #[t, t] ty #[v, x]) w K := by
  obtain ⟨i, hi', hz', hn, hby⟩ := info_parts hi
  rcases hs.2 with ⟨rfl, rfl⟩ | ⟨b, off, cap, rfl, _, _, hc⟩
  · have hnews : news = [] := by have := hs.1; simpa using this
    subst hnews
    refine V.ok (run_append_owned_none w B t ty e i sz ht hi' v n xs ho) (hk _ _ (by simpa using ho) ⟨rfl, rfl, rfl, Nat.le_refl _, fun _ _ _ => rfl⟩)
  · obtain ⟨v', w', hr, h2, h3, _⟩ := run_append_own (P := P) w B t ty e i z sz by_ ht hi' hz' hn hby (by simpa using hz) hsz v n xs ho ⟨b, off, none⟩ m cap news hs.1
      (fun j u hj => by rw [add_mk]; exact hc j u hj) (fun u hu => by rw [oneC_eq]; exact List.all_eq_true.1 h1 u hu) h63 hb hB
    exact V.ok hr (hk _ _ h2 h3)
theorem Blk.boxed {g : Nat} {cs : List Value} {e : TypeId} (h : Blk w g cs e) : Boxed w g cs := fun j u hj => by rw [Nat.zero_add, h.cell]; exact hj
/-- Only block g has changed. -/
structure Chg (w : World) (g : Nat) (w' : World) : Prop where
  ext : ∀ a, Ext a w → a.heap.size ≤ g → Ext a w'
  same : ∀ i, i ≠ g → w'.heap[i]? = w.heap[i]?
  size : w'.heap.size = w.heap.size
  grown : w.grownBy w' (some g)
theorem Chg.other {w w' : World} {g g' : Nat} {cs : List Value} {e : TypeId} (h : Chg w g w') (hne : g' ≠ g) (hb : Blk w g' cs e) : Blk w' g' cs e := by
  unfold Blk at hb ⊢
  rw [h.same g' hne]; exact hb
theorem Chg.cell {w w' : World} {g b o : Nat} (h : Chg w g w') (hne : b ≠ g) : w'.cell? ⟨b, o, none⟩ = w.cell? ⟨b, o, none⟩ := by
  unfold World.cell?
  rw [h.same b hne]
theorem Chg.ownRow {w w' : World} {g B e sz n : Nat} {v : Value} {xs : List Value} (h : Chg w g w') (ho : w.ownsRow B e sz v n xs) (hB : g < B) : w'.ownsRow B e sz v n xs :=
  ho.kept h.grown (own_ne ho fun k hk => by cases hk; exact hB)
/-- What the call owns behind g. -/
theorem Chg.own {w w' : World} {g B e n : Nat} {v : Value} {xs : List Value} (h : Chg w g w') (ho : w.ownsRow B e 1 v n xs) (hB : g < B) : SliceIs w' v 1 n xs := by
  obtain ⟨h1, h2⟩ := SliceIs.of_own ho
  refine ⟨h1, ?_⟩
  rcases h2 with h2 | ⟨b, off, cap, rfl, h3, h4, h5⟩
  · exact .inl h2
  · refine .inr ⟨b, off, cap, rfl, h3, h4, fun j u hj => ?_⟩
    rw [h.cell]
    · exact h5 j u hj
    · have := (ho.lt b rfl).1
      omega
theorem run_storeB {g : Nat} {e : TypeId} : ∀ (l done old : List Value) (w : World), l.length = old.length → (∀ u ∈ l, oneC u = true) → Blk w g (done ++ old) e →
    ∃ w', (storeCells ⟨g, 0, none⟩ l done.length).run P w = .ok () w' ∧ Blk w' g (done ++ l) e ∧ Chg w g w'
  | [], done, [], w, _, _, hb => ⟨w, by simp [storeCells], hb, ⟨fun _ h _ => h, fun _ _ => rfl, rfl, ⟨rfl, rfl, rfl, Nat.le_refl _, fun _ _ _ => rfl⟩⟩⟩
  | v :: l, done, u :: old, w, hl, h1, hb => by
    have hc := hb.cell done.length
    simp only [List.getElem?_append_right (Nat.le_refl _), Nat.sub_self, List.getElem?_cons_zero] at hc
    have hs := run_store1 (P := P) (h1 v (by simp)) hc (hb.frozen done.length)
    have hb1 : Blk (w.setCell ⟨g, done.length, none⟩ v) g ((done ++ [v]) ++ old) e := by
      have := hb.set done.length v
      rw [List.set_append_right _ _ (Nat.le_refl _)] at this
      simpa using this
    obtain ⟨w', h2, h3, h4⟩ := run_storeB l (done ++ [v]) old _ (by simpa using hl) (fun u hu => h1 u (by simp [hu])) hb1
    refine ⟨w', ?_, by simpa using h3, ⟨fun a ha hg => h4.ext a (ha.setCell hg v) hg, fun i hi => (h4.same i hi).trans (heap_setCell_other _ _ _ _ (fun he => hi he)), h4.size.trans (by simp), ⟨h4.grown.os, h4.grown.tape, h4.grown.output, by have := h4.grown.size; simpa using this, fun k hk hne => (h4.grown.block k (by simpa using hk) hne).trans (heap_setCell_other _ _ _ _ (fun he => hne (by simp [he])))⟩⟩⟩
    simp only [storeCells, add_mk, Nat.zero_add, Sem.run_bind]
    rw [hs, Result.andThen_ok]
    simpa using h2
theorem stA {t : TypeId} {z v : Value} {n by_ g : Nat} {old l : List Value} {e : TypeId} {K' : Value → World → Prop} (hi : Inf P t z n by_) (hb : Blk w g old e) (hv : v.cells = l.toArray) (hl : l.length = n) (ho : old.length = n) (h1 : l.all oneC = true)
    (hk : ∀ w', Blk w' g l e → Chg w g w' → K' undef w') : U P (Instr.storeAt t (.pointer (some ⟨g, 0, none⟩)) v) w K' := by
  obtain ⟨w', h2, h3, h4⟩ := run_storeB (P := P) l [] old w (by omega) (fun u hu => List.all_eq_true.1 h1 u hu) hb
  refine U.ok ?_ (hk w' (by simpa using h3) h4)
  simp only [List.length_nil] at h2
  simp [Instr.storeAt, Instr.sureAddr, storeVar, run_size hi, hv, hl, h2]
/-- What a block holds, as one value. -/
theorem r_var {t : TypeId} {d : TypeDesc} {z : Value} {n by_ g : Nat} {l : List Value} {e : TypeId} (ht : P.underlying t = some d) (hd : aggB d = true) (hi : Inf P t z n by_) (hb : Blk w g l e) (hl : l.length = n) :
    (loadVar t ⟨g, 0, none⟩).run P w = .ok (.agg l.toArray) w := by
  have := r_loadAgg (P := P) (w := w) (b := g) (off := 0) ht hd hi hl fun j hj => by
    obtain ⟨u, hu⟩ : ∃ u, l[j]? = some u := ⟨_, List.getElem?_eq_getElem hj⟩
    rw [hu, Nat.zero_add, hb.cell]; exact hu
  simpa [Instr.loadAt, Instr.sureAddr] using this
end
end Go.Vc
namespace Go.Vc
section
variable {P : Program} {w : World} {K : Value → World → Prop} {S : World → Prop} {L : Value → Prop}
theorem SliceIs.cellAt {v : Value} {sz n : Nat} {cs : List Value} (h : SliceIs w v sz n cs) (hn : 0 < n) : ∃ b off cap, v = .slice (some ⟨b, off, none⟩) n cap ∧ ∀ j u, cs[j]? = some u → w.cell? ⟨b, off + j, none⟩ = some u := h.there hn
/-- l[i], of structs. -/
theorem ldxA {t x : TypeId} {v : Value} {n sz : Nat} {cs l : List Value} {k : IntKind} {i : Int} (h : XA P t sz) (ht : ∃ d z by_, P.underlying x = some d ∧ aggB d = true ∧ Inf P x z sz by_) (hs : SliceIs w v sz n cs) (h0 : 0 ≤ i) (h1 : i < n)
    (hc : (cs.drop (i.toNat * sz)).take sz = l) (hl : l.length = sz) (hk : K (.agg l.toArray) w) :
    V P (Instr.indexAt t v (.int k i)) w fun p w1 => V P (Instr.loadAt x p) w1 K := by
  obtain ⟨e, z, b', hte, hi⟩ := h
  obtain ⟨d, z', by_, h2, h3, h4⟩ := ht
  obtain ⟨b, off, cap, rfl, hcell⟩ := hs.there (by omega)
  refine V.ok (r_index hte hi h0 h1) (V.ok (r_loadAgg h2 h3 h4 hl fun j hj => ?_) hk)
  obtain ⟨u, hu⟩ : ∃ u, l[j]? = some u := ⟨_, List.getElem?_eq_getElem hj⟩
  rw [hu, Nat.add_assoc]
  refine hcell _ u ?_
  rw [← hc, List.getElem?_take, List.getElem?_drop] at hu
  split at hu
  · exact hu
  · cases hu
theorem yLss {t : TypeId} {a b : Int} (hk : L (.bool (decide (a < b)))) : yieldS P S (binOp .lss t (.int .i64 a) (.int .i64 b)) L := yieldS.ok (fun w _ => r_lss) hk
theorem yGeq {t : TypeId} {a b : Int} (hk : L (.bool (decide (a ≥ b)))) : yieldS P S (binOp .geq t (.int .i64 a) (.int .i64 b)) L := yieldS.ok (fun w _ => r_geq) hk
end
end Go.Vc
namespace Go.Vc
open Go.Proofs
section
variable {P : Program} {w : World} {K : Value → World → Prop} {S : World → Prop} {L : Value → Prop}
theorem yBld {t : TypeId} {zs : List Value} (h : BD P t zs) {parts : Array (Nat × Value)} (l : List (Nat × Value)) (hp : parts = l.toArray) (h1 : (l.all fun x => decide (x.1 < zs.length) && oneC x.2) = true)
    (hk : L (.agg (l.foldl (fun cs x => cs.set x.1 x.2) zs).toArray)) : yieldS P S (Instr.build t parts) L := by
  subst hp
  obtain ⟨fs, b, hu, hi, hm⟩ := h
  refine yieldS.ok (fun w _ => ?_) hk
  simp only [Instr.build, Sem.run_bind, run_zero hi, Result.andThen_ok, run_underlying hu, hm, Value.cells]
  rw [fillB l zs rfl h1]
  simp
theorem yMki {t : TypeId} (h : MI P t) {v : Value} (hk : L (.iface t v)) : yieldS P S (Instr.makeInterface t v) L := by
  obtain ⟨d, hu, hd⟩ := h
  refine yieldS.ok (fun w _ => ?_) hk
  cases d <;> first | (simp [Instr.makeInterface, run_underlying hu]; done) | cases hd
theorem r_max2 {t : TypeId} {ts : Array TypeId} {a b : Int} : (Builtin.max_ ts t #[.int .i64 a, .int .i64 b]).run P w = .ok (.int .i64 (if a < b then b else a)) w ∨ (Builtin.max_ ts t #[.int .i64 a, .int .i64 b]).run P w = .ok (.int .i64 (if b < a then a else b)) w := by
  simp [Builtin.max_, Builtin.max2]
theorem mx2 {t : TypeId} {ts : Array TypeId} {a b : Int} (hk : ∀ c, (c = a ∨ c = b) → a ≤ c → b ≤ c → K (.int .i64 c) w) : V P (Builtin.max_ ts t #[.int .i64 a, .int .i64 b]) w K := by
  rcases r_max2 (P := P) (w := w) (t := t) (ts := ts) (a := a) (b := b) with h | h
  · exact V.ok h (hk _ (by split <;> simp) (by split <;> omega) (by split <;> omega))
  · exact V.ok h (hk _ (by split <;> simp) (by split <;> omega) (by split <;> omega))
theorem r_min2 {t : TypeId} {ts : Array TypeId} {a b : Int} : (Builtin.min_ ts t #[.int .i64 a, .int .i64 b]).run P w = .ok (.int .i64 (if a < b then a else b)) w ∨ (Builtin.min_ ts t #[.int .i64 a, .int .i64 b]).run P w = .ok (.int .i64 (if b < a then b else a)) w := by
  simp [Builtin.min_, Builtin.min2]
theorem mn2 {t : TypeId} {ts : Array TypeId} {a b : Int} (hk : ∀ c, (c = a ∨ c = b) → c ≤ a → c ≤ b → K (.int .i64 c) w) : V P (Builtin.min_ ts t #[.int .i64 a, .int .i64 b]) w K := by
  rcases r_min2 (P := P) (w := w) (t := t) (ts := ts) (a := a) (b := b) with h | h
  · exact V.ok h (hk _ (by split <;> simp) (by split <;> omega) (by split <;> omega))
  · exact V.ok h (hk _ (by split <;> simp) (by split <;> omega) (by split <;> omega))
theorem rm {t : TypeId} {a b : Int} (hb : 0 < b) (hk : ∀ c, c = a.tmod b → -b < c → c < b → K (.int .i64 c) w) : V P (binOp .rem t (.int .i64 a) (.int .i64 b)) w K := by
  have hne : b ≠ 0 := by omega
  have hr : (binOp .rem t (.int .i64 a) (.int .i64 b)).run P w = .ok (.int .i64 (a.tmod b)) w := by simp [binOp, Op.intDiv, hne]
  exact V.ok hr (hk _ rfl (by have := Int.lt_tmod_of_pos a hb; simpa using this) (Int.tmod_lt_of_pos a hb))
/-- a[i], of an array of whole numbers that lies at an address. -/
theorem r_arr {t e n : TypeId} {z : Value} {by_ : Nat} (ht : P.underlying t = some (.array n e)) (hi : Inf P e z 1 by_) {b off : Nat} {i : Int} (h0 : 0 ≤ i) (h1 : i < n) :
    (Instr.indexAt t (.pointer (some ⟨b, off, none⟩)) (.int .i64 i)).run P w = .ok (.pointer (some ⟨b, off + i.toNat, none⟩)) w := by
  simp [Instr.indexAt, asIntOf, run_underlying ht, Instr.sureAddr, run_size hi, h0, h1, add_mk]
theorem r_idx {t e n : TypeId} {z : Value} {by_ : Nat} (ht : P.underlying t = some (.array n e)) (hi : Inf P e z 1 by_) (hd : ∃ k, P.underlying e = some (.int k)) {cs : Array Value} {i : Int} {u : Value} (h0 : 0 ≤ i) (h1 : i < n) (hu : cs[i.toNat]? = some u) (h1c : oneC u = true) :
    (Instr.index t (.agg cs) (.int .i64 i)).run P w = .ok u w := by
  obtain ⟨k, hd⟩ := hd
  simp [Instr.index, asIntOf, run_underlying ht, run_size hi, h0, h1, part, run_isAgg hd, aggB, hu]
/-- l[:k] -/
theorem r_hi {t e : TypeId} {z : Value} {by_ : Nat} (ht : P.underlying t = some (.slice e)) (hi : Inf P e z 1 by_) {a : Option Addr} {n c k : Nat} (hk : k ≤ c) :
    (Instr.sliceAt t (.slice a n c) none (some (.int .i64 (k : Int))) none).run P w = .ok (.slice (if c = 0 then a else a.map (·.add 0)) k c) w := by
  have h0 : (0 : Int) ≤ k ∧ (k : Int) ≤ c := ⟨by omega, by omega⟩
  simp [Instr.sliceAt, Instr.slice, run_underlying ht, run_size hi, Instr.sliceBounds, Instr.sliceBound, asIntOf, h0]
  intro h
  omega
theorem take_ints {v : Value} {xs : List Int} {t e : TypeId} {z : Value} {by_ k : Nat} (ht : P.underlying t = some (.slice e)) (hi : Inf P e z 1 by_) (h : SliceIs w v 1 xs.length (xs.map i64)) (hk : k ≤ xs.length) :
    ∃ v', (Instr.sliceAt t v none (some (.int .i64 (k : Int))) none).run P w = .ok v' w ∧ SliceIs w v' 1 (xs.take k).length ((xs.take k).map i64) ∧ ∀ b off n c, v' = .slice (some ⟨b, off, none⟩) n c → ∃ off' n' c', v = .slice (some ⟨b, off', none⟩) n' c' := by
  have hlen : (xs.take k).length = k := by simp; omega
  rcases h.2 with ⟨rfl, h0⟩ | ⟨b, off, cap, rfl, h1, h2, h3⟩
  · obtain rfl : k = 0 := by omega
    refine ⟨_, r_hi ht hi (Nat.le_refl _), ?_, fun b off n c h => by simp at h⟩
    simp
    exact SliceIs.nil w 1
  · refine ⟨_, r_hi ht hi (by omega), ?_, fun b' off' n' c' h => ⟨off, xs.length, cap, by
      have e : (if cap = 0 then some (⟨b, off, none⟩ : Addr) else (some (⟨b, off, none⟩ : Addr)).map (·.add 0)) = some ⟨b, off, none⟩ := by split <;> simp [add_mk]
      rw [e] at h
      cases h
      rfl⟩⟩
    rw [hlen]
    refine ⟨by simp; omega, .inr ⟨b, off, cap, ?_, by omega, h2, fun j u hj => ?_⟩⟩
    · split <;> simp [add_mk]
    · refine h3 j u ?_
      rw [List.getElem?_map] at hj ⊢
      rw [List.getElem?_take] at hj
      split at hj
      · exact hj
      · cases hj
end
end Go.Vc
namespace Go.Vc
section
variable {P : Program} {w : World}
theorem thK {u x : TypeId} {v : Value} {K : Value → Value → World → Prop} (h : TA P u) (hK : K (.bool true) v w) :
    V P (Instr.typeAssert (.iface u v) x u true) w fun t1 w1 => V P (Instr.extract t1 1) w1 fun t2 w2 => V P (Instr.extract t1 0) w2 fun t3 w3 => K t2 t3 w3 := by
  obtain ⟨z, hz, _⟩ := h
  refine V.ok (hz w x u v) ?_
  rw [if_pos rfl]
  exact V.ok r_ext1 (V.ok r_ext0 hK)
theorem tmK {u t x : TypeId} {v : Value} {K : Value → Value → World → Prop} (h : TA P u) (hne : t ≠ u) (hK : ∀ z, K (.bool false) z w) :
    V P (Instr.typeAssert (.iface t v) x u true) w fun t1 w1 => V P (Instr.extract t1 1) w1 fun t2 w2 => V P (Instr.extract t1 0) w2 fun t3 w3 => K t2 t3 w3 := by
  obtain ⟨z, hz, _⟩ := h
  refine V.ok (hz w x t v) ?_
  rw [if_neg hne]
  exact V.ok r_ext1 (V.ok r_ext0 (hK _))
end
end Go.Vc
namespace Go.Vc
/-- All but some blocks stay. -/
structure Fr (S : Nat → Prop) (w w' : World) : Prop where
  os : w'.os = w.os
  tape : w'.tape = w.tape
  output : w'.output = w.output
  size : w.heap.size ≤ w'.heap.size
  block : ∀ i, i < w.heap.size → ¬ S i → w'.heap[i]? = w.heap[i]?
theorem Fr.refl (S : Nat → Prop) (w : World) : Fr S w w := ⟨rfl, rfl, rfl, Nat.le_refl _, fun _ _ _ => rfl⟩
theorem Fr.trans {S T : Nat → Prop} {a b c : World} (h : Fr S a b) (k : Fr T b c) (hT : ∀ i, i < a.heap.size → T i → S i) : Fr S a c :=
  ⟨k.os.trans h.os, k.tape.trans h.tape, k.output.trans h.output, Nat.le_trans h.size k.size, fun i hi hn => (k.block i (Nat.lt_of_lt_of_le hi h.size) fun ht => hn (hT i hi ht)).trans (h.block i hi hn)⟩
theorem Fr.or {S T : Nat → Prop} {a b c : World} (h : Fr S a b) (k : Fr T b c) : Fr (fun i => S i ∨ T i) a c :=
  ⟨k.os.trans h.os, k.tape.trans h.tape, k.output.trans h.output, Nat.le_trans h.size k.size, fun i hi hn => (k.block i (Nat.lt_of_lt_of_le hi h.size) fun ht => hn (.inr ht)).trans (h.block i hi fun hs => hn (.inl hs))⟩
theorem Fr.mono {S T : Nat → Prop} {a b : World} (h : Fr S a b) (hT : ∀ i, S i → T i) : Fr T a b := ⟨h.os, h.tape, h.output, h.size, fun i hi hn => h.block i hi fun hs => hn (hT i hs)⟩
theorem Fr.of_ext {S : Nat → Prop} {w w' : World} (h : Ext w w') : Fr S w w' := ⟨h.os, h.tape, h.output, h.size, fun i hi _ => h.block i hi (by simp)⟩
theorem Fr.of_grown {S : Nat → Prop} {w w' : World} {row : Option Nat} (h : w.grownBy w' row) (hr : ∀ k, row = some k → S k) : Fr S w w' := ⟨h.os, h.tape, h.output, h.size, fun i hi hn => h.block i hi fun he => hn (hr i he.symm)⟩
theorem Fr.of_set {S : Nat → Prop} {w : World} {b o : Nat} {v : Value} (hb : S b) : Fr S w (w.setCell ⟨b, o, none⟩ v) := ⟨rfl, rfl, rfl, by simp, fun i _ hn => heap_setCell_other _ _ _ _ (fun he => hn (by simp [he]; exact hb))⟩
theorem Fr.set {S : Nat → Prop} {w w' : World} (h : Fr S w w') {b o : Nat} {v : Value} (hb : S b) : Fr S w (w'.setCell ⟨b, o, none⟩ v) := h.trans (Fr.of_set (S := S) hb) fun _ _ h => h
theorem Fr.ext {S : Nat → Prop} {w0 w w' : World} (h : Fr S w w') (hx : Ext w0 w) (hS : ∀ i, S i → w0.heap.size ≤ i) : Ext w0 w' :=
  ⟨h.os.trans hx.os, h.tape.trans hx.tape, h.output.trans hx.output, Nat.le_trans hx.size h.size, fun i hi hn => (h.block i (Nat.lt_of_lt_of_le hi hx.size) fun hs => by have := hS i hs; omega).trans (hx.block i hi hn)⟩
theorem Fr.blk {S : Nat → Prop} {w w' : World} {g : Nat} {cs : List Value} {e : TypeId} (h : Fr S w w') (hb : Blk w g cs e) (hn : ¬ S g) : Blk w' g cs e := by
  unfold Blk
  rw [h.block g hb.lt hn]; exact hb
theorem Fr.own {S : Nat → Prop} {w w' : World} {B e sz n : Nat} {v : Value} {xs : List Value} (h : Fr S w w') (ho : w.ownsRow B e sz v n xs) (hn : ∀ k, v.ownBlock = some k → ¬ S k) : w'.ownsRow B e sz v n xs := by
  refine ⟨ho.1, ?_⟩
  rcases ho.2 with h1 | ⟨g, cap, cur, rfl, hb, hg, rest⟩
  · exact .inl h1
  · refine .inr ⟨g, cap, cur, rfl, hb, ?_, rest⟩
    rw [h.block g (Array.getElem?_eq_some_iff.1 hg).1 (hn g rfl)]
    exact hg
/-- An append onto what the call owns, and where it lies. -/
theorem apL {P : Program} {w : World} {K : Value → World → Prop} {t e by_ ty : Nat} (h : XE P t e by_) {B B' : Nat} {v : Value} {n : Nat} {xs : List Value} (ho : w.ownsRow B e 1 v n xs) {x : Value} {m : Nat} {news : List Value} (hs : w.ownsRow B' e 1 x m news) (hm : 0 < m) (h1 : news.all oneC = true)
    (hb : (n + m) * by_ ≤ 140737488355328) (h63 : n + m ≤ maxLen) (hB : B ≤ w.heap.size)
    (hk : ∀ g cap w', w'.ownsRow B e 1 (.slice (some ⟨g, 0, none⟩) (n + m) cap) (n + m) (xs ++ news) → w.grownBy w' v.ownBlock → (v.ownBlock = some g ∨ g = w.heap.size) → K (.slice (some ⟨g, 0, none⟩) (n + m) cap) w') :
    V P (Builtin.append_ #[t, t] ty #[v, x]) w K := by
  obtain ⟨z, ht, hi, hz⟩ := h
  obtain ⟨i, hi', hz', hn, hby⟩ := info_parts hi
  have hs0 := hs
  rcases hs.2 with ⟨_, h0⟩ | ⟨b, cap, cur, rfl, _⟩
  · omega
  · obtain ⟨g, cap, w', hr, h2, h3, h4, h5⟩ := run_append_lies (P := P) (w := w) t ty B e i z 1 by_ ht hi' hz' hn hby (by simpa using hz) (by omega) v n xs ho ⟨b, 0, none⟩ m cap news (by have := hs.1; simpa using this) (hs0.cells rfl) (fun u hu => by rw [oneC_eq]; exact List.all_eq_true.1 h1 u hu) hm h63 hb hB _ rfl
    exact V.ok hr (hk g cap w' h2 h3 h4)
end Go.Vc
namespace Go.Vc
theorem fnK {P : Program} {w : World} {K : Value → World → Prop} {f : Fn} {a c : Array Value} (h : K (.func f a c) w) : V P (Instr.makeFunc f a c) w K := V.ok (by simp [Instr.makeFunc]) h
/-- A whole block of one cell is read. -/
theorem ldV {P : Program} {w : World} {K : Value → World → Prop} {t b : Nat} {v : Value} {e : TypeId} (hl : L1 P t) (hb : Blk w b [v] e) (hk : K v w) : V P (Instr.loadAt t (.pointer (some ⟨b, 0, none⟩))) w K := by
  obtain ⟨d, hd, ha⟩ := hl
  exact V.ok (r_load hd ha (by rw [hb.cell]; rfl)) hk
/-- A field of a block is stored. -/
theorem stF {P : Program} {w : World} {K : World → Prop} {s f o ft b n by_ : Nat} {z u : Value} {cs : List Value} {e : TypeId} (hf : FA P s f o) (hi : Inf P ft z 1 by_) (hb : Blk w b cs e) (hn : cs.length = n) (ho : o < n) (hu : oneC u = true) (hk : K (w.setCell ⟨b, o, none⟩ u)) :
    V P (Instr.fieldAt s (.pointer (some ⟨b, 0, none⟩)) f) w fun q w1 => U P (Instr.storeAt ft q u) w1 fun _ w2 => K w2 := by
  refine V.ok (hf.ex w b 0) ?_
  have hc := hb.cell o
  rw [List.getElem?_eq_getElem (by omega)] at hc
  rw [Nat.zero_add]
  exact U.ok (r_store hi hu hc (hb.frozen _)) hk
end Go.Vc
namespace Go.Vc
/-- A store into a whole block, at an address that is known. -/
theorem stBY {P : Program} {w : World} {x : TypeId} {z : Value} {by_ : Nat} (hx : Inf P x z 1 by_) {g e i : Nat} {cs : List Value} (hb : Blk w g cs e) (h1 : i < cs.length) {u : Value} (hu : oneC u = true) {K' : World → Prop}
    (hk : K' (w.setCell ⟨g, i, none⟩ u)) : U P (Instr.storeAt x (.pointer (some ⟨g, 0 + i * 1, none⟩)) u) w fun _ w2 => K' w2 := by
  have hc := hb.cell i
  rw [List.getElem?_eq_getElem h1] at hc
  simp only [Nat.zero_add, Nat.mul_one]
  exact U.ok (r_store hx hu hc (hb.frozen _)) hk
theorem dynD.mono {P : Program} {w : World} {f : Value} {args : Array Value} {R K : Value → World → Prop} (h : dynD P f args w R) (hk : ∀ v w', R v w' → K v w') : dynD P f args w K := by
  obtain ⟨g, cap, h1, h2⟩ := h
  exact ⟨g, cap, h1, h2.mono hk⟩
end Go.Vc
namespace Go.Vc
/-- A cell of a block is stored, at an address that is known. -/
theorem stFU {P : Program} {w : World} {K : World → Prop} {ft b o n by_ : Nat} {z u : Value} {cs : List Value} {e : TypeId} (hi : Inf P ft z 1 by_) (hb : Blk w b cs e) (hn : cs.length = n) (ho : o < n) (hu : oneC u = true) (hk : K (w.setCell ⟨b, o, none⟩ u)) :
    U P (Instr.storeAt ft (.pointer (some ⟨b, 0 + o, none⟩)) u) w fun _ w2 => K w2 := by
  have hc := hb.cell o
  rw [List.getElem?_eq_getElem (by omega)] at hc
  rw [Nat.zero_add]
  exact U.ok (r_store hi hu hc (hb.frozen _)) hk
end Go.Vc
namespace Go.Vc
section
variable {P : Program} {w : World}
/-- A store into a row that the call owns, at an address that is known. -/
theorem stY {x : TypeId} {z : Value} {by_ : Nat} (hx : Inf P x z 1 by_) {B e n g c : Nat} {xs : List Value} (ho : w.ownsRow B e 1 (.slice (some ⟨g, 0, none⟩) n c) n xs) {i : Nat} (h1 : i < n) {u : Value} (hu : oneC u = true) {K' : World → Prop}
    (hk : ∀ w', w'.ownsRow B e 1 (.slice (some ⟨g, 0, none⟩) n c) n (xs.set i u) → w.grownBy w' (some g) → K' w') :
    U P (Instr.storeAt x (.pointer (some ⟨g, 0 + i * 1, none⟩)) u) w fun _ w2 => K' w2 := by
  obtain ⟨s1, s2⟩ := ho.stored i u
  have hc := ho.cellAt i (by omega)
  have hlt : i < xs.length := by have := ho.1; omega
  rw [List.getElem?_eq_getElem hlt] at hc
  simp only [Nat.zero_add, Nat.mul_one]
  exact U.ok (r_store hx hu hc (ho.frozenAt _)) (hk _ s1 s2)
end
end Go.Vc
namespace Go.Vc
theorem V.mono {P : Program} {s : Sem Value} {w : World} {K K' : Value → World → Prop} (h : V P s w K) (hk : ∀ v w', K v w' → K' v w') : V P s w K' := by
  obtain ⟨v, w', h1, h2⟩ := h
  exact ⟨v, w', h1, hk v w' h2⟩
end Go.Vc
namespace Go.Vc
/-- copy, into a whole block. -/
theorem cpB {P : Program} {w : World} {K : Value → World → Prop} {t e by_ ty : Nat} (h : XE P t e by_) {g R c : Nat} {xs cs : List Value} {te : TypeId} {a : Option Addr} {n c' : Nat} (hb : Blk w g xs te) (hx : xs.length = R) (hcl : cs.length = n) (hs : 0 < n → SliceIs w (.slice a n c') 1 n cs) (h1 : cs.all oneC = true)
    (hk : ∀ v w', Blk w' g (cs.take (min n R) ++ xs.drop (min n R)) te → Fr (fun i => i = g) w w' → K v w') :
    V P (Builtin.copy_ #[t, t] ty #[.slice (some ⟨g, 0, none⟩) R c, .slice a n c']) w K := by
  obtain ⟨z, ht, hi, hz⟩ := h
  obtain ⟨i, hi', hz', hn, hby⟩ := info_parts hi
  have hsz : (P.info? e).map (·.size) = some 1 := by rw [hi']; simp [hn]
  by_cases h0 : min n R = 0
  · refine V.ok (run_copy_none (P := P) w t t ty e _ a R c n c' ht hsz h0) (hk _ _ ?_ (Fr.refl _ _))
    rw [h0]
    simpa using hb
  · have hlt : 0 < n := by omega
    rcases (hs hlt).2 with ⟨h2, _⟩ | ⟨b, off, cap, h2, _, _, hc⟩
    · cases h2; omega
    · cases h2
      have hr := run_copy_row (P := P) w t t ty e g 0 R c ⟨b, off, none⟩ n c' xs.toArray te (cs.take (min n R)) ht hsz hb (by show _ = min n R; rw [List.length_take]; omega) (fun j u hj => by
        rw [add_mk]
        rw [List.getElem?_take] at hj
        split at hj
        · exact hc j u hj
        · cases hj) (by simp; omega) (fun u hu => by rw [oneC_eq]; exact List.all_eq_true.1 h1 u (List.mem_of_mem_take hu))
      refine V.ok hr (hk _ _ ?_ ⟨rfl, rfl, rfl, by simp, fun i _ hi => setRow_other _ _ _ _ hi⟩)
      unfold Blk
      rw [setRow_heap w g _ _ te (0, 0) hb]
      have hm : min (min n R) cs.length = min n R := by omega
      simp [List.length_take, hm]
end Go.Vc
namespace Go.Vc
open Go.Proofs
abbrev u8 (b : Int) : Value := .int .u8 b
section
variable {P : Program} {w : World} {K : Value → World → Prop} {S : World → Prop} {L : Value → Prop}
/-- l, as bytes that lie in a slice. -/
def BytesAre (w : World) (v : Value) (l : List Int) : Prop := SliceIs w v 1 l.length (l.map u8)
theorem BytesAre.ext {w w' : World} {v : Value} {l : List Int} (h : BytesAre w v l) (hx : Ext w w') : BytesAre w' v l := SliceIs.ext h hx
theorem all_u8 (l : List Int) : (l.map u8).all oneC = true := by simp [oneC]
theorem q_ptr {s e : TypeId} (hs : P.underlying s = some (.pointer e)) (d : Nat) {a : Addr} : (Op.equalIn (d + 1) s (.pointer (some a)) (.pointer none)).run P w = .ok false w := by
  simp [Op.equalIn, run_underlying hs]
theorem q_ptrN {s e : TypeId} (hs : P.underlying s = some (.pointer e)) (d : Nat) : (Op.equalIn (d + 1) s (.pointer none) (.pointer none)).run P w = .ok true w := by
  simp [Op.equalIn, run_underlying hs]
theorem r_eqPtr {s e : TypeId} (hs : P.underlying s = some (.pointer e)) {x y : Operand} {a : Addr} :
    (do eqGuard .eql s x y (.pointer (some a)) (.pointer none); binOp .eql s (.pointer (some a)) (.pointer none)).run P w = .ok (.bool false) w := by
  simp [eqGuard, binOp, equal_succ, q_ptr hs]
theorem r_neqPtrNil {s e : TypeId} (hs : P.underlying s = some (.pointer e)) {x y : Operand} :
    (do eqGuard .neq s x y (.pointer none) (.pointer none); binOp .neq s (.pointer none) (.pointer none)).run P w = .ok (.bool false) w := by
  simp [eqGuard, binOp, equal_succ, q_ptrN hs]
/-- l[lo:hi] -/
theorem r_sl {t e : TypeId} {z : Value} {by_ : Nat} (ht : P.underlying t = some (.slice e)) (hi : Inf P e z 1 by_) {v : Value} {n : Nat} {cs : List Value} (h : SliceIs w v 1 n cs) {lo hi' : Option Value} {a b : Nat} (ha : (lo = none ∧ a = 0) ∨ lo = some (.int .i64 a)) (hb : (hi' = none ∧ b = n) ∨ hi' = some (.int .i64 b)) (hab : a ≤ b) (hbn : b ≤ n) :
    ∃ v', (∀ w', (Instr.sliceAt t v lo hi' none).run P w' = .ok v' w') ∧ ∀ w2, SliceIs w2 v 1 n cs → SliceIs w2 v' 1 (b - a) ((cs.drop a).take (b - a)) := by
  have hcl : cs.length = n := by have := h.1; omega
  rcases h.2 with ⟨rfl, h0⟩ | ⟨g, off, cap, rfl, h1, h2, _⟩
  · have ea : a = 0 := by omega
    have eb : b = 0 := by omega
    subst ea eb
    refine ⟨.slice none 0 0, fun w' => ?_, fun w2 _ => ?_⟩
    · rcases ha with ⟨rfl, _⟩ | rfl <;> rcases hb with ⟨rfl, _⟩ | rfl <;> simp [Instr.sliceAt, Instr.slice, run_underlying ht, run_size hi, Instr.sliceBounds, Instr.sliceBound, asIntOf]
    · simp
      exact SliceIs.nil w2 1
  · have hb1 : (0 : Int) ≤ b ∧ (b : Int) ≤ cap := ⟨by omega, by omega⟩
    have ha1 : (0 : Int) ≤ a ∧ (a : Int) ≤ b := ⟨by omega, by omega⟩
    have hbc : b ≤ cap := by omega
    refine ⟨.slice (if cap = a then some ⟨g, off, none⟩ else (some (⟨g, off, none⟩ : Addr)).map (·.add (a * 1))) (b - a) (cap - a), fun w' => ?_, fun w2 hw2 => ?_⟩
    · rcases ha with ⟨rfl, rfl⟩ | rfl <;> rcases hb with ⟨rfl, rfl⟩ | rfl <;> simp [Instr.sliceAt, Instr.slice, run_underlying ht, run_size hi, Instr.sliceBounds, Instr.sliceBound, asIntOf, hab, hbc]
    · refine ⟨by simp; omega, .inr ?_⟩
      by_cases hca : cap = a
      · rw [if_pos hca]
        exact ⟨g, off, cap - a, rfl, by omega, by omega, fun j u hj => by
          have := (List.getElem?_eq_some_iff.1 hj).1
          simp at this
          omega⟩
      · rw [if_neg hca]
        rcases hw2.2 with ⟨he, _⟩ | ⟨g', off', cap', he, _, _, h3⟩
        · cases he
        · cases he
          refine ⟨g, off + a, cap - a, by simp [add_mk], by omega, by omega, fun j u hj => ?_⟩
          rw [List.getElem?_take] at hj
          split at hj
          · rw [List.getElem?_drop] at hj
            have := h3 _ _ hj
            rw [Nat.add_assoc]; exact this
          · cases hj
theorem r_eqStr {s : TypeId} {x y : Operand} {a b : ByteArray} :
    (do eqGuard .eql s x y (.string a) (.string b); binOp .eql s (.string a) (.string b)).run P w = .ok (.bool (a.toList == b.toList)) w := by
  simp [eqGuard, binOp, Op.stringOp]
theorem r_addStr {s : TypeId} {a b : ByteArray} (h : a.size + b.size ≤ 1000000) : (binOp .add s (.string a) (.string b)).run P w = .ok (.string (a ++ b)) w := by
  have e : IntKind.i64.max = 9223372036854775807 := by decide
  have : ¬ ((a.size + b.size : Nat) : Int) > IntKind.i64.max := by rw [e]; omega
  simp only [binOp, Op.stringOp]
  rw [if_neg this]
  simp
theorem str_append (a b : List Int) : strOfNums (a ++ b) = strOfNums a ++ strOfNums b := by
  apply ByteArray.ext
  simp [strOfNums]
theorem r_str {src e dst : TypeId} (hs : P.underlying src = some (.slice e)) (he : P.underlying e = some (.int .u8)) (hd : P.underlying dst = some .string) {v : Value} {l : List Int} (h : BytesAre w v l) : (convert src dst v).run P w = .ok (.string (strOfNums l)) w := by
  rcases h.2 with ⟨rfl, h0⟩ | ⟨b, off, cap, rfl, h1, h2, h3⟩
  · obtain rfl : l = [] := List.eq_nil_of_length_eq_zero h0
    rw [run_convert_bytes_string w src dst e _ 0 0 hs he hd]
    simp [Conv.bytesToString]
    rfl
  · refine run_convert_bytes_arg (P := P) w src e hs he b off l.length cap l rfl (fun i hi => ?_) dst hd
    refine h3 i _ ?_
    simp [List.getD, hi]
end
end Go.Vc
namespace Go.Proofs.Ytgjmpnngheohbaa
open Go.Vc
theorem i64_succ (j : Nat) : Value.int .i64 ((j : Int) + 1) = i64 ((j + 1 : Nat) : Int) := by simp
theorem intOf_i64 (n : Int) : RowKit.intOf (i64 n) = n := rfl
theorem ex_get {α : Type} {l : List α} {j : Nat} (h : j < l.length) : ∃ u, l[j]? = some u := ⟨_, List.getElem?_eq_getElem h⟩
theorem pick_ok {n m : Int} {w : World} (hm : 0 < m) (hm2 : m ≤ 1000000) : callD Try.prog 11 #[i64 n, i64 m] w fun r w' => (∃ k, r = i64 k ∧ 0 ≤ k ∧ k < m) ∧ w' = w := by
  apply F11_wp
  unfold F11_den
  refine rm hm fun c _ h1 h2 => ?_
  refine V_lss.2 (ifD_dec (fun hlt => ?_) fun hge => ?_)
  · refine V_add.2 ?_
    rw [wrap_id (by omega) (by omega)]
    exact ⟨⟨_, rfl, by omega, by omega⟩, rfl⟩
  · exact ⟨⟨c, rfl, by omega, h2⟩, rfl⟩
/-- An argument that is a slice of bytes. -/
def ArgsU8 (w : World) (sv : Value) (l : List Int) : Prop := (sv = .slice none 0 0 ∧ l = []) ∨ ∃ ad c, sv = .slice (some ad) l.length c ∧ (0 < l.length → BytesAre w sv l)
theorem ArgsU8.ext {w w' : World} {sv : Value} {l : List Int} (h : ArgsU8 w sv l) (hx : Ext w w') : ArgsU8 w' sv l := by
  rcases h with h | ⟨ad, c, h1, h2⟩
  · exact .inl h
  · exact .inr ⟨ad, c, h1, fun h0 => (h2 h0).ext hx⟩
/-- Few. -/
theorem few_ok {v : Value} {l : List Int} {k : Nat} {w : World} (h : ArgsU8 w v l) (hk : k ≤ 1000) : callD Try.prog 7 #[v, i64 (k : Int)] w fun r w' => w'.ownsRow w.heap.size 5 1 r (l.take k).length ((l.take k).map u8) ∧ Ext w w' := by
  apply F7_wp
  unfold F7_den
  refine bsl (by first | exact xe_22 | exact xe_35 | exact xe_62) [] rfl rfl (by simp) rfl fun v1 w1 ho1 x1 => ?_
  have hln : V Try.prog (Builtin.len_ #[22] 3 #[v]) w1 fun t w' => t = i64 l.length ∧ w' = w1 := by
    rcases h with ⟨rfl, rfl⟩ | ⟨ad, c, rfl, _⟩
    · exact V_ln_22.2 ⟨rfl, rfl⟩
    · exact V_ln_22.2 ⟨rfl, rfl⟩
  refine hln.mono fun t w' ⟨ht, hw⟩ => ?_
  subst ht; have hw := hw.symm; subst hw
  refine mn2 fun c hc h1 h2 => ?_
  obtain ⟨b, rfl⟩ : ∃ b : Nat, c = b := ⟨c.toNat, by rcases hc with rfl | rfl <;> omega⟩
  have hb : b = min l.length k := by omega
  have main : BytesAre w1 v l → V Try.prog (Instr.sliceAt 22 v none (some (i64 (b : Int))) none) w1 fun t11 w4 => V Try.prog (Builtin.append_ #[22, 22] 22 #[v1, t11]) w4 fun r w' => w'.ownsRow w.heap.size 5 1 r (l.take k).length ((l.take k).map u8) ∧ Ext w w' := fun hB => by
    obtain ⟨v2, hr, hs2⟩ := r_sl Try.underlying22 inf5 hB (lo := none) (hi' := some (i64 b)) (a := 0) (b := b) (.inl ⟨rfl, rfl⟩) (.inr rfl) (by omega) (by omega)
    refine V.ok (hr _) ?_
    refine apO (by first | exact xe_22 | exact xe_35 | exact xe_62) ho1 (hs2 _ hB) (by rw [List.all_eq_true]; intro x hx; exact List.all_eq_true.1 (all_u8 l) x (List.mem_of_mem_drop (List.mem_of_mem_take hx))) (by omega) (by unfold maxLen; omega) x1.size fun v3 w3 ho3 hg3 => ?_
    refine ⟨?_, x1.grown hg3 fun k hk => (ho1.lt k hk).1⟩
    have := ho3
    have e : (l.take k).length = b := by simp; omega
    rw [e]
    simp only [Nat.zero_add, List.nil_append, Nat.sub_zero, List.drop_zero] at this
    rw [show (l.take k).map u8 = (l.map u8).take b from by rw [List.map_take, hb]; simp [Nat.min_comm, List.take_eq_take_iff]]
    exact this
  rcases h with ⟨rfl, rfl⟩ | ⟨ad, c, rfl, hB⟩
  · exact main (SliceIs.nil _ _)
  by_cases h0 : 0 < l.length
  · exact main ((hB h0).ext x1)
  · have hl0 : l = [] := List.eq_nil_of_length_eq_zero (by omega)
    subst hl0
    have hb0 : b = 0 := by simp at hb; exact hb
    subst hb0
    refine V.ok (r_hi Try.underlying22 inf5 (Nat.zero_le _)) ?_
    obtain ⟨z, ht, hi, hz⟩ := (by exact (by first | exact xe_22 | exact xe_35 | exact xe_62) : XE Try.prog 22 5 1)
    obtain ⟨i, hi', hz', hn, hby⟩ := info_parts hi
    obtain ⟨ad', he⟩ : ∃ ad', (if c = 0 then some ad else (some ad).map (·.add 0)) = some ad' := by split <;> exact ⟨_, rfl⟩
    rw [he]
    obtain ⟨v3, w3, hr, h2, h3, _⟩ := run_append_own (P := Try.prog) w1 w.heap.size 22 22 5 i z 1 1 ht hi' hz' hn hby (by simpa using hz) (by omega) v1 0 [] ho1 ad' 0 c [] rfl (fun j u hj => by simp at hj) (fun u hu => by simp at hu) (by unfold maxLen; omega) (by omega) x1.size
    refine V.ok hr ⟨?_, x1.grown h3 fun k hk => (ho1.lt k hk).1⟩
    simpa using h2
theorem clone_u8 {v : Value} {l : List Int} {w : World} (h : BytesAre w v l) (hl : l.length ≤ 4294967296) : callD Try.prog 33 #[v] w fun r w' => w'.ownsRow w.heap.size 5 1 r l.length (l.map u8) ∧ Ext w w' := by
  apply F33_wp
  unfold F33_den
  exact cloneD (R := fun r w' => w'.ownsRow w.heap.size 5 1 r l.length (l.map u8) ∧ Ext w w') xe_22 h (all_u8 l) (by omega) fun v' w' h1 h2 => ⟨h1, h2⟩
def a1 (d : Value) : List Value := [i64 (-1), i64 3, i64 0, .bool false, d]
def a2 (d : Value) : List Value := [i64 (-1), i64 4, i64 0, .bool false, d]
/-- A room with the two buffers alone. -/
structure RoomIs (w : World) (rb hb ab : Nat) (d1 d2 pub sec : Value) : Prop where
  room : Blk w rb [.pointer (some ⟨hb, 0, none⟩), .slice none 0 0, .slice none 0 0, pub, sec] 59
  heap : Blk w hb [i64 100, .slice (some ⟨ab, 0, none⟩) 2 2] 74
  arr : Blk w ab (a1 d1 ++ a2 d2) 37
  lt : ab < hb ∧ hb < rb
theorem RoomIs.ext {w w' : World} {rb hb ab : Nat} {d1 d2 pub sec : Value} (h : RoomIs w rb hb ab d1 d2 pub sec) (hx : Ext w w') : RoomIs w' rb hb ab d1 d2 pub sec := ⟨h.room.ext hx, h.heap.ext hx, h.arr.ext hx, h.lt⟩
/-- A new heap, a new room. -/
theorem heapNew_ok {w : World} : callD Try.prog 19 #[i64 100] w fun r w' => (∃ hb ab, r = .tuple #[.pointer (some ⟨hb, 0, none⟩), i64 0] ∧ w.heap.size ≤ ab ∧ ab < hb ∧ Blk w' hb [i64 100, .slice (some ⟨ab, 0, none⟩) 2 2] 74 ∧ Blk w' ab (a1 (.slice none 0 0) ++ a2 (.slice none 0 0)) 37) ∧ Ext w w' := by
  apply F19_wp
  unfold F19_den
  refine V_lss.2 ?_
  simp only [show ¬ (100 : Int) < 64 by decide, V_gtr, gd_f, pickD_iff, reduceIte, Bool.false_eq_true, decide_false]
  simp only [show ¬ (100 : Int) > 4096 by decide, ifD_false, decide_false]
  refine bld bd_37 [(0, i64 (-1)), (1, i64 3)] rfl rfl ?_
  refine bld bd_37 [(0, i64 (-1)), (1, i64 4)] rfl rfl ?_
  refine V.ok (v := .slice (some ⟨w.heap.size, 0, none⟩) 2 2) (w' := w.alloc (.cells (a1 (.slice none 0 0) ++ a2 (.slice none 0 0)).toArray 37)) (by kernel_rfl) ?_
  have hab : Blk (w.alloc (.cells (a1 (.slice none 0 0) ++ a2 (.slice none 0 0)).toArray 37)) w.heap.size (a1 (.slice none 0 0) ++ a2 (.slice none 0 0)) 37 := by unfold Blk; rw [heap_alloc_new]
  have hx1 : Ext w (w.alloc (.cells (a1 (.slice none 0 0) ++ a2 (.slice none 0 0)).toArray 37)) := (Ext.refl w).alloc _
  have hsz : (w.alloc (.cells (a1 (.slice none 0 0) ++ a2 (.slice none 0 0)).toArray 37)).heap.size = w.heap.size + 1 := by simp
  generalize w.alloc (.cells (a1 (.slice none 0 0) ++ a2 (.slice none 0 0)).toArray 37) = w1 at hab hx1 hsz ⊢
  refine bld bd_74 [(0, i64 100), (1, .slice (some ⟨w.heap.size, 0, none⟩) 2 2)] rfl rfl ?_
  refine bxK fun w2 hhb x2 => ?_
  exact ⟨⟨_, _, rfl, Nat.le_refl _, by omega, hhb, hab.ext x2⟩, hx1.trans x2⟩
theorem roomNew_ok {w : World} : callD Try.prog 6 #[i64 100] w fun r w' => (∃ rb hb ab, r = .tuple #[.pointer (some ⟨rb, 0, none⟩), i64 0] ∧ w.heap.size ≤ ab ∧ RoomIs w' rb hb ab (.slice none 0 0) (.slice none 0 0) (.slice none 0 0) (.slice none 0 0)) ∧ Ext w w' := by
  apply F6_wp
  unfold F6_den
  refine heapNew_ok.mono fun r w1 ⟨⟨hb, ab, hr, h1, h2, h3, h4⟩, x1⟩ => ?_
  subst hr
  refine V_ext0.2 (V_ext1.2 (V_neqI.2 ?_))
  simp only [ne_eq, not_true_eq_false, ifD_false, decide_false]
  refine bld bd_59 [(0, .pointer (some ⟨hb, 0, none⟩))] rfl rfl ?_
  refine bxK fun w2 hrb x2 => ?_
  exact ⟨⟨_, hb, ab, rfl, h1, hrb, h3.ext x2, h4.ext x2, h2, h3.lt⟩, x1.trans x2⟩
theorem heap_ok {w : World} {rb hb ab : Nat} {d1 d2 pub sec : Value} (h : RoomIs w rb hb ab d1 d2 pub sec) : callD Try.prog 9 #[.pointer (some ⟨rb, 0, none⟩)] w fun r w' => r = .pointer (some ⟨hb, 0, none⟩) ∧ w' = w := by
  apply F9_wp
  unfold F9_den
  refine ⟨.inl ⟨_, rfl⟩, ?_⟩
  exact ldB h.room.boxed (by first | exact fa_37_0 | exact fa_37_1 | exact fa_37_2 | exact fa_37_3 | exact fa_37_4 | exact fa_44_0 | exact fa_44_1 | exact fa_44_2 | exact fa_44_3 | exact fa_44_4 | exact fa_59_0 | exact fa_59_3 | exact fa_59_4 | exact fa_64_0 | exact fa_64_1 | exact fa_64_2 | exact fa_64_3 | exact fa_64_4 | exact fa_64_5 | exact fa_74_0 | exact fa_74_1 | exact fa_93_0) (by first | exact l1_21 | exact l1_22 | exact l1_23 | exact l1_29 | exact l1_3 | exact l1_35 | exact l1_4 | exact l1_5 | exact l1_61 | exact l1_62 | exact l1_72 | exact l1_9 | exact l1_91) rfl ⟨rfl, rfl⟩
/-- An array's place. -/
theorem at_ok {w : World} {rb hb ab : Nat} {d1 d2 pub sec : Value} (h : RoomIs w rb hb ab d1 d2 pub sec) {k : Nat} (hk : k < 2) : callD Try.prog 32 #[.pointer (some ⟨hb, 0, none⟩), i64 ((k : Int) + 1)] w fun r w' => r = .pointer (some ⟨ab, k * 5, none⟩) ∧ w' = w := by
  apply F32_wp
  unfold F32_den
  refine V_lss.2 ?_
  simp only [show ¬ ((k : Int) + 1 < 1) by omega, gd_f, pickD_iff, reduceIte, Bool.false_eq_true, decide_false]
  refine ⟨.inl ⟨_, rfl⟩, ?_⟩
  refine ldB h.heap.boxed (by first | exact fa_37_0 | exact fa_37_1 | exact fa_37_2 | exact fa_37_3 | exact fa_37_4 | exact fa_44_0 | exact fa_44_1 | exact fa_44_2 | exact fa_44_3 | exact fa_44_4 | exact fa_59_0 | exact fa_59_3 | exact fa_59_4 | exact fa_64_0 | exact fa_64_1 | exact fa_64_2 | exact fa_64_3 | exact fa_64_4 | exact fa_64_5 | exact fa_74_0 | exact fa_74_1 | exact fa_93_0) (by first | exact l1_21 | exact l1_22 | exact l1_23 | exact l1_29 | exact l1_3 | exact l1_35 | exact l1_4 | exact l1_5 | exact l1_61 | exact l1_62 | exact l1_72 | exact l1_9 | exact l1_91) rfl (V_ln_72.2 ?_)
  simp only [show ¬ ((k : Int) + 1 > ((2 : Nat) : Int)) by omega, V_gtr, ifD_false, decide_false]
  refine ⟨.inl ⟨_, rfl⟩, ?_⟩
  refine ldB h.heap.boxed (by first | exact fa_37_0 | exact fa_37_1 | exact fa_37_2 | exact fa_37_3 | exact fa_37_4 | exact fa_44_0 | exact fa_44_1 | exact fa_44_2 | exact fa_44_3 | exact fa_44_4 | exact fa_59_0 | exact fa_59_3 | exact fa_59_4 | exact fa_64_0 | exact fa_64_1 | exact fa_64_2 | exact fa_64_3 | exact fa_64_4 | exact fa_64_5 | exact fa_74_0 | exact fa_74_1 | exact fa_93_0) (by first | exact l1_21 | exact l1_22 | exact l1_23 | exact l1_29 | exact l1_3 | exact l1_35 | exact l1_4 | exact l1_5 | exact l1_61 | exact l1_62 | exact l1_72 | exact l1_9 | exact l1_91) rfl (V_sub.2 ?_)
  rw [show IntKind.i64.wrap ((k : Int) + 1 - 1) = (k : Int) from by rw [wrap_id (by omega) (by omega)]; omega]
  refine V.ok (r_ix_72 (by omega) (by omega)) ⟨?_, rfl⟩
  simp
end Go.Proofs.Ytgjmpnngheohbaa
namespace Go.Proofs.Ytgjmpnngheohbaa
open Go.Vc
def dk (k : Nat) (d1 d2 : Value) : Value := if k = 0 then d1 else d2
def arrK (k : Nat) (d : Value) : List Value := [i64 (-1), i64 (3 + (k : Int)), i64 0, .bool false, d]
theorem RoomIs.get {w : World} {rb hb ab : Nat} {d1 d2 pub sec : Value} (h : RoomIs w rb hb ab d1 d2 pub sec) {k : Nat} (hk : k < 2) (j : Nat) (hj : j < 5) : w.cell? ⟨ab, k * 5 + j, none⟩ = (arrK k (dk k d1 d2))[j]? := by
  rw [h.arr.cell]
  have h2 : k = 0 ∨ k = 1 := by omega
  have h5 : j = 0 ∨ j = 1 ∨ j = 2 ∨ j = 3 ∨ j = 4 := by omega
  rcases h2 with rfl | rfl <;> rcases h5 with rfl | rfl | rfl | rfl | rfl <;> rfl
theorem oneC_bytes {w : World} {v : Value} {l : List Int} (h : BytesAre w v l) : oneC v = true := by
  obtain ⟨a, c, rfl⟩ := h.shape
  rfl
theorem own_one {w : World} {B e s n : Nat} {v : Value} {xs : List Value} (h : w.ownsRow B e s v n xs) : oneC v = true := by
  rcases h.2 with ⟨h1, _⟩ | ⟨g, cap, cur, h1, _⟩ <;> (rw [h1]; rfl)
set_option maxHeartbeats 1600000 in
theorem array_ok {w : World} {rb hb ab : Nat} {d1 d2 pub sec : Value} (h : RoomIs w rb hb ab d1 d2 pub sec) {k : Nat} (hk : k < 2) {l : List Int} (hd : BytesAre w (dk k d1 d2) l) (hl : l.length ≤ 1000) :
    callD Try.prog 13 #[.pointer (some ⟨hb, 0, none⟩), i64 ((k : Int) + 1)] w fun r w' => (∃ v, r = .tuple #[.agg (arrK k v).toArray, .bool true] ∧ w'.ownsRow w.heap.size 5 1 v l.length (l.map u8)) ∧ Ext w w' := by
  apply F13_wp
  unfold F13_den
  refine alK inf37 fun w1 hz x1 => ?_
  have h1 := h.ext x1
  refine (at_ok h1 hk).mono fun r w2 ⟨hr, hw⟩ => ?_
  subst hr; have hw := hw.symm; subst hw
  refine V.ok (r_eqPtr Try.underlying69) (ifD_false.2 ⟨.inl ⟨_, rfl⟩, ?_⟩)
  refine V.ok (r_la_37 (cs := arrK k (dk k d1 d2)) rfl fun j hj => h1.get hk j hj) ?_
  refine asK (by first | exact sa_37 | exact sa_42 | exact sa_44 | exact sa_64) rfl (by have := oneC_bytes hd; show (oneC (i64 (-1)) && (oneC (i64 (3 + (k : Int))) && (oneC (i64 0) && (oneC (.bool false) && (oneC (dk k d1 d2) && true))))) = true; rw [this]; rfl) fun w3 hc x3 => ?_
  refine ⟨.inl ⟨_, rfl⟩, ?_⟩
  have h3 := h1.ext x3
  refine V.ok r_fd_37_4 (V.ok (r_ld_22 (h3.get hk 4 (by omega))) ?_)
  have x13 := x1.trans x3
  refine (clone_u8 (hd.ext x13) (by omega)).mono fun v w4 ⟨ho, x4⟩ => ?_
  have x14 := x13.trans x4
  refine stF (by first | exact fa_37_0 | exact fa_37_1 | exact fa_37_2 | exact fa_37_3 | exact fa_37_4 | exact fa_44_0 | exact fa_44_1 | exact fa_44_2 | exact fa_44_3 | exact fa_44_4 | exact fa_59_0 | exact fa_59_3 | exact fa_59_4 | exact fa_64_0 | exact fa_64_1 | exact fa_64_2 | exact fa_64_3 | exact fa_64_4 | exact fa_64_5 | exact fa_74_0 | exact fa_74_1 | exact fa_93_0) inf22 (hc.ext x4) rfl (by show 4 < 5; omega) (own_one ho) ?_
  have hc5 : Blk (w4.setCell ⟨w1.heap.size, 4, none⟩ v) w1.heap.size (arrK k v) 37 := (hc.ext x4).set 4 v
  have f5 : Fr (fun i => i = w1.heap.size) w4 (w4.setCell ⟨w1.heap.size, 4, none⟩ v) := Fr.of_set rfl
  have hzl := hz.lt
  have hcl := hc.lt
  have l1 := x1.size
  have l3 := x3.size
  have hz5 := f5.blk (hz.ext (x3.trans x4)) (by omega)
  have ho5 := f5.own ho fun i hi => by have := (ho.lt i hi).1; omega
  have x5 : Ext w (w4.setCell ⟨w1.heap.size, 4, none⟩ v) := x14.setCell l1 _
  generalize w4.setCell ⟨w1.heap.size, 4, none⟩ v = w5 at hc5 hz5 ho5 x5 ⊢
  refine ldA hc5.boxed la_37 rfl ?_
  refine stA inf37 hz5 (l := arrK k v) rfl rfl rfl (by have := own_one ho; show (oneC (i64 (-1)) && (oneC (i64 (3 + (k : Int))) && (oneC (i64 0) && (oneC (.bool false) && (oneC v && true))))) = true; rw [this]; rfl) fun w6 h6 hch => ?_
  refine ⟨_, r_var Try.underlying37 rfl inf37 h6 rfl, ⟨_, rfl⟩, ⟨v, rfl, ?_⟩, hch.ext w x5 (Nat.le_refl _)⟩
  exact own_mono (hch.ownRow ho5 (by omega)) (by omega)
/-- An array of the card's own may be touched. -/
theorem mayW_ok {w : World} {k : Nat} {v : Value} {who : Int} : callD Try.prog 46 #[.agg (arrK k v).toArray, i64 who] w fun r w' => r = .bool true ∧ Ext w w' := by
  apply F46_wp
  unfold F46_den
  refine bx fun b w1 hb x1 => ?_
  refine ldB hb (by first | exact fa_37_0 | exact fa_37_1 | exact fa_37_2 | exact fa_37_3 | exact fa_37_4 | exact fa_44_0 | exact fa_44_1 | exact fa_44_2 | exact fa_44_3 | exact fa_44_4 | exact fa_59_0 | exact fa_59_3 | exact fa_59_4 | exact fa_64_0 | exact fa_64_1 | exact fa_64_2 | exact fa_64_3 | exact fa_64_4 | exact fa_64_5 | exact fa_74_0 | exact fa_74_1 | exact fa_93_0) (by first | exact l1_21 | exact l1_22 | exact l1_23 | exact l1_29 | exact l1_3 | exact l1_35 | exact l1_4 | exact l1_5 | exact l1_61 | exact l1_62 | exact l1_72 | exact l1_9 | exact l1_91) rfl (V_eqlI.2 ?_)
  simp only [gd_tf, pickD_iff, reduceIte, decide_true]
  exact ⟨trivial, x1⟩
theorem checkW_ok {w : World} {rb hb ab : Nat} {d1 d2 pub sec : Value} (h : RoomIs w rb hb ab d1 d2 pub sec) {k : Nat} (hk : k < 2) {l : List Int} (hd : BytesAre w (dk k d1 d2) l) (hl : l.length ≤ 1000) {who : Int} :
    callD Try.prog 37 #[.pointer (some ⟨hb, 0, none⟩), i64 ((k : Int) + 1), i64 who] w fun r w' => r = i64 36864 ∧ Ext w w' := by
  apply F37_wp
  unfold F37_den
  refine V.ok (r_eqPtr Try.underlying29) (ifD_false.2 ?_)
  refine (array_ok h hk hd hl).mono fun r w1 ⟨⟨v, hr, ho⟩, x1⟩ => ?_
  subst hr
  refine V_ext0.2 (V_ext1.2 ?_)
  refine asK (by first | exact sa_37 | exact sa_42 | exact sa_44 | exact sa_64) rfl (by have := own_one ho; show (oneC (i64 (-1)) && (oneC (i64 (3 + (k : Int))) && (oneC (i64 0) && (oneC (.bool false) && (oneC v && true))))) = true; rw [this]; rfl) fun w2 hc x2 => ?_
  refine V_not.2 (ifD_false.2 ?_)
  refine ldA hc.boxed la_37 rfl ?_
  refine mayW_ok.mono fun r w3 ⟨hr, x3⟩ => ?_
  subst hr
  exact V_not.2 (ifD_false.2 ⟨rfl, (x1.trans x2).trans x3⟩)
theorem rangeW_ok {w : World} {rb hb ab : Nat} {d1 d2 pub sec : Value} (h : RoomIs w rb hb ab d1 d2 pub sec) {k : Nat} (hk : k < 2) {l : List Int} (hd : BytesAre w (dk k d1 d2) l) (hl : l.length ≤ 1000) {who : Int} {a n : Nat} (hn : a + n ≤ l.length) :
    callD Try.prog 47 #[.pointer (some ⟨hb, 0, none⟩), i64 ((k : Int) + 1), i64 (a : Int), i64 (n : Int), i64 who] w fun r w' => r = i64 36864 ∧ Ext w w' := by
  apply F47_wp
  unfold F47_den
  refine (checkW_ok h hk hd hl).mono fun r w1 ⟨hr, x1⟩ => ?_
  subst hr
  refine V_neqI.2 ?_
  simp only [ne_eq, not_true_eq_false, V_lss, pickD_iff, ifD_false, decide_false]
  refine (array_ok (h.ext x1) hk (hd.ext x1) hl).mono fun r w2 ⟨⟨v, hr, ho⟩, x2⟩ => ?_
  subst hr
  refine V_ext0.2 (V_ext1.2 ?_)
  refine asK (by first | exact sa_37 | exact sa_42 | exact sa_44 | exact sa_64) rfl (by have := own_one ho; show (oneC (i64 (-1)) && (oneC (i64 (3 + (k : Int))) && (oneC (i64 0) && (oneC (.bool false) && (oneC v && true))))) = true; rw [this]; rfl) fun w3 hc x3 => ?_
  simp only [show ¬ ((a : Int) < 0) by omega, show ¬ ((n : Int) < 0) by omega, V_lss, gd_f, pickD_iff, reduceIte, Bool.false_eq_true, decide_false]
  have hs := SliceIs.of_own (x3.own ho)
  refine ldB hc.boxed (by first | exact fa_37_0 | exact fa_37_1 | exact fa_37_2 | exact fa_37_3 | exact fa_37_4 | exact fa_44_0 | exact fa_44_1 | exact fa_44_2 | exact fa_44_3 | exact fa_44_4 | exact fa_59_0 | exact fa_59_3 | exact fa_59_4 | exact fa_64_0 | exact fa_64_1 | exact fa_64_2 | exact fa_64_3 | exact fa_64_4 | exact fa_64_5 | exact fa_74_0 | exact fa_74_1 | exact fa_93_0) (by first | exact l1_21 | exact l1_22 | exact l1_23 | exact l1_29 | exact l1_3 | exact l1_35 | exact l1_4 | exact l1_5 | exact l1_61 | exact l1_62 | exact l1_72 | exact l1_9 | exact l1_91) rfl (lnx (by first | exact xa_22 | exact xa_35 | exact xa_41 | exact xa_62 | exact xa_72 | exact xa_91) hs (V_gtr.2 ?_))
  simp only [show ¬ ((a : Int) > ((l.length : Nat) : Int)) by omega, gd_f, pickD_iff, reduceIte, Bool.false_eq_true, decide_false]
  refine ldB hc.boxed (by first | exact fa_37_0 | exact fa_37_1 | exact fa_37_2 | exact fa_37_3 | exact fa_37_4 | exact fa_44_0 | exact fa_44_1 | exact fa_44_2 | exact fa_44_3 | exact fa_44_4 | exact fa_59_0 | exact fa_59_3 | exact fa_59_4 | exact fa_64_0 | exact fa_64_1 | exact fa_64_2 | exact fa_64_3 | exact fa_64_4 | exact fa_64_5 | exact fa_74_0 | exact fa_74_1 | exact fa_93_0) (by first | exact l1_21 | exact l1_22 | exact l1_23 | exact l1_29 | exact l1_3 | exact l1_35 | exact l1_4 | exact l1_5 | exact l1_61 | exact l1_62 | exact l1_72 | exact l1_9 | exact l1_91) rfl (lnx (by first | exact xa_22 | exact xa_35 | exact xa_41 | exact xa_62 | exact xa_72 | exact xa_91) hs (V_sub.2 ?_))
  rw [wrap_id (by omega) (by omega)]
  simp only [show ¬ ((n : Int) > ((l.length : Nat) : Int) - (a : Int)) by omega, V_gtr, ifD_false, decide_false]
  exact ⟨trivial, (x1.trans x2).trans x3⟩
end Go.Proofs.Ytgjmpnngheohbaa
namespace Go.Proofs.Ytgjmpnngheohbaa
open Go.Vc
def svc (rb : Nat) (who a b : Int) (av : Value) : Value := .agg #[.pointer (some ⟨rb, 0, none⟩), .pointer none, i64 who, i64 a, i64 b, av]
theorem shows_ok {w : World} {rb : Nat} {who a b p q r s : Int} {av : Value} : callD Try.prog 34 #[svc rb who a b av, i64 p, i64 q, i64 r, i64 s] w fun _ w' => Ext w w' := by
  apply F34_wp
  unfold F34_den
  refine bx fun b w1 hb x1 => ?_
  refine ldB hb (by first | exact fa_37_0 | exact fa_37_1 | exact fa_37_2 | exact fa_37_3 | exact fa_37_4 | exact fa_44_0 | exact fa_44_1 | exact fa_44_2 | exact fa_44_3 | exact fa_44_4 | exact fa_59_0 | exact fa_59_3 | exact fa_59_4 | exact fa_64_0 | exact fa_64_1 | exact fa_64_2 | exact fa_64_3 | exact fa_64_4 | exact fa_64_5 | exact fa_74_0 | exact fa_74_1 | exact fa_93_0) (by first | exact l1_21 | exact l1_22 | exact l1_23 | exact l1_29 | exact l1_3 | exact l1_35 | exact l1_4 | exact l1_5 | exact l1_61 | exact l1_62 | exact l1_72 | exact l1_9 | exact l1_91) rfl ?_
  exact V.ok (r_neqPtrNil Try.underlying61) (ifD_false.2 x1)
theorem touch_ok {w : World} {rb : Nat} {who a b p q r : Int} {av : Value} : callD Try.prog 36 #[svc rb who a b av, i64 p, i64 q, i64 r] w fun _ w' => Ext w w' := by
  apply F36_wp
  unfold F36_den
  refine bx fun b w1 hb x1 => ?_
  refine ldA hb la_64 rfl ?_
  exact shows_ok.mono fun r w' h => x1.trans h
theorem rangesW_ok {w : World} {rb hb ab : Nat} {d1 d2 pub sec av : Value} (h : RoomIs w rb hb ab d1 d2 pub sec) {k : Nat} (hk : k < 2) {l : List Int} (hd : BytesAre w (dk k d1 d2) l) (hl : l.length ≤ 1000) {who sa sb : Int} {a n : Nat} (hn : a + n ≤ l.length) :
    callD Try.prog 38 #[svc rb who sa sb av, i64 ((k : Int) + 1), i64 (a : Int), i64 (n : Int)] w fun r w' => r = i64 36864 ∧ Ext w w' := by
  apply F38_wp
  unfold F38_den
  refine bx fun b w1 hb1 x1 => ?_
  have D1 : Ext w1 w1.drew := (Ext.refl _).drew
  refine drawD.mk' (fun w' => Ext w1 w') D1 ?_
  refine yfB (fun w' hw => hb1.ext hw) (by first | exact fa_37_0 | exact fa_37_1 | exact fa_37_2 | exact fa_37_3 | exact fa_37_4 | exact fa_44_0 | exact fa_44_1 | exact fa_44_2 | exact fa_44_3 | exact fa_44_4 | exact fa_59_0 | exact fa_59_3 | exact fa_59_4 | exact fa_64_0 | exact fa_64_1 | exact fa_64_2 | exact fa_64_3 | exact fa_64_4 | exact fa_64_5 | exact fa_74_0 | exact fa_74_1 | exact fa_93_0) (by first | exact l1_21 | exact l1_22 | exact l1_23 | exact l1_29 | exact l1_3 | exact l1_35 | exact l1_4 | exact l1_5 | exact l1_61 | exact l1_62 | exact l1_72 | exact l1_9 | exact l1_91) rfl ?_
  refine ⟨.inl ⟨_, rfl⟩, ?_⟩
  refine yfB (fun w' hw => (h.room.ext (x1.trans hw)).boxed) (by first | exact fa_37_0 | exact fa_37_1 | exact fa_37_2 | exact fa_37_3 | exact fa_37_4 | exact fa_44_0 | exact fa_44_1 | exact fa_44_2 | exact fa_44_3 | exact fa_44_4 | exact fa_59_0 | exact fa_59_3 | exact fa_59_4 | exact fa_64_0 | exact fa_64_1 | exact fa_64_2 | exact fa_64_3 | exact fa_64_4 | exact fa_64_5 | exact fa_74_0 | exact fa_74_1 | exact fa_93_0) (by first | exact l1_21 | exact l1_22 | exact l1_23 | exact l1_29 | exact l1_3 | exact l1_35 | exact l1_4 | exact l1_5 | exact l1_61 | exact l1_62 | exact l1_72 | exact l1_9 | exact l1_91) rfl ?_
  refine yfB (fun w' hw => hb1.ext hw) (by first | exact fa_37_0 | exact fa_37_1 | exact fa_37_2 | exact fa_37_3 | exact fa_37_4 | exact fa_44_0 | exact fa_44_1 | exact fa_44_2 | exact fa_44_3 | exact fa_44_4 | exact fa_59_0 | exact fa_59_3 | exact fa_59_4 | exact fa_64_0 | exact fa_64_1 | exact fa_64_2 | exact fa_64_3 | exact fa_64_4 | exact fa_64_5 | exact fa_74_0 | exact fa_74_1 | exact fa_93_0) (by first | exact l1_21 | exact l1_22 | exact l1_23 | exact l1_29 | exact l1_3 | exact l1_35 | exact l1_4 | exact l1_5 | exact l1_61 | exact l1_62 | exact l1_72 | exact l1_9 | exact l1_91) rfl ?_
  refine (rangeW_ok (h.ext (x1.trans D1)) hk (hd.ext (x1.trans D1)) hl hn).mono fun r w2 ⟨hr, x2⟩ => ?_
  exact ⟨D1.trans x2, hr, (x1.trans D1).trans x2⟩
theorem bytesW_ok {w : World} {rb hb ab : Nat} {d1 d2 pub sec av : Value} (h : RoomIs w rb hb ab d1 d2 pub sec) {k : Nat} (hk : k < 2) {l : List Int} (hd : BytesAre w (dk k d1 d2) l) (hl : l.length ≤ 1000) {who sa sb : Int} {a n : Nat} (hn : a + n ≤ l.length) :
    callD Try.prog 42 #[svc rb who sa sb av, i64 ((k : Int) + 1), i64 (a : Int), i64 (n : Int)] w fun r w' => (∀ w2, Fr (fun i => i < w.heap.size) w' w2 → BytesAre w2 r ((l.drop a).take n)) ∧ Ext w w' := by
  apply F42_wp
  unfold F42_den
  refine bx fun b w1 hb1 x1 => ?_
  refine ldB hb1 (by first | exact fa_37_0 | exact fa_37_1 | exact fa_37_2 | exact fa_37_3 | exact fa_37_4 | exact fa_44_0 | exact fa_44_1 | exact fa_44_2 | exact fa_44_3 | exact fa_44_4 | exact fa_59_0 | exact fa_59_3 | exact fa_59_4 | exact fa_64_0 | exact fa_64_1 | exact fa_64_2 | exact fa_64_3 | exact fa_64_4 | exact fa_64_5 | exact fa_74_0 | exact fa_74_1 | exact fa_93_0) (by first | exact l1_21 | exact l1_22 | exact l1_23 | exact l1_29 | exact l1_3 | exact l1_35 | exact l1_4 | exact l1_5 | exact l1_61 | exact l1_62 | exact l1_72 | exact l1_9 | exact l1_91) rfl ⟨.inl ⟨_, rfl⟩, ?_⟩
  refine ldB (h.room.ext x1).boxed (by first | exact fa_37_0 | exact fa_37_1 | exact fa_37_2 | exact fa_37_3 | exact fa_37_4 | exact fa_44_0 | exact fa_44_1 | exact fa_44_2 | exact fa_44_3 | exact fa_44_4 | exact fa_59_0 | exact fa_59_3 | exact fa_59_4 | exact fa_64_0 | exact fa_64_1 | exact fa_64_2 | exact fa_64_3 | exact fa_64_4 | exact fa_64_5 | exact fa_74_0 | exact fa_74_1 | exact fa_93_0) (by first | exact l1_21 | exact l1_22 | exact l1_23 | exact l1_29 | exact l1_3 | exact l1_35 | exact l1_4 | exact l1_5 | exact l1_61 | exact l1_62 | exact l1_72 | exact l1_9 | exact l1_91) rfl ?_
  refine (array_ok (h.ext x1) hk (hd.ext x1) hl).mono fun r w2 ⟨⟨v, hr, ho⟩, x2⟩ => ?_
  subst hr
  refine V_ext0.2 (V_ext1.2 ?_)
  refine asK (by first | exact sa_37 | exact sa_42 | exact sa_44 | exact sa_64) rfl (by have := own_one ho; show (oneC (i64 (-1)) && (oneC (i64 (3 + (k : Int))) && (oneC (i64 0) && (oneC (.bool false) && (oneC v && true))))) = true; rw [this]; rfl) fun w3 hc x3 => ?_
  refine ldB hc.boxed (by first | exact fa_37_0 | exact fa_37_1 | exact fa_37_2 | exact fa_37_3 | exact fa_37_4 | exact fa_44_0 | exact fa_44_1 | exact fa_44_2 | exact fa_44_3 | exact fa_44_4 | exact fa_59_0 | exact fa_59_3 | exact fa_59_4 | exact fa_64_0 | exact fa_64_1 | exact fa_64_2 | exact fa_64_3 | exact fa_64_4 | exact fa_64_5 | exact fa_74_0 | exact fa_74_1 | exact fa_93_0) (by first | exact l1_21 | exact l1_22 | exact l1_23 | exact l1_29 | exact l1_3 | exact l1_35 | exact l1_4 | exact l1_5 | exact l1_61 | exact l1_62 | exact l1_72 | exact l1_9 | exact l1_91) rfl (V_add.2 ?_)
  rw [wrap_id (by omega) (by omega)]
  have ho3 := x3.own ho
  obtain ⟨v', hr, hs⟩ := r_sl Try.underlying22 inf5 (SliceIs.of_own ho3) (lo := some (i64 (a : Int))) (hi' := some (i64 ((a : Int) + (n : Int)))) (a := a) (b := a + n) (.inr rfl) (.inr (by simp)) (by omega) (by omega)
  refine V.ok (hr _) ⟨fun w2 hf => ?_, (x1.trans x2).trans x3⟩
  have := hs w2 (SliceIs.of_own (hf.own ho3 fun i hi hlt => by have := (ho3.lt i hi).1; have := x1.size; omega))
  have e : ((l.drop a).take n).length = n := by simp; omega
  unfold BytesAre
  rw [e]
  simp only [Nat.add_sub_cancel_left] at this
  rw [List.map_take, List.map_drop]
  exact this
theorem getD_u8 {l : List Int} {a : Nat} (h : a < l.length) : (l.map u8)[((a : Nat) : Int).toNat]? = some (u8 (l.getD a 0)) := by simp [List.getD, h]
theorem getW_ok {w : World} {rb hb ab : Nat} {d1 d2 pub sec : Value} (h : RoomIs w rb hb ab d1 d2 pub sec) {k : Nat} (hk : k < 2) {l : List Int} (hd : BytesAre w (dk k d1 d2) l) (hl : l.length ≤ 1000) {a : Nat} (ha : a < l.length) :
    callD Try.prog 39 #[.pointer (some ⟨hb, 0, none⟩), i64 ((k : Int) + 1), i64 (a : Int)] w fun r w' => r = .tuple #[u8 (l.getD a 0), .bool true] ∧ w' = w := by
  apply F39_wp
  unfold F39_den
  refine (at_ok h hk).mono fun r w1 ⟨hr, hw⟩ => ?_
  subst hr; have hw := hw.symm; subst hw
  refine V.ok (r_eqPtr Try.underlying69) ?_
  simp only [show ¬ ((a : Int) < 0) by omega, V_lss, gd_f, pickD_iff, reduceIte, Bool.false_eq_true, decide_false]
  refine ⟨.inl ⟨_, rfl⟩, ?_⟩
  refine V.ok r_fd_37_4 (V.ok (r_ld_22 (h.get hk 4 (by omega))) (lnx (by first | exact xa_22 | exact xa_35 | exact xa_41 | exact xa_62 | exact xa_72 | exact xa_91) hd ?_))
  simp only [show ¬ ((a : Int) ≥ ((l.length : Nat) : Int)) by omega, V_geq, ifD_false, decide_false]
  refine ⟨.inl ⟨_, rfl⟩, ?_⟩
  refine V.ok r_fd_37_4 (V.ok (r_ld_22 (h.get hk 4 (by omega))) ?_)
  exact ldx xa_22 l1_5 hd (by omega) (by omega) (getD_u8 ha) ⟨rfl, rfl⟩
theorem putW_ok {w : World} {rb hb ab B : Nat} {d1 d2 pub sec : Value} (h : RoomIs w rb hb ab d1 d2 pub sec) {k : Nat} (hk : k < 2) {l : List Int} (ho : w.ownsRow B 5 1 (dk k d1 d2) l.length (l.map u8)) (hl : l.length ≤ 1000) {a : Nat} (ha : a < l.length) {z : Int} :
    callD Try.prog 40 #[.pointer (some ⟨hb, 0, none⟩), i64 ((k : Int) + 1), i64 (a : Int), u8 z] w fun _ w' => w'.ownsRow B 5 1 (dk k d1 d2) l.length ((l.set a z).map u8) ∧ w.grownBy w' (dk k d1 d2).ownBlock := by
  apply F40_wp
  unfold F40_den
  have hd : BytesAre w (dk k d1 d2) l := SliceIs.of_own ho
  refine (getW_ok h hk hd hl ha).mono fun r w1 ⟨hr, hw⟩ => ?_
  subst hr; have hw := hw.symm; subst hw
  refine V_ext0.2 (V_ext1.2 (V_not.2 (ifD_false.2 ?_)))
  refine (at_ok h hk).mono fun r w1 ⟨hr, hw⟩ => ?_
  subst hr; have hw := hw.symm; subst hw
  refine ⟨.inl ⟨_, rfl⟩, ?_⟩
  refine V.ok r_fd_37_4 (V.ok (r_ld_22 (h.get hk 4 (by omega))) ?_)
  refine stO (by first | exact xa_22 | exact xa_35 | exact xa_41 | exact xa_62 | exact xa_72 | exact xa_91) inf5 ho (by omega) (by omega) rfl fun w3 ho3 hg3 => ?_
  refine ⟨?_, hg3⟩
  rw [List.map_set]
  simpa using ho3
end Go.Proofs.Ytgjmpnngheohbaa
namespace Go.Vc
theorem ySlF {P : Program} {w : World} {S : World → Prop} {L : Value → Prop} {t x : TypeId} {v : Value} {n : Nat} {cs : List Value} {k : IntKind} {i : Int} {u : Value} (h : XA P t 1) (hl : L1 P x) (hs0 : SliceIs w v 1 n cs) (hs : ∀ w', S w' → SliceIs w' v 1 n cs) (h0 : 0 ≤ i) (h1 : i < n) (hu : cs[i.toNat]? = some u) (hk : L u) :
    yieldS P S (Instr.indexAt t v (.int k i)) fun p => yieldS P S (Instr.loadAt x p) L := by
  obtain ⟨e, z, b', ht, hi⟩ := h
  obtain ⟨d, hd, ha⟩ := hl
  obtain ⟨b, off, cap, rfl, _⟩ := hs0.there (by omega)
  refine yieldS.ok (fun w' _ => r_index ht hi h0 h1) (yieldS.ok (fun w' hw => r_load hd ha ?_) hk)
  obtain ⟨b2, off2, cap2, he, hc⟩ := (hs w' hw).there (by omega)
  cases he
  simpa using hc _ _ hu
end Go.Vc
namespace Go.Proofs.Ytgjmpnngheohbaa
open Go.Vc
theorem RoomIs.fr {w w' : World} {rb hb ab : Nat} {d1 d2 pub sec : Value} {S : Nat → Prop} (h : RoomIs w rb hb ab d1 d2 pub sec) (hf : Fr S w w') (h1 : ¬ S rb) (h2 : ¬ S hb) (h3 : ¬ S ab) : RoomIs w' rb hb ab d1 d2 pub sec := ⟨hf.blk h.room h1, hf.blk h.heap h2, hf.blk h.arr h3, h.lt⟩
set_option maxHeartbeats 1600000 in
theorem bothW_ok {w : World} {rb hb ab : Nat} {d1 d2 pub sec av : Value} (h : RoomIs w rb hb ab d1 d2 pub sec) {k1 k2 : Nat} (hk1 : k1 < 2) (hk2 : k2 < 2) {l1 l2 : List Int} (hd1 : BytesAre w (dk k1 d1 d2) l1) (hd2 : BytesAre w (dk k2 d1 d2) l2) (hl1 : l1.length ≤ 1000) (hl2 : l2.length ≤ 1000) {who sa sb : Int} {a c n : Nat}
    (hn1 : a + n ≤ l1.length) (hn2 : c + n ≤ l2.length) (hav : SliceIs w av 1 5 [i64 ((k1 : Int) + 1), i64 (a : Int), i64 ((k2 : Int) + 1), i64 (c : Int), i64 (n : Int)]) :
    callD Try.prog 41 #[svc rb who sa sb av] w fun r w' => r = i64 36864 ∧ Ext w w' := by
  apply F41_wp
  unfold F41_den
  refine bx fun b w1 hb1 x1 => ?_
  refine ldB hb1 (by first | exact fa_37_0 | exact fa_37_1 | exact fa_37_2 | exact fa_37_3 | exact fa_37_4 | exact fa_44_0 | exact fa_44_1 | exact fa_44_2 | exact fa_44_3 | exact fa_44_4 | exact fa_59_0 | exact fa_59_3 | exact fa_59_4 | exact fa_64_0 | exact fa_64_1 | exact fa_64_2 | exact fa_64_3 | exact fa_64_4 | exact fa_64_5 | exact fa_74_0 | exact fa_74_1 | exact fa_93_0) (by first | exact l1_21 | exact l1_22 | exact l1_23 | exact l1_29 | exact l1_3 | exact l1_35 | exact l1_4 | exact l1_5 | exact l1_61 | exact l1_62 | exact l1_72 | exact l1_9 | exact l1_91) rfl ?_
  have hav1 := hav.ext x1
  refine ldx xa_62 l1_3 hav1 (by omega) (by omega) rfl ?_
  have D1 : Ext w1 w1.drew := (Ext.refl _).drew
  refine drawD.mk' (fun w' => Ext w1 w') D1 ?_
  refine yA (fun w' hw => hb1.ext hw) la_64 rfl ?_
  refine ySl xa_62 l1_3 hav1 (fun w' hw => hw) (by omega) (by omega) rfl ?_
  refine ySl xa_62 l1_3 hav1 (fun w' hw => hw) (by omega) (by omega) rfl ?_
  refine (touch_ok (rb := rb) (who := who) (a := sa) (b := sb) (av := av)).mono fun _ w2 x2 => ?_
  have X2 := D1.trans x2
  refine ⟨X2, ?_⟩
  refine drawD.mk' (fun w' => Ext w1 w') X2.drew ?_
  refine yA (fun w' hw => hb1.ext hw) la_64 rfl ?_
  refine ySl xa_62 l1_3 hav1 (fun w' hw => hw) (by omega) (by omega) rfl ?_
  refine ySl xa_62 l1_3 hav1 (fun w' hw => hw) (by omega) (by omega) rfl ?_
  refine (touch_ok (rb := rb) (who := who) (a := sa) (b := sb) (av := av)).mono fun _ w3 x3 => ?_
  have X3 := X2.drew.trans x3
  refine ⟨X3, ?_⟩
  refine drawD.mk' (fun w' => Ext w1 w') X3.drew ?_
  refine yA (fun w' hw => hb1.ext hw) la_64 rfl ?_
  refine ySl xa_62 l1_3 hav1 (fun w' hw => hw) (by omega) (by omega) rfl ?_
  refine ySl xa_62 l1_3 hav1 (fun w' hw => hw) (by omega) (by omega) rfl ?_
  have Y3 := x1.trans X3.drew
  refine (rangesW_ok (h.ext Y3) hk1 (hd1.ext Y3) hl1 (who := who) (sa := sa) (sb := sb) (av := av) hn1).mono fun r w4 ⟨hr, x4⟩ => ?_
  subst hr
  have X4 := X3.drew.trans x4
  refine ⟨X4, V_neqI.2 ?_⟩
  simp only [ne_eq, not_true_eq_false, ifD_false, decide_false]
  refine drawD.mk' (fun w' => Ext w1 w') X4.drew ?_
  refine yA (fun w' hw => hb1.ext hw) la_64 rfl ?_
  refine ySl xa_62 l1_3 hav1 (fun w' hw => hw) (by omega) (by omega) rfl ?_
  refine ySl xa_62 l1_3 hav1 (fun w' hw => hw) (by omega) (by omega) rfl ?_
  have Y4 := x1.trans X4.drew
  refine (rangesW_ok (h.ext Y4) hk2 (hd2.ext Y4) hl2 (who := who) (sa := sa) (sb := sb) (av := av) hn2).mono fun r w5 ⟨hr, x5⟩ => ?_
  exact ⟨X4.drew.trans x5, hr, Y4.trans x5⟩
/-- What a copy leaves, so far. -/
def CopySo (l S : List Int) (a i : Nat) (cur : List Int) : Prop := cur.length = l.length ∧ ∀ j, cur[j]? = if a ≤ j ∧ j < a + i then S[j - a]? else l[j]?
theorem CopySo.step {l S cur : List Int} {a i : Nat} (h : CopySo l S a i cur) (hi : i < S.length) (ha : a + i < l.length) : CopySo l S a (i + 1) (cur.set (a + i) (S.getD i 0)) := by
  refine ⟨by simp [h.1], fun j => ?_⟩
  by_cases hj : a + i = j
  · subst hj
    rw [List.getElem?_set_self (by have := h.1; omega), if_pos (by omega)]
    simp [List.getD, hi]
  · rw [List.getElem?_set_ne hj, h.2 j]
    by_cases h1 : a ≤ j ∧ j < a + i
    · rw [if_pos h1, if_pos (by omega)]
    · rw [if_neg h1, if_neg (by omega)]
theorem CopySo.done {l S cur : List Int} {a : Nat} (h : CopySo l S a S.length cur) (ha : a + S.length ≤ l.length) : cur = l.take a ++ S ++ l.drop (a + S.length) := by
  apply List.ext_getElem?
  intro j
  rw [h.2 j]
  have hta : (l.take a).length = a := by simp; omega
  by_cases h1 : j < a
  · rw [if_neg (by omega), List.append_assoc, List.getElem?_append_left (by omega), List.getElem?_take, if_pos h1]
  · by_cases h2 : j < a + S.length
    · rw [if_pos (by omega), List.append_assoc, List.getElem?_append_right (by omega), hta, List.getElem?_append_left (by omega)]
    · rw [if_neg (by omega), List.getElem?_append_right (by simp; omega), List.getElem?_drop]
      congr 1
      simp
      omega
set_option maxHeartbeats 1600000 in
theorem copyW_ok {w : World} {rb hb ab B : Nat} {d1 d2 pub sec av : Value} (h : RoomIs w rb hb ab d1 d2 pub sec) {k1 k2 : Nat} (hk1 : k1 < 2) (hk2 : k2 < 2) {l1 l2 : List Int} (ho1 : w.ownsRow B 5 1 (dk k1 d1 d2) l1.length (l1.map u8)) (hd2 : BytesAre w (dk k2 d1 d2) l2) (hl1 : l1.length ≤ 1000) (hl2 : l2.length ≤ 1000) {who sa sb : Int} {a c n : Nat}
    (hn1 : a + n ≤ l1.length) (hn2 : c + n ≤ l2.length) (hrb : rb < B) (hav : SliceIs w av 1 5 [i64 ((k1 : Int) + 1), i64 (a : Int), i64 ((k2 : Int) + 1), i64 (c : Int), i64 (n : Int)]) (hva : ∀ w', Fr (fun i => (dk k1 d1 d2).ownBlock = some i) w w' → SliceIs w' av 1 5 [i64 ((k1 : Int) + 1), i64 (a : Int), i64 ((k2 : Int) + 1), i64 (c : Int), i64 (n : Int)]) :
    callD Try.prog 29 #[svc rb who sa sb av] w fun r w' => r = .tuple #[i32 0, i64 36864] ∧ w'.ownsRow B 5 1 (dk k1 d1 d2) l1.length ((l1.take a ++ (l2.drop c).take n ++ l1.drop (a + n)).map u8) ∧ Fr (fun i => (dk k1 d1 d2).ownBlock = some i) w w' := by
  have hd1 : BytesAre w (dk k1 d1 d2) l1 := SliceIs.of_own ho1
  have hlt := h.lt
  have far : ∀ i, i < B → (dk k1 d1 d2).ownBlock ≠ some i := fun i hi he => by have := (ho1.lt i he).1; omega
  have hown : ∀ i, (dk k1 d1 d2).ownBlock = some i → i < w.heap.size := fun i hi => (ho1.lt i hi).2
  apply F29_wp
  unfold F29_den
  refine bxK fun w1 hb1 x1 => ?_
  refine ldA hb1.boxed la_64 rfl ?_
  refine (bothW_ok (h.ext x1) hk1 hk2 (hd1.ext x1) (hd2.ext x1) hl1 hl2 (who := who) (sa := sa) (sb := sb) (av := av) hn1 hn2 (hav.ext x1)).mono fun r w2 ⟨hr, x2⟩ => ?_
  subst hr
  refine V_neqI.2 ?_
  simp only [ne_eq, not_true_eq_false, ifD_false, decide_false]
  have X2 := x1.trans x2
  have hb2 := hb1.ext x2
  have hav2 := hav.ext X2
  refine ldB hb2.boxed (by first | exact fa_37_0 | exact fa_37_1 | exact fa_37_2 | exact fa_37_3 | exact fa_37_4 | exact fa_44_0 | exact fa_44_1 | exact fa_44_2 | exact fa_44_3 | exact fa_44_4 | exact fa_59_0 | exact fa_59_3 | exact fa_59_4 | exact fa_64_0 | exact fa_64_1 | exact fa_64_2 | exact fa_64_3 | exact fa_64_4 | exact fa_64_5 | exact fa_74_0 | exact fa_74_1 | exact fa_93_0) (by first | exact l1_21 | exact l1_22 | exact l1_23 | exact l1_29 | exact l1_3 | exact l1_35 | exact l1_4 | exact l1_5 | exact l1_61 | exact l1_62 | exact l1_72 | exact l1_9 | exact l1_91) rfl ?_
  have D2 : Ext w2 w2.drew := (Ext.refl _).drew
  refine drawD.mk' (fun w' => Ext w2 w') D2 ?_
  refine yA (fun w' hw => (hb2.ext hw).boxed) la_64 rfl ?_
  refine ySl xa_62 l1_3 hav2 (fun w' hw => hw) (by omega) (by omega) rfl ?_
  refine ySl xa_62 l1_3 hav2 (fun w' hw => hw) (by omega) (by omega) rfl ?_
  refine ySl xa_62 l1_3 hav2 (fun w' hw => hw) (by omega) (by omega) rfl ?_
  have X2' := X2.trans D2
  refine (bytesW_ok (h.ext X2') hk2 (hd2.ext X2') hl2 (who := who) (sa := sa) (sb := sb) (av := av) hn2).mono fun sv w3 ⟨hsv, x3⟩ => ?_
  have x23 := D2.trans x3
  have X3 := X2.trans x23
  refine ⟨x23, ?_⟩
  have hSl : ((l2.drop c).take n).length = n := by simp; omega
  have hS3 := hsv w3 (Fr.refl _ _)
  refine yLen (by first | exact xa_22 | exact xa_35 | exact xa_41 | exact xa_62 | exact xa_72 | exact xa_91) hS3 ?_
  refine ⟨fun v w' => ∃ (i : Nat) (cur : List Int), v = i64 i ∧ i ≤ n ∧ CopySo l1 ((l2.drop c).take n) a i cur ∧ w'.ownsRow B 5 1 (dk k1 d1 d2) l1.length (cur.map u8) ∧ Fr (fun i => (dk k1 d1 d2).ownBlock = some i) w3 w',
    fun v _ => n - (RowKit.intOf v).toNat, ⟨0, l1, rfl, Nat.zero_le _, ⟨rfl, fun j => by rw [if_neg (by omega)]⟩, X3.own ho1, Fr.refl _ _⟩, ?_⟩
  rintro _ w4 ⟨i, cur, rfl, hi, hcur, ho4, f4⟩ _
  have F4 : Fr (fun i => (dk k1 d1 d2).ownBlock = some i) w w4 := (Fr.of_ext (S := fun i => (dk k1 d1 d2).ownBlock = some i) X3).trans f4 fun _ _ h => h
  rw [hSl]
  refine V_lss.2 (ifD_dec (fun hlt2 => ?_) fun hge => ?_)
  · have hi' : i < n := by omega
    have hS4 := hsv w4 (f4.mono fun j hj => by have := hown j hj; have := X2'.size; omega)
    have hS4' : SliceIs w4 sv 1 n (((l2.drop c).take n).map u8) := by have := hS4; unfold BytesAre at this; rw [hSl] at this; exact this
    refine ldx xa_22 l1_5 hS4' (by omega) (by omega) (getD_u8 (by omega)) ?_
    have hb4 : Blk w4 w.heap.size _ _ := f4.blk (hb2.ext x23) fun he => by have := hown _ he; omega
    have h4 := h.fr F4 (far rb hrb) (far hb (by omega)) (far ab (by omega))
    have hav4 := hva w4 F4
    have D4 : Ext w4 w4.drew := (Ext.refl _).drew
    have G : ∀ w', Fr (fun i => (dk k1 d1 d2).ownBlock = some i) w4 w' → Fr (fun i => (dk k1 d1 d2).ownBlock = some i) w w' := fun w' hw => F4.trans hw fun _ _ h => h
    have hR : ∀ w', Fr (fun i => (dk k1 d1 d2).ownBlock = some i) w4 w' → RoomIs w' rb hb ab d1 d2 pub sec := fun w' hw => h.fr (G w' hw) (far rb hrb) (far hb (by omega)) (far ab (by omega))
    have hnb : (dk k1 d1 d2).ownBlock ≠ some w.heap.size := fun he => by have := hown _ he; omega
    refine drawD.mk' (fun w' => Fr (fun i => (dk k1 d1 d2).ownBlock = some i) w4 w') (Fr.of_ext D4) ?_
    refine yfB (fun w' hw => (hw.blk hb4 hnb).boxed) (by first | exact fa_37_0 | exact fa_37_1 | exact fa_37_2 | exact fa_37_3 | exact fa_37_4 | exact fa_44_0 | exact fa_44_1 | exact fa_44_2 | exact fa_44_3 | exact fa_44_4 | exact fa_59_0 | exact fa_59_3 | exact fa_59_4 | exact fa_64_0 | exact fa_64_1 | exact fa_64_2 | exact fa_64_3 | exact fa_64_4 | exact fa_64_5 | exact fa_74_0 | exact fa_74_1 | exact fa_93_0) (by first | exact l1_21 | exact l1_22 | exact l1_23 | exact l1_29 | exact l1_3 | exact l1_35 | exact l1_4 | exact l1_5 | exact l1_61 | exact l1_62 | exact l1_72 | exact l1_9 | exact l1_91) rfl ?_
    refine ⟨.inl ⟨_, rfl⟩, ?_⟩
    refine yfB (fun w' hw => (hR w' hw).room.boxed) (by first | exact fa_37_0 | exact fa_37_1 | exact fa_37_2 | exact fa_37_3 | exact fa_37_4 | exact fa_44_0 | exact fa_44_1 | exact fa_44_2 | exact fa_44_3 | exact fa_44_4 | exact fa_59_0 | exact fa_59_3 | exact fa_59_4 | exact fa_64_0 | exact fa_64_1 | exact fa_64_2 | exact fa_64_3 | exact fa_64_4 | exact fa_64_5 | exact fa_74_0 | exact fa_74_1 | exact fa_93_0) (by first | exact l1_21 | exact l1_22 | exact l1_23 | exact l1_29 | exact l1_3 | exact l1_35 | exact l1_4 | exact l1_5 | exact l1_61 | exact l1_62 | exact l1_72 | exact l1_9 | exact l1_91) rfl ?_
    refine ySlF xa_62 l1_3 hav (fun w' hw => hva w' (G w' hw)) (by omega) (by omega) rfl ?_
    refine ySlF xa_62 l1_3 hav (fun w' hw => hva w' (G w' hw)) (by omega) (by omega) rfl ?_
    refine yieldS.ok (fun w' _ => r_add) ?_
    rw [show IntKind.i64.wrap ((a : Int) + (i : Int)) = ((a + i : Nat) : Int) from by rw [wrap_id (by omega) (by omega)]; omega]
    have hcl := hcur.1
    have ho5 := D4.own ho4
    rw [← hcl] at ho5
    refine (putW_ok (hR _ (Fr.of_ext D4)) hk1 ho5 (by omega) (a := a + i) (by omega)).mono fun _ w5 ⟨ho6, hg6⟩ => ?_
    have f45 : Fr (fun i => (dk k1 d1 d2).ownBlock = some i) w4 w5 := (Fr.of_ext (S := fun i => (dk k1 d1 d2).ownBlock = some i) D4).trans (Fr.of_grown (S := fun i => (dk k1 d1 d2).ownBlock = some i) hg6 fun k hk => hk) fun _ _ h => h
    refine ⟨f45, V_add.2 ?_⟩
    rw [wrap_id (by omega) (by omega), i64_succ]
    rw [hcl] at ho6
    exact ⟨⟨i + 1, _, rfl, by omega, hcur.step (by omega) (by omega), ho6, f4.trans f45 fun _ _ h => h⟩, by simp only [intOf_i64]; omega⟩
  · have hin : i = n := by omega
    subst hin
    have h9 : CopySo l1 ((l2.drop c).take i) a ((l2.drop c).take i).length cur := by rw [hSl]; exact hcur
    have := h9.done (by omega)
    rw [hSl] at this
    exact ⟨trivial, this ▸ ho4, F4⟩
end Go.Proofs.Ytgjmpnngheohbaa
namespace Go.Proofs.Ytgjmpnngheohbaa
open Go.Vc
set_option maxHeartbeats 1600000 in
theorem setbuf_ok {w : World} {rb hb ab : Nat} {d1 d2 pub sec v : Value} (h : RoomIs w rb hb ab d1 d2 pub sec) {k : Nat} (hk : k < 2) {l : List Int} (hv : BytesAre w v l) (hl : l.length ≤ 64) :
    callD Try.prog 20 #[.pointer (some ⟨hb, 0, none⟩), i64 ((k : Int) + 1), v] w fun _ w' => ∃ v', RoomIs w' rb hb ab (if k = 0 then v' else d1) (if k = 0 then d2 else v') pub sec ∧ w'.ownsRow w.heap.size 5 1 v' l.length (l.map u8) ∧ Fr (fun i => i = ab) w w' := by
  apply F20_wp
  have hlt := h.lt
  have key : ∀ {R : Value → World → Prop}, (callD Try.prog 32 #[.pointer (some ⟨hb, 0, none⟩), i64 ((k : Int) + 1)] w fun t20 w9 => callD Try.prog 33 #[v] w9 fun t22 w10 => Go.Vc.Safe (t20) ∧
      V Try.prog (Instr.fieldAt 37 t20 4) w10 fun t24 w12 => U Try.prog (Instr.storeAt 22 t24 t22) w12 fun _ w13 => R (Value.bool true) w13) → F20_den (.pointer (some ⟨hb, 0, none⟩)) (i64 ((k : Int) + 1)) v w R := by
    intro R hgo
    unfold F20_den
    refine V_neqI.2 ?_
    have h2 : k = 0 ∨ k = 1 := by omega
    rcases h2 with rfl | rfl
    · simp only [show decide ((((0 : Nat) : Int) + 1) ≠ 1) = false by decide, gd_f, gd_ft, pickD_iff, reduceIte, Bool.false_eq_true]
      refine lnx (by first | exact xa_22 | exact xa_35 | exact xa_41 | exact xa_62 | exact xa_72 | exact xa_91) hv ?_
      refine V_gtr.2 ?_
      simp only [show ¬ (((l.length : Nat) : Int) > 64) by omega, ifD_false, decide_false]
      exact hgo
    · simp only [show decide ((((1 : Nat) : Int) + 1) ≠ 1) = true by decide, show decide ((((1 : Nat) : Int) + 1) ≠ 2) = false by decide, V_neqI, gd_t, gd_f, pickD_iff, reduceIte, Bool.false_eq_true]
      refine lnx (by first | exact xa_22 | exact xa_35 | exact xa_41 | exact xa_62 | exact xa_72 | exact xa_91) hv ?_
      refine V_gtr.2 ?_
      simp only [show ¬ (((l.length : Nat) : Int) > 64) by omega, ifD_false, decide_false]
      exact hgo
  refine key ?_
  refine (at_ok h hk).mono fun r w1 ⟨hr, hw⟩ => ?_
  subst hr; have hw := hw.symm; subst hw
  refine (clone_u8 hv (by omega)).mono fun v' w1 ⟨ho, x1⟩ => ?_
  have h1 := h.ext x1
  refine ⟨.inl ⟨_, rfl⟩, ?_⟩
  refine V.ok r_fd_37_4 ?_
  have hcell : w1.cell? ⟨ab, k * 5 + 4, none⟩ = some (dk k d1 d2) := h1.get hk 4 (by omega)
  refine U.ok (r_store inf22 (own_one ho) hcell (h1.arr.frozen _)) ?_
  have f : Fr (fun i => i = ab) w1 (w1.setCell ⟨ab, k * 5 + 4, none⟩ v') := Fr.of_set rfl
  have hal := h.arr.lt
  refine ⟨v', ⟨f.blk h1.room (by omega), f.blk h1.heap (by omega), ?_, hlt⟩, f.own ho fun i hi he => by have := (ho.lt i hi).1; omega, (Fr.of_ext (S := fun i => i = ab) x1).trans f fun _ _ h => h⟩
  have := h1.arr.set (k * 5 + 4) v'
  have h2 : k = 0 ∨ k = 1 := by omega
  rcases h2 with rfl | rfl
  · exact this
  · exact this
set_option maxHeartbeats 1600000 in
theorem begin_ok {w : World} {rb hb ab : Nat} {d1 d2 pub sec pv sv : Value} (h : RoomIs w rb hb ab d1 d2 pub sec) {p s : List Int} (hp : BytesAre w pv p) (hs : BytesAre w sv s) (hpl : p.length ≤ 64) (hsl : s.length ≤ 64) (hbp : ∀ w', Fr (fun i => i = ab) w w' → BytesAre w' sv s) :
    callD Try.prog 10 #[.pointer (some ⟨rb, 0, none⟩), pv, sv] w fun r w' => r = .bool true ∧ ∃ d1' d2', RoomIs w' rb hb ab d1' d2' (.slice none 0 0) (.slice none 0 0) ∧ w'.ownsRow w.heap.size 5 1 d1' p.length (p.map u8) ∧ w'.ownsRow w.heap.size 5 1 d2' s.length (s.map u8) ∧
      (∀ i, d1'.ownBlock = some i → d2'.ownBlock ≠ some i) ∧ Fr (fun i => i = ab ∨ i = rb) w w' := by
  apply F10_wp
  unfold F10_den
  have hlt := h.lt
  have hrl := h.room.lt
  refine lnx (by first | exact xa_22 | exact xa_35 | exact xa_41 | exact xa_62 | exact xa_72 | exact xa_91) hp ?_
  refine V_gtr.2 ?_
  simp only [show ¬ (((p.length : Nat) : Int) > 64) by omega, gd_f, pickD_iff, reduceIte, Bool.false_eq_true, decide_false]
  refine lnx (by first | exact xa_22 | exact xa_35 | exact xa_41 | exact xa_62 | exact xa_72 | exact xa_91) hs ?_
  refine V_gtr.2 ?_
  simp only [show ¬ (((s.length : Nat) : Int) > 64) by omega, ifD_false, decide_false]
  refine ⟨.inl ⟨_, rfl⟩, ?_⟩
  refine ldB h.room.boxed (by first | exact fa_37_0 | exact fa_37_1 | exact fa_37_2 | exact fa_37_3 | exact fa_37_4 | exact fa_44_0 | exact fa_44_1 | exact fa_44_2 | exact fa_44_3 | exact fa_44_4 | exact fa_59_0 | exact fa_59_3 | exact fa_59_4 | exact fa_64_0 | exact fa_64_1 | exact fa_64_2 | exact fa_64_3 | exact fa_64_4 | exact fa_64_5 | exact fa_74_0 | exact fa_74_1 | exact fa_93_0) (by first | exact l1_21 | exact l1_22 | exact l1_23 | exact l1_29 | exact l1_3 | exact l1_35 | exact l1_4 | exact l1_5 | exact l1_61 | exact l1_62 | exact l1_72 | exact l1_9 | exact l1_91) rfl ?_
  refine (setbuf_ok h (k := 0) (by omega) hp hpl).mono fun _ w1 ⟨v1, h1, ho1, f1⟩ => ?_
  simp only [if_true] at h1
  refine ⟨.inl ⟨_, rfl⟩, ?_⟩
  refine ldB h1.room.boxed (by first | exact fa_37_0 | exact fa_37_1 | exact fa_37_2 | exact fa_37_3 | exact fa_37_4 | exact fa_44_0 | exact fa_44_1 | exact fa_44_2 | exact fa_44_3 | exact fa_44_4 | exact fa_59_0 | exact fa_59_3 | exact fa_59_4 | exact fa_64_0 | exact fa_64_1 | exact fa_64_2 | exact fa_64_3 | exact fa_64_4 | exact fa_64_5 | exact fa_74_0 | exact fa_74_1 | exact fa_93_0) (by first | exact l1_21 | exact l1_22 | exact l1_23 | exact l1_29 | exact l1_3 | exact l1_35 | exact l1_4 | exact l1_5 | exact l1_61 | exact l1_62 | exact l1_72 | exact l1_9 | exact l1_91) rfl ?_
  refine (setbuf_ok h1 (k := 1) (by omega) (hbp w1 f1) hsl).mono fun _ w2 ⟨v2, h2, ho2, f2⟩ => ?_
  simp only [if_neg (show ¬ (1 : Nat) = 0 by decide)] at h2
  have ho1' := f2.own ho1 fun i hi he => by have := (ho1.lt i hi).1; omega
  refine ⟨.inl ⟨_, rfl⟩, ?_⟩
  refine stF (by first | exact fa_37_0 | exact fa_37_1 | exact fa_37_2 | exact fa_37_3 | exact fa_37_4 | exact fa_44_0 | exact fa_44_1 | exact fa_44_2 | exact fa_44_3 | exact fa_44_4 | exact fa_59_0 | exact fa_59_3 | exact fa_59_4 | exact fa_64_0 | exact fa_64_1 | exact fa_64_2 | exact fa_64_3 | exact fa_64_4 | exact fa_64_5 | exact fa_74_0 | exact fa_74_1 | exact fa_93_0) inf22 h2.room rfl (by simp) rfl ?_
  have hr3 := h2.room.set 3 (.slice none 0 0)
  have f3 : Fr (fun i => i = rb) w2 (w2.setCell ⟨rb, 3, none⟩ (.slice none 0 0)) := Fr.of_set rfl
  refine ⟨.inl ⟨_, rfl⟩, ?_⟩
  refine stF (by first | exact fa_37_0 | exact fa_37_1 | exact fa_37_2 | exact fa_37_3 | exact fa_37_4 | exact fa_44_0 | exact fa_44_1 | exact fa_44_2 | exact fa_44_3 | exact fa_44_4 | exact fa_59_0 | exact fa_59_3 | exact fa_59_4 | exact fa_64_0 | exact fa_64_1 | exact fa_64_2 | exact fa_64_3 | exact fa_64_4 | exact fa_64_5 | exact fa_74_0 | exact fa_74_1 | exact fa_93_0) inf22 hr3 rfl (by simp) rfl ?_
  have hr4 := hr3.set 4 (.slice none 0 0)
  have f4 : Fr (fun i => i = rb) w2 ((w2.setCell ⟨rb, 3, none⟩ (.slice none 0 0)).setCell ⟨rb, 4, none⟩ (.slice none 0 0)) := f3.set rfl
  have s1 := f1.size
  have s2 := f2.size
  refine ⟨by first | rfl | trivial, v1, v2, ⟨hr4, f4.blk h2.heap (by omega), f4.blk h2.arr (by omega), hlt⟩, f4.own ho1' fun i hi he => by have := (ho1.lt i hi).1; omega, own_mono (f4.own ho2 fun i hi he => by have := (ho2.lt i hi).1; omega) s1, fun i h1 h2 => ?_, ?_⟩
  · have := (ho1.lt i h1).2
    have := (ho2.lt i h2).1
    omega
  · refine ((f1.trans f2 fun _ _ h => h).or f4)
end Go.Proofs.Ytgjmpnngheohbaa
namespace Go.Proofs.Ytgjmpnngheohbaa
open Go.Vc
theorem wrap32 {n : Int} (h0 : 0 ≤ n) (h1 : n ≤ 1000000) : IntKind.i32.wrap n = n := by
  simp only [IntKind.wrap_i32]
  omega
theorem serves31_ok {w : World} : callD Try.prog 21 #[i64 31] w fun r w' => r = i64 5 ∧ w' = w := by
  apply F21_wp
  unfold F21_den
  refine ⟨fun v w' => v = .bool false ∧ w' = w, ?_, ?_⟩
  · simp only [V_eqlI, Int.reduceEq, decide_false, ifD_false]
    exact ⟨trivial, trivial⟩
  rintro _ w' ⟨rfl, hw⟩ _
  have hw := hw.symm; subst hw
  refine ifD_false.2 ?_
  refine ⟨fun v w' => v = .bool false ∧ w' = w, ?_, ?_⟩
  · simp only [V_eqlI, Int.reduceEq, decide_false, ifD_false]
    exact ⟨trivial, trivial⟩
  rintro _ w' ⟨rfl, hw⟩ _
  have hw := hw.symm; subst hw
  refine ifD_false.2 ?_
  refine ⟨fun v w' => v = .bool false ∧ w' = w, ?_, ?_⟩
  · simp only [V_eqlI, Int.reduceEq, decide_false, ifD_false]
    exact ⟨trivial, trivial⟩
  rintro _ w' ⟨rfl, hw⟩ _
  have hw := hw.symm; subst hw
  simp only [V_eqlI, Int.reduceEq, decide_false, decide_true, ifD_false, ifD_true]
  exact ⟨trivial, trivial⟩
set_option maxHeartbeats 1600000 in
theorem serve31_ok {w : World} {rb : Nat} {who sa sb : Int} {av : Value} {xs : List Int} (hxs : SliceIs w av 1 5 (xs.map i32)) (hl : xs.length = 5) (hsm : ∀ z ∈ xs, 0 ≤ z ∧ z ≤ 1000000) {Rr : Value → World → Prop}
    (hk : ∀ w1 av', Ext w w1 → w1.ownsRow w.heap.size 3 1 av' 5 (xs.map i64) → callD Try.prog 29 #[svc rb who sa sb av'] w1 (fun r w' => ∃ p q, r = .tuple #[p, q] ∧ Rr (.tuple #[p, q]) w')) :
    callD Try.prog 12 #[.pointer (some ⟨rb, 0, none⟩), .pointer none, i64 who, i64 31, i64 sa, i64 sb, av] w Rr := by
  refine F12_wp ?_
  have key : ∀ {R : Value → World → Prop}, (∀ w1 av', Ext w w1 → w1.ownsRow w.heap.size 3 1 av' 5 (xs.map i64) → callD Try.prog 29 #[svc rb who sa sb av'] w1 (fun r w' => ∃ p q, r = .tuple #[p, q] ∧ R (.tuple #[p, q]) w')) → F12_den (.pointer (some ⟨rb, 0, none⟩)) (.pointer none) (i64 who) (i64 31) (i64 sa) (i64 sb) av w R := by
    intro R hk
    unfold F12_den
    refine V.ok (r_eqPtr Try.underlying23) ?_
    simp only [gd_f]
    refine lnx (by first | exact xa_22 | exact xa_35 | exact xa_41 | exact xa_62 | exact xa_72 | exact xa_91) hxs ?_
    refine serves31_ok.mono fun r w' ⟨hr, hw⟩ => ?_
    subst hr; have hw := hw.symm; subst hw
    refine V_neqI.2 ?_
    simp only [show decide (((5 : Nat) : Int) ≠ 5) = false by decide, pickD_iff, Bool.false_eq_true, reduceIte]
    refine ifD_false.2 ?_
    refine bld bd_64 [(0, .pointer (some ⟨rb, 0, none⟩)), (1, .pointer none), (2, i64 who), (3, i64 sa), (4, i64 sb)] rfl rfl ?_
    refine asK (by first | exact sa_37 | exact sa_42 | exact sa_44 | exact sa_64) rfl rfl fun w1 hb1 x1 => ?_
    refine lnx (by first | exact xa_22 | exact xa_35 | exact xa_41 | exact xa_62 | exact xa_72 | exact xa_91) (hxs.ext x1) ?_
    refine ⟨fun v w' => ∃ (i : Nat) (ov : Value), v = i64 i ∧ i ≤ 5 ∧ Ext w w' ∧ Blk w' w.heap.size [.pointer (some ⟨rb, 0, none⟩), .pointer none, i64 who, i64 sa, i64 sb, ov] 64 ∧ w'.ownsRow w.heap.size 3 1 ov i ((xs.take i).map i64) ∧ ov.ownBlock ≠ some w.heap.size,
      fun v _ => 5 - (RowKit.intOf v).toNat, ⟨0, _, rfl, Nat.zero_le _, x1, hb1, by rw [List.take_zero]; exact ⟨rfl, .inl ⟨rfl, rfl⟩⟩, fun h => by cases h⟩, ?_⟩
    rintro _ w2 ⟨i, ov, rfl, hi, x2, hb2, ho2, hne2⟩ _
    refine V_lss.2 (ifD_dec (fun hlt => ?_) fun hge => ?_)
    · obtain ⟨z, hz⟩ := ex_get (l := xs) (j := i) (by omega)
      have hzb := hsm z (List.mem_of_getElem? hz)
      refine ldx xa_35 l1_21 (hxs.ext x2) (by omega) (by omega) (by simp [hz] : (xs.map i32)[((i : Nat) : Int).toNat]? = some (i32 z)) ?_
      refine ldB hb2.boxed (by first | exact fa_37_0 | exact fa_37_1 | exact fa_37_2 | exact fa_37_3 | exact fa_37_4 | exact fa_44_0 | exact fa_44_1 | exact fa_44_2 | exact fa_44_3 | exact fa_44_4 | exact fa_59_0 | exact fa_59_3 | exact fa_59_4 | exact fa_64_0 | exact fa_64_1 | exact fa_64_2 | exact fa_64_3 | exact fa_64_4 | exact fa_64_5 | exact fa_74_0 | exact fa_74_1 | exact fa_93_0) (by first | exact l1_21 | exact l1_22 | exact l1_23 | exact l1_29 | exact l1_3 | exact l1_35 | exact l1_4 | exact l1_5 | exact l1_61 | exact l1_62 | exact l1_72 | exact l1_9 | exact l1_91) rfl ?_
      refine V.ok (r_convI Try.underlying21 Try.underlying3) ?_
      rw [wrap_id (by omega) (by omega)]
      refine bsl (by first | exact xe_22 | exact xe_35 | exact xe_62) [i64 z] rfl rfl (by simp) rfl fun v3 w3 ho3 x3 => ?_
      have X3 := x2.trans x3
      have hb3 := hb2.ext x3
      refine apL (by first | exact xe_22 | exact xe_35 | exact xe_62) (x3.own ho2) ho3 (by simp) (by simp [oneC]) (by omega) (by unfold maxLen; omega) X3.size fun g cap w4 ho4 hg4 hlies => ?_
      have f4 : Fr (fun j => ov.ownBlock = some j) w3 w4 := Fr.of_grown hg4 fun k hk => hk
      have hb4 := f4.blk hb3 hne2
      have hbl := hb3.lt
      have hgne : g ≠ w.heap.size := by
        rcases hlies with h | h
        · intro he; exact hne2 (he ▸ h)
        · omega
      refine stF (by first | exact fa_37_0 | exact fa_37_1 | exact fa_37_2 | exact fa_37_3 | exact fa_37_4 | exact fa_44_0 | exact fa_44_1 | exact fa_44_2 | exact fa_44_3 | exact fa_44_4 | exact fa_59_0 | exact fa_59_3 | exact fa_59_4 | exact fa_64_0 | exact fa_64_1 | exact fa_64_2 | exact fa_64_3 | exact fa_64_4 | exact fa_64_5 | exact fa_74_0 | exact fa_74_1 | exact fa_93_0) inf62 hb4 rfl (by simp) rfl (V_add.2 ?_)
      rw [wrap_id (by omega) (by omega), i64_succ]
      have f5 : Fr (fun j => j = w.heap.size) w4 (w4.setCell ⟨w.heap.size, 5, none⟩ (.slice (some ⟨g, 0, none⟩) (i + 1) cap)) := Fr.of_set rfl
      refine ⟨⟨i + 1, _, rfl, by omega, f5.ext (f4.ext X3 fun j hj => (ho2.lt j hj).1) (fun j hj => by omega), hb4.set 5 _, ?_, fun he => hgne (by cases he; rfl)⟩, by simp only [intOf_i64]; omega⟩
      have := f5.own ho4 fun j hj he => hgne (by cases hj; exact he)
      rw [List.take_add_one, hz]
      simpa using this
    · have hin : i = 5 := by omega
      subst hin
      simp only [V_eqlI, Int.reduceEq, decide_false, decide_true, ifD_false, ifD_true]
      refine ldA hb2.boxed la_64 rfl ?_
      rw [List.take_of_length_le (by omega)] at ho2
      refine (hk w2 ov x2 ho2).mono fun r w3 ⟨p, q, hr, hR⟩ => ?_
      subst hr
      exact V_ext0.2 (V_ext1.2 hR)
  exact key hk
theorem serves36_ok {w : World} : callD Try.prog 21 #[i64 36] w fun r w' => r = i64 3 ∧ w' = w := by
  apply F21_wp
  unfold F21_den
  refine ⟨fun v w' => v = .bool false ∧ w' = w, ?_, ?_⟩
  · simp only [V_eqlI, Int.reduceEq, decide_false, ifD_false]
    exact ⟨trivial, trivial⟩
  rintro _ w' ⟨rfl, hw⟩ _
  have hw := hw.symm; subst hw
  refine ifD_false.2 ?_
  refine ⟨fun v w' => v = .bool false ∧ w' = w, ?_, ?_⟩
  · simp only [V_eqlI, Int.reduceEq, decide_false, ifD_false]
    exact ⟨trivial, trivial⟩
  rintro _ w' ⟨rfl, hw⟩ _
  have hw := hw.symm; subst hw
  refine ifD_false.2 ?_
  refine ⟨fun v w' => v = .bool true ∧ w' = w, ?_, ?_⟩
  · simp only [V_eqlI, Int.reduceEq, decide_false, decide_true, ifD_false]
    exact ⟨trivial, trivial⟩
  rintro _ w' ⟨rfl, hw⟩ _
  have hw := hw.symm; subst hw
  simp only [V_eqlI, Int.reduceEq, decide_false, ifD_false, ifD_true]
  exact ⟨trivial, trivial⟩
set_option maxHeartbeats 1600000 in
theorem serve36_ok {w : World} {rb : Nat} {who sa sb : Int} {av : Value} {xs : List Int} (hxs : SliceIs w av 1 3 (xs.map i32)) (hl : xs.length = 3) (hsm : ∀ z ∈ xs, 0 ≤ z ∧ z ≤ 1000000) {Rr : Value → World → Prop}
    (hk : ∀ w1 av', Ext w w1 → w1.ownsRow w.heap.size 3 1 av' 3 (xs.map i64) → callD Try.prog 31 #[svc rb who sa sb av'] w1 (fun r w' => ∃ p q, r = .tuple #[p, q] ∧ Rr (.tuple #[p, q]) w')) :
    callD Try.prog 12 #[.pointer (some ⟨rb, 0, none⟩), .pointer none, i64 who, i64 36, i64 sa, i64 sb, av] w Rr := by
  refine F12_wp ?_
  have key : ∀ {R : Value → World → Prop}, (∀ w1 av', Ext w w1 → w1.ownsRow w.heap.size 3 1 av' 3 (xs.map i64) → callD Try.prog 31 #[svc rb who sa sb av'] w1 (fun r w' => ∃ p q, r = .tuple #[p, q] ∧ R (.tuple #[p, q]) w')) → F12_den (.pointer (some ⟨rb, 0, none⟩)) (.pointer none) (i64 who) (i64 36) (i64 sa) (i64 sb) av w R := by
    intro R hk
    unfold F12_den
    refine V.ok (r_eqPtr Try.underlying23) ?_
    simp only [gd_f]
    refine lnx (by first | exact xa_22 | exact xa_35 | exact xa_41 | exact xa_62 | exact xa_72 | exact xa_91) hxs ?_
    refine serves36_ok.mono fun r w' ⟨hr, hw⟩ => ?_
    subst hr; have hw := hw.symm; subst hw
    refine V_neqI.2 ?_
    simp only [show decide (((3 : Nat) : Int) ≠ 3) = false by decide, pickD_iff, Bool.false_eq_true, reduceIte]
    refine ifD_false.2 ?_
    refine bld bd_64 [(0, .pointer (some ⟨rb, 0, none⟩)), (1, .pointer none), (2, i64 who), (3, i64 sa), (4, i64 sb)] rfl rfl ?_
    refine asK (by first | exact sa_37 | exact sa_42 | exact sa_44 | exact sa_64) rfl rfl fun w1 hb1 x1 => ?_
    refine lnx (by first | exact xa_22 | exact xa_35 | exact xa_41 | exact xa_62 | exact xa_72 | exact xa_91) (hxs.ext x1) ?_
    refine ⟨fun v w' => ∃ (i : Nat) (ov : Value), v = i64 i ∧ i ≤ 3 ∧ Ext w w' ∧ Blk w' w.heap.size [.pointer (some ⟨rb, 0, none⟩), .pointer none, i64 who, i64 sa, i64 sb, ov] 64 ∧ w'.ownsRow w.heap.size 3 1 ov i ((xs.take i).map i64) ∧ ov.ownBlock ≠ some w.heap.size,
      fun v _ => 3 - (RowKit.intOf v).toNat, ⟨0, _, rfl, Nat.zero_le _, x1, hb1, by rw [List.take_zero]; exact ⟨rfl, .inl ⟨rfl, rfl⟩⟩, fun h => by cases h⟩, ?_⟩
    rintro _ w2 ⟨i, ov, rfl, hi, x2, hb2, ho2, hne2⟩ _
    refine V_lss.2 (ifD_dec (fun hlt => ?_) fun hge => ?_)
    · obtain ⟨z, hz⟩ := ex_get (l := xs) (j := i) (by omega)
      have hzb := hsm z (List.mem_of_getElem? hz)
      refine ldx xa_35 l1_21 (hxs.ext x2) (by omega) (by omega) (by simp [hz] : (xs.map i32)[((i : Nat) : Int).toNat]? = some (i32 z)) ?_
      refine ldB hb2.boxed (by first | exact fa_37_0 | exact fa_37_1 | exact fa_37_2 | exact fa_37_3 | exact fa_37_4 | exact fa_44_0 | exact fa_44_1 | exact fa_44_2 | exact fa_44_3 | exact fa_44_4 | exact fa_59_0 | exact fa_59_3 | exact fa_59_4 | exact fa_64_0 | exact fa_64_1 | exact fa_64_2 | exact fa_64_3 | exact fa_64_4 | exact fa_64_5 | exact fa_74_0 | exact fa_74_1 | exact fa_93_0) (by first | exact l1_21 | exact l1_22 | exact l1_23 | exact l1_29 | exact l1_3 | exact l1_35 | exact l1_4 | exact l1_5 | exact l1_61 | exact l1_62 | exact l1_72 | exact l1_9 | exact l1_91) rfl ?_
      refine V.ok (r_convI Try.underlying21 Try.underlying3) ?_
      rw [wrap_id (by omega) (by omega)]
      refine bsl (by first | exact xe_22 | exact xe_35 | exact xe_62) [i64 z] rfl rfl (by simp) rfl fun v3 w3 ho3 x3 => ?_
      have X3 := x2.trans x3
      have hb3 := hb2.ext x3
      refine apL (by first | exact xe_22 | exact xe_35 | exact xe_62) (x3.own ho2) ho3 (by simp) (by simp [oneC]) (by omega) (by unfold maxLen; omega) X3.size fun g cap w4 ho4 hg4 hlies => ?_
      have f4 : Fr (fun j => ov.ownBlock = some j) w3 w4 := Fr.of_grown hg4 fun k hk => hk
      have hb4 := f4.blk hb3 hne2
      have hbl := hb3.lt
      have hgne : g ≠ w.heap.size := by
        rcases hlies with h | h
        · intro he; exact hne2 (he ▸ h)
        · omega
      refine stF (by first | exact fa_37_0 | exact fa_37_1 | exact fa_37_2 | exact fa_37_3 | exact fa_37_4 | exact fa_44_0 | exact fa_44_1 | exact fa_44_2 | exact fa_44_3 | exact fa_44_4 | exact fa_59_0 | exact fa_59_3 | exact fa_59_4 | exact fa_64_0 | exact fa_64_1 | exact fa_64_2 | exact fa_64_3 | exact fa_64_4 | exact fa_64_5 | exact fa_74_0 | exact fa_74_1 | exact fa_93_0) inf62 hb4 rfl (by simp) rfl (V_add.2 ?_)
      rw [wrap_id (by omega) (by omega), i64_succ]
      have f5 : Fr (fun j => j = w.heap.size) w4 (w4.setCell ⟨w.heap.size, 5, none⟩ (.slice (some ⟨g, 0, none⟩) (i + 1) cap)) := Fr.of_set rfl
      refine ⟨⟨i + 1, _, rfl, by omega, f5.ext (f4.ext X3 fun j hj => (ho2.lt j hj).1) (fun j hj => by omega), hb4.set 5 _, ?_, fun he => hgne (by cases he; rfl)⟩, by simp only [intOf_i64]; omega⟩
      have := f5.own ho4 fun j hj he => hgne (by cases hj; exact he)
      rw [List.take_add_one, hz]
      simpa using this
    · have hin : i = 3 := by omega
      subst hin
      simp only [V_eqlI, Int.reduceEq, decide_false, ifD_false]
      refine ldA hb2.boxed la_64 rfl ?_
      rw [List.take_of_length_le (by omega)] at ho2
      refine (hk w2 ov x2 ho2).mono fun r w3 ⟨p, q, hr, hR⟩ => ?_
      subst hr
      exact V_ext0.2 (V_ext1.2 hR)
  exact key hk
end Go.Proofs.Ytgjmpnngheohbaa
namespace Go.Vc
/-- An append of what lies in a slice, onto what the call owns, and where it lies. -/
theorem apS {P : Program} {w : World} {K : Value → World → Prop} {t e by_ ty : Nat} (h : XE P t e by_) {B : Nat} {v : Value} {n : Nat} {xs : List Value} (ho : w.ownsRow B e 1 v n xs) {x : Value} {m : Nat} {news : List Value} (hs : SliceIs w x 1 m news) (h1 : news.all oneC = true)
    (hb : (n + m) * by_ ≤ 140737488355328) (h63 : n + m ≤ maxLen) (hB : B ≤ w.heap.size)
    (hk : ∀ v' w', w'.ownsRow B e 1 v' (n + m) (xs ++ news) → w.grownBy w' v.ownBlock → (v'.ownBlock = v.ownBlock ∨ v'.ownBlock = some w.heap.size) → K v' w') :
    V P (Builtin.append_ #[t, t] ty #[v, x]) w K := by
  obtain ⟨z, ht, hi, hz⟩ := h
  obtain ⟨i, hi', hz', hn, hby⟩ := info_parts hi
  rcases hs.2 with ⟨rfl, rfl⟩ | ⟨b, off, cap, rfl, _, _, hc⟩
  · have hnews : news = [] := by have := hs.1; simpa using this
    subst hnews
    exact V.ok (run_append_owned_none w B t ty e i 1 ht hi' v n xs ho) (hk _ _ (by simpa using ho) ⟨rfl, rfl, rfl, Nat.le_refl _, fun _ _ _ => rfl⟩ (.inl rfl))
  · obtain ⟨v', w', hr, h2, h3, _, h5⟩ := run_append_own_at (P := P) w B t ty e i z 1 by_ ht hi' hz' hn hby (by simpa using hz) (by omega) v n xs ho ⟨b, off, none⟩ m cap news hs.1
      (fun j u hj => by rw [add_mk]; exact hc j u hj) (fun u hu => by rw [oneC_eq]; exact List.all_eq_true.1 h1 u hu) h63 hb hB
    exact V.ok hr (hk v' w' h2 h3 h5)
end Go.Vc
namespace Go.Proofs.Ytgjmpnngheohbaa
open Go.Vc
/-- A room whose buffers hold p1 and p2, and that told t1 and t2. -/
structure Tell (w : World) (rb hb ab B B1 : Nat) (d1 d2 pub sec : Value) (p1 p2 t1 t2 : List Int) : Prop where
  room : RoomIs w rb hb ab d1 d2 pub sec
  o1 : w.ownsRow B 5 1 d1 p1.length (p1.map u8)
  o2 : w.ownsRow B 5 1 d2 p2.length (p2.map u8)
  l1 : ∀ i, d1.ownBlock = some i → i < B1
  l2 : ∀ i, d2.ownBlock = some i → i < B1
  q1 : w.ownsRow B1 5 1 pub t1.length (t1.map u8)
  q2 : w.ownsRow B1 5 1 sec t2.length (t2.map u8)
  ne : ∀ i, pub.ownBlock = some i → sec.ownBlock ≠ some i
  lt : rb < B ∧ B ≤ B1 ∧ B1 ≤ w.heap.size
  n1 : p1.length ≤ 64
  n2 : p2.length ≤ 64
  m1 : t1.length ≤ 128
  m2 : t2.length ≤ 128
theorem Tell.ext {w w' : World} {rb hb ab B B1 : Nat} {d1 d2 pub sec : Value} {p1 p2 t1 t2 : List Int} (h : Tell w rb hb ab B B1 d1 d2 pub sec p1 p2 t1 t2) (hx : Ext w w') : Tell w' rb hb ab B B1 d1 d2 pub sec p1 p2 t1 t2 :=
  ⟨h.room.ext hx, hx.own h.o1, hx.own h.o2, h.l1, h.l2, hx.own h.q1, hx.own h.q2, h.ne, by have := h.lt; have := hx.size; omega, h.n1, h.n2, h.m1, h.m2⟩
def pk (k : Nat) (p1 p2 : List Int) : List Int := if k = 0 then p1 else p2
theorem Tell.bytes {w : World} {rb hb ab B B1 : Nat} {d1 d2 pub sec : Value} {p1 p2 t1 t2 : List Int} (h : Tell w rb hb ab B B1 d1 d2 pub sec p1 p2 t1 t2) {k : Nat} (hk : k < 2) : BytesAre w (dk k d1 d2) (pk k p1 p2) ∧ (pk k p1 p2).length ≤ 64 := by
  have h2 : k = 0 ∨ k = 1 := by omega
  rcases h2 with rfl | rfl
  · exact ⟨SliceIs.of_own h.o1, h.n1⟩
  · exact ⟨SliceIs.of_own h.o2, h.n2⟩
theorem told_ok {w : World} {rb hb ab B B1 : Nat} {d1 d2 pub sec : Value} {p1 p2 t1 t2 : List Int} (h : Tell w rb hb ab B B1 d1 d2 pub sec p1 p2 t1 t2) :
    callD Try.prog 14 #[.pointer (some ⟨rb, 0, none⟩)] w fun r w' => (∃ v1 v2, r = .tuple #[v1, v2] ∧ BytesAre w' v1 t1 ∧ BytesAre w' v2 t2) ∧ Ext w w' := by
  apply F14_wp
  unfold F14_den
  have m1 := h.m1; have m2 := h.m2
  have D : Ext w w.drew := (Ext.refl _).drew
  refine drawD.mk' (fun w' => Ext w w') D ⟨.inl ⟨_, rfl⟩, ?_⟩
  refine yfB (fun w' hw => (h.room.room.ext hw).boxed) (by first | exact fa_37_0 | exact fa_37_1 | exact fa_37_2 | exact fa_37_3 | exact fa_37_4 | exact fa_44_0 | exact fa_44_1 | exact fa_44_2 | exact fa_44_3 | exact fa_44_4 | exact fa_59_0 | exact fa_59_3 | exact fa_59_4 | exact fa_64_0 | exact fa_64_1 | exact fa_64_2 | exact fa_64_3 | exact fa_64_4 | exact fa_64_5 | exact fa_74_0 | exact fa_74_1 | exact fa_93_0) (by first | exact l1_21 | exact l1_22 | exact l1_23 | exact l1_29 | exact l1_3 | exact l1_35 | exact l1_4 | exact l1_5 | exact l1_61 | exact l1_62 | exact l1_72 | exact l1_9 | exact l1_91) rfl ⟨.inl ⟨_, rfl⟩, ?_⟩
  refine yfB (fun w' hw => (h.room.room.ext hw).boxed) (by first | exact fa_37_0 | exact fa_37_1 | exact fa_37_2 | exact fa_37_3 | exact fa_37_4 | exact fa_44_0 | exact fa_44_1 | exact fa_44_2 | exact fa_44_3 | exact fa_44_4 | exact fa_59_0 | exact fa_59_3 | exact fa_59_4 | exact fa_64_0 | exact fa_64_1 | exact fa_64_2 | exact fa_64_3 | exact fa_64_4 | exact fa_64_5 | exact fa_74_0 | exact fa_74_1 | exact fa_93_0) (by first | exact l1_21 | exact l1_22 | exact l1_23 | exact l1_29 | exact l1_3 | exact l1_35 | exact l1_4 | exact l1_5 | exact l1_61 | exact l1_62 | exact l1_72 | exact l1_9 | exact l1_91) rfl ?_
  refine (clone_u8 (SliceIs.of_own (D.own h.q1)) (by omega)).mono fun v1 w1 ⟨ho1, x1⟩ => ?_
  have X1 := D.trans x1
  refine ⟨X1, ?_⟩
  refine (clone_u8 (SliceIs.of_own (X1.own h.q2)) (by omega)).mono fun v2 w2 ⟨ho2, x2⟩ => ?_
  exact ⟨X1.trans x2, ⟨_, _, rfl, SliceIs.of_own (x2.own ho1), SliceIs.of_own ho2⟩, X1.trans x2⟩
set_option maxHeartbeats 3200000 in
theorem send1_ok {w : World} {rb hb ab B B1 : Nat} {d1 d2 pub sec av : Value} {p1 p2 t1 t2 : List Int} (h : Tell w rb hb ab B B1 d1 d2 pub sec p1 p2 t1 t2) {k : Nat} (hk : k < 2) {who sb : Int} {a n : Nat} (hn : a + n ≤ (pk k p1 p2).length) (hav : SliceIs w av 1 3 [i64 ((k : Int) + 1), i64 (a : Int), i64 (n : Int)]) :
    callD Try.prog 31 #[svc rb who 1 sb av] w fun r w' => (t1.length + n > 128 ∧ r = .tuple #[i32 0, i64 28425] ∧ Ext w w') ∨ (¬ t1.length + n > 128 ∧ r = .tuple #[i32 0, i64 36864] ∧ (∃ v', Tell w' rb hb ab B B1 d1 d2 v' sec p1 p2 (t1 ++ ((pk k p1 p2).drop a).take n) t2) ∧ Fr (fun i => i = rb ∨ B1 ≤ i) w w') := by
  apply F31_wp
  unfold F31_den
  obtain ⟨hd, hd64⟩ := h.bytes hk
  have hlt := h.lt
  have hrl := h.room.lt
  have m0 := h.m1
  refine bxK fun w1 hb1 x1 => ?_
  have D1 : Ext w1 w1.drew := (Ext.refl _).drew
  have hav1 := hav.ext x1
  refine drawD.mk' (fun w' => Ext w1 w') D1 ?_
  refine yfB (fun w' hw => (hb1.ext hw).boxed) (by first | exact fa_37_0 | exact fa_37_1 | exact fa_37_2 | exact fa_37_3 | exact fa_37_4 | exact fa_44_0 | exact fa_44_1 | exact fa_44_2 | exact fa_44_3 | exact fa_44_4 | exact fa_59_0 | exact fa_59_3 | exact fa_59_4 | exact fa_64_0 | exact fa_64_1 | exact fa_64_2 | exact fa_64_3 | exact fa_64_4 | exact fa_64_5 | exact fa_74_0 | exact fa_74_1 | exact fa_93_0) (by first | exact l1_21 | exact l1_22 | exact l1_23 | exact l1_29 | exact l1_3 | exact l1_35 | exact l1_4 | exact l1_5 | exact l1_61 | exact l1_62 | exact l1_72 | exact l1_9 | exact l1_91) rfl ?_
  refine ySl xa_62 l1_3 hav1 (fun w' hw => hw) (by omega) (by omega) rfl ?_
  refine yfB (fun w' hw => (hb1.ext hw).boxed) (by first | exact fa_37_0 | exact fa_37_1 | exact fa_37_2 | exact fa_37_3 | exact fa_37_4 | exact fa_44_0 | exact fa_44_1 | exact fa_44_2 | exact fa_44_3 | exact fa_44_4 | exact fa_59_0 | exact fa_59_3 | exact fa_59_4 | exact fa_64_0 | exact fa_64_1 | exact fa_64_2 | exact fa_64_3 | exact fa_64_4 | exact fa_64_5 | exact fa_74_0 | exact fa_74_1 | exact fa_93_0) (by first | exact l1_21 | exact l1_22 | exact l1_23 | exact l1_29 | exact l1_3 | exact l1_35 | exact l1_4 | exact l1_5 | exact l1_61 | exact l1_62 | exact l1_72 | exact l1_9 | exact l1_91) rfl ?_
  refine ySl xa_62 l1_3 hav1 (fun w' hw => hw) (by omega) (by omega) rfl ?_
  refine yfB (fun w' hw => (hb1.ext hw).boxed) (by first | exact fa_37_0 | exact fa_37_1 | exact fa_37_2 | exact fa_37_3 | exact fa_37_4 | exact fa_44_0 | exact fa_44_1 | exact fa_44_2 | exact fa_44_3 | exact fa_44_4 | exact fa_59_0 | exact fa_59_3 | exact fa_59_4 | exact fa_64_0 | exact fa_64_1 | exact fa_64_2 | exact fa_64_3 | exact fa_64_4 | exact fa_64_5 | exact fa_74_0 | exact fa_74_1 | exact fa_93_0) (by first | exact l1_21 | exact l1_22 | exact l1_23 | exact l1_29 | exact l1_3 | exact l1_35 | exact l1_4 | exact l1_5 | exact l1_61 | exact l1_62 | exact l1_72 | exact l1_9 | exact l1_91) rfl ?_
  refine ySl xa_62 l1_3 hav1 (fun w' hw => hw) (by omega) (by omega) rfl ?_
  refine ldA (hb1.ext D1).boxed la_64 rfl ?_
  refine (touch_ok (rb := rb) (who := who) (a := 1) (b := sb) (av := av)).mono fun _ w2 x2 => ?_
  have x12 := D1.trans x2
  have X2 := x1.trans x12
  refine ldA (hb1.ext x12).boxed la_64 rfl ?_
  refine (rangesW_ok (h.room.ext X2) hk (hd.ext X2) (by omega) (who := who) (sa := 1) (sb := sb) (av := av) hn).mono fun r w3 ⟨hr, x3⟩ => ?_
  subst hr
  refine V_neqI.2 ?_
  simp only [ne_eq, not_true_eq_false, ifD_false, decide_false]
  have x13 := x12.trans x3
  have X3 := X2.trans x3
  have hb3 := hb1.ext x13
  have h3 := h.ext X3
  refine ldB hb3.boxed (by first | exact fa_37_0 | exact fa_37_1 | exact fa_37_2 | exact fa_37_3 | exact fa_37_4 | exact fa_44_0 | exact fa_44_1 | exact fa_44_2 | exact fa_44_3 | exact fa_44_4 | exact fa_59_0 | exact fa_59_3 | exact fa_59_4 | exact fa_64_0 | exact fa_64_1 | exact fa_64_2 | exact fa_64_3 | exact fa_64_4 | exact fa_64_5 | exact fa_74_0 | exact fa_74_1 | exact fa_93_0) (by first | exact l1_21 | exact l1_22 | exact l1_23 | exact l1_29 | exact l1_3 | exact l1_35 | exact l1_4 | exact l1_5 | exact l1_61 | exact l1_62 | exact l1_72 | exact l1_9 | exact l1_91) rfl ⟨.inl ⟨_, rfl⟩, ?_⟩
  refine V.ok r_fd_59_3 ?_
  refine ⟨fun v w' => v = .pointer (some ⟨rb, 0 + 3, none⟩) ∧ w' = w3, ?_, ?_⟩
  · refine ldB hb3.boxed (by first | exact fa_37_0 | exact fa_37_1 | exact fa_37_2 | exact fa_37_3 | exact fa_37_4 | exact fa_44_0 | exact fa_44_1 | exact fa_44_2 | exact fa_44_3 | exact fa_44_4 | exact fa_59_0 | exact fa_59_3 | exact fa_59_4 | exact fa_64_0 | exact fa_64_1 | exact fa_64_2 | exact fa_64_3 | exact fa_64_4 | exact fa_64_5 | exact fa_74_0 | exact fa_74_1 | exact fa_93_0) (by first | exact l1_21 | exact l1_22 | exact l1_23 | exact l1_29 | exact l1_3 | exact l1_35 | exact l1_4 | exact l1_5 | exact l1_61 | exact l1_62 | exact l1_72 | exact l1_9 | exact l1_91) rfl (V_neqI.2 ?_)
    simp only [ne_eq, not_true_eq_false, decide_false, ifD_false]
    exact ⟨(by first | rfl | trivial), (by first | rfl | trivial)⟩
  rintro _ w' ⟨rfl, hw⟩ _
  have hw := hw.symm; subst hw
  refine ⟨.inl ⟨_, rfl⟩, ?_⟩
  have hcell : w3.cell? ⟨rb, 0 + 3, none⟩ = some pub := by rw [Nat.zero_add, h3.room.room.cell]; rfl
  refine V.ok (r_ld_22 hcell) ?_
  refine lnx (by first | exact xa_22 | exact xa_35 | exact xa_41 | exact xa_62 | exact xa_72 | exact xa_91) (SliceIs.of_own h3.q1) ?_
  refine V_add.2 ?_
  rw [show IntKind.i64.wrap (((t1.length : Nat) : Int) + (n : Int)) = ((t1.length + n : Nat) : Int) from by rw [wrap_id (by omega) (by omega)]; omega]
  refine V_gtr.2 (ifD_dec (fun hfull => ?_) fun hroom => ?_)
  · exact .inl ⟨by omega, (by first | rfl | trivial), X3⟩
  have D3 : Ext w3 w3.drew := (Ext.refl _).drew
  refine drawD.mk' (fun w' => Fr (fun i => pub.ownBlock = some i) w3 w') (Fr.of_ext D3) ⟨.inl ⟨_, rfl⟩, ?_⟩
  have hob : ∀ i, pub.ownBlock = some i → B1 ≤ i ∧ i < w.heap.size := fun i hi => h.q1.lt i hi
  have hw1l := hb1.lt
  have s1 := x1.size
  have hrb : pub.ownBlock ≠ some rb := fun he => by have := hob _ he; omega
  have hbb : pub.ownBlock ≠ some w.heap.size := fun he => by have := hob _ he; omega
  refine yieldS.ok (fun w' hw => r_ld_22 (by rw [Nat.zero_add, (hw.blk h3.room.room hrb).cell]; rfl)) ?_
  refine yA (fun w' hw => (hw.blk hb3 hbb).boxed) la_64 rfl ?_
  have X3' := X3.trans D3
  refine (bytesW_ok (h.room.ext X3') hk (hd.ext X3') (by omega) (who := who) (sa := 1) (sb := sb) (av := av) hn).mono fun bv w4 ⟨hbv, x4⟩ => ?_
  have x34 := D3.trans x4
  refine ⟨Fr.of_ext x34, ?_⟩
  have hbs := hbv w4 (Fr.refl _ _)
  have hbl : (((pk k p1 p2).drop a).take n).length = n := by simp; omega
  have hbs' : SliceIs w4 bv 1 n ((((pk k p1 p2).drop a).take n).map u8) := by have := hbs; unfold BytesAre at this; rw [hbl] at this; exact this
  have h4 := h3.ext x34
  refine apS (by first | exact xe_22 | exact xe_35 | exact xe_62) h4.q1 hbs' (all_u8 _) (by omega) (by unfold maxLen; omega) h4.lt.2.2 fun v5 w5 ho5 hg5 hlies => ?_
  have f5 : Fr (fun i => pub.ownBlock = some i) w4 w5 := Fr.of_grown hg5 fun k hk => hk
  have f35 : Fr (fun i => pub.ownBlock = some i) w3 w5 := (Fr.of_ext (S := fun i => pub.ownBlock = some i) x34).trans f5 fun _ _ h => h
  refine ⟨f35, .inl ⟨_, rfl⟩, ?_⟩
  have hroom5 := f35.blk h3.room.room hrb
  refine stFU inf22 hroom5 rfl (by simp) (own_one ho5) ?_
  have f6 : Fr (fun i => i = rb) w5 (w5.setCell ⟨rb, 3, none⟩ v5) := Fr.of_set rfl
  have F : Fr (fun i => i = rb ∨ B1 ≤ i) w (w5.setCell ⟨rb, 3, none⟩ v5) := ((Fr.of_ext (S := fun i => pub.ownBlock = some i) X3).trans f35 fun _ _ h => h).or f6 |>.mono fun i hi => hi.elim (fun h => .inr (hob i h).1) .inl
  have hv5 : ∀ i, v5.ownBlock = some i → B1 ≤ i := fun i hi => (ho5.lt i hi).1
  have s3 := X3.size
  have s34 := x34.size
  have g1 : ¬ (pub.ownBlock = some hb) := fun he => by have := hob _ he; omega
  have g2 : ¬ (pub.ownBlock = some ab) := fun he => by have := hob _ he; omega
  have hoth : ∀ i, sec.ownBlock = some i → v5.ownBlock ≠ some i := fun i hi he => by
    rcases hlies with hl | hl
    · rw [hl] at he
      exact h.ne i he hi
    · rw [hl] at he
      cases he
      have := (h4.q2.lt _ hi).2
      omega
  have ff : ∀ {v : Value} {b : Nat} {xs : List Int}, w3.ownsRow b 5 1 v xs.length (xs.map u8) → (∀ i, v.ownBlock = some i → pub.ownBlock ≠ some i ∧ i ≠ rb) → (w5.setCell ⟨rb, 3, none⟩ v5).ownsRow b 5 1 v xs.length (xs.map u8) := fun ho hn => f6.own (f35.own ho fun i hi he => (hn i hi).1 he) fun i hi he => (hn i hi).2 he
  refine .inr ⟨by omega, (by first | rfl | trivial), ⟨v5, ⟨hroom5.set 3 v5, f6.blk (f35.blk h3.room.heap g1) (by omega), f6.blk (f35.blk h3.room.arr g2) (by omega), hrl⟩, ff h3.o1 (fun i hi => ⟨fun he => by have := hob _ he; have := h.l1 i hi; omega, by have := (h.o1.lt i hi).1; omega⟩), ff h3.o2 (fun i hi => ⟨fun he => by have := hob _ he; have := h.l2 i hi; omega, by have := (h.o2.lt i hi).1; omega⟩), h.l1, h.l2, (by rw [List.length_append, List.map_append, hbl]; exact f6.own ho5 fun i hi he => by have := hv5 i hi; omega), (ff h3.q2 (fun i hi => ⟨fun he => h.ne i he hi, by have := (h.q2.lt i hi).1; omega⟩)), fun i hi he => hoth i he hi, by have := F.size; omega, h.n1, h.n2, by simp only [List.length_append]; omega, h.m2⟩, F⟩
set_option maxHeartbeats 3200000 in
theorem send2_ok {w : World} {rb hb ab B B1 : Nat} {d1 d2 pub sec av : Value} {p1 p2 t1 t2 : List Int} (h : Tell w rb hb ab B B1 d1 d2 pub sec p1 p2 t1 t2) {k : Nat} (hk : k < 2) {who sb : Int} {a n : Nat} (hn : a + n ≤ (pk k p1 p2).length) (hav : SliceIs w av 1 3 [i64 ((k : Int) + 1), i64 (a : Int), i64 (n : Int)]) :
    callD Try.prog 31 #[svc rb who 2 sb av] w fun r w' => (t2.length + n > 128 ∧ r = .tuple #[i32 0, i64 28425] ∧ Ext w w') ∨ (¬ t2.length + n > 128 ∧ r = .tuple #[i32 0, i64 36864] ∧ (∃ v', Tell w' rb hb ab B B1 d1 d2 pub v' p1 p2 t1 (t2 ++ ((pk k p1 p2).drop a).take n)) ∧ Fr (fun i => i = rb ∨ B1 ≤ i) w w') := by
  apply F31_wp
  unfold F31_den
  obtain ⟨hd, hd64⟩ := h.bytes hk
  have hlt := h.lt
  have hrl := h.room.lt
  have m0 := h.m2
  refine bxK fun w1 hb1 x1 => ?_
  have D1 : Ext w1 w1.drew := (Ext.refl _).drew
  have hav1 := hav.ext x1
  refine drawD.mk' (fun w' => Ext w1 w') D1 ?_
  refine yfB (fun w' hw => (hb1.ext hw).boxed) (by first | exact fa_37_0 | exact fa_37_1 | exact fa_37_2 | exact fa_37_3 | exact fa_37_4 | exact fa_44_0 | exact fa_44_1 | exact fa_44_2 | exact fa_44_3 | exact fa_44_4 | exact fa_59_0 | exact fa_59_3 | exact fa_59_4 | exact fa_64_0 | exact fa_64_1 | exact fa_64_2 | exact fa_64_3 | exact fa_64_4 | exact fa_64_5 | exact fa_74_0 | exact fa_74_1 | exact fa_93_0) (by first | exact l1_21 | exact l1_22 | exact l1_23 | exact l1_29 | exact l1_3 | exact l1_35 | exact l1_4 | exact l1_5 | exact l1_61 | exact l1_62 | exact l1_72 | exact l1_9 | exact l1_91) rfl ?_
  refine ySl xa_62 l1_3 hav1 (fun w' hw => hw) (by omega) (by omega) rfl ?_
  refine yfB (fun w' hw => (hb1.ext hw).boxed) (by first | exact fa_37_0 | exact fa_37_1 | exact fa_37_2 | exact fa_37_3 | exact fa_37_4 | exact fa_44_0 | exact fa_44_1 | exact fa_44_2 | exact fa_44_3 | exact fa_44_4 | exact fa_59_0 | exact fa_59_3 | exact fa_59_4 | exact fa_64_0 | exact fa_64_1 | exact fa_64_2 | exact fa_64_3 | exact fa_64_4 | exact fa_64_5 | exact fa_74_0 | exact fa_74_1 | exact fa_93_0) (by first | exact l1_21 | exact l1_22 | exact l1_23 | exact l1_29 | exact l1_3 | exact l1_35 | exact l1_4 | exact l1_5 | exact l1_61 | exact l1_62 | exact l1_72 | exact l1_9 | exact l1_91) rfl ?_
  refine ySl xa_62 l1_3 hav1 (fun w' hw => hw) (by omega) (by omega) rfl ?_
  refine yfB (fun w' hw => (hb1.ext hw).boxed) (by first | exact fa_37_0 | exact fa_37_1 | exact fa_37_2 | exact fa_37_3 | exact fa_37_4 | exact fa_44_0 | exact fa_44_1 | exact fa_44_2 | exact fa_44_3 | exact fa_44_4 | exact fa_59_0 | exact fa_59_3 | exact fa_59_4 | exact fa_64_0 | exact fa_64_1 | exact fa_64_2 | exact fa_64_3 | exact fa_64_4 | exact fa_64_5 | exact fa_74_0 | exact fa_74_1 | exact fa_93_0) (by first | exact l1_21 | exact l1_22 | exact l1_23 | exact l1_29 | exact l1_3 | exact l1_35 | exact l1_4 | exact l1_5 | exact l1_61 | exact l1_62 | exact l1_72 | exact l1_9 | exact l1_91) rfl ?_
  refine ySl xa_62 l1_3 hav1 (fun w' hw => hw) (by omega) (by omega) rfl ?_
  refine ldA (hb1.ext D1).boxed la_64 rfl ?_
  refine (touch_ok (rb := rb) (who := who) (a := 2) (b := sb) (av := av)).mono fun _ w2 x2 => ?_
  have x12 := D1.trans x2
  have X2 := x1.trans x12
  refine ldA (hb1.ext x12).boxed la_64 rfl ?_
  refine (rangesW_ok (h.room.ext X2) hk (hd.ext X2) (by omega) (who := who) (sa := 2) (sb := sb) (av := av) hn).mono fun r w3 ⟨hr, x3⟩ => ?_
  subst hr
  refine V_neqI.2 ?_
  simp only [ne_eq, not_true_eq_false, ifD_false, decide_false]
  have x13 := x12.trans x3
  have X3 := X2.trans x3
  have hb3 := hb1.ext x13
  have h3 := h.ext X3
  refine ldB hb3.boxed (by first | exact fa_37_0 | exact fa_37_1 | exact fa_37_2 | exact fa_37_3 | exact fa_37_4 | exact fa_44_0 | exact fa_44_1 | exact fa_44_2 | exact fa_44_3 | exact fa_44_4 | exact fa_59_0 | exact fa_59_3 | exact fa_59_4 | exact fa_64_0 | exact fa_64_1 | exact fa_64_2 | exact fa_64_3 | exact fa_64_4 | exact fa_64_5 | exact fa_74_0 | exact fa_74_1 | exact fa_93_0) (by first | exact l1_21 | exact l1_22 | exact l1_23 | exact l1_29 | exact l1_3 | exact l1_35 | exact l1_4 | exact l1_5 | exact l1_61 | exact l1_62 | exact l1_72 | exact l1_9 | exact l1_91) rfl ⟨.inl ⟨_, rfl⟩, ?_⟩
  refine V.ok r_fd_59_3 ?_
  refine ⟨fun v w' => v = .pointer (some ⟨rb, 0 + 4, none⟩) ∧ w' = w3, ?_, ?_⟩
  · refine ldB hb3.boxed (by first | exact fa_37_0 | exact fa_37_1 | exact fa_37_2 | exact fa_37_3 | exact fa_37_4 | exact fa_44_0 | exact fa_44_1 | exact fa_44_2 | exact fa_44_3 | exact fa_44_4 | exact fa_59_0 | exact fa_59_3 | exact fa_59_4 | exact fa_64_0 | exact fa_64_1 | exact fa_64_2 | exact fa_64_3 | exact fa_64_4 | exact fa_64_5 | exact fa_74_0 | exact fa_74_1 | exact fa_93_0) (by first | exact l1_21 | exact l1_22 | exact l1_23 | exact l1_29 | exact l1_3 | exact l1_35 | exact l1_4 | exact l1_5 | exact l1_61 | exact l1_62 | exact l1_72 | exact l1_9 | exact l1_91) rfl (V_neqI.2 ?_)
    simp only [Int.reduceEq, ne_eq, not_false_eq_true, decide_true, ifD_true]
    refine ldB hb3.boxed (by first | exact fa_37_0 | exact fa_37_1 | exact fa_37_2 | exact fa_37_3 | exact fa_37_4 | exact fa_44_0 | exact fa_44_1 | exact fa_44_2 | exact fa_44_3 | exact fa_44_4 | exact fa_59_0 | exact fa_59_3 | exact fa_59_4 | exact fa_64_0 | exact fa_64_1 | exact fa_64_2 | exact fa_64_3 | exact fa_64_4 | exact fa_64_5 | exact fa_74_0 | exact fa_74_1 | exact fa_93_0) (by first | exact l1_21 | exact l1_22 | exact l1_23 | exact l1_29 | exact l1_3 | exact l1_35 | exact l1_4 | exact l1_5 | exact l1_61 | exact l1_62 | exact l1_72 | exact l1_9 | exact l1_91) rfl ⟨.inl ⟨_, rfl⟩, ?_⟩
    exact V.ok r_fd_59_4 ⟨(by first | rfl | trivial), (by first | rfl | trivial)⟩
  rintro _ w' ⟨rfl, hw⟩ _
  have hw := hw.symm; subst hw
  refine ⟨.inl ⟨_, rfl⟩, ?_⟩
  have hcell : w3.cell? ⟨rb, 0 + 4, none⟩ = some sec := by rw [Nat.zero_add, h3.room.room.cell]; rfl
  refine V.ok (r_ld_22 hcell) ?_
  refine lnx (by first | exact xa_22 | exact xa_35 | exact xa_41 | exact xa_62 | exact xa_72 | exact xa_91) (SliceIs.of_own h3.q2) ?_
  refine V_add.2 ?_
  rw [show IntKind.i64.wrap (((t2.length : Nat) : Int) + (n : Int)) = ((t2.length + n : Nat) : Int) from by rw [wrap_id (by omega) (by omega)]; omega]
  refine V_gtr.2 (ifD_dec (fun hfull => ?_) fun hroom => ?_)
  · exact .inl ⟨by omega, (by first | rfl | trivial), X3⟩
  have D3 : Ext w3 w3.drew := (Ext.refl _).drew
  refine drawD.mk' (fun w' => Fr (fun i => sec.ownBlock = some i) w3 w') (Fr.of_ext D3) ⟨.inl ⟨_, rfl⟩, ?_⟩
  have hob : ∀ i, sec.ownBlock = some i → B1 ≤ i ∧ i < w.heap.size := fun i hi => h.q2.lt i hi
  have hw1l := hb1.lt
  have s1 := x1.size
  have hrb : sec.ownBlock ≠ some rb := fun he => by have := hob _ he; omega
  have hbb : sec.ownBlock ≠ some w.heap.size := fun he => by have := hob _ he; omega
  refine yieldS.ok (fun w' hw => r_ld_22 (by rw [Nat.zero_add, (hw.blk h3.room.room hrb).cell]; rfl)) ?_
  refine yA (fun w' hw => (hw.blk hb3 hbb).boxed) la_64 rfl ?_
  have X3' := X3.trans D3
  refine (bytesW_ok (h.room.ext X3') hk (hd.ext X3') (by omega) (who := who) (sa := 2) (sb := sb) (av := av) hn).mono fun bv w4 ⟨hbv, x4⟩ => ?_
  have x34 := D3.trans x4
  refine ⟨Fr.of_ext x34, ?_⟩
  have hbs := hbv w4 (Fr.refl _ _)
  have hbl : (((pk k p1 p2).drop a).take n).length = n := by simp; omega
  have hbs' : SliceIs w4 bv 1 n ((((pk k p1 p2).drop a).take n).map u8) := by have := hbs; unfold BytesAre at this; rw [hbl] at this; exact this
  have h4 := h3.ext x34
  refine apS (by first | exact xe_22 | exact xe_35 | exact xe_62) h4.q2 hbs' (all_u8 _) (by omega) (by unfold maxLen; omega) h4.lt.2.2 fun v5 w5 ho5 hg5 hlies => ?_
  have f5 : Fr (fun i => sec.ownBlock = some i) w4 w5 := Fr.of_grown hg5 fun k hk => hk
  have f35 : Fr (fun i => sec.ownBlock = some i) w3 w5 := (Fr.of_ext (S := fun i => sec.ownBlock = some i) x34).trans f5 fun _ _ h => h
  refine ⟨f35, .inl ⟨_, rfl⟩, ?_⟩
  have hroom5 := f35.blk h3.room.room hrb
  refine stFU inf22 hroom5 rfl (by simp) (own_one ho5) ?_
  have f6 : Fr (fun i => i = rb) w5 (w5.setCell ⟨rb, 4, none⟩ v5) := Fr.of_set rfl
  have F : Fr (fun i => i = rb ∨ B1 ≤ i) w (w5.setCell ⟨rb, 4, none⟩ v5) := ((Fr.of_ext (S := fun i => sec.ownBlock = some i) X3).trans f35 fun _ _ h => h).or f6 |>.mono fun i hi => hi.elim (fun h => .inr (hob i h).1) .inl
  have hv5 : ∀ i, v5.ownBlock = some i → B1 ≤ i := fun i hi => (ho5.lt i hi).1
  have s3 := X3.size
  have s34 := x34.size
  have g1 : ¬ (sec.ownBlock = some hb) := fun he => by have := hob _ he; omega
  have g2 : ¬ (sec.ownBlock = some ab) := fun he => by have := hob _ he; omega
  have hoth : ∀ i, pub.ownBlock = some i → v5.ownBlock ≠ some i := fun i hi he => by
    rcases hlies with hl | hl
    · rw [hl] at he
      exact h.ne i hi he
    · rw [hl] at he
      cases he
      have := (h4.q1.lt _ hi).2
      omega
  have ff : ∀ {v : Value} {b : Nat} {xs : List Int}, w3.ownsRow b 5 1 v xs.length (xs.map u8) → (∀ i, v.ownBlock = some i → sec.ownBlock ≠ some i ∧ i ≠ rb) → (w5.setCell ⟨rb, 4, none⟩ v5).ownsRow b 5 1 v xs.length (xs.map u8) := fun ho hn => f6.own (f35.own ho fun i hi he => (hn i hi).1 he) fun i hi he => (hn i hi).2 he
  refine .inr ⟨by omega, (by first | rfl | trivial), ⟨v5, ⟨hroom5.set 4 v5, f6.blk (f35.blk h3.room.heap g1) (by omega), f6.blk (f35.blk h3.room.arr g2) (by omega), hrl⟩, ff h3.o1 (fun i hi => ⟨fun he => by have := hob _ he; have := h.l1 i hi; omega, by have := (h.o1.lt i hi).1; omega⟩), ff h3.o2 (fun i hi => ⟨fun he => by have := hob _ he; have := h.l2 i hi; omega, by have := (h.o2.lt i hi).1; omega⟩), h.l1, h.l2, (ff h3.q1 (fun i hi => ⟨fun he => h.ne i hi he, by have := (h.q1.lt i hi).1; omega⟩)), (by rw [List.length_append, List.map_append, hbl]; exact f6.own ho5 fun i hi he => by have := hv5 i hi; omega), fun i hi he => hoth i hi he, by have := F.size; omega, h.n1, h.n2, h.m1, by simp only [List.length_append]; omega⟩, F⟩
end Go.Proofs.Ytgjmpnngheohbaa
