/- General laws of operations (from the other texts of this seed). -/
import Derived.Test.YtmbeoehgpffneaaGreatDoorLaws2
import Derived.Test.YtmbeoehgpffneaaGreatDoorInsts
import Derived.Test.YtmbeoehgpffneaaGreatDoorDens
import Derived.Deep.AppendLies
import Derived.Laws.CopyRow
import Derived.Laws.BytesArg
namespace Go.Vc
section
variable {P : Program} {w : World} {K : Value → World → Prop}
/-- A store into a whole block. -/
theorem stB {t x : TypeId} {z : Value} {by_ : Nat} (h : XA P t 1) (hx : Inf P x z 1 by_) {g n c e : Nat} {cs : List Value} (hb : Blk w g cs e) (hn : cs.length = n) {k : IntKind} {i : Int} (h0 : 0 ≤ i) (h1 : i < n) {u : Value} (hu : oneC u = true) {K' : World → Prop}
    (hk : K' (w.setCell ⟨g, i.toNat, none⟩ u)) :
    V P (Instr.indexAt t (.slice (some ⟨g, 0, none⟩) n c) (.int k i)) w fun p w1 => U P (Instr.storeAt x p u) w1 fun _ w2 => K' w2 := by
  obtain ⟨e', z', b', ht, hi⟩ := h
  refine V.ok (r_index ht hi h0 h1) ?_
  have hlt : i.toNat < cs.length := by omega
  have hc := hb.cell i.toNat
  rw [List.getElem?_eq_getElem hlt] at hc
  simp only [Nat.zero_add, Nat.mul_one]
  exact U.ok (r_store hx hu hc (hb.frozen _)) hk
theorem Boxed.other {b g j : Nat} {cs : List Value} {u : Value} (h : Boxed w b cs) (hne : b ≠ g) : Boxed (w.setCell ⟨g, j, none⟩ u) b cs := fun i v hi => by
  have := h i v hi
  rw [World.cell?_setCell_other _ _ _ _ (by intro he; cases he; exact hne rfl)]
  exact this
end
end Go.Vc
namespace Go.Vc
section
variable {P : Program} {w : World} {K : Value → World → Prop} {S : World → Prop} {L : Value → Prop}
/-- The steps under S. -/
theorem yfB {s f o ft b : Nat} {cs : List Value} {u : Value} (hb : ∀ w', S w' → Boxed w' b cs) (h : FA P s f o) (hl : L1 P ft) (hc : cs[o]? = some u) (hk : L u) :
    yieldS P S (Instr.fieldAt s (.pointer (some ⟨b, 0, none⟩)) f) fun q => yieldS P S (Instr.loadAt ft q) L := by
  obtain ⟨d, hd, ha⟩ := hl
  exact yieldS.ok (fun w' _ => h.ex w' b 0) (yieldS.ok (fun w' hw => r_load hd ha (hb w' hw o u hc)) hk)
theorem ySl {t x : TypeId} {v : Value} {n : Nat} {cs : List Value} {k : IntKind} {i : Int} {u : Value} (h : XA P t 1) (hl : L1 P x) (hs0 : SliceIs w v 1 n cs) (hx : ∀ w', S w' → Ext w w') (h0 : 0 ≤ i) (h1 : i < n) (hu : cs[i.toNat]? = some u) (hk : L u) :
    yieldS P S (Instr.indexAt t v (.int k i)) fun p => yieldS P S (Instr.loadAt x p) L := by
  obtain ⟨e, z, b', ht, hi⟩ := h
  obtain ⟨d, hd, ha⟩ := hl
  obtain ⟨b, off, cap, rfl, hc⟩ := hs0.there (by omega)
  refine yieldS.ok (fun w' _ => r_index ht hi h0 h1) (yieldS.ok (fun w' hw => r_load hd ha ((hx w' hw).cell ?_)) hk)
  simpa using hc _ _ hu
theorem yLen {t ty n : Nat} {m : Nat} {v : Value} {size : Nat} {cs : List Value} (h : XA P t n) (hs : SliceIs w v size m cs) (hk : L (i64 m)) : yieldS P S (Builtin.len_ #[t] ty #[v]) L := by
  obtain ⟨e, z, b, ht, hi⟩ := h
  obtain ⟨a, c, rfl⟩ := hs.shape
  exact yieldS.ok (fun w' _ => r_len ht) hk
end
end Go.Vc
namespace Go.Vc
theorem mkBv {P : Program} {w : World} {K : Value → World → Prop} {t e by_ : Nat} {z : Value} {x : Int} {n : Nat} (hx : x = (n : Int)) (ht : P.underlying t = some (.slice e)) (hi : Inf P e z 1 by_) (hz : z.cells = #[z]) (hb : by_ * n ≤ 281474976710656) (h63 : n ≤ 9223372036854775807)
    (hk : ∀ w', Blk w' w.heap.size (List.replicate n z) e → Ext w w' → w'.heap.size = w.heap.size + 1 → K (.slice (some ⟨w.heap.size, 0, none⟩) n n) w') : V P (Instr.makeSlice t (.int .i64 x) (.int .i64 x)) w K := by
  subst hx
  exact mkB ht hi hz hb h63 hk
end Go.Vc
namespace Go.Vc
section
variable {P : Program} {w : World} {S : World → Prop} {L : Value → Prop}
theorem yA {t n b : Nat} {cs : List Value} (hb : ∀ w', S w' → Boxed w' b cs) (ht : ∃ d z by_, P.underlying t = some d ∧ aggB d = true ∧ Inf P t z n by_) (hl : cs.length = n) (hk : L (.agg cs.toArray)) : yieldS P S (Instr.loadAt t (.pointer (some ⟨b, 0, none⟩))) L := by
  obtain ⟨d, z, by_, h1, h2, h3⟩ := ht
  exact yieldS.ok (fun w' hw => r_loadAgg h1 h2 h3 hl fun j hj => by
    obtain ⟨u, hu⟩ : ∃ u, cs[j]? = some u := ⟨_, List.getElem?_eq_getElem hj⟩
    rw [hu]; exact hb w' hw j u hu) hk
variable {K : Value → World → Prop}
theorem pickT {x y : Value} (h : L x) : pickD (.bool true) x y L := pickD_mk (by simpa using h)
theorem pickF {x y : Value} (h : L y) : pickD (.bool false) x y L := pickD_mk (by simpa using h)
/-- m[k][r], guarded by what is true. -/
theorem gRead {tm tr tb : TypeId} {v u : Value} {N n : Nat} {cs : List Value} {row : List Value} {k r : Int} {b : Value} (hm : XA P tm 1) (lm : L1 P tr) (hr : XA P tr 1) (lr : L1 P tb)
    (hs : SliceIs w v 1 N cs) (hk0 : 0 ≤ k) (hk1 : k < N) (hu : cs[k.toNat]? = some u) (hs' : SliceIs w u 1 n row) (hr0 : 0 ≤ r) (hr1 : r < n) (hb : row[r.toNat]? = some b) (hK : K b w) :
    gd (.bool true) true (fun K => K v w) w fun t1 w1 => gd (.bool true) true (fun K => V P (Instr.indexAt tm t1 (i64 k)) w1 K) w1 fun t2 w2 => gd (.bool true) true (fun K => V P (Instr.loadAt tr t2) w2 K) w2 fun t3 w3 =>
    gd (.bool true) true (fun K => V P (Instr.indexAt tr t3 (i64 r)) w3 K) w3 fun t4 w4 => gd (.bool true) true (fun K => V P (Instr.loadAt tb t4) w4 K) w4 K := by
  refine gd_t.2 (gd_t.2 ?_)
  have h2 := ldx (K := fun t3 w3 => gd (.bool true) true (fun K => V P (Instr.indexAt tr t3 (i64 r)) w3 K) w3 fun t4 w4 => gd (.bool true) true (fun K => V P (Instr.loadAt tb t4) w4 K) w4 K) hm lm hs (k := .i64) hk0 hk1 hu
    (gd_t.2 (by have := ldx (K := K) hr lr hs' (k := .i64) hr0 hr1 hb hK; obtain ⟨p, w', h1, h2⟩ := this; exact ⟨p, w', h1, gd_t.2 h2⟩))
  obtain ⟨p, w', h3, h4⟩ := h2
  exact ⟨p, w', h3, gd_t.2 h4⟩
/-- len(m[k]), so guarded. -/
theorem gRowLen {tm tr ty : TypeId} {v u : Value} {N n m : Nat} {cs : List Value} {row : List Value} {k : Int} (hm : XA P tm 1) (lm : L1 P tr) (hr : XA P tr m)
    (hs : SliceIs w v 1 N cs) (hk0 : 0 ≤ k) (hk1 : k < N) (hu : cs[k.toNat]? = some u) (hs' : SliceIs w u 1 n row) (hK : K (i64 n) w) :
    gd (.bool true) true (fun K => K v w) w fun t1 w1 => gd (.bool true) true (fun K => V P (Instr.indexAt tm t1 (i64 k)) w1 K) w1 fun t2 w2 => gd (.bool true) true (fun K => V P (Instr.loadAt tr t2) w2 K) w2 fun t3 w3 =>
    gd (.bool true) true (fun K => V P (Builtin.len_ #[tr] ty #[t3]) w3 K) w3 K := by
  refine gd_t.2 (gd_t.2 ?_)
  obtain ⟨p, w', h3, h4⟩ := ldx (K := fun t3 w3 => gd (.bool true) true (fun K => V P (Builtin.len_ #[tr] ty #[t3]) w3 K) w3 K) hm lm hs (k := .i64) hk0 hk1 hu (gd_t.2 (lnx hr hs' hK))
  exact ⟨p, w', h3, gd_t.2 h4⟩
/-- l[r], so guarded. -/
theorem gRead1 {tr tb : TypeId} {v : Value} {n : Nat} {row : List Value} {r : Int} {b : Value} (hr : XA P tr 1) (lr : L1 P tb) (hs : SliceIs w v 1 n row) (hr0 : 0 ≤ r) (hr1 : r < n) (hb : row[r.toNat]? = some b) (hK : K b w) :
    gd (.bool true) true (fun K => K v w) w fun t1 w1 => gd (.bool true) true (fun K => V P (Instr.indexAt tr t1 (i64 r)) w1 K) w1 fun t4 w4 => gd (.bool true) true (fun K => V P (Instr.loadAt tb t4) w4 K) w4 K := by
  refine gd_t.2 (gd_t.2 ?_)
  obtain ⟨p, w', h3, h4⟩ := ldx (K := K) hr lr hs (k := .i64) hr0 hr1 hb hK
  exact ⟨p, w', h3, gd_t.2 h4⟩
theorem gLen {tr ty m : TypeId} {v : Value} {n : Nat} {row : List Value} (hr : XA P tr m) (hs : SliceIs w v 1 n row) (hK : K (i64 n) w) :
    gd (.bool true) true (fun K => K v w) w fun t1 w1 => gd (.bool true) true (fun K => V P (Builtin.len_ #[tr] ty #[t1]) w1 K) w1 K := gd_t.2 (gd_t.2 (lnx hr hs hK))
end
end Go.Vc
namespace Go.Vc
open Go.Proofs
section
variable {P : Program} {w : World} {K : Value → World → Prop}
/-- A new block. -/
theorem alK {t : TypeId} {z : Value} {n by_ : Nat} (hi : Inf P t z n by_) (hk : ∀ w1, Blk w1 w.heap.size z.cells.toList t → Ext w w1 → K (.pointer (some ⟨w.heap.size, 0, none⟩)) w1) : V P (Instr.alloc t true (.tuple #[])) w K :=
  V.ok (r_alloc hi) (hk _ (by unfold Blk; rw [heap_alloc_new]) ((Ext.refl w).alloc _))
theorem bxK {t : TypeId} {v : Value} (hk : ∀ w1, Blk w1 w.heap.size v.cells.toList t → Ext w w1 → K (.pointer (some ⟨w.heap.size, 0, none⟩)) w1) : V P (Instr.box t v) w K :=
  V.ok r_box (hk _ (by unfold Blk; rw [heap_alloc_new]) ((Ext.refl w).alloc _))
theorem asK {t n : TypeId} {v : Value} {K' : Value → World → Prop} (h : SA P t n) (hn : v.cells.size = n) (h1 : v.cells.toList.all oneC = true) (hk : ∀ w1, Blk w1 w.heap.size v.cells.toList t → Ext w w1 → K' (.pointer (some ⟨w.heap.size, 0, none⟩)) w1) :
    V P (Instr.alloc t true (.tuple #[])) w (fun p w1 => U P (Instr.storeAt t p v) w1 fun _ w2 => K' p w2) :=
  as_ h hn h1 (hk _ (by unfold Blk; rw [heap_alloc_new]) ((Ext.refl w).alloc _))
/-- An append onto what the call owns, of elements of any size. -/
theorem apA {t e by_ ty sz : Nat} {z : Value} (ht : P.underlying t = some (.slice e)) (hi : Inf P e z sz by_) (hz : (z.cells.size == sz) = true) (hsz : 0 < sz) {B : Nat} {v : Value} {n : Nat} {xs : List Value} (ho : w.ownsRow B e sz v n xs) {x : Value} {m : Nat} {news : List Value} (hs : SliceIs w x sz m news) (h1 : news.all oneC = true)
    (hb : (n + m) * by_ ≤ 140737488355328) (h63 : n + m ≤ maxLen) (hB : B ≤ w.heap.size) (hk : ∀ v' w', w'.ownsRow B e sz v' (n + m) (xs ++ news) → w.grownBy w' v.ownBlock → K v' w') :
    V P (Builtin.append_ #[t, t] ty #[v, x]) w K := by
  obtain ⟨i, hi', hz', hn, hby⟩ := info_parts hi
  rcases hs.2 with ⟨rfl, rfl⟩ | ⟨b, off, cap, rfl, _, _, hc⟩
  · have hnews : news = [] := by have := hs.1; simpa using this
    subst hnews
    refine V.ok (run_append_owned_none w B t ty e i sz ht hi' v n xs ho) (hk _ _ (by simpa using ho) ⟨rfl, rfl, rfl, Nat.le_refl _, fun _ _ _ => rfl⟩)
  · obtain ⟨v', w', hr, h2, h3, _⟩ := run_append_own (P := P) w B t ty e i z sz by_ ht hi' hz' hn hby (by simpa using hz) hsz v n xs ho ⟨b, off, none⟩ m cap news hs.1
      (fun j u hj => by rw [add_mk]; exact hc j u hj) (fun u hu => by rw [oneC_eq]; exact List.all_eq_true.1 h1 u hu) h63 hb hB
    exact V.ok hr (hk _ _ h2 h3)
theorem Blk.boxed {g : Nat} {cs : List Value} {e : TypeId} (h : Blk w g cs e) : Boxed w g cs := fun j u hj => by rw [Nat.zero_add, h.cell]; exact hj
/-- Only block g has changed. -/
structure Chg (w : World) (g : Nat) (w' : World) : Prop where
  ext : ∀ a, Ext a w → a.heap.size ≤ g → Ext a w'
  same : ∀ i, i ≠ g → w'.heap[i]? = w.heap[i]?
  size : w'.heap.size = w.heap.size
  grown : w.grownBy w' (some g)
theorem Chg.other {w w' : World} {g g' : Nat} {cs : List Value} {e : TypeId} (h : Chg w g w') (hne : g' ≠ g) (hb : Blk w g' cs e) : Blk w' g' cs e := by
  unfold Blk at hb ⊢
  rw [h.same g' hne]; exact hb
theorem Chg.cell {w w' : World} {g b o : Nat} (h : Chg w g w') (hne : b ≠ g) : w'.cell? ⟨b, o, none⟩ = w.cell? ⟨b, o, none⟩ := by
  unfold World.cell?
  rw [h.same b hne]
theorem Chg.ownRow {w w' : World} {g B e sz n : Nat} {v : Value} {xs : List Value} (h : Chg w g w') (ho : w.ownsRow B e sz v n xs) (hB : g < B) : w'.ownsRow B e sz v n xs :=
  ho.kept h.grown (own_ne ho fun k hk => by cases hk; exact hB)
/-- What the call owns behind g. -/
theorem Chg.own {w w' : World} {g B e n : Nat} {v : Value} {xs : List Value} (h : Chg w g w') (ho : w.ownsRow B e 1 v n xs) (hB : g < B) : SliceIs w' v 1 n xs := by
  obtain ⟨h1, h2⟩ := SliceIs.of_own ho
  refine ⟨h1, ?_⟩
  rcases h2 with h2 | ⟨b, off, cap, rfl, h3, h4, h5⟩
  · exact .inl h2
  · refine .inr ⟨b, off, cap, rfl, h3, h4, fun j u hj => ?_⟩
    rw [h.cell]
    · exact h5 j u hj
    · have := (ho.lt b rfl).1
      omega
theorem run_storeB {g : Nat} {e : TypeId} : ∀ (l done old : List Value) (w : World), l.length = old.length → (∀ u ∈ l, oneC u = true) → Blk w g (done ++ old) e →
    ∃ w', (storeCells ⟨g, 0, none⟩ l done.length).run P w = .ok () w' ∧ Blk w' g (done ++ l) e ∧ Chg w g w'
  | [], done, [], w, _, _, hb => ⟨w, by simp [storeCells], hb, ⟨fun _ h _ => h, fun _ _ => rfl, rfl, ⟨rfl, rfl, rfl, Nat.le_refl _, fun _ _ _ => rfl⟩⟩⟩
  | v :: l, done, u :: old, w, hl, h1, hb => by
    have hc := hb.cell done.length
    simp only [List.getElem?_append_right (Nat.le_refl _), Nat.sub_self, List.getElem?_cons_zero] at hc
    have hs := run_store1 (P := P) (h1 v (by simp)) hc (hb.frozen done.length)
    have hb1 : Blk (w.setCell ⟨g, done.length, none⟩ v) g ((done ++ [v]) ++ old) e := by
      have := hb.set done.length v
      rw [List.set_append_right _ _ (Nat.le_refl _)] at this
      simpa using this
    obtain ⟨w', h2, h3, h4⟩ := run_storeB l (done ++ [v]) old _ (by simpa using hl) (fun u hu => h1 u (by simp [hu])) hb1
    refine ⟨w', ?_, by simpa using h3, ⟨fun a ha hg => h4.ext a (ha.setCell hg v) hg, fun i hi => (h4.same i hi).trans (heap_setCell_other _ _ _ _ (fun he => hi he)), h4.size.trans (by simp), ⟨h4.grown.os, h4.grown.tape, h4.grown.output, by have := h4.grown.size; simpa using this, fun k hk hne => (h4.grown.block k (by simpa using hk) hne).trans (heap_setCell_other _ _ _ _ (fun he => hne (by simp [he])))⟩⟩⟩
    simp only [storeCells, add_mk, Nat.zero_add, Sem.run_bind]
    rw [hs, Result.andThen_ok]
    simpa using h2
theorem stA {t : TypeId} {z v : Value} {n by_ g : Nat} {old l : List Value} {e : TypeId} {K' : Value → World → Prop} (hi : Inf P t z n by_) (hb : Blk w g old e) (hv : v.cells = l.toArray) (hl : l.length = n) (ho : old.length = n) (h1 : l.all oneC = true)
    (hk : ∀ w', Blk w' g l e → Chg w g w' → K' undef w') : U P (Instr.storeAt t (.pointer (some ⟨g, 0, none⟩)) v) w K' := by
  obtain ⟨w', h2, h3, h4⟩ := run_storeB (P := P) l [] old w (by omega) (fun u hu => List.all_eq_true.1 h1 u hu) hb
  refine U.ok ?_ (hk w' (by simpa using h3) h4)
  simp only [List.length_nil] at h2
  simp [Instr.storeAt, Instr.sureAddr, storeVar, run_size hi, hv, hl, h2]
/-- What a block holds, as one value. -/
theorem r_var {t : TypeId} {d : TypeDesc} {z : Value} {n by_ g : Nat} {l : List Value} {e : TypeId} (ht : P.underlying t = some d) (hd : aggB d = true) (hi : Inf P t z n by_) (hb : Blk w g l e) (hl : l.length = n) :
    (loadVar t ⟨g, 0, none⟩).run P w = .ok (.agg l.toArray) w := by
  have := r_loadAgg (P := P) (w := w) (b := g) (off := 0) ht hd hi hl fun j hj => by
    obtain ⟨u, hu⟩ : ∃ u, l[j]? = some u := ⟨_, List.getElem?_eq_getElem hj⟩
    rw [hu, Nat.zero_add, hb.cell]; exact hu
  simpa [Instr.loadAt, Instr.sureAddr] using this
end
end Go.Vc
namespace Go.Vc
section
variable {P : Program} {w : World} {K : Value → World → Prop} {S : World → Prop} {L : Value → Prop}
theorem SliceIs.cellAt {v : Value} {sz n : Nat} {cs : List Value} (h : SliceIs w v sz n cs) (hn : 0 < n) : ∃ b off cap, v = .slice (some ⟨b, off, none⟩) n cap ∧ ∀ j u, cs[j]? = some u → w.cell? ⟨b, off + j, none⟩ = some u := h.there hn
/-- l[i], of structs. -/
theorem ldxA {t x : TypeId} {v : Value} {n sz : Nat} {cs l : List Value} {k : IntKind} {i : Int} (h : XA P t sz) (ht : ∃ d z by_, P.underlying x = some d ∧ aggB d = true ∧ Inf P x z sz by_) (hs : SliceIs w v sz n cs) (h0 : 0 ≤ i) (h1 : i < n)
    (hc : (cs.drop (i.toNat * sz)).take sz = l) (hl : l.length = sz) (hk : K (.agg l.toArray) w) :
    V P (Instr.indexAt t v (.int k i)) w fun p w1 => V P (Instr.loadAt x p) w1 K := by
  obtain ⟨e, z, b', hte, hi⟩ := h
  obtain ⟨d, z', by_, h2, h3, h4⟩ := ht
  obtain ⟨b, off, cap, rfl, hcell⟩ := hs.there (by omega)
  refine V.ok (r_index hte hi h0 h1) (V.ok (r_loadAgg h2 h3 h4 hl fun j hj => ?_) hk)
  obtain ⟨u, hu⟩ : ∃ u, l[j]? = some u := ⟨_, List.getElem?_eq_getElem hj⟩
  rw [hu, Nat.add_assoc]
  refine hcell _ u ?_
  rw [← hc, List.getElem?_take, List.getElem?_drop] at hu
  split at hu
  · exact hu
  · cases hu
theorem yLss {t : TypeId} {a b : Int} (hk : L (.bool (decide (a < b)))) : yieldS P S (binOp .lss t (.int .i64 a) (.int .i64 b)) L := yieldS.ok (fun w _ => r_lss) hk
theorem yGeq {t : TypeId} {a b : Int} (hk : L (.bool (decide (a ≥ b)))) : yieldS P S (binOp .geq t (.int .i64 a) (.int .i64 b)) L := yieldS.ok (fun w _ => r_geq) hk
end
end Go.Vc
namespace Go.Vc
open Go.Proofs
section
variable {P : Program} {w : World} {K : Value → World → Prop} {S : World → Prop} {L : Value → Prop}
theorem yBld {t : TypeId} {zs : List Value} (h : BD P t zs) {parts : Array (Nat × Value)} (l : List (Nat × Value)) (hp : parts = l.toArray) (h1 : (l.all fun x => decide (x.1 < zs.length) && oneC x.2) = true)
    (hk : L (.agg (l.foldl (fun cs x => cs.set x.1 x.2) zs).toArray)) : yieldS P S (Instr.build t parts) L := by
  subst hp
  obtain ⟨fs, b, hu, hi, hm⟩ := h
  refine yieldS.ok (fun w _ => ?_) hk
  simp only [Instr.build, Sem.run_bind, run_zero hi, Result.andThen_ok, run_underlying hu, hm, Value.cells]
  rw [fillB l zs rfl h1]
  simp
theorem yMki {t : TypeId} (h : MI P t) {v : Value} (hk : L (.iface t v)) : yieldS P S (Instr.makeInterface t v) L := by
  obtain ⟨d, hu, hd⟩ := h
  refine yieldS.ok (fun w _ => ?_) hk
  cases d <;> first | (simp [Instr.makeInterface, run_underlying hu]; done) | cases hd
theorem r_max2 {t : TypeId} {ts : Array TypeId} {a b : Int} : (Builtin.max_ ts t #[.int .i64 a, .int .i64 b]).run P w = .ok (.int .i64 (if a < b then b else a)) w ∨ (Builtin.max_ ts t #[.int .i64 a, .int .i64 b]).run P w = .ok (.int .i64 (if b < a then a else b)) w := by
  simp [Builtin.max_, Builtin.max2]
theorem mx2 {t : TypeId} {ts : Array TypeId} {a b : Int} (hk : ∀ c, (c = a ∨ c = b) → a ≤ c → b ≤ c → K (.int .i64 c) w) : V P (Builtin.max_ ts t #[.int .i64 a, .int .i64 b]) w K := by
  rcases r_max2 (P := P) (w := w) (t := t) (ts := ts) (a := a) (b := b) with h | h
  · exact V.ok h (hk _ (by split <;> simp) (by split <;> omega) (by split <;> omega))
  · exact V.ok h (hk _ (by split <;> simp) (by split <;> omega) (by split <;> omega))
theorem r_min2 {t : TypeId} {ts : Array TypeId} {a b : Int} : (Builtin.min_ ts t #[.int .i64 a, .int .i64 b]).run P w = .ok (.int .i64 (if a < b then a else b)) w ∨ (Builtin.min_ ts t #[.int .i64 a, .int .i64 b]).run P w = .ok (.int .i64 (if b < a then b else a)) w := by
  simp [Builtin.min_, Builtin.min2]
theorem mn2 {t : TypeId} {ts : Array TypeId} {a b : Int} (hk : ∀ c, (c = a ∨ c = b) → c ≤ a → c ≤ b → K (.int .i64 c) w) : V P (Builtin.min_ ts t #[.int .i64 a, .int .i64 b]) w K := by
  rcases r_min2 (P := P) (w := w) (t := t) (ts := ts) (a := a) (b := b) with h | h
  · exact V.ok h (hk _ (by split <;> simp) (by split <;> omega) (by split <;> omega))
  · exact V.ok h (hk _ (by split <;> simp) (by split <;> omega) (by split <;> omega))
theorem rm {t : TypeId} {a b : Int} (hb : 0 < b) (hk : ∀ c, c = a.tmod b → -b < c → c < b → K (.int .i64 c) w) : V P (binOp .rem t (.int .i64 a) (.int .i64 b)) w K := by
  have hne : b ≠ 0 := by omega
  have hr : (binOp .rem t (.int .i64 a) (.int .i64 b)).run P w = .ok (.int .i64 (a.tmod b)) w := by simp [binOp, Op.intDiv, hne]
  exact V.ok hr (hk _ rfl (by have := Int.lt_tmod_of_pos a hb; simpa using this) (Int.tmod_lt_of_pos a hb))
/-- a[i], of an array of whole numbers that lies at an address. -/
theorem r_arr {t e n : TypeId} {z : Value} {by_ : Nat} (ht : P.underlying t = some (.array n e)) (hi : Inf P e z 1 by_) {b off : Nat} {i : Int} (h0 : 0 ≤ i) (h1 : i < n) :
    (Instr.indexAt t (.pointer (some ⟨b, off, none⟩)) (.int .i64 i)).run P w = .ok (.pointer (some ⟨b, off + i.toNat, none⟩)) w := by
  simp [Instr.indexAt, asIntOf, run_underlying ht, Instr.sureAddr, run_size hi, h0, h1, add_mk]
theorem r_idx {t e n : TypeId} {z : Value} {by_ : Nat} (ht : P.underlying t = some (.array n e)) (hi : Inf P e z 1 by_) (hd : ∃ k, P.underlying e = some (.int k)) {cs : Array Value} {i : Int} {u : Value} (h0 : 0 ≤ i) (h1 : i < n) (hu : cs[i.toNat]? = some u) (h1c : oneC u = true) :
    (Instr.index t (.agg cs) (.int .i64 i)).run P w = .ok u w := by
  obtain ⟨k, hd⟩ := hd
  simp [Instr.index, asIntOf, run_underlying ht, run_size hi, h0, h1, part, run_isAgg hd, aggB, hu]
/-- l[:k] -/
theorem r_hi {t e : TypeId} {z : Value} {by_ : Nat} (ht : P.underlying t = some (.slice e)) (hi : Inf P e z 1 by_) {a : Option Addr} {n c k : Nat} (hk : k ≤ c) :
    (Instr.sliceAt t (.slice a n c) none (some (.int .i64 (k : Int))) none).run P w = .ok (.slice (if c = 0 then a else a.map (·.add 0)) k c) w := by
  have h0 : (0 : Int) ≤ k ∧ (k : Int) ≤ c := ⟨by omega, by omega⟩
  simp [Instr.sliceAt, Instr.slice, run_underlying ht, run_size hi, Instr.sliceBounds, Instr.sliceBound, asIntOf, h0]
  intro h
  omega
theorem take_ints {v : Value} {xs : List Int} {t e : TypeId} {z : Value} {by_ k : Nat} (ht : P.underlying t = some (.slice e)) (hi : Inf P e z 1 by_) (h : SliceIs w v 1 xs.length (xs.map i64)) (hk : k ≤ xs.length) :
    ∃ v', (Instr.sliceAt t v none (some (.int .i64 (k : Int))) none).run P w = .ok v' w ∧ SliceIs w v' 1 (xs.take k).length ((xs.take k).map i64) ∧ ∀ b off n c, v' = .slice (some ⟨b, off, none⟩) n c → ∃ off' n' c', v = .slice (some ⟨b, off', none⟩) n' c' := by
  have hlen : (xs.take k).length = k := by simp; omega
  rcases h.2 with ⟨rfl, h0⟩ | ⟨b, off, cap, rfl, h1, h2, h3⟩
  · obtain rfl : k = 0 := by omega
    refine ⟨_, r_hi ht hi (Nat.le_refl _), ?_, fun b off n c h => by simp at h⟩
    simp
    exact SliceIs.nil w 1
  · refine ⟨_, r_hi ht hi (by omega), ?_, fun b' off' n' c' h => ⟨off, xs.length, cap, by
      have e : (if cap = 0 then some (⟨b, off, none⟩ : Addr) else (some (⟨b, off, none⟩ : Addr)).map (·.add 0)) = some ⟨b, off, none⟩ := by split <;> simp [add_mk]
      rw [e] at h
      cases h
      rfl⟩⟩
    rw [hlen]
    refine ⟨by simp; omega, .inr ⟨b, off, cap, ?_, by omega, h2, fun j u hj => ?_⟩⟩
    · split <;> simp [add_mk]
    · refine h3 j u ?_
      rw [List.getElem?_map] at hj ⊢
      rw [List.getElem?_take] at hj
      split at hj
      · exact hj
      · cases hj
end
end Go.Vc
namespace Go.Vc
section
variable {P : Program} {w : World}
theorem thK {u x : TypeId} {v : Value} {K : Value → Value → World → Prop} (h : TA P u) (hK : K (.bool true) v w) :
    V P (Instr.typeAssert (.iface u v) x u true) w fun t1 w1 => V P (Instr.extract t1 1) w1 fun t2 w2 => V P (Instr.extract t1 0) w2 fun t3 w3 => K t2 t3 w3 := by
  obtain ⟨z, hz, _⟩ := h
  refine V.ok (hz w x u v) ?_
  rw [if_pos rfl]
  exact V.ok r_ext1 (V.ok r_ext0 hK)
theorem tmK {u t x : TypeId} {v : Value} {K : Value → Value → World → Prop} (h : TA P u) (hne : t ≠ u) (hK : ∀ z, K (.bool false) z w) :
    V P (Instr.typeAssert (.iface t v) x u true) w fun t1 w1 => V P (Instr.extract t1 1) w1 fun t2 w2 => V P (Instr.extract t1 0) w2 fun t3 w3 => K t2 t3 w3 := by
  obtain ⟨z, hz, _⟩ := h
  refine V.ok (hz w x t v) ?_
  rw [if_neg hne]
  exact V.ok r_ext1 (V.ok r_ext0 (hK _))
end
end Go.Vc
namespace Go.Vc
/-- All but some blocks stay. -/
structure Fr (S : Nat → Prop) (w w' : World) : Prop where
  os : w'.os = w.os
  tape : w'.tape = w.tape
  output : w'.output = w.output
  size : w.heap.size ≤ w'.heap.size
  block : ∀ i, i < w.heap.size → ¬ S i → w'.heap[i]? = w.heap[i]?
theorem Fr.refl (S : Nat → Prop) (w : World) : Fr S w w := ⟨rfl, rfl, rfl, Nat.le_refl _, fun _ _ _ => rfl⟩
theorem Fr.trans {S T : Nat → Prop} {a b c : World} (h : Fr S a b) (k : Fr T b c) (hT : ∀ i, i < a.heap.size → T i → S i) : Fr S a c :=
  ⟨k.os.trans h.os, k.tape.trans h.tape, k.output.trans h.output, Nat.le_trans h.size k.size, fun i hi hn => (k.block i (Nat.lt_of_lt_of_le hi h.size) fun ht => hn (hT i hi ht)).trans (h.block i hi hn)⟩
theorem Fr.or {S T : Nat → Prop} {a b c : World} (h : Fr S a b) (k : Fr T b c) : Fr (fun i => S i ∨ T i) a c :=
  ⟨k.os.trans h.os, k.tape.trans h.tape, k.output.trans h.output, Nat.le_trans h.size k.size, fun i hi hn => (k.block i (Nat.lt_of_lt_of_le hi h.size) fun ht => hn (.inr ht)).trans (h.block i hi fun hs => hn (.inl hs))⟩
theorem Fr.mono {S T : Nat → Prop} {a b : World} (h : Fr S a b) (hT : ∀ i, S i → T i) : Fr T a b := ⟨h.os, h.tape, h.output, h.size, fun i hi hn => h.block i hi fun hs => hn (hT i hs)⟩
theorem Fr.of_ext {S : Nat → Prop} {w w' : World} (h : Ext w w') : Fr S w w' := ⟨h.os, h.tape, h.output, h.size, fun i hi _ => h.block i hi (by simp)⟩
theorem Fr.of_grown {S : Nat → Prop} {w w' : World} {row : Option Nat} (h : w.grownBy w' row) (hr : ∀ k, row = some k → S k) : Fr S w w' := ⟨h.os, h.tape, h.output, h.size, fun i hi hn => h.block i hi fun he => hn (hr i he.symm)⟩
theorem Fr.of_set {S : Nat → Prop} {w : World} {b o : Nat} {v : Value} (hb : S b) : Fr S w (w.setCell ⟨b, o, none⟩ v) := ⟨rfl, rfl, rfl, by simp, fun i _ hn => heap_setCell_other _ _ _ _ (fun he => hn (by simp [he]; exact hb))⟩
theorem Fr.set {S : Nat → Prop} {w w' : World} (h : Fr S w w') {b o : Nat} {v : Value} (hb : S b) : Fr S w (w'.setCell ⟨b, o, none⟩ v) := h.trans (Fr.of_set (S := S) hb) fun _ _ h => h
theorem Fr.ext {S : Nat → Prop} {w0 w w' : World} (h : Fr S w w') (hx : Ext w0 w) (hS : ∀ i, S i → w0.heap.size ≤ i) : Ext w0 w' :=
  ⟨h.os.trans hx.os, h.tape.trans hx.tape, h.output.trans hx.output, Nat.le_trans hx.size h.size, fun i hi hn => (h.block i (Nat.lt_of_lt_of_le hi hx.size) fun hs => by have := hS i hs; omega).trans (hx.block i hi hn)⟩
theorem Fr.blk {S : Nat → Prop} {w w' : World} {g : Nat} {cs : List Value} {e : TypeId} (h : Fr S w w') (hb : Blk w g cs e) (hn : ¬ S g) : Blk w' g cs e := by
  unfold Blk
  rw [h.block g hb.lt hn]; exact hb
theorem Fr.own {S : Nat → Prop} {w w' : World} {B e sz n : Nat} {v : Value} {xs : List Value} (h : Fr S w w') (ho : w.ownsRow B e sz v n xs) (hn : ∀ k, v.ownBlock = some k → ¬ S k) : w'.ownsRow B e sz v n xs := by
  refine ⟨ho.1, ?_⟩
  rcases ho.2 with h1 | ⟨g, cap, cur, rfl, hb, hg, rest⟩
  · exact .inl h1
  · refine .inr ⟨g, cap, cur, rfl, hb, ?_, rest⟩
    rw [h.block g (Array.getElem?_eq_some_iff.1 hg).1 (hn g rfl)]
    exact hg
/-- An append onto what the call owns, and where it lies. -/
theorem apL {P : Program} {w : World} {K : Value → World → Prop} {t e by_ ty : Nat} (h : XE P t e by_) {B B' : Nat} {v : Value} {n : Nat} {xs : List Value} (ho : w.ownsRow B e 1 v n xs) {x : Value} {m : Nat} {news : List Value} (hs : w.ownsRow B' e 1 x m news) (hm : 0 < m) (h1 : news.all oneC = true)
    (hb : (n + m) * by_ ≤ 140737488355328) (h63 : n + m ≤ maxLen) (hB : B ≤ w.heap.size)
    (hk : ∀ g cap w', w'.ownsRow B e 1 (.slice (some ⟨g, 0, none⟩) (n + m) cap) (n + m) (xs ++ news) → w.grownBy w' v.ownBlock → (v.ownBlock = some g ∨ g = w.heap.size) → K (.slice (some ⟨g, 0, none⟩) (n + m) cap) w') :
    V P (Builtin.append_ #[t, t] ty #[v, x]) w K := by
  obtain ⟨z, ht, hi, hz⟩ := h
  obtain ⟨i, hi', hz', hn, hby⟩ := info_parts hi
  have hs0 := hs
  rcases hs.2 with ⟨_, h0⟩ | ⟨b, cap, cur, rfl, _⟩
  · omega
  · obtain ⟨g, cap, w', hr, h2, h3, h4, h5⟩ := run_append_lies (P := P) (w := w) t ty B e i z 1 by_ ht hi' hz' hn hby (by simpa using hz) (by omega) v n xs ho ⟨b, 0, none⟩ m cap news (by have := hs.1; simpa using this) (hs0.cells rfl) (fun u hu => by rw [oneC_eq]; exact List.all_eq_true.1 h1 u hu) hm h63 hb hB _ rfl
    exact V.ok hr (hk g cap w' h2 h3 h4)
end Go.Vc
namespace Go.Vc
theorem fnK {P : Program} {w : World} {K : Value → World → Prop} {f : Fn} {a c : Array Value} (h : K (.func f a c) w) : V P (Instr.makeFunc f a c) w K := V.ok (by simp [Instr.makeFunc]) h
/-- A whole block of one cell is read. -/
theorem ldV {P : Program} {w : World} {K : Value → World → Prop} {t b : Nat} {v : Value} {e : TypeId} (hl : L1 P t) (hb : Blk w b [v] e) (hk : K v w) : V P (Instr.loadAt t (.pointer (some ⟨b, 0, none⟩))) w K := by
  obtain ⟨d, hd, ha⟩ := hl
  exact V.ok (r_load hd ha (by rw [hb.cell]; rfl)) hk
/-- A field of a block is stored. -/
theorem stF {P : Program} {w : World} {K : World → Prop} {s f o ft b n by_ : Nat} {z u : Value} {cs : List Value} {e : TypeId} (hf : FA P s f o) (hi : Inf P ft z 1 by_) (hb : Blk w b cs e) (hn : cs.length = n) (ho : o < n) (hu : oneC u = true) (hk : K (w.setCell ⟨b, o, none⟩ u)) :
    V P (Instr.fieldAt s (.pointer (some ⟨b, 0, none⟩)) f) w fun q w1 => U P (Instr.storeAt ft q u) w1 fun _ w2 => K w2 := by
  refine V.ok (hf.ex w b 0) ?_
  have hc := hb.cell o
  rw [List.getElem?_eq_getElem (by omega)] at hc
  rw [Nat.zero_add]
  exact U.ok (r_store hi hu hc (hb.frozen _)) hk
end Go.Vc
namespace Go.Vc
/-- A store into a whole block, at an address that is known. -/
theorem stBY {P : Program} {w : World} {x : TypeId} {z : Value} {by_ : Nat} (hx : Inf P x z 1 by_) {g e i : Nat} {cs : List Value} (hb : Blk w g cs e) (h1 : i < cs.length) {u : Value} (hu : oneC u = true) {K' : World → Prop}
    (hk : K' (w.setCell ⟨g, i, none⟩ u)) : U P (Instr.storeAt x (.pointer (some ⟨g, 0 + i * 1, none⟩)) u) w fun _ w2 => K' w2 := by
  have hc := hb.cell i
  rw [List.getElem?_eq_getElem h1] at hc
  simp only [Nat.zero_add, Nat.mul_one]
  exact U.ok (r_store hx hu hc (hb.frozen _)) hk
theorem dynD.mono {P : Program} {w : World} {f : Value} {args : Array Value} {R K : Value → World → Prop} (h : dynD P f args w R) (hk : ∀ v w', R v w' → K v w') : dynD P f args w K := by
  obtain ⟨g, cap, h1, h2⟩ := h
  exact ⟨g, cap, h1, h2.mono hk⟩
end Go.Vc
namespace Go.Vc
/-- A cell of a block is stored, at an address that is known. -/
theorem stFU {P : Program} {w : World} {K : World → Prop} {ft b o n by_ : Nat} {z u : Value} {cs : List Value} {e : TypeId} (hi : Inf P ft z 1 by_) (hb : Blk w b cs e) (hn : cs.length = n) (ho : o < n) (hu : oneC u = true) (hk : K (w.setCell ⟨b, o, none⟩ u)) :
    U P (Instr.storeAt ft (.pointer (some ⟨b, 0 + o, none⟩)) u) w fun _ w2 => K w2 := by
  have hc := hb.cell o
  rw [List.getElem?_eq_getElem (by omega)] at hc
  rw [Nat.zero_add]
  exact U.ok (r_store hi hu hc (hb.frozen _)) hk
end Go.Vc
namespace Go.Vc
section
variable {P : Program} {w : World}
/-- A store into a row that the call owns, at an address that is known. -/
theorem stY {x : TypeId} {z : Value} {by_ : Nat} (hx : Inf P x z 1 by_) {B e n g c : Nat} {xs : List Value} (ho : w.ownsRow B e 1 (.slice (some ⟨g, 0, none⟩) n c) n xs) {i : Nat} (h1 : i < n) {u : Value} (hu : oneC u = true) {K' : World → Prop}
    (hk : ∀ w', w'.ownsRow B e 1 (.slice (some ⟨g, 0, none⟩) n c) n (xs.set i u) → w.grownBy w' (some g) → K' w') :
    U P (Instr.storeAt x (.pointer (some ⟨g, 0 + i * 1, none⟩)) u) w fun _ w2 => K' w2 := by
  obtain ⟨s1, s2⟩ := ho.stored i u
  have hc := ho.cellAt i (by omega)
  have hlt : i < xs.length := by have := ho.1; omega
  rw [List.getElem?_eq_getElem hlt] at hc
  simp only [Nat.zero_add, Nat.mul_one]
  exact U.ok (r_store hx hu hc (ho.frozenAt _)) (hk _ s1 s2)
end
end Go.Vc
namespace Go.Vc
theorem V.mono {P : Program} {s : Sem Value} {w : World} {K K' : Value → World → Prop} (h : V P s w K) (hk : ∀ v w', K v w' → K' v w') : V P s w K' := by
  obtain ⟨v, w', h1, h2⟩ := h
  exact ⟨v, w', h1, hk v w' h2⟩
end Go.Vc
namespace Go.Vc
/-- copy, into a whole block. -/
theorem cpB {P : Program} {w : World} {K : Value → World → Prop} {t e by_ ty : Nat} (h : XE P t e by_) {g R c : Nat} {xs cs : List Value} {te : TypeId} {a : Option Addr} {n c' : Nat} (hb : Blk w g xs te) (hx : xs.length = R) (hcl : cs.length = n) (hs : 0 < n → SliceIs w (.slice a n c') 1 n cs) (h1 : cs.all oneC = true)
    (hk : ∀ v w', Blk w' g (cs.take (min n R) ++ xs.drop (min n R)) te → Fr (fun i => i = g) w w' → K v w') :
    V P (Builtin.copy_ #[t, t] ty #[.slice (some ⟨g, 0, none⟩) R c, .slice a n c']) w K := by
  obtain ⟨z, ht, hi, hz⟩ := h
  obtain ⟨i, hi', hz', hn, hby⟩ := info_parts hi
  have hsz : (P.info? e).map (·.size) = some 1 := by rw [hi']; simp [hn]
  by_cases h0 : min n R = 0
  · refine V.ok (run_copy_none (P := P) w t t ty e _ a R c n c' ht hsz h0) (hk _ _ ?_ (Fr.refl _ _))
    rw [h0]
    simpa using hb
  · have hlt : 0 < n := by omega
    rcases (hs hlt).2 with ⟨h2, _⟩ | ⟨b, off, cap, h2, _, _, hc⟩
    · cases h2; omega
    · cases h2
      have hr := run_copy_row (P := P) w t t ty e g 0 R c ⟨b, off, none⟩ n c' xs.toArray te (cs.take (min n R)) ht hsz hb (by show _ = min n R; rw [List.length_take]; omega) (fun j u hj => by
        rw [add_mk]
        rw [List.getElem?_take] at hj
        split at hj
        · exact hc j u hj
        · cases hj) (by simp; omega) (fun u hu => by rw [oneC_eq]; exact List.all_eq_true.1 h1 u (List.mem_of_mem_take hu))
      refine V.ok hr (hk _ _ ?_ ⟨rfl, rfl, rfl, by simp, fun i _ hi => setRow_other _ _ _ _ hi⟩)
      unfold Blk
      rw [setRow_heap w g _ _ te (0, 0) hb]
      have hm : min (min n R) cs.length = min n R := by omega
      simp [List.length_take, hm]
end Go.Vc
