/- General laws of operations (from the other texts of this seed). Bytes; slices of slices; the heap's and the room's small functions. The heap's arrays are read, and written. What the room serves: ranges, bytes, put, copy. What the room serves: copy; Begin. Begin; Serve. Serve. What the room serves: send; Told. A heap of any arrays: read, checked. A room of any arrays: ranges, bytes, put. What the room serves, of any arrays: length, get, put, copy, same, send. What the room serves, of any arrays: same, send; arrays compared. A heap of any arrays: used, an array is made. -/
import Derived.Test.YtgjmpnngheohbaaDoorLaws2
import Derived.Test.YtgjmpnngheohbaaDoorInsts
import Derived.Test.YtgjmpnngheohbaaDoorDens
import Derived.Deep.AppendLies
import Derived.Laws.CopyRow
import Derived.Laws.BytesArg
namespace Go.Vc
section
variable {P : Program} {w : World} {K : Value → World → Prop}
end
end Go.Vc
namespace Go.Vc
section
variable {P : Program} {w : World} {K : Value → World → Prop} {S : World → Prop} {L : Value → Prop}
/-- The steps under S. -/
theorem yfB {s f o ft b : Nat} {cs : List Value} {u : Value} (hb : ∀ w', S w' → Boxed w' b cs) (h : FA P s f o) (hl : L1 P ft) (hc : cs[o]? = some u) (hk : L u) :
    yieldS P S (Instr.fieldAt s (.pointer (some ⟨b, 0, none⟩)) f) fun q => yieldS P S (Instr.loadAt ft q) L := by
  obtain ⟨d, hd, ha⟩ := hl
  exact yieldS.ok (fun w' _ => h.ex w' b 0) (yieldS.ok (fun w' hw => r_load hd ha (hb w' hw o u hc)) hk)
theorem ySl {t x : TypeId} {v : Value} {n : Nat} {cs : List Value} {k : IntKind} {i : Int} {u : Value} (h : XA P t 1) (hl : L1 P x) (hs0 : SliceIs w v 1 n cs) (hx : ∀ w', S w' → Ext w w') (h0 : 0 ≤ i) (h1 : i < n) (hu : cs[i.toNat]? = some u) (hk : L u) :
    yieldS P S (Instr.indexAt t v (.int k i)) fun p => yieldS P S (Instr.loadAt x p) L := by
  obtain ⟨e, z, b', ht, hi⟩ := h
  obtain ⟨d, hd, ha⟩ := hl
  obtain ⟨b, off, cap, rfl, hc⟩ := hs0.there (by omega)
  refine yieldS.ok (fun w' _ => r_index ht hi h0 h1) (yieldS.ok (fun w' hw => r_load hd ha ((hx w' hw).cell ?_)) hk)
  simpa using hc _ _ hu
theorem yLen {t ty n : Nat} {m : Nat} {v : Value} {size : Nat} {cs : List Value} (h : XA P t n) (hs : SliceIs w v size m cs) (hk : L (i64 m)) : yieldS P S (Builtin.len_ #[t] ty #[v]) L := by
  obtain ⟨e, z, b, ht, hi⟩ := h
  obtain ⟨a, c, rfl⟩ := hs.shape
  exact yieldS.ok (fun w' _ => r_len ht) hk
end
end Go.Vc
namespace Go.Vc
theorem mkBv {P : Program} {w : World} {K : Value → World → Prop} {t e by_ : Nat} {z : Value} {x : Int} {n : Nat} (hx : x = (n : Int)) (ht : P.underlying t = some (.slice e)) (hi : Inf P e z 1 by_) (hz : z.cells = #[z]) (hb : by_ * n ≤ 281474976710656) (h63 : n ≤ 9223372036854775807)
    (hk : ∀ w', Blk w' w.heap.size (List.replicate n z) e → Ext w w' → w'.heap.size = w.heap.size + 1 → K (.slice (some ⟨w.heap.size, 0, none⟩) n n) w') : V P (Instr.makeSlice t (.int .i64 x) (.int .i64 x)) w K := by
  subst hx
  exact mkB ht hi hz hb h63 hk
end Go.Vc
namespace Go.Vc
section
variable {P : Program} {w : World} {S : World → Prop} {L : Value → Prop}
theorem yA {t n b : Nat} {cs : List Value} (hb : ∀ w', S w' → Boxed w' b cs) (ht : ∃ d z by_, P.underlying t = some d ∧ aggB d = true ∧ Inf P t z n by_) (hl : cs.length = n) (hk : L (.agg cs.toArray)) : yieldS P S (Instr.loadAt t (.pointer (some ⟨b, 0, none⟩))) L := by
  obtain ⟨d, z, by_, h1, h2, h3⟩ := ht
  exact yieldS.ok (fun w' hw => r_loadAgg h1 h2 h3 hl fun j hj => by
    obtain ⟨u, hu⟩ : ∃ u, cs[j]? = some u := ⟨_, List.getElem?_eq_getElem hj⟩
    rw [hu]; exact hb w' hw j u hu) hk
variable {K : Value → World → Prop}
end
end Go.Vc
namespace Go.Vc
open Go.Proofs
section
variable {P : Program} {w : World} {K : Value → World → Prop}
/-- A new block. -/
theorem alK {t : TypeId} {z : Value} {n by_ : Nat} (hi : Inf P t z n by_) (hk : ∀ w1, Blk w1 w.heap.size z.cells.toList t → Ext w w1 → K (.pointer (some ⟨w.heap.size, 0, none⟩)) w1) : V P (Instr.alloc t true (.tuple #[])) w K :=
  V.ok (r_alloc hi) (hk _ (by unfold Blk; rw [heap_alloc_new]) ((Ext.refl w).alloc _))
theorem bxK {t : TypeId} {v : Value} (hk : ∀ w1, Blk w1 w.heap.size v.cells.toList t → Ext w w1 → K (.pointer (some ⟨w.heap.size, 0, none⟩)) w1) : V P (Instr.box t v) w K :=
  V.ok r_box (hk _ (by unfold Blk; rw [heap_alloc_new]) ((Ext.refl w).alloc _))
theorem asK {t n : TypeId} {v : Value} {K' : Value → World → Prop} (h : SA P t n) (hn : v.cells.size = n) (h1 : v.cells.toList.all oneC = true) (hk : ∀ w1, Blk w1 w.heap.size v.cells.toList t → Ext w w1 → K' (.pointer (some ⟨w.heap.size, 0, none⟩)) w1) :
    V P (Instr.alloc t true (.tuple #[])) w (fun p w1 => U P (Instr.storeAt t p v) w1 fun _ w2 => K' p w2) :=
  as_ h hn h1 (hk _ (by unfold Blk; rw [heap_alloc_new]) ((Ext.refl w).alloc _))
/-- An append onto what the call owns, of elements of any size. -/
theorem apA {t e by_ ty sz : Nat} {z : Value} (ht : P.underlying t = some (.slice e)) (hi : Inf P e z sz by_) (hz : (z.cells.size == sz) = true) (hsz : 0 < sz) {B : Nat} {v : Value} {n : Nat} {xs : List Value} (ho : w.ownsRow B e sz v n xs) {x : Value} {m : Nat} {news : List Value} (hs : SliceIs w x sz m news) (h1 : news.all oneC = true)
    (hb : (n + m) * by_ ≤ 140737488355328) (h63 : n + m ≤ maxLen) (hB : B ≤ w.heap.size) (hk : ∀ v' w', w'.ownsRow B e sz v' (n + m) (xs ++ news) → w.grownBy w' v.ownBlock → K v' w') :
    V P (Builtin.append_ #[t, t] ty #[v, x]) w K := by
  obtain ⟨i, hi', hz', hn, hby⟩ := info_parts hi
  rcases hs.2 with ⟨rfl, rfl⟩ | ⟨b, off, cap, rfl, _, _, hc⟩
  · have hnews : news = [] := by have := hs.1; simpa using this
    subst hnews
    refine V.ok (run_append_owned_none w B t ty e i sz ht hi' v n xs ho) (hk _ _ (by simpa using ho) ⟨rfl, rfl, rfl, Nat.le_refl _, fun _ _ _ => rfl⟩)
  · obtain ⟨v', w', hr, h2, h3, _⟩ := run_append_own (P := P) w B t ty e i z sz by_ ht hi' hz' hn hby (by simpa using hz) hsz v n xs ho ⟨b, off, none⟩ m cap news hs.1
      (fun j u hj => by rw [add_mk]; exact hc j u hj) (fun u hu => by rw [oneC_eq]; exact List.all_eq_true.1 h1 u hu) h63 hb hB
    exact V.ok hr (hk _ _ h2 h3)
theorem Blk.boxed {g : Nat} {cs : List Value} {e : TypeId} (h : Blk w g cs e) : Boxed w g cs := fun j u hj => by rw [Nat.zero_add, h.cell]; exact hj
/-- Only block g has changed. -/
structure Chg (w : World) (g : Nat) (w' : World) : Prop where
  ext : ∀ a, Ext a w → a.heap.size ≤ g → Ext a w'
  same : ∀ i, i ≠ g → w'.heap[i]? = w.heap[i]?
  size : w'.heap.size = w.heap.size
  grown : w.grownBy w' (some g)
theorem Chg.ownRow {w w' : World} {g B e sz n : Nat} {v : Value} {xs : List Value} (h : Chg w g w') (ho : w.ownsRow B e sz v n xs) (hB : g < B) : w'.ownsRow B e sz v n xs :=
  ho.kept h.grown (own_ne ho fun k hk => by cases hk; exact hB)
theorem run_storeB {g : Nat} {e : TypeId} : ∀ (l done old : List Value) (w : World), l.length = old.length → (∀ u ∈ l, oneC u = true) → Blk w g (done ++ old) e →
    ∃ w', (storeCells ⟨g, 0, none⟩ l done.length).run P w = .ok () w' ∧ Blk w' g (done ++ l) e ∧ Chg w g w'
  | [], done, [], w, _, _, hb => ⟨w, by simp [storeCells], hb, ⟨fun _ h _ => h, fun _ _ => rfl, rfl, ⟨rfl, rfl, rfl, Nat.le_refl _, fun _ _ _ => rfl⟩⟩⟩
  | v :: l, done, u :: old, w, hl, h1, hb => by
    have hc := hb.cell done.length
    simp only [List.getElem?_append_right (Nat.le_refl _), Nat.sub_self, List.getElem?_cons_zero] at hc
    have hs := run_store1 (P := P) (h1 v (by simp)) hc (hb.frozen done.length)
    have hb1 : Blk (w.setCell ⟨g, done.length, none⟩ v) g ((done ++ [v]) ++ old) e := by
      have := hb.set done.length v
      rw [List.set_append_right _ _ (Nat.le_refl _)] at this
      simpa using this
    obtain ⟨w', h2, h3, h4⟩ := run_storeB l (done ++ [v]) old _ (by simpa using hl) (fun u hu => h1 u (by simp [hu])) hb1
    refine ⟨w', ?_, by simpa using h3, ⟨fun a ha hg => h4.ext a (ha.setCell hg v) hg, fun i hi => (h4.same i hi).trans (heap_setCell_other _ _ _ _ (fun he => hi he)), h4.size.trans (by simp), ⟨h4.grown.os, h4.grown.tape, h4.grown.output, by have := h4.grown.size; simpa using this, fun k hk hne => (h4.grown.block k (by simpa using hk) hne).trans (heap_setCell_other _ _ _ _ (fun he => hne (by simp [he])))⟩⟩⟩
    simp only [storeCells, add_mk, Nat.zero_add, Sem.run_bind]
    rw [hs, Result.andThen_ok]
    simpa using h2
theorem stA {t : TypeId} {z v : Value} {n by_ g : Nat} {old l : List Value} {e : TypeId} {K' : Value → World → Prop} (hi : Inf P t z n by_) (hb : Blk w g old e) (hv : v.cells = l.toArray) (hl : l.length = n) (ho : old.length = n) (h1 : l.all oneC = true)
    (hk : ∀ w', Blk w' g l e → Chg w g w' → K' undef w') : U P (Instr.storeAt t (.pointer (some ⟨g, 0, none⟩)) v) w K' := by
  obtain ⟨w', h2, h3, h4⟩ := run_storeB (P := P) l [] old w (by omega) (fun u hu => List.all_eq_true.1 h1 u hu) hb
  refine U.ok ?_ (hk w' (by simpa using h3) h4)
  simp only [List.length_nil] at h2
  simp [Instr.storeAt, Instr.sureAddr, storeVar, run_size hi, hv, hl, h2]
/-- What a block holds, as one value. -/
theorem r_var {t : TypeId} {d : TypeDesc} {z : Value} {n by_ g : Nat} {l : List Value} {e : TypeId} (ht : P.underlying t = some d) (hd : aggB d = true) (hi : Inf P t z n by_) (hb : Blk w g l e) (hl : l.length = n) :
    (loadVar t ⟨g, 0, none⟩).run P w = .ok (.agg l.toArray) w := by
  have := r_loadAgg (P := P) (w := w) (b := g) (off := 0) ht hd hi hl fun j hj => by
    obtain ⟨u, hu⟩ : ∃ u, l[j]? = some u := ⟨_, List.getElem?_eq_getElem hj⟩
    rw [hu, Nat.zero_add, hb.cell]; exact hu
  simpa [Instr.loadAt, Instr.sureAddr] using this
end
end Go.Vc
namespace Go.Vc
section
variable {P : Program} {w : World} {K : Value → World → Prop} {S : World → Prop} {L : Value → Prop}
/-- l[i], of structs. -/
theorem ldxA {t x : TypeId} {v : Value} {n sz : Nat} {cs l : List Value} {k : IntKind} {i : Int} (h : XA P t sz) (ht : ∃ d z by_, P.underlying x = some d ∧ aggB d = true ∧ Inf P x z sz by_) (hs : SliceIs w v sz n cs) (h0 : 0 ≤ i) (h1 : i < n)
    (hc : (cs.drop (i.toNat * sz)).take sz = l) (hl : l.length = sz) (hk : K (.agg l.toArray) w) :
    V P (Instr.indexAt t v (.int k i)) w fun p w1 => V P (Instr.loadAt x p) w1 K := by
  obtain ⟨e, z, b', hte, hi⟩ := h
  obtain ⟨d, z', by_, h2, h3, h4⟩ := ht
  obtain ⟨b, off, cap, rfl, hcell⟩ := hs.there (by omega)
  refine V.ok (r_index hte hi h0 h1) (V.ok (r_loadAgg h2 h3 h4 hl fun j hj => ?_) hk)
  obtain ⟨u, hu⟩ : ∃ u, l[j]? = some u := ⟨_, List.getElem?_eq_getElem hj⟩
  rw [hu, Nat.add_assoc]
  refine hcell _ u ?_
  rw [← hc, List.getElem?_take, List.getElem?_drop] at hu
  split at hu
  · exact hu
  · cases hu
end
end Go.Vc
namespace Go.Vc
open Go.Proofs
section
variable {P : Program} {w : World} {K : Value → World → Prop} {S : World → Prop} {L : Value → Prop}
theorem yBld {t : TypeId} {zs : List Value} (h : BD P t zs) {parts : Array (Nat × Value)} (l : List (Nat × Value)) (hp : parts = l.toArray) (h1 : (l.all fun x => decide (x.1 < zs.length) && oneC x.2) = true)
    (hk : L (.agg (l.foldl (fun cs x => cs.set x.1 x.2) zs).toArray)) : yieldS P S (Instr.build t parts) L := by
  subst hp
  obtain ⟨fs, b, hu, hi, hm⟩ := h
  refine yieldS.ok (fun w _ => ?_) hk
  simp only [Instr.build, Sem.run_bind, run_zero hi, Result.andThen_ok, run_underlying hu, hm, Value.cells]
  rw [fillB l zs rfl h1]
  simp
theorem r_max2 {t : TypeId} {ts : Array TypeId} {a b : Int} : (Builtin.max_ ts t #[.int .i64 a, .int .i64 b]).run P w = .ok (.int .i64 (if a < b then b else a)) w ∨ (Builtin.max_ ts t #[.int .i64 a, .int .i64 b]).run P w = .ok (.int .i64 (if b < a then a else b)) w := by
  simp [Builtin.max_, Builtin.max2]
theorem mx2 {t : TypeId} {ts : Array TypeId} {a b : Int} (hk : ∀ c, (c = a ∨ c = b) → a ≤ c → b ≤ c → K (.int .i64 c) w) : V P (Builtin.max_ ts t #[.int .i64 a, .int .i64 b]) w K := by
  rcases r_max2 (P := P) (w := w) (t := t) (ts := ts) (a := a) (b := b) with h | h
  · exact V.ok h (hk _ (by split <;> simp) (by split <;> omega) (by split <;> omega))
  · exact V.ok h (hk _ (by split <;> simp) (by split <;> omega) (by split <;> omega))
theorem r_min2 {t : TypeId} {ts : Array TypeId} {a b : Int} : (Builtin.min_ ts t #[.int .i64 a, .int .i64 b]).run P w = .ok (.int .i64 (if a < b then a else b)) w ∨ (Builtin.min_ ts t #[.int .i64 a, .int .i64 b]).run P w = .ok (.int .i64 (if b < a then b else a)) w := by
  simp [Builtin.min_, Builtin.min2]
theorem mn2 {t : TypeId} {ts : Array TypeId} {a b : Int} (hk : ∀ c, (c = a ∨ c = b) → c ≤ a → c ≤ b → K (.int .i64 c) w) : V P (Builtin.min_ ts t #[.int .i64 a, .int .i64 b]) w K := by
  rcases r_min2 (P := P) (w := w) (t := t) (ts := ts) (a := a) (b := b) with h | h
  · exact V.ok h (hk _ (by split <;> simp) (by split <;> omega) (by split <;> omega))
  · exact V.ok h (hk _ (by split <;> simp) (by split <;> omega) (by split <;> omega))
theorem rm {t : TypeId} {a b : Int} (hb : 0 < b) (hk : ∀ c, c = a.tmod b → -b < c → c < b → K (.int .i64 c) w) : V P (binOp .rem t (.int .i64 a) (.int .i64 b)) w K := by
  have hne : b ≠ 0 := by omega
  have hr : (binOp .rem t (.int .i64 a) (.int .i64 b)).run P w = .ok (.int .i64 (a.tmod b)) w := by simp [binOp, Op.intDiv, hne]
  exact V.ok hr (hk _ rfl (by have := Int.lt_tmod_of_pos a hb; simpa using this) (Int.tmod_lt_of_pos a hb))
theorem r_idx {t e n : TypeId} {z : Value} {by_ : Nat} (ht : P.underlying t = some (.array n e)) (hi : Inf P e z 1 by_) (hd : ∃ k, P.underlying e = some (.int k)) {cs : Array Value} {i : Int} {u : Value} (h0 : 0 ≤ i) (h1 : i < n) (hu : cs[i.toNat]? = some u) (h1c : oneC u = true) :
    (Instr.index t (.agg cs) (.int .i64 i)).run P w = .ok u w := by
  obtain ⟨k, hd⟩ := hd
  simp [Instr.index, asIntOf, run_underlying ht, run_size hi, h0, h1, part, run_isAgg hd, aggB, hu]
/-- l[:k] -/
theorem r_hi {t e : TypeId} {z : Value} {by_ : Nat} (ht : P.underlying t = some (.slice e)) (hi : Inf P e z 1 by_) {a : Option Addr} {n c k : Nat} (hk : k ≤ c) :
    (Instr.sliceAt t (.slice a n c) none (some (.int .i64 (k : Int))) none).run P w = .ok (.slice (if c = 0 then a else a.map (·.add 0)) k c) w := by
  have h0 : (0 : Int) ≤ k ∧ (k : Int) ≤ c := ⟨by omega, by omega⟩
  simp [Instr.sliceAt, Instr.slice, run_underlying ht, run_size hi, Instr.sliceBounds, Instr.sliceBound, asIntOf, h0]
  intro h
  omega
end
end Go.Vc
namespace Go.Vc
section
variable {P : Program} {w : World}
end
end Go.Vc
namespace Go.Vc
/-- All but some blocks stay. -/
structure Fr (S : Nat → Prop) (w w' : World) : Prop where
  os : w'.os = w.os
  tape : w'.tape = w.tape
  output : w'.output = w.output
  size : w.heap.size ≤ w'.heap.size
  block : ∀ i, i < w.heap.size → ¬ S i → w'.heap[i]? = w.heap[i]?
theorem Fr.refl (S : Nat → Prop) (w : World) : Fr S w w := ⟨rfl, rfl, rfl, Nat.le_refl _, fun _ _ _ => rfl⟩
theorem Fr.trans {S T : Nat → Prop} {a b c : World} (h : Fr S a b) (k : Fr T b c) (hT : ∀ i, i < a.heap.size → T i → S i) : Fr S a c :=
  ⟨k.os.trans h.os, k.tape.trans h.tape, k.output.trans h.output, Nat.le_trans h.size k.size, fun i hi hn => (k.block i (Nat.lt_of_lt_of_le hi h.size) fun ht => hn (hT i hi ht)).trans (h.block i hi hn)⟩
theorem Fr.or {S T : Nat → Prop} {a b c : World} (h : Fr S a b) (k : Fr T b c) : Fr (fun i => S i ∨ T i) a c :=
  ⟨k.os.trans h.os, k.tape.trans h.tape, k.output.trans h.output, Nat.le_trans h.size k.size, fun i hi hn => (k.block i (Nat.lt_of_lt_of_le hi h.size) fun ht => hn (.inr ht)).trans (h.block i hi fun hs => hn (.inl hs))⟩
theorem Fr.mono {S T : Nat → Prop} {a b : World} (h : Fr S a b) (hT : ∀ i, S i → T i) : Fr T a b := ⟨h.os, h.tape, h.output, h.size, fun i hi hn => h.block i hi fun hs => hn (hT i hs)⟩
theorem Fr.of_ext {S : Nat → Prop} {w w' : World} (h : Ext w w') : Fr S w w' := ⟨h.os, h.tape, h.output, h.size, fun i hi _ => h.block i hi (by simp)⟩
theorem Fr.of_grown {S : Nat → Prop} {w w' : World} {row : Option Nat} (h : w.grownBy w' row) (hr : ∀ k, row = some k → S k) : Fr S w w' := ⟨h.os, h.tape, h.output, h.size, fun i hi hn => h.block i hi fun he => hn (hr i he.symm)⟩
theorem Fr.of_set {S : Nat → Prop} {w : World} {b o : Nat} {v : Value} (hb : S b) : Fr S w (w.setCell ⟨b, o, none⟩ v) := ⟨rfl, rfl, rfl, by simp, fun i _ hn => heap_setCell_other _ _ _ _ (fun he => hn (by simp [he]; exact hb))⟩
theorem Fr.set {S : Nat → Prop} {w w' : World} (h : Fr S w w') {b o : Nat} {v : Value} (hb : S b) : Fr S w (w'.setCell ⟨b, o, none⟩ v) := h.trans (Fr.of_set (S := S) hb) fun _ _ h => h
theorem Fr.ext {S : Nat → Prop} {w0 w w' : World} (h : Fr S w w') (hx : Ext w0 w) (hS : ∀ i, S i → w0.heap.size ≤ i) : Ext w0 w' :=
  ⟨h.os.trans hx.os, h.tape.trans hx.tape, h.output.trans hx.output, Nat.le_trans hx.size h.size, fun i hi hn => (h.block i (Nat.lt_of_lt_of_le hi hx.size) fun hs => by have := hS i hs; omega).trans (hx.block i hi hn)⟩
theorem Fr.blk {S : Nat → Prop} {w w' : World} {g : Nat} {cs : List Value} {e : TypeId} (h : Fr S w w') (hb : Blk w g cs e) (hn : ¬ S g) : Blk w' g cs e := by
  unfold Blk
  rw [h.block g hb.lt hn]; exact hb
theorem Fr.own {S : Nat → Prop} {w w' : World} {B e sz n : Nat} {v : Value} {xs : List Value} (h : Fr S w w') (ho : w.ownsRow B e sz v n xs) (hn : ∀ k, v.ownBlock = some k → ¬ S k) : w'.ownsRow B e sz v n xs := by
  refine ⟨ho.1, ?_⟩
  rcases ho.2 with h1 | ⟨g, cap, cur, rfl, hb, hg, rest⟩
  · exact .inl h1
  · refine .inr ⟨g, cap, cur, rfl, hb, ?_, rest⟩
    rw [h.block g (Array.getElem?_eq_some_iff.1 hg).1 (hn g rfl)]
    exact hg
/-- An append onto what the call owns, and where it lies. -/
theorem apL {P : Program} {w : World} {K : Value → World → Prop} {t e by_ ty : Nat} (h : XE P t e by_) {B B' : Nat} {v : Value} {n : Nat} {xs : List Value} (ho : w.ownsRow B e 1 v n xs) {x : Value} {m : Nat} {news : List Value} (hs : w.ownsRow B' e 1 x m news) (hm : 0 < m) (h1 : news.all oneC = true)
    (hb : (n + m) * by_ ≤ 140737488355328) (h63 : n + m ≤ maxLen) (hB : B ≤ w.heap.size)
    (hk : ∀ g cap w', w'.ownsRow B e 1 (.slice (some ⟨g, 0, none⟩) (n + m) cap) (n + m) (xs ++ news) → w.grownBy w' v.ownBlock → (v.ownBlock = some g ∨ g = w.heap.size) → K (.slice (some ⟨g, 0, none⟩) (n + m) cap) w') :
    V P (Builtin.append_ #[t, t] ty #[v, x]) w K := by
  obtain ⟨z, ht, hi, hz⟩ := h
  obtain ⟨i, hi', hz', hn, hby⟩ := info_parts hi
  have hs0 := hs
  rcases hs.2 with ⟨_, h0⟩ | ⟨b, cap, cur, rfl, _⟩
  · omega
  · obtain ⟨g, cap, w', hr, h2, h3, h4, h5⟩ := run_append_lies (P := P) (w := w) t ty B e i z 1 by_ ht hi' hz' hn hby (by simpa using hz) (by omega) v n xs ho ⟨b, 0, none⟩ m cap news (by have := hs.1; simpa using this) (hs0.cells rfl) (fun u hu => by rw [oneC_eq]; exact List.all_eq_true.1 h1 u hu) hm h63 hb hB _ rfl
    exact V.ok hr (hk g cap w' h2 h3 h4)
end Go.Vc
namespace Go.Vc
/-- A field of a block is stored. -/
theorem stF {P : Program} {w : World} {K : World → Prop} {s f o ft b n by_ : Nat} {z u : Value} {cs : List Value} {e : TypeId} (hf : FA P s f o) (hi : Inf P ft z 1 by_) (hb : Blk w b cs e) (hn : cs.length = n) (ho : o < n) (hu : oneC u = true) (hk : K (w.setCell ⟨b, o, none⟩ u)) :
    V P (Instr.fieldAt s (.pointer (some ⟨b, 0, none⟩)) f) w fun q w1 => U P (Instr.storeAt ft q u) w1 fun _ w2 => K w2 := by
  refine V.ok (hf.ex w b 0) ?_
  have hc := hb.cell o
  rw [List.getElem?_eq_getElem (by omega)] at hc
  rw [Nat.zero_add]
  exact U.ok (r_store hi hu hc (hb.frozen _)) hk
end Go.Vc
namespace Go.Vc
end Go.Vc
namespace Go.Vc
/-- A cell of a block is stored, at an address that is known. -/
theorem stFU {P : Program} {w : World} {K : World → Prop} {ft b o n by_ : Nat} {z u : Value} {cs : List Value} {e : TypeId} (hi : Inf P ft z 1 by_) (hb : Blk w b cs e) (hn : cs.length = n) (ho : o < n) (hu : oneC u = true) (hk : K (w.setCell ⟨b, o, none⟩ u)) :
    U P (Instr.storeAt ft (.pointer (some ⟨b, 0 + o, none⟩)) u) w fun _ w2 => K w2 := by
  have hc := hb.cell o
  rw [List.getElem?_eq_getElem (by omega)] at hc
  rw [Nat.zero_add]
  exact U.ok (r_store hi hu hc (hb.frozen _)) hk
end Go.Vc
namespace Go.Vc
section
variable {P : Program} {w : World}
end
end Go.Vc
namespace Go.Vc
theorem V.mono {P : Program} {s : Sem Value} {w : World} {K K' : Value → World → Prop} (h : V P s w K) (hk : ∀ v w', K v w' → K' v w') : V P s w K' := by
  obtain ⟨v, w', h1, h2⟩ := h
  exact ⟨v, w', h1, hk v w' h2⟩
end Go.Vc
namespace Go.Vc
end Go.Vc
namespace Go.Vc
open Go.Proofs
abbrev u8 (b : Int) : Value := .int .u8 b
section
variable {P : Program} {w : World} {K : Value → World → Prop} {S : World → Prop} {L : Value → Prop}
/-- l, as bytes that lie in a slice. -/
def BytesAre (w : World) (v : Value) (l : List Int) : Prop := SliceIs w v 1 l.length (l.map u8)
theorem BytesAre.ext {w w' : World} {v : Value} {l : List Int} (h : BytesAre w v l) (hx : Ext w w') : BytesAre w' v l := SliceIs.ext h hx
theorem all_u8 (l : List Int) : (l.map u8).all oneC = true := by simp [oneC]
theorem q_ptr {s e : TypeId} (hs : P.underlying s = some (.pointer e)) (d : Nat) {a : Addr} : (Op.equalIn (d + 1) s (.pointer (some a)) (.pointer none)).run P w = .ok false w := by
  simp [Op.equalIn, run_underlying hs]
theorem q_ptrN {s e : TypeId} (hs : P.underlying s = some (.pointer e)) (d : Nat) : (Op.equalIn (d + 1) s (.pointer none) (.pointer none)).run P w = .ok true w := by
  simp [Op.equalIn, run_underlying hs]
theorem r_eqPtr {s e : TypeId} (hs : P.underlying s = some (.pointer e)) {x y : Operand} {a : Addr} :
    (do eqGuard .eql s x y (.pointer (some a)) (.pointer none); binOp .eql s (.pointer (some a)) (.pointer none)).run P w = .ok (.bool false) w := by
  simp [eqGuard, binOp, equal_succ, q_ptr hs]
/-- l[lo:hi] -/
theorem r_sl {t e : TypeId} {z : Value} {by_ : Nat} (ht : P.underlying t = some (.slice e)) (hi : Inf P e z 1 by_) {v : Value} {n : Nat} {cs : List Value} (h : SliceIs w v 1 n cs) {lo hi' : Option Value} {a b : Nat} (ha : (lo = none ∧ a = 0) ∨ lo = some (.int .i64 a)) (hb : (hi' = none ∧ b = n) ∨ hi' = some (.int .i64 b)) (hab : a ≤ b) (hbn : b ≤ n) :
    ∃ v', (∀ w', (Instr.sliceAt t v lo hi' none).run P w' = .ok v' w') ∧ ∀ w2, SliceIs w2 v 1 n cs → SliceIs w2 v' 1 (b - a) ((cs.drop a).take (b - a)) := by
  have hcl : cs.length = n := by have := h.1; omega
  rcases h.2 with ⟨rfl, h0⟩ | ⟨g, off, cap, rfl, h1, h2, _⟩
  · have ea : a = 0 := by omega
    have eb : b = 0 := by omega
    subst ea eb
    refine ⟨.slice none 0 0, fun w' => ?_, fun w2 _ => ?_⟩
    · rcases ha with ⟨rfl, _⟩ | rfl <;> rcases hb with ⟨rfl, _⟩ | rfl <;> simp [Instr.sliceAt, Instr.slice, run_underlying ht, run_size hi, Instr.sliceBounds, Instr.sliceBound, asIntOf]
    · simp
      exact SliceIs.nil w2 1
  · have hb1 : (0 : Int) ≤ b ∧ (b : Int) ≤ cap := ⟨by omega, by omega⟩
    have ha1 : (0 : Int) ≤ a ∧ (a : Int) ≤ b := ⟨by omega, by omega⟩
    have hbc : b ≤ cap := by omega
    refine ⟨.slice (if cap = a then some ⟨g, off, none⟩ else (some (⟨g, off, none⟩ : Addr)).map (·.add (a * 1))) (b - a) (cap - a), fun w' => ?_, fun w2 hw2 => ?_⟩
    · rcases ha with ⟨rfl, rfl⟩ | rfl <;> rcases hb with ⟨rfl, rfl⟩ | rfl <;> simp [Instr.sliceAt, Instr.slice, run_underlying ht, run_size hi, Instr.sliceBounds, Instr.sliceBound, asIntOf, hab, hbc]
    · refine ⟨by simp; omega, .inr ?_⟩
      by_cases hca : cap = a
      · rw [if_pos hca]
        exact ⟨g, off, cap - a, rfl, by omega, by omega, fun j u hj => by
          have := (List.getElem?_eq_some_iff.1 hj).1
          simp at this
          omega⟩
      · rw [if_neg hca]
        rcases hw2.2 with ⟨he, _⟩ | ⟨g', off', cap', he, _, _, h3⟩
        · cases he
        · cases he
          refine ⟨g, off + a, cap - a, by simp [add_mk], by omega, by omega, fun j u hj => ?_⟩
          rw [List.getElem?_take] at hj
          split at hj
          · rw [List.getElem?_drop] at hj
            have := h3 _ _ hj
            rw [Nat.add_assoc]; exact this
          · cases hj
theorem r_eqStr {s : TypeId} {x y : Operand} {a b : ByteArray} :
    (do eqGuard .eql s x y (.string a) (.string b); binOp .eql s (.string a) (.string b)).run P w = .ok (.bool (a.toList == b.toList)) w := by
  simp [eqGuard, binOp, Op.stringOp]
theorem r_str {src e dst : TypeId} (hs : P.underlying src = some (.slice e)) (he : P.underlying e = some (.int .u8)) (hd : P.underlying dst = some .string) {v : Value} {l : List Int} (h : BytesAre w v l) : (convert src dst v).run P w = .ok (.string (strOfNums l)) w := by
  rcases h.2 with ⟨rfl, h0⟩ | ⟨b, off, cap, rfl, h1, h2, h3⟩
  · obtain rfl : l = [] := List.eq_nil_of_length_eq_zero h0
    rw [run_convert_bytes_string w src dst e _ 0 0 hs he hd]
    simp [Conv.bytesToString]
    rfl
  · refine run_convert_bytes_arg (P := P) w src e hs he b off l.length cap l rfl (fun i hi => ?_) dst hd
    refine h3 i _ ?_
    simp [List.getD, hi]
end
end Go.Vc
namespace Go.Proofs.YtgjmpnngheohbaaDoor
open Go.Vc
theorem i64_succ (j : Nat) : Value.int .i64 ((j : Int) + 1) = i64 ((j + 1 : Nat) : Int) := by simp
theorem intOf_i64 (n : Int) : RowKit.intOf (i64 n) = n := rfl
theorem ex_get {α : Type} {l : List α} {j : Nat} (h : j < l.length) : ∃ u, l[j]? = some u := ⟨_, List.getElem?_eq_getElem h⟩
/-- An argument that is a slice of bytes. -/
def ArgsU8 (w : World) (sv : Value) (l : List Int) : Prop := (sv = .slice none 0 0 ∧ l = []) ∨ ∃ ad c, sv = .slice (some ad) l.length c ∧ (0 < l.length → BytesAre w sv l)
theorem ArgsU8.ext {w w' : World} {sv : Value} {l : List Int} (h : ArgsU8 w sv l) (hx : Ext w w') : ArgsU8 w' sv l := by
  rcases h with h | ⟨ad, c, h1, h2⟩
  · exact .inl h
  · exact .inr ⟨ad, c, h1, fun h0 => (h2 h0).ext hx⟩
/-- Few. -/
theorem few_ok {v : Value} {l : List Int} {k : Nat} {w : World} (h : ArgsU8 w v l) (hk : k ≤ 1000) : callD Tryd.prog 17 #[v, i64 (k : Int)] w fun r w' => w'.ownsRow w.heap.size 5 1 r (l.take k).length ((l.take k).map u8) ∧ Ext w w' := by
  apply F17_wp
  unfold F17_den
  refine bsl (by first | exact xe_32 | exact xe_39 | exact xe_40) [] rfl rfl (by simp) rfl fun v1 w1 ho1 x1 => ?_
  have hln : V Tryd.prog (Builtin.len_ #[40] 3 #[v]) w1 fun t w' => t = i64 l.length ∧ w' = w1 := by
    rcases h with ⟨rfl, rfl⟩ | ⟨ad, c, rfl, _⟩
    · exact V_ln_40.2 ⟨rfl, rfl⟩
    · exact V_ln_40.2 ⟨rfl, rfl⟩
  refine hln.mono fun t w' ⟨ht, hw⟩ => ?_
  subst ht; have hw := hw.symm; subst hw
  refine mn2 fun c hc h1 h2 => ?_
  obtain ⟨b, rfl⟩ : ∃ b : Nat, c = b := ⟨c.toNat, by rcases hc with rfl | rfl <;> omega⟩
  have hb : b = min l.length k := by omega
  have main : BytesAre w1 v l → V Tryd.prog (Instr.sliceAt 40 v none (some (i64 (b : Int))) none) w1 fun t11 w4 => V Tryd.prog (Builtin.append_ #[40, 40] 40 #[v1, t11]) w4 fun r w' => w'.ownsRow w.heap.size 5 1 r (l.take k).length ((l.take k).map u8) ∧ Ext w w' := fun hB => by
    obtain ⟨v2, hr, hs2⟩ := r_sl Tryd.underlying40 inf5 hB (lo := none) (hi' := some (i64 b)) (a := 0) (b := b) (.inl ⟨rfl, rfl⟩) (.inr rfl) (by omega) (by omega)
    refine V.ok (hr _) ?_
    refine apO (by first | exact xe_32 | exact xe_39 | exact xe_40) ho1 (hs2 _ hB) (by rw [List.all_eq_true]; intro x hx; exact List.all_eq_true.1 (all_u8 l) x (List.mem_of_mem_drop (List.mem_of_mem_take hx))) (by omega) (by unfold maxLen; omega) x1.size fun v3 w3 ho3 hg3 => ?_
    refine ⟨?_, x1.grown hg3 fun k hk => (ho1.lt k hk).1⟩
    have := ho3
    have e : (l.take k).length = b := by simp; omega
    rw [e]
    simp only [Nat.zero_add, List.nil_append, Nat.sub_zero, List.drop_zero] at this
    rw [show (l.take k).map u8 = (l.map u8).take b from by rw [List.map_take, hb]; simp [Nat.min_comm, List.take_eq_take_iff]]
    exact this
  rcases h with ⟨rfl, rfl⟩ | ⟨ad, c, rfl, hB⟩
  · exact main (SliceIs.nil _ _)
  by_cases h0 : 0 < l.length
  · exact main ((hB h0).ext x1)
  · have hl0 : l = [] := List.eq_nil_of_length_eq_zero (by omega)
    subst hl0
    have hb0 : b = 0 := by simp at hb; exact hb
    subst hb0
    refine V.ok (r_hi Tryd.underlying40 inf5 (Nat.zero_le _)) ?_
    obtain ⟨z, ht, hi, hz⟩ := (by exact (by first | exact xe_32 | exact xe_39 | exact xe_40) : XE Tryd.prog 40 5 1)
    obtain ⟨i, hi', hz', hn, hby⟩ := info_parts hi
    obtain ⟨ad', he⟩ : ∃ ad', (if c = 0 then some ad else (some ad).map (·.add 0)) = some ad' := by split <;> exact ⟨_, rfl⟩
    rw [he]
    obtain ⟨v3, w3, hr, h2, h3, _⟩ := run_append_own (P := Tryd.prog) w1 w.heap.size 40 40 5 i z 1 1 ht hi' hz' hn hby (by simpa using hz) (by omega) v1 0 [] ho1 ad' 0 c [] rfl (fun j u hj => by simp at hj) (fun u hu => by simp at hu) (by unfold maxLen; omega) (by omega) x1.size
    refine V.ok hr ⟨?_, x1.grown h3 fun k hk => (ho1.lt k hk).1⟩
    simpa using h2
theorem clone_u8 {v : Value} {l : List Int} {w : World} (h : BytesAre w v l) (hl : l.length ≤ 4294967296) : callD Tryd.prog 65 #[v] w fun r w' => w'.ownsRow w.heap.size 5 1 r l.length (l.map u8) ∧ Ext w w' := by
  apply F65_wp
  unfold F65_den
  exact cloneD (R := fun r w' => w'.ownsRow w.heap.size 5 1 r l.length (l.map u8) ∧ Ext w w') xe_40 h (all_u8 l) (by omega) fun v' w' h1 h2 => ⟨h1, h2⟩
def a1 (d : Value) : List Value := [i64 (-1), i64 3, i64 0, .bool false, d]
def a2 (d : Value) : List Value := [i64 (-1), i64 4, i64 0, .bool false, d]
/-- A room with the two buffers alone. -/
structure RoomIs (w : World) (rb hb ab : Nat) (d1 d2 pub sec : Value) : Prop where
  room : Blk w rb [.pointer (some ⟨hb, 0, none⟩), .slice none 0 0, .slice none 0 0, pub, sec] 80
  heap : Blk w hb [i64 100, .slice (some ⟨ab, 0, none⟩) 2 2] 120
  arr : Blk w ab (a1 d1 ++ a2 d2) 105
  lt : ab < hb ∧ hb < rb
end Go.Proofs.YtgjmpnngheohbaaDoor
namespace Go.Proofs.YtgjmpnngheohbaaDoor
open Go.Vc
def dk (k : Nat) (d1 d2 : Value) : Value := if k = 0 then d1 else d2
def arrK (k : Nat) (d : Value) : List Value := [i64 (-1), i64 (3 + (k : Int)), i64 0, .bool false, d]
theorem own_one {w : World} {B e s n : Nat} {v : Value} {xs : List Value} (h : w.ownsRow B e s v n xs) : oneC v = true := by
  rcases h.2 with ⟨h1, _⟩ | ⟨g, cap, cur, h1, _⟩ <;> (rw [h1]; rfl)
end Go.Proofs.YtgjmpnngheohbaaDoor
namespace Go.Proofs.YtgjmpnngheohbaaDoor
open Go.Vc
def svc (rb : Nat) (who a b : Int) (av : Value) : Value := .agg #[.pointer (some ⟨rb, 0, none⟩), .pointer none, i64 who, i64 a, i64 b, av]
theorem getD_u8 {l : List Int} {a : Nat} (h : a < l.length) : (l.map u8)[((a : Nat) : Int).toNat]? = some (u8 (l.getD a 0)) := by simp [List.getD, h]
end Go.Proofs.YtgjmpnngheohbaaDoor
namespace Go.Vc
theorem ySlF {P : Program} {w : World} {S : World → Prop} {L : Value → Prop} {t x : TypeId} {v : Value} {n : Nat} {cs : List Value} {k : IntKind} {i : Int} {u : Value} (h : XA P t 1) (hl : L1 P x) (hs0 : SliceIs w v 1 n cs) (hs : ∀ w', S w' → SliceIs w' v 1 n cs) (h0 : 0 ≤ i) (h1 : i < n) (hu : cs[i.toNat]? = some u) (hk : L u) :
    yieldS P S (Instr.indexAt t v (.int k i)) fun p => yieldS P S (Instr.loadAt x p) L := by
  obtain ⟨e, z, b', ht, hi⟩ := h
  obtain ⟨d, hd, ha⟩ := hl
  obtain ⟨b, off, cap, rfl, _⟩ := hs0.there (by omega)
  refine yieldS.ok (fun w' _ => r_index ht hi h0 h1) (yieldS.ok (fun w' hw => r_load hd ha ?_) hk)
  obtain ⟨b2, off2, cap2, he, hc⟩ := (hs w' hw).there (by omega)
  cases he
  simpa using hc _ _ hu
end Go.Vc
namespace Go.Proofs.YtgjmpnngheohbaaDoor
open Go.Vc
/-- What a copy leaves, so far. -/
def CopySo (l S : List Int) (a i : Nat) (cur : List Int) : Prop := cur.length = l.length ∧ ∀ j, cur[j]? = if a ≤ j ∧ j < a + i then S[j - a]? else l[j]?
theorem CopySo.step {l S cur : List Int} {a i : Nat} (h : CopySo l S a i cur) (hi : i < S.length) (ha : a + i < l.length) : CopySo l S a (i + 1) (cur.set (a + i) (S.getD i 0)) := by
  refine ⟨by simp [h.1], fun j => ?_⟩
  by_cases hj : a + i = j
  · subst hj
    rw [List.getElem?_set_self (by have := h.1; omega), if_pos (by omega)]
    simp [List.getD, hi]
  · rw [List.getElem?_set_ne hj, h.2 j]
    by_cases h1 : a ≤ j ∧ j < a + i
    · rw [if_pos h1, if_pos (by omega)]
    · rw [if_neg h1, if_neg (by omega)]
theorem CopySo.done {l S cur : List Int} {a : Nat} (h : CopySo l S a S.length cur) (ha : a + S.length ≤ l.length) : cur = l.take a ++ S ++ l.drop (a + S.length) := by
  apply List.ext_getElem?
  intro j
  rw [h.2 j]
  have hta : (l.take a).length = a := by simp; omega
  by_cases h1 : j < a
  · rw [if_neg (by omega), List.append_assoc, List.getElem?_append_left (by omega), List.getElem?_take, if_pos h1]
  · by_cases h2 : j < a + S.length
    · rw [if_pos (by omega), List.append_assoc, List.getElem?_append_right (by omega), hta, List.getElem?_append_left (by omega)]
    · rw [if_neg (by omega), List.getElem?_append_right (by simp; omega), List.getElem?_drop]
      congr 1
      simp
      omega
end Go.Proofs.YtgjmpnngheohbaaDoor
namespace Go.Proofs.YtgjmpnngheohbaaDoor
open Go.Vc
end Go.Proofs.YtgjmpnngheohbaaDoor
namespace Go.Proofs.YtgjmpnngheohbaaDoor
open Go.Vc
theorem wrap32 {n : Int} (h0 : 0 ≤ n) (h1 : n ≤ 1000000) : IntKind.i32.wrap n = n := by
  simp only [IntKind.wrap_i32]
  omega
end Go.Proofs.YtgjmpnngheohbaaDoor
namespace Go.Vc
/-- An append of what lies in a slice, onto what the call owns, and where it lies. -/
theorem apS {P : Program} {w : World} {K : Value → World → Prop} {t e by_ ty : Nat} (h : XE P t e by_) {B : Nat} {v : Value} {n : Nat} {xs : List Value} (ho : w.ownsRow B e 1 v n xs) {x : Value} {m : Nat} {news : List Value} (hs : SliceIs w x 1 m news) (h1 : news.all oneC = true)
    (hb : (n + m) * by_ ≤ 140737488355328) (h63 : n + m ≤ maxLen) (hB : B ≤ w.heap.size)
    (hk : ∀ v' w', w'.ownsRow B e 1 v' (n + m) (xs ++ news) → w.grownBy w' v.ownBlock → (v'.ownBlock = v.ownBlock ∨ v'.ownBlock = some w.heap.size) → K v' w') :
    V P (Builtin.append_ #[t, t] ty #[v, x]) w K := by
  obtain ⟨z, ht, hi, hz⟩ := h
  obtain ⟨i, hi', hz', hn, hby⟩ := info_parts hi
  rcases hs.2 with ⟨rfl, rfl⟩ | ⟨b, off, cap, rfl, _, _, hc⟩
  · have hnews : news = [] := by have := hs.1; simpa using this
    subst hnews
    exact V.ok (run_append_owned_none w B t ty e i 1 ht hi' v n xs ho) (hk _ _ (by simpa using ho) ⟨rfl, rfl, rfl, Nat.le_refl _, fun _ _ _ => rfl⟩ (.inl rfl))
  · obtain ⟨v', w', hr, h2, h3, _, h5⟩ := run_append_own_at (P := P) w B t ty e i z 1 by_ ht hi' hz' hn hby (by simpa using hz) (by omega) v n xs ho ⟨b, off, none⟩ m cap news hs.1
      (fun j u hj => by rw [add_mk]; exact hc j u hj) (fun u hu => by rw [oneC_eq]; exact List.all_eq_true.1 h1 u hu) h63 hb hB
    exact V.ok hr (hk v' w' h2 h3 h5)
end Go.Vc
namespace Go.Proofs.YtgjmpnngheohbaaDoor
open Go.Vc
/-- A room whose buffers hold p1 and p2, and that told t1 and t2. -/
structure Tell (w : World) (rb hb ab B B1 : Nat) (d1 d2 pub sec : Value) (p1 p2 t1 t2 : List Int) : Prop where
  room : RoomIs w rb hb ab d1 d2 pub sec
  o1 : w.ownsRow B 5 1 d1 p1.length (p1.map u8)
  o2 : w.ownsRow B 5 1 d2 p2.length (p2.map u8)
  l1 : ∀ i, d1.ownBlock = some i → i < B1
  l2 : ∀ i, d2.ownBlock = some i → i < B1
  q1 : w.ownsRow B1 5 1 pub t1.length (t1.map u8)
  q2 : w.ownsRow B1 5 1 sec t2.length (t2.map u8)
  ne : ∀ i, pub.ownBlock = some i → sec.ownBlock ≠ some i
  lt : rb < B ∧ B ≤ B1 ∧ B1 ≤ w.heap.size
  n1 : p1.length ≤ 64
  n2 : p2.length ≤ 64
  m1 : t1.length ≤ 128
  m2 : t2.length ≤ 128
def pk (k : Nat) (p1 p2 : List Int) : List Int := if k = 0 then p1 else p2
end Go.Proofs.YtgjmpnngheohbaaDoor
namespace Go.Proofs.YtgjmpnngheohbaaDoor
open Go.Vc
structure Arr where
  owner : Int
  label : Int
  life : Int
  share : Bool
  dv : Value
  data : List Int
def Arr.cells (a : Arr) : List Value := [i64 a.owner, i64 a.label, i64 a.life, .bool a.share, a.dv]
def rowC (ar : List Arr) : List Value := ar.flatMap Arr.cells
theorem rowC_len (ar : List Arr) : (rowC ar).length = ar.length * 5 := by
  induction ar with
  | nil => rfl
  | cons a ar ih =>
    show (a.cells ++ rowC ar).length = _
    rw [List.length_append, ih]
    simp [Arr.cells]
    omega
theorem rowC_get : ∀ {ar : List Arr} {k : Nat} {a : Arr} {j : Nat}, ar[k]? = some a → j < 5 → (rowC ar)[k * 5 + j]? = a.cells[j]?
  | [], k, a, j, h, _ => by simp at h
  | b :: ar, 0, a, j, h, hj => by
    simp at h
    subst h
    show (b.cells ++ rowC ar)[0 * 5 + j]? = _
    rw [List.getElem?_append_left (by simp [Arr.cells]; omega)]
    simp
  | b :: ar, k + 1, a, j, h, hj => by
    show (b.cells ++ rowC ar)[(k + 1) * 5 + j]? = _
    rw [List.getElem?_append_right (by simp [Arr.cells]; omega)]
    have : (k + 1) * 5 + j - b.cells.length = k * 5 + j := by simp [Arr.cells]; omega
    rw [this]
    exact rowC_get (by simpa using h) hj
theorem rowC_snoc (ar : List Arr) (a : Arr) : rowC (ar ++ [a]) = rowC ar ++ a.cells := by simp [rowC]
/-- A heap. -/
structure HeapG (w : World) (hb B : Nat) (size : Int) (g cap : Nat) (ar : List Arr) : Prop where
  heap : Blk w hb [i64 size, .slice (some ⟨g, 0, none⟩) ar.length cap] 120
  row : w.ownsRow B 105 5 (.slice (some ⟨g, 0, none⟩) ar.length cap) ar.length (rowC ar)
  data : ∀ a ∈ ar, w.ownsRow B 5 1 a.dv a.data.length (a.data.map u8)
  len : ∀ a ∈ ar, a.data.length ≤ 64
  dist : ∀ (i j : Nat) a b x, ar[i]? = some a → ar[j]? = some b → a.dv.ownBlock = some x → b.dv.ownBlock = some x → i = j
  drow : ∀ a ∈ ar, a.dv.ownBlock ≠ some g
  lt : B ≤ w.heap.size
  cnt : ar.length ≤ 1000
  fresh : hb ≠ g ∧ ∀ a ∈ ar, a.dv.ownBlock ≠ some hb
theorem HeapG.ext {w w' : World} {hb B : Nat} {size : Int} {g cap : Nat} {ar : List Arr} (h : HeapG w hb B size g cap ar) (hx : Ext w w') : HeapG w' hb B size g cap ar :=
  ⟨h.heap.ext hx, hx.own h.row, fun a ha => hx.own (h.data a ha), h.len, h.dist, h.drow, by have := h.lt; have := hx.size; omega, h.cnt, h.fresh⟩
theorem HeapG.get {w : World} {hb B : Nat} {size : Int} {g cap : Nat} {ar : List Arr} (h : HeapG w hb B size g cap ar) {k : Nat} {a : Arr} (hk : ar[k]? = some a) {j : Nat} (hj : j < 5) : w.cell? ⟨g, k * 5 + j, none⟩ = a.cells[j]? := by
  obtain ⟨u, hu⟩ := ex_get (l := a.cells) (j := j) (by simp [Arr.cells]; omega)
  have := h.row.cells (g := g) rfl (k * 5 + j) u (by rw [rowC_get hk hj]; exact hu)
  rw [add_mk] at this
  rw [hu]
  simpa using this
/-- Place of an array; none. -/
def atV (g : Nat) (n : Nat) (r : Int) : Value := if 1 ≤ r ∧ r ≤ n then .pointer (some ⟨g, (r.toNat - 1) * 5, none⟩) else .pointer none
theorem atG_ok {w : World} {hb B : Nat} {size : Int} {g cap : Nat} {ar : List Arr} (h : HeapG w hb B size g cap ar) {r : Int} : callD Tryd.prog 66 #[.pointer (some ⟨hb, 0, none⟩), i64 r] w fun v w' => v = atV g ar.length r ∧ w' = w := by
  apply F66_wp
  unfold F66_den
  have hc := h.cnt
  refine V_lss.2 ?_
  by_cases h1 : r < 1
  · simp only [h1, gd_tf, pickD_iff, ifD_true, reduceIte, decide_true]
    exact ⟨by unfold atV; rw [if_neg (by omega)], trivial⟩
  simp only [h1, gd_f, pickD_iff, reduceIte, Bool.false_eq_true, decide_false]
  refine ⟨.inl ⟨_, rfl⟩, ?_⟩
  refine ldB h.heap.boxed (by first | exact fa_105_0 | exact fa_105_1 | exact fa_105_2 | exact fa_105_3 | exact fa_105_4 | exact fa_116_0 | exact fa_116_1 | exact fa_120_0 | exact fa_120_1 | exact fa_42_0 | exact fa_42_1 | exact fa_42_2 | exact fa_42_3 | exact fa_42_4 | exact fa_42_5 | exact fa_42_6 | exact fa_57_0 | exact fa_63_0 | exact fa_63_2 | exact fa_63_3 | exact fa_63_4 | exact fa_80_0 | exact fa_80_2 | exact fa_80_3 | exact fa_80_4 | exact fa_91_0 | exact fa_95_0 | exact fa_95_1 | exact fa_95_2 | exact fa_95_3 | exact fa_95_4 | exact fa_95_5) (by first | exact l1_114 | exact l1_21 | exact l1_23 | exact l1_3 | exact l1_32 | exact l1_39 | exact l1_4 | exact l1_40 | exact l1_5 | exact l1_50 | exact l1_55 | exact l1_59 | exact l1_61 | exact l1_76) rfl (V_ln_114.2 ?_)
  by_cases h2 : r > ((ar.length : Nat) : Int)
  · simp only [h2, V_gtr, ifD_true, decide_true]
    exact ⟨by unfold atV; rw [if_neg (by omega)], trivial⟩
  simp only [h2, V_gtr, ifD_false, decide_false]
  refine ⟨.inl ⟨_, rfl⟩, ?_⟩
  refine ldB h.heap.boxed (by first | exact fa_105_0 | exact fa_105_1 | exact fa_105_2 | exact fa_105_3 | exact fa_105_4 | exact fa_116_0 | exact fa_116_1 | exact fa_120_0 | exact fa_120_1 | exact fa_42_0 | exact fa_42_1 | exact fa_42_2 | exact fa_42_3 | exact fa_42_4 | exact fa_42_5 | exact fa_42_6 | exact fa_57_0 | exact fa_63_0 | exact fa_63_2 | exact fa_63_3 | exact fa_63_4 | exact fa_80_0 | exact fa_80_2 | exact fa_80_3 | exact fa_80_4 | exact fa_91_0 | exact fa_95_0 | exact fa_95_1 | exact fa_95_2 | exact fa_95_3 | exact fa_95_4 | exact fa_95_5) (by first | exact l1_114 | exact l1_21 | exact l1_23 | exact l1_3 | exact l1_32 | exact l1_39 | exact l1_4 | exact l1_40 | exact l1_5 | exact l1_50 | exact l1_55 | exact l1_59 | exact l1_61 | exact l1_76) rfl (V_sub.2 ?_)
  rw [wrap_id (by omega) (by omega)]
  refine V.ok (r_ix_114 (by omega) (by omega)) ⟨?_, (by first | rfl | trivial)⟩
  unfold atV
  rw [if_pos (by omega)]
  have : (r - 1).toNat = r.toNat - 1 := by omega
  simp [this]
theorem atG_in {g n : Nat} {r : Int} {k : Nat} (hk : r = (k : Int) + 1) (hn : k < n) : atV g n r = .pointer (some ⟨g, k * 5, none⟩) := by
  unfold atV
  rw [if_pos (by omega)]
  have : r.toNat - 1 = k := by omega
  rw [this]
theorem cells_one {a : Arr} (h : oneC a.dv = true) : a.cells.all oneC = true := by
  show (oneC (i64 a.owner) && (oneC (i64 a.label) && (oneC (i64 a.life) && (oneC (.bool a.share) && (oneC a.dv && true))))) = true
  rw [h]; rfl
set_option maxHeartbeats 1600000 in
theorem arrayG_ok {w : World} {hb B : Nat} {size : Int} {g cap : Nat} {ar : List Arr} (h : HeapG w hb B size g cap ar) {k : Nat} {a : Arr} (hk : ar[k]? = some a) {r : Int} (hr : r = (k : Int) + 1) :
    callD Tryd.prog 55 #[.pointer (some ⟨hb, 0, none⟩), i64 r] w fun q w' => (∃ v, q = .tuple #[.agg ({ a with dv := v } : Arr).cells.toArray, .bool true] ∧ w'.ownsRow w.heap.size 5 1 v a.data.length (a.data.map u8)) ∧ Ext w w' := by
  have hkl : k < ar.length := (List.getElem?_eq_some_iff.1 hk).1
  have ham := List.mem_of_getElem? hk
  have hal := h.len a ham
  apply F55_wp
  unfold F55_den
  refine alK inf105 fun w1 hz x1 => ?_
  have h1 := h.ext x1
  refine (atG_ok h1).mono fun q w2 ⟨hq, hw⟩ => ?_
  subst hq; have hw := hw.symm; subst hw
  rw [atG_in hr hkl]
  refine V.ok (r_eqPtr Tryd.underlying138) (ifD_false.2 ⟨.inl ⟨_, rfl⟩, ?_⟩)
  refine V.ok (r_la_105 (cs := a.cells) rfl fun j hj => h1.get hk hj) ?_
  refine asK (by first | exact sa_105 | exact sa_42 | exact sa_95) rfl (cells_one (own_one (h.data a ham))) fun w3 hc x3 => ?_
  refine ⟨.inl ⟨_, rfl⟩, ?_⟩
  have h3 := h1.ext x3
  refine V.ok r_fd_105_4 (V.ok (r_ld_40 (h3.get hk (j := 4) (by omega))) ?_)
  have x13 := x1.trans x3
  refine (clone_u8 (l := a.data) (SliceIs.of_own (h3.data a ham)) (by omega)).mono fun v w4 ⟨ho, x4⟩ => ?_
  have x14 := x13.trans x4
  refine stF (by first | exact fa_105_0 | exact fa_105_1 | exact fa_105_2 | exact fa_105_3 | exact fa_105_4 | exact fa_116_0 | exact fa_116_1 | exact fa_120_0 | exact fa_120_1 | exact fa_42_0 | exact fa_42_1 | exact fa_42_2 | exact fa_42_3 | exact fa_42_4 | exact fa_42_5 | exact fa_42_6 | exact fa_57_0 | exact fa_63_0 | exact fa_63_2 | exact fa_63_3 | exact fa_63_4 | exact fa_80_0 | exact fa_80_2 | exact fa_80_3 | exact fa_80_4 | exact fa_91_0 | exact fa_95_0 | exact fa_95_1 | exact fa_95_2 | exact fa_95_3 | exact fa_95_4 | exact fa_95_5) inf40 (hc.ext x4) rfl (by show 4 < 5; omega) (own_one ho) ?_
  have hc5 : Blk (w4.setCell ⟨w1.heap.size, 4, none⟩ v) w1.heap.size ({ a with dv := v } : Arr).cells 105 := (hc.ext x4).set 4 v
  have f5 : Fr (fun i => i = w1.heap.size) w4 (w4.setCell ⟨w1.heap.size, 4, none⟩ v) := Fr.of_set rfl
  have hzl := hz.lt
  have hcl := hc.lt
  have l1 := x1.size
  have l3 := x3.size
  have hz5 := f5.blk (hz.ext (x3.trans x4)) (by omega)
  have ho5 := f5.own ho fun i hi => by have := (ho.lt i hi).1; omega
  have x5 : Ext w (w4.setCell ⟨w1.heap.size, 4, none⟩ v) := x14.setCell l1 _
  generalize w4.setCell ⟨w1.heap.size, 4, none⟩ v = w5 at hc5 hz5 ho5 x5 ⊢
  refine ldA hc5.boxed la_105 rfl ?_
  refine stA inf105 hz5 (l := ({ a with dv := v } : Arr).cells) rfl rfl rfl (cells_one (own_one ho)) fun w6 h6 hch => ?_
  refine ⟨_, r_var Tryd.underlying105 rfl inf105 h6 rfl, ⟨_, rfl⟩, ⟨v, rfl, ?_⟩, hch.ext w x5 (Nat.le_refl _)⟩
  exact own_mono (hch.ownRow ho5 (by omega)) (by omega)
def arr0 : Arr := ⟨0, 0, 0, false, .slice none 0 0, []⟩
theorem r_eqPtrN {P : Program} {w : World} {s e : TypeId} (hs : P.underlying s = some (.pointer e)) {x : Operand} {c : Value} :
    (do eqGuard .eql s x (.const c) (.pointer none) (.pointer none); binOp .eql s (.pointer none) (.pointer none)).run P w = .ok (.bool true) w := by
  simp [eqGuard, binOp, equal_succ, q_ptrN hs]
theorem arrayN_ok {w : World} {hb B : Nat} {size : Int} {g cap : Nat} {ar : List Arr} (h : HeapG w hb B size g cap ar) {r : Int} (hr : ¬ (1 ≤ r ∧ r ≤ ar.length)) :
    callD Tryd.prog 55 #[.pointer (some ⟨hb, 0, none⟩), i64 r] w fun q w' => q = .tuple #[.agg arr0.cells.toArray, .bool false] ∧ Ext w w' := by
  apply F55_wp
  unfold F55_den
  refine alK inf105 fun w1 hz x1 => ?_
  refine (atG_ok (h.ext x1)).mono fun q w2 ⟨hq, hw⟩ => ?_
  subst hq; have hw := hw.symm; subst hw
  unfold atV
  rw [if_neg hr]
  refine V.ok (r_eqPtrN Tryd.underlying138) (ifD_true.2 ?_)
  refine bld bd_105 [] rfl rfl ?_
  refine stA inf105 hz (l := arr0.cells) rfl rfl rfl rfl fun w6 h6 hch => ?_
  exact ⟨_, r_var Tryd.underlying105 rfl inf105 h6 rfl, ⟨_, rfl⟩, rfl, hch.ext w x1 (Nat.le_refl _)⟩
/-- May an applet touch it? -/
def mayA (a : Arr) (who : Int) : Bool := decide (a.owner = -1) || decide (a.owner = who) || a.share
theorem mayG_ok {w : World} {a : Arr} {who : Int} : callD Tryd.prog 86 #[.agg a.cells.toArray, i64 who] w fun r w' => r = .bool (mayA a who) ∧ Ext w w' := by
  apply F86_wp
  unfold F86_den
  refine bx fun b w1 hb x1 => ?_
  refine ldB hb (by first | exact fa_105_0 | exact fa_105_1 | exact fa_105_2 | exact fa_105_3 | exact fa_105_4 | exact fa_116_0 | exact fa_116_1 | exact fa_120_0 | exact fa_120_1 | exact fa_42_0 | exact fa_42_1 | exact fa_42_2 | exact fa_42_3 | exact fa_42_4 | exact fa_42_5 | exact fa_42_6 | exact fa_57_0 | exact fa_63_0 | exact fa_63_2 | exact fa_63_3 | exact fa_63_4 | exact fa_80_0 | exact fa_80_2 | exact fa_80_3 | exact fa_80_4 | exact fa_91_0 | exact fa_95_0 | exact fa_95_1 | exact fa_95_2 | exact fa_95_3 | exact fa_95_4 | exact fa_95_5) (by first | exact l1_114 | exact l1_21 | exact l1_23 | exact l1_3 | exact l1_32 | exact l1_39 | exact l1_4 | exact l1_40 | exact l1_5 | exact l1_50 | exact l1_55 | exact l1_59 | exact l1_61 | exact l1_76) rfl (V_eqlI.2 ?_)
  by_cases h1 : a.owner = -1
  · simp only [h1, gd_tf, pickD_iff, reduceIte, decide_true]
    exact ⟨by simp [mayA, h1], x1⟩
  simp only [h1, gd_f, pickD_iff, reduceIte, Bool.false_eq_true, decide_false]
  refine ldB hb (by first | exact fa_105_0 | exact fa_105_1 | exact fa_105_2 | exact fa_105_3 | exact fa_105_4 | exact fa_116_0 | exact fa_116_1 | exact fa_120_0 | exact fa_120_1 | exact fa_42_0 | exact fa_42_1 | exact fa_42_2 | exact fa_42_3 | exact fa_42_4 | exact fa_42_5 | exact fa_42_6 | exact fa_57_0 | exact fa_63_0 | exact fa_63_2 | exact fa_63_3 | exact fa_63_4 | exact fa_80_0 | exact fa_80_2 | exact fa_80_3 | exact fa_80_4 | exact fa_91_0 | exact fa_95_0 | exact fa_95_1 | exact fa_95_2 | exact fa_95_3 | exact fa_95_4 | exact fa_95_5) (by first | exact l1_114 | exact l1_21 | exact l1_23 | exact l1_3 | exact l1_32 | exact l1_39 | exact l1_4 | exact l1_40 | exact l1_5 | exact l1_50 | exact l1_55 | exact l1_59 | exact l1_61 | exact l1_76) rfl (V_eqlI.2 ?_)
  by_cases h2 : a.owner = who
  · simp only [h2, gd_tf, pickD_iff, reduceIte, decide_true]
    exact ⟨by simp [mayA, h2], x1⟩
  simp only [h2, gd_f, pickD_iff, reduceIte, Bool.false_eq_true, decide_false]
  refine ldB hb (by first | exact fa_105_0 | exact fa_105_1 | exact fa_105_2 | exact fa_105_3 | exact fa_105_4 | exact fa_116_0 | exact fa_116_1 | exact fa_120_0 | exact fa_120_1 | exact fa_42_0 | exact fa_42_1 | exact fa_42_2 | exact fa_42_3 | exact fa_42_4 | exact fa_42_5 | exact fa_42_6 | exact fa_57_0 | exact fa_63_0 | exact fa_63_2 | exact fa_63_3 | exact fa_63_4 | exact fa_80_0 | exact fa_80_2 | exact fa_80_3 | exact fa_80_4 | exact fa_91_0 | exact fa_95_0 | exact fa_95_1 | exact fa_95_2 | exact fa_95_3 | exact fa_95_4 | exact fa_95_5) (by first | exact l1_114 | exact l1_21 | exact l1_23 | exact l1_3 | exact l1_32 | exact l1_39 | exact l1_4 | exact l1_40 | exact l1_5 | exact l1_50 | exact l1_55 | exact l1_59 | exact l1_61 | exact l1_76) rfl ?_
  exact ⟨by simp [mayA, h1, h2], x1⟩
/-- The status of a ref. -/
def chk (ar : List Arr) (r who : Int) : Int := if 1 ≤ r ∧ r ≤ ar.length then (match ar[r.toNat - 1]? with | some a => if mayA a who then 36864 else 28420 | none => 28417) else 28417
theorem chk_in {ar : List Arr} {r who : Int} {k : Nat} {a : Arr} (hk : ar[k]? = some a) (hr : r = (k : Int) + 1) : chk ar r who = if mayA a who then 36864 else 28420 := by
  have hkl : k < ar.length := (List.getElem?_eq_some_iff.1 hk).1
  unfold chk
  rw [if_pos (by omega), show r.toNat - 1 = k by omega, hk]
theorem ref_in {ar : List Arr} {r : Int} (h : 1 ≤ r ∧ r ≤ ar.length) : ∃ (k : Nat) (a : Arr), ar[k]? = some a ∧ r = (k : Int) + 1 := by
  obtain ⟨a, ha⟩ := ex_get (l := ar) (j := r.toNat - 1) (by omega)
  exact ⟨_, a, ha, by omega⟩
theorem chk_fine {ar : List Arr} {r who : Int} (h : chk ar r who = 36864) : ∃ (k : Nat) (a : Arr), ar[k]? = some a ∧ r = (k : Int) + 1 ∧ mayA a who = true := by
  by_cases h1 : 1 ≤ r ∧ r ≤ ar.length
  · obtain ⟨k, a, hk, hr⟩ := ref_in h1
    rw [chk_in hk hr] at h
    split at h
    · rename_i hm; exact ⟨k, a, hk, hr, hm⟩
    · omega
  · unfold chk at h
    rw [if_neg h1] at h
    omega
theorem checkG_ok {w : World} {hb B : Nat} {size : Int} {g cap : Nat} {ar : List Arr} (h : HeapG w hb B size g cap ar) {r who : Int} :
    callD Tryd.prog 70 #[.pointer (some ⟨hb, 0, none⟩), i64 r, i64 who] w fun q w' => q = i64 (chk ar r who) ∧ Ext w w' := by
  apply F70_wp
  unfold F70_den
  refine V.ok (r_eqPtr Tryd.underlying76) (ifD_false.2 ?_)
  by_cases h1 : 1 ≤ r ∧ r ≤ ar.length
  · obtain ⟨k, a, hk, hr⟩ := ref_in h1
    refine (arrayG_ok h hk hr).mono fun q w1 ⟨⟨v, hq, ho⟩, x1⟩ => ?_
    subst hq
    refine V_ext0.2 (V_ext1.2 ?_)
    refine asK (by first | exact sa_105 | exact sa_42 | exact sa_95) rfl (cells_one (own_one ho)) fun w2 hc x2 => ?_
    refine V_not.2 (ifD_false.2 ?_)
    refine ldA hc.boxed la_105 rfl ?_
    refine mayG_ok.mono fun q w3 ⟨hq, x3⟩ => ?_
    subst hq
    have X := (x1.trans x2).trans x3
    rw [chk_in hk hr]
    refine V_not.2 (ifD.mk (fun hn => ⟨?_, X⟩) fun hn => ⟨?_, X⟩)
    · have : mayA a who = false := by
        have h9 : mayA ({ a with dv := v } : Arr) who = false := by simpa using hn
        exact h9
      rw [if_neg (by rw [this]; simp)]
    · have : mayA a who = true := by
        have h9 : mayA ({ a with dv := v } : Arr) who = true := by simpa using hn
        exact h9
      rw [if_pos this]
  · refine (arrayN_ok h h1).mono fun q w1 ⟨hq, x1⟩ => ?_
    subst hq
    refine V_ext0.2 (V_ext1.2 ?_)
    refine asK (by first | exact sa_105 | exact sa_42 | exact sa_95) rfl rfl fun w2 hc x2 => ?_
    refine V_not.2 (ifD_true.2 ⟨?_, x1.trans x2⟩)
    unfold chk
    rw [if_neg h1]
/-- The status of a range. -/
def rng (ar : List Arr) (r a n who : Int) : Int := if chk ar r who = 36864 then (match ar[r.toNat - 1]? with | some x => if a < 0 ∨ n < 0 ∨ a > x.data.length ∨ n > x.data.length - a then 28418 else 36864 | none => 28418) else chk ar r who
theorem rng_fine {ar : List Arr} {r a n who : Int} (h : rng ar r a n who = 36864) : ∃ (k : Nat) (x : Arr), ar[k]? = some x ∧ r = (k : Int) + 1 ∧ mayA x who = true ∧ 0 ≤ a ∧ 0 ≤ n ∧ a + n ≤ x.data.length := by
  unfold rng at h
  split at h
  · rename_i h1
    obtain ⟨k, x, hk, hr, hm⟩ := chk_fine h1
    rw [show r.toNat - 1 = k by omega, hk] at h
    simp only at h
    split at h
    · omega
    · exact ⟨k, x, hk, hr, hm, by omega, by omega, by omega⟩
  · rename_i h1; exact absurd h h1
set_option maxHeartbeats 1600000 in
theorem rangeG_ok {w : World} {hb B : Nat} {size : Int} {g cap : Nat} {ar : List Arr} (h : HeapG w hb B size g cap ar) {r a n who : Int} :
    callD Tryd.prog 87 #[.pointer (some ⟨hb, 0, none⟩), i64 r, i64 a, i64 n, i64 who] w fun q w' => q = i64 (rng ar r a n who) ∧ Ext w w' := by
  apply F87_wp
  unfold F87_den
  refine (checkG_ok h).mono fun q w1 ⟨hq, x1⟩ => ?_
  subst hq
  refine V_neqI.2 (ifD_dec (fun hne => ?_) fun hfine => ?_)
  · refine ⟨?_, x1⟩
    unfold rng
    rw [if_neg hne]
  have hfine' : chk ar r who = 36864 := by omega
  obtain ⟨k, x, hk, hr, hm⟩ := chk_fine hfine'
  have hxl := h.len x (List.mem_of_getElem? hk)
  have er : rng ar r a n who = if a < 0 ∨ n < 0 ∨ a > x.data.length ∨ n > x.data.length - a then 28418 else 36864 := by
    unfold rng
    rw [if_pos hfine', show r.toNat - 1 = k by omega, hk]
  rw [er]
  refine (arrayG_ok (h.ext x1) hk hr).mono fun q w2 ⟨⟨v, hq, ho⟩, x2⟩ => ?_
  subst hq
  refine V_ext0.2 (V_ext1.2 ?_)
  refine asK (by first | exact sa_105 | exact sa_42 | exact sa_95) rfl (cells_one (own_one ho)) fun w3 hc x3 => ?_
  have X := (x1.trans x2).trans x3
  have hs := SliceIs.of_own (x3.own ho)
  refine V_lss.2 ?_
  by_cases h1 : a < 0
  · simp only [h1, gd_tf, pickD_iff, ifD_true, reduceIte, decide_true]
    exact ⟨by rw [if_pos (.inl trivial)], X⟩
  simp only [h1, V_lss, gd_f, pickD_iff, reduceIte, Bool.false_eq_true, decide_false]
  by_cases h2 : n < 0
  · simp only [h2, gd_tf, pickD_iff, ifD_true, reduceIte, decide_true]
    exact ⟨by rw [if_pos (.inr (.inl trivial))], X⟩
  simp only [h2, gd_f, reduceIte, Bool.false_eq_true, decide_false]
  refine ldB hc.boxed (by first | exact fa_105_0 | exact fa_105_1 | exact fa_105_2 | exact fa_105_3 | exact fa_105_4 | exact fa_116_0 | exact fa_116_1 | exact fa_120_0 | exact fa_120_1 | exact fa_42_0 | exact fa_42_1 | exact fa_42_2 | exact fa_42_3 | exact fa_42_4 | exact fa_42_5 | exact fa_42_6 | exact fa_57_0 | exact fa_63_0 | exact fa_63_2 | exact fa_63_3 | exact fa_63_4 | exact fa_80_0 | exact fa_80_2 | exact fa_80_3 | exact fa_80_4 | exact fa_91_0 | exact fa_95_0 | exact fa_95_1 | exact fa_95_2 | exact fa_95_3 | exact fa_95_4 | exact fa_95_5) (by first | exact l1_114 | exact l1_21 | exact l1_23 | exact l1_3 | exact l1_32 | exact l1_39 | exact l1_4 | exact l1_40 | exact l1_5 | exact l1_50 | exact l1_55 | exact l1_59 | exact l1_61 | exact l1_76) rfl ?_
  refine lnx (by first | exact xa_114 | exact xa_22 | exact xa_32 | exact xa_39 | exact xa_40 | exact xa_55 | exact xa_61) hs (V_gtr.2 ?_)
  by_cases h3 : a > ((x.data.length : Nat) : Int)
  · simp only [h3, gd_tf, pickD_iff, ifD_true, reduceIte, decide_true]
    exact ⟨by rw [if_pos (.inr (.inr (.inl trivial)))], X⟩
  simp only [h3, gd_f, pickD_iff, reduceIte, Bool.false_eq_true, decide_false]
  refine ldB hc.boxed (by first | exact fa_105_0 | exact fa_105_1 | exact fa_105_2 | exact fa_105_3 | exact fa_105_4 | exact fa_116_0 | exact fa_116_1 | exact fa_120_0 | exact fa_120_1 | exact fa_42_0 | exact fa_42_1 | exact fa_42_2 | exact fa_42_3 | exact fa_42_4 | exact fa_42_5 | exact fa_42_6 | exact fa_57_0 | exact fa_63_0 | exact fa_63_2 | exact fa_63_3 | exact fa_63_4 | exact fa_80_0 | exact fa_80_2 | exact fa_80_3 | exact fa_80_4 | exact fa_91_0 | exact fa_95_0 | exact fa_95_1 | exact fa_95_2 | exact fa_95_3 | exact fa_95_4 | exact fa_95_5) (by first | exact l1_114 | exact l1_21 | exact l1_23 | exact l1_3 | exact l1_32 | exact l1_39 | exact l1_4 | exact l1_40 | exact l1_5 | exact l1_50 | exact l1_55 | exact l1_59 | exact l1_61 | exact l1_76) rfl (lnx (by first | exact xa_114 | exact xa_22 | exact xa_32 | exact xa_39 | exact xa_40 | exact xa_55 | exact xa_61) hs (V_sub.2 ?_))
  rw [wrap_id (by omega) (by omega)]
  by_cases h4 : n > ((x.data.length : Nat) : Int) - a
  · simp only [h4, V_gtr, ifD_true, decide_true]
    exact ⟨by simp, X⟩
  simp only [h4, V_gtr, ifD_false, decide_false]
  exact ⟨by simp, X⟩
end Go.Proofs.YtgjmpnngheohbaaDoor
namespace Go.Proofs.YtgjmpnngheohbaaDoor
open Go.Vc
/-- An array's bytes are turned. -/
theorem HeapG.upd {w w' : World} {hb B : Nat} {size : Int} {g cap : Nat} {ar : List Arr} (h : HeapG w hb B size g cap ar) {k : Nat} {x : Arr} (hk : ar[k]? = some x) {d' : List Int} (hd : d'.length ≤ 64) (ho : w'.ownsRow B 5 1 x.dv d'.length (d'.map u8)) (hf : Fr (fun i => x.dv.ownBlock = some i) w w') :
    HeapG w' hb B size g cap (ar.set k { x with data := d' }) := by
  have hkl : k < ar.length := (List.getElem?_eq_some_iff.1 hk).1
  have hxm := List.mem_of_getElem? hk
  have hlt := h.lt
  have hrow : rowC (ar.set k { x with data := d' }) = rowC ar := by
    apply List.ext_getElem?
    intro j
    by_cases hj : j < ar.length * 5
    · obtain ⟨a, ha⟩ := ex_get (l := ar) (j := j / 5) (by omega)
      have e : j = j / 5 * 5 + j % 5 := by omega
      rw [e, rowC_get ha (Nat.mod_lt _ (by decide))]
      by_cases hjk : k = j / 5
      · have : (ar.set k { x with data := d' })[j / 5]? = some { x with data := d' } := by rw [← hjk, List.getElem?_set_self hkl]
        rw [rowC_get this (Nat.mod_lt _ (by decide))]
        rw [← hjk, hk] at ha
        cases ha
        rfl
      · have : (ar.set k { x with data := d' })[j / 5]? = some a := by rw [List.getElem?_set_ne hjk]; exact ha
        rw [rowC_get this (Nat.mod_lt _ (by decide))]
    · rw [List.getElem?_eq_none (by rw [rowC_len]; simp; omega), List.getElem?_eq_none (by rw [rowC_len]; omega)]
  have find : ∀ {i : Nat} {a : Arr}, (ar.set k { x with data := d' })[i]? = some a → ∃ b, ar[i]? = some b ∧ b.dv = a.dv ∧ ((i = k ∧ a = { x with data := d' }) ∨ (i ≠ k ∧ a = b)) := by
    intro i a hi
    by_cases hik : k = i
    · subst hik
      rw [List.getElem?_set_self hkl] at hi
      cases hi
      exact ⟨x, hk, rfl, .inl ⟨rfl, rfl⟩⟩
    · rw [List.getElem?_set_ne hik] at hi
      exact ⟨a, hi, rfl, .inr ⟨fun e => hik e.symm, rfl⟩⟩
  have each : ∀ a ∈ ar.set k { x with data := d' }, w'.ownsRow B 5 1 a.dv a.data.length (a.data.map u8) ∧ a.data.length ≤ 64 ∧ a.dv.ownBlock ≠ some g := by
    intro a ha
    obtain ⟨i, hi⟩ := List.getElem?_of_mem ha
    obtain ⟨b, hb', hdv, hc⟩ := find hi
    have hbm := List.mem_of_getElem? hb'
    rcases hc with ⟨rfl, rfl⟩ | ⟨hne, rfl⟩
    · exact ⟨ho, hd, h.drow x hxm⟩
    · refine ⟨hf.own (h.data a hbm) fun j hj he => hne (h.dist i k a x j hb' hk hj he), h.len a hbm, h.drow a hbm⟩
  refine ⟨?_, ?_, fun a ha => (each a ha).1, fun a ha => (each a ha).2.1, fun i j a b y hi hj ha hb' => ?_, fun a ha => (each a ha).2.2, by have := hf.size; omega, by simpa using h.cnt, h.fresh.1, fun a ha => ?_⟩
  · have := hf.blk h.heap fun he => h.fresh.2 x hxm he
    simpa using this
  · have := hf.own h.row fun i hi he => by
      have : g = i := by simpa [Value.ownBlock] using hi
      exact h.drow x hxm (this ▸ he)
    rw [hrow]
    simpa using this
  · obtain ⟨a', h1, h2, _⟩ := find hi
    obtain ⟨b', h3, h4, _⟩ := find hj
    exact h.dist i j a' b' y h1 h3 (h2 ▸ ha) (h4 ▸ hb')
  · obtain ⟨i, hi⟩ := List.getElem?_of_mem ha
    obtain ⟨b, hb', hdv, _⟩ := find hi
    rw [← hdv]
    exact h.fresh.2 b (List.mem_of_getElem? hb')
/-- A room. -/
structure RoomG (w : World) (rb hb B : Nat) (size : Int) (g cap : Nat) (ar : List Arr) (pub sec : Value) (tp ts : List Int) : Prop where
  room : Blk w rb [.pointer (some ⟨hb, 0, none⟩), .slice none 0 0, .slice none 0 0, pub, sec] 80
  h : HeapG w hb B size g cap ar
  qp : w.ownsRow B 5 1 pub tp.length (tp.map u8)
  qs : w.ownsRow B 5 1 sec ts.length (ts.map u8)
  lp : tp.length ≤ 128
  ls : ts.length ≤ 128
  ne : ∀ x, pub.ownBlock = some x → sec.ownBlock ≠ some x
  np : ∀ a ∈ ar, ∀ x, a.dv.ownBlock = some x → pub.ownBlock ≠ some x
  ns : ∀ a ∈ ar, ∀ x, a.dv.ownBlock = some x → sec.ownBlock ≠ some x
  gp : pub.ownBlock ≠ some g
  gs : sec.ownBlock ≠ some g
  lt : rb ≠ hb
  fresh : ∀ x, (x = rb ∨ x = hb) → x ≠ g ∧ (∀ a ∈ ar, a.dv.ownBlock ≠ some x) ∧ pub.ownBlock ≠ some x ∧ sec.ownBlock ≠ some x
/-- The room's blocks. -/
def MuG (rb hb g : Nat) (ar : List Arr) (pub sec : Value) (i : Nat) : Prop := i = rb ∨ i = hb ∨ i = g ∨ (∃ a ∈ ar, a.dv.ownBlock = some i) ∨ pub.ownBlock = some i ∨ sec.ownBlock = some i
theorem getG_ok {w : World} {hb B : Nat} {size : Int} {g cap : Nat} {ar : List Arr} (h : HeapG w hb B size g cap ar) {k : Nat} {x : Arr} (hk : ar[k]? = some x) {r : Int} (hr : r = (k : Int) + 1) {a : Nat} (ha : a < x.data.length) :
    callD Tryd.prog 72 #[.pointer (some ⟨hb, 0, none⟩), i64 r, i64 (a : Int)] w fun q w' => q = .tuple #[u8 (x.data.getD a 0), .bool true] ∧ w' = w := by
  have hxm := List.mem_of_getElem? hk
  have hkl : k < ar.length := (List.getElem?_eq_some_iff.1 hk).1
  have hd := SliceIs.of_own (h.data x hxm)
  apply F72_wp
  unfold F72_den
  refine (atG_ok h).mono fun q w1 ⟨hq, hw⟩ => ?_
  subst hq; have hw := hw.symm; subst hw
  rw [atG_in hr hkl]
  refine V.ok (r_eqPtr Tryd.underlying138) ?_
  simp only [show ¬ ((a : Int) < 0) by omega, V_lss, gd_f, pickD_iff, reduceIte, Bool.false_eq_true, decide_false]
  refine ⟨.inl ⟨_, rfl⟩, ?_⟩
  refine V.ok r_fd_105_4 (V.ok (r_ld_40 (h.get hk (j := 4) (by omega))) (lnx (by first | exact xa_114 | exact xa_22 | exact xa_32 | exact xa_39 | exact xa_40 | exact xa_55 | exact xa_61) hd ?_))
  simp only [show ¬ ((a : Int) ≥ ((x.data.length : Nat) : Int)) by omega, V_geq, ifD_false, decide_false]
  refine ⟨.inl ⟨_, rfl⟩, ?_⟩
  refine V.ok r_fd_105_4 (V.ok (r_ld_40 (h.get hk (j := 4) (by omega))) ?_)
  exact ldx xa_40 l1_5 hd (by omega) (by omega) (getD_u8 ha) ⟨rfl, rfl⟩
theorem putG_ok {w : World} {hb B : Nat} {size : Int} {g cap : Nat} {ar : List Arr} (h : HeapG w hb B size g cap ar) {k : Nat} {x : Arr} (hk : ar[k]? = some x) {r : Int} (hr : r = (k : Int) + 1) {a : Nat} (ha : a < x.data.length) {z : Int} :
    callD Tryd.prog 73 #[.pointer (some ⟨hb, 0, none⟩), i64 r, i64 (a : Int), u8 z] w fun _ w' => w'.ownsRow B 5 1 x.dv x.data.length ((x.data.set a z).map u8) ∧ w.grownBy w' x.dv.ownBlock := by
  have hxm := List.mem_of_getElem? hk
  have hkl : k < ar.length := (List.getElem?_eq_some_iff.1 hk).1
  apply F73_wp
  unfold F73_den
  refine (getG_ok h hk hr ha).mono fun q w1 ⟨hq, hw⟩ => ?_
  subst hq; have hw := hw.symm; subst hw
  refine V_ext0.2 (V_ext1.2 (V_not.2 (ifD_false.2 ?_)))
  refine (atG_ok h).mono fun q w1 ⟨hq, hw⟩ => ?_
  subst hq; have hw := hw.symm; subst hw
  rw [atG_in hr hkl]
  refine ⟨.inl ⟨_, rfl⟩, ?_⟩
  refine V.ok r_fd_105_4 (V.ok (r_ld_40 (h.get hk (j := 4) (by omega))) ?_)
  refine stO (by first | exact xa_114 | exact xa_22 | exact xa_32 | exact xa_39 | exact xa_40 | exact xa_55 | exact xa_61) inf5 (h.data x hxm) (by omega) (by omega) rfl fun w3 ho3 hg3 => ?_
  refine ⟨?_, hg3⟩
  rw [List.map_set]
  simpa using ho3
end Go.Proofs.YtgjmpnngheohbaaDoor
namespace Go.Proofs.YtgjmpnngheohbaaDoor
open Go.Vc
def SameA (a b : Arr) : Prop := b.owner = a.owner ∧ b.label = a.label ∧ b.life = a.life ∧ b.share = a.share ∧ b.data = a.data
/-- What a service may turn. -/
def Wk (st who : Int) (ar ar' : List Arr) : Prop := ar.length ≤ ar'.length ∧ (st ≠ 36864 → ar'.length = ar.length) ∧ ∀ (k : Nat) (a : Arr), ar[k]? = some a → ∃ a', ar'[k]? = some a' ∧ (SameA a a' ∨ (st = 36864 ∧ mayA a who = true))
def SvPost (w : World) (rb hb B : Nat) (size : Int) (g : Nat) (ar : List Arr) (pub sec : Value) (who : Int) (r : Value) (w' : World) : Prop :=
  ∃ (p st : Int) (g' cap' : Nat) (ar' : List Arr) (pub' sec' : Value) (tp' ts' : List Int), r = .tuple #[i32 p, i64 st] ∧ RoomG w' rb hb B size g' cap' ar' pub' sec' tp' ts' ∧ Wk st who ar ar' ∧ Fr (MuG rb hb g ar pub sec) w w'
section
variable {w : World} {rb hb B : Nat} {size : Int} {g cap : Nat} {ar : List Arr} {pub sec av : Value} {tp ts : List Int}
end
end Go.Proofs.YtgjmpnngheohbaaDoor
namespace Go.Vc
section
variable {P : Program} {w : World} {K : Value → World → Prop} {k : IntKind} {t : TypeId} {a b : Int}
theorem r_and : (binOp .and t (.int k a) (.int k b)).run P w = .ok (.int k (k.wrap (BitVec.ofInt k.bits a &&& BitVec.ofInt k.bits b).toNat)) w := by simp [binOp, Op.intBits]
theorem r_or : (binOp .or t (.int k a) (.int k b)).run P w = .ok (.int k (k.wrap (BitVec.ofInt k.bits a ||| BitVec.ofInt k.bits b).toNat)) w := by simp [binOp, Op.intBits]
theorem r_xor : (binOp .xor t (.int k a) (.int k b)).run P w = .ok (.int k (k.wrap (BitVec.ofInt k.bits a ^^^ BitVec.ofInt k.bits b).toNat)) w := by simp [binOp, Op.intBits]
theorem r_shl {k' : IntKind} (h : 0 ≤ b) : (binOp .shl t (.int k a) (.int k' b)).run P w = .ok (.int k (k.wrap (a * 2 ^ (min b.toNat k.bits)))) w := by
  have : ¬ b < 0 := by omega
  simp [binOp, Op.shift, this]
theorem r_shr {k' : IntKind} (h : 0 ≤ b) : (binOp .shr t (.int k a) (.int k' b)).run P w = .ok (.int k (a.fdiv (2 ^ (min b.toNat k.bits)))) w := by
  have : ¬ b < 0 := by omega
  simp [binOp, Op.shift, this]
theorem and31 (b : Int) : 0 ≤ IntKind.i32.wrap (BitVec.ofInt IntKind.i32.bits b &&& BitVec.ofInt IntKind.i32.bits 31).toNat := by
  have h : (BitVec.ofInt IntKind.i32.bits b &&& BitVec.ofInt IntKind.i32.bits 31).toNat ≤ 31 := by
    rw [BitVec.toNat_and]
    exact Nat.le_trans Nat.and_le_right (by decide)
  generalize (BitVec.ofInt IntKind.i32.bits b &&& BitVec.ofInt IntKind.i32.bits 31).toNat = n at h
  simp only [IntKind.wrap_i32]
  omega
end
end Go.Vc
namespace Go.Proofs.YtgjmpnngheohbaaDoor
open Go.Vc
def Pure1 (f : FuncId) : Prop := ∀ a : Int, ∃ z : Int, ∀ w, callD Tryd.prog f #[i32 a] w fun r w' => r = i32 z ∧ w' = w
def Pure2 (f : FuncId) : Prop := ∀ a b : Int, ∃ z : Int, ∀ w, callD Tryd.prog f #[i32 a, i32 b] w fun r w' => r = i32 z ∧ w' = w
section
variable {w : World} {rb hb B : Nat} {size : Int} {g cap : Nat} {ar : List Arr} {pub sec av : Value} {tp ts : List Int}
end
/-- Two arrays are compared. -/
theorem sameArr_ok {w : World} {a b : Arr} (ha : BytesAre w a.dv a.data) (hb' : BytesAre w b.dv b.data) : callD Tryd.prog 56 #[.agg a.cells.toArray, .agg b.cells.toArray] w fun r w' => (∃ q : Bool, r = .bool q ∧ (SameA a b → q = true)) ∧ Ext w w' := by
  apply F56_wp
  unfold F56_den
  refine bx fun p1 w1 h1 x1 => ?_
  refine bx fun p2 w2 h2 x2 => ?_
  have h1' := h1.ext x2
  have X := x1.trans x2
  refine ldB h1' (by first | exact fa_105_0 | exact fa_105_1 | exact fa_105_2 | exact fa_105_3 | exact fa_105_4 | exact fa_116_0 | exact fa_116_1 | exact fa_120_0 | exact fa_120_1 | exact fa_42_0 | exact fa_42_1 | exact fa_42_2 | exact fa_42_3 | exact fa_42_4 | exact fa_42_5 | exact fa_42_6 | exact fa_57_0 | exact fa_63_0 | exact fa_63_2 | exact fa_63_3 | exact fa_63_4 | exact fa_80_0 | exact fa_80_2 | exact fa_80_3 | exact fa_80_4 | exact fa_91_0 | exact fa_95_0 | exact fa_95_1 | exact fa_95_2 | exact fa_95_3 | exact fa_95_4 | exact fa_95_5) (by first | exact l1_114 | exact l1_21 | exact l1_23 | exact l1_3 | exact l1_32 | exact l1_39 | exact l1_4 | exact l1_40 | exact l1_5 | exact l1_50 | exact l1_55 | exact l1_59 | exact l1_61 | exact l1_76) rfl ?_
  refine ldB h2 (by first | exact fa_105_0 | exact fa_105_1 | exact fa_105_2 | exact fa_105_3 | exact fa_105_4 | exact fa_116_0 | exact fa_116_1 | exact fa_120_0 | exact fa_120_1 | exact fa_42_0 | exact fa_42_1 | exact fa_42_2 | exact fa_42_3 | exact fa_42_4 | exact fa_42_5 | exact fa_42_6 | exact fa_57_0 | exact fa_63_0 | exact fa_63_2 | exact fa_63_3 | exact fa_63_4 | exact fa_80_0 | exact fa_80_2 | exact fa_80_3 | exact fa_80_4 | exact fa_91_0 | exact fa_95_0 | exact fa_95_1 | exact fa_95_2 | exact fa_95_3 | exact fa_95_4 | exact fa_95_5) (by first | exact l1_114 | exact l1_21 | exact l1_23 | exact l1_3 | exact l1_32 | exact l1_39 | exact l1_4 | exact l1_40 | exact l1_5 | exact l1_50 | exact l1_55 | exact l1_59 | exact l1_61 | exact l1_76) rfl (V_eqlI.2 ?_)
  by_cases e1 : a.owner = b.owner
  case neg =>
    simp only [e1, gd_ft, pickD_iff, reduceIte, Bool.false_eq_true, decide_false]
    exact ⟨⟨_, rfl, fun h => absurd h.1.symm e1⟩, X⟩
  simp only [e1, gd_t, pickD_iff, reduceIte, decide_true]
  refine ldB h1' (by first | exact fa_105_0 | exact fa_105_1 | exact fa_105_2 | exact fa_105_3 | exact fa_105_4 | exact fa_116_0 | exact fa_116_1 | exact fa_120_0 | exact fa_120_1 | exact fa_42_0 | exact fa_42_1 | exact fa_42_2 | exact fa_42_3 | exact fa_42_4 | exact fa_42_5 | exact fa_42_6 | exact fa_57_0 | exact fa_63_0 | exact fa_63_2 | exact fa_63_3 | exact fa_63_4 | exact fa_80_0 | exact fa_80_2 | exact fa_80_3 | exact fa_80_4 | exact fa_91_0 | exact fa_95_0 | exact fa_95_1 | exact fa_95_2 | exact fa_95_3 | exact fa_95_4 | exact fa_95_5) (by first | exact l1_114 | exact l1_21 | exact l1_23 | exact l1_3 | exact l1_32 | exact l1_39 | exact l1_4 | exact l1_40 | exact l1_5 | exact l1_50 | exact l1_55 | exact l1_59 | exact l1_61 | exact l1_76) rfl ?_
  refine ldB h2 (by first | exact fa_105_0 | exact fa_105_1 | exact fa_105_2 | exact fa_105_3 | exact fa_105_4 | exact fa_116_0 | exact fa_116_1 | exact fa_120_0 | exact fa_120_1 | exact fa_42_0 | exact fa_42_1 | exact fa_42_2 | exact fa_42_3 | exact fa_42_4 | exact fa_42_5 | exact fa_42_6 | exact fa_57_0 | exact fa_63_0 | exact fa_63_2 | exact fa_63_3 | exact fa_63_4 | exact fa_80_0 | exact fa_80_2 | exact fa_80_3 | exact fa_80_4 | exact fa_91_0 | exact fa_95_0 | exact fa_95_1 | exact fa_95_2 | exact fa_95_3 | exact fa_95_4 | exact fa_95_5) (by first | exact l1_114 | exact l1_21 | exact l1_23 | exact l1_3 | exact l1_32 | exact l1_39 | exact l1_4 | exact l1_40 | exact l1_5 | exact l1_50 | exact l1_55 | exact l1_59 | exact l1_61 | exact l1_76) rfl (V_eqlI.2 ?_)
  by_cases e2 : a.label = b.label
  case neg =>
    simp only [e2, gd_ft, pickD_iff, reduceIte, Bool.false_eq_true, decide_false]
    exact ⟨⟨_, rfl, fun h => absurd h.2.1.symm e2⟩, X⟩
  simp only [e2, gd_t, pickD_iff, reduceIte, decide_true]
  refine ldB h1' (by first | exact fa_105_0 | exact fa_105_1 | exact fa_105_2 | exact fa_105_3 | exact fa_105_4 | exact fa_116_0 | exact fa_116_1 | exact fa_120_0 | exact fa_120_1 | exact fa_42_0 | exact fa_42_1 | exact fa_42_2 | exact fa_42_3 | exact fa_42_4 | exact fa_42_5 | exact fa_42_6 | exact fa_57_0 | exact fa_63_0 | exact fa_63_2 | exact fa_63_3 | exact fa_63_4 | exact fa_80_0 | exact fa_80_2 | exact fa_80_3 | exact fa_80_4 | exact fa_91_0 | exact fa_95_0 | exact fa_95_1 | exact fa_95_2 | exact fa_95_3 | exact fa_95_4 | exact fa_95_5) (by first | exact l1_114 | exact l1_21 | exact l1_23 | exact l1_3 | exact l1_32 | exact l1_39 | exact l1_4 | exact l1_40 | exact l1_5 | exact l1_50 | exact l1_55 | exact l1_59 | exact l1_61 | exact l1_76) rfl ?_
  refine ldB h2 (by first | exact fa_105_0 | exact fa_105_1 | exact fa_105_2 | exact fa_105_3 | exact fa_105_4 | exact fa_116_0 | exact fa_116_1 | exact fa_120_0 | exact fa_120_1 | exact fa_42_0 | exact fa_42_1 | exact fa_42_2 | exact fa_42_3 | exact fa_42_4 | exact fa_42_5 | exact fa_42_6 | exact fa_57_0 | exact fa_63_0 | exact fa_63_2 | exact fa_63_3 | exact fa_63_4 | exact fa_80_0 | exact fa_80_2 | exact fa_80_3 | exact fa_80_4 | exact fa_91_0 | exact fa_95_0 | exact fa_95_1 | exact fa_95_2 | exact fa_95_3 | exact fa_95_4 | exact fa_95_5) (by first | exact l1_114 | exact l1_21 | exact l1_23 | exact l1_3 | exact l1_32 | exact l1_39 | exact l1_4 | exact l1_40 | exact l1_5 | exact l1_50 | exact l1_55 | exact l1_59 | exact l1_61 | exact l1_76) rfl (V_eqlI.2 ?_)
  by_cases e3 : a.life = b.life
  case neg =>
    simp only [e3, gd_ft, pickD_iff, reduceIte, Bool.false_eq_true, decide_false]
    exact ⟨⟨_, rfl, fun h => absurd h.2.2.1.symm e3⟩, X⟩
  simp only [e3, gd_t, pickD_iff, reduceIte, decide_true]
  refine ldB h1' (by first | exact fa_105_0 | exact fa_105_1 | exact fa_105_2 | exact fa_105_3 | exact fa_105_4 | exact fa_116_0 | exact fa_116_1 | exact fa_120_0 | exact fa_120_1 | exact fa_42_0 | exact fa_42_1 | exact fa_42_2 | exact fa_42_3 | exact fa_42_4 | exact fa_42_5 | exact fa_42_6 | exact fa_57_0 | exact fa_63_0 | exact fa_63_2 | exact fa_63_3 | exact fa_63_4 | exact fa_80_0 | exact fa_80_2 | exact fa_80_3 | exact fa_80_4 | exact fa_91_0 | exact fa_95_0 | exact fa_95_1 | exact fa_95_2 | exact fa_95_3 | exact fa_95_4 | exact fa_95_5) (by first | exact l1_114 | exact l1_21 | exact l1_23 | exact l1_3 | exact l1_32 | exact l1_39 | exact l1_4 | exact l1_40 | exact l1_5 | exact l1_50 | exact l1_55 | exact l1_59 | exact l1_61 | exact l1_76) rfl ?_
  refine ldB h2 (by first | exact fa_105_0 | exact fa_105_1 | exact fa_105_2 | exact fa_105_3 | exact fa_105_4 | exact fa_116_0 | exact fa_116_1 | exact fa_120_0 | exact fa_120_1 | exact fa_42_0 | exact fa_42_1 | exact fa_42_2 | exact fa_42_3 | exact fa_42_4 | exact fa_42_5 | exact fa_42_6 | exact fa_57_0 | exact fa_63_0 | exact fa_63_2 | exact fa_63_3 | exact fa_63_4 | exact fa_80_0 | exact fa_80_2 | exact fa_80_3 | exact fa_80_4 | exact fa_91_0 | exact fa_95_0 | exact fa_95_1 | exact fa_95_2 | exact fa_95_3 | exact fa_95_4 | exact fa_95_5) (by first | exact l1_114 | exact l1_21 | exact l1_23 | exact l1_3 | exact l1_32 | exact l1_39 | exact l1_4 | exact l1_40 | exact l1_5 | exact l1_50 | exact l1_55 | exact l1_59 | exact l1_61 | exact l1_76) rfl ?_
  refine V.ok (r_eqBool Tryd.underlying4) ?_
  by_cases e4 : a.share = b.share
  case neg =>
    simp only [show (a.share == b.share) = false by simpa using e4, gd_ft, pickD_iff, reduceIte, Bool.false_eq_true]
    exact ⟨⟨_, rfl, fun h => absurd h.2.2.2.1.symm e4⟩, X⟩
  simp only [show (a.share == b.share) = true by simpa using e4, gd_t, pickD_iff, reduceIte]
  refine ldB h1' (by first | exact fa_105_0 | exact fa_105_1 | exact fa_105_2 | exact fa_105_3 | exact fa_105_4 | exact fa_116_0 | exact fa_116_1 | exact fa_120_0 | exact fa_120_1 | exact fa_42_0 | exact fa_42_1 | exact fa_42_2 | exact fa_42_3 | exact fa_42_4 | exact fa_42_5 | exact fa_42_6 | exact fa_57_0 | exact fa_63_0 | exact fa_63_2 | exact fa_63_3 | exact fa_63_4 | exact fa_80_0 | exact fa_80_2 | exact fa_80_3 | exact fa_80_4 | exact fa_91_0 | exact fa_95_0 | exact fa_95_1 | exact fa_95_2 | exact fa_95_3 | exact fa_95_4 | exact fa_95_5) (by first | exact l1_114 | exact l1_21 | exact l1_23 | exact l1_3 | exact l1_32 | exact l1_39 | exact l1_4 | exact l1_40 | exact l1_5 | exact l1_50 | exact l1_55 | exact l1_59 | exact l1_61 | exact l1_76) rfl ?_
  refine V.ok (r_str Tryd.underlying40 Tryd.underlying5 Tryd.underlying9 (ha.ext X)) ?_
  refine ldB h2 (by first | exact fa_105_0 | exact fa_105_1 | exact fa_105_2 | exact fa_105_3 | exact fa_105_4 | exact fa_116_0 | exact fa_116_1 | exact fa_120_0 | exact fa_120_1 | exact fa_42_0 | exact fa_42_1 | exact fa_42_2 | exact fa_42_3 | exact fa_42_4 | exact fa_42_5 | exact fa_42_6 | exact fa_57_0 | exact fa_63_0 | exact fa_63_2 | exact fa_63_3 | exact fa_63_4 | exact fa_80_0 | exact fa_80_2 | exact fa_80_3 | exact fa_80_4 | exact fa_91_0 | exact fa_95_0 | exact fa_95_1 | exact fa_95_2 | exact fa_95_3 | exact fa_95_4 | exact fa_95_5) (by first | exact l1_114 | exact l1_21 | exact l1_23 | exact l1_3 | exact l1_32 | exact l1_39 | exact l1_4 | exact l1_40 | exact l1_5 | exact l1_50 | exact l1_55 | exact l1_59 | exact l1_61 | exact l1_76) rfl ?_
  refine V.ok (r_str Tryd.underlying40 Tryd.underlying5 Tryd.underlying9 (hb'.ext X)) ?_
  refine V.ok r_eqStr ?_
  exact ⟨⟨_, rfl, fun h => by rw [h.2.2.2.2]; simp⟩, X⟩
end Go.Proofs.YtgjmpnngheohbaaDoor
namespace Go.Vc
theorem own_blk {w : World} {g e B n size : Nat} {cs : List Value} (hb : Blk w g cs e) (hn : cs.length = n * size) (hB : B ≤ g) (hm : n ≤ maxLen) : w.ownsRow B e size (.slice (some ⟨g, 0, none⟩) n n) n cs :=
  ⟨hn, .inr ⟨g, n, cs.toArray, rfl, hB, hb, Nat.le_refl _, hm, by simpa using hn, by rw [← hn]; simp⟩⟩
/-- An append onto what the call owns, of elements of any size, and where it lies. -/
theorem apZ {P : Program} {w : World} {K : Value → World → Prop} {t e by_ ty sz : Nat} {z : Value} (ht : P.underlying t = some (.slice e)) (hi : Inf P e z sz by_) (hz : (z.cells.size == sz) = true) (hsz : 0 < sz) {B B' : Nat} {v : Value} {n : Nat} {xs : List Value} (ho : w.ownsRow B e sz v n xs) {x : Value} {m : Nat} {news : List Value} (hs : w.ownsRow B' e sz x m news) (hm : 0 < m) (h1 : news.all oneC = true)
    (hb : (n + m) * by_ ≤ 140737488355328) (h63 : n + m ≤ maxLen) (hB : B ≤ w.heap.size)
    (hk : ∀ g cap w', w'.ownsRow B e sz (.slice (some ⟨g, 0, none⟩) (n + m) cap) (n + m) (xs ++ news) → w.grownBy w' v.ownBlock → (v.ownBlock = some g ∨ g = w.heap.size) → K (.slice (some ⟨g, 0, none⟩) (n + m) cap) w') :
    V P (Builtin.append_ #[t, t] ty #[v, x]) w K := by
  obtain ⟨i, hi', hz', hn, hby⟩ := info_parts hi
  have hs0 := hs
  rcases hs.2 with ⟨_, h0⟩ | ⟨b, cap, cur, rfl, _⟩
  · omega
  · obtain ⟨g, cap, w', hr, h2, h3, h4, h5⟩ := run_append_lies (P := P) (w := w) t ty B e i z sz by_ ht hi' hz' hn hby (by simpa using hz) hsz v n xs ho ⟨b, 0, none⟩ m cap news hs.1 (hs0.cells rfl) (fun u hu => by rw [oneC_eq]; exact List.all_eq_true.1 h1 u hu) hm h63 hb hB _ rfl
    exact V.ok hr (hk g cap w' h2 h3 h4)
/-- What is behind the first a elements. -/
theorem r_slFrom {P : Program} {w : World} {t e : TypeId} {z : Value} {sz by_ : Nat} (ht : P.underlying t = some (.slice e)) (hi : Inf P e z sz by_) {g n cap a : Nat} (ha : a ≤ n) (hn : n ≤ cap) :
    (Instr.sliceAt t (.slice (some ⟨g, 0, none⟩) n cap) (some (.int .i64 (a : Int))) none none).run P w = .ok (.slice (if cap = a then some ⟨g, 0, none⟩ else some ⟨g, a * sz, none⟩) (n - a) (cap - a)) w := by
  simp [Instr.sliceAt, Instr.slice, run_underlying ht, run_size hi, Instr.sliceBounds, Instr.sliceBound, asIntOf, ha, add_mk]
end Go.Vc
namespace Go.Proofs.YtgjmpnngheohbaaDoor
open Go.Vc
theorem HeapG.cap {w : World} {hb B : Nat} {size : Int} {g cap : Nat} {ar : List Arr} (h : HeapG w hb B size g cap ar) : ar.length ≤ cap ∧ B ≤ g ∧ g < w.heap.size := by
  refine ⟨?_, h.row.lt _ rfl⟩
  rcases h.row.2 with ⟨h', _⟩ | ⟨g', cap', cur, h', _, _, hc, _⟩
  · cases h'
  · cases h'; exact hc
/-- An array more. -/
theorem HeapG.push {w w' : World} {hb B : Nat} {size : Int} {g cap g' cap' : Nat} {ar : List Arr} (h : HeapG w hb B size g cap ar) (a : Arr) (hl : a.data.length ≤ 64) (hcnt : ar.length + 1 ≤ 1000)
    (hheap : Blk w' hb [i64 size, .slice (some ⟨g', 0, none⟩) (ar.length + 1 : Nat) cap'] 120) (hrow : w'.ownsRow B 105 5 (.slice (some ⟨g', 0, none⟩) (ar.length + 1) cap') (ar.length + 1) (rowC ar ++ a.cells))
    (hd : w'.ownsRow w.heap.size 5 1 a.dv a.data.length (a.data.map u8)) (hne : a.dv.ownBlock ≠ some g') (hg : g' = g ∨ w.heap.size ≤ g') (hf : Fr (fun i => i = hb ∨ i = g) w w') :
    HeapG w' hb B size g' cap' (ar ++ [a]) := by
  have hlt := h.lt
  have hsz := hf.size
  have hc := h.cap
  have old : ∀ b ∈ ar, w'.ownsRow B 5 1 b.dv b.data.length (b.data.map u8) := fun b hbm => hf.own (h.data b hbm) fun i hi he => by
    rcases he with rfl | rfl
    · exact h.fresh.2 b hbm hi
    · exact h.drow b hbm hi
  have find : ∀ {i : Nat} {b : Arr}, (ar ++ [a])[i]? = some b → (i < ar.length ∧ ar[i]? = some b) ∨ (i = ar.length ∧ b = a) := by
    intro i b hi
    by_cases hil : i < ar.length
    · rw [List.getElem?_append_left hil] at hi; exact .inl ⟨hil, hi⟩
    · rw [List.getElem?_append_right (by omega)] at hi
      have hi' := (List.getElem?_eq_some_iff.1 hi).1
      simp at hi'
      have e : i = ar.length := by omega
      subst e
      simp at hi
      exact .inr ⟨rfl, hi.symm⟩
  have low : ∀ b ∈ ar, ∀ x, b.dv.ownBlock = some x → x < w.heap.size := fun b hbm x hx => ((h.data b hbm).lt x hx).2
  have high : ∀ x, a.dv.ownBlock = some x → w.heap.size ≤ x := fun x hx => (hd.lt x hx).1
  refine ⟨by simpa using hheap, by rw [rowC_snoc]; simpa using hrow, ?_, ?_, ?_, ?_, by omega, by simp; omega, ?_, ?_⟩
  · intro b hb'
    rcases List.mem_append.1 hb' with hb' | hb'
    · exact old b hb'
    · obtain rfl := List.mem_singleton.1 hb'
      exact own_mono hd (by omega)
  · intro b hb'
    rcases List.mem_append.1 hb' with hb' | hb'
    · exact h.len b hb'
    · obtain rfl := List.mem_singleton.1 hb'
      exact hl
  · intro i j b c x hi hj hbx hcx
    rcases find hi with ⟨_, hi'⟩ | ⟨rfl, rfl⟩ <;> rcases find hj with ⟨_, hj'⟩ | ⟨rfl, rfl⟩
    · exact h.dist i j b c x hi' hj' hbx hcx
    · have := low b (List.mem_of_getElem? hi') x hbx
      have := high x hcx
      omega
    · have := low c (List.mem_of_getElem? hj') x hcx
      have := high x hbx
      omega
    · rfl
  · intro b hb'
    rcases List.mem_append.1 hb' with hb' | hb'
    · intro he
      rcases hg with rfl | hg
      · exact h.drow b hb' he
      · have := low b hb' _ he; omega
    · obtain rfl := List.mem_singleton.1 hb'
      exact hne
  · have := h.heap.lt
    have := h.fresh.1
    omega
  · intro b hb' he
    rcases List.mem_append.1 hb' with hb' | hb'
    · exact h.fresh.2 b hb' he
    · obtain rfl := List.mem_singleton.1 hb'
      have := high _ he; have := h.heap.lt; omega
end Go.Proofs.YtgjmpnngheohbaaDoor
