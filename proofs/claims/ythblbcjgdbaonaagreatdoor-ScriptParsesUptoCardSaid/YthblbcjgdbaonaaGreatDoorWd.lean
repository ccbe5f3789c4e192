/- General laws of operations (from the other texts of this seed). -/
import Derived.Test.YthblbcjgdbaonaaGreatDoorWb
import Derived.Test.YthblbcjgdbaonaaGreatDoorWc
import Derived.Deep.AppendLies
import Derived.Laws.CopyRow
import Derived.Laws.BytesArg
import Derived.Lib.AppendZeros
import Derived.Great.FillDense
import Derived.Great.BuildSlice
namespace Go.Vc
section
variable {P : Program} {w : World} {K : Value → World → Prop}
theorem stB {t x : TypeId} {z : Value} {by_ : Nat} (h : XA P t 1) (hx : Inf P x z 1 by_) {g n c e : Nat} {cs : List Value} (hb : Blk w g cs e) (hn : cs.length = n) {k : IntKind} {i : Int} (h0 : 0 ≤ i) (h1 : i < n) {u : Value} (hu : oneC u = true) {K' : World → Prop}
    (hk : K' (w.setCell ⟨g, i.toNat, none⟩ u)) :
    V P (Instr.indexAt t (.slice (some ⟨g, 0, none⟩) n c) (.int k i)) w fun p w1 => U P (Instr.storeAt x p u) w1 fun _ w2 => K' w2 := by
  obtain ⟨e', z', b', ht, hi⟩ := h
  refine V.ok (r_index ht hi h0 h1) ?_
  have hlt : i.toNat < cs.length := by omega
  have hc := hb.cell i.toNat
  rw [List.getElem?_eq_getElem hlt] at hc
  simp only [Nat.zero_add, Nat.mul_one]
  exact U.ok (r_store hx hu hc (hb.frozen _)) hk
end
end Go.Vc
namespace Go.Vc
section
variable {P : Program} {w : World} {K : Value → World → Prop} {S : World → Prop} {L : Value → Prop}
theorem yfB {s f o ft b : Nat} {cs : List Value} {u : Value} (hb : ∀ w', S w' → Boxed w' b cs) (h : FA P s f o) (hl : L1 P ft) (hc : cs[o]? = some u) (hk : L u) :
    yieldS P S (Instr.fieldAt s (.pointer (some ⟨b, 0, none⟩)) f) fun q => yieldS P S (Instr.loadAt ft q) L := by
  obtain ⟨d, hd, ha⟩ := hl
  exact yieldS.ok (fun w' _ => h.ex w' b 0) (yieldS.ok (fun w' hw => r_load hd ha (hb w' hw o u hc)) hk)
theorem ySl {t x : TypeId} {v : Value} {n : Nat} {cs : List Value} {k : IntKind} {i : Int} {u : Value} (h : XA P t 1) (hl : L1 P x) (hs0 : SliceIs w v 1 n cs) (hx : ∀ w', S w' → Ext w w') (h0 : 0 ≤ i) (h1 : i < n) (hu : cs[i.toNat]? = some u) (hk : L u) :
    yieldS P S (Instr.indexAt t v (.int k i)) fun p => yieldS P S (Instr.loadAt x p) L := by
  obtain ⟨e, z, b', ht, hi⟩ := h
  obtain ⟨d, hd, ha⟩ := hl
  obtain ⟨b, off, cap, rfl, hc⟩ := hs0.there (by omega)
  refine yieldS.ok (fun w' _ => r_index ht hi h0 h1) (yieldS.ok (fun w' hw => r_load hd ha ((hx w' hw).cell ?_)) hk)
  simpa using hc _ _ hu
theorem yLen {t ty n : Nat} {m : Nat} {v : Value} {size : Nat} {cs : List Value} (h : XA P t n) (hs : SliceIs w v size m cs) (hk : L (i64 m)) : yieldS P S (Builtin.len_ #[t] ty #[v]) L := by
  obtain ⟨e, z, b, ht, hi⟩ := h
  obtain ⟨a, c, rfl⟩ := hs.shape
  exact yieldS.ok (fun w' _ => r_len ht) hk
end
end Go.Vc
namespace Go.Vc
end Go.Vc
namespace Go.Vc
section
variable {P : Program} {w : World} {S : World → Prop} {L : Value → Prop}
theorem yA {t n b : Nat} {cs : List Value} (hb : ∀ w', S w' → Boxed w' b cs) (ht : ∃ d z by_, P.underlying t = some d ∧ aggB d = true ∧ Inf P t z n by_) (hl : cs.length = n) (hk : L (.agg cs.toArray)) : yieldS P S (Instr.loadAt t (.pointer (some ⟨b, 0, none⟩))) L := by
  obtain ⟨d, z, by_, h1, h2, h3⟩ := ht
  exact yieldS.ok (fun w' hw => r_loadAgg h1 h2 h3 hl fun j hj => by
    obtain ⟨u, hu⟩ : ∃ u, cs[j]? = some u := ⟨_, List.getElem?_eq_getElem hj⟩
    rw [hu]; exact hb w' hw j u hu) hk
variable {K : Value → World → Prop}
end
end Go.Vc
namespace Go.Vc
open Go.Proofs
section
variable {P : Program} {w : World} {K : Value → World → Prop}
theorem alK {t : TypeId} {z : Value} {n by_ : Nat} (hi : Inf P t z n by_) (hk : ∀ w1, Blk w1 w.heap.size z.cells.toList t → Ext w w1 → K (.pointer (some ⟨w.heap.size, 0, none⟩)) w1) : V P (Instr.alloc t true (.tuple #[])) w K :=
  V.ok (r_alloc hi) (hk _ (by unfold Blk; rw [heap_alloc_new]) ((Ext.refl w).alloc _))
theorem bxK {t : TypeId} {v : Value} (hk : ∀ w1, Blk w1 w.heap.size v.cells.toList t → Ext w w1 → K (.pointer (some ⟨w.heap.size, 0, none⟩)) w1) : V P (Instr.box t v) w K :=
  V.ok r_box (hk _ (by unfold Blk; rw [heap_alloc_new]) ((Ext.refl w).alloc _))
theorem asK {t n : TypeId} {v : Value} {K' : Value → World → Prop} (h : SA P t n) (hn : v.cells.size = n) (h1 : v.cells.toList.all oneC = true) (hk : ∀ w1, Blk w1 w.heap.size v.cells.toList t → Ext w w1 → K' (.pointer (some ⟨w.heap.size, 0, none⟩)) w1) :
    V P (Instr.alloc t true (.tuple #[])) w (fun p w1 => U P (Instr.storeAt t p v) w1 fun _ w2 => K' p w2) :=
  as_ h hn h1 (hk _ (by unfold Blk; rw [heap_alloc_new]) ((Ext.refl w).alloc _))
theorem apA {t e by_ ty sz : Nat} {z : Value} (ht : P.underlying t = some (.slice e)) (hi : Inf P e z sz by_) (hz : (z.cells.size == sz) = true) (hsz : 0 < sz) {B : Nat} {v : Value} {n : Nat} {xs : List Value} (ho : w.ownsRow B e sz v n xs) {x : Value} {m : Nat} {news : List Value} (hs : SliceIs w x sz m news) (h1 : news.all oneC = true)
    (hb : (n + m) * by_ ≤ 140737488355328) (h63 : n + m ≤ maxLen) (hB : B ≤ w.heap.size) (hk : ∀ v' w', w'.ownsRow B e sz v' (n + m) (xs ++ news) → w.grownBy w' v.ownBlock → K v' w') :
    V P (Builtin.append_ #[t, t] ty #[v, x]) w K := by
  obtain ⟨i, hi', hz', hn, hby⟩ := info_parts hi
  rcases hs.2 with ⟨rfl, rfl⟩ | ⟨b, off, cap, rfl, _, _, hc⟩
  · have hnews : news = [] := by have := hs.1; simpa using this
    subst hnews
    refine V.ok (run_append_owned_none w B t ty e i sz ht hi' v n xs ho) (hk _ _ (by simpa using ho) ⟨rfl, rfl, rfl, Nat.le_refl _, fun _ _ _ => rfl⟩)
  · obtain ⟨v', w', hr, h2, h3, _⟩ := run_append_own (P := P) w B t ty e i z sz by_ ht hi' hz' hn hby (by simpa using hz) hsz v n xs ho ⟨b, off, none⟩ m cap news hs.1
      (fun j u hj => by rw [add_mk]; exact hc j u hj) (fun u hu => by rw [oneC_eq]; exact List.all_eq_true.1 h1 u hu) h63 hb hB
    exact V.ok hr (hk _ _ h2 h3)
theorem Blk.boxed {g : Nat} {cs : List Value} {e : TypeId} (h : Blk w g cs e) : Boxed w g cs := fun j u hj => by rw [Nat.zero_add, h.cell]; exact hj
structure Chg (w : World) (g : Nat) (w' : World) : Prop where
  ext : ∀ a, Ext a w → a.heap.size ≤ g → Ext a w'
  same : ∀ i, i ≠ g → w'.heap[i]? = w.heap[i]?
  size : w'.heap.size = w.heap.size
  grown : w.grownBy w' (some g)
theorem run_storeB {g : Nat} {e : TypeId} : ∀ (l done old : List Value) (w : World), l.length = old.length → (∀ u ∈ l, oneC u = true) → Blk w g (done ++ old) e →
    ∃ w', (storeCells ⟨g, 0, none⟩ l done.length).run P w = .ok () w' ∧ Blk w' g (done ++ l) e ∧ Chg w g w'
  | [], done, [], w, _, _, hb => ⟨w, by simp [storeCells], hb, ⟨fun _ h _ => h, fun _ _ => rfl, rfl, ⟨rfl, rfl, rfl, Nat.le_refl _, fun _ _ _ => rfl⟩⟩⟩
  | v :: l, done, u :: old, w, hl, h1, hb => by
    have hc := hb.cell done.length
    simp only [List.getElem?_append_right (Nat.le_refl _), Nat.sub_self, List.getElem?_cons_zero] at hc
    have hs := run_store1 (P := P) (h1 v (by simp)) hc (hb.frozen done.length)
    have hb1 : Blk (w.setCell ⟨g, done.length, none⟩ v) g ((done ++ [v]) ++ old) e := by
      have := hb.set done.length v
      rw [List.set_append_right _ _ (Nat.le_refl _)] at this
      simpa using this
    obtain ⟨w', h2, h3, h4⟩ := run_storeB l (done ++ [v]) old _ (by simpa using hl) (fun u hu => h1 u (by simp [hu])) hb1
    refine ⟨w', ?_, by simpa using h3, ⟨fun a ha hg => h4.ext a (ha.setCell hg v) hg, fun i hi => (h4.same i hi).trans (heap_setCell_other _ _ _ _ (fun he => hi he)), h4.size.trans (by simp), ⟨h4.grown.os, h4.grown.tape, h4.grown.output, by have := h4.grown.size; simpa using this, fun k hk hne => (h4.grown.block k (by simpa using hk) hne).trans (heap_setCell_other _ _ _ _ (fun he => hne (by simp [he])))⟩⟩⟩
    simp only [storeCells, add_mk, Nat.zero_add, Sem.run_bind]
    rw [hs, Result.andThen_ok]
    simpa using h2
theorem stA {t : TypeId} {z v : Value} {n by_ g : Nat} {old l : List Value} {e : TypeId} {K' : Value → World → Prop} (hi : Inf P t z n by_) (hb : Blk w g old e) (hv : v.cells = l.toArray) (hl : l.length = n) (ho : old.length = n) (h1 : l.all oneC = true)
    (hk : ∀ w', Blk w' g l e → Chg w g w' → K' undef w') : U P (Instr.storeAt t (.pointer (some ⟨g, 0, none⟩)) v) w K' := by
  obtain ⟨w', h2, h3, h4⟩ := run_storeB (P := P) l [] old w (by omega) (fun u hu => List.all_eq_true.1 h1 u hu) hb
  refine U.ok ?_ (hk w' (by simpa using h3) h4)
  simp only [List.length_nil] at h2
  simp [Instr.storeAt, Instr.sureAddr, storeVar, run_size hi, hv, hl, h2]
theorem r_var {t : TypeId} {d : TypeDesc} {z : Value} {n by_ g : Nat} {l : List Value} {e : TypeId} (ht : P.underlying t = some d) (hd : aggB d = true) (hi : Inf P t z n by_) (hb : Blk w g l e) (hl : l.length = n) :
    (loadVar t ⟨g, 0, none⟩).run P w = .ok (.agg l.toArray) w := by
  have := r_loadAgg (P := P) (w := w) (b := g) (off := 0) ht hd hi hl fun j hj => by
    obtain ⟨u, hu⟩ : ∃ u, l[j]? = some u := ⟨_, List.getElem?_eq_getElem hj⟩
    rw [hu, Nat.zero_add, hb.cell]; exact hu
  simpa [Instr.loadAt, Instr.sureAddr] using this
end
end Go.Vc
namespace Go.Vc
section
variable {P : Program} {w : World} {K : Value → World → Prop} {S : World → Prop} {L : Value → Prop}
theorem ldxA {t x : TypeId} {v : Value} {n sz : Nat} {cs l : List Value} {k : IntKind} {i : Int} (h : XA P t sz) (ht : ∃ d z by_, P.underlying x = some d ∧ aggB d = true ∧ Inf P x z sz by_) (hs : SliceIs w v sz n cs) (h0 : 0 ≤ i) (h1 : i < n)
    (hc : (cs.drop (i.toNat * sz)).take sz = l) (hl : l.length = sz) (hk : K (.agg l.toArray) w) :
    V P (Instr.indexAt t v (.int k i)) w fun p w1 => V P (Instr.loadAt x p) w1 K := by
  obtain ⟨e, z, b', hte, hi⟩ := h
  obtain ⟨d, z', by_, h2, h3, h4⟩ := ht
  obtain ⟨b, off, cap, rfl, hcell⟩ := hs.there (by omega)
  refine V.ok (r_index hte hi h0 h1) (V.ok (r_loadAgg h2 h3 h4 hl fun j hj => ?_) hk)
  obtain ⟨u, hu⟩ : ∃ u, l[j]? = some u := ⟨_, List.getElem?_eq_getElem hj⟩
  rw [hu, Nat.add_assoc]
  refine hcell _ u ?_
  rw [← hc, List.getElem?_take, List.getElem?_drop] at hu
  split at hu
  · exact hu
  · cases hu
theorem yLss {t : TypeId} {a b : Int} (hk : L (.bool (decide (a < b)))) : yieldS P S (binOp .lss t (.int .i64 a) (.int .i64 b)) L := yieldS.ok (fun _ _ => r_lss) hk
theorem yGeq {t : TypeId} {a b : Int} (hk : L (.bool (decide (a ≥ b)))) : yieldS P S (binOp .geq t (.int .i64 a) (.int .i64 b)) L := yieldS.ok (fun _ _ => r_geq) hk
end
end Go.Vc
namespace Go.Vc
open Go.Proofs
section
variable {P : Program} {w : World} {K : Value → World → Prop} {S : World → Prop} {L : Value → Prop}
theorem yBld {t : TypeId} {zs : List Value} (h : BD P t zs) {parts : Array (Nat × Value)} (l : List (Nat × Value)) (hp : parts = l.toArray) (h1 : (l.all fun x => decide (x.1 < zs.length) && oneC x.2) = true)
    (hk : L (.agg (l.foldl (fun cs x => cs.set x.1 x.2) zs).toArray)) : yieldS P S (Instr.build t parts) L := by
  subst hp
  obtain ⟨fs, b, hu, hi, hm⟩ := h
  refine yieldS.ok (fun w _ => ?_) hk
  simp only [Instr.build, Sem.run_bind, run_zero hi, Result.andThen_ok, run_underlying hu, hm, Value.cells]
  rw [fillB l zs rfl h1]
  simp
theorem r_max2 {t : TypeId} {ts : Array TypeId} {a b : Int} : (Builtin.max_ ts t #[.int .i64 a, .int .i64 b]).run P w = .ok (.int .i64 (if a < b then b else a)) w ∨ (Builtin.max_ ts t #[.int .i64 a, .int .i64 b]).run P w = .ok (.int .i64 (if b < a then a else b)) w := by
  simp [Builtin.max_, Builtin.max2]
theorem mx2 {t : TypeId} {ts : Array TypeId} {a b : Int} (hk : ∀ c, (c = a ∨ c = b) → a ≤ c → b ≤ c → K (.int .i64 c) w) : V P (Builtin.max_ ts t #[.int .i64 a, .int .i64 b]) w K := by
  rcases r_max2 (P := P) (w := w) (t := t) (ts := ts) (a := a) (b := b) with h | h
  · exact V.ok h (hk _ (by split <;> simp) (by split <;> omega) (by split <;> omega))
  · exact V.ok h (hk _ (by split <;> simp) (by split <;> omega) (by split <;> omega))
theorem r_min2 {t : TypeId} {ts : Array TypeId} {a b : Int} : (Builtin.min_ ts t #[.int .i64 a, .int .i64 b]).run P w = .ok (.int .i64 (if a < b then a else b)) w ∨ (Builtin.min_ ts t #[.int .i64 a, .int .i64 b]).run P w = .ok (.int .i64 (if b < a then b else a)) w := by
  simp [Builtin.min_, Builtin.min2]
theorem mn2 {t : TypeId} {ts : Array TypeId} {a b : Int} (hk : ∀ c, (c = a ∨ c = b) → c ≤ a → c ≤ b → K (.int .i64 c) w) : V P (Builtin.min_ ts t #[.int .i64 a, .int .i64 b]) w K := by
  rcases r_min2 (P := P) (w := w) (t := t) (ts := ts) (a := a) (b := b) with h | h
  · exact V.ok h (hk _ (by split <;> simp) (by split <;> omega) (by split <;> omega))
  · exact V.ok h (hk _ (by split <;> simp) (by split <;> omega) (by split <;> omega))
theorem rm {t : TypeId} {a b : Int} (hb : 0 < b) (hk : ∀ c, c = a.tmod b → -b < c → c < b → K (.int .i64 c) w) : V P (binOp .rem t (.int .i64 a) (.int .i64 b)) w K := by
  have hne : b ≠ 0 := by omega
  have hr : (binOp .rem t (.int .i64 a) (.int .i64 b)).run P w = .ok (.int .i64 (a.tmod b)) w := by simp [binOp, Op.intDiv, hne]
  exact V.ok hr (hk _ rfl (by have := Int.lt_tmod_of_pos a hb; simpa using this) (Int.tmod_lt_of_pos a hb))
theorem r_arr {t e n : TypeId} {z : Value} {by_ : Nat} (ht : P.underlying t = some (.array n e)) (hi : Inf P e z 1 by_) {b off : Nat} {i : Int} (h0 : 0 ≤ i) (h1 : i < n) :
    (Instr.indexAt t (.pointer (some ⟨b, off, none⟩)) (.int .i64 i)).run P w = .ok (.pointer (some ⟨b, off + i.toNat, none⟩)) w := by
  simp [Instr.indexAt, asIntOf, run_underlying ht, Instr.sureAddr, run_size hi, h0, h1, add_mk]
theorem r_idx {t e n : TypeId} {z : Value} {by_ : Nat} (ht : P.underlying t = some (.array n e)) (hi : Inf P e z 1 by_) (hd : ∃ k, P.underlying e = some (.int k)) {cs : Array Value} {i : Int} {u : Value} (h0 : 0 ≤ i) (h1 : i < n) (hu : cs[i.toNat]? = some u) (_ : oneC u = true) :
    (Instr.index t (.agg cs) (.int .i64 i)).run P w = .ok u w := by
  obtain ⟨k, hd⟩ := hd
  simp [Instr.index, asIntOf, run_underlying ht, run_size hi, h0, h1, part, run_isAgg hd, aggB, hu]
theorem r_hi {t e : TypeId} {z : Value} {by_ : Nat} (ht : P.underlying t = some (.slice e)) (hi : Inf P e z 1 by_) {a : Option Addr} {n c k : Nat} (hk : k ≤ c) :
    (Instr.sliceAt t (.slice a n c) none (some (.int .i64 (k : Int))) none).run P w = .ok (.slice (if c = 0 then a else a.map (·.add 0)) k c) w := by
  have h0 : (0 : Int) ≤ k ∧ (k : Int) ≤ c := ⟨by omega, by omega⟩
  simp [Instr.sliceAt, Instr.slice, run_underlying ht, run_size hi, Instr.sliceBounds, Instr.sliceBound, asIntOf, h0]
  intro h
  omega
end
end Go.Vc
namespace Go.Vc
section
variable {P : Program} {w : World}
end
end Go.Vc
namespace Go.Vc
structure Fr (S : Nat → Prop) (w w' : World) : Prop where
  os : w'.os = w.os
  tape : w'.tape = w.tape
  output : w'.output = w.output
  size : w.heap.size ≤ w'.heap.size
  block : ∀ i, i < w.heap.size → ¬ S i → w'.heap[i]? = w.heap[i]?
theorem Fr.refl (S : Nat → Prop) (w : World) : Fr S w w := ⟨rfl, rfl, rfl, Nat.le_refl _, fun _ _ _ => rfl⟩
theorem Fr.trans {S T : Nat → Prop} {a b c : World} (h : Fr S a b) (k : Fr T b c) (hT : ∀ i, i < a.heap.size → T i → S i) : Fr S a c :=
  ⟨k.os.trans h.os, k.tape.trans h.tape, k.output.trans h.output, Nat.le_trans h.size k.size, fun i hi hn => (k.block i (Nat.lt_of_lt_of_le hi h.size) fun ht => hn (hT i hi ht)).trans (h.block i hi hn)⟩
theorem Fr.mono {S T : Nat → Prop} {a b : World} (h : Fr S a b) (hT : ∀ i, S i → T i) : Fr T a b := ⟨h.os, h.tape, h.output, h.size, fun i hi hn => h.block i hi fun hs => hn (hT i hs)⟩
theorem Fr.of_ext {S : Nat → Prop} {w w' : World} (h : Ext w w') : Fr S w w' := ⟨h.os, h.tape, h.output, h.size, fun i hi _ => h.block i hi (by simp)⟩
theorem Fr.of_grown {S : Nat → Prop} {w w' : World} {row : Option Nat} (h : w.grownBy w' row) (hr : ∀ k, row = some k → S k) : Fr S w w' := ⟨h.os, h.tape, h.output, h.size, fun i hi hn => h.block i hi fun he => hn (hr i he.symm)⟩
theorem Fr.of_set {S : Nat → Prop} {w : World} {b o : Nat} {v : Value} (hb : S b) : Fr S w (w.setCell ⟨b, o, none⟩ v) := ⟨rfl, rfl, rfl, by simp, fun i _ hn => heap_setCell_other _ _ _ _ (fun he => hn (by simp [he]; exact hb))⟩
theorem Fr.set {S : Nat → Prop} {w w' : World} (h : Fr S w w') {b o : Nat} {v : Value} (hb : S b) : Fr S w (w'.setCell ⟨b, o, none⟩ v) := h.trans (Fr.of_set (S := S) hb) fun _ _ h => h
theorem Fr.ext {S : Nat → Prop} {w0 w w' : World} (h : Fr S w w') (hx : Ext w0 w) (hS : ∀ i, S i → w0.heap.size ≤ i) : Ext w0 w' :=
  ⟨h.os.trans hx.os, h.tape.trans hx.tape, h.output.trans hx.output, Nat.le_trans hx.size h.size, fun i hi hn => (h.block i (Nat.lt_of_lt_of_le hi hx.size) fun hs => by have := hS i hs; omega).trans (hx.block i hi hn)⟩
theorem Fr.blk {S : Nat → Prop} {w w' : World} {g : Nat} {cs : List Value} {e : TypeId} (h : Fr S w w') (hb : Blk w g cs e) (hn : ¬ S g) : Blk w' g cs e := by
  unfold Blk
  rw [h.block g hb.lt hn]; exact hb
theorem Fr.own {S : Nat → Prop} {w w' : World} {B e sz n : Nat} {v : Value} {xs : List Value} (h : Fr S w w') (ho : w.ownsRow B e sz v n xs) (hn : ∀ k, v.ownBlock = some k → ¬ S k) : w'.ownsRow B e sz v n xs := by
  refine ⟨ho.1, ?_⟩
  rcases ho.2 with h1 | ⟨g, cap, cur, rfl, hb, hg, rest⟩
  · exact .inl h1
  · refine .inr ⟨g, cap, cur, rfl, hb, ?_, rest⟩
    rw [h.block g (Array.getElem?_eq_some_iff.1 hg).1 (hn g rfl)]
    exact hg
end Go.Vc
namespace Go.Vc
theorem stF {P : Program} {w : World} {K : World → Prop} {s f o ft b n by_ : Nat} {z u : Value} {cs : List Value} {e : TypeId} (hf : FA P s f o) (hi : Inf P ft z 1 by_) (hb : Blk w b cs e) (hn : cs.length = n) (ho : o < n) (hu : oneC u = true) (hk : K (w.setCell ⟨b, o, none⟩ u)) :
    V P (Instr.fieldAt s (.pointer (some ⟨b, 0, none⟩)) f) w fun q w1 => U P (Instr.storeAt ft q u) w1 fun _ w2 => K w2 := by
  refine V.ok (hf.ex w b 0) ?_
  have hc := hb.cell o
  rw [List.getElem?_eq_getElem (by omega)] at hc
  rw [Nat.zero_add]
  exact U.ok (r_store hi hu hc (hb.frozen _)) hk
end Go.Vc
namespace Go.Vc
end Go.Vc
namespace Go.Vc
theorem stFU {P : Program} {w : World} {K : World → Prop} {ft b o n by_ : Nat} {z u : Value} {cs : List Value} {e : TypeId} (hi : Inf P ft z 1 by_) (hb : Blk w b cs e) (hn : cs.length = n) (ho : o < n) (hu : oneC u = true) (hk : K (w.setCell ⟨b, o, none⟩ u)) :
    U P (Instr.storeAt ft (.pointer (some ⟨b, 0 + o, none⟩)) u) w fun _ w2 => K w2 := by
  have hc := hb.cell o
  rw [List.getElem?_eq_getElem (by omega)] at hc
  rw [Nat.zero_add]
  exact U.ok (r_store hi hu hc (hb.frozen _)) hk
end Go.Vc
namespace Go.Vc
section
variable {P : Program} {w : World}
theorem stY {x : TypeId} {z : Value} {by_ : Nat} (hx : Inf P x z 1 by_) {B e n g c : Nat} {xs : List Value} (ho : w.ownsRow B e 1 (.slice (some ⟨g, 0, none⟩) n c) n xs) {i : Nat} (h1 : i < n) {u : Value} (hu : oneC u = true) {K' : World → Prop}
    (hk : ∀ w', w'.ownsRow B e 1 (.slice (some ⟨g, 0, none⟩) n c) n (xs.set i u) → w.grownBy w' (some g) → K' w') :
    U P (Instr.storeAt x (.pointer (some ⟨g, 0 + i * 1, none⟩)) u) w fun _ w2 => K' w2 := by
  obtain ⟨s1, s2⟩ := ho.stored i u
  have hc := ho.cellAt i (by omega)
  have hlt : i < xs.length := by have := ho.1; omega
  rw [List.getElem?_eq_getElem hlt] at hc
  simp only [Nat.zero_add, Nat.mul_one]
  exact U.ok (r_store hx hu hc (ho.frozenAt _)) (hk _ s1 s2)
end
end Go.Vc
namespace Go.Vc
theorem V.mono {P : Program} {s : Sem Value} {w : World} {K K' : Value → World → Prop} (h : V P s w K) (hk : ∀ v w', K v w' → K' v w') : V P s w K' := by
  obtain ⟨v, w', h1, h2⟩ := h
  exact ⟨v, w', h1, hk v w' h2⟩
end Go.Vc
namespace Go.Vc
end Go.Vc
namespace Go.Vc
open Go.Proofs
abbrev u8 (b : Int) : Value := .int .u8 b
section
variable {P : Program} {w : World} {K : Value → World → Prop} {S : World → Prop} {L : Value → Prop}
def BytesAre (w : World) (v : Value) (l : List Int) : Prop := SliceIs w v 1 l.length (l.map u8)
theorem BytesAre.ext {w w' : World} {v : Value} {l : List Int} (h : BytesAre w v l) (hx : Ext w w') : BytesAre w' v l := SliceIs.ext h hx
theorem all_u8 (l : List Int) : (l.map u8).all oneC = true := by simp [oneC]
theorem r_sl {t e : TypeId} {z : Value} {by_ : Nat} (ht : P.underlying t = some (.slice e)) (hi : Inf P e z 1 by_) {v : Value} {n : Nat} {cs : List Value} (h : SliceIs w v 1 n cs) {lo hi' : Option Value} {a b : Nat} (ha : (lo = none ∧ a = 0) ∨ lo = some (.int .i64 a)) (hb : (hi' = none ∧ b = n) ∨ hi' = some (.int .i64 b)) (hab : a ≤ b) (hbn : b ≤ n) :
    ∃ v', (∀ w', (Instr.sliceAt t v lo hi' none).run P w' = .ok v' w') ∧ ∀ w2, SliceIs w2 v 1 n cs → SliceIs w2 v' 1 (b - a) ((cs.drop a).take (b - a)) := by
  have hcl : cs.length = n := by have := h.1; omega
  rcases h.2 with ⟨rfl, h0⟩ | ⟨g, off, cap, rfl, h1, h2, _⟩
  · have ea : a = 0 := by omega
    have eb : b = 0 := by omega
    subst ea eb
    refine ⟨.slice none 0 0, fun w' => ?_, fun w2 _ => ?_⟩
    · rcases ha with ⟨rfl, _⟩ | rfl <;> rcases hb with ⟨rfl, _⟩ | rfl <;> simp [Instr.sliceAt, Instr.slice, run_underlying ht, run_size hi, Instr.sliceBounds, Instr.sliceBound, asIntOf]
    · simp
      exact SliceIs.nil w2 1
  · have hb1 : (0 : Int) ≤ b ∧ (b : Int) ≤ cap := ⟨by omega, by omega⟩
    have ha1 : (0 : Int) ≤ a ∧ (a : Int) ≤ b := ⟨by omega, by omega⟩
    have hbc : b ≤ cap := by omega
    refine ⟨.slice (if cap = a then some ⟨g, off, none⟩ else (some (⟨g, off, none⟩ : Addr)).map (·.add (a * 1))) (b - a) (cap - a), fun w' => ?_, fun w2 hw2 => ?_⟩
    · rcases ha with ⟨rfl, rfl⟩ | rfl <;> rcases hb with ⟨rfl, rfl⟩ | rfl <;> simp [Instr.sliceAt, Instr.slice, run_underlying ht, run_size hi, Instr.sliceBounds, Instr.sliceBound, asIntOf, hab, hbc]
    · refine ⟨by simp; omega, .inr ?_⟩
      by_cases hca : cap = a
      · rw [if_pos hca]
        exact ⟨g, off, cap - a, rfl, by omega, by omega, fun j u hj => by
          have := (List.getElem?_eq_some_iff.1 hj).1
          simp at this
          omega⟩
      · rw [if_neg hca]
        rcases hw2.2 with ⟨he, _⟩ | ⟨g', off', cap', he, _, _, h3⟩
        · cases he
        · cases he
          refine ⟨g, off + a, cap - a, by simp [add_mk], by omega, by omega, fun j u hj => ?_⟩
          rw [List.getElem?_take] at hj
          split at hj
          · rw [List.getElem?_drop] at hj
            have := h3 _ _ hj
            rw [Nat.add_assoc]; exact this
          · cases hj
theorem r_eqStr {s : TypeId} {x y : Operand} {a b : ByteArray} :
    (do eqGuard .eql s x y (.string a) (.string b); binOp .eql s (.string a) (.string b)).run P w = .ok (.bool (a.toList == b.toList)) w := by
  simp [eqGuard, binOp, Op.stringOp]
theorem r_str {src e dst : TypeId} (hs : P.underlying src = some (.slice e)) (he : P.underlying e = some (.int .u8)) (hd : P.underlying dst = some .string) {v : Value} {l : List Int} (h : BytesAre w v l) : (convert src dst v).run P w = .ok (.string (strOfNums l)) w := by
  rcases h.2 with ⟨rfl, h0⟩ | ⟨b, off, cap, rfl, h1, h2, h3⟩
  · obtain rfl : l = [] := List.eq_nil_of_length_eq_zero h0
    rw [run_convert_bytes_string w src dst e _ 0 0 hs he hd]
    simp [Conv.bytesToString]
    rfl
  · refine run_convert_bytes_arg (P := P) w src e hs he b off l.length cap l rfl (fun i hi => ?_) dst hd
    refine h3 i _ ?_
    simp [List.getD, hi]
end
end Go.Vc
namespace Go.Proofs.YthblbcjgdbaonaaGreatDoor
open Go.Vc
inductive GNode where
  | const (dst n : Int)
  | move (dst src : Int)
  | bin (op dst a b : Int)
  | un (op dst a : Int)
  | choose (dst c a b : Int)
  | tick
  | goto (to : Int)
  | branch (cond to : Int)
  | getField (dst f : Int)
  | putField (f src : Int)
  | serve (op a b dst : Int) (args : List Int)
  | call (m dst : Int) (args : List Int)
  | callX (i dst : Int) (args : List Int)
  | ret (src : Int)
def GNode.val (sv : Value) : GNode → Value
  | .const d n => .iface 302 (.agg #[i64 d, i32 n])
  | .move d s => .iface 346 (.agg #[i64 d, i64 s])
  | .bin op d a b => .iface 368 (.agg #[i64 op, i64 d, i64 a, i64 b])
  | .un op d a => .iface 348 (.agg #[i64 op, i64 d, i64 a])
  | .choose d c a b => .iface 350 (.agg #[i64 d, i64 c, i64 a, i64 b])
  | .tick => .iface 304 (.agg #[])
  | .goto t => .iface 352 (.agg #[i64 t])
  | .branch c t => .iface 354 (.agg #[i64 c, i64 t])
  | .getField d f => .iface 356 (.agg #[i64 d, i64 f])
  | .putField f s => .iface 358 (.agg #[i64 f, i64 s])
  | .serve op a b d _ => .iface 401 (.agg #[i64 op, i64 a, i64 b, i64 d, sv])
  | .call m d _ => .iface 361 (.agg #[i64 m, i64 d, sv])
  | .callX i d _ => .iface 363 (.agg #[i64 i, i64 d, sv])
  | .ret s => .iface 365 (.agg #[i64 s])
def GNode.args : GNode → List Int
  | .serve _ _ _ _ l | .call _ _ l | .callX _ _ l => l
  | _ => []
def GNode.df : GNode → Int
  | .const d _ | .move d _ | .bin _ d _ _ | .un _ d _ | .choose d _ _ _ | .getField d _ | .serve _ _ _ d _ | .call _ d _ | .callX _ d _ => d
  | _ => -1
def GNode.us : GNode → List Int
  | .move _ s => [s]
  | .bin _ _ a b => [a, b]
  | .un _ _ a => [a]
  | .choose _ c a b => [c, a, b]
  | .branch c _ => [c]
  | .putField _ s => [s]
  | .serve _ _ _ _ l | .call _ _ l | .callX _ _ l => l
  | .ret s => if s = -1 then [] else [s]
  | _ => []
def GNode.nx (n : GNode) (k : Int) : List Int :=
  match n with
  | .goto t => [t]
  | .branch _ t => if t = k + 1 then [k + 1] else [k + 1, t]
  | .ret _ => []
  | _ => [k + 1]
def IntsAre (w : World) (v : Value) (l : List Int) : Prop := SliceIs w v 1 l.length (l.map i64)
def BoolsAre (w : World) (v : Value) (l : List Bool) : Prop := SliceIs w v 1 l.length (l.map .bool)
def NodeIs (w : World) (v : Value) (n : GNode) : Prop := ∃ sv, v = n.val sv ∧ IntsAre w sv n.args
structure GProg where
  params : Int
  regs : Int
  nodes : List GNode
def NodesAre (w : World) (v : Value) (l : List GNode) : Prop := ∃ vs, SliceIs w v 1 l.length vs ∧ ∀ (i : Nat) n, l[i]? = some n → ∃ u, vs[i]? = some u ∧ NodeIs w u n
def ProgIs (w : World) (v : Value) (p : GProg) : Prop := ∃ ns, v = .agg #[i64 p.params, i64 p.regs, ns] ∧ NodesAre w ns p.nodes ∧ ∀ n ∈ p.nodes, n.args.length ≤ 4294967296
theorem IntsAre.ext {w w' : World} {v : Value} {l : List Int} (h : IntsAre w v l) (hx : Ext w w') : IntsAre w' v l := SliceIs.ext h hx
theorem getI {l : List Int} {j : Nat} {u : Int} (h : l[j]? = some u) : (l.map i64)[(j : Int).toNat]? = some (i64 u) := by simp [h]
theorem ex_get {α : Type} {l : List α} {j : Nat} (h : j < l.length) : ∃ u, l[j]? = some u := ⟨_, List.getElem?_eq_getElem h⟩
theorem i64_succ (j : Nat) : Value.int .i64 ((j : Int) + 1) = i64 ((j + 1 : Nat) : Int) := by simp
theorem intOf_i64 (n : Int) : RowKit.intOf (i64 n) = n := rfl
end Go.Proofs.YthblbcjgdbaonaaGreatDoor
namespace Go.Tc
structure Ins where
  op : Int
  a : Int
  b : Int
structure Mth where
  params : List Int
  result : Int
  locals : List Int
  code : List Ins
structure Imp where
  name : ByteArray
  exp : Int
  params : List Int
  result : Int
structure Img where
  name : ByteArray
  fields : List Int
  imports : List Imp
  methods : List Mth
  exports : List Int
def Mth.none : Mth := ⟨[], 0, [], []⟩
def Imp.none : Imp := ⟨ByteArray.empty, 0, [], 0⟩
def Ins.none : Ins := ⟨0, 0, 0⟩
def Mth.locs (m : Mth) : List Int := m.params ++ m.locals
def Img.meth (i : Img) (k : Int) : Mth := i.methods.getD k.toNat Mth.none
def Img.imp (i : Img) (k : Int) : Imp := i.imports.getD k.toNat Imp.none
def Mth.ins (m : Mth) (pc : Nat) : Ins := m.code.getD pc Ins.none
def isInt (k : Int) : Bool := k == 1 || k == 2
def isArr (k : Int) : Bool := k == 3 || k == 4
def both (a b : Int) : Int := if a = 2 ∨ b = 2 then 2 else 1
def ofK (a : Int) : Int := if a = 3 then 1 else if a = 4 then 2 else 0
def joinK (a b : Int) : Option Int := if isInt a && isInt b then some (both a b) else if isArr a && a == b then some a else none
def joinL : List Int → List Int → Option (List Int)
  | [], [] => some []
  | a :: l, b :: m => (joinK a b).bind fun k => (joinL l m).map (k :: ·)
  | _, _ => none
def Kd (k : Int) : Prop := 1 ≤ k ∧ k ≤ 4
instance (k : Int) : Decidable (Kd k) := by unfold Kd; exact inferInstance
def Kds (l : List Int) : Prop := ∀ k ∈ l, Kd k
def lim (op : Int) : Int × Int :=
  if op = 1 then (-2147483648, 2147483647) else if op = 2 ∨ op = 3 then (0, 9) else if op = 23 ∨ op = 24 then (0, 119)
  else if op = 25 ∨ op = 27 then (3, 4) else if op = 33 ∨ op = 34 then (0, 7) else if op = 35 ∨ op = 36 then (1, 2)
  else if op = 37 then (0, 7) else if op = 38 then (0, 3) else (0, 0)
def Ins.right (x : Ins) : Prop := (1 ≤ x.op ∧ x.op ≤ 39) ∧ (lim x.op).1 ≤ x.a ∧ x.a ≤ (lim x.op).2 ∧ (if x.op = 27 then (0 ≤ x.b ∧ x.b ≤ 2) ∨ (4 ≤ x.b ∧ x.b ≤ 6) else x.b = 0)
def kindsR (l : List Int) (most : Int) : Prop := Kds l ∧ (l.length : Int) ≤ most
def Imp.right (x : Imp) : Prop := (0 ≤ x.exp ∧ x.exp < 4) ∧ kindsR x.params 4 ∧ (0 ≤ x.result ∧ x.result ≤ 4)
def Mth.right (m : Mth) : Prop := kindsR m.params 4 ∧ (0 ≤ m.result ∧ m.result ≤ 4) ∧ kindsR m.locals (10 - m.params.length) ∧ (1 ≤ m.code.length ∧ m.code.length ≤ 120) ∧ ∀ x ∈ m.code, x.right
def Img.right (i : Img) : Prop := kindsR i.fields 8 ∧ (i.imports.length ≤ 4 ∧ ∀ x ∈ i.imports, x.right) ∧ ((1 ≤ i.methods.length ∧ i.methods.length ≤ 8) ∧ (∀ m ∈ i.methods, m.right) ∧ (i.meth 0).params = [] ∧ (i.meth 0).result = 0) ∧
  i.exports.length ≤ 4 ∧ ∀ n ∈ i.exports, 0 ≤ n ∧ n < (i.methods.length : Int)
def namesS (i : Img) (m : Mth) (x : Ins) : Prop :=
  if x.op = 2 ∨ x.op = 3 then x.a < (m.locs.length : Int) else if x.op = 33 ∨ x.op = 34 then x.a < (i.fields.length : Int)
  else if x.op = 37 then x.a < (i.methods.length : Int) else if x.op = 38 then x.a < (i.imports.length : Int)
  else if x.op = 23 ∨ x.op = 24 then x.a < (m.code.length : Int) else True
def isBin (op : Int) : Prop := (6 ≤ op ∧ op ≤ 14) ∨ (19 ≤ op ∧ op ≤ 21)
instance (op : Int) : Decidable (isBin op) := by unfold isBin; exact inferInstance
def resL (r : Int) : List Int := if r = 0 then [] else [r]
def asked (i : Img) (m : Mth) (x : Ins) : List Int :=
  if x.op = 3 then [m.locs.getD x.a.toNat 0]
  else if x.op = 34 then [i.fields.getD x.a.toNat 0]
  else if x.op = 4 ∨ x.op = 5 then [-1]
  else if x.op = 15 ∨ x.op = 16 then [-2]
  else if isBin x.op then [-2, -2]
  else if x.op = 17 ∨ x.op = 18 then [-3, -3]
  else if x.op = 22 then [-2, -1, -1]
  else if x.op = 24 ∨ x.op = 27 then [-3]
  else if x.op = 26 ∨ x.op = 28 then [-4]
  else if x.op = 29 then [-4, -3]
  else if x.op = 30 then [-4, -3, -2]
  else if x.op = 31 ∨ x.op = 32 then [-4, -3, -4, -3, -3]
  else if x.op = 36 then [-4, -3, -3]
  else if x.op = 37 then (i.meth x.a).params
  else if x.op = 38 then (i.imp x.a).params
  else if x.op = 39 then resL m.result
  else []
def doesK (k a : Int) : Bool := if a = -1 then true else if a = -2 ∨ a = -3 then isInt k else if a = -4 then isArr k else isInt k && isInt a || k == a
def showsK (k a : Int) : Bool := (a == -3 || a == 1) && k == 2
def doesL : List Int → List Int → Bool
  | a :: t, k :: l => doesK k a && doesL t l
  | _, _ => true
def showsL : List Int → List Int → Bool
  | a :: t, k :: l => showsK k a || showsL t l
  | _, _ => false
def nth (l : List Int) (n : Nat) : Int := l.getD n 0
def kindsB (x : Ins) (t l : List Int) : Bool :=
  doesL t l && (if x.op = 22 then isInt (nth l 1) && isInt (nth l 2) || isArr (nth l 1) && nth l 1 == nth l 2 else true)
def leaksB (x : Ins) (t l : List Int) : Bool :=
  if x.op = 22 then isArr (nth l 1) && nth l 0 == 2
  else if x.op = 30 then showsL t l || (nth l 0 == 3 && nth l 2 == 2)
  else if x.op = 31 then showsL t l || (nth l 0 == 3 && nth l 2 == 4)
  else if x.op = 36 then showsL t l || (x.a == 1 && nth l 0 == 4)
  else showsL t l
def pickS (l : List Int) : Int := if isArr (nth l 1) then nth l 1 else both (nth l 0) (both (nth l 1) (nth l 2))
def givesS (i : Img) (m : Mth) (x : Ins) (l : List Int) : List Int :=
  if x.op = 1 ∨ x.op = 17 ∨ x.op = 18 ∨ x.op = 26 ∨ x.op = 28 then [1]
  else if x.op = 2 then [m.locs.getD x.a.toNat 0]
  else if x.op = 33 then [i.fields.getD x.a.toNat 0]
  else if x.op = 5 then [nth l 0, nth l 0]
  else if isBin x.op then [both (nth l 0) (nth l 1)]
  else if x.op = 15 ∨ x.op = 16 then [nth l 0]
  else if x.op = 22 then [pickS l]
  else if x.op = 25 ∨ x.op = 27 then [x.a]
  else if x.op = 29 then [ofK (nth l 0)]
  else if x.op = 32 then (if nth l 0 = 4 ∨ nth l 2 = 4 then [2] else [1])
  else if x.op = 35 then [3 + x.a - 1]
  else if x.op = 37 then resL (i.meth x.a).result
  else if x.op = 38 then resL (i.imp x.a).result
  else []
def hgt (i : Img) (m : Mth) (x : Ins) : Nat := (givesS i m x (List.replicate 8 0)).length
theorem hgt_eq (i : Img) (m : Mth) (x : Ins) (l : List Int) : (givesS i m x l).length = hgt i m x := by
  unfold hgt givesS
  simp only [apply_ite List.length, List.length_cons, List.length_nil, ite_self]
def doS (i : Img) (m : Mth) (x : Ins) (s : List Int) : Option (List Int) :=
  let t := asked i m x
  if s.length < t.length ∨ 8 < s.length - t.length + hgt i m x then none
  else
    let l := s.drop (s.length - t.length)
    if kindsB x t l = true ∧ leaksB x t l = false then some (s.take (s.length - t.length) ++ givesS i m x l) else none
def nextS (x : Ins) (pc : Nat) : List Int :=
  if x.op = 23 then [x.a] else if x.op = 24 then [(pc : Int) + 1, x.a] else if x.op = 39 then [] else [(pc : Int) + 1]
structure St where
  st : List (List Int)
  has : List Bool
  todo : List Bool
def St.ini (n : Nat) : St := ⟨List.replicate n [], List.replicate n false, List.replicate n false⟩
def St.h (s : St) (k : Nat) : Bool := s.has.getD k false
def St.t (s : St) (k : Nat) : Bool := s.todo.getD k false
def St.s (s : St) (k : Nat) : List Int := s.st.getD k []
def goesS (n : Nat) (s : St) (to : Int) (stack : List Int) : Option St :=
  if (n : Int) ≤ to then none
  else if s.h to.toNat then
    (joinL (s.s to.toNat) stack).bind fun j => if j = s.s to.toNat then some s else some { s with st := s.st.set to.toNat j, todo := s.todo.set to.toNat true }
  else some ⟨s.st.set to.toNat stack, s.has.set to.toNat true, s.todo.set to.toNat true⟩
def goesL (n : Nat) (stack : List Int) : List Int → St → Option St
  | [], s => some s
  | to :: l, s => (goesS n s to stack).bind (goesL n stack l)
def stepS (i : Img) (m : Mth) (s : St) (pc : Nat) : Option St :=
  (doS i m (m.ins pc) (s.s pc)).bind fun stack => goesL m.code.length stack (nextS (m.ins pc) pc) { s with todo := s.todo.set pc false }
def firstT : List Bool → Option Nat
  | [] => none
  | true :: _ => some 0
  | false :: l => (firstT l).map (· + 1)
inductive Runs (i : Img) (m : Mth) : St → Option St → Prop
  | done {s : St} : firstT s.todo = none → Runs i m s (some s)
  | fail {s : St} {pc : Nat} : firstT s.todo = some pc → stepS i m s pc = none → Runs i m s none
  | go {s s' : St} {pc : Nat} {r : Option St} : firstT s.todo = some pc → stepS i m s pc = some s' → Runs i m s' r → Runs i m s r
theorem Runs.det {i : Img} {m : Mth} {s : St} {r r' : Option St} (h : Runs i m s r) (h' : Runs i m s r') : r = r' := by
  induction h generalizing r' with
  | done h1 => cases h' with
    | done _ => rfl
    | fail h2 _ => rw [h1] at h2; cases h2
    | go h2 _ _ => rw [h1] at h2; cases h2
  | fail h1 h2 => cases h' with
    | done h3 => rw [h1] at h3; cases h3
    | fail _ _ => rfl
    | go h3 h4 _ => rw [h1] at h3; cases h3; rw [h2] at h4; cases h4
  | go h1 h2 _ ih => cases h' with
    | done h3 => rw [h1] at h3; cases h3
    | fail h3 h4 => rw [h1] at h3; cases h3; rw [h2] at h4; cases h4
    | go h3 h4 h5 => rw [h1] at h3; cases h3; rw [h2] at h4; cases h4; exact ih h5
def St.first (n : Nat) : St := ⟨(List.replicate n []).set 0 [], (List.replicate n false).set 0 true, (List.replicate n false).set 0 true⟩
def Walk (i : Img) (m : Mth) (r : Option St) : Prop := ((∃ x ∈ m.code, ¬ namesS i m x) ∧ r = none) ∨ ((∀ x ∈ m.code, namesS i m x) ∧ Runs i m (St.first m.code.length) r)
theorem Walk.det {i : Img} {m : Mth} {r r' : Option St} (h : Walk i m r) (h' : Walk i m r') : r = r' := by
  rcases h with ⟨⟨x, h1, h2⟩, rfl⟩ | ⟨h1, h2⟩
  · rcases h' with ⟨_, rfl⟩ | ⟨h3, _⟩
    · rfl
    · exact absurd (h3 x h1) h2
  · rcases h' with ⟨⟨x, h3, h4⟩, rfl⟩ | ⟨_, h4⟩
    · exact absurd (h1 x h3) h4
    · exact h2.det h4
def Taken (i : Img) : Prop := i.right ∧ ∀ m ∈ i.methods, ∃ s, Walk i m (some s)
end Go.Tc
namespace Go.Tc
theorem getD_set {α : Type} (l : List α) (k j : Nat) (v d : α) : (l.set k v).getD j d = if j = k ∧ k < l.length then v else l.getD j d := by
  simp only [List.getD_eq_getElem?_getD, List.getElem?_set]
  by_cases h : k = j
  · subst h
    by_cases hk : k < l.length
    · simp [hk]
    · simp [hk]
  · have : ¬ j = k := fun e => h e.symm
    simp [h, this]
theorem getD_lt {l : List Bool} {k : Nat} (h : l.getD k false = true) : k < l.length := by
  by_cases hk : k < l.length
  · exact hk
  · rw [List.getD_eq_getElem?_getD, List.getElem?_eq_none (by omega)] at h; cases h
theorem firstT_some : ∀ {l : List Bool} {k : Nat}, firstT l = some k → l.getD k false = true ∧ ∀ j, j < k → l.getD j false = false
  | [], _, h => by cases h
  | true :: _, k, h => by cases h; exact ⟨rfl, fun j hj => absurd hj (Nat.not_lt_zero _)⟩
  | false :: l, k, h => by
    simp only [firstT, Option.map_eq_some_iff] at h
    obtain ⟨q, hq, rfl⟩ := h
    obtain ⟨h1, h2⟩ := firstT_some hq
    refine ⟨h1, fun j hj => ?_⟩
    cases j with
    | zero => rfl
    | succ j => exact h2 j (by omega)
theorem firstT_of : ∀ {l : List Bool} {k : Nat}, l.getD k false = true → (∀ j, j < k → l.getD j false = false) → firstT l = some k
  | [], k, h, _ => by cases h
  | true :: l, k, h, h2 => by
    cases k with
    | zero => rfl
    | succ k => have := h2 0 (by omega); cases this
  | false :: l, k, h, h2 => by
    cases k with
    | zero => cases h
    | succ k =>
      have := firstT_of (l := l) (k := k) h fun j hj => h2 (j + 1) (by omega)
      simp [firstT, this]
theorem firstT_not : ∀ {l : List Bool}, (∀ j, j < l.length → l.getD j false = false) → firstT l = none
  | [], _ => rfl
  | true :: l, h => by have := h 0 (by simp); cases this
  | false :: l, h => by
    have := firstT_not (l := l) fun j hj => h (j + 1) (by simpa using hj)
    simp [firstT, this]
theorem joinK_kd {a b k : Int} (ha : Kd a) (hb : Kd b) (h : joinK a b = some k) : Kd k ∧ (k = a ∨ (a = 1 ∧ k = 2)) := by
  obtain ⟨a1, a2⟩ := ha
  obtain ⟨b1, b2⟩ := hb
  have ea : a = 1 ∨ a = 2 ∨ a = 3 ∨ a = 4 := by omega
  have eb : b = 1 ∨ b = 2 ∨ b = 3 ∨ b = 4 := by omega
  unfold Kd
  rcases ea with rfl | rfl | rfl | rfl <;> rcases eb with rfl | rfl | rfl | rfl <;> simp [joinK, isInt, isArr, both] at h <;> subst h <;> simp
def pubs (l : List Int) : Nat := l.countP (· == 1)
theorem pubs_le (l : List Int) : pubs l ≤ l.length := List.countP_le_length
theorem joinL_ok : ∀ {a b j : List Int}, Kds a → Kds b → joinL a b = some j → Kds j ∧ j.length = a.length ∧ (j = a ∨ pubs j < pubs a) ∧ pubs j ≤ pubs a
  | [], [], j, _, _, h => by cases h; exact ⟨fun _ h => (List.not_mem_nil h).elim, rfl, .inl rfl, Nat.le_refl _⟩
  | [], _ :: _, _, _, _, h => by cases h
  | _ :: _, [], _, _, _, h => by cases h
  | x :: a, y :: b, j, ha, hb, h => by
    simp only [joinL, Option.bind_eq_some_iff, Option.map_eq_some_iff] at h
    obtain ⟨k, hk, l, hl, rfl⟩ := h
    obtain ⟨h1, h2⟩ := joinK_kd (ha x (by simp)) (hb y (by simp)) hk
    obtain ⟨h3, h4, h5, h6⟩ := joinL_ok (fun q hq => ha q (by simp [hq])) (fun q hq => hb q (by simp [hq])) hl
    refine ⟨fun q hq => ?_, by simp [h4], ?_, ?_⟩
    · rcases List.mem_cons.1 hq with rfl | hq
      · exact h1
      · exact h3 q hq
    · rcases h2 with rfl | ⟨rfl, rfl⟩
      · rcases h5 with rfl | h5
        · exact .inl rfl
        · right; simp only [pubs, List.countP_cons] at h5 ⊢; omega
      · right; simp only [pubs, List.countP_cons] at h6 ⊢; simp; omega
    · rcases h2 with rfl | ⟨rfl, rfl⟩
      · simp only [pubs, List.countP_cons] at h6 ⊢; omega
      · simp only [pubs, List.countP_cons] at h6 ⊢; simp; omega
theorem joinL_len : ∀ {a b j : List Int}, joinL a b = some j → j.length = a.length ∧ j.length = b.length
  | [], [], j, h => by cases h; exact ⟨rfl, rfl⟩
  | [], _ :: _, _, h => by cases h
  | _ :: _, [], _, h => by cases h
  | x :: a, y :: b, j, h => by
    simp only [joinL, Option.bind_eq_some_iff, Option.map_eq_some_iff] at h
    obtain ⟨k, hk, l, hl, rfl⟩ := h
    obtain ⟨h1, h2⟩ := joinL_len hl
    simp only [List.length_cons]; omega
theorem kd_getD {l : List Int} (h : Kds l) {k : Nat} (hk : k < l.length) : Kd (l.getD k 0) := by
  rw [List.getD_eq_getElem?_getD, List.getElem?_eq_getElem hk]; exact h _ (List.getElem_mem hk)
theorem mth_kds {m : Mth} (h : m.right) : Kds m.locs := fun k hk => by
  rcases List.mem_append.1 hk with h1 | h1
  · exact h.1.1 k h1
  · exact h.2.2.1.1 k h1
theorem Img.meth_mem {i : Img} {k : Int} (h0 : 0 ≤ k) (hk : k < i.methods.length) : i.meth k ∈ i.methods := by
  unfold Img.meth
  rw [List.getD_eq_getElem?_getD, List.getElem?_eq_getElem (by omega)]; exact List.getElem_mem _
theorem Img.imp_mem {i : Img} {k : Int} (h0 : 0 ≤ k) (hk : k < i.imports.length) : i.imp k ∈ i.imports := by
  unfold Img.imp
  rw [List.getD_eq_getElem?_getD, List.getElem?_eq_getElem (by omega)]; exact List.getElem_mem _
theorem resL_kds {r : Int} (h : 0 ≤ r ∧ r ≤ 4) : Kds (resL r) := fun k hk => by
  unfold resL at hk
  split at hk
  · exact (List.not_mem_nil hk).elim
  · rw [List.mem_singleton] at hk; subst hk; unfold Kd; omega
theorem resL_len (r : Int) : (resL r).length ≤ 1 := by unfold resL; split <;> simp
structure Okx (i : Img) (m : Mth) (x : Ins) : Prop where
  ir : i.right
  mr : m.right
  xr : x.right
  nm : namesS i m x
theorem both_kd {a b : Int} : Kd (both a b) := by unfold both Kd; split <;> omega
theorem mem_doesL : ∀ {t l : List Int} {n : Nat}, n < t.length → n < l.length → doesL t l = true → doesK (nth l n) (nth t n) = true
  | [], _, _, h, _, _ => by simp at h
  | _ :: _, [], _, _, h, _ => by simp at h
  | a :: t, k :: l, 0, _, _, h => by simp only [doesL, Bool.and_eq_true] at h; exact h.1
  | a :: t, k :: l, n + 1, h1, h2, h => by
    simp only [doesL, Bool.and_eq_true] at h
    exact mem_doesL (n := n) (by simpa using h1) (by simpa using h2) h.2
theorem nth_kd {l : List Int} (h : Kds l) {n : Nat} (hn : n < l.length) : Kd (nth l n) := kd_getD h hn
theorem isArr_iff {k : Int} : isArr k = true ↔ k = 3 ∨ k = 4 := by simp [isArr]
theorem gives_kds {i : Img} {m : Mth} {x : Ins} {l : List Int} (h : Okx i m x) (hl : Kds l) (hn : l.length = (asked i m x).length) (hk : kindsB x (asked i m x) l = true) : Kds (givesS i m x l) := by
  obtain ⟨hi, hm, hx, hs⟩ := h
  obtain ⟨op, a, b⟩ := x
  obtain ⟨⟨o1, o2⟩, a1, a2, _⟩ := hx
  dsimp only at o1 o2 a1 a2
  have hop : op = 1 ∨ op = 2 ∨ op = 3 ∨ op = 4 ∨ op = 5 ∨ isBin op ∨ op = 15 ∨ op = 16 ∨ op = 17 ∨ op = 18 ∨ op = 22 ∨ op = 23 ∨ op = 24 ∨ op = 25 ∨ op = 26 ∨ op = 27 ∨ op = 28 ∨ op = 29 ∨ op = 30 ∨ op = 31 ∨ op = 32 ∨ op = 33 ∨ op = 34 ∨ op = 35 ∨ op = 36 ∨ op = 37 ∨ op = 38 ∨ op = 39 := by
    unfold isBin; omega
  have one : ∀ {k : Int}, Kd k → Kds [k] := fun hk q hq => by rw [List.mem_singleton] at hq; subst hq; exact hk
  have nil : Kds [] := fun _ h => (List.not_mem_nil h).elim
  have mi : Kds m.locs := mth_kds hm
  rcases hop with rfl | rfl | rfl | rfl | rfl | hb | rfl | rfl | rfl | rfl | rfl | rfl | rfl | rfl | rfl | rfl | rfl | rfl | rfl | rfl | rfl | rfl | rfl | rfl | rfl | rfl | rfl | rfl
  case _ => exact one (by unfold Kd; omega)
  case _ =>
    have hs : a < (m.locs.length : Int) := hs
    have a1 : 0 ≤ a := a1
    exact one (kd_getD mi (by dsimp only; omega))
  case _ => exact nil
  case _ => exact nil
  case _ =>
    have hn : l.length = 1 := hn
    have h0 : Kd (nth l 0) := nth_kd hl (by omega)
    intro q hq
    simp [givesS] at hq
    subst hq; exact h0
  case _ =>
    have e : givesS i m ⟨op, a, b⟩ l = [both (nth l 0) (nth l 1)] := by
      unfold isBin at hb
      simp only [givesS]
      rw [if_neg (by omega), if_neg (by omega), if_neg (by omega), if_neg (by omega), if_pos (by unfold isBin; omega)]
    rw [e]; exact one both_kd
  case _ => have hn : l.length = 1 := hn; exact one (nth_kd hl (by omega))
  case _ => have hn : l.length = 1 := hn; exact one (nth_kd hl (by omega))
  case _ => exact one (by unfold Kd; omega)
  case _ => exact one (by unfold Kd; omega)
  case _ =>
    have e : givesS i m ⟨22, a, b⟩ l = [pickS l] := rfl
    have hn : l.length = 3 := hn
    rw [e]
    refine one ?_
    unfold pickS
    split
    · exact nth_kd hl (by omega)
    · exact both_kd
  case _ => exact nil
  case _ => exact nil
  case _ => have a1 : 3 ≤ a := a1; have a2 : a ≤ 4 := a2; exact one (by unfold Kd; dsimp only; omega)
  case _ => exact one (by unfold Kd; omega)
  case _ => have a1 : 3 ≤ a := a1; have a2 : a ≤ 4 := a2; exact one (by unfold Kd; dsimp only; omega)
  case _ => exact one (by unfold Kd; omega)
  case _ =>
    have e : givesS i m ⟨29, a, b⟩ l = [ofK (nth l 0)] := rfl
    rw [e]
    simp only [kindsB, Bool.and_eq_true] at hk
    have hn : l.length = 2 := hn
    have := mem_doesL (t := [-4, -3]) (l := l) (n := 0) (show 0 < 2 by decide) (by omega) hk.1
    have h2 : isArr (nth l 0) = true := this
    rw [isArr_iff] at h2
    refine one ?_
    rcases h2 with h2 | h2 <;> rw [h2] <;> (unfold Kd ofK; simp)
  case _ => exact nil
  case _ => exact nil
  case _ =>
    have e : givesS i m ⟨32, a, b⟩ l = if nth l 0 = 4 ∨ nth l 2 = 4 then [2] else [1] := rfl
    rw [e]
    split <;> exact one (by unfold Kd; omega)
  case _ =>
    have hs : a < (i.fields.length : Int) := hs
    have a1 : 0 ≤ a := a1
    exact one (kd_getD hi.1.1 (by dsimp only; omega))
  case _ => exact nil
  case _ => have a1 : 1 ≤ a := a1; have a2 : a ≤ 2 := a2; exact one (by unfold Kd; dsimp only; omega)
  case _ => exact nil
  case _ =>
    exact resL_kds (hi.2.2.1.2.1 _ (Img.meth_mem a1 hs)).2.1
  case _ =>
    exact resL_kds (hi.2.1.2 _ (Img.imp_mem a1 hs)).2.2
  case _ => exact nil
theorem doS_ok {i : Img} {m : Mth} {x : Ins} {s out : List Int} (h : Okx i m x) (hs : Kds s) (ho : doS i m x s = some out) : Kds out ∧ out.length ≤ 8 ∧ (asked i m x).length ≤ s.length ∧ out.length = s.length - (asked i m x).length + hgt i m x := by
  simp only [doS] at ho
  split at ho
  · cases ho
  rename_i hn
  split at ho
  · rename_i hk
    cases ho
    have hsub : Kds (s.drop (s.length - (asked i m x).length)) := fun k hk => hs k (List.mem_of_mem_drop hk)
    have hlen : (s.drop (s.length - (asked i m x).length)).length = (asked i m x).length := by rw [List.length_drop]; omega
    refine ⟨fun k hk' => ?_, ?_, by omega, ?_⟩
    · rcases List.mem_append.1 hk' with h1 | h1
      · exact hs k (List.mem_of_mem_take h1)
      · exact gives_kds h hsub hlen hk.1 k h1
    · rw [List.length_append, List.length_take, hgt_eq]; omega
    · rw [List.length_append, List.length_take, hgt_eq]; omega
  · cases ho
structure WF (m : Mth) (s : St) : Prop where
  l1 : s.st.length = m.code.length
  l2 : s.has.length = m.code.length
  l3 : s.todo.length = m.code.length
  kd : ∀ k, s.h k = true → Kds (s.s k) ∧ (s.s k).length ≤ 8
  no : ∀ k, s.h k = false → s.s k = [] ∧ s.t k = false
def wt (s : St) (k : Nat) : Nat := (if s.t k then 1 else 0) + (if s.h k then 2 * pubs (s.s k) else 20)
def msr (n : Nat) (s : St) : Nat := ((List.range n).map (wt s)).sum
theorem sum_le {l : List Nat} {f g : Nat → Nat} (h : ∀ k ∈ l, f k ≤ g k) : (l.map f).sum ≤ (l.map g).sum := by
  induction l with
  | nil => exact Nat.le_refl _
  | cons a l ih =>
    simp only [List.map_cons, List.sum_cons]
    have := ih fun k hk => h k (List.mem_cons_of_mem _ hk)
    have := h a List.mem_cons_self
    omega
theorem sum_lt {l : List Nat} {f g : Nat → Nat} (h : ∀ k ∈ l, f k ≤ g k) {a : Nat} (ha : a ∈ l) (hl : f a < g a) : (l.map f).sum < (l.map g).sum := by
  induction l with
  | nil => exact (List.not_mem_nil ha).elim
  | cons b l ih =>
    simp only [List.map_cons, List.sum_cons]
    have h1 := h b List.mem_cons_self
    have h2 := sum_le fun k hk => h k (List.mem_cons_of_mem _ hk)
    rcases List.mem_cons.1 ha with rfl | ha
    · omega
    · have := ih (fun k hk => h k (List.mem_cons_of_mem _ hk)) ha
      omega
structure Fur (m : Mth) (s s' : St) : Prop where
  has : ∀ k, s.h k = true → s'.h k = true
  len : ∀ k, s.h k = true → (s'.s k).length = (s.s k).length
  same : ∀ k, s'.t k = false → s.h k = true → s'.s k = s.s k
  new : ∀ k, s'.t k = false → s'.h k = true → s.h k = true
  wt : ∀ k, k < m.code.length → wt s' k ≤ wt s k
  todo : ∀ k, s.t k = true → s'.t k = true
theorem Fur.refl (m : Mth) (s : St) : Fur m s s := ⟨fun _ h => h, fun _ _ => rfl, fun _ _ _ => rfl, fun _ _ h => h, fun _ _ => Nat.le_refl _, fun _ h => h⟩
theorem Fur.trans {m : Mth} {a b c : St} (h : Fur m a b) (k : Fur m b c) : Fur m a c where
  has q hq := k.has q (h.has q hq)
  len q hq := (k.len q (h.has q hq)).trans (h.len q hq)
  same q h1 h2 := by
    have hb : b.t q = false := by cases hb : b.t q with
      | false => rfl
      | true => rw [k.todo q hb] at h1; cases h1
    exact (k.same q h1 (h.has q h2)).trans (h.same q hb h2)
  new q h1 h2 := by
    have hb : b.t q = false := by cases hb : b.t q with
      | false => rfl
      | true => rw [k.todo q hb] at h1; cases h1
    exact h.new q hb (k.new q h1 h2)
  wt q hq := Nat.le_trans (k.wt q hq) (h.wt q hq)
  todo q hq := k.todo q (h.todo q hq)
theorem goes_ok {m : Mth} {s s' : St} {to : Int} {stack : List Int} (hw : WF m s) (h0 : 0 ≤ to) (hs : Kds stack) (hl : stack.length ≤ 8) (h : goesS m.code.length s to stack = some s') :
    WF m s' ∧ Fur m s s' ∧ to < m.code.length ∧ s'.h to.toNat = true ∧ (s'.s to.toNat).length = stack.length := by
  unfold goesS at h
  split at h
  · cases h
  rename_i hto
  obtain ⟨k, rfl⟩ : ∃ k : Nat, to = k := ⟨to.toNat, by omega⟩
  simp only [Int.toNat_natCast] at h ⊢
  have hk : k < m.code.length := by omega
  obtain ⟨w1, w2, w3, w4, w5⟩ := hw
  split at h
  · rename_i hh
    obtain ⟨j, hj, h⟩ := Option.bind_eq_some_iff.1 h
    obtain ⟨c1, c2⟩ := w4 k hh
    obtain ⟨j1, j2, j3, j4⟩ := joinL_ok c1 hs hj
    have j5 := (joinL_len hj).2
    split at h
    · rename_i he
      cases h
      exact ⟨⟨w1, w2, w3, w4, w5⟩, Fur.refl _ _, by omega, hh, by rw [← he]; exact j5⟩
    · rename_i hne
      cases h
      have j3 : pubs j < pubs (s.s k) := j3.resolve_left hne
      have eS : ∀ q, St.s { s with st := s.st.set k j, todo := s.todo.set k true } q = if q = k then j else s.s q := fun q => by
        simp only [St.s, getD_set]
        by_cases hq : q = k
        · rw [if_pos ⟨hq, by omega⟩, if_pos hq]
        · rw [if_neg (fun h => hq h.1), if_neg hq]
      have eT : ∀ q, St.t { s with st := s.st.set k j, todo := s.todo.set k true } q = if q = k then true else s.t q := fun q => by
        simp only [St.t, getD_set]
        by_cases hq : q = k
        · rw [if_pos ⟨hq, by omega⟩, if_pos hq]
        · rw [if_neg (fun h => hq h.1), if_neg hq]
      have eH : ∀ q, St.h { s with st := s.st.set k j, todo := s.todo.set k true } q = s.h q := fun q => rfl
      refine ⟨⟨by simpa using w1, w2, by simpa using w3, fun q hq => ?_, fun q hq => ?_⟩, ⟨fun q hq => hq, fun q hq => ?_, fun q h1 h2 => ?_, fun q _ h2 => h2, fun q hq => ?_, fun q hq => ?_⟩, by omega, hh, ?_⟩
      · rw [eS]
        by_cases hqk : q = k
        · rw [if_pos hqk]; exact ⟨j1, by omega⟩
        · rw [if_neg hqk]; exact w4 q hq
      · have hqk : q ≠ k := fun e => by subst e; rw [eH] at hq; rw [hh] at hq; cases hq
        rw [eS, eT, if_neg hqk, if_neg hqk]
        exact w5 q hq
      · rw [eS]
        by_cases hqk : q = k
        · rw [if_pos hqk, hqk]; exact j2
        · rw [if_neg hqk]
      · rw [eT] at h1
        by_cases hqk : q = k
        · rw [if_pos hqk] at h1; cases h1
        · rw [eS, if_neg hqk]
      · unfold wt
        rw [eS, eT, eH]
        by_cases hqk : q = k
        · subst hqk
          rw [if_pos rfl, if_pos rfl]
          simp only [hh, if_true]
          split <;> omega
        · rw [if_neg hqk, if_neg hqk]; exact Nat.le_refl _
      · rw [eT]
        by_cases hqk : q = k
        · rw [if_pos hqk]
        · rw [if_neg hqk]; exact hq
      · rw [eS, if_pos rfl]; exact j5
  · rename_i hh
    have hh : s.h k = false := by simpa using hh
    cases h
    have eS : ∀ q, St.s ⟨s.st.set k stack, s.has.set k true, s.todo.set k true⟩ q = if q = k then stack else s.s q := fun q => by
      simp only [St.s, getD_set]
      by_cases hq : q = k
      · rw [if_pos ⟨hq, by omega⟩, if_pos hq]
      · rw [if_neg (fun h => hq h.1), if_neg hq]
    have eT : ∀ q, St.t ⟨s.st.set k stack, s.has.set k true, s.todo.set k true⟩ q = if q = k then true else s.t q := fun q => by
      simp only [St.t, getD_set]
      by_cases hq : q = k
      · rw [if_pos ⟨hq, by omega⟩, if_pos hq]
      · rw [if_neg (fun h => hq h.1), if_neg hq]
    have eH : ∀ q, St.h ⟨s.st.set k stack, s.has.set k true, s.todo.set k true⟩ q = if q = k then true else s.h q := fun q => by
      simp only [St.h, getD_set]
      by_cases hq : q = k
      · rw [if_pos ⟨hq, by omega⟩, if_pos hq]
      · rw [if_neg (fun h => hq h.1), if_neg hq]
    refine ⟨⟨by simpa using w1, by simpa using w2, by simpa using w3, fun q hq => ?_, fun q hq => ?_⟩, ⟨fun q hq => ?_, fun q hq => ?_, fun q h1 h2 => ?_, fun q h1 h2 => ?_, fun q hq => ?_, fun q hq => ?_⟩, by omega, ?_, ?_⟩
    · rw [eS]
      by_cases hqk : q = k
      · rw [if_pos hqk]; exact ⟨hs, hl⟩
      · rw [if_neg hqk]; rw [eH, if_neg hqk] at hq; exact w4 q hq
    · rw [eH] at hq
      by_cases hqk : q = k
      · rw [if_pos hqk] at hq; cases hq
      · rw [if_neg hqk] at hq
        rw [eS, eT, if_neg hqk, if_neg hqk]
        exact w5 q hq
    · rw [eH]; split
      · rfl
      · exact hq
    · have hqk : q ≠ k := fun e => by subst e; rw [hh] at hq; cases hq
      rw [eS, if_neg hqk]
    · have hqk : q ≠ k := fun e => by subst e; rw [hh] at h2; cases h2
      rw [eS, if_neg hqk]
    · have hqk : q ≠ k := fun e => by rw [eT, if_pos e] at h1; cases h1
      rw [eH, if_neg hqk] at h2; exact h2
    · unfold wt
      rw [eS, eT, eH]
      by_cases hqk : q = k
      · subst hqk
        rw [if_pos rfl, if_pos rfl, if_pos rfl]
        have := pubs_le stack
        simp only [hh, if_true, Bool.false_eq_true, if_false]
        omega
      · rw [if_neg hqk, if_neg hqk, if_neg hqk]; exact Nat.le_refl _
    · rw [eT]; split
      · rfl
      · exact hq
    · rw [eH, if_pos rfl]
    · rw [eS, if_pos rfl]
theorem goesL_ok {m : Mth} {stack : List Int} (hs : Kds stack) (hl : stack.length ≤ 8) : ∀ {l : List Int} {s s' : St}, WF m s → (∀ to ∈ l, 0 ≤ to) → goesL m.code.length stack l s = some s' →
    WF m s' ∧ Fur m s s' ∧ ∀ to ∈ l, to < m.code.length ∧ s'.h to.toNat = true ∧ (s'.s to.toNat).length = stack.length
  | [], s, s', hw, _, h => by cases h; exact ⟨hw, Fur.refl _ _, fun _ h => (List.not_mem_nil h).elim⟩
  | to :: l, s, s', hw, h0, h => by
    simp only [goesL, Option.bind_eq_some_iff] at h
    obtain ⟨s1, h1, h2⟩ := h
    obtain ⟨a1, a2, a3, a4, a5⟩ := goes_ok hw (h0 to (by simp)) hs hl h1
    obtain ⟨b1, b2, b3⟩ := goesL_ok hs hl a1 (fun q hq => h0 q (by simp [hq])) h2
    refine ⟨b1, a2.trans b2, fun q hq => ?_⟩
    rcases List.mem_cons.1 hq with rfl | hq
    · exact ⟨a3, b2.has _ a4, (b2.len _ a4).trans a5⟩
    · exact b3 q hq
def Led (i : Img) (m : Mth) (s : St) (k : Nat) : Prop := ∃ out, doS i m (m.ins k) (s.s k) = some out ∧ ∀ to ∈ nextS (m.ins k) k, 0 ≤ to ∧ to < m.code.length ∧ s.h to.toNat = true ∧ (s.s to.toNat).length = out.length
def Inv (i : Img) (m : Mth) (s : St) : Prop := s.h 0 = true ∧ s.s 0 = [] ∧ ∀ k, s.h k = true → s.t k = false → Led i m s k
theorem next0 {i : Img} {m : Mth} {x : Ins} (h : Okx i m x) {pc : Nat} : ∀ to ∈ nextS x pc, 0 ≤ to := by
  obtain ⟨_, _, hx, _⟩ := h
  obtain ⟨op, a, b⟩ := x
  intro to ht
  unfold nextS at ht
  dsimp only at ht
  have h1 : (lim op).1 ≤ a := hx.2.1
  split at ht
  · rename_i e; subst e; rw [List.mem_singleton] at ht; subst ht; exact h1
  split at ht
  · rename_i e; subst e
    rcases List.mem_cons.1 ht with rfl | ht
    · omega
    · rw [List.mem_singleton] at ht; subst ht; exact h1
  split at ht
  · exact (List.not_mem_nil ht).elim
  · rw [List.mem_singleton] at ht; subst ht; omega
theorem ins_mem {m : Mth} {k : Nat} (h : k < m.code.length) : m.ins k ∈ m.code := by
  unfold Mth.ins
  rw [List.getD_eq_getElem?_getD, List.getElem?_eq_getElem h]; exact List.getElem_mem h
theorem step_ok {i : Img} {m : Mth} {s s' : St} {pc : Nat} (hx : ∀ x ∈ m.code, Okx i m x) (hw : WF m s) (hi : Inv i m s) (hf : firstT s.todo = some pc) (h : stepS i m s pc = some s') :
    WF m s' ∧ Inv i m s' ∧ msr m.code.length s' < msr m.code.length s := by
  obtain ⟨f1, _⟩ := firstT_some hf
  have hpc : pc < m.code.length := by have := getD_lt f1; have := hw.l3; omega
  have hh : s.h pc = true := by
    cases e : s.h pc with
    | true => rfl
    | false => have := (hw.no pc e).2; rw [St.t, f1] at this; cases this
  simp only [stepS, Option.bind_eq_some_iff] at h
  obtain ⟨stack, hd, hg⟩ := h
  have ox := hx _ (ins_mem hpc)
  obtain ⟨d1, d2, _, _⟩ := doS_ok ox (hw.kd pc hh).1 hd
  have eT : ∀ q, St.t { s with todo := s.todo.set pc false } q = if q = pc then false else s.t q := fun q => by
    simp only [St.t, getD_set]
    by_cases hq : q = pc
    · rw [if_pos ⟨hq, by have := hw.l3; omega⟩, if_pos hq]
    · rw [if_neg (fun h => hq h.1), if_neg hq]
  have hw1 : WF m { s with todo := s.todo.set pc false } := ⟨hw.l1, hw.l2, by simpa using hw.l3, hw.kd, fun q hq => ⟨(hw.no q hq).1, by rw [eT]; split; rfl; exact (hw.no q hq).2⟩⟩
  obtain ⟨g1, g2, g3⟩ := goesL_ok d1 d2 hw1 (next0 ox) hg
  refine ⟨g1, ⟨g2.has 0 hi.1, ?_, fun k h1 h2 => ?_⟩, ?_⟩
  · have := g2.len 0 hi.1
    have e0 : St.s { s with todo := s.todo.set pc false } 0 = [] := hi.2.1
    rw [e0] at this
    exact List.eq_nil_of_length_eq_zero this
  · have h3 : s.h k = true := g2.new k h2 h1
    have h4 : s'.s k = s.s k := g2.same k h2 h3
    by_cases hk : k = pc
    · subst hk
      exact ⟨stack, by rw [h4]; exact hd, fun to ht => ⟨next0 ox to ht, g3 to ht⟩⟩
    · have h5 : s.t k = false := by
        cases e : s.t k with
        | false => rfl
        | true => have := g2.todo k (by rw [eT, if_neg hk]; exact e); rw [this] at h2; cases h2
      obtain ⟨out, o1, o2⟩ := hi.2.2 k h3 h5
      refine ⟨out, by rw [h4]; exact o1, fun to ht => ?_⟩
      obtain ⟨p1, p2, p3, p4⟩ := o2 to ht
      exact ⟨p1, p2, g2.has _ p3, (g2.len _ p3).trans p4⟩
  · refine Nat.lt_of_le_of_lt (sum_le (g := wt { s with todo := s.todo.set pc false }) fun k hk => g2.wt k (List.mem_range.1 hk)) ?_
    refine sum_lt (fun k _ => ?_) (List.mem_range.2 hpc) ?_
    · unfold wt
      rw [eT]
      by_cases hk : k = pc
      · rw [if_pos hk]; exact Nat.add_le_add (by simp) (Nat.le_refl _)
      · rw [if_neg hk]; exact Nat.le_refl _
    · unfold wt
      rw [eT, if_pos rfl]
      have e : s.t pc = true := f1
      rw [e]
      exact Nat.add_lt_add_of_lt_of_le (by simp) (Nat.le_refl _)
theorem first_ok {i : Img} {m : Mth} (h : 1 ≤ m.code.length) : WF m (St.first m.code.length) ∧ Inv i m (St.first m.code.length) := by
  have eH : ∀ q, (St.first m.code.length).h q = decide (q = 0) := fun q => by
    simp only [St.first, St.h, getD_set]
    by_cases hq : q = 0
    · rw [if_pos ⟨hq, by simp; omega⟩]; simp [hq]
    · rw [if_neg (fun h => hq h.1)]
      simp only [hq, decide_false, List.getD_eq_getElem?_getD, List.getElem?_replicate]
      split <;> rfl
  have eT : ∀ q, (St.first m.code.length).t q = decide (q = 0) := eH
  have eS : ∀ q, (St.first m.code.length).s q = [] := fun q => by
    simp only [St.first, St.s, getD_set]
    split
    · rfl
    · simp only [List.getD_eq_getElem?_getD, List.getElem?_replicate]
      split <;> rfl
  refine ⟨⟨by simp [St.first], by simp [St.first], by simp [St.first], fun k _ => ?_, fun k hk => ?_⟩, by rw [eH]; rfl, eS 0, fun k h1 h2 => ?_⟩
  · rw [eS]; exact ⟨fun _ h => (List.not_mem_nil h).elim, by simp⟩
  · refine ⟨eS k, ?_⟩
    rw [eT, ← eH k]; exact hk
  · rw [eT] at h2; rw [eH] at h1; rw [h1] at h2; cases h2
end Go.Tc
namespace Go.Vc
theorem exJ0 {w : World} {C : World → Prop} : (∃ J : NP 0, J w ∧ ∀ w' : World, J w' → ∀ _f : Env, C w') ↔ C w :=
  ⟨fun ⟨_, h, k⟩ => k w h fun _ => undef, fun h => ⟨fun w' => w' = w, rfl, fun _ e _ => e ▸ h⟩⟩
theorem exJ1 {a : Value} {w : World} {C : Value → World → Prop} : (∃ J : NP 1, J a w ∧ ∀ (t : Value) (w' : World), J t w' → ∀ _f : Env, C t w') ↔ C a w :=
  ⟨fun ⟨_, h, k⟩ => k a w h fun _ => undef, fun h => ⟨fun t w' => t = a ∧ w' = w, ⟨rfl, rfl⟩, fun _ _ e _ => e.1 ▸ e.2 ▸ h⟩⟩
theorem exJ2 {a b : Value} {w : World} {C : Value → Value → World → Prop} : (∃ J : NP 2, J a b w ∧ ∀ (t u : Value) (w' : World), J t u w' → ∀ _f : Env, C t u w') ↔ C a b w :=
  ⟨fun ⟨_, h, k⟩ => k a b w h fun _ => undef, fun h => ⟨fun t u w' => t = a ∧ u = b ∧ w' = w, ⟨rfl, rfl, rfl⟩, fun _ _ _ e _ => e.1 ▸ e.2.1 ▸ e.2.2 ▸ h⟩⟩
theorem ldxF {P : Program} {w : World} {K : Value → World → Prop} {t s f o ft sz : Nat} {v : Value} {n : Nat} {cs : List Value} {k : IntKind} {i : Int} {u : Value} (h : XA P t sz) (hf : FA P s f o) (hl : L1 P ft) (hs : SliceIs w v sz n cs) (h0 : 0 ≤ i) (h1 : i < n)
    (hu : cs[i.toNat * sz + o]? = some u) (hk : K u w) :
    V P (Instr.indexAt t v (.int k i)) w fun p w1 => V P (Instr.fieldAt s p f) w1 fun q w2 => V P (Instr.loadAt ft q) w2 K := by
  obtain ⟨e, z, b', hte, hi⟩ := h
  obtain ⟨d, hd, ha⟩ := hl
  obtain ⟨b, off, cap, rfl, hcell⟩ := hs.there (by omega)
  refine V.ok (r_index hte hi h0 h1) (V.ok (hf.ex w b _) (V.ok (r_load hd ha ?_) hk))
  have := hcell _ _ hu
  rw [← Nat.add_assoc] at this
  exact this
theorem evL : (∀ {P : Program} {w : World} {K : Value → World → Prop} {k : IntKind} {t : TypeId} {a b : Int}, V P (binOp BinOp.lss t (Value.int k a) (Value.int k b)) w K ↔ K (Value.bool (decide (a < b))) w) ∧ (∀ {P : Program} {w : World} {K : Value → World → Prop} {k : IntKind} {t : TypeId} {a b : Int}, V P (binOp BinOp.leq t (Value.int k a) (Value.int k b)) w K ↔ K (Value.bool (decide (a ≤ b))) w) ∧ (∀ {P : Program} {w : World} {K : Value → World → Prop} {k : IntKind} {t : TypeId} {a b : Int}, V P (binOp BinOp.gtr t (Value.int k a) (Value.int k b)) w K ↔ K (Value.bool (decide (a > b))) w) ∧ (∀ {P : Program} {w : World} {K : Value → World → Prop} {k : IntKind} {t : TypeId} {a b : Int}, V P (binOp BinOp.geq t (Value.int k a) (Value.int k b)) w K ↔ K (Value.bool (decide (a ≥ b))) w) ∧ (∀ {P : Program} {w : World} {K : Value → World → Prop} {k : IntKind} {t : TypeId} {x y : Operand} {a b : Int}, V P (do eqGuard BinOp.eql t x y (Value.int k a) (Value.int k b); binOp BinOp.eql t (Value.int k a) (Value.int k b)) w K ↔ K (Value.bool (decide (a = b))) w) ∧ (∀ {P : Program} {w : World} {K : Value → World → Prop} {k : IntKind} {t : TypeId} {x y : Operand} {a b : Int}, V P (do eqGuard BinOp.neq t x y (Value.int k a) (Value.int k b); binOp BinOp.neq t (Value.int k a) (Value.int k b)) w K ↔ K (Value.bool (decide (a ≠ b))) w) ∧ (∀ {P : Program} {w : World} {K : Value → World → Prop} {b : Bool}, V P (Op.unary UnOp.not (Value.bool b)) w K ↔ K (Value.bool !b) w) ∧ (∀ {w : World} {K : Value → World → Prop} {step : (Value → World → Prop) → Prop}, gd (Value.bool true) true step w K ↔ step K) ∧ (∀ {w : World} {K : Value → World → Prop} {step : (Value → World → Prop) → Prop}, gd (Value.bool false) false step w K ↔ step K) ∧ (∀ {w : World} {K : Value → World → Prop} {step : (Value → World → Prop) → Prop}, gd (Value.bool true) false step w K ↔ K undef w) ∧ (∀ {w : World} {K : Value → World → Prop} {step : (Value → World → Prop) → Prop}, gd (Value.bool false) true step w K ↔ K undef w) ∧ (∀ {w : World} {K : Value → World → Prop} {want : Bool} {step : (Value → World → Prop) → Prop}, gd undef want step w K ↔ K undef w) ∧ (∀ {step : (Value → Prop) → Prop} {L : Value → Prop}, gdY (Value.bool true) true step L ↔ step L) ∧ (∀ {step : (Value → Prop) → Prop} {L : Value → Prop}, gdY (Value.bool false) false step L ↔ step L) ∧ (∀ {step : (Value → Prop) → Prop} {L : Value → Prop}, gdY (Value.bool true) false step L ↔ L undef) ∧ (∀ {step : (Value → Prop) → Prop} {L : Value → Prop}, gdY (Value.bool false) true step L ↔ L undef) ∧ (∀ {want : Bool} {step : (Value → Prop) → Prop} {L : Value → Prop}, gdY undef want step L ↔ L undef) ∧ (∀ {b : Bool} {x y : Value} {L : Value → Prop}, pickD (Value.bool b) x y L ↔ L (if b = true then x else y)) ∧ (∀ {x y : Prop}, ifD (Value.bool true) x y ↔ x) ∧ (∀ {x y : Prop}, ifD (Value.bool false) x y ↔ y) ∧ (∀ {w : World} {C : World → Prop}, (∃ J : NP 0, J w ∧ ∀ (w' : World), J w' → ∀ (_f : Env), C w') ↔ C w) ∧ (∀ {a : Value} {w : World} {C : Value → World → Prop}, (∃ J : NP 1, J a w ∧ ∀ (t : Value) (w' : World), J t w' → ∀ (_f : Env), C t w') ↔ C a w) ∧ ∀ {a b : Value} {w : World} {C : Value → Value → World → Prop}, (∃ J : NP 2, J a b w ∧ ∀ (t u : Value) (w' : World), J t u w' → ∀ (_f : Env), C t u w') ↔ C a b w :=
  And.intro @V_lss <| And.intro @V_leq <| And.intro @V_gtr <| And.intro @V_geq <| And.intro @V_eqlI <| And.intro @V_neqI <| And.intro @V_not <| And.intro @gd_t <| And.intro @gd_f <| And.intro @gd_tf <| And.intro @gd_ft <| And.intro @gd_undef <| And.intro @gdY_t <| And.intro @gdY_f <| And.intro @gdY_tf <| And.intro @gdY_ft <| And.intro @gdY_undef <| And.intro @pickD_iff <| And.intro @ifD_true <| And.intro @ifD_false <| And.intro @exJ0 <| And.intro @exJ1 @exJ2
end Go.Vc
namespace Go.Proofs.YthblbcjgdbaonaaGreatDoor
open Go.Vc Go.Tc
variable {w : World} {K : Value → World → Prop}
theorem isArr95 {k : Int} (h : K (.bool (isArr k)) w) : callD Tryz.prog 113 #[i64 k] w K := by
  apply F113_wp
  unfold F113_den
  by_cases h1 : k = 3
  · subst h1; simp only [evL, reduceIte, decide_true]; exact h
  · by_cases h2 : k = 4
    · subst h2; simp only [evL, Int.reduceEq, reduceIte, Bool.false_eq_true, decide_true, decide_false]; exact h
    · simp only [h1, h2, evL, reduceIte, Bool.false_eq_true, decide_false]; rwa [show isArr k = false by simp [isArr, h1, h2]] at h
theorem isInt96 {k : Int} (h : K (.bool (isInt k)) w) : callD Tryz.prog 114 #[i64 k] w K := by
  apply F114_wp
  unfold F114_den
  by_cases h1 : k = 1
  · subst h1; simp only [evL, reduceIte, decide_true]; exact h
  · by_cases h2 : k = 2
    · subst h2; simp only [evL, Int.reduceEq, reduceIte, Bool.false_eq_true, decide_true, decide_false]; exact h
    · simp only [h1, h2, evL, reduceIte, Bool.false_eq_true, decide_false]; rwa [show isInt k = false by simp [isInt, h1, h2]] at h
def isSec (k : Int) : Bool := k == 2 || k == 4
theorem isSec97 {k : Int} (h : K (.bool (isSec k)) w) : callD Tryz.prog 115 #[i64 k] w K := by
  apply F115_wp
  unfold F115_den
  by_cases h1 : k = 2
  · subst h1; simp only [evL, reduceIte, decide_true]; exact h
  · by_cases h2 : k = 4
    · subst h2; simp only [evL, Int.reduceEq, reduceIte, Bool.false_eq_true, decide_true, decide_false]; exact h
    · simp only [h1, h2, evL, reduceIte, Bool.false_eq_true, decide_false]; rwa [show isSec k = false by simp [isSec, h1, h2]] at h
theorem kd4 {k : Int} (h : Kd k) : k = 1 ∨ k = 2 ∨ k = 3 ∨ k = 4 := by obtain ⟨h1, h2⟩ := h; omega
theorem both117 {a b : Int} (h : K (i64 (both a b)) w) : callD Tryz.prog 141 #[i64 a, i64 b] w K := by
  apply F141_wp
  unfold F141_den
  by_cases h1 : a = 2
  · subst h1; simp only [evL, reduceIte, decide_true]; simpa [both] using h
  · by_cases h2 : b = 2
    · subst h2; simp only [h1, evL, reduceIte, Bool.false_eq_true, decide_true, decide_false]; simpa [both] using h
    · simp only [h1, h2, evL, reduceIte, Bool.false_eq_true, decide_false]; simpa [both, h1, h2] using h
theorem of118 {a : Int} (h : K (i64 (ofK a)) w) : callD Tryz.prog 142 #[i64 a] w K := by
  apply F142_wp
  unfold F142_den
  by_cases h1 : a = 3
  · subst h1; simp only [evL, Int.reduceEq, decide_true, decide_false]; exact h
  · by_cases h2 : a = 4
    · subst h2; simp only [evL, Int.reduceEq, decide_true, decide_false]; exact h
    · simp only [h1, h2, evL, decide_false]; simpa [ofK, h1, h2] using h
def fits (f t : Int) : Bool := f == t || (f == 1 && t == 2)
theorem fits116 {a b : Int} (ha : Kd a) (hb : Kd b) (h : K (.bool (fits a b)) w) : callD Tryz.prog 140 #[i64 a, i64 b] w K := by
  apply F140_wp
  unfold F140_den
  rcases kd4 ha with rfl | rfl | rfl | rfl <;> rcases kd4 hb with rfl | rfl | rfl | rfl <;>
    (repeat (first | simp only [evL, Int.reduceEq, reduceIte, Bool.false_eq_true, decide_true, decide_false] | (refine isInt96 ?_; simp only [isInt, Int.reduceBEq, Bool.or_false, Bool.or_true]) | (refine isArr95 ?_; simp only [isArr, Int.reduceBEq, Bool.or_false, Bool.or_true]) | exact h))
end Go.Proofs.YthblbcjgdbaonaaGreatDoor
namespace Go.Proofs.YthblbcjgdbaonaaGreatDoor
open Go.Vc Go.Tc
variable {w : World} {K : Value → World → Prop}
def joinV (a b : Int) : Value := match joinK a b with
  | some k => .tuple #[i64 k, .bool true]
  | none => .tuple #[i64 0, .bool false]
theorem join101 {a b : Int} (ha : Kd a) (hb : Kd b) (h : K (joinV a b) w) : callD Tryz.prog 119 #[i64 a, i64 b] w K := by
  apply F119_wp
  unfold F119_den
  rcases kd4 ha with rfl | rfl | rfl | rfl <;> rcases kd4 hb with rfl | rfl | rfl | rfl <;>
    (repeat (first | simp only [evL, Int.reduceEq, reduceIte, Bool.false_eq_true, decide_true, decide_false] | (refine isInt96 ?_; simp only [isInt, Int.reduceBEq, Bool.or_false, Bool.or_true]) | (refine isArr95 ?_; simp only [isArr, Int.reduceBEq, Bool.or_false, Bool.or_true]) | exact h))
def intoS (a b : Int) : Int := if isInt a ≠ isInt b ∨ (isArr a = true ∧ a ≠ b) then 11 else if fits a b then 0 else 12
theorem into99 {a b : Int} (ha : Kd a) (hb : Kd b) (h : K (i64 (intoS a b)) w) : callD Tryz.prog 117 #[i64 a, i64 b] w K := by
  apply F117_wp
  unfold F117_den
  rcases kd4 ha with rfl | rfl | rfl | rfl <;> rcases kd4 hb with rfl | rfl | rfl | rfl <;>
    (repeat (first | simp only [V_neqb_4, evL, Int.reduceEq, not_true_eq_false, not_false_eq_true, ne_eq, reduceIte, Bool.false_eq_true, Bool.not_true, Bool.not_false, decide_true, decide_false, bne_self_eq_false, Bool.bne_false, Bool.bne_true] | (refine isInt96 ?_; simp only [isInt, Int.reduceBEq, Bool.or_false, Bool.or_true]) | (refine isArr95 ?_; simp only [isArr, Int.reduceBEq, Bool.or_false, Bool.or_true]) | (refine fits116 ha hb ?_; simp only [fits, Int.reduceBEq, Bool.or_false, Bool.or_true, Bool.and_true, Bool.and_false]) | exact h))
def Ask (a : Int) : Prop := a = -1 ∨ a = -2 ∨ a = -3 ∨ a = -4 ∨ Kd a
theorem within90 {n lo hi : Int} (h : K (.bool (decide (lo ≤ n ∧ n ≤ hi))) w) : callD Tryz.prog 108 #[i64 n, i64 lo, i64 hi] w K := by
  apply F108_wp
  unfold F108_den
  simp only [V_geq, ge_iff_le]
  by_cases h1 : lo ≤ n
  · simp only [h1, true_and, evL, reduceIte, decide_true] at h ⊢; exact h
  · simp only [h1, false_and, evL, reduceIte, Bool.false_eq_true, decide_false] at h ⊢; exact h
def opers (op : Int) : Int := if op = 27 then 2 else if op = 1 ∨ op = 2 ∨ op = 3 ∨ op = 23 ∨ op = 24 ∨ op = 25 ∨ op = 33 ∨ op = 34 ∨ op = 35 ∨ op = 36 ∨ op = 37 ∨ op = 38 then 1 else 0
theorem op39 {op : Int} (h : 1 ≤ op ∧ op ≤ 39) : op = 1 ∨ op = 2 ∨ op = 3 ∨ op = 4 ∨ op = 5 ∨ op = 6 ∨ op = 7 ∨ op = 8 ∨ op = 9 ∨ op = 10 ∨ op = 11 ∨ op = 12 ∨ op = 13 ∨ op = 14 ∨ op = 15 ∨ op = 16 ∨ op = 17 ∨ op = 18 ∨ op = 19 ∨ op = 20 ∨ op = 21 ∨ op = 22 ∨ op = 23 ∨ op = 24 ∨ op = 25 ∨ op = 26 ∨ op = 27 ∨ op = 28 ∨ op = 29 ∨ op = 30 ∨ op = 31 ∨ op = 32 ∨ op = 33 ∨ op = 34 ∨ op = 35 ∨ op = 36 ∨ op = 37 ∨ op = 38 ∨ op = 39 := by omega
theorem opers89 {op : Int} (ho : 1 ≤ op ∧ op ≤ 39) (h : K (i64 (opers op)) w) : callD Tryz.prog 82 #[i64 op] w K := by
  apply F82_wp
  unfold F82_den
  rcases op39 ho with rfl | rfl | rfl | rfl | rfl | rfl | rfl | rfl | rfl | rfl | rfl | rfl | rfl | rfl | rfl | rfl | rfl | rfl | rfl | rfl | rfl | rfl | rfl | rfl | rfl | rfl | rfl | rfl | rfl | rfl | rfl | rfl | rfl | rfl | rfl | rfl | rfl | rfl | rfl <;> (simp only [evL, Int.reduceEq, decide_true, decide_false]; exact h)
end Go.Proofs.YthblbcjgdbaonaaGreatDoor
namespace Go.Proofs.YthblbcjgdbaonaaGreatDoor
open Go.Vc Go.Tc
variable {w : World} {K : Value → World → Prop}
def insC (l : List Ins) : List Value := l.flatMap fun x => [i64 x.op, i64 x.a, i64 x.b]
def InsAre (w : World) (v : Value) (l : List Ins) : Prop := SliceIs w v 3 l.length (insC l)
theorem insC_row : ∀ {l : List Ins} {k : Nat} {x : Ins}, l[k]? = some x → ((insC l).drop (k * 3)).take 3 = [i64 x.op, i64 x.a, i64 x.b]
  | [], _, _, h => by simp at h
  | y :: l, 0, x, h => by simp at h; subst h; simp [insC]
  | y :: l, k + 1, x, h => by
    have := insC_row (l := l) (k := k) (by simpa using h)
    simp only [insC, List.flatMap_cons] at this ⊢
    rw [show (k + 1) * 3 = k * 3 + 3 by omega, ← List.drop_drop]
    simpa [List.drop_append] using this
theorem InsAre.ext {w' : World} {v : Value} {l : List Ins} (h : InsAre w v l) (hx : Ext w w') : InsAre w' v l := SliceIs.ext h hx
def StrsAre {α : Type} (T : World → List Value → α → Prop) (sz : Nat) (w : World) (v : Value) (l : List α) : Prop :=
  ∃ cs, SliceIs w v sz l.length cs ∧ ∀ (k : Nat) x, l[k]? = some x → ∃ row, (cs.drop (k * sz)).take sz = row ∧ T w row x
theorem StrsAre.ext {α : Type} {T : World → List Value → α → Prop} (hT : ∀ {w w' row x}, T w row x → Ext w w' → T w' row x) {sz : Nat} {w' : World} {v : Value} {l : List α} (h : StrsAre T sz w v l) (hx : Ext w w') : StrsAre T sz w' v l := by
  obtain ⟨cs, h1, h2⟩ := h
  refine ⟨cs, h1.ext hx, fun k x hk => ?_⟩
  obtain ⟨row, h3, h4⟩ := h2 k x hk
  exact ⟨row, h3, hT h4 hx⟩
def MthIs (w : World) (row : List Value) (m : Mth) : Prop := ∃ pv lv cv, row = [pv, i64 m.result, lv, cv] ∧ IntsAre w pv m.params ∧ IntsAre w lv m.locals ∧ InsAre w cv m.code
theorem MthIs.ext {w w' : World} {row : List Value} {m : Mth} (h : MthIs w row m) (hx : Ext w w') : MthIs w' row m := by
  obtain ⟨pv, lv, cv, h1, h2, h3, h4⟩ := h
  exact ⟨pv, lv, cv, h1, h2.ext hx, h3.ext hx, h4.ext hx⟩
def ImpIs (w : World) (row : List Value) (x : Imp) : Prop := ∃ pv, row = [.string x.name, i64 x.exp, pv, i64 x.result] ∧ IntsAre w pv x.params
theorem ImpIs.ext {w w' : World} {row : List Value} {x : Imp} (h : ImpIs w row x) (hx : Ext w w') : ImpIs w' row x := by
  obtain ⟨pv, h1, h2⟩ := h
  exact ⟨pv, h1, h2.ext hx⟩
def MthsAre (w : World) (v : Value) (l : List Mth) : Prop := StrsAre MthIs 4 w v l
def ImpsAre (w : World) (v : Value) (l : List Imp) : Prop := StrsAre ImpIs 4 w v l
theorem MthsAre.ext {w' : World} {v : Value} {l : List Mth} (h : MthsAre w v l) (hx : Ext w w') : MthsAre w' v l := StrsAre.ext (fun h k => h.ext k) h hx
theorem ImpsAre.ext {w' : World} {v : Value} {l : List Imp} (h : ImpsAre w v l) (hx : Ext w w') : ImpsAre w' v l := StrsAre.ext (fun h k => h.ext k) h hx
structure ImgV where
  fv : Value
  iv : Value
  mv : Value
  xv : Value
structure ImgAt (w : World) (p : ImgV) (i : Img) : Prop where
  fl : IntsAre w p.fv i.fields
  im : ImpsAre w p.iv i.imports
  mt : MthsAre w p.mv i.methods
  ex : IntsAre w p.xv i.exports
def ImgV.val (p : ImgV) (i : Img) : Value := .agg #[.string i.name, p.fv, p.iv, p.mv, p.xv]
theorem ImgAt.ext {w' : World} {p : ImgV} {i : Img} (h : ImgAt w p i) (hx : Ext w w') : ImgAt w' p i := ⟨h.fl.ext hx, h.im.ext hx, h.mt.ext hx, h.ex.ext hx⟩
theorem StrsAre.sl {α : Type} {T : World → List Value → α → Prop} {sz : Nat} {v : Value} {l : List α} (h : StrsAre T sz w v l) : ∃ cs, SliceIs w v sz l.length cs := ⟨_, h.choose_spec.1⟩
theorem ldS {α : Type} {T : World → List Value → α → Prop} {sz : Nat} {t x : TypeId} {v : Value} {l : List α} {i : Nat} {e : α} (h : XA Tryz.prog t sz) (ht : ∃ d z by_, Program.underlying Tryz.prog x = some d ∧ aggB d = true ∧ Inf Tryz.prog x z sz by_) (hs : StrsAre T sz w v l) (hi : l[i]? = some e) (hT : ∀ w row e, T w row e → row.length = sz)
    (hk : ∀ row, T w row e → K (.agg row.toArray) w) : V Tryz.prog (Instr.indexAt t v (i64 i)) w fun p w1 => V Tryz.prog (Instr.loadAt x p) w1 K := by
  obtain ⟨cs, h1, h2⟩ := hs
  obtain ⟨row, h3, h4⟩ := h2 i e hi
  have hlt : i < l.length := (List.getElem?_eq_some_iff.1 hi).1
  exact ldxA h ht h1 (by omega) (by omega) (by simpa using h3) (hT _ _ _ h4) (hk row h4)
theorem mth_len (w : World) (row : List Value) (m : Mth) (h : MthIs w row m) : row.length = 4 := by obtain ⟨_, _, _, rfl, _⟩ := h; rfl
theorem imp_len (w : World) (row : List Value) (m : Imp) (h : ImpIs w row m) : row.length = 4 := by obtain ⟨_, rfl, _⟩ := h; rfl
theorem ldSF {α : Type} {T : World → List Value → α → Prop} {sz : Nat} {t s f o ft : Nat} {v : Value} {l : List α} {i : Nat} {e : α} (h : XA Tryz.prog t sz) (hf : FA Tryz.prog s f o) (hl : L1 Tryz.prog ft) (hs : StrsAre T sz w v l) (hi : l[i]? = some e)
    (hk : ∀ row, T w row e → ∃ u, row[o]? = some u ∧ o < sz ∧ K u w) : V Tryz.prog (Instr.indexAt t v (i64 i)) w fun p w1 => V Tryz.prog (Instr.fieldAt s p f) w1 fun q w2 => V Tryz.prog (Instr.loadAt ft q) w2 K := by
  obtain ⟨cs, h1, h2⟩ := hs
  obtain ⟨row, h3, h4⟩ := h2 i e hi
  have hlt : i < l.length := (List.getElem?_eq_some_iff.1 hi).1
  obtain ⟨u, hu, ho, hK⟩ := hk row h4
  refine ldxF h hf hl h1 (by omega) (by omega) ?_ hK
  rw [← h3, List.getElem?_take, if_pos ho, List.getElem?_drop] at hu
  simpa using hu
theorem lnS {α : Type} {T : World → List Value → α → Prop} {sz t ty : Nat} {v : Value} {l : List α} (h : XA Tryz.prog t sz) (hs : StrsAre T sz w v l) (hk : K (i64 l.length) w) : V Tryz.prog (Builtin.len_ #[t] ty #[v]) w K := by
  obtain ⟨cs, h1, _⟩ := hs
  exact lnx h h1 hk
theorem ldI {v : Value} {l : List Ins} {i : Nat} {x : Ins} (hs : InsAre w v l) (hi : l[i]? = some x) (hk : K (.agg #[i64 x.op, i64 x.a, i64 x.b]) w) : V Tryz.prog (Instr.indexAt 92 v (i64 i)) w fun p w1 => V Tryz.prog (Instr.loadAt 97 p) w1 K := by
  have hlt : i < l.length := (List.getElem?_eq_some_iff.1 hi).1
  exact ldxA xa_92 la_97 hs (by omega) (by omega) (l := [i64 x.op, i64 x.a, i64 x.b]) (by simpa using insC_row hi) rfl hk
def nmL : List Value := [.string { data := #[] }, .string { data := #[112, 117, 115, 104] }, .string { data := #[108, 111, 97, 100] }, .string { data := #[115, 116, 111, 114, 101] }, .string { data := #[112, 111, 112] }, .string { data := #[100, 117, 112] }, .string { data := #[97, 100, 100] }, .string { data := #[115, 117, 98] }, .string { data := #[109, 117, 108] }, .string { data := #[97, 110, 100] }, .string { data := #[111, 114] }, .string { data := #[120, 111, 114] }, .string { data := #[115, 104, 108] }, .string { data := #[115, 104, 114] }, .string { data := #[115, 97, 114] }, .string { data := #[110, 101, 103] }, .string { data := #[110, 111, 116] }, .string { data := #[100, 105, 118] }, .string { data := #[114, 101, 109] }, .string { data := #[101, 113] }, .string { data := #[108, 116] }, .string { data := #[98, 101, 108, 111, 119] }, .string { data := #[112, 105, 99, 107] }, .string { data := #[106, 117, 109, 112] }, .string { data := #[106, 117, 109, 112, 105, 102] }, .string { data := #[110, 117, 108, 108] }, .string { data := #[105, 115, 110, 117, 108, 108] }, .string { data := #[110, 101, 119] }, .string { data := #[108, 101, 110] }, .string { data := #[103, 101, 116] }, .string { data := #[112, 117, 116] }, .string { data := #[99, 111, 112, 121] }, .string { data := #[115, 97, 109, 101] }, .string { data := #[103, 101, 116, 102] }, .string { data := #[112, 117, 116, 102] }, .string { data := #[98, 117, 102] }, .string { data := #[115, 101, 110, 100] }, .string { data := #[99, 97, 108, 108] }, .string { data := #[99, 97, 108, 108, 120] }, .string { data := #[114, 101, 116] }]
theorem names115 (h : ∀ v w', SliceIs w' v 1 40 nmL → Ext w w' → K v w') : callD Tryz.prog 139 #[] w K := by
  apply F139_wp
  unfold F139_den
  exact bsl xe_53 nmL (by kernel_rfl) (by kernel_rfl) (by decide) (by kernel_rfl) fun v w' ho hx => h v w' (SliceIs.of_own ho) hx
theorem nm_ne {op : Nat} (h1 : 1 ≤ op) (h2 : op ≤ 39) : ∃ s : ByteArray, nmL[op]? = some (.string s) ∧ (s.toList == ({ data := #[] } : ByteArray).toList) = false := by
  have : ∀ k : Fin 40, k.val = 0 ∨ (match nmL[k.val]? with | some (.string s) => s.toList == ({ data := #[] } : ByteArray).toList | _ => true) = false := by decide +kernel
  rcases this ⟨op, by omega⟩ with h | h
  · simp only at h; omega
  · simp only at h
    split at h
    · rename_i s hs; exact ⟨s, hs, h⟩
    · cases h
theorem name88 {op : Int} (h : ∀ (s : ByteArray) w', ((s.toList == ({ data := #[] } : ByteArray).toList) = decide (¬ (1 ≤ op ∧ op ≤ 39))) → Ext w w' → K (.string s) w') : callD Tryz.prog 107 #[i64 op] w K := by
  apply F107_wp
  unfold F107_den
  refine names115 fun v w1 hs x1 => ?_
  refine V_lss.2 ?_
  by_cases h1 : op < 1
  · simp only [h1, evL, reduceIte, decide_true]
    exact h _ _ (by simp; omega) x1
  · simp only [h1, evL, reduceIte, Bool.false_eq_true, decide_false]
    refine lnx xa_53 hs ?_
    refine V_geq.2 ?_
    by_cases h2 : op ≥ ((40 : Nat) : Int)
    · simp only [h2, evL, decide_true]
      exact h _ _ (by simp; omega) x1
    · simp only [h2, evL, decide_false]
      obtain ⟨k, rfl⟩ : ∃ k : Nat, op = k := ⟨op.toNat, by omega⟩
      obtain ⟨s, hs1, hs2⟩ := nm_ne (op := k) (by omega) (by omega)
      refine ldx xa_53 l1_9 hs (by omega) (by omega) (by simpa using hs1) (h _ _ ?_ x1)
      rw [hs2]
      simp
      omega
theorem kinds53 {lv : Value} {l : List Int} {most : Int} (hs : IntsAre w lv l) (h : ∀ b, (b = true ↔ kindsR l most) → K (.bool b) w) : callD Tryz.prog 72 #[lv, i64 most] w K := by
  apply F72_wp
  unfold F72_den
  refine ⟨fun v w' => ∃ j : Nat, v = i64 j ∧ j ≤ l.length ∧ w' = w ∧ Kds (l.take j), fun v _ => l.length - (RowKit.intOf v).toNat, ⟨0, rfl, Nat.zero_le _, rfl, fun _ h => by simp at h⟩, ?_⟩
  rintro _ _ ⟨j, rfl, hj, rfl, hk⟩ _
  have hno : ∀ {k : Int}, l[j]? = some k → ¬ Kd k → K (.bool false) _ := fun hk hn => h false ⟨fun h => (by cases h), fun hr => absurd (hr.1 _ (List.mem_of_getElem? hk)) hn⟩
  have hcap : l.length ≤ maxLen := by
    rcases hs.2 with ⟨_, h0⟩ | ⟨_, _, _, _, h1, h2, _⟩
    · rw [h0]; exact Nat.zero_le _
    · omega
  refine lnx xa_57 hs (V_lss.2 (ifD_dec (fun hlt => ?_) fun hge => ?_))
  · have hj' : j < l.length := by omega
    obtain ⟨k, hk1⟩ := ex_get hj'
    refine ldx xa_57 l1_3 hs (by omega) (by omega) (getI hk1) (V_lss.2 ?_)
    by_cases h1 : k < 1
    · simp only [h1, evL, reduceIte, decide_true]
      exact hno hk1 fun h => by unfold Kd at h; omega
    · simp only [h1, evL, reduceIte, Bool.false_eq_true, decide_false]
      refine ldx xa_57 l1_3 hs (by omega) (by omega) (getI hk1) (V_gtr.2 ?_)
      by_cases h2 : k > 4
      · simp only [h2, evL, decide_true]
        exact hno hk1 fun h => by unfold Kd at h; omega
      · simp only [h2, evL, decide_false]
        refine V_add.2 ?_
        rw [wrap_id (by omega) (by unfold maxLen at hcap; omega), i64_succ]
        refine ⟨⟨j + 1, rfl, by omega, rfl, fun q hq => ?_⟩, by simp only [intOf_i64]; omega⟩
        rw [List.take_add_one, hk1] at hq
        rcases List.mem_append.1 hq with hq | hq
        · exact hk q hq
        · simp at hq; subst hq; exact ⟨by omega, by omega⟩
  · have hjl : j = l.length := by omega
    subst hjl
    rw [List.take_length] at hk
    refine lnx xa_57 hs (V_leq.2 ?_)
    exact h _ (by simp [kindsR, hk])
theorem right54 {x : Ins} (h : ∀ b w', (b = true ↔ x.right) → Ext w w' → K (.bool b) w') : callD Tryz.prog 73 #[.agg #[i64 x.op, i64 x.a, i64 x.b]] w K := by
  obtain ⟨op, a, b⟩ := x
  apply F73_wp
  unfold F73_den
  refine bx fun b1 w1 hb x1 => ?_
  refine ldB hb fa_97_0 l1_3 rfl ?_
  refine name88 fun s w2 hs x2 => ?_
  have hb := hb.ext x2
  have xx := x1.trans x2
  refine V.ok r_eqStr ?_
  rw [hs]
  have no : ∀ {w'}, Ext w w' → ¬ Ins.right ⟨op, a, b⟩ → K (.bool false) w' := fun hx hn => h false _ ⟨fun h => (by cases h), fun hr => absurd hr hn⟩ hx
  by_cases ho : 1 ≤ op ∧ op ≤ 39
  · simp only [ho, and_self, evL, Int.reduceNeg, not_true_eq_false, reduceIte, Bool.false_eq_true, decide_false]
    refine ldB hb fa_97_0 l1_3 rfl (V_neqI.2 ?_)
    by_cases h27 : op = 27
    · subst h27
      simp only [evL, Int.reduceNeg, not_true_eq_false, ne_eq, reduceIte, Bool.false_eq_true, decide_false]
      refine ldB hb fa_97_0 l1_3 rfl ?_
      refine opers89 ho ?_
      simp only [opers, reduceIte, evL, Int.reduceEq, Int.reduceNeg, reduceIte, Bool.false_eq_true, decide_false]
      refine ldB hb fa_97_0 l1_3 rfl ?_
      simp only [evL, Int.reduceEq, Int.reduceNeg, decide_true, decide_false]
      refine ldB hb fa_97_1 l1_3 rfl ?_
      refine within90 ?_
      by_cases ha : (3 : Int) ≤ a ∧ a ≤ 4
      · simp only [ha, and_self, evL, reduceIte, decide_true]
        refine ldB hb fa_97_2 l1_3 rfl ?_
        refine within90 ?_
        by_cases hb1 : (0 : Int) ≤ b ∧ b ≤ 2
        · simp only [hb1, and_self, evL, reduceIte, decide_true]
          exact h true _ ⟨fun _ => ⟨ho, ha.1, ha.2, .inl hb1⟩, fun _ => rfl⟩ xx
        · simp only [hb1, evL, reduceIte, Bool.false_eq_true, decide_false]
          refine ldB hb fa_97_2 l1_3 rfl ?_
          refine within90 ?_
          refine h _ _ ⟨fun hd => ⟨ho, ha.1, ha.2, .inr (of_decide_eq_true hd)⟩, fun hr => decide_eq_true (hr.2.2.2.resolve_left hb1)⟩ xx
      · simp only [ha, evL, reduceIte, Bool.false_eq_true, decide_false]
        exact no xx fun hr => ha ⟨hr.2.1, hr.2.2.1⟩
    · simp only [h27, evL, Int.reduceNeg, not_false_eq_true, ne_eq, reduceIte, decide_true]
      refine ldB hb fa_97_2 l1_3 rfl (V_neqI.2 ?_)
      have hbr : Ins.right ⟨op, a, b⟩ → b = 0 := fun hr => by
        have := hr.2.2.2
        dsimp only at this
        rwa [if_neg h27] at this
      by_cases hb0 : b = 0
      · subst hb0
        simp only [evL, Int.reduceNeg, not_true_eq_false, ne_eq, reduceIte, Bool.false_eq_true, decide_false]
        refine ldB hb fa_97_0 l1_3 rfl ?_
        refine opers89 ho (V_eqlI.2 ?_)
        have fin : ∀ {lo hi : Int} {w'}, lim op = (lo, hi) → Ext w w' → K (.bool (decide (lo ≤ a ∧ a ≤ hi))) w' := fun {lo hi w'} hl hx => by
          refine h _ _ ⟨fun hd => ?_, fun hr => ?_⟩ hx
          · have := of_decide_eq_true hd
            refine ⟨ho, ?_, ?_, ?_⟩
            · rw [hl]; exact this.1
            · rw [hl]; exact this.2
            · dsimp only; rw [if_neg h27]
          · have h1 := hr.2.1; have h2 := hr.2.2.1
            rw [hl] at h1 h2
            exact decide_eq_true ⟨h1, h2⟩
        by_cases hop : op = 1 ∨ op = 2 ∨ op = 3 ∨ op = 23 ∨ op = 24 ∨ op = 25 ∨ op = 33 ∨ op = 34 ∨ op = 35 ∨ op = 36 ∨ op = 37 ∨ op = 38
        · rcases hop with rfl | rfl | rfl | rfl | rfl | rfl | rfl | rfl | rfl | rfl | rfl | rfl <;>
            (simp only [opers, Int.reduceEq, or_self, or_true, or_false, reduceIte, evL, Int.reduceEq, Int.reduceNeg, reduceIte, Bool.false_eq_true, decide_false]
             refine ldB hb (by first | exact fa_105_0 | exact fa_115_0 | exact fa_115_1 | exact fa_127_1 | exact fa_127_2 | exact fa_141_0 | exact fa_141_1 | exact fa_141_2 | exact fa_141_3 | exact fa_141_4 | exact fa_143_0 | exact fa_143_1 | exact fa_143_2 | exact fa_143_3 | exact fa_200_0 | exact fa_200_1 | exact fa_25_0 | exact fa_25_1 | exact fa_25_2 | exact fa_25_3 | exact fa_25_4 | exact fa_25_5 | exact fa_25_6 | exact fa_25_7 | exact fa_25_8 | exact fa_27_0 | exact fa_27_1 | exact fa_27_2 | exact fa_29_0 | exact fa_29_1 | exact fa_29_2 | exact fa_29_3 | exact fa_29_4 | exact fa_29_5 | exact fa_61_0 | exact fa_61_1 | exact fa_61_2 | exact fa_61_3 | exact fa_61_4 | exact fa_91_0 | exact fa_91_1 | exact fa_91_2 | exact fa_91_3 | exact fa_94_0 | exact fa_94_1 | exact fa_94_2 | exact fa_94_3 | exact fa_97_0) (by first | exact l1_22 | exact l1_23 | exact l1_3) rfl ?_
             simp only [evL, Int.reduceEq, Int.reduceNeg, decide_true, decide_false]
             refine ldB hb (by first | exact fa_105_0 | exact fa_115_0 | exact fa_115_1 | exact fa_127_1 | exact fa_127_2 | exact fa_141_0 | exact fa_141_1 | exact fa_141_2 | exact fa_141_3 | exact fa_141_4 | exact fa_143_0 | exact fa_143_1 | exact fa_143_2 | exact fa_143_3 | exact fa_200_0 | exact fa_200_1 | exact fa_25_0 | exact fa_25_1 | exact fa_25_2 | exact fa_25_3 | exact fa_25_4 | exact fa_25_5 | exact fa_25_6 | exact fa_25_7 | exact fa_25_8 | exact fa_27_0 | exact fa_27_1 | exact fa_27_2 | exact fa_29_0 | exact fa_29_1 | exact fa_29_2 | exact fa_29_3 | exact fa_29_4 | exact fa_29_5 | exact fa_61_0 | exact fa_61_1 | exact fa_61_2 | exact fa_61_3 | exact fa_61_4 | exact fa_91_0 | exact fa_91_1 | exact fa_91_2 | exact fa_91_3 | exact fa_94_0 | exact fa_94_1 | exact fa_94_2 | exact fa_94_3 | exact fa_97_0 | exact fa_97_1) (by first | exact l1_22 | exact l1_23 | exact l1_3) rfl ?_
             exact within90 (fin rfl xx))
        · simp only [not_or] at hop
          obtain ⟨n1, n2, n3, n4, n5, n6, n7, n8, n9, n10, n11, n12⟩ := hop
          have e0 : opers op = 0 := by unfold opers; simp [*]
          have el : lim op = (0, 0) := by unfold lim; simp [*]
          simp only [e0, evL, Int.reduceNeg, reduceIte, decide_true]
          refine ldB hb fa_97_1 l1_3 rfl (V_neqI.2 ?_)
          by_cases ha : a = 0
          · subst ha
            simp only [evL, Int.reduceNeg, not_true_eq_false, ne_eq, decide_false]
            refine ldB hb fa_97_0 l1_3 rfl ?_
            simp only [n1, n2, n3, n4, n5, n6, n7, n8, n9, n10, n11, n12, h27, evL, Int.reduceNeg, decide_false]
            have := fin el xx
            simpa using this
          · simp only [ha, evL, Int.reduceNeg, not_false_eq_true, ne_eq, decide_true]
            refine no xx fun hr => ha ?_
            have h1 := hr.2.1; have h2 := hr.2.2.1
            rw [el] at h1 h2
            dsimp only at h1 h2
            omega
      · simp only [hb0, evL, Int.reduceNeg, not_false_eq_true, ne_eq, reduceIte, decide_true]
        exact no xx fun hr => hb0 (hbr hr)
  · simp only [ho, evL, Int.reduceNeg, not_false_eq_true, reduceIte, decide_true]
    exact no xx fun hr => ho hr.1
end Go.Proofs.YthblbcjgdbaonaaGreatDoor
namespace Go.Proofs.YthblbcjgdbaonaaGreatDoor
open Go.Vc Go.Tc
variable {w : World} {K : Value → World → Prop}
def Tells (φ : Prop) (w : World) (v : Value) (w' : World) : Prop := ∃ b, v = .bool b ∧ (b = true ↔ φ) ∧ Ext w w'
theorem Tells.yes {φ : Prop} {w w' : World} (h : φ) (hx : Ext w w') : Tells φ w (.bool true) w' := ⟨true, rfl, ⟨fun _ => h, fun _ => rfl⟩, hx⟩
theorem Tells.no {φ : Prop} {w w' : World} (h : ¬ φ) (hx : Ext w w') : Tells φ w (.bool false) w' := ⟨false, rfl, ⟨fun e => (by cases e), fun e => absurd e h⟩, hx⟩
def InsT (_ : World) (row : List Value) (x : Ins) : Prop := row = [i64 x.op, i64 x.a, i64 x.b]
theorem ints_cap {v : Value} {l : List Int} (hs : IntsAre w v l) : l.length ≤ maxLen := by
  rcases hs.2 with ⟨_, h0⟩ | ⟨_, _, _, _, h1, h2, _⟩
  · rw [h0]; exact Nat.zero_le _
  · omega
end Go.Proofs.YthblbcjgdbaonaaGreatDoor
namespace Go.Tc
def Ins.rg (x : Ins) : Prop := -9223372036854775808 ≤ x.b ∧ x.b ≤ 9223372036854775807
def Img.rg (i : Img) : Prop := ∀ m ∈ i.methods, ∀ x ∈ m.code, x.rg
end Go.Tc
namespace Go.Proofs.YthblbcjgdbaonaaGreatDoor
open Go.Vc Go.Tc
variable {w : World} {K : Value → World → Prop}
def NameOk (w0 : World) (nm : ByteArray) : Prop := ∀ w, Ext w0 w → callD Tryz.prog 22 #[.string nm] w (Tells True w) ∧ callD Tryz.prog 19 #[.string nm] w (Tells True w) ∧ nm.size ≤ 16
def NamesOk (w0 : World) (i : Img) : Prop := NameOk w0 i.name ∧ ∀ x ∈ i.imports, NameOk w0 x.name
theorem NameOk.ext {w w' : World} {nm : ByteArray} (h : NameOk w nm) (hx : Ext w w') : NameOk w' nm := fun w2 hx2 => h w2 (hx.trans hx2)
theorem NamesOk.ext {w w' : World} {i : Img} (h : NamesOk w i) (hx : Ext w w') : NamesOk w' i := ⟨h.1.ext hx, fun x hm => (h.2 x hm).ext hx⟩
theorem Tells.T {w w' : World} {v : Value} (h : Tells True w v w') : v = .bool true ∧ Ext w w' := by
  obtain ⟨b, hv, hb, x⟩ := h
  rw [hb.2 trivial] at hv
  exact ⟨hv, x⟩
theorem rgets {i : Img} (h : 1 ≤ i.methods.length) : i.methods[0]? = some (i.meth 0) := by
  unfold Img.meth
  rw [Int.toNat_zero, List.getD_eq_getElem?_getD, List.getElem?_eq_getElem (by omega)]; rfl
end Go.Proofs.YthblbcjgdbaonaaGreatDoor
namespace Go.Proofs.YthblbcjgdbaonaaGreatDoor
open Go.Vc Go.Tc
variable {w : World} {K : Value → World → Prop}
theorem K53 {lv : Value} {l : List Int} {most : Int} (hs : IntsAre w lv l) (hk : ∀ b, (b = true ↔ kindsR l most) → K (.bool b) w) : callD Tryz.prog 72 #[lv, i64 most] w K := kinds53 hs hk
set_option maxHeartbeats 4000000 in
theorem right27 {p : ImgV} {i : Img} (h : ImgAt w p i) (hn : NamesOk w i) : callD Tryz.prog 49 #[p.val i] w (Tells i.right w) := by
  apply F49_wp
  suffices key : ∀ R : Value → World → Prop, (∀ v w', Tells i.right w v w' → R v w') → F49_den (p.val i) w R from key _ fun _ _ h => h
  intro R hR
  unfold F49_den ImgV.val
  refine bx fun b1 w1 hb x1 => ?_
  refine ldB hb fa_61_0 l1_9 rfl ?_
  refine (hn.1 w1 x1).1.mono fun v w2 hv => ?_
  obtain ⟨rfl, x2⟩ := hv.T
  have hb := hb.ext x2
  have xx := x1.trans x2
  simp only [evL, reduceIte, Bool.false_eq_true, Bool.not_true]
  have no : ∀ {w'}, Ext w2 w' → ¬ i.right → R (.bool false) w' := fun hx hn => hR _ _ (Tells.no hn (xx.trans hx))
  refine ldB hb fa_61_1 l1_57 rfl (K53 (h.ext xx).fl fun b hk1 => ?_)
  cases b with
  | false => simp only [evL, reduceIte, Bool.not_false]; exact no (Ext.refl _) fun h => by have := hk1.2 h.1; cases this
  | true =>
  simp only [evL, reduceIte, Bool.false_eq_true, Bool.not_true]
  refine ldB hb fa_61_2 l1_58 rfl (lnS xa_58 (h.ext xx).im (V_gtr.2 ?_))
  by_cases h2 : (i.imports.length : Int) > 4
  · simp only [h2, evL, reduceIte, decide_true]; exact no (Ext.refl _) fun h => by have := h.2.1.1; omega
  simp only [h2, evL, reduceIte, Bool.false_eq_true, decide_false]
  refine ldB hb fa_61_3 l1_59 rfl (lnS xa_59 (h.ext xx).mt (V_lss.2 ?_))
  by_cases h4 : (i.methods.length : Int) < 1
  · simp only [h4, evL, reduceIte, decide_true]; exact no (Ext.refl _) fun h => by have := h.2.2.1.1.1; omega
  simp only [h4, evL, reduceIte, Bool.false_eq_true, decide_false]
  refine ldB hb fa_61_3 l1_59 rfl (lnS xa_59 (h.ext xx).mt (V_gtr.2 ?_))
  by_cases h5 : (i.methods.length : Int) > 8
  · simp only [h5, evL, reduceIte, decide_true]; exact no (Ext.refl _) fun h => by have := h.2.2.1.1.2; omega
  simp only [h5, evL, reduceIte, Bool.false_eq_true, decide_false]
  refine ldB hb fa_61_4 l1_57 rfl (lnx xa_57 (h.ext xx).ex (V_gtr.2 ?_))
  by_cases h9 : (i.exports.length : Int) > 4
  · simp only [h9, evL, decide_true]; exact no (Ext.refl _) fun h => by have := h.2.2.2.1; omega
  simp only [h9, evL, decide_false]
  have hw2 := h.ext xx
  refine ⟨fun v w' => ∃ j : Nat, v = i64 j ∧ j ≤ i.imports.length ∧ Ext w2 w' ∧ ∀ x ∈ i.imports.take j, x.right, fun v _ => i.imports.length - (RowKit.intOf v).toNat, ⟨0, rfl, Nat.zero_le _, Ext.refl _, fun _ h => by simp at h⟩, ?_⟩
  rintro _ w3 ⟨j, rfl, hj, x3, hall⟩ _
  refine ldB (hb.ext x3) fa_61_2 l1_58 rfl (lnS xa_58 (hw2.ext x3).im (V_lss.2 (ifD_dec (fun hlt => ?_) fun hge => ?_)))
  · obtain ⟨x, hx⟩ := ex_get (l := i.imports) (j := j) (by omega)
    have hxm : x ∈ i.imports := List.mem_of_getElem? hx
    refine ldB (hb.ext x3) fa_61_2 l1_58 rfl ?_
    refine ldS xa_58 la_91 (hw2.ext x3).im hx imp_len fun row hrow => ?_
    obtain ⟨pv, rfl, hp⟩ := hrow
    obtain ⟨pa, pc, rfl⟩ := hp.shape
    refine asB sa_91 rfl rfl fun b2 w4 hb2 x4 => ?_
    refine ldB hb2 fa_91_0 l1_9 rfl ?_
    refine (hn.2 x hxm w4 ((xx.trans x3).trans x4)).1.mono fun v w5 hv => ?_
    obtain ⟨rfl, x5⟩ := hv.T
    have hb2 := hb2.ext x5
    have x35 := (x3.trans x4).trans x5
    simp only [evL, reduceIte, Bool.false_eq_true, Bool.not_true]
    have noI : ¬ x.right → R (.bool false) w5 := fun hn => no x35 fun h => hn (h.2.1.2 x hxm)
    refine ldB hb2 fa_91_1 l1_3 rfl (V_lss.2 ?_)
    by_cases g1 : x.exp < 0
    · simp only [g1, evL, reduceIte, decide_true]; exact noI fun h => by have := h.1.1; omega
    simp only [g1, evL, reduceIte, Bool.false_eq_true, decide_false]
    refine ldB hb2 fa_91_1 l1_3 rfl (V_geq.2 ?_)
    by_cases g2 : x.exp ≥ 4
    · simp only [g2, evL, reduceIte, decide_true]; exact noI fun h => by have := h.1.2; omega
    simp only [g2, evL, reduceIte, Bool.false_eq_true, decide_false]
    refine ldB hb2 fa_91_2 l1_57 rfl (K53 (hp.ext (x4.trans x5)) fun b hk3 => ?_)
    cases b with
    | false => simp only [evL, reduceIte, Bool.not_false]; exact noI fun h => by have := hk3.2 h.2.1; cases this
    | true =>
    simp only [evL, reduceIte, Bool.false_eq_true, Bool.not_true]
    refine ldB hb2 fa_91_3 l1_3 rfl (V_lss.2 ?_)
    by_cases g3 : x.result < 0
    · simp only [g3, evL, reduceIte, decide_true]; exact noI fun h => by have := h.2.2.1; omega
    simp only [g3, evL, reduceIte, Bool.false_eq_true, decide_false]
    refine ldB hb2 fa_91_3 l1_3 rfl (V_gtr.2 ?_)
    by_cases g4 : x.result > 4
    · simp only [g4, evL, decide_true]; exact noI fun h => by have := h.2.2.2; omega
    simp only [g4, evL, decide_false]
    refine V_add.2 ?_
    rw [wrap_id (by omega) (by omega), i64_succ]
    refine ⟨⟨j + 1, rfl, by omega, x35, fun y hy => ?_⟩, by simp only [intOf_i64]; omega⟩
    rw [List.take_add_one, hx] at hy
    rcases List.mem_append.1 hy with hy | hy
    · exact hall y hy
    · simp at hy; subst hy; exact ⟨⟨by omega, by omega⟩, hk3.1 rfl, by omega, by omega⟩
  have hjl : j = i.imports.length := by omega
  subst hjl
  rw [List.take_length] at hall
  refine ⟨fun v w' => ∃ j : Nat, v = i64 j ∧ j ≤ i.methods.length ∧ Ext w2 w' ∧ ∀ x ∈ i.methods.take j, x.right, fun v _ => i.methods.length - (RowKit.intOf v).toNat, ⟨0, rfl, Nat.zero_le _, x3, fun _ h => by simp at h⟩, ?_⟩
  rintro _ w4 ⟨j, rfl, hj, x4, hallm⟩ _
  refine ldB (hb.ext x4) fa_61_3 l1_59 rfl (lnS xa_59 (hw2.ext x4).mt (V_lss.2 (ifD_dec (fun hlt => ?_) fun hge => ?_)))
  · obtain ⟨m, hm⟩ := ex_get (l := i.methods) (j := j) (by omega)
    have hmm : m ∈ i.methods := List.mem_of_getElem? hm
    refine ldB (hb.ext x4) fa_61_3 l1_59 rfl ?_
    refine ldS xa_59 la_94 (hw2.ext x4).mt hm mth_len fun row hrow => ?_
    obtain ⟨pv, lv, cv, rfl, hp, hl, hc⟩ := hrow
    obtain ⟨pa, pc, rfl⟩ := hp.shape
    obtain ⟨la, lc, rfl⟩ := hl.shape
    obtain ⟨ca, cc, rfl⟩ := SliceIs.shape hc
    refine asB sa_94 rfl rfl fun b2 w5 hb2 x5 => ?_
    have x45 := x4.trans x5
    have noM : ∀ {w'}, Ext w5 w' → ¬ m.right → R (.bool false) w' := fun hx hn => no (x45.trans hx) fun h => hn (h.2.2.1.2.1 m hmm)
    refine ldB hb2 fa_94_0 l1_57 rfl (K53 (hp.ext x5) fun b hk3 => ?_)
    cases b with
    | false => simp only [evL, reduceIte, Bool.not_false]; exact noM (Ext.refl _) fun h => by have := hk3.2 h.1; cases this
    | true =>
    simp only [evL, reduceIte, Bool.false_eq_true, Bool.not_true]
    refine ldB hb2 fa_94_1 l1_3 rfl (V_lss.2 ?_)
    by_cases g3 : m.result < 0
    · simp only [g3, evL, reduceIte, decide_true]; exact noM (Ext.refl _) fun h => by have := h.2.1.1; omega
    simp only [g3, evL, reduceIte, Bool.false_eq_true, decide_false]
    refine ldB hb2 fa_94_1 l1_3 rfl (V_gtr.2 ?_)
    by_cases g4 : m.result > 4
    · simp only [g4, evL, reduceIte, decide_true]; exact noM (Ext.refl _) fun h => by have := h.2.1.2; omega
    simp only [g4, evL, reduceIte, Bool.false_eq_true, decide_false]
    have cp := ints_cap hp
    refine ldB hb2 fa_94_2 l1_57 rfl ?_
    refine ldB hb2 fa_94_0 l1_57 rfl (lnx xa_57 (hp.ext x5) (V_sub.2 ?_))
    rw [wrap_id (by unfold maxLen at cp; omega) (by omega)]
    refine K53 (hl.ext x5) fun b hk5 => ?_
    cases b with
    | false => simp only [evL, reduceIte, Bool.not_false]; exact noM (Ext.refl _) fun h => by have := hk5.2 h.2.2.1; cases this
    | true =>
    simp only [evL, reduceIte, Bool.false_eq_true, Bool.not_true]
    refine ldB hb2 fa_94_3 l1_92 rfl (lnx xa_92 (hc.ext x5) (V_lss.2 ?_))
    by_cases g6 : (m.code.length : Int) < 1
    · simp only [g6, evL, reduceIte, decide_true]; exact noM (Ext.refl _) fun h => by have := h.2.2.2.1.1; omega
    simp only [g6, evL, reduceIte, Bool.false_eq_true, decide_false]
    refine ldB hb2 fa_94_3 l1_92 rfl (lnx xa_92 (hc.ext x5) (V_gtr.2 ?_))
    by_cases g7 : (m.code.length : Int) > 120
    · simp only [g7, evL, decide_true]; exact noM (Ext.refl _) fun h => by have := h.2.2.2.1.2; omega
    simp only [g7, evL, decide_false]
    refine ⟨fun v w' => ∃ q : Nat, v = i64 q ∧ q ≤ m.code.length ∧ Ext w5 w' ∧ ∀ x ∈ m.code.take q, x.right, fun v _ => m.code.length - (RowKit.intOf v).toNat, ⟨0, rfl, Nat.zero_le _, Ext.refl _, fun _ h => by simp at h⟩, ?_⟩
    rintro _ w6 ⟨q, rfl, hq, x6, hallc⟩ _
    have hc6 := (hc.ext x5).ext x6
    refine ldB (hb2.ext x6) fa_94_3 l1_92 rfl (lnx xa_92 hc6 (V_lss.2 (ifD_dec (fun hlt2 => ?_) fun hge2 => ?_)))
    · obtain ⟨x, hx⟩ := ex_get (l := m.code) (j := q) (by omega)
      have hxm : x ∈ m.code := List.mem_of_getElem? hx
      refine ldB (hb2.ext x6) fa_94_3 l1_92 rfl (ldI hc6 hx ?_)
      refine right54 fun b w7 hbr x7 => ?_
      cases b with
      | false => simp only [evL, Bool.not_false]; exact noM (x6.trans x7) fun h => by have := hbr.2 (h.2.2.2.2 x hxm); cases this
      | true =>
      simp only [evL, Bool.not_true]
      refine V_add.2 ?_
      rw [wrap_id (by omega) (by omega), i64_succ]
      refine ⟨⟨q + 1, rfl, by omega, x6.trans x7, fun y hy => ?_⟩, by simp only [intOf_i64]; omega⟩
      rw [List.take_add_one, hx] at hy
      rcases List.mem_append.1 hy with hy | hy
      · exact hallc y hy
      · simp at hy; subst hy; exact hbr.1 rfl
    · have hql : q = m.code.length := by omega
      subst hql
      rw [List.take_length] at hallc
      refine V_add.2 ?_
      rw [wrap_id (by omega) (by omega), i64_succ]
      refine ⟨⟨j + 1, rfl, by omega, x45.trans x6, fun y hy => ?_⟩, by simp only [intOf_i64]; omega⟩
      rw [List.take_add_one, hm] at hy
      rcases List.mem_append.1 hy with hy | hy
      · exact hallm y hy
      · simp at hy; subst hy; exact ⟨hk3.1 rfl, ⟨by omega, by omega⟩, hk5.1 rfl, ⟨by omega, by omega⟩, hallc⟩
  have hjl : j = i.methods.length := by omega
  subst hjl
  rw [List.take_length] at hallm
  refine ⟨fun v w' => ∃ j : Nat, v = i64 j ∧ j ≤ i.exports.length ∧ Ext w2 w' ∧ ∀ x ∈ i.exports.take j, 0 ≤ x ∧ x < (i.methods.length : Int), fun v _ => i.exports.length - (RowKit.intOf v).toNat, ⟨0, rfl, Nat.zero_le _, x4, fun _ h => by simp at h⟩, ?_⟩
  rintro _ w5 ⟨j, rfl, hj, x5, halle⟩ _
  have h5' := hw2.ext x5
  refine ldB (hb.ext x5) fa_61_4 l1_57 rfl (lnx xa_57 h5'.ex (V_lss.2 (ifD_dec (fun hlt => ?_) fun hge => ?_)))
  · obtain ⟨x, hx⟩ := ex_get (l := i.exports) (j := j) (by omega)
    have hxm : x ∈ i.exports := List.mem_of_getElem? hx
    have D1 : Ext w5 w5.drew := (Ext.refl _).drew
    have hbS : ∀ w', Ext w5 w' → Boxed w' b1 _ := fun w' hx => (hb.ext x5).ext hx
    obtain ⟨mcs, hms⟩ := h5'.mt.sl
    refine drawD.mk' (fun w' => Ext w5 w') D1 ?_
    refine yfB hbS fa_61_4 l1_57 rfl ?_
    refine ySl xa_57 l1_3 h5'.ex (fun _ h => h) (by omega) (by omega) (getI hx) (yLss ?_)
    by_cases g1 : x < 0
    · simp only [g1, evL, reduceIte, decide_true]; exact no (x5.trans D1) fun h => by have := (h.2.2.2.2 x hxm).1; omega
    simp only [g1, evL, reduceIte, Bool.false_eq_true, decide_false]
    refine yfB hbS fa_61_4 l1_57 rfl ?_
    refine ySl xa_57 l1_3 h5'.ex (fun _ h => h) (by omega) (by omega) (getI hx) ?_
    refine yfB hbS fa_61_3 l1_59 rfl (yLen xa_59 hms (yGeq ?_))
    by_cases g2 : x ≥ ((i.methods.length : Nat) : Int)
    · simp only [g2, evL, decide_true]; exact no (x5.trans D1) fun h => by have := (h.2.2.2.2 x hxm).2; omega
    simp only [g2, evL, decide_false]
    refine V_add.2 ?_
    rw [wrap_id (by omega) (by omega), i64_succ]
    refine ⟨⟨j + 1, rfl, by omega, x5.trans D1, fun y hy => ?_⟩, by simp only [intOf_i64]; omega⟩
    rw [List.take_add_one, hx] at hy
    rcases List.mem_append.1 hy with hy | hy
    · exact halle y hy
    · simp at hy; subst hy; exact ⟨by omega, by omega⟩
  have hjl : j = i.exports.length := by omega
  subst hjl
  rw [List.take_length] at halle
  have h0 := rgets (i := i) (by omega)
  have fin : ∀ b, (b = true ↔ (i.meth 0).params = [] ∧ (i.meth 0).result = 0) → R (.bool b) w5 := fun b hbb => hR _ _ ⟨b, rfl, hbb.trans ⟨fun hh => ⟨hk1.1 rfl, ⟨by omega, hall⟩, ⟨⟨by omega, by omega⟩, hallm, hh.1, hh.2⟩, by omega, halle⟩, fun hh => hh.2.2.1.2.2⟩, xx.trans x5⟩
  refine ldB (hb.ext x5) fa_61_3 l1_59 rfl ?_
  refine ldSF (i := 0) xa_59 fa_94_0 l1_57 h5'.mt h0 fun row hrow => ?_
  obtain ⟨pv, lv, cv, rfl, hp, _, _⟩ := hrow
  refine ⟨pv, rfl, by decide, lnx xa_57 hp (V_eqlI.2 ?_)⟩
  by_cases h7 : (((i.meth 0).params.length : Nat) : Int) = 0
  case neg =>
    simp only [h7, evL, reduceIte, Bool.false_eq_true, decide_false]
    exact fin _ ⟨fun h => (by cases h), fun h => by rw [h.1] at h7; simp at h7⟩
  simp only [h7, evL, reduceIte, decide_true]
  refine ldB (hb.ext x5) fa_61_3 l1_59 rfl ?_
  refine ldSF (i := 0) xa_59 fa_94_1 l1_3 h5'.mt h0 fun row hrow => ?_
  obtain ⟨pv, lv, cv, rfl, _, _, _⟩ := hrow
  refine ⟨i64 (i.meth 0).result, rfl, by decide, V_eqlI.2 ?_⟩
  exact fin _ (decide_eq_true_iff.trans ⟨fun h => ⟨List.eq_nil_of_length_eq_zero (by omega), h⟩, fun h => h.2⟩)
end Go.Proofs.YthblbcjgdbaonaaGreatDoor
namespace Go.Proofs.YthblbcjgdbaonaaGreatDoor
open Go.Vc Go.Tc
variable {w : World} {K : Value → World → Prop}
theorem getD_get {l : List Int} {a : Nat} (h : a < l.length) : l[a]? = some (l.getD a 0) := by
  rw [List.getD_eq_getElem?_getD, List.getElem?_eq_getElem h]; rfl
theorem locs_get {m : Mth} {a : Nat} : m.locs.getD a 0 = if a < m.params.length then m.params.getD a 0 else m.locals.getD (a - m.params.length) 0 := by
  unfold Mth.locs
  simp only [List.getD_eq_getElem?_getD, List.getElem?_append]
  split <;> rfl
theorem local91 {row : List Value} {m : Mth} {a : Int} (hm : MthIs w row m) (hr : m.right) (h0 : 0 ≤ a) (hk : ∀ w', Ext w w' → K (.tuple #[i64 (m.locs.getD a.toNat 0), .bool (decide (a < (m.locs.length : Int)))]) w') :
    callD Tryz.prog 109 #[.agg row.toArray, i64 a] w K := by
  obtain ⟨pv, lv, cv, rfl, hp, hl, hc⟩ := hm
  obtain ⟨k, rfl⟩ : ∃ k : Nat, a = k := ⟨a.toNat, by omega⟩
  have c1 := hr.1.2; have c2 := hr.2.2.1.2
  have hlen : m.locs.length = m.params.length + m.locals.length := by simp [Mth.locs]
  apply F109_wp
  unfold F109_den
  refine bx fun b1 w1 hb x1 => ?_
  have hk := hk _ x1
  rw [locs_get] at hk
  simp only [Int.toNat_natCast, hlen] at hk
  refine ldB hb fa_94_0 l1_57 rfl (lnx xa_57 (hp.ext x1) (V_lss.2 (ifD_dec (fun hlt => ?_) fun hge => ?_)))
  · refine ldB hb fa_94_0 l1_57 rfl ?_
    refine ldx xa_57 l1_3 (hp.ext x1) (by omega) (by omega) (getI (getD_get (by omega))) ?_
    rw [if_pos (by omega), decide_eq_true (by omega)] at hk
    exact hk
  · rw [if_neg (by omega)] at hk
    refine ldB hb fa_94_0 l1_57 rfl (lnx xa_57 (hp.ext x1) ?_)
    refine ldB hb fa_94_2 l1_57 rfl (lnx xa_57 (hl.ext x1) (V_add.2 ?_))
    rw [wrap_id (by omega) (by omega)]
    refine V_lss.2 (ifD_dec (fun hlt2 => ?_) fun hge2 => ?_)
    · refine ldB hb fa_94_2 l1_57 rfl ?_
      refine ldB hb fa_94_0 l1_57 rfl (lnx xa_57 (hp.ext x1) (V_sub.2 ?_))
      rw [wrap_id (by omega) (by omega), show (k : Int) - (m.params.length : Int) = ((k - m.params.length : Nat) : Int) by omega]
      refine ldx xa_57 l1_3 (hl.ext x1) (by omega) (by omega) (getI (getD_get (by omega))) ?_
      rw [decide_eq_true (by omega)] at hk
      exact hk
    · rw [decide_eq_false (by omega)] at hk
      have : m.locals.getD (k - m.params.length) 0 = 0 := by rw [List.getD_eq_getElem?_getD, List.getElem?_eq_none (by omega)]; rfl
      rw [this] at hk
      exact hk
theorem meth_get {i : Img} {a : Int} (h0 : 0 ≤ a) (h : a < i.methods.length) : i.methods[a.toNat]? = some (i.meth a) := by
  unfold Img.meth
  rw [List.getD_eq_getElem?_getD, List.getElem?_eq_getElem (by omega)]; rfl
theorem imp_get {i : Img} {a : Int} (h0 : 0 ≤ a) (h : a < i.imports.length) : i.imports[a.toNat]? = some (i.imp a) := by
  unfold Img.imp
  rw [List.getD_eq_getElem?_getD, List.getElem?_eq_getElem (by omega)]; rfl
theorem names55 {p : ImgV} {i : Img} {row : List Value} {m : Mth} {x : Ins} (h : ImgAt w p i) (hm : MthIs w row m) (hr : m.right) (hx : x.right) :
    callD Tryz.prog 74 #[p.val i, .agg row.toArray, .agg #[i64 x.op, i64 x.a, i64 x.b]] w (Tells (namesS i m x) w) := by
  obtain ⟨op, a, b⟩ := x
  obtain ⟨ho, a1, a2, _⟩ := hx
  have hm0 := hm
  obtain ⟨pv, lv, cv, rfl, hp, hl, hc⟩ := hm
  apply F74_wp
  suffices key : ∀ R : Value → World → Prop, (∀ v w', Tells (namesS i m ⟨op, a, b⟩) w v w' → R v w') → F74_den (p.val i) (.agg [pv, i64 m.result, lv, cv].toArray) (.agg #[i64 op, i64 a, i64 b]) w R from key _ fun _ _ h => h
  intro R hR
  unfold F74_den ImgV.val
  refine bx fun b1 w1 hb1 x1 => ?_
  refine bx fun b2 w2 hb2 x2 => ?_
  refine bx fun b3 w3 hb3 x3 => ?_
  have hb1 := (hb1.ext x2).ext x3
  have hb2 : Boxed w3 b2 [pv, i64 m.result, lv, cv] := hb2.ext x3
  have xx := (x1.trans x2).trans x3
  have h' := h.ext xx
  refine ldB hb3 fa_97_0 l1_3 rfl ?_
  by_cases c1 : op = 2 ∨ op = 3
  · have hs : namesS i m ⟨op, a, b⟩ ↔ a < (m.locs.length : Int) := by unfold namesS; dsimp only; rw [if_pos c1]
    have ha : 0 ≤ a := by rcases c1 with rfl | rfl <;> exact a1
    rcases c1 with rfl | rfl
    all_goals
      simp only [evL, Int.reduceEq, decide_true, decide_false]
      refine ldA hb2 la_94 rfl ?_
      refine ldB hb3 (by first | exact fa_105_0 | exact fa_115_0 | exact fa_115_1 | exact fa_127_1 | exact fa_127_2 | exact fa_141_0 | exact fa_141_1 | exact fa_141_2 | exact fa_141_3 | exact fa_141_4 | exact fa_143_0 | exact fa_143_1 | exact fa_143_2 | exact fa_143_3 | exact fa_200_0 | exact fa_200_1 | exact fa_25_0 | exact fa_25_1 | exact fa_25_2 | exact fa_25_3 | exact fa_25_4 | exact fa_25_5 | exact fa_25_6 | exact fa_25_7 | exact fa_25_8 | exact fa_27_0 | exact fa_27_1 | exact fa_27_2 | exact fa_29_0 | exact fa_29_1 | exact fa_29_2 | exact fa_29_3 | exact fa_29_4 | exact fa_29_5 | exact fa_61_0 | exact fa_61_1 | exact fa_61_2 | exact fa_61_3 | exact fa_61_4 | exact fa_91_0 | exact fa_91_1 | exact fa_91_2 | exact fa_91_3 | exact fa_94_0 | exact fa_94_1 | exact fa_94_2 | exact fa_94_3 | exact fa_97_0 | exact fa_97_1) (by first | exact l1_22 | exact l1_23 | exact l1_3) rfl ?_
      refine local91 (hm0.ext xx) hr ha fun w4 x4 => ?_
      refine V_ext0.2 (V_ext1.2 ?_)
      exact hR _ _ ⟨_, rfl, decide_eq_true_iff.trans hs.symm, xx.trans x4⟩
  by_cases c2 : op = 33 ∨ op = 34
  · have hs : namesS i m ⟨op, a, b⟩ ↔ a < (i.fields.length : Int) := by unfold namesS; dsimp only; rw [if_neg c1, if_pos c2]
    rcases c2 with rfl | rfl
    all_goals
      simp only [evL, Int.reduceEq, decide_true, decide_false]
      refine ldB hb3 (by first | exact fa_105_0 | exact fa_115_0 | exact fa_115_1 | exact fa_127_1 | exact fa_127_2 | exact fa_141_0 | exact fa_141_1 | exact fa_141_2 | exact fa_141_3 | exact fa_141_4 | exact fa_143_0 | exact fa_143_1 | exact fa_143_2 | exact fa_143_3 | exact fa_200_0 | exact fa_200_1 | exact fa_25_0 | exact fa_25_1 | exact fa_25_2 | exact fa_25_3 | exact fa_25_4 | exact fa_25_5 | exact fa_25_6 | exact fa_25_7 | exact fa_25_8 | exact fa_27_0 | exact fa_27_1 | exact fa_27_2 | exact fa_29_0 | exact fa_29_1 | exact fa_29_2 | exact fa_29_3 | exact fa_29_4 | exact fa_29_5 | exact fa_61_0 | exact fa_61_1 | exact fa_61_2 | exact fa_61_3 | exact fa_61_4 | exact fa_91_0 | exact fa_91_1 | exact fa_91_2 | exact fa_91_3 | exact fa_94_0 | exact fa_94_1 | exact fa_94_2 | exact fa_94_3 | exact fa_97_0 | exact fa_97_1) (by first | exact l1_22 | exact l1_23 | exact l1_3) rfl ?_
      refine ldB hb1 (by first | exact fa_105_0 | exact fa_115_0 | exact fa_115_1 | exact fa_127_1 | exact fa_127_2 | exact fa_141_0 | exact fa_141_1 | exact fa_141_2 | exact fa_141_3 | exact fa_141_4 | exact fa_143_0 | exact fa_143_1 | exact fa_143_2 | exact fa_143_3 | exact fa_200_0 | exact fa_200_1 | exact fa_25_0 | exact fa_25_1 | exact fa_25_2 | exact fa_25_3 | exact fa_25_4 | exact fa_25_5 | exact fa_25_6 | exact fa_25_7 | exact fa_25_8 | exact fa_27_0 | exact fa_27_1 | exact fa_27_2 | exact fa_29_0 | exact fa_29_1 | exact fa_29_2 | exact fa_29_3 | exact fa_29_4 | exact fa_29_5 | exact fa_61_0 | exact fa_61_1) (by first | exact l1_22 | exact l1_23 | exact l1_3 | exact l1_4 | exact l1_5 | exact l1_57) rfl (lnx xa_57 h'.fl (V_lss.2 ?_))
      exact hR _ _ ⟨_, rfl, decide_eq_true_iff.trans hs.symm, xx⟩
  by_cases c3 : op = 37
  · have hs : namesS i m ⟨op, a, b⟩ ↔ a < (i.methods.length : Int) := by unfold namesS; dsimp only; rw [if_neg c1, if_neg c2, if_pos c3]
    subst c3
    simp only [evL, Int.reduceEq, decide_true, decide_false]
    refine ldB hb3 fa_97_1 l1_3 rfl ?_
    refine ldB hb1 fa_61_3 l1_59 rfl (lnS xa_59 h'.mt (V_lss.2 ?_))
    exact hR _ _ ⟨_, rfl, decide_eq_true_iff.trans hs.symm, xx⟩
  by_cases c4 : op = 38
  · have hs : namesS i m ⟨op, a, b⟩ ↔ a < (i.imports.length : Int) := by unfold namesS; dsimp only; rw [if_neg c1, if_neg c2, if_neg c3, if_pos c4]
    subst c4
    simp only [evL, Int.reduceEq, decide_true, decide_false]
    refine ldB hb3 fa_97_1 l1_3 rfl ?_
    refine ldB hb1 fa_61_2 l1_58 rfl (lnS xa_58 h'.im (V_lss.2 ?_))
    exact hR _ _ ⟨_, rfl, decide_eq_true_iff.trans hs.symm, xx⟩
  by_cases c5 : op = 23 ∨ op = 24
  · have hs : namesS i m ⟨op, a, b⟩ ↔ a < (m.code.length : Int) := by unfold namesS; dsimp only; rw [if_neg c1, if_neg c2, if_neg c3, if_neg c4, if_pos c5]
    rcases c5 with rfl | rfl
    all_goals
      simp only [evL, Int.reduceEq, decide_true, decide_false]
      refine ldB hb3 (by first | exact fa_105_0 | exact fa_115_0 | exact fa_115_1 | exact fa_127_1 | exact fa_127_2 | exact fa_141_0 | exact fa_141_1 | exact fa_141_2 | exact fa_141_3 | exact fa_141_4 | exact fa_143_0 | exact fa_143_1 | exact fa_143_2 | exact fa_143_3 | exact fa_200_0 | exact fa_200_1 | exact fa_25_0 | exact fa_25_1 | exact fa_25_2 | exact fa_25_3 | exact fa_25_4 | exact fa_25_5 | exact fa_25_6 | exact fa_25_7 | exact fa_25_8 | exact fa_27_0 | exact fa_27_1 | exact fa_27_2 | exact fa_29_0 | exact fa_29_1 | exact fa_29_2 | exact fa_29_3 | exact fa_29_4 | exact fa_29_5 | exact fa_61_0 | exact fa_61_1 | exact fa_61_2 | exact fa_61_3 | exact fa_61_4 | exact fa_91_0 | exact fa_91_1 | exact fa_91_2 | exact fa_91_3 | exact fa_94_0 | exact fa_94_1 | exact fa_94_2 | exact fa_94_3 | exact fa_97_0 | exact fa_97_1) (by first | exact l1_22 | exact l1_23 | exact l1_3) rfl ?_
      refine ldB hb2 (by first | exact fa_105_0 | exact fa_115_0 | exact fa_115_1 | exact fa_127_1 | exact fa_127_2 | exact fa_141_0 | exact fa_141_1 | exact fa_141_2 | exact fa_141_3 | exact fa_141_4 | exact fa_143_0 | exact fa_143_1 | exact fa_143_2 | exact fa_143_3 | exact fa_200_0 | exact fa_200_1 | exact fa_25_0 | exact fa_25_1 | exact fa_25_2 | exact fa_25_3 | exact fa_25_4 | exact fa_25_5 | exact fa_25_6 | exact fa_25_7 | exact fa_25_8 | exact fa_27_0 | exact fa_27_1 | exact fa_27_2 | exact fa_29_0 | exact fa_29_1 | exact fa_29_2 | exact fa_29_3 | exact fa_29_4 | exact fa_29_5 | exact fa_61_0 | exact fa_61_1 | exact fa_61_2 | exact fa_61_3 | exact fa_61_4 | exact fa_91_0 | exact fa_91_1 | exact fa_91_2 | exact fa_91_3 | exact fa_94_0 | exact fa_94_1 | exact fa_94_2 | exact fa_94_3) (by first | exact l1_22 | exact l1_23 | exact l1_3 | exact l1_4 | exact l1_5 | exact l1_57 | exact l1_58 | exact l1_59 | exact l1_9 | exact l1_92) rfl (lnx xa_92 (hc.ext xx) (V_lss.2 ?_))
      exact hR _ _ ⟨_, rfl, decide_eq_true_iff.trans hs.symm, xx⟩
  · have hs : namesS i m ⟨op, a, b⟩ := by unfold namesS; dsimp only; rw [if_neg c1, if_neg c2, if_neg c3, if_neg c4, if_neg c5]; trivial
    simp only [not_or] at c1 c2 c5
    simp only [c1.1, c1.2, c2.1, c2.2, c3, c4, c5.1, c5.2, evL, decide_false]
    exact hR _ _ (Tells.yes hs xx)
theorem targets57 {x : Ins} {pc : Nat} (hp : pc ≤ 1000) (hk : ∀ v w', w'.ownsRow w.heap.size 3 1 v (nextS x pc).length ((nextS x pc).map i64) → Ext w w' → K v w') : callD Tryz.prog 76 #[.agg #[i64 x.op, i64 x.a, i64 x.b], i64 pc] w K := by
  obtain ⟨op, a, b⟩ := x
  apply F76_wp
  unfold F76_den
  refine bx fun b1 w1 hb x1 => ?_
  refine ldB hb fa_97_0 l1_3 rfl (V_eqlI.2 (ifD_dec (fun c1 => ?_) fun c1 => V_eqlI.2 (ifD_dec (fun c2 => ?_) fun c2 => V_eqlI.2 (ifD_dec (fun c3 => ?_) fun c3 => ?_))))
  · refine ldB hb fa_97_1 l1_3 rfl ?_
    refine bsl xe_57 [i64 a] rfl rfl (by simp) rfl fun v w2 ho x2 => hk _ _ ?_ (x1.trans x2)
    have e : nextS ⟨op, a, b⟩ pc = [a] := by unfold nextS; dsimp only; rw [if_pos c1]
    rw [e]; exact own_mono ho x1.size
  · refine V_add.2 ?_
    rw [wrap_id (by omega) (by omega)]
    refine ldB hb fa_97_1 l1_3 rfl ?_
    refine bsl xe_57 [i64 ((pc : Int) + 1), i64 a] rfl rfl (by simp) rfl fun v w2 ho x2 => hk _ _ ?_ (x1.trans x2)
    have e : nextS ⟨op, a, b⟩ pc = [(pc : Int) + 1, a] := by unfold nextS; dsimp only; rw [if_neg c1, if_pos c2]
    rw [e]; exact own_mono ho x1.size
  · have e : nextS ⟨op, a, b⟩ pc = [] := by unfold nextS; dsimp only; rw [if_neg c1, if_neg c2, if_pos c3]
    refine hk _ _ ?_ x1
    rw [e]; exact World.ownsRow_nil _ _ _ _
  · refine V_add.2 ?_
    rw [wrap_id (by omega) (by omega)]
    refine bsl xe_57 [i64 ((pc : Int) + 1)] rfl rfl (by simp) rfl fun v w2 ho x2 => hk _ _ ?_ (x1.trans x2)
    have e : nextS ⟨op, a, b⟩ pc = [(pc : Int) + 1] := by unfold nextS; dsimp only; rw [if_neg c1, if_neg c2, if_neg c3]
    rw [e]; exact own_mono ho x1.size
def patS (op : Int) : List UInt8 :=
  if isBin op then [105, 105] else if op = 15 ∨ op = 16 then [105] else if op = 17 ∨ op = 18 then [112, 112] else if op = 24 ∨ op = 27 then [112] else if op = 26 ∨ op = 28 then [97]
  else if op = 29 then [97, 112] else if op = 30 then [97, 112, 105] else if op = 31 ∨ op = 32 then [97, 112, 97, 112, 112] else if op = 36 then [97, 112, 112] else []
theorem pattern94 {op : Int} (ho : 1 ≤ op ∧ op ≤ 39) (hk : K (.string ⟨(patS op).toArray⟩) w) : callD Tryz.prog 112 #[i64 op] w K := by
  apply F112_wp
  unfold F112_den
  rcases op39 ho with rfl | rfl | rfl | rfl | rfl | rfl | rfl | rfl | rfl | rfl | rfl | rfl | rfl | rfl | rfl | rfl | rfl | rfl | rfl | rfl | rfl | rfl | rfl | rfl | rfl | rfl | rfl | rfl | rfl | rfl | rfl | rfl | rfl | rfl | rfl | rfl | rfl | rfl | rfl <;> (simp only [evL, Int.reduceEq, decide_true, decide_false]; exact hk)
theorem asked_len {i : Img} {m : Mth} {op a b : Int} (ho : 1 ≤ op ∧ op ≤ 39) (h : op ≠ 3 ∧ op ≠ 4 ∧ op ≠ 5 ∧ op ≠ 34 ∧ op ≠ 22 ∧ op ≠ 37 ∧ op ≠ 38 ∧ op ≠ 39) : (asked i m ⟨op, a, b⟩).length = (patS op).length := by
  obtain ⟨h1, h2, h3, h4, h5, h6, h7, h8⟩ := h
  rcases op39 ho with rfl | rfl | rfl | rfl | rfl | rfl | rfl | rfl | rfl | rfl | rfl | rfl | rfl | rfl | rfl | rfl | rfl | rfl | rfl | rfl | rfl | rfl | rfl | rfl | rfl | rfl | rfl | rfl | rfl | rfl | rfl | rfl | rfl | rfl | rfl | rfl | rfl | rfl | rfl <;> first | rfl | contradiction
theorem lenStr {P : Program} {t ty : TypeId} (ht : P.underlying t = some .string) {s : ByteArray} : (Builtin.len_ #[t] ty #[.string s]).run P w = .ok (i64 s.size) w := by
  simp [Builtin.len_, run_underlying ht, goInt]
theorem takes92 {p : ImgV} {i : Img} {row : List Value} {m : Mth} {x : Ins} (h : ImgAt w p i) (hm : MthIs w row m) (hx : Okx i m x) (hk : ∀ w', Ext w w' → K (i64 (asked i m x).length) w') :
    callD Tryz.prog 110 #[p.val i, .agg row.toArray, .agg #[i64 x.op, i64 x.a, i64 x.b]] w K := by
  obtain ⟨op, a, b⟩ := x
  obtain ⟨_, _, ⟨ho, a1, a2, _⟩, hn⟩ := hx
  obtain ⟨pv, lv, cv, rfl, hp, hl, hc⟩ := hm
  apply F110_wp
  unfold F110_den ImgV.val
  refine bx fun b1 w1 hb1 x1 => ?_
  refine bx fun b2 w2 hb2 x2 => ?_
  refine bx fun b3 w3 hb3 x3 => ?_
  have hb1 := (hb1.ext x2).ext x3
  have hb2 : Boxed w3 b2 [pv, i64 m.result, lv, cv] := hb2.ext x3
  have xx := (x1.trans x2).trans x3
  have h' := h.ext xx
  refine ldB hb3 fa_97_0 l1_3 rfl ?_
  by_cases c1 : op = 3 ∨ op = 4 ∨ op = 5 ∨ op = 34
  · rcases c1 with rfl | rfl | rfl | rfl <;> (simp only [evL, Int.reduceEq, decide_true, decide_false]; exact hk _ xx)
  by_cases c2 : op = 22
  · subst c2; simp only [evL, Int.reduceEq, decide_true, decide_false]; exact hk _ xx
  by_cases c3 : op = 37
  · subst c3
    simp only [evL, Int.reduceEq, decide_true, decide_false]
    have ha : a < (i.methods.length : Int) := hn
    have a1 : 0 ≤ a := a1
    refine ldB hb1 fa_61_3 l1_59 rfl ?_
    refine ldB hb3 fa_97_1 l1_3 rfl ?_
    obtain ⟨k, rfl⟩ : ∃ k : Nat, a = k := ⟨a.toNat, by omega⟩
    refine ldSF xa_59 fa_94_0 l1_57 h'.mt (meth_get a1 ha) fun row hrow => ?_
    obtain ⟨pv, lv, cv, rfl, hp, _, _⟩ := hrow
    exact ⟨pv, rfl, by decide, lnx xa_57 hp (hk _ xx)⟩
  by_cases c4 : op = 38
  · subst c4
    simp only [evL, Int.reduceEq, decide_true, decide_false]
    have ha : a < (i.imports.length : Int) := hn
    have a1 : 0 ≤ a := a1
    refine ldB hb1 fa_61_2 l1_58 rfl ?_
    refine ldB hb3 fa_97_1 l1_3 rfl ?_
    obtain ⟨k, rfl⟩ : ∃ k : Nat, a = k := ⟨a.toNat, by omega⟩
    refine ldSF xa_58 fa_91_2 l1_57 h'.im (imp_get a1 ha) fun row hrow => ?_
    obtain ⟨pv, rfl, hp⟩ := hrow
    exact ⟨pv, rfl, by decide, lnx xa_57 hp (hk _ xx)⟩
  by_cases c5 : op = 39
  · subst c5
    simp only [evL, Int.reduceEq, decide_true, decide_false]
    refine ldB hb2 fa_94_1 l1_3 rfl (V_neqI.2 ?_)
    have e : asked i m ⟨39, a, b⟩ = resL m.result := rfl
    rw [e] at hk
    by_cases hr : m.result = 0
    · simp only [hr, evL, not_true_eq_false, ne_eq, decide_false]
      simp only [resL, hr, reduceIte] at hk
      exact hk _ xx
    · simp only [hr, evL, not_false_eq_true, ne_eq, decide_true]
      simp only [resL, hr, reduceIte] at hk
      exact hk _ xx
  · simp only [not_or] at c1
    obtain ⟨c11, c12, c13, c14⟩ := c1
    simp only [c11, c12, c13, c14, c2, c3, c4, c5, evL, decide_false]
    refine ldB hb3 fa_97_0 l1_3 rfl (pattern94 ho ?_)
    have e := asked_len (i := i) (m := m) (a := a) (b := b) ho ⟨c11, c12, c13, c14, c2, c3, c4, c5⟩
    rw [e] at hk
    exact V.ok (lenStr Tryz.underlying9) (hk _ xx)
theorem resL_min {r : Int} (h : 0 ≤ r ∧ r ≤ 4) : ∀ c, (c = 1 ∨ c = r) → c ≤ 1 → c ≤ r → c = ((resL r).length : Int) := by
  intro c h1 h2 h3
  unfold resL
  split <;> simp <;> omega
theorem count93 {p : ImgV} {i : Img} {m : Mth} {x : Ins} (h : ImgAt w p i) (hx : Okx i m x) (hk : ∀ w', Ext w w' → K (i64 (hgt i m x)) w') :
    callD Tryz.prog 111 #[p.val i, .agg #[i64 x.op, i64 x.a, i64 x.b]] w K := by
  obtain ⟨op, a, b⟩ := x
  obtain ⟨ir, _, ⟨ho, a1, a2, _⟩, hn⟩ := hx
  apply F111_wp
  unfold F111_den ImgV.val
  refine bx fun b1 w1 hb1 x1 => ?_
  refine bx fun b3 w3 hb3 x3 => ?_
  have hb1 := hb1.ext x3
  have xx := x1.trans x3
  have h' := h.ext xx
  refine ldB hb3 fa_97_0 l1_3 rfl ?_
  by_cases c3 : op = 37
  · subst c3
    simp only [evL, Int.reduceEq, decide_true, decide_false]
    have ha : a < (i.methods.length : Int) := hn
    have a1 : 0 ≤ a := a1
    refine ldB hb1 fa_61_3 l1_59 rfl ?_
    refine ldB hb3 fa_97_1 l1_3 rfl ?_
    have hr := (ir.2.2.1.2.1 _ (Img.meth_mem a1 ha)).2.1
    have e : hgt i m ⟨37, a, b⟩ = (resL (i.meth a).result).length := rfl
    rw [e] at hk
    obtain ⟨k, rfl⟩ : ∃ k : Nat, a = k := ⟨a.toNat, by omega⟩
    refine ldSF xa_59 fa_94_1 l1_3 h'.mt (meth_get a1 ha) fun row hrow => ?_
    obtain ⟨pv, lv, cv, rfl, hp, _, _⟩ := hrow
    refine ⟨i64 (i.meth (k : Int)).result, rfl, by decide, mn2 fun c h1 h2 h3 => ?_⟩
    rw [resL_min hr c h1 h2 h3]
    exact hk _ xx
  by_cases c4 : op = 38
  · subst c4
    simp only [evL, Int.reduceEq, decide_true, decide_false]
    have ha : a < (i.imports.length : Int) := hn
    have a1 : 0 ≤ a := a1
    refine ldB hb1 fa_61_2 l1_58 rfl ?_
    refine ldB hb3 fa_97_1 l1_3 rfl ?_
    have hr := (ir.2.1.2 _ (Img.imp_mem a1 ha)).2.2
    have e : hgt i m ⟨38, a, b⟩ = (resL (i.imp a).result).length := rfl
    rw [e] at hk
    obtain ⟨k, rfl⟩ : ∃ k : Nat, a = k := ⟨a.toNat, by omega⟩
    refine ldSF xa_58 fa_91_3 l1_3 h'.im (imp_get a1 ha) fun row hrow => ?_
    obtain ⟨pv, rfl, hp⟩ := hrow
    refine ⟨i64 (i.imp (k : Int)).result, rfl, by decide, mn2 fun c h1 h2 h3 => ?_⟩
    rw [resL_min hr c h1 h2 h3]
    exact hk _ xx
  · rcases op39 ho with rfl | rfl | rfl | rfl | rfl | rfl | rfl | rfl | rfl | rfl | rfl | rfl | rfl | rfl | rfl | rfl | rfl | rfl | rfl | rfl | rfl | rfl | rfl | rfl | rfl | rfl | rfl | rfl | rfl | rfl | rfl | rfl | rfl | rfl | rfl | rfl | rfl | rfl | rfl <;> first | contradiction | (simp only [evL, Int.reduceEq, decide_true, decide_false]; exact hk _ xx)
set_option maxHeartbeats 4000000 in
theorem gives100 {p : ImgV} {i : Img} {row : List Value} {m : Mth} {x : Ins} {tv : Value} {l : List Int} (h : ImgAt w p i) (hm : MthIs w row m) (hx : Okx i m x) (ht : IntsAre w tv l) (hln : l.length = (asked i m x).length) (hk : ∀ v w', IntsAre w' v (givesS i m x l) → Ext w w' → K v w') :
    callD Tryz.prog 118 #[p.val i, .agg row.toArray, .agg #[i64 x.op, i64 x.a, i64 x.b], tv] w K := by
  obtain ⟨op, a, b⟩ := x
  obtain ⟨ir, mr, ⟨ho, a1, a2, _⟩, hn⟩ := hx
  have hm0 := hm
  obtain ⟨pv, lv, cv, rfl, hp, hl, hc⟩ := hm
  apply F118_wp
  unfold F118_den ImgV.val
  refine bx fun b1 w1 hb1 x1 => ?_
  refine bx fun b2 w2 hb2 x2 => ?_
  refine bx fun b3 w3 hb3 x3 => ?_
  have hb1 := (hb1.ext x2).ext x3
  have hb2 : Boxed w3 b2 [pv, i64 m.result, lv, cv] := hb2.ext x3
  have xx := (x1.trans x2).trans x3
  have h' := h.ext xx
  refine ldB hb3 fa_97_0 l1_3 rfl ?_
  rcases op39 ho with rfl | rfl | rfl | rfl | rfl | rfl | rfl | rfl | rfl | rfl | rfl | rfl | rfl | rfl | rfl | rfl | rfl | rfl | rfl | rfl | rfl | rfl | rfl | rfl | rfl | rfl | rfl | rfl | rfl | rfl | rfl | rfl | rfl | rfl | rfl | rfl | rfl | rfl | rfl <;> simp only [evL, Int.reduceEq, decide_true, decide_false]
  · refine bsl xe_57 [i64 (1)] rfl rfl (by simp) rfl fun v w4 ho x4 => hk _ _ (SliceIs.of_own ho) (xx.trans x4)
  · have ha : a < (m.locs.length : Int) := hn
    have a1 : 0 ≤ a := a1
    refine ldA hb2 la_94 rfl ?_
    refine ldB hb3 fa_97_1 l1_3 rfl ?_
    refine local91 (hm0.ext xx) mr a1 fun w4 x4 => V_ext0.2 (V_ext1.2 ?_)
    refine bsl xe_57 [i64 (m.locs.getD a.toNat 0)] rfl rfl (by simp) rfl fun v w5 ho x5 => hk _ _ (SliceIs.of_own ho) ((xx.trans x4).trans x5)
  · exact hk _ _ (SliceIs.nil _ _) xx
  · exact hk _ _ (SliceIs.nil _ _) xx
  · have hl1 : l.length = 1 := hln
    have D1 : Ext w3 w3.drew := (Ext.refl _).drew
    refine drawD.mk' (fun w' => Ext w3 w') D1 ?_
    refine ySl xa_57 l1_3 (ht.ext xx) (fun _ h => h) (by omega) (by omega) (getI (j := 0) (getD_get (by omega))) ?_
    refine ySl xa_57 l1_3 (ht.ext xx) (fun _ h => h) (by omega) (by omega) (getI (j := 0) (getD_get (by omega))) ?_
    refine bsl xe_57 [i64 (nth l 0), i64 (nth l 0)] rfl rfl (by simp) rfl fun v w4 ho x4 => ⟨D1.trans x4, hk _ _ (SliceIs.of_own ho) ((xx.trans D1).trans x4)⟩
  · have hl1 : l.length = 2 := hln
    have D1 : Ext w3 w3.drew := (Ext.refl _).drew
    refine drawD.mk' (fun w' => Ext w3 w') D1 ?_
    refine ySl xa_57 l1_3 (ht.ext xx) (fun _ h => h) (by omega) (by omega) (getI (j := 0) (getD_get (by omega))) ?_
    refine ySl xa_57 l1_3 (ht.ext xx) (fun _ h => h) (by omega) (by omega) (getI (j := 1) (getD_get (by omega))) ?_
    refine both117 ⟨D1, ?_⟩
    refine bsl xe_57 [i64 (both (nth l 0) (nth l 1))] rfl rfl (by simp) rfl fun v w4 ho x4 => ⟨D1.trans x4, hk _ _ (SliceIs.of_own ho) ((xx.trans D1).trans x4)⟩
  · have hl1 : l.length = 2 := hln
    have D1 : Ext w3 w3.drew := (Ext.refl _).drew
    refine drawD.mk' (fun w' => Ext w3 w') D1 ?_
    refine ySl xa_57 l1_3 (ht.ext xx) (fun _ h => h) (by omega) (by omega) (getI (j := 0) (getD_get (by omega))) ?_
    refine ySl xa_57 l1_3 (ht.ext xx) (fun _ h => h) (by omega) (by omega) (getI (j := 1) (getD_get (by omega))) ?_
    refine both117 ⟨D1, ?_⟩
    refine bsl xe_57 [i64 (both (nth l 0) (nth l 1))] rfl rfl (by simp) rfl fun v w4 ho x4 => ⟨D1.trans x4, hk _ _ (SliceIs.of_own ho) ((xx.trans D1).trans x4)⟩
  · have hl1 : l.length = 2 := hln
    have D1 : Ext w3 w3.drew := (Ext.refl _).drew
    refine drawD.mk' (fun w' => Ext w3 w') D1 ?_
    refine ySl xa_57 l1_3 (ht.ext xx) (fun _ h => h) (by omega) (by omega) (getI (j := 0) (getD_get (by omega))) ?_
    refine ySl xa_57 l1_3 (ht.ext xx) (fun _ h => h) (by omega) (by omega) (getI (j := 1) (getD_get (by omega))) ?_
    refine both117 ⟨D1, ?_⟩
    refine bsl xe_57 [i64 (both (nth l 0) (nth l 1))] rfl rfl (by simp) rfl fun v w4 ho x4 => ⟨D1.trans x4, hk _ _ (SliceIs.of_own ho) ((xx.trans D1).trans x4)⟩
  · have hl1 : l.length = 2 := hln
    have D1 : Ext w3 w3.drew := (Ext.refl _).drew
    refine drawD.mk' (fun w' => Ext w3 w') D1 ?_
    refine ySl xa_57 l1_3 (ht.ext xx) (fun _ h => h) (by omega) (by omega) (getI (j := 0) (getD_get (by omega))) ?_
    refine ySl xa_57 l1_3 (ht.ext xx) (fun _ h => h) (by omega) (by omega) (getI (j := 1) (getD_get (by omega))) ?_
    refine both117 ⟨D1, ?_⟩
    refine bsl xe_57 [i64 (both (nth l 0) (nth l 1))] rfl rfl (by simp) rfl fun v w4 ho x4 => ⟨D1.trans x4, hk _ _ (SliceIs.of_own ho) ((xx.trans D1).trans x4)⟩
  · have hl1 : l.length = 2 := hln
    have D1 : Ext w3 w3.drew := (Ext.refl _).drew
    refine drawD.mk' (fun w' => Ext w3 w') D1 ?_
    refine ySl xa_57 l1_3 (ht.ext xx) (fun _ h => h) (by omega) (by omega) (getI (j := 0) (getD_get (by omega))) ?_
    refine ySl xa_57 l1_3 (ht.ext xx) (fun _ h => h) (by omega) (by omega) (getI (j := 1) (getD_get (by omega))) ?_
    refine both117 ⟨D1, ?_⟩
    refine bsl xe_57 [i64 (both (nth l 0) (nth l 1))] rfl rfl (by simp) rfl fun v w4 ho x4 => ⟨D1.trans x4, hk _ _ (SliceIs.of_own ho) ((xx.trans D1).trans x4)⟩
  · have hl1 : l.length = 2 := hln
    have D1 : Ext w3 w3.drew := (Ext.refl _).drew
    refine drawD.mk' (fun w' => Ext w3 w') D1 ?_
    refine ySl xa_57 l1_3 (ht.ext xx) (fun _ h => h) (by omega) (by omega) (getI (j := 0) (getD_get (by omega))) ?_
    refine ySl xa_57 l1_3 (ht.ext xx) (fun _ h => h) (by omega) (by omega) (getI (j := 1) (getD_get (by omega))) ?_
    refine both117 ⟨D1, ?_⟩
    refine bsl xe_57 [i64 (both (nth l 0) (nth l 1))] rfl rfl (by simp) rfl fun v w4 ho x4 => ⟨D1.trans x4, hk _ _ (SliceIs.of_own ho) ((xx.trans D1).trans x4)⟩
  · have hl1 : l.length = 2 := hln
    have D1 : Ext w3 w3.drew := (Ext.refl _).drew
    refine drawD.mk' (fun w' => Ext w3 w') D1 ?_
    refine ySl xa_57 l1_3 (ht.ext xx) (fun _ h => h) (by omega) (by omega) (getI (j := 0) (getD_get (by omega))) ?_
    refine ySl xa_57 l1_3 (ht.ext xx) (fun _ h => h) (by omega) (by omega) (getI (j := 1) (getD_get (by omega))) ?_
    refine both117 ⟨D1, ?_⟩
    refine bsl xe_57 [i64 (both (nth l 0) (nth l 1))] rfl rfl (by simp) rfl fun v w4 ho x4 => ⟨D1.trans x4, hk _ _ (SliceIs.of_own ho) ((xx.trans D1).trans x4)⟩
  · have hl1 : l.length = 2 := hln
    have D1 : Ext w3 w3.drew := (Ext.refl _).drew
    refine drawD.mk' (fun w' => Ext w3 w') D1 ?_
    refine ySl xa_57 l1_3 (ht.ext xx) (fun _ h => h) (by omega) (by omega) (getI (j := 0) (getD_get (by omega))) ?_
    refine ySl xa_57 l1_3 (ht.ext xx) (fun _ h => h) (by omega) (by omega) (getI (j := 1) (getD_get (by omega))) ?_
    refine both117 ⟨D1, ?_⟩
    refine bsl xe_57 [i64 (both (nth l 0) (nth l 1))] rfl rfl (by simp) rfl fun v w4 ho x4 => ⟨D1.trans x4, hk _ _ (SliceIs.of_own ho) ((xx.trans D1).trans x4)⟩
  · have hl1 : l.length = 2 := hln
    have D1 : Ext w3 w3.drew := (Ext.refl _).drew
    refine drawD.mk' (fun w' => Ext w3 w') D1 ?_
    refine ySl xa_57 l1_3 (ht.ext xx) (fun _ h => h) (by omega) (by omega) (getI (j := 0) (getD_get (by omega))) ?_
    refine ySl xa_57 l1_3 (ht.ext xx) (fun _ h => h) (by omega) (by omega) (getI (j := 1) (getD_get (by omega))) ?_
    refine both117 ⟨D1, ?_⟩
    refine bsl xe_57 [i64 (both (nth l 0) (nth l 1))] rfl rfl (by simp) rfl fun v w4 ho x4 => ⟨D1.trans x4, hk _ _ (SliceIs.of_own ho) ((xx.trans D1).trans x4)⟩
  · have hl1 : l.length = 1 := hln
    refine ldx xa_57 l1_3 (ht.ext xx) (by omega) (by omega) (getI (j := 0) (getD_get (by omega))) ?_
    refine bsl xe_57 [i64 (nth l 0)] rfl rfl (by simp) rfl fun v w4 ho x4 => hk _ _ (SliceIs.of_own ho) (xx.trans x4)
  · have hl1 : l.length = 1 := hln
    refine ldx xa_57 l1_3 (ht.ext xx) (by omega) (by omega) (getI (j := 0) (getD_get (by omega))) ?_
    refine bsl xe_57 [i64 (nth l 0)] rfl rfl (by simp) rfl fun v w4 ho x4 => hk _ _ (SliceIs.of_own ho) (xx.trans x4)
  · refine bsl xe_57 [i64 (1)] rfl rfl (by simp) rfl fun v w4 ho x4 => hk _ _ (SliceIs.of_own ho) (xx.trans x4)
  · refine bsl xe_57 [i64 (1)] rfl rfl (by simp) rfl fun v w4 ho x4 => hk _ _ (SliceIs.of_own ho) (xx.trans x4)
  · have hl1 : l.length = 2 := hln
    have D1 : Ext w3 w3.drew := (Ext.refl _).drew
    refine drawD.mk' (fun w' => Ext w3 w') D1 ?_
    refine ySl xa_57 l1_3 (ht.ext xx) (fun _ h => h) (by omega) (by omega) (getI (j := 0) (getD_get (by omega))) ?_
    refine ySl xa_57 l1_3 (ht.ext xx) (fun _ h => h) (by omega) (by omega) (getI (j := 1) (getD_get (by omega))) ?_
    refine both117 ⟨D1, ?_⟩
    refine bsl xe_57 [i64 (both (nth l 0) (nth l 1))] rfl rfl (by simp) rfl fun v w4 ho x4 => ⟨D1.trans x4, hk _ _ (SliceIs.of_own ho) ((xx.trans D1).trans x4)⟩
  · have hl1 : l.length = 2 := hln
    have D1 : Ext w3 w3.drew := (Ext.refl _).drew
    refine drawD.mk' (fun w' => Ext w3 w') D1 ?_
    refine ySl xa_57 l1_3 (ht.ext xx) (fun _ h => h) (by omega) (by omega) (getI (j := 0) (getD_get (by omega))) ?_
    refine ySl xa_57 l1_3 (ht.ext xx) (fun _ h => h) (by omega) (by omega) (getI (j := 1) (getD_get (by omega))) ?_
    refine both117 ⟨D1, ?_⟩
    refine bsl xe_57 [i64 (both (nth l 0) (nth l 1))] rfl rfl (by simp) rfl fun v w4 ho x4 => ⟨D1.trans x4, hk _ _ (SliceIs.of_own ho) ((xx.trans D1).trans x4)⟩
  · have hl1 : l.length = 2 := hln
    have D1 : Ext w3 w3.drew := (Ext.refl _).drew
    refine drawD.mk' (fun w' => Ext w3 w') D1 ?_
    refine ySl xa_57 l1_3 (ht.ext xx) (fun _ h => h) (by omega) (by omega) (getI (j := 0) (getD_get (by omega))) ?_
    refine ySl xa_57 l1_3 (ht.ext xx) (fun _ h => h) (by omega) (by omega) (getI (j := 1) (getD_get (by omega))) ?_
    refine both117 ⟨D1, ?_⟩
    refine bsl xe_57 [i64 (both (nth l 0) (nth l 1))] rfl rfl (by simp) rfl fun v w4 ho x4 => ⟨D1.trans x4, hk _ _ (SliceIs.of_own ho) ((xx.trans D1).trans x4)⟩
  · have hl1 : l.length = 3 := hln
    have e : ∀ v w', IntsAre w' v [pickS l] → Ext w w' → K v w' := hk
    unfold pickS at e
    refine ldx xa_57 l1_3 (ht.ext xx) (by omega) (by omega) (getI (j := 1) (getD_get (by omega))) ?_
    refine isArr95 ?_
    change ifD (.bool (isArr (nth l 1))) _ _
    cases hz : isArr (nth l 1)
    · rw [hz] at e
      refine ifD_false.2 ?_
      have D1 : Ext w3 w3.drew := (Ext.refl _).drew
      refine drawD.mk' (fun w' => Ext w3 w') D1 ?_
      refine ySl xa_57 l1_3 (ht.ext xx) (fun _ h => h) (by omega) (by omega) (getI (j := 0) (getD_get (by omega))) ?_
      refine ySl xa_57 l1_3 (ht.ext xx) (fun _ h => h) (by omega) (by omega) (getI (j := 1) (getD_get (by omega))) ?_
      refine ySl xa_57 l1_3 (ht.ext xx) (fun _ h => h) (by omega) (by omega) (getI (j := 2) (getD_get (by omega))) ?_
      refine both117 ⟨D1, both117 ⟨D1, ?_⟩⟩
      refine bsl xe_57 [i64 (both (nth l 0) (both (nth l 1) (nth l 2)))] rfl rfl (by simp) rfl fun v w4 ho x4 => ⟨D1.trans x4, e _ _ (SliceIs.of_own ho) ((xx.trans D1).trans x4)⟩
    · rw [hz] at e
      refine ifD_true.2 ?_
      refine ldx xa_57 l1_3 (ht.ext xx) (by omega) (by omega) (getI (j := 1) (getD_get (by omega))) ?_
      refine bsl xe_57 [i64 (nth l 1)] rfl rfl (by simp) rfl fun v w4 ho x4 => e _ _ (SliceIs.of_own ho) (xx.trans x4)
  · exact hk _ _ (SliceIs.nil _ _) xx
  · exact hk _ _ (SliceIs.nil _ _) xx
  · refine ldB hb3 fa_97_1 l1_3 rfl ?_
    refine bsl xe_57 [i64 (a)] rfl rfl (by simp) rfl fun v w4 ho x4 => hk _ _ (SliceIs.of_own ho) (xx.trans x4)
  · refine bsl xe_57 [i64 (1)] rfl rfl (by simp) rfl fun v w4 ho x4 => hk _ _ (SliceIs.of_own ho) (xx.trans x4)
  · refine ldB hb3 fa_97_1 l1_3 rfl ?_
    refine bsl xe_57 [i64 (a)] rfl rfl (by simp) rfl fun v w4 ho x4 => hk _ _ (SliceIs.of_own ho) (xx.trans x4)
  · refine bsl xe_57 [i64 (1)] rfl rfl (by simp) rfl fun v w4 ho x4 => hk _ _ (SliceIs.of_own ho) (xx.trans x4)
  · have hl1 : l.length = 2 := hln
    refine ldx xa_57 l1_3 (ht.ext xx) (by omega) (by omega) (getI (j := 0) (getD_get (by omega))) ?_
    refine of118 ?_
    refine bsl xe_57 [i64 (ofK (nth l 0))] rfl rfl (by simp) rfl fun v w4 ho x4 => hk _ _ (SliceIs.of_own ho) (xx.trans x4)
  · exact hk _ _ (SliceIs.nil _ _) xx
  · exact hk _ _ (SliceIs.nil _ _) xx
  · have hl1 : l.length = 5 := hln
    have e : ∀ v w', IntsAre w' v (if nth l 0 = 4 ∨ nth l 2 = 4 then [2] else [1]) → Ext w w' → K v w' := hk
    refine ldx xa_57 l1_3 (ht.ext xx) (by omega) (by omega) (getI (j := 0) (getD_get (by omega))) ?_
    change V _ (do eqGuard .eql _ _ _ (i64 (nth l 0)) _; binOp .eql _ (i64 (nth l 0)) _) _ _
    refine V_eqlI.2 ?_
    by_cases z0 : nth l 0 = 4
    · simp only [z0, true_or, evL, reduceIte, decide_true] at e ⊢
      refine bsl xe_57 [i64 (2)] rfl rfl (by simp) rfl fun v w4 ho x4 => e _ _ (SliceIs.of_own ho) (xx.trans x4)
    · simp only [z0, evL, reduceIte, Bool.false_eq_true, decide_false]
      refine ldx xa_57 l1_3 (ht.ext xx) (by omega) (by omega) (getI (j := 2) (getD_get (by omega))) ?_
      change V _ (do eqGuard .eql _ _ _ (i64 (nth l 2)) _; binOp .eql _ (i64 (nth l 2)) _) _ _
      refine V_eqlI.2 ?_
      by_cases z2 : nth l 2 = 4
      · simp only [z2, or_true, evL, reduceIte, decide_true] at e ⊢
        refine bsl xe_57 [i64 (2)] rfl rfl (by simp) rfl fun v w4 ho x4 => e _ _ (SliceIs.of_own ho) (xx.trans x4)
      · simp only [z0, z2, or_self, evL, reduceIte, decide_false] at e ⊢
        refine bsl xe_57 [i64 (1)] rfl rfl (by simp) rfl fun v w4 ho x4 => e _ _ (SliceIs.of_own ho) (xx.trans x4)
  · have ha : a < (i.fields.length : Int) := hn
    have a1 : 0 ≤ a := a1
    refine ldB hb1 fa_61_1 l1_57 rfl ?_
    refine ldB hb3 fa_97_1 l1_3 rfl ?_
    obtain ⟨k, rfl⟩ : ∃ k : Nat, a = k := ⟨a.toNat, by omega⟩
    refine ldx xa_57 l1_3 h'.fl (by omega) (by omega) (getI (getD_get (by omega))) ?_
    refine bsl xe_57 [i64 (i.fields.getD k 0)] rfl rfl (by simp) rfl fun v w4 ho x4 => hk _ _ (SliceIs.of_own ho) (xx.trans x4)
  · exact hk _ _ (SliceIs.nil _ _) xx
  · have a1 : 1 ≤ a := a1
    have a2 : a ≤ 2 := a2
    refine ldB hb3 fa_97_1 l1_3 rfl (V_add.2 ?_)
    rw [wrap_id (by dsimp only; omega) (by dsimp only; omega)]
    refine V_sub.2 ?_
    rw [wrap_id (by dsimp only; omega) (by dsimp only; omega)]
    refine bsl xe_57 [i64 (3 + a - 1)] rfl rfl (by simp) rfl fun v w4 ho x4 => hk _ _ (SliceIs.of_own ho) (xx.trans x4)
  · exact hk _ _ (SliceIs.nil _ _) xx
  · have ha : a < (i.methods.length : Int) := hn
    have a1 : 0 ≤ a := a1
    refine ldB hb1 fa_61_3 l1_59 rfl ?_
    refine ldB hb3 fa_97_1 l1_3 rfl ?_
    have e : ∀ v w', IntsAre w' v (resL (i.meth a).result) → Ext w w' → K v w' := hk
    obtain ⟨k, rfl⟩ : ∃ k : Nat, a = k := ⟨a.toNat, by omega⟩
    refine ldSF xa_59 fa_94_1 l1_3 h'.mt (meth_get a1 ha) fun row hrow => ?_
    obtain ⟨pv2, lv2, cv2, rfl, _, _, _⟩ := hrow
    refine ⟨i64 (i.meth (k : Int)).result, rfl, by decide, V_neqI.2 ?_⟩
    by_cases hr : (i.meth (k : Int)).result = 0
    · simp only [hr, evL, not_true_eq_false, ne_eq, decide_false]; refine e _ _ ?_ xx; rw [resL, if_pos hr]; exact SliceIs.nil _ _
    · simp only [hr, evL, not_false_eq_true, ne_eq, decide_true]; refine bsl xe_57 [i64 (i.meth (k : Int)).result] rfl rfl (by simp) rfl fun v w4 ho x4 => e _ _ ?_ (xx.trans x4); rw [resL, if_neg hr]; exact SliceIs.of_own ho
  · have ha : a < (i.imports.length : Int) := hn
    have a1 : 0 ≤ a := a1
    refine ldB hb1 fa_61_2 l1_58 rfl ?_
    refine ldB hb3 fa_97_1 l1_3 rfl ?_
    have e : ∀ v w', IntsAre w' v (resL (i.imp a).result) → Ext w w' → K v w' := hk
    obtain ⟨k, rfl⟩ : ∃ k : Nat, a = k := ⟨a.toNat, by omega⟩
    refine ldSF xa_58 fa_91_3 l1_3 h'.im (imp_get a1 ha) fun row hrow => ?_
    obtain ⟨pv2, rfl, _⟩ := hrow
    refine ⟨i64 (i.imp (k : Int)).result, rfl, by decide, V_neqI.2 ?_⟩
    by_cases hr : (i.imp (k : Int)).result = 0
    · simp only [hr, evL, not_true_eq_false, ne_eq, decide_false]; refine e _ _ ?_ xx; rw [resL, if_pos hr]; exact SliceIs.nil _ _
    · simp only [hr, evL, not_false_eq_true, ne_eq, decide_true]; refine bsl xe_57 [i64 (i.imp (k : Int)).result] rfl rfl (by simp) rfl fun v w4 ho x4 => e _ _ ?_ (xx.trans x4); rw [resL, if_neg hr]; exact SliceIs.of_own ho
  · exact hk _ _ (SliceIs.nil _ _) xx
end Go.Proofs.YthblbcjgdbaonaaGreatDoor
namespace Go.Tc
def patK : List UInt8 → List Int → Bool
  | c :: p, k :: l => (if c = 97 then !isArr k else !isInt k) || patK p l
  | _, _ => false
def patL : List UInt8 → List Int → Bool
  | c :: p, k :: l => (c == 112 && (k == 2 || k == 4)) || patL p l
  | _, _ => false
def toAsk (c : UInt8) : Int := if c = 97 then -4 else if c = 112 then -3 else -2
theorem patA : ∀ {p : List UInt8} {l : List Int}, (∀ c ∈ p, c = 97 ∨ c = 112 ∨ c = 105) → Kds l → ((patK p l || patL p l) = false ↔ doesL (p.map toAsk) l = true ∧ showsL (p.map toAsk) l = false)
  | [], _, _, _ => by simp [patK, patL, doesL, showsL]
  | _ :: _, [], _, _ => by simp [patK, patL, doesL, showsL]
  | c :: p, k :: l, hp, hl => by
    have ih := patA (p := p) (l := l) (fun c hc => hp c (by simp [hc])) fun k hk => hl k (by simp [hk])
    have hk : Kd k := hl k (by simp)
    have ek : k = 1 ∨ k = 2 ∨ k = 3 ∨ k = 4 := by obtain ⟨h1, h2⟩ := hk; omega
    simp only [patK, patL, doesL, showsL, List.map_cons]
    generalize patK p l = A at ih ⊢
    generalize patL p l = B at ih ⊢
    generalize doesL (p.map toAsk) l = C at ih ⊢
    generalize showsL (p.map toAsk) l = D at ih ⊢
    rcases hp c (by simp) with rfl | rfl | rfl <;> rcases ek with rfl | rfl | rfl | rfl <;>
      (simp [toAsk, doesK, showsK, isInt, isArr]; try (revert ih; cases A <;> cases B <;> cases C <;> cases D <;> simp))
def intoT (a b : Int) : Int := if isInt a ≠ isInt b ∨ (isArr a = true ∧ a ≠ b) then 11 else if (a == b || (a == 1 && b == 2)) then 0 else 12
def inK : List Int → List Int → Bool
  | a :: t, k :: l => (intoT k a == 11) || inK t l
  | _, _ => false
def inL : List Int → List Int → Bool
  | a :: t, k :: l => (intoT k a == 12) || inL t l
  | _, _ => false
theorem intoT_ok {k a : Int} (hk : Kd k) (ha : Kd a) : ((intoT k a == 11) || (intoT k a == 12)) = false ↔ doesK k a = true ∧ showsK k a = false := by
  have ek : k = 1 ∨ k = 2 ∨ k = 3 ∨ k = 4 := by obtain ⟨h1, h2⟩ := hk; omega
  have ea : a = 1 ∨ a = 2 ∨ a = 3 ∨ a = 4 := by obtain ⟨h1, h2⟩ := ha; omega
  rcases ek with rfl | rfl | rfl | rfl <;> rcases ea with rfl | rfl | rfl | rfl <;> decide
theorem inA : ∀ {t l : List Int}, Kds t → Kds l → ((inK t l || inL t l) = false ↔ doesL t l = true ∧ showsL t l = false)
  | [], _, _, _ => by simp [inK, inL, doesL, showsL]
  | _ :: _, [], _, _ => by simp [inK, inL, doesL, showsL]
  | a :: t, k :: l, ht, hl => by
    have ih := inA (t := t) (l := l) (fun c hc => ht c (by simp [hc])) fun k hk => hl k (by simp [hk])
    have h1 := intoT_ok (hl k (by simp)) (ht a (by simp))
    simp only [inK, inL, doesL, showsL]
    generalize inK t l = A at ih ⊢
    generalize inL t l = B at ih ⊢
    generalize doesL t l = C at ih ⊢
    generalize showsL t l = D at ih ⊢
    generalize (intoT k a == 11) = E at h1 ⊢
    generalize (intoT k a == 12) = F at h1 ⊢
    generalize doesK k a = G at h1 ⊢
    generalize showsK k a = H at h1 ⊢
    revert ih h1
    cases A <;> cases B <;> cases C <;> cases D <;> cases E <;> cases F <;> cases G <;> cases H <;> simp
theorem inK_take : ∀ {t l : List Int} {j : Nat} {a k : Int}, t[j]? = some a → l[j]? = some k → inK (t.take (j + 1)) (l.take (j + 1)) = (inK (t.take j) (l.take j) || intoT k a == 11)
  | [], _, _, _, _, h, _ => by simp at h
  | _ :: _, [], _, _, _, _, h => by simp at h
  | a :: t, k :: l, 0, _, _, h1, h2 => by simp at h1 h2; subst h1 h2; simp [inK]
  | a :: t, k :: l, j + 1, _, _, h1, h2 => by
    have := inK_take (t := t) (l := l) (j := j) (by simpa using h1) (by simpa using h2)
    simp only [List.take_succ_cons, inK] at this ⊢
    rw [this, Bool.or_assoc]
theorem inL_take : ∀ {t l : List Int} {j : Nat} {a k : Int}, t[j]? = some a → l[j]? = some k → inL (t.take (j + 1)) (l.take (j + 1)) = (inL (t.take j) (l.take j) || intoT k a == 12)
  | [], _, _, _, _, h, _ => by simp at h
  | _ :: _, [], _, _, _, _, h => by simp at h
  | a :: t, k :: l, 0, _, _, h1, h2 => by simp at h1 h2; subst h1 h2; simp [inL]
  | a :: t, k :: l, j + 1, _, _, h1, h2 => by
    have := inL_take (t := t) (l := l) (j := j) (by simpa using h1) (by simpa using h2)
    simp only [List.take_succ_cons, inL] at this ⊢
    rw [this, Bool.or_assoc]
theorem patK_take : ∀ {p : List UInt8} {l : List Int} {j : Nat} {c : UInt8} {k : Int}, p[j]? = some c → l[j]? = some k → patK (p.take (j + 1)) (l.take (j + 1)) = (patK (p.take j) (l.take j) || (if c = 97 then !isArr k else !isInt k))
  | [], _, _, _, _, h, _ => by simp at h
  | _ :: _, [], _, _, _, _, h => by simp at h
  | a :: t, k :: l, 0, _, _, h1, h2 => by simp at h1 h2; subst h1 h2; simp [patK]
  | a :: t, k :: l, j + 1, _, _, h1, h2 => by
    have := patK_take (p := t) (l := l) (j := j) (by simpa using h1) (by simpa using h2)
    simp only [List.take_succ_cons, patK] at this ⊢
    rw [this, Bool.or_assoc]
theorem patL_take : ∀ {p : List UInt8} {l : List Int} {j : Nat} {c : UInt8} {k : Int}, p[j]? = some c → l[j]? = some k → patL (p.take (j + 1)) (l.take (j + 1)) = (patL (p.take j) (l.take j) || (c == 112 && (k == 2 || k == 4)))
  | [], _, _, _, _, h, _ => by simp at h
  | _ :: _, [], _, _, _, _, h => by simp at h
  | a :: t, k :: l, 0, _, _, h1, h2 => by simp at h1 h2; subst h1 h2; simp [patL]
  | a :: t, k :: l, j + 1, _, _, h1, h2 => by
    have := patL_take (p := t) (l := l) (j := j) (by simpa using h1) (by simpa using h2)
    simp only [List.take_succ_cons, patL] at this ⊢
    rw [this, Bool.or_assoc]
end Go.Tc
namespace Go.Proofs.YthblbcjgdbaonaaGreatDoor
open Go.Vc Go.Tc
variable {w : World} {K : Value → World → Prop}
abbrev Wr (w : World) (g : Nat) (kf lf : Bool) : Prop := Blk w g [.bool kf, .bool lf] 200
theorem check98 {g : Nat} {kf lf : Bool} {e : Int} (hb : Wr w g kf lf) (hk : ∀ w', Wr w' g (kf || e == 11) (lf || e == 12) → (∀ a, Ext a w → a.heap.size ≤ g → Ext a w') → K (.tuple #[]) w') :
    callD Tryz.prog 116 #[.pointer (some ⟨g, 0, none⟩), i64 e] w K := by
  apply F116_wp
  unfold F116_den
  refine ⟨.inl ⟨_, rfl⟩, ?_⟩
  refine ldB hb.boxed fa_200_0 l1_4 rfl ?_
  cases kf <;> cases lf <;>
    (simp only [evL, reduceIte, Bool.false_eq_true]
     refine ⟨.inl ⟨_, rfl⟩, ?_⟩
     refine stF (by first | exact fa_105_0 | exact fa_115_0 | exact fa_115_1 | exact fa_127_1 | exact fa_127_2 | exact fa_141_0 | exact fa_141_1 | exact fa_141_2 | exact fa_141_3 | exact fa_141_4 | exact fa_143_0 | exact fa_143_1 | exact fa_143_2 | exact fa_143_3 | exact fa_200_0) inf4 hb (n := 2) rfl (by decide) rfl ⟨.inl ⟨_, rfl⟩, ?_⟩
     have hb1 := hb.set 0
     refine ldB (hb1 _).boxed (by first | exact fa_105_0 | exact fa_115_0 | exact fa_115_1 | exact fa_127_1 | exact fa_127_2 | exact fa_141_0 | exact fa_141_1 | exact fa_141_2 | exact fa_141_3 | exact fa_141_4 | exact fa_143_0 | exact fa_143_1 | exact fa_143_2 | exact fa_143_3 | exact fa_200_0 | exact fa_200_1) (by first | exact l1_22 | exact l1_23 | exact l1_3 | exact l1_4) rfl ?_
     simp only [evL, reduceIte, Bool.false_eq_true]
     refine ⟨.inl ⟨_, rfl⟩, ?_⟩
     refine stF (by first | exact fa_105_0 | exact fa_115_0 | exact fa_115_1 | exact fa_127_1 | exact fa_127_2 | exact fa_141_0 | exact fa_141_1 | exact fa_141_2 | exact fa_141_3 | exact fa_141_4 | exact fa_143_0 | exact fa_143_1 | exact fa_143_2 | exact fa_143_3 | exact fa_200_0 | exact fa_200_1) inf4 (hb1 _) (n := 2) rfl (by decide) rfl ?_
     exact hk _ ((hb1 _).set 1 _) fun a ha hg => (ha.setCell hg _).setCell hg _)
end Go.Proofs.YthblbcjgdbaonaaGreatDoor
namespace Go.Tc
theorem joinL_snoc : ∀ {a b acc : List Int} {j : Nat} {x y k : Int}, a[j]? = some x → b[j]? = some y → joinL (a.take j) (b.take j) = some acc → joinK x y = some k → joinL (a.take (j + 1)) (b.take (j + 1)) = some (acc ++ [k])
  | [], _, _, _, _, _, _, h, _, _, _ => by simp at h
  | _ :: _, [], _, _, _, _, _, _, h, _, _ => by simp at h
  | a :: l, b :: m, acc, 0, x, y, k, h1, h2, h3, h4 => by
    simp at h1 h2; subst h1 h2
    simp [joinL] at h3; subst h3
    simp [joinL, h4]
  | a :: l, b :: m, acc, j + 1, x, y, k, h1, h2, h3, h4 => by
    simp only [List.take_succ_cons, joinL, Option.bind_eq_some_iff, Option.map_eq_some_iff] at h3
    obtain ⟨q, hq, r, hr, rfl⟩ := h3
    have := joinL_snoc (a := l) (b := m) (by simpa using h1) (by simpa using h2) hr h4
    simp only [List.take_succ_cons, joinL] at this ⊢
    rw [hq, this]; rfl
theorem joinL_no : ∀ {a b : List Int} {j : Nat} {x y : Int}, a[j]? = some x → b[j]? = some y → joinK x y = none → joinL a b = none
  | [], _, _, _, _, h, _, _ => by simp at h
  | _ :: _, [], _, _, _, _, h, _ => by simp at h
  | a :: l, b :: m, 0, x, y, h1, h2, h4 => by
    simp at h1 h2; subst h1 h2
    simp [joinL, h4]
  | a :: l, b :: m, j + 1, x, y, h1, h2, h4 => by
    have := joinL_no (a := l) (b := m) (by simpa using h1) (by simpa using h2) h4
    simp [joinL, this]
theorem joinL_ne : ∀ {a b : List Int}, a.length ≠ b.length → joinL a b = none
  | [], [], h => absurd rfl h
  | [], _ :: _, _ => rfl
  | _ :: _, [], _ => rfl
  | a :: l, b :: m, h => by
    have := joinL_ne (a := l) (b := m) (by simpa using h)
    simp [joinL, this]
end Go.Tc
namespace Go.Proofs.YthblbcjgdbaonaaGreatDoor
open Go.Vc Go.Tc
variable {w : World} {K : Value → World → Prop}
theorem sameInts59 {av bv : Value} {a b : List Int} (ha : IntsAre w av a) (hb : IntsAre w bv b) (hk : ∀ w', Ext w w' → K (.bool (decide (a = b))) w') : callD Tryz.prog 78 #[av, bv] w K := by
  have ca := ints_cap ha
  apply F78_wp
  unfold F78_den
  refine lnx xa_57 ha (lnx xa_57 hb (V_neqI.2 (ifD_dec (fun hne => ?_) fun heq => ?_)))
  · have : ¬ a = b := fun e => hne (by rw [e])
    rw [decide_eq_false this] at hk
    exact hk _ (Ext.refl _)
  have hl : a.length = b.length := by omega
  refine ⟨fun v w' => ∃ j : Nat, v = i64 j ∧ j ≤ a.length ∧ Ext w w' ∧ a.take j = b.take j, fun v _ => a.length - (RowKit.intOf v).toNat, ⟨0, rfl, Nat.zero_le _, Ext.refl _, rfl⟩, ?_⟩
  rintro _ w1 ⟨j, rfl, hj, x1, hjs⟩ _
  refine lnx xa_57 (ha.ext x1) (V_lss.2 (ifD_dec (fun hlt => ?_) fun hge => ?_))
  · obtain ⟨x, hx⟩ := ex_get (l := a) (j := j) (by omega)
    obtain ⟨y, hy⟩ := ex_get (l := b) (j := j) (by omega)
    have D1 : Ext w1 w1.drew := (Ext.refl _).drew
    refine drawD.mk' (fun w' => Ext w1 w') D1 ?_
    refine ySl xa_57 l1_3 (ha.ext x1) (fun _ h => h) (by omega) (by omega) (getI hx) ?_
    refine ySl xa_57 l1_3 (hb.ext x1) (fun _ h => h) (by omega) (by omega) (getI hy) ?_
    refine yieldS.ok (fun w' _ => r_neqI) (ifD_dec (fun hne => ?_) fun heq => ?_)
    · have : ¬ a = b := fun e => hne (by subst e; rw [hx] at hy; cases hy; rfl)
      rw [decide_eq_false this] at hk
      exact hk _ (x1.trans D1)
    · have : x = y := by simpa using heq
      subst this
      refine V_add.2 ?_
      rw [wrap_id (by omega) (by unfold maxLen at ca; omega), i64_succ]
      exact ⟨⟨j + 1, rfl, by omega, x1.trans D1, by rw [List.take_add_one, List.take_add_one, hx, hy, hjs]⟩, by simp only [intOf_i64]; omega⟩
  · have hjl : j = a.length := by omega
    subst hjl
    have : a = b := by
      rw [List.take_length, hl, List.take_length] at hjs; exact hjs
    rw [decide_eq_true this] at hk
    exact hk _ x1
theorem JoinAll58 {av bv : Value} {a b : List Int} (ha : IntsAre w av a) (hb : IntsAre w bv b) (ka : Kds a) (kb : Kds b) (hl8 : a.length ≤ 1000)
    (yes : ∀ j v w', joinL a b = some j → w'.ownsRow w.heap.size 3 1 v j.length (j.map i64) → Ext w w' → K (.tuple #[v, .bool true]) w') (no : ∀ w', joinL a b = none → Ext w w' → K (.tuple #[nilS, .bool false]) w') :
    callD Tryz.prog 77 #[av, bv] w K := by
  apply F77_wp
  unfold F77_den
  refine lnx xa_57 ha (lnx xa_57 hb (V_neqI.2 (ifD_dec (fun hne => ?_) fun heq => ?_)))
  · exact no _ (joinL_ne fun e => hne (by rw [e])) (Ext.refl _)
  have hl : a.length = b.length := by omega
  refine ⟨fun ov v w' => ∃ (j : Nat) (acc : List Int), v = i64 j ∧ j ≤ a.length ∧ Ext w w' ∧ joinL (a.take j) (b.take j) = some acc ∧ acc.length = j ∧ w'.ownsRow w.heap.size 3 1 ov j (acc.map i64), fun _ v _ => a.length - (RowKit.intOf v).toNat,
    ⟨0, [], rfl, Nat.zero_le _, Ext.refl _, rfl, rfl, World.ownsRow_nil _ _ _ _⟩, ?_⟩
  rintro ov _ w1 ⟨j, acc, rfl, hj, x1, hacc, hal, ho⟩ _
  refine lnx xa_57 (ha.ext x1) (V_lss.2 (ifD_dec (fun hlt => ?_) fun hge => ?_))
  · obtain ⟨x, hx⟩ := ex_get (l := a) (j := j) (by omega)
    obtain ⟨y, hy⟩ := ex_get (l := b) (j := j) (by omega)
    have D1 : Ext w1 w1.drew := (Ext.refl _).drew
    have xd := x1.trans D1
    refine drawD.mk' (fun w' => Ext w1 w') D1 ?_
    refine ySl xa_57 l1_3 (ha.ext x1) (fun _ h => h) (by omega) (by omega) (getI hx) ?_
    refine ySl xa_57 l1_3 (hb.ext x1) (fun _ h => h) (by omega) (by omega) (getI hy) ?_
    refine join101 (ka x (List.mem_of_getElem? hx)) (kb y (List.mem_of_getElem? hy)) ⟨D1, ?_⟩
    unfold joinV
    cases hk : joinK x y with
    | none =>
      refine yieldS.ok (fun w' _ => r_ext0) (yieldS.ok (fun w' _ => r_ext1) (V_not.2 (ifD_true.2 ?_)))
      exact no _ (joinL_no hx hy hk) xd
    | some k =>
      refine yieldS.ok (fun w' _ => r_ext0) (yieldS.ok (fun w' _ => r_ext1) (V_not.2 (ifD_false.2 ?_)))
      refine bsl xe_57 [i64 k] rfl rfl (by simp) rfl fun v2 w2 ho2 x2 => ?_
      have x12 := D1.trans x2
      refine apO xe_57 (x12.own ho) (SliceIs.of_own ho2) rfl (by omega) (by unfold maxLen; omega) (xd.trans x2).size fun v3 w3 ho3 hg3 => ?_
      refine V_add.2 ?_
      rw [wrap_id (by omega) (by omega), i64_succ]
      refine ⟨⟨j + 1, acc ++ [k], rfl, by omega, (xd.trans x2).grown hg3 fun q hq => ((x12.own ho).lt q hq).1, joinL_snoc hx hy hacc hk, by simp [hal], by simpa using ho3⟩, by simp only [intOf_i64]; omega⟩
  · have hjl : j = a.length := by omega
    subst hjl
    rw [List.take_length, hl, List.take_length] at hacc
    refine yes acc ov _ hacc ?_ x1
    have := ho
    rw [← hal] at this
    exact this
end Go.Proofs.YthblbcjgdbaonaaGreatDoor
namespace Go.Vc
section
variable {P : Program} {w : World} {S : World → Prop} {L : Value → Prop}
theorem r_idxS {t : TypeId} (ht : P.underlying t = some .string) {s : ByteArray} {j : Nat} {c : UInt8} (h : s[j]? = some c) : (Instr.index t (.string s) (i64 j)).run P w = .ok (.int .u8 c.toNat) w := by
  simp [Instr.index, asIntOf, run_underlying ht, h]
end
end Go.Vc
namespace Go.Tc
theorem pat_len {i : Img} {m : Mth} {op a b : Int} (ho : 1 ≤ op ∧ op ≤ 39) : (∀ c ∈ Go.Proofs.YthblbcjgdbaonaaGreatDoor.patS op, c = 97 ∨ c = 112 ∨ c = 105) ∧ (Go.Proofs.YthblbcjgdbaonaaGreatDoor.patS op).length ≤ (asked i m ⟨op, a, b⟩).length ∧ (¬ (op = 3 ∨ op = 34 ∨ op = 22 ∨ op = 37 ∨ op = 38 ∨ op = 39 ∨ op = 4 ∨ op = 5) → asked i m ⟨op, a, b⟩ = (Go.Proofs.YthblbcjgdbaonaaGreatDoor.patS op).map toAsk) := by
  have : op = 1 ∨ op = 2 ∨ op = 3 ∨ op = 4 ∨ op = 5 ∨ op = 6 ∨ op = 7 ∨ op = 8 ∨ op = 9 ∨ op = 10 ∨ op = 11 ∨ op = 12 ∨ op = 13 ∨ op = 14 ∨ op = 15 ∨ op = 16 ∨ op = 17 ∨ op = 18 ∨ op = 19 ∨ op = 20 ∨ op = 21 ∨ op = 22 ∨ op = 23 ∨ op = 24 ∨ op = 25 ∨ op = 26 ∨ op = 27 ∨ op = 28 ∨ op = 29 ∨ op = 30 ∨ op = 31 ∨ op = 32 ∨ op = 33 ∨ op = 34 ∨ op = 35 ∨ op = 36 ∨ op = 37 ∨ op = 38 ∨ op = 39 := by omega
  rcases this with rfl | rfl | rfl | rfl | rfl | rfl | rfl | rfl | rfl | rfl | rfl | rfl | rfl | rfl | rfl | rfl | rfl | rfl | rfl | rfl | rfl | rfl | rfl | rfl | rfl | rfl | rfl | rfl | rfl | rfl | rfl | rfl | rfl | rfl | rfl | rfl | rfl | rfl | rfl <;> refine ⟨by decide, ?_, ?_⟩ <;> first | exact Nat.zero_le _ | exact Nat.le_refl _ | exact fun _ => rfl | exact fun h => absurd (by omega) h
end Go.Tc
namespace Go.Proofs.YthblbcjgdbaonaaGreatDoor
open Go.Vc Go.Tc
variable {w : World} {K : Value → World → Prop}
theorem ySF {S : World → Prop} {L : Value → Prop} {α : Type} {T : World → List Value → α → Prop} {sz : Nat} {t s f o ft : Nat} {v : Value} {l : List α} {i : Nat} {e : α} (h : XA Tryz.prog t sz) (hf : FA Tryz.prog s f o) (hl : L1 Tryz.prog ft) (hs : StrsAre T sz w v l) (hx : ∀ w', S w' → Ext w w') (hi : l[i]? = some e)
    (hk : ∀ row, T w row e → ∃ u, row[o]? = some u ∧ o < sz ∧ L u) : yieldS Tryz.prog S (Instr.indexAt t v (i64 i)) fun p => yieldS Tryz.prog S (Instr.fieldAt s p f) fun q => yieldS Tryz.prog S (Instr.loadAt ft q) L := by
  obtain ⟨cs, h1, h2⟩ := hs
  obtain ⟨row, h3, h4⟩ := h2 i e hi
  have hlt : i < l.length := (List.getElem?_eq_some_iff.1 hi).1
  obtain ⟨u, hu, ho, hK⟩ := hk row h4
  obtain ⟨e', z, b', hte, hinf⟩ := h
  obtain ⟨d, hd, ha⟩ := hl
  obtain ⟨b, off, cap, rfl, hcell⟩ := h1.there (by omega)
  have hu' : cs[i * sz + o]? = some u := by
    rw [← h3, List.getElem?_take, if_pos ho, List.getElem?_drop] at hu; exact hu
  have hc := hcell _ _ hu'
  rw [← Nat.add_assoc] at hc
  refine yieldS.ok (fun w' _ => r_index hte hinf (by omega) (by omega)) (yieldS.ok (fun w' _ => hf.ex w' b _) (yieldS.ok (fun w' hw => r_load hd ha ?_) hK))
  have := (hx w' hw).cell hc
  simpa using this
theorem allI (l : List Int) : (l.map i64).all oneC = true := List.all_eq_true.2 fun v hv => by obtain ⟨x, _, rfl⟩ := List.mem_map.1 hv; rfl
theorem nth1 {l : List Int} (h : l.length = 1) : l = [nth l 0] := by
  match l, h with
  | [a], _ => rfl
theorem nth3 {l : List Int} (h : l.length = 3) : l = [nth l 0, nth l 1, nth l 2] := by
  match l, h with
  | [a, b, c], _ => rfl
theorem getN {l : List Int} {j : Nat} (h : j < l.length) : l[j]? = some (nth l j) := getD_get h
def Good (i : Img) (m : Mth) (x : Ins) (l : List Int) : Prop := kindsB x (asked i m x) l = true ∧ leaksB x (asked i m x) l = false
theorem goodG {i : Img} {m : Mth} {op a b : Int} {l : List Int} (h : op ≠ 22 ∧ op ≠ 30 ∧ op ≠ 31 ∧ op ≠ 36) : Good i m ⟨op, a, b⟩ l ↔ doesL (asked i m ⟨op, a, b⟩) l = true ∧ showsL (asked i m ⟨op, a, b⟩) l = false := by
  unfold Good kindsB leaksB
  dsimp only
  rw [if_neg h.1, if_neg h.1, if_neg h.2.1, if_neg h.2.2.1, if_neg h.2.2.2]
  simp
theorem good_z {A B D S z : Bool} (h : (A || B) = false ↔ D = true ∧ S = false) : (A || (B || z)) = false ↔ D = true ∧ (S || z) = false := by
  revert h; cases A <;> cases B <;> cases D <;> cases S <;> cases z <;> simp
theorem good22 {k0 k1 k2 : Int} (h0 : Kd k0) (h1 : Kd k1) (h2 : Kd k2) : ((!isInt k0 || (isInt k1 != isInt k2) || (isArr k1 && (k1 != k2))) || (isArr k1 && isSec k0)) = false ↔
    (doesL [-2, -1, -1] [k0, k1, k2] && (isInt k1 && isInt k2 || isArr k1 && k1 == k2)) = true ∧ (isArr k1 && k0 == 2) = false := by
  rcases kd4 h0 with rfl | rfl | rfl | rfl <;> rcases kd4 h1 with rfl | rfl | rfl | rfl <;> rcases kd4 h2 with rfl | rfl | rfl | rfl <;> decide
theorem good30 {A B S : Bool} {k0 k1 k2 : Int} (h0 : Kd k0) (_ : Kd k1) (h2 : Kd k2) (h : (A || B) = false ↔ doesL [-4, -3, -2] [k0, k1, k2] = true ∧ S = false) :
    (A || (B || (decide (k0 = 3) && isSec k2))) = false ↔ doesL [-4, -3, -2] [k0, k1, k2] = true ∧ (S || (k0 == 3 && k2 == 2)) = false := by
  rw [good_z h]
  rcases kd4 h0 with rfl | rfl | rfl | rfl <;> rcases kd4 h2 with rfl | rfl | rfl | rfl <;> cases S <;> simp [doesL, doesK, isArr, isInt, isSec]
theorem meth_kds {i : Img} (h : i.right) {a : Int} (h0 : 0 ≤ a) (ha : a < i.methods.length) : Kds (i.meth a).params := (h.2.2.1.2.1 _ (Img.meth_mem h0 ha)).1.1
theorem imp_kds {i : Img} (h : i.right) {a : Int} (h0 : 0 ≤ a) (ha : a < i.imports.length) : Kds (i.imp a).params := (h.2.1.2 _ (Img.imp_mem h0 ha)).2.1.1
set_option maxHeartbeats 8000000 in
theorem does56 {p : ImgV} {i : Img} {row : List Value} {m : Mth} {x : Ins} {sv : Value} {s : List Int} (h : ImgAt w p i) (hm : MthIs w row m) (hx : Okx i m x) (hs : IntsAre w sv s) (ks : Kds s) (h8 : s.length ≤ 8)
    (yes : ∀ out v w', doS i m x s = some out → w'.ownsRow w.heap.size 3 1 v out.length (out.map i64) → Ext w w' → K (.tuple #[v, i64 0]) w') (no : ∀ e w', doS i m x s = none → e ≠ 0 → Ext w w' → K (.tuple #[nilS, i64 e]) w') :
    callD Tryz.prog 75 #[p.val i, .agg row.toArray, .agg #[i64 x.op, i64 x.a, i64 x.b], sv] w K := by
  obtain ⟨op, a, b⟩ := x
  have hx0 := hx
  obtain ⟨ir, mr, ⟨ho, a1, a2, _⟩, hn⟩ := hx
  dsimp only at ho a1 a2
  have hm0 := hm
  obtain ⟨pv, lv, cv, rfl, hp, hl, hc⟩ := hm
  apply F75_wp
  unfold F75_den ImgV.val
  refine bx fun b1 w1 hb1 x1 => ?_
  refine bx fun b2 w2 hb2 x2 => ?_
  refine bx fun b3 w3 hb3 x3 => ?_
  have hb1 := (hb1.ext x2).ext x3
  have hb2 : Boxed w3 b2 [pv, i64 m.result, lv, cv] := hb2.ext x3
  have xx := (x1.trans x2).trans x3
  refine ldA hb1 la_61 rfl (ldA hb2 la_94 rfl (ldA hb3 la_97 rfl ?_))
  refine takes92 (h.ext xx) (hm0.ext xx) hx0 fun w4 x4 => ?_
  have xx4 := xx.trans x4
  refine lnx xa_57 (hs.ext xx4) (V_lss.2 (ifD_dec (fun hlt => ?_) fun hge => ?_))
  · refine no 10 _ ?_ (by decide) xx4
    unfold doS; dsimp only; rw [if_pos (.inl (by omega))]
  refine lnx xa_57 (hs.ext xx4) (V_sub.2 ?_)
  rw [wrap_id (by omega) (by omega), show (s.length : Int) - ((asked i m ⟨op, a, b⟩).length : Int) = ((s.length - (asked i m ⟨op, a, b⟩).length : Nat) : Int) by omega]
  obtain ⟨tv, trun, tsl⟩ := r_sl Tryz.underlying57 inf3 (hs.ext xx4) (lo := some (.int .i64 ((s.length - (asked i m ⟨op, a, b⟩).length : Nat) : Int))) (hi' := none) (a := s.length - (asked i m ⟨op, a, b⟩).length) (b := s.length) (.inr rfl) (.inl ⟨rfl, rfl⟩) (by omega) (Nat.le_refl _)
  refine V.ok (trun _) ?_
  refine lnx xa_57 (hs.ext xx4) (V_sub.2 ?_)
  rw [wrap_id (by omega) (by omega), show (s.length : Int) - ((asked i m ⟨op, a, b⟩).length : Int) = ((s.length - (asked i m ⟨op, a, b⟩).length : Nat) : Int) by omega]
  obtain ⟨uv, urun, usl⟩ := r_sl Tryz.underlying57 inf3 (hs.ext xx4) (lo := none) (hi' := some (.int .i64 ((s.length - (asked i m ⟨op, a, b⟩).length : Nat) : Int))) (a := 0) (b := s.length - (asked i m ⟨op, a, b⟩).length) (.inl ⟨rfl, rfl⟩) (.inr rfl) (by omega) (by omega)
  refine V.ok (urun _) ?_
  have hu4 : SliceIs w4 uv 1 (s.length - (asked i m ⟨op, a, b⟩).length) ((s.take (s.length - (asked i m ⟨op, a, b⟩).length)).map i64) := by
    have := usl _ (hs.ext xx4)
    simpa [List.map_take] using this
  have ht4 : IntsAre w4 tv (s.drop (s.length - (asked i m ⟨op, a, b⟩).length)) := by
    have := tsl _ (hs.ext xx4)
    unfold IntsAre
    rw [List.length_drop, List.map_drop]
    have e2 : ((s.map i64).drop (s.length - (asked i m ⟨op, a, b⟩).length)).take (s.length - (s.length - (asked i m ⟨op, a, b⟩).length)) = (s.map i64).drop (s.length - (asked i m ⟨op, a, b⟩).length) := List.take_of_length_le (by simp)
    rwa [e2] at this
  refine lnx xa_57 hu4 ?_
  refine ldA (hb1.ext x4) la_61 rfl (ldA (hb3.ext x4) la_97 rfl ?_)
  refine count93 (h.ext xx4) hx0 fun w5 x5 => V_add.2 ?_
  have xx5 := xx4.trans x5
  have hh2 : hgt i m ⟨op, a, b⟩ ≤ 2 := by
    unfold hgt
    rcases op39 ho with rfl | rfl | rfl | rfl | rfl | rfl | rfl | rfl | rfl | rfl | rfl | rfl | rfl | rfl | rfl | rfl | rfl | rfl | rfl | rfl | rfl | rfl | rfl | rfl | rfl | rfl | rfl | rfl | rfl | rfl | rfl | rfl | rfl | rfl | rfl | rfl | rfl | rfl | rfl <;> first | exact Nat.zero_le _ | exact Nat.le_succ 1 | exact Nat.le_refl _ | exact Nat.le_succ_of_le (resL_len _)
  rw [wrap_id (by omega) (by omega)]
  refine V_gtr.2 (ifD_dec (fun hgt8 => ?_) fun hle8 => ?_)
  · refine no 10 _ ?_ (by decide) xx5
    unfold doS; dsimp only; rw [if_pos (.inr (by omega))]
  have hdo : ∀ {l}, l = s.drop (s.length - (asked i m ⟨op, a, b⟩).length) → doS i m ⟨op, a, b⟩ s = if kindsB ⟨op, a, b⟩ (asked i m ⟨op, a, b⟩) l = true ∧ leaksB ⟨op, a, b⟩ (asked i m ⟨op, a, b⟩) l = false then some (s.take (s.length - (asked i m ⟨op, a, b⟩).length) ++ givesS i m ⟨op, a, b⟩ l) else none := by
    rintro _ rfl
    unfold doS; dsimp only; rw [if_neg (by omega)]
  have hkl : Kds (s.drop (s.length - (asked i m ⟨op, a, b⟩).length)) := fun k hk => ks k (List.mem_of_mem_drop hk)
  have hll : (s.drop (s.length - (asked i m ⟨op, a, b⟩).length)).length = (asked i m ⟨op, a, b⟩).length := by rw [List.length_drop]; omega
  have ht5 := ht4.ext x5
  generalize hL : s.drop (s.length - (asked i m ⟨op, a, b⟩).length) = l at ht5 hkl hll
  have hdo := hdo hL.symm
  refine bld bd_200 [] rfl rfl ?_
  refine bxK fun w6 hW0 x6 => ?_
  have x36 := (x4.trans x5).trans x6
  have hb1 := hb1.ext x36
  have hb2 := hb2.ext x36
  have hb3 := hb3.ext x36
  have xx6 := xx5.trans x6
  have hg0 : w5.heap.size ≤ w5.heap.size := Nat.le_refl _
  generalize hg : w5.heap.size = g at hW0 hg0
  have hW0 : Wr w6 g false false := hW0
  have f1 := (h.ext xx5); have f2 := hm0.ext xx5
  have fb1 : ∀ {w'}, Ext w5 w' → Boxed w' b1 [.string i.name, p.fv, p.iv, p.mv, p.xv] := fun hx => (((‹Boxed w3 b1 _›).ext x4).ext x5).ext hx
  have fb2 : ∀ {w'}, Ext w5 w' → Boxed w' b2 [pv, i64 m.result, lv, cv] := fun hx => (((‹Boxed w3 b2 [pv, i64 m.result, lv, cv]›).ext x4).ext x5).ext hx
  have fb3 : ∀ {w'}, Ext w5 w' → Boxed w' b3 [i64 op, i64 a, i64 b] := fun hx => (((‹Boxed w3 b3 _›).ext x4).ext x5).ext hx
  have hgs : w5.heap.size ≤ g := by omega
  refine ldB hb3 fa_97_0 l1_3 rfl (pattern94 ho ?_)
  obtain ⟨pc1, pc2, pc3⟩ := pat_len (i := i) (m := m) (a := a) (b := b) ho
  refine ⟨fun v w' => ∃ j : Nat, v = i64 j ∧ j ≤ (patS op).length ∧ Ext w5 w' ∧ Wr w' g (patK ((patS op).take j) (l.take j)) (patL ((patS op).take j) (l.take j)), fun v _ => (patS op).length - (RowKit.intOf v).toNat, ⟨0, rfl, Nat.zero_le _, x6, hW0⟩, ?_⟩
  rintro _ w7 ⟨j, rfl, hj, x7, hW⟩ _
  refine V.ok (lenStr Tryz.underlying9) (V_lss.2 (ifD_dec (fun hlt => ?_) fun hge => ?_))
  · have hlt' : j < (patS op).length := by simpa [ByteArray.size] using hlt
    obtain ⟨c, hc1⟩ : ∃ c, (patS op)[j]? = some c := ⟨_, List.getElem?_eq_getElem hlt'⟩
    have hk1 := getN (l := l) (j := j) (by omega)
    have hkd := hkl _ (List.mem_of_getElem? hk1)
    have eK := patK_take hc1 hk1
    have eL := patL_take hc1 hk1
    generalize patK ((patS op).take j) (l.take j) = A at hW eK
    generalize patL ((patS op).take j) (l.take j) = B at hW eL
    have hsc : (⟨(patS op).toArray⟩ : ByteArray)[j]? = some c := by
      rw [List.getElem?_eq_some_iff] at hc1
      obtain ⟨hq, he⟩ := hc1
      rw [getElem?_pos _ _ (by simpa [ByteArray.size] using hq)]
      exact congrArg some he
    refine V.ok (r_idxS Tryz.underlying9 hsc) (V_eqlI.2 ?_)
    have go : ∀ {w'} {A' B'}, Ext w5 w' → Wr w' g A' B' → A' = patK ((patS op).take (j + 1)) (l.take (j + 1)) → B' = patL ((patS op).take (j + 1)) (l.take (j + 1)) → V Tryz.prog (binOp .add 3 (i64 j) (i64 1)) w' fun t w2 =>
        (∃ j : Nat, t = i64 j ∧ j ≤ (patS op).length ∧ Ext w5 w2 ∧ Wr w2 g (patK ((patS op).take j) (l.take j)) (patL ((patS op).take j) (l.take j))) ∧ (patS op).length - (RowKit.intOf t).toNat < (patS op).length - (RowKit.intOf (i64 (j : Int))).toNat := by
      intro w' A' B' hx hw e1 e2
      subst e1 e2
      refine V_add.2 ?_
      have : (patS op).length ≤ 8 := by omega
      rw [wrap_id (by omega) (by omega), i64_succ]
      exact ⟨⟨j + 1, rfl, by omega, hx, hw⟩, by simp only [intOf_i64]; omega⟩
    by_cases h97 : c = 97
    · subst h97
      simp only [show (((97 : UInt8).toNat : Nat) : Int) = 97 from rfl, evL, decide_true]
      refine ⟨.inl ⟨_, rfl⟩, ldB hW.boxed fa_200_0 l1_4 rfl ?_⟩
      rw [if_pos rfl] at eK
      simp only [show ((97 : UInt8) == 112) = false from rfl, Bool.false_and, Bool.or_false] at eL
      have st : ∀ v, v = patK ((patS op).take (j + 1)) (l.take (j + 1)) → V Tryz.prog (Instr.fieldAt 200 (.pointer (some ⟨g, 0, none⟩)) 0) w7 fun t76 w43 => U Tryz.prog (Instr.storeAt 4 t76 (.bool v)) w43 fun _ w44 => V Tryz.prog (binOp .add 3 (i64 j) (i64 1)) w44 fun t w2 =>
        (∃ j : Nat, t = i64 j ∧ j ≤ (patS op).length ∧ Ext w5 w2 ∧ Wr w2 g (patK ((patS op).take j) (l.take j)) (patL ((patS op).take j) (l.take j))) ∧ (patS op).length - (RowKit.intOf t).toNat < (patS op).length - (RowKit.intOf (i64 (j : Int))).toNat := by
        rintro v hv
        refine stF fa_200_0 inf4 hW (n := 2) rfl (by decide) rfl ?_
        exact go (x7.setCell hgs _) (hW.set 0 _) hv eL.symm
      cases A with
      | true => simp only [evL, reduceIte]; exact ⟨.inl ⟨_, rfl⟩, st _ (by rw [eK]; rfl)⟩
      | false =>
        simp only [evL, reduceIte, Bool.false_eq_true]
        refine ldx xa_57 l1_3 (ht5.ext x7) (by omega) (by omega) (getI hk1) (isArr95 (V_not.2 ?_))
        exact ⟨.inl ⟨_, rfl⟩, st _ (by rw [eK]; rfl)⟩
    · have hcn : ¬ ((c.toNat : Int) = 97) := fun e => h97 (by
        apply UInt8.toNat_inj.1
        have : c.toNat = 97 := by omega
        exact this)
      simp only [hcn, evL, decide_false]
      rw [if_neg h97] at eK
      refine ⟨.inl ⟨_, rfl⟩, ldB hW.boxed fa_200_0 l1_4 rfl ?_⟩
      have second : ∀ {w1}, Ext w5 w1 → Wr w1 g (patK ((patS op).take (j + 1)) (l.take (j + 1))) B → ∀ v, v = patL ((patS op).take (j + 1)) (l.take (j + 1)) → V Tryz.prog (Instr.fieldAt 200 (.pointer (some ⟨g, 0, none⟩)) 1) w1 fun t76 w43 => U Tryz.prog (Instr.storeAt 4 t76 (.bool v)) w43 fun _ w44 => V Tryz.prog (binOp .add 3 (i64 j) (i64 1)) w44 fun t w2 =>
        (∃ j : Nat, t = i64 j ∧ j ≤ (patS op).length ∧ Ext w5 w2 ∧ Wr w2 g (patK ((patS op).take j) (l.take j)) (patL ((patS op).take j) (l.take j))) ∧ (patS op).length - (RowKit.intOf t).toNat < (patS op).length - (RowKit.intOf (i64 (j : Int))).toNat := by
        rintro w1 hx hw v hv
        refine stF fa_200_1 inf4 hw (n := 2) rfl (by decide) rfl ?_
        exact go (hx.setCell hgs _) (hw.set 1 _) rfl hv
      have kpart : ∀ v, v = patK ((patS op).take (j + 1)) (l.take (j + 1)) → Ext w5 (w7.setCell ⟨g, 0, none⟩ (.bool v)) ∧ Wr (w7.setCell ⟨g, 0, none⟩ (.bool v)) g (patK ((patS op).take (j + 1)) (l.take (j + 1))) B := by
        rintro _ rfl
        exact ⟨x7.setCell hgs _, hW.set 0 _⟩
      have hch : c = 112 ∨ c = 105 := by
        rcases pc1 c (List.mem_of_getElem? hc1) with h1 | h1 | h1
        · exact absurd h1 h97
        · exact .inl h1
        · exact .inr h1
      cases A with
      | true =>
        simp only [evL, reduceIte]
        refine ⟨.inl ⟨_, rfl⟩, ?_⟩
        refine stF fa_200_0 inf4 hW (n := 2) rfl (by decide) rfl ⟨.inl ⟨_, rfl⟩, ?_⟩
        obtain ⟨kx, kw⟩ := kpart true (by rw [eK]; rfl)
        refine ldB kw.boxed fa_200_1 l1_4 rfl ?_
        cases B with
        | true => simp only [evL, reduceIte]; exact ⟨.inl ⟨_, rfl⟩, second kx kw _ (by rw [eL]; rfl)⟩
        | false =>
          simp only [evL, reduceIte, Bool.false_eq_true]
          refine V.ok (r_idxS Tryz.underlying9 hsc) (V_eqlI.2 ?_)
          rcases hch with rfl | rfl
          · simp only [show (((112 : UInt8).toNat : Nat) : Int) = 112 from rfl, evL, reduceIte, decide_true]
            refine ldx xa_57 l1_3 (ht5.ext kx) (by omega) (by omega) (getI hk1) (isSec97 ?_)
            exact ⟨.inl ⟨_, rfl⟩, second kx kw _ (by rw [eL]; rfl)⟩
          · simp only [show (((105 : UInt8).toNat : Nat) : Int) = 105 from rfl, evL, Int.reduceEq, reduceIte, Bool.false_eq_true, decide_false]
            exact ⟨.inl ⟨_, rfl⟩, second kx kw _ (by rw [eL]; rfl)⟩
      | false =>
        simp only [evL, reduceIte, Bool.false_eq_true]
        refine ldx xa_57 l1_3 (ht5.ext x7) (by omega) (by omega) (getI hk1) (isInt96 (V_not.2 ?_))
        refine ⟨.inl ⟨_, rfl⟩, ?_⟩
        refine stF fa_200_0 inf4 hW (n := 2) rfl (by decide) rfl ⟨.inl ⟨_, rfl⟩, ?_⟩
        obtain ⟨kx, kw⟩ := kpart (!isInt (nth l j)) (by rw [eK]; rfl)
        refine ldB kw.boxed fa_200_1 l1_4 rfl ?_
        cases B with
        | true => simp only [evL, reduceIte]; exact ⟨.inl ⟨_, rfl⟩, second kx kw _ (by rw [eL]; rfl)⟩
        | false =>
          simp only [evL, reduceIte, Bool.false_eq_true]
          refine V.ok (r_idxS Tryz.underlying9 hsc) (V_eqlI.2 ?_)
          rcases hch with rfl | rfl
          · simp only [show (((112 : UInt8).toNat : Nat) : Int) = 112 from rfl, evL, reduceIte, decide_true]
            refine ldx xa_57 l1_3 (ht5.ext kx) (by omega) (by omega) (getI hk1) (isSec97 ?_)
            exact ⟨.inl ⟨_, rfl⟩, second kx kw _ (by rw [eL]; rfl)⟩
          · simp only [show (((105 : UInt8).toNat : Nat) : Int) = 105 from rfl, evL, Int.reduceEq, reduceIte, Bool.false_eq_true, decide_false]
            exact ⟨.inl ⟨_, rfl⟩, second kx kw _ (by rw [eL]; rfl)⟩
  have hjl : j = (patS op).length := by
    have : ¬ j < (patS op).length := fun hh => hge (by simpa [ByteArray.size] using hh)
    omega
  subst hjl
  rw [List.take_length] at hW
  have J : ∀ {w' kf lf}, Ext w5 w' → Wr w' g kf lf → ((kf || lf) = false ↔ Good i m ⟨op, a, b⟩ l) → ∃ kf lf, Wr w' g kf lf ∧ Ext w5 w' ∧ ((kf || lf) = false ↔ Good i m ⟨op, a, b⟩ l) := fun h1 h2 h3 => ⟨_, _, h2, h1, h3⟩
  have rd : ∀ {w' n u K}, Ext w5 w' → n < l.length → u = i64 (nth l n) → K u w' → V Tryz.prog (Instr.indexAt 57 tv (i64 (n : Nat))) w' fun p w1 => V Tryz.prog (Instr.loadAt 3 p) w1 K := fun {w' n u K} hx hn hu hK => by
    subst hu
    exact ldx xa_57 l1_3 (ht5.ext hx) (by omega) (by omega) (getI (getN hn)) hK
  refine ⟨fun w' => ∃ kf lf, Wr w' g kf lf ∧ Ext w5 w' ∧ ((kf || lf) = false ↔ Good i m ⟨op, a, b⟩ l), ?_, ?_⟩
  · refine ldB (fb3 x7) fa_97_0 l1_3 rfl ?_
    by_cases c3 : op = 3
    · subst c3
      have a1 : 0 ≤ a := a1
      have hna : a < (m.locs.length : Int) := hn
      have hl1 : l.length = 1 := hll
      have hkd := kd_getD (mth_kds mr) (k := a.toNat) (by omega)
      have hk0 := nth_kd hkl (n := 0) (by omega)
      simp only [evL, Int.reduceEq, decide_true, decide_false]
      refine ldA (fb2 x7) la_94 rfl ?_
      refine ldB (fb3 x7) fa_97_1 l1_3 rfl ?_
      refine local91 (f2.ext x7) mr a1 fun w8 x8 => V_ext0.2 (V_ext1.2 ?_)
      refine rd (n := 0) (x7.trans x8) (by omega) rfl ?_
      refine into99 hk0 hkd ?_
      refine check98 (Blk.ext hW x8) fun w9 hW9 hx9 => J (hx9 _ (x7.trans x8) hgs) hW9 ?_
      rw [goodG ⟨by decide, by decide, by decide, by decide⟩, nth1 hl1]
      have := inA (t := [m.locs.getD a.toNat 0]) (l := [nth l 0]) (by intro k hk; rw [List.mem_singleton] at hk; subst hk; exact hkd) (by intro k hk; rw [List.mem_singleton] at hk; subst hk; exact hk0)
      simp only [inK, inL, Bool.or_false] at this
      exact this
    by_cases c34 : op = 34
    · subst c34
      have a1 : 0 ≤ a := a1
      have hna : a < (i.fields.length : Int) := hn
      have hl1 : l.length = 1 := hll
      have hkd := kd_getD ir.1.1 (k := a.toNat) (by omega)
      have hk0 := nth_kd hkl (n := 0) (by omega)
      simp only [evL, Int.reduceEq, decide_true, decide_false]
      have D1 : Ext w7 w7.drew := (Ext.refl _).drew
      have xd := x7.trans D1
      refine drawD.mk' (fun w' => Ext w5 w') xd ?_
      refine ySl xa_57 l1_3 ht5 (fun _ h => h) (by omega) (by omega) (getI (j := 0) (getN (by omega))) ?_
      refine yfB (fun w' hw => fb1 hw) fa_61_1 l1_57 rfl ?_
      refine yfB (fun w' hw => fb3 hw) fa_97_1 l1_3 rfl ?_
      obtain ⟨ka, hka⟩ : ∃ ka : Nat, a = ka := ⟨a.toNat, by omega⟩
      have hfi : i.fields[ka]? = some (i.fields.getD a.toNat 0) := by rw [hka, Int.toNat_natCast]; exact getD_get (by omega)
      refine ySl xa_57 l1_3 f1.fl (fun _ h => h) a1 hna (by rw [hka]; exact getI hfi) ?_
      refine into99 hk0 hkd ⟨xd, ?_⟩
      refine check98 (Blk.ext hW D1) fun w9 hW9 hx9 => J (hx9 _ xd hgs) hW9 ?_
      rw [goodG ⟨by decide, by decide, by decide, by decide⟩, nth1 hl1]
      have := inA (t := [i.fields.getD a.toNat 0]) (l := [nth l 0]) (by intro k hk; rw [List.mem_singleton] at hk; subst hk; exact hkd) (by intro k hk; rw [List.mem_singleton] at hk; subst hk; exact hk0)
      simp only [inK, inL, Bool.or_false] at this
      exact this
    by_cases c22 : op = 22
    · subst c22
      have hl3 : l.length = 3 := hll
      have hk0 := nth_kd hkl (n := 0) (by omega)
      have hk1 := nth_kd hkl (n := 1) (by omega)
      have hk2 := nth_kd hkl (n := 2) (by omega)
      have hgood : Good i m ⟨22, a, b⟩ l ↔ (doesL [-2, -1, -1] [nth l 0, nth l 1, nth l 2] && (isInt (nth l 1) && isInt (nth l 2) || isArr (nth l 1) && nth l 1 == nth l 2)) = true ∧ (isArr (nth l 1) && nth l 0 == 2) = false := by
        have e : Good i m ⟨22, a, b⟩ l = ((doesL [-2, -1, -1] l && (isInt (nth l 1) && isInt (nth l 2) || isArr (nth l 1) && nth l 1 == nth l 2)) = true ∧ (isArr (nth l 1) && nth l 0 == 2) = false) := rfl
        rw [e, ← nth3 hl3]
      have hf := (good22 hk0 hk1 hk2).trans hgood.symm
      have hW : Wr w7 g false false := hW
      simp only [evL, Int.reduceEq, decide_true, decide_false]
      have D1 : Ext w7 w7.drew := (Ext.refl _).drew
      have xd := x7.trans D1
      have hWd : Wr w7.drew g false false := Blk.ext hW D1
      refine drawD.mk' (fun w' => Ext w5 w' ∧ Wr w' g false false) ⟨xd, hWd⟩ ⟨.inl ⟨_, rfl⟩, ?_⟩
      refine yfB (fun w' hw => (Blk.boxed hw.2)) fa_200_0 l1_4 rfl ?_
      simp only [evL, reduceIte, Bool.false_eq_true]
      have yr : ∀ {n L}, n < l.length → L (i64 (nth l n)) → yieldS Tryz.prog (fun w' => Ext w5 w' ∧ Wr w' g false false) (Instr.indexAt 57 tv (i64 (n : Nat))) fun p => yieldS Tryz.prog (fun w' => Ext w5 w' ∧ Wr w' g false false) (Instr.loadAt 3 p) L := fun {n L} hn hL => ySl xa_57 l1_3 ht5 (fun _ h => h.1) (by omega) (by omega) (getI (getN hn)) hL
      refine yr (n := 0) (by omega) (isInt96 ⟨⟨xd, hWd⟩, yieldS.ok (fun w' _ => r_not) ?_⟩)
      have leak : ∀ (kf : Bool) {w'}, kf = (!isInt (nth l 0) || (isInt (nth l 1) != isInt (nth l 2)) || (isArr (nth l 1) && (nth l 1 != nth l 2))) → w' = w7.drew.setCell ⟨g, 0, none⟩ (.bool kf) → (Ext w5 w' ∧ Wr w' g kf false) := by
        rintro kf _ _ rfl
        exact ⟨xd.setCell hgs _, Blk.set hWd 0 _⟩
      have fin : ∀ (kf lf : Bool) {w'}, kf = (!isInt (nth l 0) || (isInt (nth l 1) != isInt (nth l 2)) || (isArr (nth l 1) && (nth l 1 != nth l 2))) → lf = (isArr (nth l 1) && isSec (nth l 0)) → Ext w5 w' → Wr w' g kf false →
          V Tryz.prog (Instr.fieldAt 200 (.pointer (some ⟨g, 0, none⟩)) 1) w' fun t204 w117 => U Tryz.prog (Instr.storeAt 4 t204 (.bool lf)) w117 fun _ w118 => ∃ kf lf, Wr w118 g kf lf ∧ Ext w5 w118 ∧ ((kf || lf) = false ↔ Good i m ⟨22, a, b⟩ l) := by
        intro kf lf w' e1 e2 hx hw
        refine stF fa_200_1 inf4 hw (n := 2) rfl (by decide) rfl ?_
        exact J (hx.setCell hgs _) (hw.set 1 _) (by rw [e1, e2]; exact hf)
      have rest : ∀ (kf : Bool), kf = (!isInt (nth l 0) || (isInt (nth l 1) != isInt (nth l 2)) || (isArr (nth l 1) && (nth l 1 != nth l 2))) → yieldS Tryz.prog (fun w' => Ext w5 w' ∧ Wr w' g false false) (Instr.fieldAt 200 (.pointer (some ⟨g, 0, none⟩)) 0) fun t185 => U Tryz.prog (Instr.storeAt 4 t185 (.bool kf)) w7.drew fun _ w101 =>
          Go.Vc.Safe (.pointer (some ⟨g, 0, none⟩)) ∧ V Tryz.prog (Instr.fieldAt 200 (.pointer (some ⟨g, 0, none⟩)) 1) w101 fun t189 w103 => V Tryz.prog (Instr.loadAt 4 t189) w103 fun t190 w104 =>
          gd t190 false (fun K => K tv w104) w104 fun t192 w105 => gd t190 false (fun K => V Tryz.prog (Instr.indexAt 57 t192 (i64 1)) w105 K) w105 fun t193 w106 => gd t190 false (fun K => V Tryz.prog (Instr.loadAt 3 t193) w106 K) w106 fun t194 w107 => gd t190 false (fun K => callD Tryz.prog 113 #[t194] w107 K) w107 fun t195 w108 =>
          gd t190 false (fun K => K t195 w108) w108 fun t196 w109 => gd t196 true (fun K => K tv w109) w109 fun t197 w110 => gd t196 true (fun K => V Tryz.prog (Instr.indexAt 57 t197 (i64 0)) w110 K) w110 fun t198 w111 => gd t196 true (fun K => V Tryz.prog (Instr.loadAt 3 t198) w111 K) w111 fun t199 w112 =>
          gd t196 true (fun K => callD Tryz.prog 115 #[t199] w112 K) w112 fun t200 w113 => gd t190 false (fun K => pickD t196 t200 (.bool false) fun v => K v w113) w113 fun t201 w114 => pickD t190 (.bool true) t201 fun t202 =>
          Go.Vc.Safe (.pointer (some ⟨g, 0, none⟩)) ∧ V Tryz.prog (Instr.fieldAt 200 (.pointer (some ⟨g, 0, none⟩)) 1) w114 fun t204 w117 => U Tryz.prog (Instr.storeAt 4 t204 t202) w117 fun _ w118 => ∃ kf lf, Wr w118 g kf lf ∧ Ext w5 w118 ∧ ((kf || lf) = false ↔ Good i m ⟨22, a, b⟩ l) := by
        intro kf e1
        refine yieldS.ok (fun w' _ => (fa_200_0 : FA Tryz.prog 200 0 0).ex w' g 0) ?_
        refine stFU inf4 hWd (n := 2) rfl (o := 0) (by decide) rfl ⟨.inl ⟨_, rfl⟩, ?_⟩
        obtain ⟨lx, lw⟩ := leak kf e1 rfl
        refine ldB lw.boxed fa_200_1 l1_4 rfl ?_
        simp only [evL, reduceIte, Bool.false_eq_true]
        refine rd (n := 1) lx (by omega) rfl (isArr95 ?_)
        cases hz : isArr (nth l 1) with
        | false => simp only [evL, reduceIte, Bool.false_eq_true]; exact ⟨.inl ⟨_, rfl⟩, fin kf _ e1 (by rw [hz]; rfl) lx lw⟩
        | true =>
          simp only [evL, reduceIte]
          refine rd (n := 0) lx (by omega) rfl (isSec97 ?_)
          exact ⟨.inl ⟨_, rfl⟩, fin kf _ e1 (by rw [hz]; rfl) lx lw⟩
      cases i0 : isInt (nth l 0) with
      | false =>
        simp only [evL, reduceIte, Bool.not_false]
        exact ⟨⟨xd, hWd⟩, ⟨xd, hWd⟩, ⟨xd, hWd⟩, .inl ⟨_, rfl⟩, rest _ (by rw [i0]; rfl)⟩
      | true =>
        simp only [evL, reduceIte, Bool.false_eq_true, Bool.not_true]
        refine yr (n := 1) (by omega) (yr (n := 2) (by omega) ?_)
        refine isInt96 ⟨⟨xd, hWd⟩, isInt96 ⟨⟨xd, hWd⟩, yieldS.ok (fun w' _ => r_neqb_4) ?_⟩⟩
        cases i12 : (isInt (nth l 1) != isInt (nth l 2)) with
        | true =>
          simp only [evL, reduceIte]
          exact ⟨⟨xd, hWd⟩, .inl ⟨_, rfl⟩, rest _ (by rw [i0, i12]; rfl)⟩
        | false =>
          simp only [evL, reduceIte, Bool.false_eq_true]
          refine yr (n := 1) (by omega) (isArr95 ⟨⟨xd, hWd⟩, ?_⟩)
          cases a1' : isArr (nth l 1) with
          | false => simp only [evL, reduceIte, Bool.false_eq_true]; exact ⟨.inl ⟨_, rfl⟩, rest _ (by rw [i0, i12, a1']; rfl)⟩
          | true =>
            simp only [evL, reduceIte]
            refine yr (n := 1) (by omega) (yr (n := 2) (by omega) (yieldS.ok (fun w' _ => r_neqI) ?_))
            exact ⟨.inl ⟨_, rfl⟩, rest _ (by rw [i0, i12, a1']; by_cases hq : nth l 1 = nth l 2 <;> simp [hq])⟩
    have hP := patA (p := patS op) (l := l) pc1 hkl
    have st1 : ∀ (kf lf : Bool) {w'}, ((kf || lf) = false ↔ Good i m ⟨op, a, b⟩ l) → (∃ lf0, Wr w' g kf lf0) → Ext w5 w' →
        V Tryz.prog (Instr.fieldAt 200 (.pointer (some ⟨g, 0, none⟩)) 1) w' fun t204 w117 => U Tryz.prog (Instr.storeAt 4 t204 (.bool lf)) w117 fun _ w118 => ∃ kf lf, Wr w118 g kf lf ∧ Ext w5 w118 ∧ ((kf || lf) = false ↔ Good i m ⟨op, a, b⟩ l) := by
      rintro kf lf w' hf ⟨lf0, hw⟩ hx
      refine stF fa_200_1 inf4 hw (n := 2) rfl (by decide) rfl ?_
      exact J (hx.setCell hgs _) (hw.set 1 _) hf
    by_cases c30 : op = 30
    · subst c30
      have hl3 : l.length = 3 := hll
      have hk0 := nth_kd hkl (n := 0) (by omega)
      have hk1 := nth_kd hkl (n := 1) (by omega)
      have hk2 := nth_kd hkl (n := 2) (by omega)
      have e3 : l.take (patS 30).length = l := List.take_of_length_le (by rw [hl3]; exact Nat.le_refl _)
      rw [e3] at hW
      have hgood : Good i m ⟨30, a, b⟩ l ↔ doesL [-4, -3, -2] [nth l 0, nth l 1, nth l 2] = true ∧ (showsL [-4, -3, -2] [nth l 0, nth l 1, nth l 2] || (nth l 0 == 3 && nth l 2 == 2)) = false := by
        rw [← nth3 hl3]
        unfold Good kindsB leaksB
        dsimp only
        rw [if_neg (by decide), if_neg (by decide), if_pos rfl, show asked i m ⟨30, a, b⟩ = [-4, -3, -2] from rfl, Bool.and_true]
      have hP : (patK (patS 30) l || patL (patS 30) l) = false ↔ doesL [-4, -3, -2] [nth l 0, nth l 1, nth l 2] = true ∧ showsL [-4, -3, -2] [nth l 0, nth l 1, nth l 2] = false := by
        rw [← nth3 hl3]; exact hP
      have hz := (good30 hk0 hk1 hk2 hP).trans hgood.symm
      generalize patK (patS 30) l = A at hW hz
      generalize patL (patS 30) l = B at hW hz
      simp only [evL, Int.reduceEq, decide_true, decide_false]
      refine ⟨.inl ⟨_, rfl⟩, ldB hW.boxed fa_200_1 l1_4 rfl ?_⟩
      cases B with
      | true => simp only [evL, reduceIte]; exact ⟨.inl ⟨_, rfl⟩, st1 A _ (by simpa using hz) ⟨_, hW⟩ x7⟩
      | false =>
        simp only [evL, reduceIte, Bool.false_eq_true]
        refine rd (n := 0) x7 (by omega) rfl (V_eqlI.2 ?_)
        by_cases z0 : nth l 0 = 3
        · simp only [z0, evL, reduceIte, decide_true]
          refine rd (n := 2) x7 (by omega) rfl (isSec97 ?_)
          exact ⟨.inl ⟨_, rfl⟩, st1 A _ (by simpa [z0] using hz) ⟨_, hW⟩ x7⟩
        · simp only [z0, evL, reduceIte, Bool.false_eq_true, decide_false]
          exact ⟨.inl ⟨_, rfl⟩, st1 A _ (by simpa [z0] using hz) ⟨_, hW⟩ x7⟩
    by_cases c31 : op = 31
    · subst c31
      have hl5 : l.length = 5 := hll
      have e3 : l.take (patS 31).length = l := List.take_of_length_le (by rw [hl5]; exact Nat.le_refl _)
      rw [e3] at hW
      have hgood : Good i m ⟨31, a, b⟩ l ↔ doesL [-4, -3, -4, -3, -3] l = true ∧ (showsL [-4, -3, -4, -3, -3] l || (nth l 0 == 3 && nth l 2 == 4)) = false := by
        unfold Good kindsB leaksB
        dsimp only
        rw [if_neg (by decide), if_neg (by decide), if_neg (by decide), if_pos rfl, show asked i m ⟨31, a, b⟩ = [-4, -3, -4, -3, -3] from rfl, Bool.and_true]
      have hP : (patK (patS 31) l || patL (patS 31) l) = false ↔ doesL [-4, -3, -4, -3, -3] l = true ∧ showsL [-4, -3, -4, -3, -3] l = false := hP
      have hz := (good_z (z := (nth l 0 == 3 && nth l 2 == 4)) hP).trans hgood.symm
      generalize patK (patS 31) l = A at hW hz
      generalize patL (patS 31) l = B at hW hz
      simp only [evL, Int.reduceEq, decide_true, decide_false]
      refine ⟨.inl ⟨_, rfl⟩, ldB hW.boxed fa_200_1 l1_4 rfl ?_⟩
      cases B with
      | true => simp only [evL, reduceIte]; exact ⟨.inl ⟨_, rfl⟩, st1 A _ (by simpa using hz) ⟨_, hW⟩ x7⟩
      | false =>
        simp only [evL, reduceIte, Bool.false_eq_true]
        refine rd (n := 0) x7 (by omega) rfl (V_eqlI.2 ?_)
        by_cases z0 : nth l 0 = 3
        · simp only [z0, evL, reduceIte, decide_true]
          refine rd (n := 2) x7 (by omega) rfl (V_eqlI.2 ?_)
          exact ⟨.inl ⟨_, rfl⟩, st1 A _ (by simpa [z0] using hz) ⟨_, hW⟩ x7⟩
        · simp only [z0, evL, reduceIte, Bool.false_eq_true, decide_false]
          exact ⟨.inl ⟨_, rfl⟩, st1 A _ (by simpa [z0] using hz) ⟨_, hW⟩ x7⟩
    by_cases c36 : op = 36
    · subst c36
      have hl3 : l.length = 3 := hll
      have e3 : l.take (patS 36).length = l := List.take_of_length_le (by rw [hl3]; exact Nat.le_refl _)
      rw [e3] at hW
      have hgood : Good i m ⟨36, a, b⟩ l ↔ doesL [-4, -3, -3] l = true ∧ (showsL [-4, -3, -3] l || (a == 1 && nth l 0 == 4)) = false := by
        unfold Good kindsB leaksB
        dsimp only
        rw [if_neg (by decide), if_neg (by decide), if_neg (by decide), if_neg (by decide), if_pos rfl, show asked i m ⟨36, a, b⟩ = [-4, -3, -3] from rfl, Bool.and_true]
      have hP : (patK (patS 36) l || patL (patS 36) l) = false ↔ doesL [-4, -3, -3] l = true ∧ showsL [-4, -3, -3] l = false := hP
      have hz := (good_z (z := (a == 1 && nth l 0 == 4)) hP).trans hgood.symm
      generalize patK (patS 36) l = A at hW hz
      generalize patL (patS 36) l = B at hW hz
      simp only [evL, Int.reduceEq, decide_true, decide_false]
      refine ⟨.inl ⟨_, rfl⟩, ldB hW.boxed fa_200_1 l1_4 rfl ?_⟩
      cases B with
      | true => simp only [evL, reduceIte]; exact ⟨.inl ⟨_, rfl⟩, st1 A _ (by simpa using hz) ⟨_, hW⟩ x7⟩
      | false =>
        simp only [evL, reduceIte, Bool.false_eq_true]
        refine ldB (fb3 x7) fa_97_1 l1_3 rfl (V_eqlI.2 ?_)
        by_cases z0 : a = 1
        · subst z0
          simp only [evL, reduceIte, decide_true]
          refine rd (n := 0) x7 (by omega) rfl (V_eqlI.2 ?_)
          exact ⟨.inl ⟨_, rfl⟩, st1 A (decide (nth l 0 = 4)) (by simpa using hz) ⟨_, hW⟩ x7⟩
        · simp only [z0, evL, reduceIte, Bool.false_eq_true, decide_false]
          exact ⟨.inl ⟨_, rfl⟩, st1 A _ (by simpa [z0] using hz) ⟨_, hW⟩ x7⟩
    by_cases c37 : op = 37
    · subst c37
      have a1 : 0 ≤ a := a1
      obtain ⟨ka, rfl⟩ : ∃ ka : Nat, a = ka := ⟨a.toNat, by omega⟩
      have hna : (ka : Int) < (i.methods.length : Int) := hn
      have hlp : l.length = (i.meth (ka : Int)).params.length := hll
      have hkp : Kds (i.meth (ka : Int)).params := meth_kds ir a1 hna
      have hW : Wr w7 g false false := hW
      have e3 : asked i m ⟨37, (ka : Int), b⟩ = (i.meth (ka : Int)).params := rfl
      simp only [evL, Int.reduceEq, decide_true, decide_false]
      refine ⟨fun v w' => ∃ j : Nat, v = i64 j ∧ j ≤ l.length ∧ Ext w5 w' ∧ Wr w' g (inK ((i.meth (ka : Int)).params.take j) (l.take j)) (inL ((i.meth (ka : Int)).params.take j) (l.take j)), fun v _ => l.length - (RowKit.intOf v).toNat, ⟨0, rfl, Nat.zero_le _, x7, hW⟩, ?_⟩
      rintro _ w8 ⟨j, rfl, hj, x8, hW8⟩ _
      rw [e3]
      refine V_lss.2 (ifD_dec (fun hlt => ?_) fun hge => ?_)
      · have hk1 := getN (l := l) (j := j) (by omega)
        obtain ⟨q, hq⟩ := ex_get (l := (i.meth (ka : Int)).params) (j := j) (by omega)
        have D1 : Ext w8 w8.drew := (Ext.refl _).drew
        have xd := x8.trans D1
        refine drawD.mk' (fun w' => Ext w5 w') xd ?_
        refine ySl xa_57 l1_3 ht5 (fun _ h => h) (by omega) (by omega) (getI hk1) ?_
        refine yfB (fun w' hw => fb1 hw) fa_61_3 l1_59 rfl ?_
        refine yfB (fun w' hw => fb3 hw) fa_97_1 l1_3 rfl ?_
        have hmi := meth_get a1 hna
        rw [Int.toNat_natCast] at hmi
        refine ySF xa_59 fa_94_0 l1_57 f1.mt (fun _ h => h) hmi fun row hrow => ?_
        obtain ⟨pv9, lv9, cv9, rfl, hp9, _, _⟩ := hrow
        refine ⟨pv9, rfl, by decide, ?_⟩
        refine ySl xa_57 l1_3 hp9 (fun _ h => h) (by omega) (by omega) (getI hq) ?_
        refine into99 (hkl _ (List.mem_of_getElem? hk1)) (hkp _ (List.mem_of_getElem? hq)) ⟨xd, ?_⟩
        refine check98 (Blk.ext hW8 D1) fun w9 hW9 hx9 => ⟨hx9 _ xd hgs, V_add.2 ?_⟩
        rw [wrap_id (by omega) (by omega), i64_succ]
        refine ⟨⟨j + 1, rfl, by omega, hx9 _ xd hgs, ?_⟩, by simp only [intOf_i64]; omega⟩
        rw [inK_take hq hk1, inL_take hq hk1]
        exact hW9
      · have hjl : j = l.length := by omega
        subst hjl
        rw [List.take_length, hlp, List.take_length] at hW8
        refine J x8 hW8 ?_
        rw [goodG ⟨by decide, by decide, by decide, by decide⟩, e3]
        exact inA hkp hkl
    by_cases c38 : op = 38
    · subst c38
      have a1 : 0 ≤ a := a1
      obtain ⟨ka, rfl⟩ : ∃ ka : Nat, a = ka := ⟨a.toNat, by omega⟩
      have hna : (ka : Int) < (i.imports.length : Int) := hn
      have hlp : l.length = (i.imp (ka : Int)).params.length := hll
      have hkp : Kds (i.imp (ka : Int)).params := imp_kds ir a1 hna
      have hW : Wr w7 g false false := hW
      have e3 : asked i m ⟨38, (ka : Int), b⟩ = (i.imp (ka : Int)).params := rfl
      simp only [evL, Int.reduceEq, decide_true, decide_false]
      refine ⟨fun v w' => ∃ j : Nat, v = i64 j ∧ j ≤ l.length ∧ Ext w5 w' ∧ Wr w' g (inK ((i.imp (ka : Int)).params.take j) (l.take j)) (inL ((i.imp (ka : Int)).params.take j) (l.take j)), fun v _ => l.length - (RowKit.intOf v).toNat, ⟨0, rfl, Nat.zero_le _, x7, hW⟩, ?_⟩
      rintro _ w8 ⟨j, rfl, hj, x8, hW8⟩ _
      rw [e3]
      refine V_lss.2 (ifD_dec (fun hlt => ?_) fun hge => ?_)
      · have hk1 := getN (l := l) (j := j) (by omega)
        obtain ⟨q, hq⟩ := ex_get (l := (i.imp (ka : Int)).params) (j := j) (by omega)
        have D1 : Ext w8 w8.drew := (Ext.refl _).drew
        have xd := x8.trans D1
        refine drawD.mk' (fun w' => Ext w5 w') xd ?_
        refine ySl xa_57 l1_3 ht5 (fun _ h => h) (by omega) (by omega) (getI hk1) ?_
        refine yfB (fun w' hw => fb1 hw) fa_61_2 l1_58 rfl ?_
        refine yfB (fun w' hw => fb3 hw) fa_97_1 l1_3 rfl ?_
        have hmi := imp_get a1 hna
        rw [Int.toNat_natCast] at hmi
        refine ySF xa_58 fa_91_2 l1_57 f1.im (fun _ h => h) hmi fun row hrow => ?_
        obtain ⟨pv9, rfl, hp9⟩ := hrow
        refine ⟨pv9, rfl, by decide, ?_⟩
        refine ySl xa_57 l1_3 hp9 (fun _ h => h) (by omega) (by omega) (getI hq) ?_
        refine into99 (hkl _ (List.mem_of_getElem? hk1)) (hkp _ (List.mem_of_getElem? hq)) ⟨xd, ?_⟩
        refine check98 (Blk.ext hW8 D1) fun w9 hW9 hx9 => ⟨hx9 _ xd hgs, V_add.2 ?_⟩
        rw [wrap_id (by omega) (by omega), i64_succ]
        refine ⟨⟨j + 1, rfl, by omega, hx9 _ xd hgs, ?_⟩, by simp only [intOf_i64]; omega⟩
        rw [inK_take hq hk1, inL_take hq hk1]
        exact hW9
      · have hjl : j = l.length := by omega
        subst hjl
        rw [List.take_length, hlp, List.take_length] at hW8
        refine J x8 hW8 ?_
        rw [goodG ⟨by decide, by decide, by decide, by decide⟩, e3]
        exact inA hkp hkl
    by_cases c39 : op = 39
    · subst c39
      have hW : Wr w7 g false false := hW
      have e3 : asked i m ⟨39, a, b⟩ = resL m.result := rfl
      simp only [evL, Int.reduceEq, decide_true, decide_false]
      rw [e3] at hll ⊢
      by_cases hr : m.result = 0
      · have e4 : resL m.result = [] := by unfold resL; rw [if_pos hr]
        have hll0 : l.length = 0 := by rw [hll, e4]; rfl
        simp only [e4, List.length_nil, Int.natCast_zero, evL, Int.reduceGT, decide_false]
        refine J x7 hW ?_
        rw [goodG ⟨by decide, by decide, by decide, by decide⟩, e3, e4]
        simp [doesL, showsL]
      · have e4 : resL m.result = [m.result] := by unfold resL; rw [if_neg hr]
        have hl1 : l.length = 1 := by rw [hll, e4]; rfl
        have hk0 := nth_kd hkl (n := 0) (by omega)
        have hkr : Kd m.result := by have := mr.2.1; unfold Kd; omega
        simp only [e4, List.length_cons, List.length_nil, Nat.zero_add, Int.natCast_one, evL, Int.reduceGT, decide_true]
        have D1 : Ext w7 w7.drew := (Ext.refl _).drew
        have xd := x7.trans D1
        refine drawD.mk' (fun w' => Ext w5 w') xd ?_
        refine ySl xa_57 l1_3 ht5 (fun _ h => h) (by omega) (by omega) (getI (j := 0) (getN (by omega))) ?_
        refine yfB (fun w' hw => fb2 hw) fa_94_1 l1_3 rfl ?_
        refine into99 hk0 hkr ⟨xd, ?_⟩
        refine check98 (Blk.ext hW D1) fun w9 hW9 hx9 => J (hx9 _ xd hgs) hW9 ?_
        rw [goodG ⟨by decide, by decide, by decide, by decide⟩, e3, e4, nth1 hl1]
        have := inA (t := [m.result]) (l := [nth l 0]) (by intro k hk; rw [List.mem_singleton] at hk; subst hk; exact hkr) (by intro k hk; rw [List.mem_singleton] at hk; subst hk; exact hk0)
        simp only [inK, inL, Bool.or_false] at this
        exact this
    simp only [c3, c34, c22, c30, c31, c36, c37, c38, c39, evL, decide_false]
    refine J x7 hW ?_
    rw [goodG ⟨c22, c30, c31, c36⟩]
    by_cases c45 : op = 4 ∨ op = 5
    · rcases c45 with rfl | rfl
      all_goals
        have hl1 : l.length = 1 := hll
        rw [nth1 hl1]
        simp [patK, patL, patS, isBin, asked, doesL, showsL, doesK, showsK]
    · simp only [not_or] at c45
      have e5 := pc3 (by omega)
      have e6 : l.take (patS op).length = l := List.take_of_length_le (by rw [hll, e5]; simp)
      rw [e5, e6]
      exact hP
  · rintro w8 ⟨kf, lf, hW8, x8, hgood⟩ _
    refine ⟨.inl ⟨_, rfl⟩, ldB hW8.boxed fa_200_0 l1_4 rfl ?_⟩
    have bad : (kf || lf) = true → doS i m ⟨op, a, b⟩ s = none := fun hb => by
      rw [hdo, if_neg]
      intro hgd
      have := hgood.2 hgd
      rw [hb] at this; cases this
    cases kf with
    | true => simp only [evL]; exact no 11 _ (bad rfl) (by decide) (xx5.trans x8)
    | false =>
    simp only [evL]
    refine ⟨.inl ⟨_, rfl⟩, ldB hW8.boxed fa_200_1 l1_4 rfl ?_⟩
    cases lf with
    | true => simp only [evL]; exact no 12 _ (bad rfl) (by decide) (xx5.trans x8)
    | false =>
    simp only [evL]
    have hd2 : doS i m ⟨op, a, b⟩ s = some (s.take (s.length - (asked i m ⟨op, a, b⟩).length) ++ givesS i m ⟨op, a, b⟩ l) := by
      have hgd : kindsB ⟨op, a, b⟩ (asked i m ⟨op, a, b⟩) l = true ∧ leaksB ⟨op, a, b⟩ (asked i m ⟨op, a, b⟩) l = false := hgood.1 rfl
      rw [hdo, if_pos hgd]
    have D1 : Ext w8 w8.drew := (Ext.refl _).drew
    have xd := x8.trans D1
    refine drawD.mk' (fun w' => Ext w5 w') xd ?_
    refine yA (fun w' hw => fb1 hw) la_61 rfl ?_
    refine yA (fun w' hw => fb2 hw) la_94 rfl ?_
    refine yA (fun w' hw => fb3 hw) la_97 rfl ?_
    refine bsl xe_57 [] rfl rfl (by simp) rfl fun v1 w9 ho9 x9 => ⟨xd.trans x9, ?_⟩
    have hul : (s.take (s.length - (asked i m ⟨op, a, b⟩).length)).length = s.length - (asked i m ⟨op, a, b⟩).length := by rw [List.length_take]; omega
    refine apO xe_57 ho9 (hu4.ext ((x5.trans xd).trans x9)) (allI _) (by omega) (by unfold maxLen; omega) x9.size fun v2 w10 ho10 hg10 => ?_
    have x10 : Ext w8.drew w10 := x9.grown hg10 fun k hk => (ho9.lt k hk).1
    have xd10 := xd.trans x10
    refine ⟨xd10, ?_⟩
    refine gives100 (f1.ext xd10) (f2.ext xd10) hx0 (ht5.ext xd10) hll fun v3 w11 h11 x11 => ⟨xd10.trans x11, ?_⟩
    have hgl : (givesS i m ⟨op, a, b⟩ l).length ≤ 2 := by rw [hgt_eq]; exact hh2
    refine apO xe_57 (x11.own ho10) h11 (allI _) (by omega) (by unfold maxLen; omega) (x10.trans x11).size fun v4 w12 ho12 hg12 => ?_
    have x12 : Ext w8.drew w12 := (x10.trans x11).grown hg12 fun k hk => ((x11.own ho10).lt k hk).1
    refine ⟨xd.trans x12, yes _ v4 w12 hd2 ?_ ((xx5.trans xd).trans x12)⟩
    have := own_mono ho12 ((xx5.trans xd).size)
    simp only [List.nil_append] at this
    rw [List.length_append, List.map_append, hul]
    simpa using this
end Go.Proofs.YthblbcjgdbaonaaGreatDoor
namespace Go.Vc
theorem least {p : Nat → Prop} (h : ∃ n, p n) : ∃ n, p n ∧ ∀ m, p m → n ≤ m := by
  obtain ⟨n, hn⟩ := h
  induction n using Nat.strongRecOn with
  | ind n ih =>
    by_cases hm : ∃ m, m < n ∧ p m
    · obtain ⟨m, h1, h2⟩ := hm
      exact ih m h1 h2
    · refine ⟨n, hn, fun m h2 => ?_⟩
      by_cases hlt : m < n
      · exact absurd ⟨m, hlt, h2⟩ hm
      · omega
theorem V_ext40 {P : Program} {w : World} {K : Value → World → Prop} {a b c d : Value} : V P (Instr.extract (.tuple #[a, b, c, d]) 0) w K ↔ K a w := V.iff (by simp [Instr.extract])
theorem V_ext41 {P : Program} {w : World} {K : Value → World → Prop} {a b c d : Value} : V P (Instr.extract (.tuple #[a, b, c, d]) 1) w K ↔ K b w := V.iff (by simp [Instr.extract])
theorem V_ext42 {P : Program} {w : World} {K : Value → World → Prop} {a b c d : Value} : V P (Instr.extract (.tuple #[a, b, c, d]) 2) w K ↔ K c w := V.iff (by simp [Instr.extract])
theorem V_ext43 {P : Program} {w : World} {K : Value → World → Prop} {a b c d : Value} : V P (Instr.extract (.tuple #[a, b, c, d]) 3) w K ↔ K d w := V.iff (by simp [Instr.extract])
open Classical in
noncomputable def mu (p : Nat → Prop) : Nat := if h : ∃ n, p n then Classical.choose (least h) else 0
theorem mu_spec {p : Nat → Prop} (h : ∃ n, p n) : p (mu p) := by
  unfold mu
  rw [dif_pos h]
  exact (Classical.choose_spec (least h)).1
theorem mu_le {p : Nat → Prop} {n : Nat} (h : p n) : mu p ≤ n := by
  unfold mu
  rw [dif_pos ⟨n, h⟩]
  exact (Classical.choose_spec (least ⟨n, h⟩)).2 n h
end Go.Vc
namespace Go.Tc
theorem goesL_snoc {n : Nat} {stack : List Int} : ∀ {l : List Int} {x : Int} {s : St}, goesL n stack (l ++ [x]) s = (goesL n stack l s).bind fun s' => goesS n s' x stack
  | [], x, s => by simp [goesL]
  | y :: l, x, s => by
    simp only [List.cons_append, goesL]
    cases goesS n s y stack with
    | none => rfl
    | some s1 => exact goesL_snoc (l := l)
theorem goesL_app {n : Nat} {stack : List Int} : ∀ {l m : List Int} {s : St}, goesL n stack (l ++ m) s = (goesL n stack l s).bind fun s' => goesL n stack m s'
  | [], m, s => rfl
  | y :: l, m, s => by
    simp only [List.cons_append, goesL]
    cases goesS n s y stack with
    | none => rfl
    | some s1 => exact goesL_app (l := l)
theorem nextS_len (x : Ins) (pc : Nat) : (nextS x pc).length ≤ 2 := by
  unfold nextS
  split
  · exact Nat.le_succ 1
  split
  · exact Nat.le_refl _
  split
  · exact Nat.zero_le _
  · exact Nat.le_succ 1
theorem goesL_fail {n j : Nat} {stack l : List Int} {x : Int} {s s' : St} (h1 : goesL n stack (l.take j) s = some s') (h2 : l[j]? = some x) (h3 : goesS n s' x stack = none) : goesL n stack l s = none := by
  have e : l = l.take j ++ x :: l.drop (j + 1) := by
    have h4 := List.getElem?_eq_some_iff.1 h2
    obtain ⟨hlt, rfl⟩ := h4
    rw [← List.drop_eq_getElem_cons hlt, List.take_append_drop]
  rw [e, goesL_app, h1]
  simp [goesL, h3]
theorem goesL_take {n j : Nat} {stack l : List Int} {x : Int} {s s1 s2 : St} (h1 : goesL n stack (l.take j) s = some s1) (h2 : l[j]? = some x) (h3 : goesS n s1 x stack = some s2) : goesL n stack (l.take (j + 1)) s = some s2 := by
  rw [List.take_add_one, h2]
  simp only [Option.toList_some]
  rw [goesL_snoc, h1]
  exact h3
end Go.Tc
namespace Go.Proofs.YthblbcjgdbaonaaGreatDoor
open Go.Vc Go.Tc
variable {w : World} {K : Value → World → Prop}
structure Mem (g1 g2 g3 B : Nat) (w : World) (n : Nat) (st : St) : Prop where
  s1 : ∃ vs : List Value, vs.length = n ∧ Blk w g1 vs 57 ∧ ∀ k, k < n → ∃ v, vs[k]? = some v ∧ w.ownsRow B 3 1 v (st.s k).length ((st.s k).map i64)
  s2 : Blk w g2 (st.has.map .bool) 4
  s3 : Blk w g3 (st.todo.map .bool) 4
  l1 : st.st.length = n
  l2 : st.has.length = n
  l3 : st.todo.length = n
  o : (g1 ≠ g2 ∧ g1 ≠ g3 ∧ g2 ≠ g3) ∧ g1 < B ∧ g2 < B ∧ g3 < B ∧ B ≤ w.heap.size
variable {g1 g2 g3 B n : Nat} {st : St}
theorem Mem.ext {w' : World} (h : Mem g1 g2 g3 B w n st) (hx : Ext w w') : Mem g1 g2 g3 B w' n st := by
  obtain ⟨⟨vs, h1, h2, h3⟩, h4, h5, l1, l2, l3, o⟩ := h
  refine ⟨⟨vs, h1, h2.ext hx, fun k hk => ?_⟩, h4.ext hx, h5.ext hx, l1, l2, l3, o.1, o.2.1, o.2.2.1, o.2.2.2.1, Nat.le_trans o.2.2.2.2 hx.size⟩
  obtain ⟨v, hv, ho⟩ := h3 k hk
  exact ⟨v, hv, hx.own ho⟩
theorem own_set {g j : Nat} {u v : Value} {xs : List Value} {e sz m : Nat} (ho : w.ownsRow B e sz v m xs) (hg : g < B) : (w.setCell ⟨g, j, none⟩ u).ownsRow B e sz v m xs :=
  (Fr.of_set (S := fun i => i = g) rfl).own ho fun k hk he => by have := (ho.lt k hk).1; omega
theorem Mem.setT (h : Mem g1 g2 g3 B w n st) (k : Nat) (b : Bool) : Mem g1 g2 g3 B (w.setCell ⟨g3, k, none⟩ (.bool b)) n { st with todo := st.todo.set k b } := by
  obtain ⟨⟨vs, h1, h2, h3⟩, h4, h5, l1, l2, l3, o⟩ := h
  refine ⟨⟨vs, h1, h2.other (by omega), fun q hq => ?_⟩, h4.other (by omega), ?_, l1, l2, by simpa using l3, o.1, o.2.1, o.2.2.1, o.2.2.2.1, by simpa using o.2.2.2.2⟩
  · obtain ⟨v, hv, ho⟩ := h3 q hq
    exact ⟨v, hv, own_set ho o.2.2.2.1⟩
  · have := h5.set k (.bool b)
    rwa [← List.map_set] at this
theorem Mem.setH (h : Mem g1 g2 g3 B w n st) (k : Nat) (b : Bool) : Mem g1 g2 g3 B (w.setCell ⟨g2, k, none⟩ (.bool b)) n { st with has := st.has.set k b } := by
  obtain ⟨⟨vs, h1, h2, h3⟩, h4, h5, l1, l2, l3, o⟩ := h
  refine ⟨⟨vs, h1, h2.other (by omega), fun q hq => ?_⟩, ?_, h5.other (by omega), l1, by simpa using l2, l3, o.1, o.2.1, o.2.2.1, o.2.2.2.1, by simpa using o.2.2.2.2⟩
  · obtain ⟨v, hv, ho⟩ := h3 q hq
    exact ⟨v, hv, own_set ho o.2.2.1⟩
  · have := h4.set k (.bool b)
    rwa [← List.map_set] at this
theorem Mem.setS (h : Mem g1 g2 g3 B w n st) {k : Nat} {v : Value} {s : List Int} (hv : w.ownsRow B 3 1 v s.length (s.map i64)) (hk : k < n) : Mem g1 g2 g3 B (w.setCell ⟨g1, k, none⟩ v) n { st with st := st.st.set k s } := by
  obtain ⟨⟨vs, h1, h2, h3⟩, h4, h5, l1, l2, l3, o⟩ := h
  refine ⟨⟨vs.set k v, by simpa using h1, h2.set k v, fun q hq => ?_⟩, h4.other (by omega), h5.other (by omega), by simpa using l1, l2, l3, o.1, o.2.1, o.2.2.1, o.2.2.2.1, by simpa using o.2.2.2.2⟩
  have e : St.s { st with st := st.st.set k s } q = if q = k then s else st.s q := by
    simp only [St.s, getD_set]
    by_cases hqk : q = k
    · rw [if_pos ⟨hqk, by omega⟩, if_pos hqk]
    · rw [if_neg (fun h => hqk h.1), if_neg hqk]
  rw [e]
  by_cases hqk : q = k
  · subst hqk
    rw [if_pos rfl]
    exact ⟨v, by rw [List.getElem?_set_self (by omega)], own_set hv o.2.1⟩
  · rw [if_neg hqk]
    obtain ⟨u, hu, ho⟩ := h3 q hq
    exact ⟨u, by rw [List.getElem?_set_ne (fun e => hqk e.symm)]; exact hu, own_set ho o.2.1⟩
theorem getB' {l : List Bool} {j : Nat} (h : j < l.length) : (l.map Value.bool)[(j : Int).toNat]? = some (.bool (l.getD j false)) := by
  simp [List.getD_eq_getElem?_getD, h]
theorem Mem.hs (h : Mem g1 g2 g3 B w n st) (hn : n ≤ 1000) : SliceIs w (.slice (some ⟨g2, 0, none⟩) n n) 1 n (st.has.map .bool) := h.s2.slice (by simpa using h.l2) (by unfold maxLen; omega)
theorem Mem.ts (h : Mem g1 g2 g3 B w n st) (hn : n ≤ 1000) : SliceIs w (.slice (some ⟨g3, 0, none⟩) n n) 1 n (st.todo.map .bool) := h.s3.slice (by simpa using h.l3) (by unfold maxLen; omega)
theorem Mem.ss (h : Mem g1 g2 g3 B w n st) (hn : n ≤ 1000) {k : Nat} (hk : k < n) : ∃ vs v, SliceIs w (.slice (some ⟨g1, 0, none⟩) n n) 1 n vs ∧ vs[(k : Int).toNat]? = some v ∧ w.ownsRow B 3 1 v (st.s k).length ((st.s k).map i64) := by
  obtain ⟨vs, h1, h2, h3⟩ := h.s1
  obtain ⟨v, hv, ho⟩ := h3 k hk
  exact ⟨vs, v, h2.slice h1 (by unfold maxLen; omega), by simpa using hv, ho⟩
def StatesAre (w : World) (v : Value) (l : List (List Int)) : Prop := ∃ vs, SliceIs w v 1 l.length vs ∧ ∀ k, k < l.length → ∃ u, vs[k]? = some u ∧ IntsAre w u (l.getD k [])
theorem Mem.states (h : Mem g1 g2 g3 B w n st) (hn : n ≤ 1000) : StatesAre w (.slice (some ⟨g1, 0, none⟩) n n) st.st := by
  obtain ⟨vs, h1, h2, h3⟩ := h.s1
  refine ⟨vs, by rw [h.l1]; exact h2.slice h1 (by unfold maxLen; omega), fun k hk => ?_⟩
  obtain ⟨v, hv, ho⟩ := h3 k (by rw [← h.l1]; exact hk)
  exact ⟨v, hv, SliceIs.of_own ho⟩
theorem Mem.bools (h : Mem g1 g2 g3 B w n st) (hn : n ≤ 1000) : BoolsAre w (.slice (some ⟨g2, 0, none⟩) n n) st.has := by
  unfold BoolsAre
  rw [h.l2]; exact h.hs hn
theorem yI {S : World → Prop} {L : Value → Prop} {v : Value} {l : List Ins} {i : Nat} {x : Ins} (hs : InsAre w v l) (hx : ∀ w', S w' → Ext w w') (hi : l[i]? = some x) (hk : L (.agg #[i64 x.op, i64 x.a, i64 x.b])) : yieldS Tryz.prog S (Instr.indexAt 92 v (i64 i)) fun p => yieldS Tryz.prog S (Instr.loadAt 97 p) L := by
  have hlt : i < l.length := (List.getElem?_eq_some_iff.1 hi).1
  obtain ⟨e, z, b', hte, hinf⟩ := xa_92
  obtain ⟨d, z', by_, h2, h3, h4⟩ := la_97
  obtain ⟨b, off, cap, rfl, hcell⟩ := SliceIs.there hs (by omega)
  refine yieldS.ok (fun w' _ => r_index hte hinf (by omega) (by omega)) (yieldS.ok (fun w' hw => r_loadAgg (cs := [i64 x.op, i64 x.a, i64 x.b]) h2 h3 h4 rfl fun j hj => ?_) hk)
  have hrow := insC_row hi
  obtain ⟨u, hu⟩ : ∃ u, ([i64 x.op, i64 x.a, i64 x.b] : List Value)[j]? = some u := ⟨_, List.getElem?_eq_getElem hj⟩
  rw [hu, Nat.add_assoc]
  refine (hx w' hw).cell (hcell _ u ?_)
  rw [← hrow, List.getElem?_take, List.getElem?_drop] at hu
  split at hu
  · simpa using hu
  · cases hu
theorem insC_mem {m : Mth} {k : Nat} (h : k < m.code.length) : m.code[k]? = some (m.ins k) := by
  unfold Mth.ins
  rw [List.getD_eq_getElem?_getD, List.getElem?_eq_getElem h]; rfl
set_option maxHeartbeats 4000000 in
theorem walk28 {p : ImgV} {i : Img} {k : Nat} (h : ImgAt w p i) (ir : i.right) (hk : k < i.methods.length)
    (yes : ∀ st sv hv w', Walk i (i.meth k) (some st) → StatesAre w' sv st.st → BoolsAre w' hv st.has → Ext w w' → K (.tuple #[sv, hv, i64 0, i64 0]) w')
    (no : ∀ pc e w', Walk i (i.meth k) none → e ≠ 0 → Ext w w' → K (.tuple #[nilS, nilS, i64 pc, i64 e]) w') :
    callD Tryz.prog 50 #[p.val i, i64 k] w K := by
  have hm := meth_get (i := i) (a := (k : Int)) (by omega) (by omega)
  rw [Int.toNat_natCast] at hm
  have mr : (i.meth k).right := ir.2.2.1.2.1 _ (List.mem_of_getElem? hm)
  generalize i.meth k = m at hm mr yes no
  have hn1 := mr.2.2.2.1.1; have hn2 := mr.2.2.2.1.2
  apply F50_wp
  unfold F50_den ImgV.val
  refine bx fun b1 w1 hb1 x1 => ?_
  refine ldB hb1 fa_61_3 l1_59 rfl ?_
  refine ldS xa_59 la_94 (h.ext x1).mt hm mth_len fun row hrow => ?_
  have hrow0 := hrow
  obtain ⟨pv, lv, cv, rfl, hp, hl, hc⟩ := hrow
  obtain ⟨pa, pc, rfl⟩ := hp.shape
  obtain ⟨la, lc, rfl⟩ := hl.shape
  obtain ⟨ca, cc, rfl⟩ := SliceIs.shape hc
  refine asB sa_94 rfl rfl fun b2 w2 hb2 x2 => ?_
  have hb2 : Boxed w2 b2 [.slice pa m.params.length pc, i64 m.result, .slice la m.locals.length lc, .slice ca m.code.length cc] := hb2
  have hc := hc.ext x2
  have hrow0 := hrow0.ext x2
  have x12 := x1.trans x2
  have h2 := h.ext x12
  have hb1 := hb1.ext x2
  refine ⟨fun v w' => ∃ j : Nat, v = i64 j ∧ j ≤ m.code.length ∧ Ext w2 w' ∧ ∀ x ∈ m.code.take j, namesS i m x, fun v _ => m.code.length - (RowKit.intOf v).toNat, ⟨0, rfl, Nat.zero_le _, Ext.refl _, fun _ h => by simp at h⟩, ?_⟩
  rintro _ w3 ⟨j, rfl, hj, x3, hnm⟩ _
  refine ldB (hb2.ext x3) fa_94_3 l1_92 rfl (lnx xa_92 (hc.ext x3) (V_lss.2 (ifD_dec (fun hlt => ?_) fun hge => ?_)))
  · have hj' : j < m.code.length := by omega
    have hx := insC_mem hj'
    have hxm := List.mem_of_getElem? hx
    have D1 : Ext w3 w3.drew := (Ext.refl _).drew
    have xd := x3.trans D1
    refine drawD.mk' (fun w' => Ext w2 w') xd ?_
    refine yA (fun w' hw => hb1.ext hw) la_61 rfl ?_
    refine yA (fun w' hw => hb2.ext hw) la_94 rfl ?_
    refine yfB (fun w' hw => hb2.ext hw) fa_94_3 l1_92 rfl ?_
    refine yI hc (fun _ h => h) hx ?_
    refine (names55 (h2.ext xd) (hrow0.ext xd) mr (mr.2.2.2.2 _ hxm)).mono fun v w4 ⟨b, hv, hb, x4⟩ => ?_
    subst hv
    refine ⟨xd.trans x4, yieldS.ok (fun w' _ => r_not) ?_⟩
    cases b with
    | false => simp only [evL, Bool.not_false]; exact no _ 9 _ (.inl ⟨⟨_, hxm, fun h => by have := hb.2 h; cases this⟩, rfl⟩) (by decide) ((x12.trans xd).trans x4)
    | true =>
      simp only [evL, Bool.not_true]
      refine V_add.2 ?_
      rw [wrap_id (by omega) (by omega), i64_succ]
      refine ⟨⟨j + 1, rfl, by omega, xd.trans x4, fun y hy => ?_⟩, by simp only [intOf_i64]; omega⟩
      rw [List.take_add_one, hx] at hy
      rcases List.mem_append.1 hy with hy | hy
      · exact hnm y hy
      · simp at hy; subst hy; exact hb.1 rfl
  have hjl : j = m.code.length := by omega
  subst hjl
  rw [List.take_length] at hnm
  have hox : ∀ x ∈ m.code, Okx i m x := fun x hx => ⟨ir, mr, mr.2.2.2.2 x hx, hnm x hx⟩
  refine ldB (hb2.ext x3) fa_94_3 l1_92 rfl (lnx xa_92 (hc.ext x3) ?_)
  refine mkB Tryz.underlying99 inf57 rfl (by omega) (by omega) fun w4 hB1 x4 z4 => ?_
  have x34 := x3.trans x4
  refine ldB (hb2.ext x34) fa_94_3 l1_92 rfl (lnx xa_92 (hc.ext x34) ?_)
  refine mkB Tryz.underlying100 inf4 rfl (by omega) (by omega) fun w5 hB2 x5 z5 => ?_
  have x35 := x34.trans x5
  refine ldB (hb2.ext x35) fa_94_3 l1_92 rfl (lnx xa_92 (hc.ext x35) ?_)
  refine mkB Tryz.underlying100 inf4 rfl (by omega) (by omega) fun w6 hB3 x6 z6 => ?_
  have x36 := x35.trans x6
  have hmem : Mem w3.heap.size w4.heap.size w5.heap.size w6.heap.size w6 m.code.length (St.ini m.code.length) := by
    refine ⟨⟨_, by simp, (hB1.ext x5).ext x6, fun q hq => ⟨.slice none 0 0, by simp [hq], ?_⟩⟩, ?_, ?_, by simp [St.ini], by simp [St.ini], by simp [St.ini], by omega, by omega, by omega, by omega, Nat.le_refl _⟩
    · have : (St.ini m.code.length).s q = [] := by simp [St.ini, St.s, List.getD_eq_getElem?_getD, hq]
      rw [this]; exact World.ownsRow_nil _ _ _ _
    · have : (St.ini m.code.length).has.map Value.bool = List.replicate m.code.length (.bool false) := by simp [St.ini]
      rw [this]; exact hB2.ext x6
    · have : (St.ini m.code.length).todo.map Value.bool = List.replicate m.code.length (.bool false) := by simp [St.ini]
      rw [this]; exact hB3
  have hg1 : w3.heap.size < w6.heap.size := by omega
  have hw2 : w2.heap.size ≤ w3.heap.size := x3.size
  have hw3 : w3.heap.size + 1 = w4.heap.size := by omega
  have hw4 : w4.heap.size + 1 = w5.heap.size := by omega
  generalize w3.heap.size = g1 at hmem hg1 hw2 hw3
  generalize w4.heap.size = g2 at hmem hw3 hw4
  generalize w5.heap.size = g3 at hmem hw4
  generalize w6.heap.size = B at hmem hg1
  refine stB xa_100 inf4 hmem.s2 (n := m.code.length) (by simp [St.ini]) (by omega) (by omega) rfl ?_
  simp only [show (0 : Int).toNat = 0 from rfl]
  have hmem := hmem.setH 0 true
  refine stB xa_100 inf4 hmem.s3 (n := m.code.length) (by simp [St.ini]) (by omega) (by omega) rfl ?_
  simp only [show (0 : Int).toNat = 0 from rfl]
  have hmem := hmem.setT 0 true
  have x38 := (x36.setCell (b := g2) (o := 0) (by omega) (.bool true)).setCell (b := g3) (o := 0) (by omega) (.bool true)
  have efirst : ({ St.ini m.code.length with has := (St.ini m.code.length).has.set 0 true, todo := (St.ini m.code.length).todo.set 0 true } : St) = St.first m.code.length := by
    simp only [St.ini, St.first, St.mk.injEq, and_true]
    apply List.ext_getElem?
    intro q
    by_cases e : q = 0
    · subst e; simp [List.getElem?_replicate]
    · simp []
  have hmem : Mem g1 g2 g3 B _ m.code.length (St.first m.code.length) := efirst ▸ hmem
  obtain ⟨wf0, inv0⟩ := first_ok (i := i) hn1
  generalize ((w6.setCell ⟨g2, 0, none⟩ (.bool true)).setCell ⟨g3, 0, none⟩ (.bool true)) = w8 at hmem x38
  have hn : m.code.length ≤ 1000 := by omega
  generalize hnn : m.code.length = n at *
  refine ⟨fun w' => ∃ st, (Mem g1 g2 g3 B w' n st ∧ Ext w2 w' ∧ WF m st ∧ Inv i m st ∧ ∀ r, Runs i m st r → Runs i m (St.first n) r), fun w' => mu fun q => ∃ st, (Mem g1 g2 g3 B w' n st ∧ Ext w2 w' ∧ WF m st ∧ Inv i m st ∧ ∀ r, Runs i m st r → Runs i m (St.first n) r) ∧ msr n st = q, ⟨_, hmem, x38, wf0, inv0, fun _ h => h⟩, ?_⟩
  rintro w9 ⟨st0, hst0⟩ _
  obtain ⟨st, ⟨hM, x9, wf, inv, hR⟩, hmu⟩ := mu_spec (p := fun q => ∃ st, (Mem g1 g2 g3 B w9 n st ∧ Ext w2 w9 ∧ WF m st ∧ Inv i m st ∧ ∀ r, Runs i m st r → Runs i m (St.first n) r) ∧ msr n st = q) ⟨_, _, hst0, rfl⟩
  clear hst0 st0
  refine ⟨fun v w' => ∃ q : Nat, v = i64 q ∧ q ≤ n ∧ w' = w9 ∧ ∀ j, j < q → st.t j = false, fun v _ => n - (RowKit.intOf v).toNat, ⟨0, rfl, Nat.zero_le _, rfl, fun _ h => absurd h (Nat.not_lt_zero _)⟩, ?_⟩
  rintro _ w9' ⟨q, rfl, hq, hw9, hno⟩ _
  have hw9 := hw9.symm
  subst hw9
  have hWk : ∀ {r}, Runs i m st r → Walk i m r := fun {r} hr => .inr ⟨hnm, by rw [hnn]; exact hR r hr⟩
  refine lnx xa_100 (hM.ts hn) (V_lss.2 ?_)
  by_cases hqn : (q : Int) < (n : Int)
  case neg =>
    have hqe : (q : Int) = (n : Int) := by omega
    simp only [hqn, evL, reduceIte, Bool.false_eq_true, decide_false]
    refine lnx xa_100 (hM.ts hn) (V_eqlI.2 ?_)
    simp only [hqe, evL, decide_true]
    exact yes st _ _ _ (hWk (.done (firstT_not fun j hj => hno j (by rw [hM.l3] at hj; omega)))) (hM.states hn) (hM.bools hn) (x12.trans x9)
  have hqn' : q < n := by omega
  simp only [hqn, evL, reduceIte, decide_true]
  refine ldx xa_100 l1_4 (hM.ts hn) (by omega) (by omega) (getB' (by rw [hM.l3]; exact hqn')) (V_not.2 ?_)
  have ett : st.todo.getD q false = st.t q := rfl
  rw [ett]
  cases htq : st.t q with
  | false =>
    simp only [evL, Bool.not_false]
    refine V_add.2 ?_
    rw [wrap_id (by omega) (by omega), i64_succ]
    refine ⟨⟨q + 1, rfl, by omega, rfl, fun j hj => ?_⟩, by simp only [intOf_i64]; omega⟩
    by_cases hjq : j = q
    · rw [hjq]; exact htq
    · exact hno j (by omega)
  | true =>
  simp only [evL, Bool.not_true]
  refine lnx xa_100 (hM.ts hn) (V_eqlI.2 ?_)
  have hne : ¬ ((q : Int) = (n : Int)) := by omega
  simp only [hne, evL, decide_false]
  have hfirst : firstT st.todo = some q := firstT_of htq fun j hj => hno j hj
  have hhq : st.h q = true := by
    cases e : st.h q with
    | true => rfl
    | false => have := (wf.no q e).2; rw [htq] at this; cases this
  obtain ⟨hkd, hl8⟩ := wf.kd q hhq
  have hxq := insC_mem (m := m) (k := q) (by omega)
  have ox := hox _ (List.mem_of_getElem? hxq)
  refine stB xa_100 inf4 hM.s3 (n := n) (by simpa using hM.l3) (by omega) (by omega) rfl ?_
  rw [Int.toNat_natCast]
  have hM1 := hM.setT q false
  have x10 := x9.setCell (b := g3) (o := q) (by omega) (.bool false)
  generalize w9.setCell ⟨g3, q, none⟩ (.bool false) = w10 at hM1 x10
  have estep : stepS i m st q = (doS i m (m.ins q) (st.s q)).bind fun stack => goesL n stack (nextS (m.ins q) q) { st with todo := st.todo.set q false } := by unfold stepS; rw [hnn]
  generalize hst1 : ({ st with todo := st.todo.set q false } : St) = st1 at hM1 estep
  have es1 : st1.s q = st.s q := by rw [← hst1]; rfl
  obtain ⟨vs, v, hvs, hv, hov⟩ := hM1.ss hn hqn'
  rw [es1] at hov
  have D1 : Ext w10 w10.drew := (Ext.refl _).drew
  have xd := x10.trans D1
  refine drawD.mk' (fun w' => Ext w10 w') D1 ?_
  refine yA (fun w' hw => hb1.ext (x10.trans hw)) la_61 rfl ?_
  refine yA (fun w' hw => hb2.ext (x10.trans hw)) la_94 rfl ?_
  refine yfB (fun w' hw => hb2.ext (x10.trans hw)) fa_94_3 l1_92 rfl ?_
  have hcn : InsAre w2 (.slice ca n cc) m.code := hc
  refine yI hcn (fun _ h => x10.trans h) hxq ?_
  refine ySl xa_99 l1_57 hvs (fun _ h => h) (by omega) (by omega) hv ?_
  refine does56 (h2.ext xd) (hrow0.ext xd) ox (SliceIs.of_own (D1.own hov)) hkd hl8 (fun out v2 w11 hdo ho2 x11 => ?_) fun e w11 hdo hne x11 => ?_
  case refine_2 =>
    refine ⟨D1.trans x11, yieldS.ok (fun w' _ => r_ext0) (yieldS.ok (fun w' _ => r_ext1) (V_neqI.2 ?_))⟩
    simp only [hne, evL, not_false_eq_true, ne_eq, decide_true]
    refine no q e _ (hWk (.fail hfirst ?_)) hne ((x12.trans xd).trans x11)
    rw [estep, hdo]; rfl
  refine ⟨D1.trans x11, yieldS.ok (fun w' _ => r_ext0) (yieldS.ok (fun w' _ => r_ext1) (V_neqI.2 ?_))⟩
  simp only [evL, not_true_eq_false, ne_eq, decide_false]
  obtain ⟨od1, od2, _, _⟩ := doS_ok ox hkd hdo
  rw [hdo] at estep
  have estep : stepS i m st q = goesL n out (nextS (m.ins q) q) st1 := estep
  have xd11 := D1.trans x11
  have hM2 := hM1.ext xd11
  have x11' := x10.trans xd11
  have ho2 := own_mono ho2 (B' := B) (Nat.le_trans hM1.o.2.2.2.2 D1.size)
  refine ldB (hb2.ext x11') fa_94_3 l1_92 rfl ?_
  refine ldI (hcn.ext x11') hxq ?_
  refine targets57 (x := m.ins q) (pc := q) (by omega) fun tv w12 hot x12' => ?_
  have ht0 := next0 ox (pc := q)
  have hLl : (nextS (m.ins q) q).length ≤ 2 := nextS_len _ _
  generalize nextS (m.ins q) q = L at hot ht0 estep hLl
  have hM3 := hM2.ext x12'
  have hot := own_mono hot (B' := B) hM2.o.2.2.2.2
  have ho3 := x12'.own ho2
  have x13 := x11'.trans x12'
  have wf1 : WF m st1 := by
    rw [← hst1]
    refine ⟨wf.l1, wf.l2, by simpa using wf.l3, wf.kd, fun k hk => ⟨(wf.no k hk).1, ?_⟩⟩
    simp only [St.t, getD_set]
    split
    · rfl
    · exact (wf.no k hk).2
  have fail : ∀ {j to st' w'} (pc e : Int), goesL n out (L.take j) st1 = some st' → L[j]? = some to → goesS n st' to out = none → e ≠ 0 → Ext w2 w' → K (.tuple #[nilS, nilS, i64 pc, i64 e]) w' := by
    intro j to st' w' pc e h1 h2 h3 h4 h5
    exact no pc e _ (hWk (.fail hfirst (by rw [estep]; exact goesL_fail h1 h2 h3))) h4 (x12.trans h5)
  refine ⟨fun v w' => ∃ (j : Nat) (st' : St), v = i64 j ∧ j ≤ L.length ∧ Ext w2 w' ∧ Mem g1 g2 g3 B w' n st' ∧ goesL n out (L.take j) st1 = some st' ∧ w'.ownsRow B 3 1 tv L.length (L.map i64) ∧ w'.ownsRow B 3 1 v2 out.length (out.map i64), fun v _ => L.length - (RowKit.intOf v).toNat, ⟨0, st1, rfl, Nat.zero_le _, x13, hM3, rfl, hot, ho3⟩, ?_⟩
  rintro _ w13 ⟨j, st', rfl, hj, xx, hM4, hgo, hot4, ho4⟩ _
  refine lnx xa_57 (SliceIs.of_own hot4) (V_lss.2 (ifD_dec (fun hlt => ?_) fun hge => ?_))
  case refine_2 =>
    have hjL : j = L.length := by omega
    subst hjL
    rw [List.take_length] at hgo
    have es : stepS i m st q = some st' := by rw [estep]; exact hgo
    obtain ⟨s1, s2, s3⟩ := step_ok hox wf inv hfirst es
    have hI : Mem g1 g2 g3 B w13 n st' ∧ Ext w2 w13 ∧ WF m st' ∧ Inv i m st' ∧ ∀ r, Runs i m st' r → Runs i m (St.first n) r := ⟨hM4, xx, s1, s2, fun r hr => hR r (.go hfirst es hr)⟩
    rw [hnn] at s3
    exact ⟨⟨st', hI⟩, Nat.lt_of_le_of_lt (mu_le ⟨st', hI, rfl⟩) (Nat.lt_of_lt_of_eq s3 hmu)⟩
  obtain ⟨to, hto⟩ := ex_get (l := L) (j := j) (by omega)
  have hto0 := ht0 to (List.mem_of_getElem? hto)
  refine ldO' xa_57 l1_3 hot4 (by omega) (by omega) (getI hto) ?_
  refine ldB (hb2.ext xx) fa_94_3 l1_92 rfl ?_
  refine lnx xa_92 (hc.ext xx) (V_geq.2 (ifD_dec (fun hbig => ?_) fun hsm => ?_))
  · rw [hnn] at hbig
    exact fail _ 13 hgo hto (by unfold goesS; rw [if_pos (by omega)]) (by decide) xx
  rw [hnn] at hsm
  obtain ⟨t, rfl⟩ : ∃ t : Nat, to = t := ⟨to.toNat, by omega⟩
  have htn : t < n := by omega
  have wf' : WF m st' := (goesL_ok od1 od2 wf1 (fun to ht => ht0 to (List.mem_of_mem_take ht)) (by rw [hnn]; exact hgo)).1
  have next : ∀ {w' st''}, Ext w2 w' → Mem g1 g2 g3 B w' n st'' → goesS n st' t out = some st'' → w'.ownsRow B 3 1 tv L.length (L.map i64) → w'.ownsRow B 3 1 v2 out.length (out.map i64) → V Tryz.prog (binOp .add 3 (i64 j) (i64 1)) w' fun t2 w' =>
      (∃ (j : Nat) (st' : St), t2 = i64 j ∧ j ≤ L.length ∧ Ext w2 w' ∧ Mem g1 g2 g3 B w' n st' ∧ goesL n out (L.take j) st1 = some st' ∧ w'.ownsRow B 3 1 tv L.length (L.map i64) ∧ w'.ownsRow B 3 1 v2 out.length (out.map i64)) ∧ L.length - (RowKit.intOf t2).toNat < L.length - (RowKit.intOf (i64 (j : Int))).toNat := by
    intro w' st'' h1 h2 h3 h4 h5
    refine V_add.2 ?_
    rw [wrap_id (by omega) (by omega), i64_succ]
    exact ⟨⟨j + 1, st'', rfl, by omega, h1, h2, goesL_take hgo hto h3, h4, h5⟩, by simp only [intOf_i64]; omega⟩
  refine ldx xa_100 l1_4 (hM4.hs hn) (by omega) (by omega) (getB' (by rw [hM4.l2]; exact htn)) (V_not.2 ?_)
  have ehh : st'.has.getD t false = st'.h t := rfl
  rw [ehh]
  have hgG : ∀ {r}, (if st'.h t then (joinL (st'.s t) out).bind fun j => if j = st'.s t then some st' else some { st' with st := st'.st.set t j, todo := st'.todo.set t true } else some ⟨st'.st.set t out, st'.has.set t true, st'.todo.set t true⟩) = r → goesS n st' t out = r := by
    rintro _ rfl
    unfold goesS
    rw [if_neg (by omega)]
    simp only [Int.toNat_natCast]
  have hlo1 : w2.heap.size ≤ g1 := hw2
  have hlo2 : w2.heap.size ≤ g2 := by omega
  have hlo3 : w2.heap.size ≤ g3 := by omega
  have hBo := hM4.o
  cases hht : st'.h t with
  | false =>
    simp only [evL, Bool.not_false]
    obtain ⟨vs4, q1, q2, q3⟩ := hM4.s1
    refine stB xa_99 inf57 q2 (n := n) q1 (by omega) (by omega) (by
      rcases ho4.2 with ⟨rfl, _⟩ | ⟨_, _, _, rfl, _⟩ <;> rfl) ?_
    rw [Int.toNat_natCast]
    have hM5 := hM4.setS ho4 htn
    refine stB xa_100 inf4 hM5.s2 (n := n) (by simpa using hM5.l2) (by omega) (by omega) rfl ?_
    rw [Int.toNat_natCast]
    have hM6 := hM5.setH t true
    refine stB xa_100 inf4 hM6.s3 (n := n) (by simpa using hM6.l3) (by omega) (by omega) rfl ?_
    rw [Int.toNat_natCast]
    have hM7 := hM6.setT t true
    refine next (((xx.setCell hlo1 _).setCell hlo2 _).setCell hlo3 _) hM7 (hgG (by rw [hht]; rfl)) ?_ ?_
    · exact own_set (own_set (own_set hot4 hBo.2.1) hBo.2.2.1) hBo.2.2.2.1
    · exact own_set (own_set (own_set ho4 hBo.2.1) hBo.2.2.1) hBo.2.2.2.1
  | true =>
    simp only [evL, Bool.not_true]
    obtain ⟨hkt, hlt8⟩ := wf'.kd t hht
    obtain ⟨vs5, v5, hvs5, hv5, hov5⟩ := hM4.ss hn htn
    refine ldx xa_99 l1_57 hvs5 (by omega) (by omega) hv5 ?_
    refine JoinAll58 (SliceIs.of_own hov5) (SliceIs.of_own ho4) hkt od1 (by omega) (fun jo v6 w14 hjo ho6 x14 => ?_) fun w14 hjo x14 => ?_
    case refine_2 =>
      refine V_ext0.2 (V_ext1.2 (V_not.2 ?_))
      simp only [evL, Bool.not_false]
      exact fail _ 14 hgo hto (hgG (by rw [hht, hjo]; rfl)) (by decide) (xx.trans x14)
    refine V_ext0.2 (V_ext1.2 (V_not.2 ?_))
    simp only [evL, Bool.not_true]
    have hM5 := hM4.ext x14
    obtain ⟨vs7, v7, hvs7, hv7, hov7⟩ := hM5.ss hn htn
    refine ldx xa_99 l1_57 hvs7 (by omega) (by omega) hv7 ?_
    refine sameInts59 (SliceIs.of_own ho6) (SliceIs.of_own hov7) fun w15 x15 => V_not.2 ?_
    have hM6 := hM5.ext x15
    have xx15 := (xx.trans x14).trans x15
    have hot6 := (x14.trans x15).own hot4
    have ho46 := (x14.trans x15).own ho4
    have ho6 := own_mono (x15.own ho6) (B' := B) hBo.2.2.2.2
    by_cases hje : jo = st'.s t
    · simp only [hje, evL, Bool.not_true, decide_true]
      exact next xx15 hM6 (hgG (by rw [hht, hjo]; simp [hje])) hot6 ho46
    · simp only [hje, evL, Bool.not_false, decide_false]
      obtain ⟨vs8, q1, q2, q3⟩ := hM6.s1
      refine stB xa_99 inf57 q2 (n := n) q1 (by omega) (by omega) (by
        rcases ho6.2 with ⟨rfl, _⟩ | ⟨_, _, _, rfl, _⟩ <;> rfl) ?_
      rw [Int.toNat_natCast]
      have hM7 := hM6.setS ho6 htn
      refine stB xa_100 inf4 hM7.s3 (n := n) (by simpa using hM7.l3) (by omega) (by omega) rfl ?_
      rw [Int.toNat_natCast]
      have hM8 := hM7.setT t true
      refine next ((xx15.setCell hlo1 _).setCell hlo3 _) hM8 (hgG (by rw [hht, hjo]; simp [hje])) ?_ ?_
      · exact own_set (own_set hot6 hBo.2.1) hBo.2.2.2.1
      · exact own_set (own_set ho46 hBo.2.1) hBo.2.2.2.1
theorem verify11 {p : ImgV} {i : Img} (h : ImgAt w p i) (hn : NamesOk w i) (hk : ∀ a b e w', (e = 0 ↔ Taken i) → Ext w w' → K (.tuple #[.agg #[i64 a, i64 b], i64 e]) w') : callD Tryz.prog 31 #[p.val i] w K := by
  apply F31_wp
  unfold F31_den ImgV.val
  refine bx fun b1 w1 hb1 x1 => ?_
  refine alK inf65 fun w2 hB2 x2 => ?_
  have x12 := x1.trans x2
  have hg : w.heap.size ≤ w1.heap.size := x1.size
  have hb1 := hb1.ext x2
  generalize w1.heap.size = g at hB2 hg
  have hB2 : Blk w2 g [i64 0, i64 0] 65 := hB2
  refine ldA hb1 la_61 rfl ?_
  refine (right27 (h.ext x12) (hn.ext x12)).mono fun v w3 ⟨b, hv, hb, x3⟩ => ?_
  subst hv
  have x13 := x12.trans x3
  have fin : ∀ {w' : World} {a b e : Int}, Blk w' g [i64 0, i64 0] 65 → Ext w w' → (e = 0 ↔ Taken i) → U Tryz.prog (Instr.storeAt 65 (.pointer (some ⟨g, 0, none⟩)) (.agg #[i64 a, i64 b])) w' fun _ w7 =>
      ∃ r1, (loadVar 65 (match (Value.pointer (some ⟨g, 0, none⟩)) with | .pointer (some p) => p | _ => ⟨0, 0, none⟩)).run Tryz.prog w7 = .ok r1 w7 ∧ (∃ p, (Value.pointer (some ⟨g, 0, none⟩)) = Value.pointer (some p)) ∧ K (.tuple #[r1, i64 e]) w7 := by
    intro w' a b e hB hx he
    refine stA inf65 hB (l := [i64 a, i64 b]) rfl rfl rfl rfl fun w7 hB7 hc => ?_
    exact ⟨_, r_var Tryz.underlying65 rfl inf65 hB7 rfl, ⟨_, rfl⟩, hk a b e _ he (hc.ext _ hx hg)⟩
  cases b with
  | false =>
    simp only [evL, Bool.not_false]
    refine bld bd_65 [] rfl rfl ?_
    exact fin (hB2.ext x3) x13 ⟨fun h => (by cases h), fun h => by have := hb.2 h.1; cases this⟩
  | true =>
  simp only [evL, Bool.not_true]
  have ir := hb.1 rfl
  have hm8 := ir.2.2.1.1.2
  refine ⟨fun v w' => ∃ j : Nat, v = i64 j ∧ j ≤ i.methods.length ∧ Ext w2 w' ∧ ∀ q, q < j → ∃ st, Walk i (i.meth q) (some st), fun v _ => i.methods.length - (RowKit.intOf v).toNat, ⟨0, rfl, Nat.zero_le _, x3, fun _ h => absurd h (Nat.not_lt_zero _)⟩, ?_⟩
  rintro _ w4 ⟨j, rfl, hj, x4, hall⟩ _
  refine ldB (hb1.ext x4) fa_61_3 l1_59 rfl (lnS xa_59 ((h.ext x12).ext x4).mt (V_lss.2 (ifD_dec (fun hlt => ?_) fun hge => ?_)))
  · refine ldA (hb1.ext x4) la_61 rfl ?_
    refine walk28 ((h.ext x12).ext x4) ir (by omega) (fun st sv hv w5 hw _ _ x5 => ?_) fun pc e w5 hw hne x5 => ?_
    · refine V_ext40.2 (V_ext41.2 (V_ext42.2 (V_ext43.2 (V_neqI.2 ?_))))
      simp only [evL, not_true_eq_false, ne_eq, decide_false]
      refine V_add.2 ?_
      rw [wrap_id (by omega) (by omega), i64_succ]
      refine ⟨⟨j + 1, rfl, by omega, x4.trans x5, fun q hq => ?_⟩, by simp only [intOf_i64]; omega⟩
      by_cases hqj : q = j
      · subst hqj; exact ⟨st, hw⟩
      · exact hall q (by omega)
    · refine V_ext40.2 (V_ext41.2 (V_ext42.2 (V_ext43.2 (V_neqI.2 ?_))))
      simp only [hne, evL, not_false_eq_true, ne_eq, decide_true]
      refine bld bd_65 [(0, i64 j), (1, i64 pc)] rfl rfl ?_
      refine fin (hB2.ext (x4.trans x5)) ((x12.trans x4).trans x5) ⟨fun h => absurd h hne, fun ht => ?_⟩
      have hmm := meth_get (i := i) (a := (j : Int)) (by omega) (by omega)
      obtain ⟨s, hs⟩ := ht.2 _ (List.mem_of_getElem? hmm)
      have := hs.det hw
      cases this
  · have hjl : j = i.methods.length := by omega
    subst hjl
    refine bld bd_65 [] rfl rfl ?_
    refine fin (hB2.ext x4) (x12.trans x4) ⟨fun _ => ⟨ir, fun m hm => ?_⟩, fun _ => rfl⟩
    obtain ⟨q, hq⟩ := List.getElem?_of_mem hm
    have hlt := (List.getElem?_eq_some_iff.1 hq).1
    have hmm := meth_get (i := i) (a := (q : Int)) (by omega) (by omega)
    rw [Int.toNat_natCast, hq] at hmm
    cases hmm
    exact hall q hlt
end Go.Proofs.YthblbcjgdbaonaaGreatDoor
namespace Go.Vc
section
variable {P : Program} {w : World} {K : Value → World → Prop}
theorem own_take' {B e sz n a : Nat} {g cap : Nat} {xs : List Value} (h : w.ownsRow B e sz (.slice (some ⟨g, 0, none⟩) n cap) n xs) (ha : a ≤ n) : w.ownsRow B e sz (.slice (some ⟨g, 0, none⟩) a cap) a (xs.take (a * sz)) := by
  obtain ⟨hl, h⟩ := h
  rcases h with ⟨he, _⟩ | ⟨g', cap', cur, he, h1, h2, h3, h4, h5, h6⟩
  · cases he
  · cases he
    have hle : a * sz ≤ n * sz := Nat.mul_le_mul_right _ ha
    refine ⟨by simp; omega, .inr ⟨g, cap, cur, rfl, h1, h2, by omega, h4, h5, ?_⟩⟩
    rw [← h6, List.take_take, Nat.min_eq_left hle]
end
end Go.Vc
namespace Go.Proofs.YthblbcjgdbaonaaGreatDoor
open Go.Vc Go.Tc
variable {w : World} {K : Value → World → Prop}
end Go.Proofs.YthblbcjgdbaonaaGreatDoor
namespace Go.Vc
section
variable {P : Program} {w : World} {K : Value → World → Prop}
theorem apG {t e by_ ty sz : Nat} {z : Value} (ht : P.underlying t = some (.slice e)) (hi : Inf P e z sz by_) (hz : (z.cells.size == sz) = true) (hsz : 0 < sz) {B : Nat} {v : Value} {n : Nat} {xs : List Value} (ho : w.ownsRow B e sz v n xs) {x : Value} {m : Nat} {news : List Value} (hs : SliceIs w x sz m news) (h1 : news.all oneC = true)
    (hb : (n + m) * by_ ≤ 140737488355328) (h63 : n + m ≤ maxLen) (hB : B ≤ w.heap.size)
    (hk : ∀ v' w', w'.ownsRow B e sz v' (n + m) (xs ++ news) → w.grownBy w' v.ownBlock → (v'.ownBlock = v.ownBlock ∨ v'.ownBlock = some w.heap.size) → K v' w') :
    V P (Builtin.append_ #[t, t] ty #[v, x]) w K := by
  obtain ⟨i, hi', hz', hn, hby⟩ := info_parts hi
  rcases hs.2 with ⟨rfl, rfl⟩ | ⟨b, off, cap, rfl, _, _, hc⟩
  · have hnews : news = [] := by have := hs.1; simpa using this
    subst hnews
    exact V.ok (run_append_owned_none w B t ty e i sz ht hi' v n xs ho) (hk _ _ (by simpa using ho) ⟨rfl, rfl, rfl, Nat.le_refl _, fun _ _ _ => rfl⟩ (.inl rfl))
  · obtain ⟨v', w', hr, h2, h3, _, h5⟩ := run_append_own_at (P := P) w B t ty e i z sz by_ ht hi' hz' hn hby (by simpa using hz) hsz v n xs ho ⟨b, off, none⟩ m cap news hs.1
      (fun j u hj => by rw [add_mk]; exact hc j u hj) (fun u hu => by rw [oneC_eq]; exact List.all_eq_true.1 h1 u hu) h63 hb hB
    exact V.ok hr (hk v' w' h2 h3 h5)
theorem bslG {t e by_ sz : Nat} {z : Value} (ht : P.underlying t = some (.slice e)) (hi : Inf P e z sz by_) (hz : (z.cells.size == sz) = true) (hsz : 0 < sz) (vs : List Value) {n : Nat} {parts : Array (Nat × Value)} (hn : n = vs.length) (hp : parts.toList = (vs.zipIdx 0).map fun x => (x.2, x.1)) (hc : ∀ v ∈ vs, v.cells.size = sz)
    (h0 : 0 < n) (hl : n * sz ≤ 16777216) (hk : ∀ v w', w'.ownsRow w.heap.size e sz v n (vs.flatMap fun v => v.cells.toList) → Ext w w' → K v w') : V P (Instr.buildSlice t n parts) w K := by
  subst hn
  obtain ⟨i, hi', hz', hn, hby⟩ := info_parts hi
  have hz2 : z.cells.size = sz := by simpa using hz
  have hl1 : vs.length ≤ vs.length * sz := Nat.le_mul_of_pos_right _ hsz
  have hf := Go.Great.fill_whole hsz vs ((Array.range (vs.length * sz)).map (z.cells[· % z.cells.size]!)) hc (by simp)
  have hr := run_buildSlice (P := P) w t e vs.length parts _ i z ht hi' hz' (by rw [hn]; omega) (by rw [hn]; omega) (by rw [hn, hp]; exact hf)
  refine V.ok hr (hk _ _ ?_ ((Ext.refl w).alloc _))
  have hsize : ((vs.flatMap fun v => v.cells.toList).toArray).size = vs.length * sz := by
    clear hr hf hl hp h0 hl1 hk
    simp only [List.size_toArray]
    induction vs with
    | nil => simp
    | cons v l ih =>
      have h1 := hc v (by simp)
      have h2 := ih fun u hu => hc u (by simp [hu])
      simp only [List.flatMap_cons, List.length_append, List.length_cons, Array.length_toList, h1, h2, Nat.add_mul]
      omega
  have := World.ownsRow_lit (base := w.heap.size) (e := e) (size := sz) w (vs.flatMap fun v => v.cells.toList).toArray vs.length (Nat.le_refl _) (by unfold maxLen; omega) hsize
  simpa using this
theorem idxA {t e n by_ : Nat} {z : Value} {k : IntKind} (ht : P.underlying t = some (.array n e)) (hi : Inf P e z 1 by_) (hd : P.underlying e = some (.int k)) {l : List Int} (hl : l.length = n) {i : Int} (h0 : 0 ≤ i) (h1 : i < n) (hk : ∀ z ∈ l, K (i64 z) w) :
    V P (Instr.index t (.agg (l.map i64).toArray) (i64 i)) w K := by
  have hlt : i.toNat < l.length := by omega
  refine V.ok (r_idx ht hi ⟨_, hd⟩ h0 h1 (u := i64 l[i.toNat]) ?_ rfl) (hk _ (List.getElem_mem hlt))
  simp [hlt]
end
end Go.Vc
namespace Go.Proofs.YthblbcjgdbaonaaGreatDoor
open Go.Vc Go.Tc
variable {w : World} {K : Value → World → Prop}
theorem own_oneM {w : World} {B e sz n : Nat} {v : Value} {xs : List Value} (h : w.ownsRow B e sz v n xs) : oneC v = true := by
  rcases h.2 with ⟨rfl, _⟩ | ⟨_, _, _, rfl, _⟩ <;> rfl
theorem pick10 {n m : Int} (hm : 0 < m) (hm2 : m ≤ 4611686018427387904) (hk : ∀ k, 0 ≤ k → k < m → K (i64 k) w) : callD Tryz.prog 9 #[i64 n, i64 m] w K := by
  apply F9_wp
  unfold F9_den
  refine rm hm fun c _ h1 h2 => ?_
  refine V_lss.2 (ifD_dec (fun hlt => ?_) fun hge => ?_)
  · refine V_add.2 ?_
    rw [wrap_id (by omega) (by omega)]
    exact hk _ (by omega) (by omega)
  · exact hk _ (by omega) h2
def BinsOk (w : World) : Prop := ∀ j, j < 12 → ∃ n, w.cell? ⟨3, j, none⟩ = some (i64 n)
structure Mc where
  H : Nat → Prop
  B : Nat
  g : Nat
  nv : Value
  lv : Value
  nums : List Int
  loc : List Int
structure Mo (c : Mc) (wb : World) : Prop where
  gB : c.g < c.B ∧ c.B ≤ wb.heap.size
  hH : ∀ k, c.H k → k < wb.heap.size ∧ k ≠ c.g
  nums : ∀ w, Fr (fun k => ¬ c.H k) wb w → IntsAre w c.nv c.nums
  loc : ∀ w, Fr (fun k => ¬ c.H k) wb w → IntsAre w c.lv c.loc
  bins : ∀ w, Fr (fun k => ¬ c.H k) wb w → BinsOk w
  ln : c.nums.length ≤ 4611686018427387904
  ll : c.loc.length ≤ 1000000
structure Mk (c : Mc) (wb w : World) (lo n d : Nat) : Prop where
  o : Mo c wb
  fr : Fr (fun k => ¬ c.H k) wb w
  at_ : ∃ (cv : Value) (code : List Ins) (pos : Nat), Blk w c.g [cv, c.nv, i64 pos, c.lv, i64 d] 141 ∧ w.ownsRow c.B 97 3 cv code.length (insC code) ∧ lo ≤ code.length ∧ code.length ≤ n ∧ pos ≤ n ∧ (∀ x ∈ code, x.rg) ∧ ∀ k, cv.ownBlock = some k → ¬ c.H k
theorem Mk.mono {c : Mc} {wb : World} {lo n d lo' n' : Nat} (h : Mk c wb w lo n d) (h1 : lo' ≤ lo) (h2 : n ≤ n') : Mk c wb w lo' n' d := by
  obtain ⟨o, fr, cv, code, pos, a1, a2, a3, a4, a5, a6⟩ := h
  exact ⟨o, fr, cv, code, pos, a1, a2, by omega, by omega, by omega, a6⟩
theorem Mk.up {c : Mc} {wb : World} {lo n d n' : Nat} (h : Mk c wb w lo n d) (h2 : n ≤ n') : Mk c wb w 0 n' d := h.mono (Nat.zero_le _) h2
theorem Mk.ext {c : Mc} {wb w' : World} {lo n d : Nat} (h : Mk c wb w lo n d) (hx : Ext w w') : Mk c wb w' lo n d := by
  obtain ⟨o, fr, cv, code, pos, a1, a2, a3⟩ := h
  exact ⟨o, fr.trans (Fr.of_ext hx) fun _ _ h => h, cv, code, pos, a1.ext hx, hx.own a2, a3⟩
theorem Mk.numsAt {c : Mc} {wb : World} {lo n d : Nat} (h : Mk c wb w lo n d) : IntsAre w c.nv c.nums := h.o.nums w h.fr
theorem Mk.locAt {c : Mc} {wb : World} {lo n d : Nat} (h : Mk c wb w lo n d) : IntsAre w c.lv c.loc := h.o.loc w h.fr
theorem Mk.gH {c : Mc} {wb : World} {lo n d : Nat} (h : Mk c wb w lo n d) : ¬ c.H c.g := fun hg => (h.o.hH _ hg).2 rfl
theorem ldD {c : Mc} {wb : World} {lo n d : Nat} (h : Mk c wb w lo n d) (hk : K (i64 (d : Nat)) w) : V Tryz.prog (Instr.fieldAt 141 (.pointer (some ⟨c.g, 0, none⟩)) 4) w fun q w1 => V Tryz.prog (Instr.loadAt 3 q) w1 K := by
  obtain ⟨cv, code, pos, a1, _⟩ := h.at_
  exact ldB (Blk.boxed a1) fa_141_4 l1_3 rfl hk
theorem stD {c : Mc} {wb : World} {lo n d d' : Nat} {K' : World → Prop} (h : Mk c wb w lo n d) (hk : ∀ w', Mk c wb w' lo n d' → K' w') : V Tryz.prog (Instr.fieldAt 141 (.pointer (some ⟨c.g, 0, none⟩)) 4) w fun q w1 => U Tryz.prog (Instr.storeAt 3 q (i64 (d' : Nat))) w1 fun _ w2 => K' w2 := by
  have hg := h.gH
  obtain ⟨o, fr, cv, code, pos, a1, a2, a3⟩ := h
  refine stF fa_141_4 inf3 a1 (n := 5) rfl (by decide) rfl (hk _ ⟨o, fr.set hg, cv, code, pos, a1.set 4 _, ?_, a3⟩)
  exact (Fr.of_set (S := fun i => i = c.g) rfl).own a2 fun k hk he => by have := (a2.lt k hk).1; have := o.gB.1; omega
theorem insC_snoc (l : List Ins) (x : Ins) : insC (l ++ [x]) = insC l ++ [i64 x.op, i64 x.a, i64 x.b] := by simp [insC]
theorem put51 {c : Mc} {wb : World} {lo n d : Nat} {op a b : Int} (h : Mk c wb w lo n d) (hn : n ≤ 1000000) (hk : ∀ w', Mk c wb w' 1 (n + 1) d → K (.tuple #[]) w') (hb : -9223372036854775808 ≤ b ∧ b ≤ 9223372036854775807 := by decide) :
    callD Tryz.prog 71 #[.pointer (some ⟨c.g, 0, none⟩), i64 op, i64 a, i64 b] w K := by
  have hg := h.gH
  obtain ⟨o, fr, cv, code, pos, a1, a2, a3, a4, a5, a6, a7⟩ := h
  have hgB := o.gB
  apply F71_wp
  unfold F71_den
  refine ⟨.inl ⟨_, rfl⟩, ldB (Blk.boxed a1) fa_141_0 l1_92 rfl ?_⟩
  refine bld bd_97 [(0, i64 op), (1, i64 a), (2, i64 b)] rfl rfl ?_
  refine bslG Tryz.underlying92 inf97 rfl (by decide) [.agg #[i64 op, i64 a, i64 b]] rfl rfl (by intro v hv; rw [List.mem_singleton] at hv; subst hv; rfl) (by decide) (by decide) fun uv w5 ho5 x5 => ?_
  refine apG Tryz.underlying92 inf97 rfl (by decide) (x5.own a2) (SliceIs.of_own ho5) (by rfl) (by omega) (by unfold maxLen; omega) (Nat.le_trans hgB.2 (fr.trans (Fr.of_ext x5) fun _ _ h => h).size) fun v6 w6 ho6 hg6 hl6 => ?_
  have a1' : Blk w6 c.g _ _ := (Fr.of_grown (S := fun k => cv.ownBlock = some k) hg6 fun k hk => hk).blk (a1.ext x5) fun hk => by have := (a2.lt _ hk).1; omega
  have fr6 : Fr (fun k => ¬ c.H k) wb w6 := (fr.trans (Fr.of_ext x5) fun _ _ h => h).trans (Fr.of_grown (S := fun k => ¬ c.H k) hg6 fun k hk => a7 k hk) fun _ _ h => h
  have e6 : insC code ++ [Value.agg #[i64 op, i64 a, i64 b]].flatMap (fun v => v.cells.toList) = insC (code ++ [⟨op, a, b⟩]) := by rw [insC_snoc]; rfl
  rw [e6] at ho6
  refine ⟨.inl ⟨_, rfl⟩, stF fa_141_0 inf92 a1' (n := 5) rfl (by decide) (own_oneM ho6) (hk _ ⟨o, fr6.set hg, v6, code ++ [⟨op, a, b⟩], pos, a1'.set 0 _, ?_, by simp, by simp; omega, by omega, fun x hx => ?_, fun k hk => ?_⟩)⟩
  · rw [List.length_append]
    exact (Fr.of_set (S := fun i => i = c.g) rfl).own ho6 fun k hk he => by have := (ho6.lt k hk).1; omega
  · rcases List.mem_append.1 hx with hx | hx
    · exact a6 x hx
    · rw [List.mem_singleton] at hx; subst hx; exact hb
  · rcases hl6 with h6 | h6
    · rw [h6] at hk; exact a7 k hk
    · rw [h6] at hk
      cases hk
      intro hH
      have h1 := (o.hH _ hH).1
      have h2 := fr.size
      have h3 := x5.size
      omega
theorem next112 {c : Mc} {wb : World} {lo n d : Nat} (h : Mk c wb w lo n d) (hn : n ≤ 1000000) (hk : ∀ z w', Mk c wb w' lo (n + 1) d → Fr (fun k => k = c.g) w w' → K (i64 z) w') :
    callD Tryz.prog 137 #[.pointer (some ⟨c.g, 0, none⟩)] w K := by
  have hg := h.gH
  have hnum := h.numsAt
  have h0 := h
  obtain ⟨o, fr, cv, code, pos, a1, a2, a3, a4, a5, a6⟩ := h
  have hgB := o.gB
  have hln := o.ln
  apply F137_wp
  unfold F137_den
  refine ⟨.inl ⟨_, rfl⟩, ldB (Blk.boxed a1) fa_141_1 l1_57 rfl (lnx xa_57 hnum (V_eqlI.2 (ifD_dec (fun hz => ?_) fun hz => ?_)))⟩
  · exact hk 0 w (h0.mono (Nat.le_refl _) (by omega)) (Fr.refl _ _)
  refine ⟨.inl ⟨_, rfl⟩, ldB (Blk.boxed a1) fa_141_2 l1_3 rfl (V_add.2 ?_)⟩
  rw [wrap_id (by omega) (by omega), i64_succ]
  refine ⟨.inl ⟨_, rfl⟩, stF fa_141_2 inf3 a1 (n := 5) rfl (by decide) rfl ?_⟩
  have hset : Fr (fun k => k = c.g) w (w.setCell ⟨c.g, 2, none⟩ (i64 ((pos + 1 : Nat) : Int))) := Fr.of_set rfl
  have hm : Mk c wb (w.setCell ⟨c.g, 2, none⟩ (i64 ((pos + 1 : Nat) : Int))) lo (n + 1) d := by
    refine ⟨o, fr.set hg, cv, code, pos + 1, a1.set 2 _, ?_, a3, by omega, by omega, a6⟩
    exact hset.own a2 fun k hk he => by have := (a2.lt k hk).1; omega
  have a1s := a1.set 2 (i64 ((pos + 1 : Nat) : Int))
  generalize w.setCell ⟨c.g, 2, none⟩ (i64 ((pos + 1 : Nat) : Int)) = w2 at hset hm a1s
  have D1 : Ext w2 w2.drew := (Ext.refl _).drew
  have hbx : ∀ w', Ext w2.drew w' → Boxed w' c.g [cv, c.nv, i64 ((pos + 1 : Nat) : Int), c.lv, i64 d] := fun w' hx => Blk.boxed (a1s.ext (D1.trans hx))
  have hnum2 := (hm.ext D1).numsAt
  have hlen : 0 < c.nums.length := by omega
  refine drawD.mk' (fun w' => Ext w2.drew w') (Ext.refl _) ?_
  refine ⟨.inl ⟨_, rfl⟩, yfB hbx fa_141_1 l1_57 rfl ?_⟩
  refine ⟨.inl ⟨_, rfl⟩, yfB hbx fa_141_2 l1_3 rfl ?_⟩
  refine ⟨.inl ⟨_, rfl⟩, yfB hbx fa_141_1 l1_57 rfl (yLen xa_57 hnum2 ?_)⟩
  refine yieldS.ok (fun w' _ => r_rem (by omega)) ?_
  have e1 : (((pos + 1 : Nat) : Int)).tmod (c.nums.length : Int) = (((pos + 1) % c.nums.length : Nat) : Int) := by
    rw [Int.tmod_eq_emod_of_nonneg (by omega)]; rfl
  rw [e1]
  have hlt := Nat.mod_lt (pos + 1) hlen
  refine ySl xa_57 l1_3 hnum2 (fun _ h => h) (by omega) (by omega) (getI (getN hlt)) ?_
  refine ⟨.inl ⟨_, rfl⟩, yfB hbx fa_141_2 l1_3 rfl ?_⟩
  refine ⟨.inl ⟨_, rfl⟩, yfB hbx fa_141_1 l1_57 rfl (yLen xa_57 hnum2 ?_)⟩
  refine yieldS.ok (fun w' _ => r_quo (by omega)) (yieldS.ok (fun w' _ => r_add) ?_)
  exact hk _ _ (hm.ext D1) (hset.trans (Fr.of_ext D1) fun _ _ h => h)
end Go.Proofs.YthblbcjgdbaonaaGreatDoor
namespace Go.Proofs.YthblbcjgdbaonaaGreatDoor
open Go.Vc Go.Tc
variable {w : World} {K : Value → World → Prop}
theorem local113 {c : Mc} {wb : World} {lo n d : Nat} {k : Int} (h : Mk c wb w lo n d) (hn : n ≤ 1000000) (hk : ∀ z b w', Mk c wb w' lo (n + 1) d → K (.tuple #[i64 z, .bool b]) w') :
    callD Tryz.prog 138 #[.pointer (some ⟨c.g, 0, none⟩), i64 k] w K := by
  have hgB := h.o.gB
  have hsz := h.fr.size
  have hll := h.o.ll
  apply F138_wp
  unfold F138_den
  refine ⟨fun sv v w' => ∃ (j : Nat) (l : List Int), v = i64 j ∧ j ≤ c.loc.length ∧ l.length ≤ j ∧ Ext w w' ∧ w'.ownsRow w.heap.size 3 1 sv l.length (l.map i64), fun _ v _ => c.loc.length - (RowKit.intOf v).toNat, ⟨0, [], rfl, Nat.zero_le _, Nat.le_refl _, Ext.refl _, World.ownsRow_nil _ _ _ _⟩, ?_⟩
  rintro sv _ w1 ⟨j, l, rfl, hj, hl, x1, ho⟩ _
  have h1 := h.ext x1
  obtain ⟨o, fr, cv, code, pos, a1, a2, _⟩ := h1
  have hloc := o.loc _ fr
  refine ⟨.inl ⟨_, rfl⟩, ldB (Blk.boxed a1) fa_141_3 l1_57 rfl (lnx xa_57 hloc (V_lss.2 (ifD_dec (fun hlt => ?_) fun hge => ?_)))⟩
  · refine ⟨.inl ⟨_, rfl⟩, ldB (Blk.boxed a1) fa_141_3 l1_57 rfl ?_⟩
    refine ldx xa_57 l1_3 hloc (by omega) (by omega) (getI (getN (l := c.loc) (j := j) (by omega))) (V_eqlI.2 (ifD_dec (fun he => ?_) fun he => ?_))
    · refine bsl xe_57 [i64 j] rfl rfl (by simp) rfl fun v2 w2 ho2 x2 => ?_
      refine apO xe_57 (x2.own ho) (SliceIs.of_own ho2) rfl (by omega) (by unfold maxLen; omega) (x1.trans x2).size fun v3 w3 ho3 hg3 => ?_
      refine V_add.2 ?_
      rw [wrap_id (by omega) (by omega), i64_succ]
      exact ⟨⟨j + 1, l ++ [(j : Int)], rfl, by omega, by simp; omega, (x1.trans x2).grown hg3 fun q hq => ((x2.own ho).lt q hq).1, by simpa using ho3⟩, by simp only [intOf_i64]; omega⟩
    · refine V_add.2 ?_
      rw [wrap_id (by omega) (by omega), i64_succ]
      exact ⟨⟨j + 1, l, rfl, by omega, by omega, x1, ho⟩, by simp only [intOf_i64]; omega⟩
  refine lnx xa_57 (SliceIs.of_own ho) (V_eqlI.2 (ifD_dec (fun hz => ?_) fun hz => ?_))
  · exact hk _ _ _ ((h.ext x1).mono (Nat.le_refl _) (by omega))
  refine next112 (h.ext x1) hn fun z w2 h2 f2 => ?_
  have ho2 := f2.own ho fun q hq he => by have := (ho.lt q hq).1; omega
  refine lnx xa_57 (SliceIs.of_own ho2) (pick10 (by omega) (by omega) fun q hq0 hq1 => ?_)
  obtain ⟨r, rfl⟩ : ∃ r : Nat, q = r := ⟨q.toNat, by omega⟩
  refine ldO' xa_57 l1_3 ho2 (by omega) (by omega) (getI (getN (by omega))) ?_
  exact hk _ _ _ h2
theorem arr83 {c : Mc} {wb : World} {lo n d : Nat} {k : Int} (h : Mk c wb w lo n d) (hn : n ≤ 900000) (hk : ∀ w', Mk c wb w' 0 (n + 6) d → K (.tuple #[]) w') :
    callD Tryz.prog 103 #[.pointer (some ⟨c.g, 0, none⟩), i64 k] w K := by
  apply F103_wp
  unfold F103_den
  refine next112 h (by omega) fun z w1 h1 _ => ?_
  refine pick10 (by decide) (by decide) fun q hq0 hq1 => ?_
  have hc : q = 0 ∨ q = 1 ∨ q = 2 ∨ q = 3 ∨ q = 4 ∨ q = 5 := by omega
  rcases hc with rfl | rfl | rfl | rfl | rfl | rfl
  case inl | inr.inl =>
    all_goals
      simp only [evL, Int.reduceEq, decide_true, decide_false]
      try intro _
      refine local113 h1 (by omega) fun z b w2 h2 => ?_
      refine V_ext0.2 (V_ext1.2 ?_)
      cases b with
      | true =>
        refine ifD_true.2 ?_
        exact put51 h2 (by omega) fun w3 h3 => hk _ (h3.up (by omega))
      | false =>
        refine ifD_false.2 ?_
        exact put51 h2 (by omega) fun w3 h3 => hk _ (h3.up (by omega))
  case inr.inr.inl | inr.inr.inr.inl =>
    all_goals
      simp only [evL, Int.reduceEq, decide_true, decide_false]
      intros
      refine V_sub.2 ?_
      refine V_add.2 ?_
      exact put51 h1 (by omega) fun w3 h3 => hk _ (h3.up (by omega))
  · simp only [evL, Int.reduceEq, decide_true, decide_false]
    intros
    refine V_sub.2 ?_
    exact put51 h1 (by omega) fun w3 h3 => hk _ (h3.up (by omega))
  · simp only [evL, Int.reduceEq, decide_false]
    intros
    refine next112 h1 (by omega) fun z w2 h2 _ => ?_
    refine pick10 (by decide) (by decide) fun q hq0 hq1 => ?_
    refine put51 h2 (by omega) fun w3 h3 => ?_
    refine V.ok (w' := w3) (v := .agg (([0, 1, 2, 4, 5, 6] : List Int).map i64).toArray) (by kernel_rfl) ?_
    refine next112 h3 (by omega) fun z w4 h4 _ => ?_
    refine pick10 (by decide) (by decide) fun q hq0 hq1 => ?_
    refine idxA Tryz.underlying224 inf3 Tryz.underlying3 (by decide) hq0 (by simpa using hq1) fun u hu => ?_
    refine put51 h4 (by omega) (fun w5 h5 => hk _ (h5.up (by omega))) ?_
    simp at hu
    omega
end Go.Proofs.YthblbcjgdbaonaaGreatDoor
namespace Go.Vc
theorem bldA {P : Program} {w : World} {K : Value → World → Prop} {t : TypeId} {parts : Array (Nat × Value)} {v : Value} (h : ∀ w, (Instr.build t parts).run P w = .ok v w) (hk : K v w) : V P (Instr.build t parts) w K := V.ok (h w) hk
end Go.Vc
namespace Go.Proofs.YthblbcjgdbaonaaGreatDoor
open Go.Vc Go.Tc
variable {w : World} {K : Value → World → Prop}
def PubOk (d k : Nat) : Prop := ∀ {c : Mc} {wb w : World} {lo n : Nat} {K : Value → World → Prop}, Mk c wb w lo n d → n + k ≤ 800000 → (∀ w', Mk c wb w' 0 (n + k) d → K (.tuple #[]) w') → callD Tryz.prog 105 #[.pointer (some ⟨c.g, 0, none⟩)] w K
def SecOk (d k : Nat) : Prop := ∀ {c : Mc} {wb w : World} {lo n : Nat} {K : Value → World → Prop}, Mk c wb w lo n d → n + k ≤ 800000 → (∀ w', Mk c wb w' 0 (n + k) d → K (.tuple #[]) w') → callD Tryz.prog 106 #[.pointer (some ⟨c.g, 0, none⟩)] w K
theorem index84 {d k : Nat} (hp : PubOk d k) (hk2 : 2 ≤ k) {c : Mc} {wb : World} {lo n : Nat} (h : Mk c wb w lo n d) (hn : n + k + 1 ≤ 800000) (hk : ∀ w', Mk c wb w' 0 (n + k + 1) d → K (.tuple #[]) w') :
    callD Tryz.prog 104 #[.pointer (some ⟨c.g, 0, none⟩)] w K := by
  apply F104_wp
  unfold F104_den
  refine next112 h (by omega) fun z w1 h1 _ => ?_
  refine pick10 (by decide) (by decide) fun q hq0 hq1 => ?_
  refine V_eqlI.2 (ifD_dec (fun he => ?_) fun he => ?_)
  · exact hp h1 (by omega) fun w2 h2 => hk _ (h2.up (by omega))
  · refine next112 h1 (by omega) fun z w2 h2 _ => ?_
    refine pick10 (by decide) (by decide) fun q hq0 hq1 => ?_
    exact put51 h2 (by omega) fun w3 h3 => hk _ (h3.up (by omega))
theorem ldBins {c : Mc} {wb : World} {lo n d : Nat} {i : Int} (h : Mk c wb w lo n d) (h0 : 0 ≤ i) (h1 : i < 12) (hk : ∀ z, K (i64 z) w) :
    V Tryz.prog (Instr.indexAt 226 (.pointer (some ⟨3, 0, none⟩)) (i64 i)) w fun p w1 => V Tryz.prog (Instr.loadAt 3 p) w1 K := by
  refine V.ok (r_arr Tryz.underlying226 inf3 h0 (by simpa using h1)) ?_
  obtain ⟨op, hop⟩ := h.o.bins _ h.fr i.toNat (by omega)
  exact V.ok (r_ld_3 (by rw [Nat.zero_add]; exact hop)) (hk _)
theorem pubStep {d k : Nat} (h20 : 20 ≤ k) (hd : d ≤ 3) (hs : d < 3 → ∃ k', PubOk (d + 1) k' ∧ SecOk (d + 1) k' ∧ 20 ≤ k' ∧ k = 3 * k' + 20) : PubOk d k := by
  intro c wb w lo n K h hn hk
  apply F105_wp
  unfold F105_den
  refine ⟨.inl ⟨_, rfl⟩, ldD h (V_add.2 ?_)⟩
  rw [wrap_id (by omega) (by omega), i64_succ]
  refine ⟨.inl ⟨_, rfl⟩, stD h fun w1 h1 => ?_⟩
  refine next112 h1 (by omega) fun z0 w2 hh0 _ => ?_
  refine pick10 (by decide) (by decide) fun q hq0 hq1 => ?_
  refine ⟨fun v w' => ∃ z, v = i64 z ∧ w' = w2 ∧ 0 ≤ z ∧ z < 12 ∧ (d = 3 → z < 3), ?_, ?_⟩
  · refine ⟨.inl ⟨_, rfl⟩, ldD hh0 (V_gtr.2 (ifD_dec (fun hg => ?_) fun hg => ?_))⟩
    · refine rm (by decide) fun e he h1 h2 => ⟨e, rfl, rfl, ?_, by omega, fun _ => by omega⟩
      rw [he]; exact Int.tmod_nonneg _ hq0
    · exact ⟨q, rfl, rfl, hq0, hq1, fun _ => by omega⟩
  rintro _ _ ⟨z, rfl, rfl, hz0, hz1, hleaf⟩ _
  refine ⟨fun w' => Mk c wb w' 0 (n + k) (d + 1), ?_, ?_⟩
  case refine_2 =>
    intro w3 h3 _
    refine ⟨.inl ⟨_, rfl⟩, ldD h3 (V_sub.2 ?_)⟩
    rw [wrap_id (by omega) (by omega), show ((d + 1 : Nat) : Int) - 1 = ((d : Nat) : Int) by omega]
    exact ⟨.inl ⟨_, rfl⟩, stD h3 fun w4 h4 => hk _ h4⟩
  have hc : z = 0 ∨ z = 1 ∨ z = 2 ∨ z = 3 ∨ z = 4 ∨ z = 5 ∨ z = 6 ∨ z = 7 ∨ z = 8 ∨ z = 9 ∨ z = 10 ∨ z = 11 := by omega
  have hdeep : 3 ≤ z → ∃ k', PubOk (d + 1) k' ∧ SecOk (d + 1) k' ∧ 20 ≤ k' ∧ k = 3 * k' + 20 := fun hz => hs (by omega)
  rcases hc with rfl | rfl | rfl | rfl | rfl | rfl | rfl | rfl | rfl | rfl | rfl | rfl
  · simp only [evL, Int.reduceEq, Int.reduceNeg, decide_true, decide_false]
    intros
    refine bldA (v := .agg (([0, 1, 2, 3, 7, -1, 64, 1073741824] : List Int).map i64).toArray) (fun w => by kernel_rfl) ?_
    refine next112 hh0 (by omega) fun z w1 hh1 _ => ?_
    refine pick10 (by decide) (by decide) fun q hq0 hq1 => ?_
    refine idxA Tryz.underlying225 inf3 Tryz.underlying3 (by decide) hq0 (by simpa using hq1) fun u hu => ?_
    refine put51 hh1 (by omega) fun w1 hh2 => ?_
    exact hh2.up (by omega)
  · simp only [evL, Int.reduceEq, Int.reduceNeg, decide_true, decide_false]
    intros
    refine bldA (v := .agg (([0, 1, 2, 3, 7, -1, 64, 1073741824] : List Int).map i64).toArray) (fun w => by kernel_rfl) ?_
    refine next112 hh0 (by omega) fun z w1 hh1 _ => ?_
    refine pick10 (by decide) (by decide) fun q hq0 hq1 => ?_
    refine idxA Tryz.underlying225 inf3 Tryz.underlying3 (by decide) hq0 (by simpa using hq1) fun u hu => ?_
    refine put51 hh1 (by omega) fun w1 hh2 => ?_
    exact hh2.up (by omega)
  · simp only [evL, Int.reduceEq, Int.reduceNeg, decide_true, decide_false]
    intros
    refine local113 hh0 (by omega) fun z b w1 hh1 => ?_
    refine V_ext0.2 (V_ext1.2 ?_)
    cases b with
    | true =>
      refine ifD_true.2 ?_
      refine put51 hh1 (by omega) fun w1 hh2 => ?_
      exact hh2.up (by omega)
    | false =>
      refine ifD_false.2 ?_
      refine next112 hh1 (by omega) fun z w1 hh2 _ => ?_
      refine rm (by decide) fun e _ _ _ => ?_
      refine put51 hh2 (by omega) fun w1 hh3 => ?_
      exact hh3.up (by omega)
  · simp only [evL, Int.reduceEq, Int.reduceNeg, decide_true, decide_false]
    intros
    obtain ⟨k2, hpub, hsec, h21, hk3⟩ := hdeep (by decide)
    refine local113 hh0 (by omega) fun z b w1 hh1 => ?_
    refine V_ext0.2 (V_ext1.2 ?_)
    cases b with
    | true =>
      refine ifD_true.2 ?_
      refine put51 hh1 (by omega) fun w1 hh2 => ?_
      exact hh2.up (by omega)
    | false =>
      refine ifD_false.2 ?_
      refine next112 hh1 (by omega) fun z w1 hh2 _ => ?_
      refine rm (by decide) fun e _ _ _ => ?_
      refine put51 hh2 (by omega) fun w1 hh3 => ?_
      exact hh3.up (by omega)
  · simp only [evL, Int.reduceEq, Int.reduceNeg, decide_true, decide_false]
    intros
    obtain ⟨k2, hpub, hsec, h21, hk3⟩ := hdeep (by decide)
    refine hpub hh0 (by omega) fun w1 hh1 => ?_
    refine hpub hh1 (by omega) fun w1 hh2 => ?_
    refine next112 hh2 (by omega) fun z w1 hh3 _ => ?_
    refine pick10 (by decide) (by decide) fun q hq0 hq1 => ?_
    refine ldBins hh3 hq0 hq1 fun u => ?_
    refine put51 hh3 (by omega) fun w1 hh4 => ?_
    exact hh4.up (by omega)
  · simp only [evL, Int.reduceEq, Int.reduceNeg, decide_true, decide_false]
    intros
    obtain ⟨k2, hpub, hsec, h21, hk3⟩ := hdeep (by decide)
    refine hpub hh0 (by omega) fun w1 hh1 => ?_
    refine hpub hh1 (by omega) fun w1 hh2 => ?_
    refine next112 hh2 (by omega) fun z w1 hh3 _ => ?_
    refine pick10 (by decide) (by decide) fun q hq0 hq1 => ?_
    refine ldBins hh3 hq0 hq1 fun u => ?_
    refine put51 hh3 (by omega) fun w1 hh4 => ?_
    exact hh4.up (by omega)
  · simp only [evL, Int.reduceEq, Int.reduceNeg, decide_true, decide_false]
    intros
    obtain ⟨k2, hpub, hsec, h21, hk3⟩ := hdeep (by decide)
    refine hpub hh0 (by omega) fun w1 hh1 => ?_
    refine hpub hh1 (by omega) fun w1 hh2 => ?_
    refine next112 hh2 (by omega) fun z w1 hh3 _ => ?_
    refine pick10 (by decide) (by decide) fun q hq0 hq1 => ?_
    refine ldBins hh3 hq0 hq1 fun u => ?_
    refine put51 hh3 (by omega) fun w1 hh4 => ?_
    exact hh4.up (by omega)
  · simp only [evL, Int.reduceEq, Int.reduceNeg, decide_true, decide_false]
    intros
    obtain ⟨k2, hpub, hsec, h21, hk3⟩ := hdeep (by decide)
    refine next112 hh0 (by omega) fun z w1 hh1 _ => ?_
    refine pick10 (by decide) (by decide) fun q hq0 hq1 => ?_
    refine V_add.2 ?_
    refine put51 hh1 (by omega) fun w1 hh2 => ?_
    refine put51 hh2 (by omega) fun w1 hh3 => ?_
    exact hh3.up (by omega)
  · simp only [evL, Int.reduceEq, Int.reduceNeg, decide_true, decide_false]
    intros
    obtain ⟨k2, hpub, hsec, h21, hk3⟩ := hdeep (by decide)
    refine hpub hh0 (by omega) fun w1 hh1 => ?_
    refine hpub hh1 (by omega) fun w1 hh2 => ?_
    refine bldA (v := .agg (([17, 18] : List Int).map i64).toArray) (fun w => by kernel_rfl) ?_
    refine next112 hh2 (by omega) fun z w1 hh3 _ => ?_
    refine pick10 (by decide) (by decide) fun q hq0 hq1 => ?_
    refine idxA Tryz.underlying227 inf3 Tryz.underlying3 (by decide) hq0 (by simpa using hq1) fun u hu => ?_
    refine put51 hh3 (by omega) fun w1 hh4 => ?_
    exact hh4.up (by omega)
  · simp only [evL, Int.reduceEq, Int.reduceNeg, decide_true, decide_false]
    intros
    obtain ⟨k2, hpub, hsec, h21, hk3⟩ := hdeep (by decide)
    refine arr83 hh0 (by omega) fun w1 hh1 => ?_
    refine index84 hpub (by omega) hh1 (by omega) fun w1 hh2 => ?_
    refine put51 hh2 (by omega) fun w1 hh3 => ?_
    exact hh3.up (by omega)
  · simp only [evL, Int.reduceEq, Int.reduceNeg, decide_true, decide_false]
    intros
    obtain ⟨k2, hpub, hsec, h21, hk3⟩ := hdeep (by decide)
    refine hpub hh0 (by omega) fun w1 hh1 => ?_
    refine bldA (v := .agg (([15, 16, 15] : List Int).map i64).toArray) (fun w => by kernel_rfl) ?_
    refine next112 hh1 (by omega) fun z w1 hh2 _ => ?_
    refine pick10 (by decide) (by decide) fun q hq0 hq1 => ?_
    refine idxA Tryz.underlying228 inf3 Tryz.underlying3 (by decide) hq0 (by simpa using hq1) fun u hu => ?_
    refine put51 hh2 (by omega) fun w1 hh3 => ?_
    exact hh3.up (by omega)
  · simp only [evL, Int.reduceEq, Int.reduceNeg, decide_false]
    intros
    obtain ⟨k2, hpub, hsec, h21, hk3⟩ := hdeep (by decide)
    refine next112 hh0 (by omega) fun z w1 hh1 _ => ?_
    refine pick10 (by decide) (by decide) fun q hq0 hq1 => ?_
    refine V_add.2 ?_
    refine arr83 hh1 (by omega) fun w1 hh2 => ?_
    refine put51 hh2 (by omega) fun w1 hh3 => ?_
    exact hh3.up (by omega)
theorem secStep {d k : Nat} (h20 : 20 ≤ k) (hd : d ≤ 3) (hs : d < 3 → ∃ k', PubOk (d + 1) k' ∧ SecOk (d + 1) k' ∧ 20 ≤ k' ∧ k = 3 * k' + 20) : SecOk d k := by
  intro c wb w lo n K h hn hk
  apply F106_wp
  unfold F106_den
  refine ⟨.inl ⟨_, rfl⟩, ldD h (V_add.2 ?_)⟩
  rw [wrap_id (by omega) (by omega), i64_succ]
  refine ⟨.inl ⟨_, rfl⟩, stD h fun w1 h1 => ?_⟩
  refine next112 h1 (by omega) fun z0 w2 hh0 _ => ?_
  refine pick10 (by decide) (by decide) fun q hq0 hq1 => ?_
  refine ⟨fun v w' => ∃ z, v = i64 z ∧ w' = w2 ∧ 0 ≤ z ∧ z < 9 ∧ (d = 3 → z < 2), ?_, ?_⟩
  · refine ⟨.inl ⟨_, rfl⟩, ldD hh0 (V_gtr.2 (ifD_dec (fun hg => ?_) fun hg => ?_))⟩
    · refine rm (by decide) fun e he h1 h2 => ⟨e, rfl, rfl, ?_, by omega, fun _ => by omega⟩
      rw [he]; exact Int.tmod_nonneg _ hq0
    · exact ⟨q, rfl, rfl, hq0, hq1, fun _ => by omega⟩
  rintro _ _ ⟨z, rfl, rfl, hz0, hz1, hleaf⟩ _
  refine ⟨fun w' => Mk c wb w' 0 (n + k) (d + 1), ?_, ?_⟩
  case refine_2 =>
    intro w3 h3 _
    refine ⟨.inl ⟨_, rfl⟩, ldD h3 (V_sub.2 ?_)⟩
    rw [wrap_id (by omega) (by omega), show ((d + 1 : Nat) : Int) - 1 = ((d : Nat) : Int) by omega]
    exact ⟨.inl ⟨_, rfl⟩, stD h3 fun w4 h4 => hk _ h4⟩
  have hc : z = 0 ∨ z = 1 ∨ z = 2 ∨ z = 3 ∨ z = 4 ∨ z = 5 ∨ z = 6 ∨ z = 7 ∨ z = 8 := by omega
  have hdeep : 2 ≤ z → ∃ k', PubOk (d + 1) k' ∧ SecOk (d + 1) k' ∧ 20 ≤ k' ∧ k = 3 * k' + 20 := fun hz => hs (by omega)
  rcases hc with rfl | rfl | rfl | rfl | rfl | rfl | rfl | rfl | rfl
  · simp only [evL, Int.reduceEq, decide_true, decide_false]
    intros
    refine local113 hh0 (by omega) fun z b w1 hh1 => ?_
    refine V_ext0.2 (V_ext1.2 ?_)
    cases b with
    | true =>
      refine ifD_true.2 ?_
      refine put51 hh1 (by omega) fun w1 hh2 => ?_
      exact hh2.up (by omega)
    | false =>
      refine ifD_false.2 ?_
      refine put51 hh1 (by omega) fun w1 hh2 => ?_
      exact hh2.up (by omega)
  · simp only [evL, Int.reduceEq, decide_true, decide_false]
    intros
    refine next112 hh0 (by omega) fun z w1 hh1 _ => ?_
    refine rm (by decide) fun e _ _ _ => ?_
    refine put51 hh1 (by omega) fun w1 hh2 => ?_
    exact hh2.up (by omega)
  · simp only [evL, Int.reduceEq, decide_true, decide_false]
    intros
    obtain ⟨k2, hpub, hsec, h21, hk3⟩ := hdeep (by decide)
    refine hsec hh0 (by omega) fun w1 hh1 => ?_
    refine hsec hh1 (by omega) fun w1 hh2 => ?_
    refine next112 hh2 (by omega) fun z w1 hh3 _ => ?_
    refine pick10 (by decide) (by decide) fun q hq0 hq1 => ?_
    refine ldBins hh3 hq0 hq1 fun u => ?_
    refine put51 hh3 (by omega) fun w1 hh4 => ?_
    exact hh4.up (by omega)
  · simp only [evL, Int.reduceEq, decide_true, decide_false]
    intros
    obtain ⟨k2, hpub, hsec, h21, hk3⟩ := hdeep (by decide)
    refine hsec hh0 (by omega) fun w1 hh1 => ?_
    refine hsec hh1 (by omega) fun w1 hh2 => ?_
    refine next112 hh2 (by omega) fun z w1 hh3 _ => ?_
    refine pick10 (by decide) (by decide) fun q hq0 hq1 => ?_
    refine ldBins hh3 hq0 hq1 fun u => ?_
    refine put51 hh3 (by omega) fun w1 hh4 => ?_
    exact hh4.up (by omega)
  · simp only [evL, Int.reduceEq, decide_true, decide_false]
    intros
    obtain ⟨k2, hpub, hsec, h21, hk3⟩ := hdeep (by decide)
    refine arr83 hh0 (by omega) fun w1 hh1 => ?_
    refine index84 hpub (by omega) hh1 (by omega) fun w1 hh2 => ?_
    refine put51 hh2 (by omega) fun w1 hh3 => ?_
    exact hh3.up (by omega)
  · simp only [evL, Int.reduceEq, decide_true, decide_false]
    intros
    obtain ⟨k2, hpub, hsec, h21, hk3⟩ := hdeep (by decide)
    refine arr83 hh0 (by omega) fun w1 hh1 => ?_
    refine index84 hpub (by omega) hh1 (by omega) fun w1 hh2 => ?_
    refine put51 hh2 (by omega) fun w1 hh3 => ?_
    exact hh3.up (by omega)
  · simp only [evL, Int.reduceEq, decide_true, decide_false]
    intros
    obtain ⟨k2, hpub, hsec, h21, hk3⟩ := hdeep (by decide)
    refine hsec hh0 (by omega) fun w1 hh1 => ?_
    refine hsec hh1 (by omega) fun w1 hh2 => ?_
    refine hsec hh2 (by omega) fun w1 hh3 => ?_
    refine put51 hh3 (by omega) fun w1 hh4 => ?_
    exact hh4.up (by omega)
  · simp only [evL, Int.reduceEq, decide_true, decide_false]
    intros
    obtain ⟨k2, hpub, hsec, h21, hk3⟩ := hdeep (by decide)
    refine arr83 hh0 (by omega) fun w1 hh1 => ?_
    refine index84 hpub (by omega) hh1 (by omega) fun w1 hh2 => ?_
    refine next112 hh2 (by omega) fun z w1 hh3 _ => ?_
    refine pick10 (by decide) (by decide) fun q hq0 hq1 => ?_
    refine V_add.2 ?_
    refine arr83 hh3 (by omega) fun w1 hh4 => ?_
    refine index84 hpub (by omega) hh4 (by omega) fun w1 hh5 => ?_
    refine index84 hpub (by omega) hh5 (by omega) fun w1 hh6 => ?_
    refine put51 hh6 (by omega) fun w1 hh7 => ?_
    exact hh7.up (by omega)
  · simp only [evL, Int.reduceEq, decide_false]
    intros
    obtain ⟨k2, hpub, hsec, h21, hk3⟩ := hdeep (by decide)
    refine put51 hh0 (by omega) fun w1 hh1 => ?_
    exact hh1.up (by omega)
theorem both3 : PubOk 3 20 ∧ SecOk 3 20 := ⟨pubStep (by omega) (by omega) fun h => by omega, secStep (by omega) (by omega) fun h => by omega⟩
theorem both2 : PubOk 2 80 ∧ SecOk 2 80 := ⟨pubStep (by omega) (by omega) fun _ => ⟨20, both3.1, both3.2, by omega, by omega⟩, secStep (by omega) (by omega) fun _ => ⟨20, both3.1, both3.2, by omega, by omega⟩⟩
theorem both1 : PubOk 1 260 ∧ SecOk 1 260 := ⟨pubStep (by omega) (by omega) fun _ => ⟨80, both2.1, both2.2, by omega, by omega⟩, secStep (by omega) (by omega) fun _ => ⟨80, both2.1, both2.2, by omega, by omega⟩⟩
theorem both0 : PubOk 0 800 ∧ SecOk 0 800 := ⟨pubStep (by omega) (by omega) fun _ => ⟨260, both1.1, both1.2, by omega, by omega⟩, secStep (by omega) (by omega) fun _ => ⟨260, both1.1, both1.2, by omega, by omega⟩⟩
theorem any50 {c : Mc} {wb : World} {lo n : Nat} {k : Int} (h : Mk c wb w lo n 0) (hn : n + 800 ≤ 800000) (hk : ∀ w', Mk c wb w' 0 (n + 800) 0 → K (.tuple #[]) w') :
    callD Tryz.prog 70 #[.pointer (some ⟨c.g, 0, none⟩), i64 k] w K := by
  apply F70_wp
  unfold F70_den
  refine V_eqlI.2 (ifD_dec (fun h1 => ?_) fun h1 => V_eqlI.2 (ifD_dec (fun h2 => ?_) fun h2 => ?_))
  · exact both0.1 h hn hk
  · exact both0.2 h hn hk
  · exact arr83 h (by omega) fun w1 h1 => hk _ (h1.up (by omega))
end Go.Proofs.YthblbcjgdbaonaaGreatDoor
