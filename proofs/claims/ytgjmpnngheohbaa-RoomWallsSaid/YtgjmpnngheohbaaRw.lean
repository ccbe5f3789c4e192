/- A room of any arrays; RoomWalls, walked. -/
import Derived.Test.YtgjmpnngheohbaaRx
namespace Go.Proofs.Ytgjmpnngheohbaa
open Go.Vc
structure Arr where
  owner : Int
  label : Int
  life : Int
  share : Bool
  dv : Value
  data : List Int
def Arr.cells (a : Arr) : List Value := [i64 a.owner, i64 a.label, i64 a.life, .bool a.share, a.dv]
def rowC (ar : List Arr) : List Value := ar.flatMap Arr.cells
theorem rowC_len (ar : List Arr) : (rowC ar).length = ar.length * 5 := by
  induction ar with
  | nil => rfl
  | cons a ar ih =>
    show (a.cells ++ rowC ar).length = _
    rw [List.length_append, ih]
    simp [Arr.cells]
    omega
theorem rowC_get : ∀ {ar : List Arr} {k : Nat} {a : Arr} {j : Nat}, ar[k]? = some a → j < 5 → (rowC ar)[k * 5 + j]? = a.cells[j]?
  | [], k, a, j, h, _ => by simp at h
  | b :: ar, 0, a, j, h, hj => by
    simp at h
    subst h
    show (b.cells ++ rowC ar)[0 * 5 + j]? = _
    rw [List.getElem?_append_left (by simp [Arr.cells]; omega)]
    simp
  | b :: ar, k + 1, a, j, h, hj => by
    show (b.cells ++ rowC ar)[(k + 1) * 5 + j]? = _
    rw [List.getElem?_append_right (by simp [Arr.cells]; omega)]
    have : (k + 1) * 5 + j - b.cells.length = k * 5 + j := by simp [Arr.cells]; omega
    rw [this]
    exact rowC_get (by simpa using h) hj
theorem rowC_snoc (ar : List Arr) (a : Arr) : rowC (ar ++ [a]) = rowC ar ++ a.cells := by simp [rowC]
/-- A heap. -/
structure HeapG (w : World) (hb B : Nat) (size : Int) (g cap : Nat) (ar : List Arr) : Prop where
  heap : Blk w hb [i64 size, .slice (some ⟨g, 0, none⟩) ar.length cap] 74
  row : w.ownsRow B 37 5 (.slice (some ⟨g, 0, none⟩) ar.length cap) ar.length (rowC ar)
  data : ∀ a ∈ ar, w.ownsRow B 5 1 a.dv a.data.length (a.data.map u8)
  len : ∀ a ∈ ar, a.data.length ≤ 64
  dist : ∀ (i j : Nat) a b x, ar[i]? = some a → ar[j]? = some b → a.dv.ownBlock = some x → b.dv.ownBlock = some x → i = j
  drow : ∀ a ∈ ar, a.dv.ownBlock ≠ some g
  lt : B ≤ w.heap.size
  cnt : ar.length ≤ 1000
  fresh : hb ≠ g ∧ ∀ a ∈ ar, a.dv.ownBlock ≠ some hb
theorem HeapG.ext {w w' : World} {hb B : Nat} {size : Int} {g cap : Nat} {ar : List Arr} (h : HeapG w hb B size g cap ar) (hx : Ext w w') : HeapG w' hb B size g cap ar :=
  ⟨h.heap.ext hx, hx.own h.row, fun a ha => hx.own (h.data a ha), h.len, h.dist, h.drow, by have := h.lt; have := hx.size; omega, h.cnt, h.fresh⟩
theorem HeapG.get {w : World} {hb B : Nat} {size : Int} {g cap : Nat} {ar : List Arr} (h : HeapG w hb B size g cap ar) {k : Nat} {a : Arr} (hk : ar[k]? = some a) {j : Nat} (hj : j < 5) : w.cell? ⟨g, k * 5 + j, none⟩ = a.cells[j]? := by
  obtain ⟨u, hu⟩ := ex_get (l := a.cells) (j := j) (by simp [Arr.cells]; omega)
  have := h.row.cells (g := g) rfl (k * 5 + j) u (by rw [rowC_get hk hj]; exact hu)
  rw [add_mk] at this
  rw [hu]
  simpa using this
/-- Place of an array; none. -/
def atV (g : Nat) (n : Nat) (r : Int) : Value := if 1 ≤ r ∧ r ≤ n then .pointer (some ⟨g, (r.toNat - 1) * 5, none⟩) else .pointer none
theorem atG_ok {w : World} {hb B : Nat} {size : Int} {g cap : Nat} {ar : List Arr} (h : HeapG w hb B size g cap ar) {r : Int} : callD Try.prog 32 #[.pointer (some ⟨hb, 0, none⟩), i64 r] w fun v w' => v = atV g ar.length r ∧ w' = w := by
  apply F32_wp
  unfold F32_den
  have hc := h.cnt
  refine V_lss.2 ?_
  by_cases h1 : r < 1
  · simp only [h1, gd_tf, pickD_iff, ifD_true, reduceIte, decide_true]
    exact ⟨by unfold atV; rw [if_neg (by omega)], trivial⟩
  simp only [h1, gd_f, pickD_iff, reduceIte, Bool.false_eq_true, decide_false]
  refine ⟨.inl ⟨_, rfl⟩, ?_⟩
  refine ldB h.heap.boxed (by first | exact fa_37_0 | exact fa_37_1 | exact fa_37_2 | exact fa_37_3 | exact fa_37_4 | exact fa_44_0 | exact fa_44_1 | exact fa_44_2 | exact fa_44_3 | exact fa_44_4 | exact fa_59_0 | exact fa_59_3 | exact fa_59_4 | exact fa_64_0 | exact fa_64_1 | exact fa_64_2 | exact fa_64_3 | exact fa_64_4 | exact fa_64_5 | exact fa_74_0 | exact fa_74_1 | exact fa_93_0) (by first | exact l1_21 | exact l1_22 | exact l1_23 | exact l1_29 | exact l1_3 | exact l1_35 | exact l1_4 | exact l1_5 | exact l1_61 | exact l1_62 | exact l1_72 | exact l1_9 | exact l1_91) rfl (V_ln_72.2 ?_)
  by_cases h2 : r > ((ar.length : Nat) : Int)
  · simp only [h2, V_gtr, ifD_true, decide_true]
    exact ⟨by unfold atV; rw [if_neg (by omega)], trivial⟩
  simp only [h2, V_gtr, ifD_false, decide_false]
  refine ⟨.inl ⟨_, rfl⟩, ?_⟩
  refine ldB h.heap.boxed (by first | exact fa_37_0 | exact fa_37_1 | exact fa_37_2 | exact fa_37_3 | exact fa_37_4 | exact fa_44_0 | exact fa_44_1 | exact fa_44_2 | exact fa_44_3 | exact fa_44_4 | exact fa_59_0 | exact fa_59_3 | exact fa_59_4 | exact fa_64_0 | exact fa_64_1 | exact fa_64_2 | exact fa_64_3 | exact fa_64_4 | exact fa_64_5 | exact fa_74_0 | exact fa_74_1 | exact fa_93_0) (by first | exact l1_21 | exact l1_22 | exact l1_23 | exact l1_29 | exact l1_3 | exact l1_35 | exact l1_4 | exact l1_5 | exact l1_61 | exact l1_62 | exact l1_72 | exact l1_9 | exact l1_91) rfl (V_sub.2 ?_)
  rw [wrap_id (by omega) (by omega)]
  refine V.ok (r_ix_72 (by omega) (by omega)) ⟨?_, (by first | rfl | trivial)⟩
  unfold atV
  rw [if_pos (by omega)]
  have : (r - 1).toNat = r.toNat - 1 := by omega
  simp [this]
theorem atG_in {g n : Nat} {r : Int} {k : Nat} (hk : r = (k : Int) + 1) (hn : k < n) : atV g n r = .pointer (some ⟨g, k * 5, none⟩) := by
  unfold atV
  rw [if_pos (by omega)]
  have : r.toNat - 1 = k := by omega
  rw [this]
theorem cells_one {a : Arr} (h : oneC a.dv = true) : a.cells.all oneC = true := by
  show (oneC (i64 a.owner) && (oneC (i64 a.label) && (oneC (i64 a.life) && (oneC (.bool a.share) && (oneC a.dv && true))))) = true
  rw [h]; rfl
set_option maxHeartbeats 1600000 in
theorem arrayG_ok {w : World} {hb B : Nat} {size : Int} {g cap : Nat} {ar : List Arr} (h : HeapG w hb B size g cap ar) {k : Nat} {a : Arr} (hk : ar[k]? = some a) {r : Int} (hr : r = (k : Int) + 1) :
    callD Try.prog 13 #[.pointer (some ⟨hb, 0, none⟩), i64 r] w fun q w' => (∃ v, q = .tuple #[.agg ({ a with dv := v } : Arr).cells.toArray, .bool true] ∧ w'.ownsRow w.heap.size 5 1 v a.data.length (a.data.map u8)) ∧ Ext w w' := by
  have hkl : k < ar.length := (List.getElem?_eq_some_iff.1 hk).1
  have ham := List.mem_of_getElem? hk
  have hal := h.len a ham
  apply F13_wp
  unfold F13_den
  refine alK inf37 fun w1 hz x1 => ?_
  have h1 := h.ext x1
  refine (atG_ok h1).mono fun q w2 ⟨hq, hw⟩ => ?_
  subst hq; have hw := hw.symm; subst hw
  rw [atG_in hr hkl]
  refine V.ok (r_eqPtr Try.underlying69) (ifD_false.2 ⟨.inl ⟨_, rfl⟩, ?_⟩)
  refine V.ok (r_la_37 (cs := a.cells) rfl fun j hj => h1.get hk hj) ?_
  refine asK (by first | exact sa_37 | exact sa_42 | exact sa_44 | exact sa_64) rfl (cells_one (own_one (h.data a ham))) fun w3 hc x3 => ?_
  refine ⟨.inl ⟨_, rfl⟩, ?_⟩
  have h3 := h1.ext x3
  refine V.ok r_fd_37_4 (V.ok (r_ld_22 (h3.get hk (j := 4) (by omega))) ?_)
  have x13 := x1.trans x3
  refine (clone_u8 (l := a.data) (SliceIs.of_own (h3.data a ham)) (by omega)).mono fun v w4 ⟨ho, x4⟩ => ?_
  have x14 := x13.trans x4
  refine stF (by first | exact fa_37_0 | exact fa_37_1 | exact fa_37_2 | exact fa_37_3 | exact fa_37_4 | exact fa_44_0 | exact fa_44_1 | exact fa_44_2 | exact fa_44_3 | exact fa_44_4 | exact fa_59_0 | exact fa_59_3 | exact fa_59_4 | exact fa_64_0 | exact fa_64_1 | exact fa_64_2 | exact fa_64_3 | exact fa_64_4 | exact fa_64_5 | exact fa_74_0 | exact fa_74_1 | exact fa_93_0) inf22 (hc.ext x4) rfl (by show 4 < 5; omega) (own_one ho) ?_
  have hc5 : Blk (w4.setCell ⟨w1.heap.size, 4, none⟩ v) w1.heap.size ({ a with dv := v } : Arr).cells 37 := (hc.ext x4).set 4 v
  have f5 : Fr (fun i => i = w1.heap.size) w4 (w4.setCell ⟨w1.heap.size, 4, none⟩ v) := Fr.of_set rfl
  have hzl := hz.lt
  have hcl := hc.lt
  have l1 := x1.size
  have l3 := x3.size
  have hz5 := f5.blk (hz.ext (x3.trans x4)) (by omega)
  have ho5 := f5.own ho fun i hi => by have := (ho.lt i hi).1; omega
  have x5 : Ext w (w4.setCell ⟨w1.heap.size, 4, none⟩ v) := x14.setCell l1 _
  generalize w4.setCell ⟨w1.heap.size, 4, none⟩ v = w5 at hc5 hz5 ho5 x5 ⊢
  refine ldA hc5.boxed la_37 rfl ?_
  refine stA inf37 hz5 (l := ({ a with dv := v } : Arr).cells) rfl rfl rfl (cells_one (own_one ho)) fun w6 h6 hch => ?_
  refine ⟨_, r_var Try.underlying37 rfl inf37 h6 rfl, ⟨_, rfl⟩, ⟨v, rfl, ?_⟩, hch.ext w x5 (Nat.le_refl _)⟩
  exact own_mono (hch.ownRow ho5 (by omega)) (by omega)
def arr0 : Arr := ⟨0, 0, 0, false, .slice none 0 0, []⟩
theorem r_eqPtrN {P : Program} {w : World} {s e : TypeId} (hs : P.underlying s = some (.pointer e)) {x : Operand} {c : Value} :
    (do eqGuard .eql s x (.const c) (.pointer none) (.pointer none); binOp .eql s (.pointer none) (.pointer none)).run P w = .ok (.bool true) w := by
  simp [eqGuard, binOp, equal_succ, q_ptrN hs]
theorem arrayN_ok {w : World} {hb B : Nat} {size : Int} {g cap : Nat} {ar : List Arr} (h : HeapG w hb B size g cap ar) {r : Int} (hr : ¬ (1 ≤ r ∧ r ≤ ar.length)) :
    callD Try.prog 13 #[.pointer (some ⟨hb, 0, none⟩), i64 r] w fun q w' => q = .tuple #[.agg arr0.cells.toArray, .bool false] ∧ Ext w w' := by
  apply F13_wp
  unfold F13_den
  refine alK inf37 fun w1 hz x1 => ?_
  refine (atG_ok (h.ext x1)).mono fun q w2 ⟨hq, hw⟩ => ?_
  subst hq; have hw := hw.symm; subst hw
  unfold atV
  rw [if_neg hr]
  refine V.ok (r_eqPtrN Try.underlying69) (ifD_true.2 ?_)
  refine bld bd_37 [] rfl rfl ?_
  refine stA inf37 hz (l := arr0.cells) rfl rfl rfl rfl fun w6 h6 hch => ?_
  exact ⟨_, r_var Try.underlying37 rfl inf37 h6 rfl, ⟨_, rfl⟩, rfl, hch.ext w x1 (Nat.le_refl _)⟩
/-- May an applet touch it? -/
def mayA (a : Arr) (who : Int) : Bool := decide (a.owner = -1) || decide (a.owner = who) || a.share
theorem mayG_ok {w : World} {a : Arr} {who : Int} : callD Try.prog 46 #[.agg a.cells.toArray, i64 who] w fun r w' => r = .bool (mayA a who) ∧ Ext w w' := by
  apply F46_wp
  unfold F46_den
  refine bx fun b w1 hb x1 => ?_
  refine ldB hb (by first | exact fa_37_0 | exact fa_37_1 | exact fa_37_2 | exact fa_37_3 | exact fa_37_4 | exact fa_44_0 | exact fa_44_1 | exact fa_44_2 | exact fa_44_3 | exact fa_44_4 | exact fa_59_0 | exact fa_59_3 | exact fa_59_4 | exact fa_64_0 | exact fa_64_1 | exact fa_64_2 | exact fa_64_3 | exact fa_64_4 | exact fa_64_5 | exact fa_74_0 | exact fa_74_1 | exact fa_93_0) (by first | exact l1_21 | exact l1_22 | exact l1_23 | exact l1_29 | exact l1_3 | exact l1_35 | exact l1_4 | exact l1_5 | exact l1_61 | exact l1_62 | exact l1_72 | exact l1_9 | exact l1_91) rfl (V_eqlI.2 ?_)
  by_cases h1 : a.owner = -1
  · simp only [h1, gd_tf, pickD_iff, reduceIte, decide_true]
    exact ⟨by simp [mayA, h1], x1⟩
  simp only [h1, gd_f, pickD_iff, reduceIte, Bool.false_eq_true, decide_false]
  refine ldB hb (by first | exact fa_37_0 | exact fa_37_1 | exact fa_37_2 | exact fa_37_3 | exact fa_37_4 | exact fa_44_0 | exact fa_44_1 | exact fa_44_2 | exact fa_44_3 | exact fa_44_4 | exact fa_59_0 | exact fa_59_3 | exact fa_59_4 | exact fa_64_0 | exact fa_64_1 | exact fa_64_2 | exact fa_64_3 | exact fa_64_4 | exact fa_64_5 | exact fa_74_0 | exact fa_74_1 | exact fa_93_0) (by first | exact l1_21 | exact l1_22 | exact l1_23 | exact l1_29 | exact l1_3 | exact l1_35 | exact l1_4 | exact l1_5 | exact l1_61 | exact l1_62 | exact l1_72 | exact l1_9 | exact l1_91) rfl (V_eqlI.2 ?_)
  by_cases h2 : a.owner = who
  · simp only [h2, gd_tf, pickD_iff, reduceIte, decide_true]
    exact ⟨by simp [mayA, h2], x1⟩
  simp only [h2, gd_f, pickD_iff, reduceIte, Bool.false_eq_true, decide_false]
  refine ldB hb (by first | exact fa_37_0 | exact fa_37_1 | exact fa_37_2 | exact fa_37_3 | exact fa_37_4 | exact fa_44_0 | exact fa_44_1 | exact fa_44_2 | exact fa_44_3 | exact fa_44_4 | exact fa_59_0 | exact fa_59_3 | exact fa_59_4 | exact fa_64_0 | exact fa_64_1 | exact fa_64_2 | exact fa_64_3 | exact fa_64_4 | exact fa_64_5 | exact fa_74_0 | exact fa_74_1 | exact fa_93_0) (by first | exact l1_21 | exact l1_22 | exact l1_23 | exact l1_29 | exact l1_3 | exact l1_35 | exact l1_4 | exact l1_5 | exact l1_61 | exact l1_62 | exact l1_72 | exact l1_9 | exact l1_91) rfl ?_
  exact ⟨by simp [mayA, h1, h2], x1⟩
/-- The status of a ref. -/
def chk (ar : List Arr) (r who : Int) : Int := if 1 ≤ r ∧ r ≤ ar.length then (match ar[r.toNat - 1]? with | some a => if mayA a who then 36864 else 28420 | none => 28417) else 28417
theorem chk_in {ar : List Arr} {r who : Int} {k : Nat} {a : Arr} (hk : ar[k]? = some a) (hr : r = (k : Int) + 1) : chk ar r who = if mayA a who then 36864 else 28420 := by
  have hkl : k < ar.length := (List.getElem?_eq_some_iff.1 hk).1
  unfold chk
  rw [if_pos (by omega), show r.toNat - 1 = k by omega, hk]
theorem ref_in {ar : List Arr} {r : Int} (h : 1 ≤ r ∧ r ≤ ar.length) : ∃ (k : Nat) (a : Arr), ar[k]? = some a ∧ r = (k : Int) + 1 := by
  obtain ⟨a, ha⟩ := ex_get (l := ar) (j := r.toNat - 1) (by omega)
  exact ⟨_, a, ha, by omega⟩
theorem chk_fine {ar : List Arr} {r who : Int} (h : chk ar r who = 36864) : ∃ (k : Nat) (a : Arr), ar[k]? = some a ∧ r = (k : Int) + 1 ∧ mayA a who = true := by
  by_cases h1 : 1 ≤ r ∧ r ≤ ar.length
  · obtain ⟨k, a, hk, hr⟩ := ref_in h1
    rw [chk_in hk hr] at h
    split at h
    · rename_i hm; exact ⟨k, a, hk, hr, hm⟩
    · omega
  · unfold chk at h
    rw [if_neg h1] at h
    omega
theorem checkG_ok {w : World} {hb B : Nat} {size : Int} {g cap : Nat} {ar : List Arr} (h : HeapG w hb B size g cap ar) {r who : Int} :
    callD Try.prog 37 #[.pointer (some ⟨hb, 0, none⟩), i64 r, i64 who] w fun q w' => q = i64 (chk ar r who) ∧ Ext w w' := by
  apply F37_wp
  unfold F37_den
  refine V.ok (r_eqPtr Try.underlying29) (ifD_false.2 ?_)
  by_cases h1 : 1 ≤ r ∧ r ≤ ar.length
  · obtain ⟨k, a, hk, hr⟩ := ref_in h1
    refine (arrayG_ok h hk hr).mono fun q w1 ⟨⟨v, hq, ho⟩, x1⟩ => ?_
    subst hq
    refine V_ext0.2 (V_ext1.2 ?_)
    refine asK (by first | exact sa_37 | exact sa_42 | exact sa_44 | exact sa_64) rfl (cells_one (own_one ho)) fun w2 hc x2 => ?_
    refine V_not.2 (ifD_false.2 ?_)
    refine ldA hc.boxed la_37 rfl ?_
    refine mayG_ok.mono fun q w3 ⟨hq, x3⟩ => ?_
    subst hq
    have X := (x1.trans x2).trans x3
    rw [chk_in hk hr]
    refine V_not.2 (ifD.mk (fun hn => ⟨?_, X⟩) fun hn => ⟨?_, X⟩)
    · have : mayA a who = false := by
        have h9 : mayA ({ a with dv := v } : Arr) who = false := by simpa using hn
        exact h9
      rw [if_neg (by rw [this]; simp)]
    · have : mayA a who = true := by
        have h9 : mayA ({ a with dv := v } : Arr) who = true := by simpa using hn
        exact h9
      rw [if_pos this]
  · refine (arrayN_ok h h1).mono fun q w1 ⟨hq, x1⟩ => ?_
    subst hq
    refine V_ext0.2 (V_ext1.2 ?_)
    refine asK (by first | exact sa_37 | exact sa_42 | exact sa_44 | exact sa_64) rfl rfl fun w2 hc x2 => ?_
    refine V_not.2 (ifD_true.2 ⟨?_, x1.trans x2⟩)
    unfold chk
    rw [if_neg h1]
/-- The status of a range. -/
def rng (ar : List Arr) (r a n who : Int) : Int := if chk ar r who = 36864 then (match ar[r.toNat - 1]? with | some x => if a < 0 ∨ n < 0 ∨ a > x.data.length ∨ n > x.data.length - a then 28418 else 36864 | none => 28418) else chk ar r who
theorem rng_fine {ar : List Arr} {r a n who : Int} (h : rng ar r a n who = 36864) : ∃ (k : Nat) (x : Arr), ar[k]? = some x ∧ r = (k : Int) + 1 ∧ mayA x who = true ∧ 0 ≤ a ∧ 0 ≤ n ∧ a + n ≤ x.data.length := by
  unfold rng at h
  split at h
  · rename_i h1
    obtain ⟨k, x, hk, hr, hm⟩ := chk_fine h1
    rw [show r.toNat - 1 = k by omega, hk] at h
    simp only at h
    split at h
    · omega
    · exact ⟨k, x, hk, hr, hm, by omega, by omega, by omega⟩
  · rename_i h1; exact absurd h h1
set_option maxHeartbeats 1600000 in
theorem rangeG_ok {w : World} {hb B : Nat} {size : Int} {g cap : Nat} {ar : List Arr} (h : HeapG w hb B size g cap ar) {r a n who : Int} :
    callD Try.prog 47 #[.pointer (some ⟨hb, 0, none⟩), i64 r, i64 a, i64 n, i64 who] w fun q w' => q = i64 (rng ar r a n who) ∧ Ext w w' := by
  apply F47_wp
  unfold F47_den
  refine (checkG_ok h).mono fun q w1 ⟨hq, x1⟩ => ?_
  subst hq
  refine V_neqI.2 (ifD_dec (fun hne => ?_) fun hfine => ?_)
  · refine ⟨?_, x1⟩
    unfold rng
    rw [if_neg hne]
  have hfine' : chk ar r who = 36864 := by omega
  obtain ⟨k, x, hk, hr, hm⟩ := chk_fine hfine'
  have hxl := h.len x (List.mem_of_getElem? hk)
  have er : rng ar r a n who = if a < 0 ∨ n < 0 ∨ a > x.data.length ∨ n > x.data.length - a then 28418 else 36864 := by
    unfold rng
    rw [if_pos hfine', show r.toNat - 1 = k by omega, hk]
  rw [er]
  refine (arrayG_ok (h.ext x1) hk hr).mono fun q w2 ⟨⟨v, hq, ho⟩, x2⟩ => ?_
  subst hq
  refine V_ext0.2 (V_ext1.2 ?_)
  refine asK (by first | exact sa_37 | exact sa_42 | exact sa_44 | exact sa_64) rfl (cells_one (own_one ho)) fun w3 hc x3 => ?_
  have X := (x1.trans x2).trans x3
  have hs := SliceIs.of_own (x3.own ho)
  refine V_lss.2 ?_
  by_cases h1 : a < 0
  · simp only [h1, gd_tf, pickD_iff, ifD_true, reduceIte, decide_true]
    exact ⟨by rw [if_pos (.inl trivial)], X⟩
  simp only [h1, V_lss, gd_f, pickD_iff, reduceIte, Bool.false_eq_true, decide_false]
  by_cases h2 : n < 0
  · simp only [h2, gd_tf, pickD_iff, ifD_true, reduceIte, decide_true]
    exact ⟨by rw [if_pos (.inr (.inl trivial))], X⟩
  simp only [h2, gd_f, reduceIte, Bool.false_eq_true, decide_false]
  refine ldB hc.boxed (by first | exact fa_37_0 | exact fa_37_1 | exact fa_37_2 | exact fa_37_3 | exact fa_37_4 | exact fa_44_0 | exact fa_44_1 | exact fa_44_2 | exact fa_44_3 | exact fa_44_4 | exact fa_59_0 | exact fa_59_3 | exact fa_59_4 | exact fa_64_0 | exact fa_64_1 | exact fa_64_2 | exact fa_64_3 | exact fa_64_4 | exact fa_64_5 | exact fa_74_0 | exact fa_74_1 | exact fa_93_0) (by first | exact l1_21 | exact l1_22 | exact l1_23 | exact l1_29 | exact l1_3 | exact l1_35 | exact l1_4 | exact l1_5 | exact l1_61 | exact l1_62 | exact l1_72 | exact l1_9 | exact l1_91) rfl ?_
  refine lnx (by first | exact xa_22 | exact xa_35 | exact xa_41 | exact xa_62 | exact xa_72 | exact xa_91) hs (V_gtr.2 ?_)
  by_cases h3 : a > ((x.data.length : Nat) : Int)
  · simp only [h3, gd_tf, pickD_iff, ifD_true, reduceIte, decide_true]
    exact ⟨by rw [if_pos (.inr (.inr (.inl trivial)))], X⟩
  simp only [h3, gd_f, pickD_iff, reduceIte, Bool.false_eq_true, decide_false]
  refine ldB hc.boxed (by first | exact fa_37_0 | exact fa_37_1 | exact fa_37_2 | exact fa_37_3 | exact fa_37_4 | exact fa_44_0 | exact fa_44_1 | exact fa_44_2 | exact fa_44_3 | exact fa_44_4 | exact fa_59_0 | exact fa_59_3 | exact fa_59_4 | exact fa_64_0 | exact fa_64_1 | exact fa_64_2 | exact fa_64_3 | exact fa_64_4 | exact fa_64_5 | exact fa_74_0 | exact fa_74_1 | exact fa_93_0) (by first | exact l1_21 | exact l1_22 | exact l1_23 | exact l1_29 | exact l1_3 | exact l1_35 | exact l1_4 | exact l1_5 | exact l1_61 | exact l1_62 | exact l1_72 | exact l1_9 | exact l1_91) rfl (lnx (by first | exact xa_22 | exact xa_35 | exact xa_41 | exact xa_62 | exact xa_72 | exact xa_91) hs (V_sub.2 ?_))
  rw [wrap_id (by omega) (by omega)]
  by_cases h4 : n > ((x.data.length : Nat) : Int) - a
  · simp only [h4, V_gtr, ifD_true, decide_true]
    exact ⟨by simp, X⟩
  simp only [h4, V_gtr, ifD_false, decide_false]
  exact ⟨by simp, X⟩
end Go.Proofs.Ytgjmpnngheohbaa
namespace Go.Proofs.Ytgjmpnngheohbaa
open Go.Vc
/-- An array's bytes are turned. -/
theorem HeapG.upd {w w' : World} {hb B : Nat} {size : Int} {g cap : Nat} {ar : List Arr} (h : HeapG w hb B size g cap ar) {k : Nat} {x : Arr} (hk : ar[k]? = some x) {d' : List Int} (hd : d'.length ≤ 64) (ho : w'.ownsRow B 5 1 x.dv d'.length (d'.map u8)) (hf : Fr (fun i => x.dv.ownBlock = some i) w w') :
    HeapG w' hb B size g cap (ar.set k { x with data := d' }) := by
  have hkl : k < ar.length := (List.getElem?_eq_some_iff.1 hk).1
  have hxm := List.mem_of_getElem? hk
  have hlt := h.lt
  have hrow : rowC (ar.set k { x with data := d' }) = rowC ar := by
    apply List.ext_getElem?
    intro j
    by_cases hj : j < ar.length * 5
    · obtain ⟨a, ha⟩ := ex_get (l := ar) (j := j / 5) (by omega)
      have e : j = j / 5 * 5 + j % 5 := by omega
      rw [e, rowC_get ha (Nat.mod_lt _ (by decide))]
      by_cases hjk : k = j / 5
      · have : (ar.set k { x with data := d' })[j / 5]? = some { x with data := d' } := by rw [← hjk, List.getElem?_set_self hkl]
        rw [rowC_get this (Nat.mod_lt _ (by decide))]
        rw [← hjk, hk] at ha
        cases ha
        rfl
      · have : (ar.set k { x with data := d' })[j / 5]? = some a := by rw [List.getElem?_set_ne hjk]; exact ha
        rw [rowC_get this (Nat.mod_lt _ (by decide))]
    · rw [List.getElem?_eq_none (by rw [rowC_len]; simp; omega), List.getElem?_eq_none (by rw [rowC_len]; omega)]
  have find : ∀ {i : Nat} {a : Arr}, (ar.set k { x with data := d' })[i]? = some a → ∃ b, ar[i]? = some b ∧ b.dv = a.dv ∧ ((i = k ∧ a = { x with data := d' }) ∨ (i ≠ k ∧ a = b)) := by
    intro i a hi
    by_cases hik : k = i
    · subst hik
      rw [List.getElem?_set_self hkl] at hi
      cases hi
      exact ⟨x, hk, rfl, .inl ⟨rfl, rfl⟩⟩
    · rw [List.getElem?_set_ne hik] at hi
      exact ⟨a, hi, rfl, .inr ⟨fun e => hik e.symm, rfl⟩⟩
  have each : ∀ a ∈ ar.set k { x with data := d' }, w'.ownsRow B 5 1 a.dv a.data.length (a.data.map u8) ∧ a.data.length ≤ 64 ∧ a.dv.ownBlock ≠ some g := by
    intro a ha
    obtain ⟨i, hi⟩ := List.getElem?_of_mem ha
    obtain ⟨b, hb', hdv, hc⟩ := find hi
    have hbm := List.mem_of_getElem? hb'
    rcases hc with ⟨rfl, rfl⟩ | ⟨hne, rfl⟩
    · exact ⟨ho, hd, h.drow x hxm⟩
    · refine ⟨hf.own (h.data a hbm) fun j hj he => hne (h.dist i k a x j hb' hk hj he), h.len a hbm, h.drow a hbm⟩
  refine ⟨?_, ?_, fun a ha => (each a ha).1, fun a ha => (each a ha).2.1, fun i j a b y hi hj ha hb' => ?_, fun a ha => (each a ha).2.2, by have := hf.size; omega, by simpa using h.cnt, h.fresh.1, fun a ha => ?_⟩
  · have := hf.blk h.heap fun he => h.fresh.2 x hxm he
    simpa using this
  · have := hf.own h.row fun i hi he => by
      have : g = i := by simpa [Value.ownBlock] using hi
      exact h.drow x hxm (this ▸ he)
    rw [hrow]
    simpa using this
  · obtain ⟨a', h1, h2, _⟩ := find hi
    obtain ⟨b', h3, h4, _⟩ := find hj
    exact h.dist i j a' b' y h1 h3 (h2 ▸ ha) (h4 ▸ hb')
  · obtain ⟨i, hi⟩ := List.getElem?_of_mem ha
    obtain ⟨b, hb', hdv, _⟩ := find hi
    rw [← hdv]
    exact h.fresh.2 b (List.mem_of_getElem? hb')
/-- A room. -/
structure RoomG (w : World) (rb hb B : Nat) (size : Int) (g cap : Nat) (ar : List Arr) (pub sec : Value) (tp ts : List Int) : Prop where
  room : Blk w rb [.pointer (some ⟨hb, 0, none⟩), .slice none 0 0, .slice none 0 0, pub, sec] 59
  h : HeapG w hb B size g cap ar
  qp : w.ownsRow B 5 1 pub tp.length (tp.map u8)
  qs : w.ownsRow B 5 1 sec ts.length (ts.map u8)
  lp : tp.length ≤ 128
  ls : ts.length ≤ 128
  ne : ∀ x, pub.ownBlock = some x → sec.ownBlock ≠ some x
  np : ∀ a ∈ ar, ∀ x, a.dv.ownBlock = some x → pub.ownBlock ≠ some x
  ns : ∀ a ∈ ar, ∀ x, a.dv.ownBlock = some x → sec.ownBlock ≠ some x
  gp : pub.ownBlock ≠ some g
  gs : sec.ownBlock ≠ some g
  lt : rb ≠ hb
  fresh : ∀ x, (x = rb ∨ x = hb) → x ≠ g ∧ (∀ a ∈ ar, a.dv.ownBlock ≠ some x) ∧ pub.ownBlock ≠ some x ∧ sec.ownBlock ≠ some x
theorem RoomG.ext {w w' : World} {rb hb B : Nat} {size : Int} {g cap : Nat} {ar : List Arr} {pub sec : Value} {tp ts : List Int} (h : RoomG w rb hb B size g cap ar pub sec tp ts) (hx : Ext w w') : RoomG w' rb hb B size g cap ar pub sec tp ts :=
  ⟨h.room.ext hx, h.h.ext hx, hx.own h.qp, hx.own h.qs, h.lp, h.ls, h.ne, h.np, h.ns, h.gp, h.gs, h.lt, h.fresh⟩
/-- The room's blocks. -/
def MuG (rb hb g : Nat) (ar : List Arr) (pub sec : Value) (i : Nat) : Prop := i = rb ∨ i = hb ∨ i = g ∨ (∃ a ∈ ar, a.dv.ownBlock = some i) ∨ pub.ownBlock = some i ∨ sec.ownBlock = some i
theorem RoomG.hi {w : World} {rb hb B : Nat} {size : Int} {g cap : Nat} {ar : List Arr} {pub sec : Value} {tp ts : List Int} (h : RoomG w rb hb B size g cap ar pub sec tp ts) : ∀ i, MuG rb hb g ar pub sec i → i < w.heap.size ∧ (i = rb ∨ i = hb ∨ B ≤ i) := by
  intro i hm
  rcases hm with rfl | rfl | rfl | ⟨a, ha, he⟩ | he | he
  · exact ⟨h.room.lt, .inl rfl⟩
  · exact ⟨h.h.heap.lt, .inr (.inl rfl)⟩
  · have := h.h.row.lt _ rfl
    exact ⟨this.2, .inr (.inr this.1)⟩
  · have := (h.h.data a ha).lt _ he
    exact ⟨this.2, .inr (.inr this.1)⟩
  · have := h.qp.lt _ he
    exact ⟨this.2, .inr (.inr this.1)⟩
  · have := h.qs.lt _ he
    exact ⟨this.2, .inr (.inr this.1)⟩
theorem RoomG.upd {w w' : World} {rb hb B : Nat} {size : Int} {g cap : Nat} {ar : List Arr} {pub sec : Value} {tp ts : List Int} (h : RoomG w rb hb B size g cap ar pub sec tp ts) {k : Nat} {x : Arr} (hk : ar[k]? = some x) {d' : List Int} (hd : d'.length ≤ 64) (ho : w'.ownsRow B 5 1 x.dv d'.length (d'.map u8)) (hf : Fr (fun i => x.dv.ownBlock = some i) w w') :
    RoomG w' rb hb B size g cap (ar.set k { x with data := d' }) pub sec tp ts := by
  have hxm := List.mem_of_getElem? hk
  have hkl : k < ar.length := (List.getElem?_eq_some_iff.1 hk).1
  have hlt := h.lt
  have each : ∀ a ∈ ar.set k { x with data := d' }, ∃ b ∈ ar, b.dv = a.dv := by
    intro a ha
    obtain ⟨i, hi⟩ := List.getElem?_of_mem ha
    by_cases hik : k = i
    · subst hik
      rw [List.getElem?_set_self hkl] at hi
      cases hi
      exact ⟨x, hxm, rfl⟩
    · rw [List.getElem?_set_ne hik] at hi
      exact ⟨a, List.mem_of_getElem? hi, rfl⟩
  refine ⟨hf.blk h.room (fun he => (h.fresh rb (.inl rfl)).2.1 x hxm he), h.h.upd hk hd ho hf, hf.own h.qp fun i hi he => h.np x hxm i he hi, hf.own h.qs fun i hi he => h.ns x hxm i he hi, h.lp, h.ls, h.ne, fun a ha y hy => ?_, fun a ha y hy => ?_, h.gp, h.gs, h.lt, fun y hy => ⟨(h.fresh y hy).1, fun a ha => ?_, (h.fresh y hy).2.2⟩⟩
  · obtain ⟨b, hb', e⟩ := each a ha
    exact h.np b hb' y (e ▸ hy)
  · obtain ⟨b, hb', e⟩ := each a ha
    exact h.ns b hb' y (e ▸ hy)
  · obtain ⟨b, hb', e⟩ := each a ha
    rw [← e]
    exact (h.fresh y hy).2.1 b hb'
theorem rangesG_ok {w : World} {rb hb B : Nat} {size : Int} {g cap : Nat} {ar : List Arr} {pub sec av : Value} {tp ts : List Int} (h : RoomG w rb hb B size g cap ar pub sec tp ts) {who sa sb r a n : Int} :
    callD Try.prog 38 #[svc rb who sa sb av, i64 r, i64 a, i64 n] w fun q w' => q = i64 (rng ar r a n who) ∧ Ext w w' := by
  apply F38_wp
  unfold F38_den
  refine bx fun b w1 hb1 x1 => ?_
  have D1 : Ext w1 w1.drew := (Ext.refl _).drew
  refine drawD.mk' (fun w' => Ext w1 w') D1 ?_
  refine yfB (fun w' hw => hb1.ext hw) (by first | exact fa_37_0 | exact fa_37_1 | exact fa_37_2 | exact fa_37_3 | exact fa_37_4 | exact fa_44_0 | exact fa_44_1 | exact fa_44_2 | exact fa_44_3 | exact fa_44_4 | exact fa_59_0 | exact fa_59_3 | exact fa_59_4 | exact fa_64_0 | exact fa_64_1 | exact fa_64_2 | exact fa_64_3 | exact fa_64_4 | exact fa_64_5 | exact fa_74_0 | exact fa_74_1 | exact fa_93_0) (by first | exact l1_21 | exact l1_22 | exact l1_23 | exact l1_29 | exact l1_3 | exact l1_35 | exact l1_4 | exact l1_5 | exact l1_61 | exact l1_62 | exact l1_72 | exact l1_9 | exact l1_91) rfl ?_
  refine ⟨.inl ⟨_, rfl⟩, ?_⟩
  refine yfB (fun w' hw => (h.room.ext (x1.trans hw)).boxed) (by first | exact fa_37_0 | exact fa_37_1 | exact fa_37_2 | exact fa_37_3 | exact fa_37_4 | exact fa_44_0 | exact fa_44_1 | exact fa_44_2 | exact fa_44_3 | exact fa_44_4 | exact fa_59_0 | exact fa_59_3 | exact fa_59_4 | exact fa_64_0 | exact fa_64_1 | exact fa_64_2 | exact fa_64_3 | exact fa_64_4 | exact fa_64_5 | exact fa_74_0 | exact fa_74_1 | exact fa_93_0) (by first | exact l1_21 | exact l1_22 | exact l1_23 | exact l1_29 | exact l1_3 | exact l1_35 | exact l1_4 | exact l1_5 | exact l1_61 | exact l1_62 | exact l1_72 | exact l1_9 | exact l1_91) rfl ?_
  refine yfB (fun w' hw => hb1.ext hw) (by first | exact fa_37_0 | exact fa_37_1 | exact fa_37_2 | exact fa_37_3 | exact fa_37_4 | exact fa_44_0 | exact fa_44_1 | exact fa_44_2 | exact fa_44_3 | exact fa_44_4 | exact fa_59_0 | exact fa_59_3 | exact fa_59_4 | exact fa_64_0 | exact fa_64_1 | exact fa_64_2 | exact fa_64_3 | exact fa_64_4 | exact fa_64_5 | exact fa_74_0 | exact fa_74_1 | exact fa_93_0) (by first | exact l1_21 | exact l1_22 | exact l1_23 | exact l1_29 | exact l1_3 | exact l1_35 | exact l1_4 | exact l1_5 | exact l1_61 | exact l1_62 | exact l1_72 | exact l1_9 | exact l1_91) rfl ?_
  refine (rangeG_ok (h.h.ext (x1.trans D1))).mono fun q w2 ⟨hq, x2⟩ => ?_
  exact ⟨D1.trans x2, hq, (x1.trans D1).trans x2⟩
theorem bytesG_ok {w : World} {rb hb B : Nat} {size : Int} {g cap : Nat} {ar : List Arr} {pub sec av : Value} {tp ts : List Int} (h : RoomG w rb hb B size g cap ar pub sec tp ts) {k : Nat} {x : Arr} (hk : ar[k]? = some x) {who sa sb r : Int} (hr : r = (k : Int) + 1) {a n : Nat} (hn : a + n ≤ x.data.length) :
    callD Try.prog 42 #[svc rb who sa sb av, i64 r, i64 (a : Int), i64 (n : Int)] w fun q w' => (∀ w2, Fr (fun i => i < w.heap.size) w' w2 → BytesAre w2 q ((x.data.drop a).take n)) ∧ Ext w w' := by
  have hxl := h.h.len x (List.mem_of_getElem? hk)
  apply F42_wp
  unfold F42_den
  refine bx fun b w1 hb1 x1 => ?_
  refine ldB hb1 (by first | exact fa_37_0 | exact fa_37_1 | exact fa_37_2 | exact fa_37_3 | exact fa_37_4 | exact fa_44_0 | exact fa_44_1 | exact fa_44_2 | exact fa_44_3 | exact fa_44_4 | exact fa_59_0 | exact fa_59_3 | exact fa_59_4 | exact fa_64_0 | exact fa_64_1 | exact fa_64_2 | exact fa_64_3 | exact fa_64_4 | exact fa_64_5 | exact fa_74_0 | exact fa_74_1 | exact fa_93_0) (by first | exact l1_21 | exact l1_22 | exact l1_23 | exact l1_29 | exact l1_3 | exact l1_35 | exact l1_4 | exact l1_5 | exact l1_61 | exact l1_62 | exact l1_72 | exact l1_9 | exact l1_91) rfl ⟨.inl ⟨_, rfl⟩, ?_⟩
  refine ldB (h.room.ext x1).boxed (by first | exact fa_37_0 | exact fa_37_1 | exact fa_37_2 | exact fa_37_3 | exact fa_37_4 | exact fa_44_0 | exact fa_44_1 | exact fa_44_2 | exact fa_44_3 | exact fa_44_4 | exact fa_59_0 | exact fa_59_3 | exact fa_59_4 | exact fa_64_0 | exact fa_64_1 | exact fa_64_2 | exact fa_64_3 | exact fa_64_4 | exact fa_64_5 | exact fa_74_0 | exact fa_74_1 | exact fa_93_0) (by first | exact l1_21 | exact l1_22 | exact l1_23 | exact l1_29 | exact l1_3 | exact l1_35 | exact l1_4 | exact l1_5 | exact l1_61 | exact l1_62 | exact l1_72 | exact l1_9 | exact l1_91) rfl ?_
  refine (arrayG_ok (h.h.ext x1) hk hr).mono fun q w2 ⟨⟨v, hq, ho⟩, x2⟩ => ?_
  subst hq
  refine V_ext0.2 (V_ext1.2 ?_)
  refine asK (by first | exact sa_37 | exact sa_42 | exact sa_44 | exact sa_64) rfl (cells_one (own_one ho)) fun w3 hc x3 => ?_
  refine ldB hc.boxed (by first | exact fa_37_0 | exact fa_37_1 | exact fa_37_2 | exact fa_37_3 | exact fa_37_4 | exact fa_44_0 | exact fa_44_1 | exact fa_44_2 | exact fa_44_3 | exact fa_44_4 | exact fa_59_0 | exact fa_59_3 | exact fa_59_4 | exact fa_64_0 | exact fa_64_1 | exact fa_64_2 | exact fa_64_3 | exact fa_64_4 | exact fa_64_5 | exact fa_74_0 | exact fa_74_1 | exact fa_93_0) (by first | exact l1_21 | exact l1_22 | exact l1_23 | exact l1_29 | exact l1_3 | exact l1_35 | exact l1_4 | exact l1_5 | exact l1_61 | exact l1_62 | exact l1_72 | exact l1_9 | exact l1_91) rfl (V_add.2 ?_)
  rw [wrap_id (by omega) (by omega)]
  have ho3 := x3.own ho
  obtain ⟨v', hr', hs⟩ := r_sl (P := Try.prog) Try.underlying22 inf5 (SliceIs.of_own ho3) (lo := some (i64 (a : Int))) (hi' := some (i64 ((a : Int) + (n : Int)))) (a := a) (b := a + n) (.inr rfl) (.inr (by simp)) (by omega) hn
  refine V.ok (hr' _) ⟨fun w2 hf => ?_, (x1.trans x2).trans x3⟩
  have := hs w2 (SliceIs.of_own (hf.own ho3 fun i hi hlt => by have := (ho3.lt i hi).1; have := x1.size; omega))
  have e : ((x.data.drop a).take n).length = n := by simp; omega
  unfold BytesAre
  rw [e]
  simp only [Nat.add_sub_cancel_left] at this
  rw [List.map_take, List.map_drop]
  exact this
theorem getG_ok {w : World} {hb B : Nat} {size : Int} {g cap : Nat} {ar : List Arr} (h : HeapG w hb B size g cap ar) {k : Nat} {x : Arr} (hk : ar[k]? = some x) {r : Int} (hr : r = (k : Int) + 1) {a : Nat} (ha : a < x.data.length) :
    callD Try.prog 39 #[.pointer (some ⟨hb, 0, none⟩), i64 r, i64 (a : Int)] w fun q w' => q = .tuple #[u8 (x.data.getD a 0), .bool true] ∧ w' = w := by
  have hxm := List.mem_of_getElem? hk
  have hkl : k < ar.length := (List.getElem?_eq_some_iff.1 hk).1
  have hd := SliceIs.of_own (h.data x hxm)
  apply F39_wp
  unfold F39_den
  refine (atG_ok h).mono fun q w1 ⟨hq, hw⟩ => ?_
  subst hq; have hw := hw.symm; subst hw
  rw [atG_in hr hkl]
  refine V.ok (r_eqPtr Try.underlying69) ?_
  simp only [show ¬ ((a : Int) < 0) by omega, V_lss, gd_f, pickD_iff, reduceIte, Bool.false_eq_true, decide_false]
  refine ⟨.inl ⟨_, rfl⟩, ?_⟩
  refine V.ok r_fd_37_4 (V.ok (r_ld_22 (h.get hk (j := 4) (by omega))) (lnx (by first | exact xa_22 | exact xa_35 | exact xa_41 | exact xa_62 | exact xa_72 | exact xa_91) hd ?_))
  simp only [show ¬ ((a : Int) ≥ ((x.data.length : Nat) : Int)) by omega, V_geq, ifD_false, decide_false]
  refine ⟨.inl ⟨_, rfl⟩, ?_⟩
  refine V.ok r_fd_37_4 (V.ok (r_ld_22 (h.get hk (j := 4) (by omega))) ?_)
  exact ldx xa_22 l1_5 hd (by omega) (by omega) (getD_u8 ha) ⟨rfl, rfl⟩
theorem putG_ok {w : World} {hb B : Nat} {size : Int} {g cap : Nat} {ar : List Arr} (h : HeapG w hb B size g cap ar) {k : Nat} {x : Arr} (hk : ar[k]? = some x) {r : Int} (hr : r = (k : Int) + 1) {a : Nat} (ha : a < x.data.length) {z : Int} :
    callD Try.prog 40 #[.pointer (some ⟨hb, 0, none⟩), i64 r, i64 (a : Int), u8 z] w fun _ w' => w'.ownsRow B 5 1 x.dv x.data.length ((x.data.set a z).map u8) ∧ w.grownBy w' x.dv.ownBlock := by
  have hxm := List.mem_of_getElem? hk
  have hkl : k < ar.length := (List.getElem?_eq_some_iff.1 hk).1
  apply F40_wp
  unfold F40_den
  refine (getG_ok h hk hr ha).mono fun q w1 ⟨hq, hw⟩ => ?_
  subst hq; have hw := hw.symm; subst hw
  refine V_ext0.2 (V_ext1.2 (V_not.2 (ifD_false.2 ?_)))
  refine (atG_ok h).mono fun q w1 ⟨hq, hw⟩ => ?_
  subst hq; have hw := hw.symm; subst hw
  rw [atG_in hr hkl]
  refine ⟨.inl ⟨_, rfl⟩, ?_⟩
  refine V.ok r_fd_37_4 (V.ok (r_ld_22 (h.get hk (j := 4) (by omega))) ?_)
  refine stO (by first | exact xa_22 | exact xa_35 | exact xa_41 | exact xa_62 | exact xa_72 | exact xa_91) inf5 (h.data x hxm) (by omega) (by omega) rfl fun w3 ho3 hg3 => ?_
  refine ⟨?_, hg3⟩
  rw [List.map_set]
  simpa using ho3
end Go.Proofs.Ytgjmpnngheohbaa
namespace Go.Proofs.Ytgjmpnngheohbaa
open Go.Vc
def SameA (a b : Arr) : Prop := b.owner = a.owner ∧ b.label = a.label ∧ b.life = a.life ∧ b.share = a.share ∧ b.data = a.data
/-- What a service may turn. -/
def Wk (st who : Int) (ar ar' : List Arr) : Prop := ar.length ≤ ar'.length ∧ (st ≠ 36864 → ar'.length = ar.length) ∧ ∀ (k : Nat) (a : Arr), ar[k]? = some a → ∃ a', ar'[k]? = some a' ∧ (SameA a a' ∨ (st = 36864 ∧ mayA a who = true))
theorem Wk.same (st who : Int) (ar : List Arr) : Wk st who ar ar := ⟨Nat.le_refl _, fun _ => rfl, fun k a h => ⟨a, h, .inl ⟨rfl, rfl, rfl, rfl, rfl⟩⟩⟩
theorem Wk.upd {who : Int} {ar : List Arr} {k : Nat} {x : Arr} (hk : ar[k]? = some x) (hm : mayA x who = true) (d' : List Int) : Wk 36864 who ar (ar.set k { x with data := d' }) := by
  have hkl : k < ar.length := (List.getElem?_eq_some_iff.1 hk).1
  refine ⟨by simp, fun _ => by simp, fun j a h => ?_⟩
  by_cases hjk : k = j
  · subst hjk
    rw [hk] at h
    cases h
    exact ⟨_, List.getElem?_set_self hkl, .inr ⟨rfl, hm⟩⟩
  · exact ⟨a, by rw [List.getElem?_set_ne hjk]; exact h, .inl ⟨rfl, rfl, rfl, rfl, rfl⟩⟩
def SvPost (w : World) (rb hb B : Nat) (size : Int) (g : Nat) (ar : List Arr) (pub sec : Value) (who : Int) (r : Value) (w' : World) : Prop :=
  ∃ (p st : Int) (g' cap' : Nat) (ar' : List Arr) (pub' sec' : Value) (tp' ts' : List Int), r = .tuple #[i32 p, i64 st] ∧ RoomG w' rb hb B size g' cap' ar' pub' sec' tp' ts' ∧ Wk st who ar ar' ∧ Fr (MuG rb hb g ar pub sec) w w'
theorem svSame {w w' : World} {rb hb B : Nat} {size : Int} {g cap : Nat} {ar : List Arr} {pub sec : Value} {tp ts : List Int} (h : RoomG w rb hb B size g cap ar pub sec tp ts) (hx : Ext w w') {who p st : Int} {r : Value} (hr : r = .tuple #[i32 p, i64 st]) : SvPost w rb hb B size g ar pub sec who r w' :=
  ⟨p, st, g, cap, ar, pub, sec, tp, ts, hr, h.ext hx, Wk.same _ _ _, Fr.of_ext hx⟩
section
variable {w : World} {rb hb B : Nat} {size : Int} {g cap : Nat} {ar : List Arr} {pub sec av : Value} {tp ts : List Int}
set_option maxHeartbeats 1600000 in
theorem lengthG_ok (h : RoomG w rb hb B size g cap ar pub sec tp ts) {who sa sb r : Int} (hav : SliceIs w av 1 1 [i64 r]) :
    callD Try.prog 26 #[svc rb who sa sb av] w fun q w' => SvPost w rb hb B size g ar pub sec who q w' := by
  apply F26_wp
  unfold F26_den
  refine bx fun b w1 hb1 x1 => ?_
  refine ldB hb1 (by first | exact fa_37_0 | exact fa_37_1 | exact fa_37_2 | exact fa_37_3 | exact fa_37_4 | exact fa_44_0 | exact fa_44_1 | exact fa_44_2 | exact fa_44_3 | exact fa_44_4 | exact fa_59_0 | exact fa_59_3 | exact fa_59_4 | exact fa_64_0 | exact fa_64_1 | exact fa_64_2 | exact fa_64_3 | exact fa_64_4 | exact fa_64_5 | exact fa_74_0 | exact fa_74_1 | exact fa_93_0) (by first | exact l1_21 | exact l1_22 | exact l1_23 | exact l1_29 | exact l1_3 | exact l1_35 | exact l1_4 | exact l1_5 | exact l1_61 | exact l1_62 | exact l1_72 | exact l1_9 | exact l1_91) rfl ?_
  refine ldx xa_62 l1_3 (hav.ext x1) (by omega) (by omega) rfl ?_
  refine ldA hb1 la_64 rfl ?_
  refine (touch_ok (rb := rb) (who := who) (a := sa) (b := sb) (av := av)).mono fun _ w2 x2 => ?_
  have D2 : Ext w2 w2.drew := (Ext.refl _).drew
  have X2 := x1.trans (x2.trans D2)
  refine drawD.mk' (fun w' => Ext w2 w') D2 ?_
  refine yfB (fun w' hw => hb1.ext (x2.trans hw)) (by first | exact fa_37_0 | exact fa_37_1 | exact fa_37_2 | exact fa_37_3 | exact fa_37_4 | exact fa_44_0 | exact fa_44_1 | exact fa_44_2 | exact fa_44_3 | exact fa_44_4 | exact fa_59_0 | exact fa_59_3 | exact fa_59_4 | exact fa_64_0 | exact fa_64_1 | exact fa_64_2 | exact fa_64_3 | exact fa_64_4 | exact fa_64_5 | exact fa_74_0 | exact fa_74_1 | exact fa_93_0) (by first | exact l1_21 | exact l1_22 | exact l1_23 | exact l1_29 | exact l1_3 | exact l1_35 | exact l1_4 | exact l1_5 | exact l1_61 | exact l1_62 | exact l1_72 | exact l1_9 | exact l1_91) rfl ⟨.inl ⟨_, rfl⟩, ?_⟩
  refine yfB (fun w' hw => (h.room.ext (x1.trans (x2.trans hw))).boxed) (by first | exact fa_37_0 | exact fa_37_1 | exact fa_37_2 | exact fa_37_3 | exact fa_37_4 | exact fa_44_0 | exact fa_44_1 | exact fa_44_2 | exact fa_44_3 | exact fa_44_4 | exact fa_59_0 | exact fa_59_3 | exact fa_59_4 | exact fa_64_0 | exact fa_64_1 | exact fa_64_2 | exact fa_64_3 | exact fa_64_4 | exact fa_64_5 | exact fa_74_0 | exact fa_74_1 | exact fa_93_0) (by first | exact l1_21 | exact l1_22 | exact l1_23 | exact l1_29 | exact l1_3 | exact l1_35 | exact l1_4 | exact l1_5 | exact l1_61 | exact l1_62 | exact l1_72 | exact l1_9 | exact l1_91) rfl ?_
  refine yfB (fun w' hw => hb1.ext (x2.trans hw)) (by first | exact fa_37_0 | exact fa_37_1 | exact fa_37_2 | exact fa_37_3 | exact fa_37_4 | exact fa_44_0 | exact fa_44_1 | exact fa_44_2 | exact fa_44_3 | exact fa_44_4 | exact fa_59_0 | exact fa_59_3 | exact fa_59_4 | exact fa_64_0 | exact fa_64_1 | exact fa_64_2 | exact fa_64_3 | exact fa_64_4 | exact fa_64_5 | exact fa_74_0 | exact fa_74_1 | exact fa_93_0) (by first | exact l1_21 | exact l1_22 | exact l1_23 | exact l1_29 | exact l1_3 | exact l1_35 | exact l1_4 | exact l1_5 | exact l1_61 | exact l1_62 | exact l1_72 | exact l1_9 | exact l1_91) rfl ?_
  refine (checkG_ok (h.h.ext X2)).mono fun q w3 ⟨hq, x3⟩ => ?_
  subst hq
  have X3 := X2.trans x3
  refine ⟨D2.trans x3, V_neqI.2 (ifD_dec (fun hne => svSame h X3 rfl) fun hfine => ?_)⟩
  obtain ⟨k, x, hk, hr, hm⟩ := chk_fine (show chk ar r who = 36864 by omega)
  refine ldB (hb1.ext ((x2.trans D2).trans x3)) (by first | exact fa_37_0 | exact fa_37_1 | exact fa_37_2 | exact fa_37_3 | exact fa_37_4 | exact fa_44_0 | exact fa_44_1 | exact fa_44_2 | exact fa_44_3 | exact fa_44_4 | exact fa_59_0 | exact fa_59_3 | exact fa_59_4 | exact fa_64_0 | exact fa_64_1 | exact fa_64_2 | exact fa_64_3 | exact fa_64_4 | exact fa_64_5 | exact fa_74_0 | exact fa_74_1 | exact fa_93_0) (by first | exact l1_21 | exact l1_22 | exact l1_23 | exact l1_29 | exact l1_3 | exact l1_35 | exact l1_4 | exact l1_5 | exact l1_61 | exact l1_62 | exact l1_72 | exact l1_9 | exact l1_91) rfl ⟨.inl ⟨_, rfl⟩, ?_⟩
  refine ldB (h.room.ext X3).boxed (by first | exact fa_37_0 | exact fa_37_1 | exact fa_37_2 | exact fa_37_3 | exact fa_37_4 | exact fa_44_0 | exact fa_44_1 | exact fa_44_2 | exact fa_44_3 | exact fa_44_4 | exact fa_59_0 | exact fa_59_3 | exact fa_59_4 | exact fa_64_0 | exact fa_64_1 | exact fa_64_2 | exact fa_64_3 | exact fa_64_4 | exact fa_64_5 | exact fa_74_0 | exact fa_74_1 | exact fa_93_0) (by first | exact l1_21 | exact l1_22 | exact l1_23 | exact l1_29 | exact l1_3 | exact l1_35 | exact l1_4 | exact l1_5 | exact l1_61 | exact l1_62 | exact l1_72 | exact l1_9 | exact l1_91) rfl ?_
  refine (arrayG_ok (h.h.ext X3) hk hr).mono fun q w4 ⟨⟨v, hq, ho⟩, x4⟩ => ?_
  subst hq
  refine V_ext0.2 (V_ext1.2 ?_)
  refine asK (by first | exact sa_37 | exact sa_42 | exact sa_44 | exact sa_64) rfl (cells_one (own_one ho)) fun w5 hc x5 => ?_
  refine ldB hc.boxed (by first | exact fa_37_0 | exact fa_37_1 | exact fa_37_2 | exact fa_37_3 | exact fa_37_4 | exact fa_44_0 | exact fa_44_1 | exact fa_44_2 | exact fa_44_3 | exact fa_44_4 | exact fa_59_0 | exact fa_59_3 | exact fa_59_4 | exact fa_64_0 | exact fa_64_1 | exact fa_64_2 | exact fa_64_3 | exact fa_64_4 | exact fa_64_5 | exact fa_74_0 | exact fa_74_1 | exact fa_93_0) (by first | exact l1_21 | exact l1_22 | exact l1_23 | exact l1_29 | exact l1_3 | exact l1_35 | exact l1_4 | exact l1_5 | exact l1_61 | exact l1_62 | exact l1_72 | exact l1_9 | exact l1_91) rfl (lnx (by first | exact xa_22 | exact xa_35 | exact xa_41 | exact xa_62 | exact xa_72 | exact xa_91) (SliceIs.of_own (x5.own ho)) ?_)
  exact V.ok (r_convI Try.underlying3 Try.underlying21) (svSame h ((X3.trans x4).trans x5) rfl)
set_option maxHeartbeats 1600000 in
theorem getSv_ok (h : RoomG w rb hb B size g cap ar pub sec tp ts) {who sa sb r a : Int} (hav : SliceIs w av 1 2 [i64 r, i64 a]) :
    callD Try.prog 27 #[svc rb who sa sb av] w fun q w' => SvPost w rb hb B size g ar pub sec who q w' := by
  apply F27_wp
  unfold F27_den
  refine bx fun b w1 hb1 x1 => ?_
  have D1 : Ext w1 w1.drew := (Ext.refl _).drew
  have hav1 := hav.ext x1
  refine drawD.mk' (fun w' => Ext w1 w') D1 ?_
  refine yfB (fun w' hw => hb1.ext hw) (by first | exact fa_37_0 | exact fa_37_1 | exact fa_37_2 | exact fa_37_3 | exact fa_37_4 | exact fa_44_0 | exact fa_44_1 | exact fa_44_2 | exact fa_44_3 | exact fa_44_4 | exact fa_59_0 | exact fa_59_3 | exact fa_59_4 | exact fa_64_0 | exact fa_64_1 | exact fa_64_2 | exact fa_64_3 | exact fa_64_4 | exact fa_64_5 | exact fa_74_0 | exact fa_74_1 | exact fa_93_0) (by first | exact l1_21 | exact l1_22 | exact l1_23 | exact l1_29 | exact l1_3 | exact l1_35 | exact l1_4 | exact l1_5 | exact l1_61 | exact l1_62 | exact l1_72 | exact l1_9 | exact l1_91) rfl ?_
  refine ySl xa_62 l1_3 hav1 (fun w' hw => hw) (by omega) (by omega) rfl ?_
  refine yfB (fun w' hw => hb1.ext hw) (by first | exact fa_37_0 | exact fa_37_1 | exact fa_37_2 | exact fa_37_3 | exact fa_37_4 | exact fa_44_0 | exact fa_44_1 | exact fa_44_2 | exact fa_44_3 | exact fa_44_4 | exact fa_59_0 | exact fa_59_3 | exact fa_59_4 | exact fa_64_0 | exact fa_64_1 | exact fa_64_2 | exact fa_64_3 | exact fa_64_4 | exact fa_64_5 | exact fa_74_0 | exact fa_74_1 | exact fa_93_0) (by first | exact l1_21 | exact l1_22 | exact l1_23 | exact l1_29 | exact l1_3 | exact l1_35 | exact l1_4 | exact l1_5 | exact l1_61 | exact l1_62 | exact l1_72 | exact l1_9 | exact l1_91) rfl ?_
  refine ySl xa_62 l1_3 hav1 (fun w' hw => hw) (by omega) (by omega) rfl ?_
  refine ldA (hb1.ext D1) la_64 rfl ?_
  refine (touch_ok (rb := rb) (who := who) (a := sa) (b := sb) (av := av)).mono fun _ w2 x2 => ?_
  have x12 := D1.trans x2
  refine ldA (hb1.ext x12) la_64 rfl ?_
  refine (rangesG_ok (h.ext (x1.trans x12)) (av := av)).mono fun q w3 ⟨hq, x3⟩ => ?_
  subst hq
  have X3 := (x1.trans x12).trans x3
  refine V_neqI.2 (ifD_dec (fun hne => svSame h X3 rfl) fun hfine => ?_)
  obtain ⟨k, x, hk, hr, hm, ha0, _, han⟩ := rng_fine (show rng ar r a 1 who = 36864 by omega)
  obtain ⟨a, rfl⟩ : ∃ n : Nat, a = n := ⟨a.toNat, by omega⟩
  refine ldB (hb1.ext (x12.trans x3)) (by first | exact fa_37_0 | exact fa_37_1 | exact fa_37_2 | exact fa_37_3 | exact fa_37_4 | exact fa_44_0 | exact fa_44_1 | exact fa_44_2 | exact fa_44_3 | exact fa_44_4 | exact fa_59_0 | exact fa_59_3 | exact fa_59_4 | exact fa_64_0 | exact fa_64_1 | exact fa_64_2 | exact fa_64_3 | exact fa_64_4 | exact fa_64_5 | exact fa_74_0 | exact fa_74_1 | exact fa_93_0) (by first | exact l1_21 | exact l1_22 | exact l1_23 | exact l1_29 | exact l1_3 | exact l1_35 | exact l1_4 | exact l1_5 | exact l1_61 | exact l1_62 | exact l1_72 | exact l1_9 | exact l1_91) rfl ⟨.inl ⟨_, rfl⟩, ?_⟩
  refine ldB (h.room.ext X3).boxed (by first | exact fa_37_0 | exact fa_37_1 | exact fa_37_2 | exact fa_37_3 | exact fa_37_4 | exact fa_44_0 | exact fa_44_1 | exact fa_44_2 | exact fa_44_3 | exact fa_44_4 | exact fa_59_0 | exact fa_59_3 | exact fa_59_4 | exact fa_64_0 | exact fa_64_1 | exact fa_64_2 | exact fa_64_3 | exact fa_64_4 | exact fa_64_5 | exact fa_74_0 | exact fa_74_1 | exact fa_93_0) (by first | exact l1_21 | exact l1_22 | exact l1_23 | exact l1_29 | exact l1_3 | exact l1_35 | exact l1_4 | exact l1_5 | exact l1_61 | exact l1_62 | exact l1_72 | exact l1_9 | exact l1_91) rfl ?_
  refine (getG_ok (h.h.ext X3) hk hr (a := a) (by omega)).mono fun q w4 ⟨hq, hw⟩ => ?_
  subst hq; have hw := hw.symm; subst hw
  refine V_ext0.2 (V_ext1.2 ?_)
  exact V.ok (r_convI Try.underlying5 Try.underlying21) (svSame h X3 rfl)
set_option maxHeartbeats 1600000 in
theorem putSv_ok (h : RoomG w rb hb B size g cap ar pub sec tp ts) {who sa sb r a z : Int} (hva : ∀ w', Fr (MuG rb hb g ar pub sec) w w' → SliceIs w' av 1 3 [i64 r, i64 a, i64 z]) :
    callD Try.prog 28 #[svc rb who sa sb av] w fun q w' => SvPost w rb hb B size g ar pub sec who q w' := by
  apply F28_wp
  unfold F28_den
  have hav := hva w (Fr.refl _ _)
  refine bxK fun w1 hb1 x1 => ?_
  have D1 : Ext w1 w1.drew := (Ext.refl _).drew
  have hav1 := hav.ext x1
  refine drawD.mk' (fun w' => Ext w1 w') D1 ?_
  refine yfB (fun w' hw => (hb1.ext hw).boxed) (by first | exact fa_37_0 | exact fa_37_1 | exact fa_37_2 | exact fa_37_3 | exact fa_37_4 | exact fa_44_0 | exact fa_44_1 | exact fa_44_2 | exact fa_44_3 | exact fa_44_4 | exact fa_59_0 | exact fa_59_3 | exact fa_59_4 | exact fa_64_0 | exact fa_64_1 | exact fa_64_2 | exact fa_64_3 | exact fa_64_4 | exact fa_64_5 | exact fa_74_0 | exact fa_74_1 | exact fa_93_0) (by first | exact l1_21 | exact l1_22 | exact l1_23 | exact l1_29 | exact l1_3 | exact l1_35 | exact l1_4 | exact l1_5 | exact l1_61 | exact l1_62 | exact l1_72 | exact l1_9 | exact l1_91) rfl ?_
  refine ySl xa_62 l1_3 hav1 (fun w' hw => hw) (by omega) (by omega) rfl ?_
  refine yfB (fun w' hw => (hb1.ext hw).boxed) (by first | exact fa_37_0 | exact fa_37_1 | exact fa_37_2 | exact fa_37_3 | exact fa_37_4 | exact fa_44_0 | exact fa_44_1 | exact fa_44_2 | exact fa_44_3 | exact fa_44_4 | exact fa_59_0 | exact fa_59_3 | exact fa_59_4 | exact fa_64_0 | exact fa_64_1 | exact fa_64_2 | exact fa_64_3 | exact fa_64_4 | exact fa_64_5 | exact fa_74_0 | exact fa_74_1 | exact fa_93_0) (by first | exact l1_21 | exact l1_22 | exact l1_23 | exact l1_29 | exact l1_3 | exact l1_35 | exact l1_4 | exact l1_5 | exact l1_61 | exact l1_62 | exact l1_72 | exact l1_9 | exact l1_91) rfl ?_
  refine ySl xa_62 l1_3 hav1 (fun w' hw => hw) (by omega) (by omega) rfl ?_
  refine ldA (hb1.ext D1).boxed la_64 rfl ?_
  refine (touch_ok (rb := rb) (who := who) (a := sa) (b := sb) (av := av)).mono fun _ w2 x2 => ?_
  have x12 := D1.trans x2
  refine ldA (hb1.ext x12).boxed la_64 rfl ?_
  refine (rangesG_ok (h.ext (x1.trans x12)) (av := av)).mono fun q w3 ⟨hq, x3⟩ => ?_
  subst hq
  have x13 := x12.trans x3
  have X3 := (x1.trans x12).trans x3
  refine V_neqI.2 (ifD_dec (fun hne => svSame h X3 rfl) fun hfine => ?_)
  obtain ⟨k, x, hk, hr, hm, ha0, _, han⟩ := rng_fine (show rng ar r a 1 who = 36864 by omega)
  obtain ⟨a, rfl⟩ : ∃ n : Nat, a = n := ⟨a.toNat, by omega⟩
  have hxm := List.mem_of_getElem? hk
  have D3 : Ext w3 w3.drew := (Ext.refl _).drew
  have X3' := X3.trans D3
  have h3 := h.ext X3'
  have hob : ∀ i, x.dv.ownBlock = some i → i < w.heap.size ∧ B ≤ i := fun i hi => by have := (h.h.data x hxm).lt i hi; omega
  have hnb : x.dv.ownBlock ≠ some w.heap.size := fun he => by have := (hob _ he).1; omega
  have hnr : x.dv.ownBlock ≠ some rb := (h.fresh rb (.inl rfl)).2.1 x hxm
  refine drawD.mk' (fun w' => Fr (fun i => x.dv.ownBlock = some i) w3 w') (Fr.of_ext D3) ?_
  refine yfB (fun w' hw => (hw.blk (hb1.ext x13) hnb).boxed) (by first | exact fa_37_0 | exact fa_37_1 | exact fa_37_2 | exact fa_37_3 | exact fa_37_4 | exact fa_44_0 | exact fa_44_1 | exact fa_44_2 | exact fa_44_3 | exact fa_44_4 | exact fa_59_0 | exact fa_59_3 | exact fa_59_4 | exact fa_64_0 | exact fa_64_1 | exact fa_64_2 | exact fa_64_3 | exact fa_64_4 | exact fa_64_5 | exact fa_74_0 | exact fa_74_1 | exact fa_93_0) (by first | exact l1_21 | exact l1_22 | exact l1_23 | exact l1_29 | exact l1_3 | exact l1_35 | exact l1_4 | exact l1_5 | exact l1_61 | exact l1_62 | exact l1_72 | exact l1_9 | exact l1_91) rfl ⟨.inl ⟨_, rfl⟩, ?_⟩
  refine yfB (fun w' hw => (hw.blk (h.room.ext X3) hnr).boxed) (by first | exact fa_37_0 | exact fa_37_1 | exact fa_37_2 | exact fa_37_3 | exact fa_37_4 | exact fa_44_0 | exact fa_44_1 | exact fa_44_2 | exact fa_44_3 | exact fa_44_4 | exact fa_59_0 | exact fa_59_3 | exact fa_59_4 | exact fa_64_0 | exact fa_64_1 | exact fa_64_2 | exact fa_64_3 | exact fa_64_4 | exact fa_64_5 | exact fa_74_0 | exact fa_74_1 | exact fa_93_0) (by first | exact l1_21 | exact l1_22 | exact l1_23 | exact l1_29 | exact l1_3 | exact l1_35 | exact l1_4 | exact l1_5 | exact l1_61 | exact l1_62 | exact l1_72 | exact l1_9 | exact l1_91) rfl ?_
  refine yfB (fun w' hw => (hw.blk (hb1.ext x13) hnb).boxed) (by first | exact fa_37_0 | exact fa_37_1 | exact fa_37_2 | exact fa_37_3 | exact fa_37_4 | exact fa_44_0 | exact fa_44_1 | exact fa_44_2 | exact fa_44_3 | exact fa_44_4 | exact fa_59_0 | exact fa_59_3 | exact fa_59_4 | exact fa_64_0 | exact fa_64_1 | exact fa_64_2 | exact fa_64_3 | exact fa_64_4 | exact fa_64_5 | exact fa_74_0 | exact fa_74_1 | exact fa_93_0) (by first | exact l1_21 | exact l1_22 | exact l1_23 | exact l1_29 | exact l1_3 | exact l1_35 | exact l1_4 | exact l1_5 | exact l1_61 | exact l1_62 | exact l1_72 | exact l1_9 | exact l1_91) rfl ?_
  have mono : ∀ w', Fr (fun i => x.dv.ownBlock = some i) w3 w' → Fr (MuG rb hb g ar pub sec) w w' := fun w' hf => (Fr.of_ext (S := MuG rb hb g ar pub sec) X3).trans hf fun i _ hi => .inr (.inr (.inr (.inl ⟨x, hxm, hi⟩)))
  refine ySlF xa_62 l1_3 hav (fun w' hw => hva w' (mono w' hw)) (by omega) (by omega) rfl ?_
  refine yieldS.ok (fun w' _ => r_convI Try.underlying3 Try.underlying5) ?_
  refine (putG_ok h3.h hk hr (a := a) (by omega)).mono fun _ w4 ⟨ho4, hg4⟩ => ?_
  have f4 : Fr (fun i => x.dv.ownBlock = some i) w3.drew w4 := Fr.of_grown hg4 fun i hi => hi
  have f34 : Fr (fun i => x.dv.ownBlock = some i) w3 w4 := (Fr.of_ext (S := fun i => x.dv.ownBlock = some i) D3).trans f4 fun _ _ h => h
  have hxl := h.h.len x hxm
  refine ⟨f34, 0, 36864, g, cap, _, pub, sec, tp, ts, rfl, h3.upd hk (d' := x.data.set a (IntKind.u8.wrap z)) (by simpa using hxl) (by simpa using ho4) f4, Wk.upd hk hm _, mono w4 f34⟩
set_option maxHeartbeats 1600000 in
theorem bothG_ok (h : RoomG w rb hb B size g cap ar pub sec tp ts) {who sa sb r1 a1 r2 a2 n : Int} (hav : SliceIs w av 1 5 [i64 r1, i64 a1, i64 r2, i64 a2, i64 n]) :
    callD Try.prog 41 #[svc rb who sa sb av] w fun q w' => (∃ st : Int, q = i64 st ∧ (st = 36864 → rng ar r1 a1 n who = 36864 ∧ rng ar r2 a2 n who = 36864)) ∧ Ext w w' := by
  apply F41_wp
  unfold F41_den
  refine bx fun b w1 hb1 x1 => ?_
  refine ldB hb1 (by first | exact fa_37_0 | exact fa_37_1 | exact fa_37_2 | exact fa_37_3 | exact fa_37_4 | exact fa_44_0 | exact fa_44_1 | exact fa_44_2 | exact fa_44_3 | exact fa_44_4 | exact fa_59_0 | exact fa_59_3 | exact fa_59_4 | exact fa_64_0 | exact fa_64_1 | exact fa_64_2 | exact fa_64_3 | exact fa_64_4 | exact fa_64_5 | exact fa_74_0 | exact fa_74_1 | exact fa_93_0) (by first | exact l1_21 | exact l1_22 | exact l1_23 | exact l1_29 | exact l1_3 | exact l1_35 | exact l1_4 | exact l1_5 | exact l1_61 | exact l1_62 | exact l1_72 | exact l1_9 | exact l1_91) rfl ?_
  have hav1 := hav.ext x1
  refine ldx xa_62 l1_3 hav1 (by omega) (by omega) rfl ?_
  have D1 : Ext w1 w1.drew := (Ext.refl _).drew
  refine drawD.mk' (fun w' => Ext w1 w') D1 ?_
  refine yA (fun w' hw => hb1.ext hw) la_64 rfl ?_
  refine ySl xa_62 l1_3 hav1 (fun w' hw => hw) (by omega) (by omega) rfl ?_
  refine ySl xa_62 l1_3 hav1 (fun w' hw => hw) (by omega) (by omega) rfl ?_
  refine (touch_ok (rb := rb) (who := who) (a := sa) (b := sb) (av := av)).mono fun _ w2 x2 => ?_
  have X2 := D1.trans x2
  refine ⟨X2, ?_⟩
  refine drawD.mk' (fun w' => Ext w1 w') X2.drew ?_
  refine yA (fun w' hw => hb1.ext hw) la_64 rfl ?_
  refine ySl xa_62 l1_3 hav1 (fun w' hw => hw) (by omega) (by omega) rfl ?_
  refine ySl xa_62 l1_3 hav1 (fun w' hw => hw) (by omega) (by omega) rfl ?_
  refine (touch_ok (rb := rb) (who := who) (a := sa) (b := sb) (av := av)).mono fun _ w3 x3 => ?_
  have X3 := X2.drew.trans x3
  refine ⟨X3, ?_⟩
  refine drawD.mk' (fun w' => Ext w1 w') X3.drew ?_
  refine yA (fun w' hw => hb1.ext hw) la_64 rfl ?_
  refine ySl xa_62 l1_3 hav1 (fun w' hw => hw) (by omega) (by omega) rfl ?_
  refine ySl xa_62 l1_3 hav1 (fun w' hw => hw) (by omega) (by omega) rfl ?_
  have Y3 := x1.trans X3.drew
  refine (rangesG_ok (h.ext Y3) (who := who) (sa := sa) (sb := sb) (av := av)).mono fun q w4 ⟨hq, x4⟩ => ?_
  subst hq
  have X4 := X3.drew.trans x4
  refine ⟨X4, V_neqI.2 (ifD_dec (fun hne => ⟨⟨_, rfl, fun h => absurd h hne⟩, Y3.trans x4⟩) fun hfine => ?_)⟩
  refine drawD.mk' (fun w' => Ext w1 w') X4.drew ?_
  refine yA (fun w' hw => hb1.ext hw) la_64 rfl ?_
  refine ySl xa_62 l1_3 hav1 (fun w' hw => hw) (by omega) (by omega) rfl ?_
  refine ySl xa_62 l1_3 hav1 (fun w' hw => hw) (by omega) (by omega) rfl ?_
  have Y4 := x1.trans X4.drew
  refine (rangesG_ok (h.ext Y4) (who := who) (sa := sa) (sb := sb) (av := av)).mono fun q w5 ⟨hq, x5⟩ => ?_
  exact ⟨X4.drew.trans x5, ⟨_, hq, fun h2 => ⟨by omega, h2⟩⟩, Y4.trans x5⟩
set_option maxHeartbeats 3200000 in
theorem copySv_ok (h : RoomG w rb hb B size g cap ar pub sec tp ts) {who sa sb r1 a1 r2 a2 n : Int} (hva : ∀ w', Fr (MuG rb hb g ar pub sec) w w' → SliceIs w' av 1 5 [i64 r1, i64 a1, i64 r2, i64 a2, i64 n]) :
    callD Try.prog 29 #[svc rb who sa sb av] w fun q w' => SvPost w rb hb B size g ar pub sec who q w' := by
  apply F29_wp
  unfold F29_den
  have hav := hva w (Fr.refl _ _)
  refine bxK fun w1 hb1 x1 => ?_
  refine ldA hb1.boxed la_64 rfl ?_
  refine (bothG_ok (h.ext x1) (sa := sa) (sb := sb) (hav.ext x1)).mono fun q w2 ⟨⟨st, hq, hst⟩, x2⟩ => ?_
  subst hq
  have X2 := x1.trans x2
  refine V_neqI.2 (ifD_dec (fun hne => svSame h X2 rfl) fun hfine => ?_)
  obtain ⟨hf1, hf2⟩ := hst (by omega)
  obtain ⟨k1, y1, hk1, hr1, hm1, ha1, hn0, hn1⟩ := rng_fine hf1
  obtain ⟨k2, y2, hk2, hr2, hm2, ha2, _, hn2⟩ := rng_fine hf2
  obtain ⟨n, rfl⟩ : ∃ m : Nat, n = m := ⟨n.toNat, by omega⟩
  obtain ⟨a, rfl⟩ : ∃ m : Nat, a1 = m := ⟨a1.toNat, by omega⟩
  obtain ⟨c, rfl⟩ : ∃ m : Nat, a2 = m := ⟨a2.toNat, by omega⟩
  have hxm := List.mem_of_getElem? hk1
  have hxl := h.h.len y1 hxm
  have hyl := h.h.len y2 (List.mem_of_getElem? hk2)
  have hob : ∀ i, y1.dv.ownBlock = some i → i < w.heap.size ∧ B ≤ i := fun i hi => by have := (h.h.data y1 hxm).lt i hi; omega
  have hnb : y1.dv.ownBlock ≠ some w.heap.size := fun he => by have := (hob _ he).1; omega
  have hb2 := hb1.ext x2
  have hav2 := hav.ext X2
  refine ldB hb2.boxed (by first | exact fa_37_0 | exact fa_37_1 | exact fa_37_2 | exact fa_37_3 | exact fa_37_4 | exact fa_44_0 | exact fa_44_1 | exact fa_44_2 | exact fa_44_3 | exact fa_44_4 | exact fa_59_0 | exact fa_59_3 | exact fa_59_4 | exact fa_64_0 | exact fa_64_1 | exact fa_64_2 | exact fa_64_3 | exact fa_64_4 | exact fa_64_5 | exact fa_74_0 | exact fa_74_1 | exact fa_93_0) (by first | exact l1_21 | exact l1_22 | exact l1_23 | exact l1_29 | exact l1_3 | exact l1_35 | exact l1_4 | exact l1_5 | exact l1_61 | exact l1_62 | exact l1_72 | exact l1_9 | exact l1_91) rfl ?_
  have D2 : Ext w2 w2.drew := (Ext.refl _).drew
  refine drawD.mk' (fun w' => Ext w2 w') D2 ?_
  refine yA (fun w' hw => (hb2.ext hw).boxed) la_64 rfl ?_
  refine ySl xa_62 l1_3 hav2 (fun w' hw => hw) (by omega) (by omega) rfl ?_
  refine ySl xa_62 l1_3 hav2 (fun w' hw => hw) (by omega) (by omega) rfl ?_
  refine ySl xa_62 l1_3 hav2 (fun w' hw => hw) (by omega) (by omega) rfl ?_
  have X2' := X2.trans D2
  refine (bytesG_ok (h.ext X2') hk2 (who := who) (sa := sa) (sb := sb) (av := av) hr2 (a := c) (n := n) (by omega)).mono fun sv w3 ⟨hsv, x3⟩ => ?_
  have x23 := D2.trans x3
  have X3 := X2.trans x23
  refine ⟨x23, ?_⟩
  have hSl : ((y2.data.drop c).take n).length = n := by simp; omega
  have hS3 := hsv w3 (Fr.refl _ _)
  refine yLen (by first | exact xa_22 | exact xa_35 | exact xa_41 | exact xa_62 | exact xa_72 | exact xa_91) hS3 ?_
  refine ⟨fun v w' => ∃ (i : Nat) (cur : List Int), v = i64 i ∧ i ≤ n ∧ cur.length = y1.data.length ∧ RoomG w' rb hb B size g cap (ar.set k1 { y1 with data := cur }) pub sec tp ts ∧ Fr (fun i => y1.dv.ownBlock = some i) w3 w',
    fun v _ => n - (RowKit.intOf v).toNat, ⟨0, y1.data, rfl, Nat.zero_le _, rfl, by
      have := (h.ext X3).upd hk1 (d' := y1.data) hxl ((h.ext X3).h.data y1 hxm) (Fr.refl _ _)
      exact this, Fr.refl _ _⟩, ?_⟩
  rintro _ w4 ⟨i, cur, rfl, hi, hcl, h4, f4⟩ _
  have F4 : Fr (MuG rb hb g ar pub sec) w w4 := (Fr.of_ext (S := MuG rb hb g ar pub sec) X3).trans f4 fun i _ hi => .inr (.inr (.inr (.inl ⟨y1, hxm, hi⟩)))
  rw [hSl]
  have hkl : k1 < ar.length := (List.getElem?_eq_some_iff.1 hk1).1
  have hk4 : (ar.set k1 { y1 with data := cur })[k1]? = some { y1 with data := cur } := List.getElem?_set_self hkl
  refine V_lss.2 (ifD_dec (fun hlt2 => ?_) fun hge => ?_)
  · have hi' : i < n := by omega
    have hS4 := hsv w4 (f4.mono fun j hj => by have := (hob j hj).1; have := X2'.size; omega)
    have hS4' : SliceIs w4 sv 1 n (((y2.data.drop c).take n).map u8) := by have := hS4; unfold BytesAre at this; rw [hSl] at this; exact this
    refine ldx xa_22 l1_5 hS4' (by omega) (by omega) (getD_u8 (by omega)) ?_
    have hb4 : Blk w4 w.heap.size _ _ := f4.blk (hb2.ext x23) hnb
    have D4 : Ext w4 w4.drew := (Ext.refl _).drew
    have G : ∀ w', Fr (fun i => y1.dv.ownBlock = some i) w4 w' → Fr (MuG rb hb g ar pub sec) w w' := fun w' hw => F4.trans hw fun i _ hi => .inr (.inr (.inr (.inl ⟨y1, hxm, hi⟩)))
    have hnr : y1.dv.ownBlock ≠ some rb := (h.fresh rb (.inl rfl)).2.1 y1 hxm
    refine drawD.mk' (fun w' => Fr (fun i => y1.dv.ownBlock = some i) w4 w') (Fr.of_ext D4) ?_
    refine yfB (fun w' hw => (hw.blk hb4 hnb).boxed) (by first | exact fa_37_0 | exact fa_37_1 | exact fa_37_2 | exact fa_37_3 | exact fa_37_4 | exact fa_44_0 | exact fa_44_1 | exact fa_44_2 | exact fa_44_3 | exact fa_44_4 | exact fa_59_0 | exact fa_59_3 | exact fa_59_4 | exact fa_64_0 | exact fa_64_1 | exact fa_64_2 | exact fa_64_3 | exact fa_64_4 | exact fa_64_5 | exact fa_74_0 | exact fa_74_1 | exact fa_93_0) (by first | exact l1_21 | exact l1_22 | exact l1_23 | exact l1_29 | exact l1_3 | exact l1_35 | exact l1_4 | exact l1_5 | exact l1_61 | exact l1_62 | exact l1_72 | exact l1_9 | exact l1_91) rfl ⟨.inl ⟨_, rfl⟩, ?_⟩
    refine yfB (fun w' hw => (hw.blk h4.room hnr).boxed) (by first | exact fa_37_0 | exact fa_37_1 | exact fa_37_2 | exact fa_37_3 | exact fa_37_4 | exact fa_44_0 | exact fa_44_1 | exact fa_44_2 | exact fa_44_3 | exact fa_44_4 | exact fa_59_0 | exact fa_59_3 | exact fa_59_4 | exact fa_64_0 | exact fa_64_1 | exact fa_64_2 | exact fa_64_3 | exact fa_64_4 | exact fa_64_5 | exact fa_74_0 | exact fa_74_1 | exact fa_93_0) (by first | exact l1_21 | exact l1_22 | exact l1_23 | exact l1_29 | exact l1_3 | exact l1_35 | exact l1_4 | exact l1_5 | exact l1_61 | exact l1_62 | exact l1_72 | exact l1_9 | exact l1_91) rfl ?_
    refine ySlF xa_62 l1_3 hav (fun w' hw => hva w' (G w' hw)) (by omega) (by omega) rfl ?_
    refine ySlF xa_62 l1_3 hav (fun w' hw => hva w' (G w' hw)) (by omega) (by omega) rfl ?_
    refine yieldS.ok (fun w' _ => r_add) ?_
    rw [show IntKind.i64.wrap ((a : Int) + (i : Int)) = ((a + i : Nat) : Int) from by rw [wrap_id (by omega) (by omega)]; omega]
    refine (putG_ok (h4.ext D4).h hk4 hr1 (a := a + i) (by show a + i < cur.length; omega)).mono fun _ w5 ⟨ho6, hg6⟩ => ?_
    have f5 : Fr (fun i => y1.dv.ownBlock = some i) w4.drew w5 := Fr.of_grown hg6 fun k hk => hk
    have f45 : Fr (fun i => y1.dv.ownBlock = some i) w4 w5 := (Fr.of_ext (S := fun i => y1.dv.ownBlock = some i) D4).trans f5 fun _ _ h => h
    refine ⟨f45, V_add.2 ?_⟩
    rw [wrap_id (by omega) (by omega), i64_succ]
    have h5 := (h4.ext D4).upd hk4 (d' := cur.set (a + i) (((y2.data.drop c).take n).getD i 0)) (by simp; omega) (by simpa using ho6) f5
    rw [List.set_set] at h5
    exact ⟨⟨i + 1, _, rfl, by omega, by simp [hcl], h5, f4.trans f45 fun _ _ h => h⟩, by simp only [intOf_i64]; omega⟩
  · exact ⟨0, 36864, g, cap, _, pub, sec, tp, ts, rfl, h4, Wk.upd hk1 hm1 _, F4⟩
end
end Go.Proofs.Ytgjmpnngheohbaa
namespace Go.Vc
section
variable {P : Program} {w : World} {K : Value → World → Prop} {k : IntKind} {t : TypeId} {a b : Int}
theorem r_and : (binOp .and t (.int k a) (.int k b)).run P w = .ok (.int k (k.wrap (BitVec.ofInt k.bits a &&& BitVec.ofInt k.bits b).toNat)) w := by simp [binOp, Op.intBits]
theorem r_or : (binOp .or t (.int k a) (.int k b)).run P w = .ok (.int k (k.wrap (BitVec.ofInt k.bits a ||| BitVec.ofInt k.bits b).toNat)) w := by simp [binOp, Op.intBits]
theorem r_xor : (binOp .xor t (.int k a) (.int k b)).run P w = .ok (.int k (k.wrap (BitVec.ofInt k.bits a ^^^ BitVec.ofInt k.bits b).toNat)) w := by simp [binOp, Op.intBits]
theorem r_andNot : (binOp .andNot t (.int k a) (.int k b)).run P w = .ok (.int k (k.wrap (BitVec.ofInt k.bits a &&& ~~~ BitVec.ofInt k.bits b).toNat)) w := by simp [binOp, Op.intBits]
theorem r_com : (Op.unary .xor (.int k a)).run P w = .ok (.int k (k.wrap (BitVec.ofInt k.bits (if k.signed then -1 else k.max) ^^^ BitVec.ofInt k.bits a).toNat)) w := by simp [Op.unary, Op.intBits]
theorem r_shl {k' : IntKind} (h : 0 ≤ b) : (binOp .shl t (.int k a) (.int k' b)).run P w = .ok (.int k (k.wrap (a * 2 ^ (min b.toNat k.bits)))) w := by
  have : ¬ b < 0 := by omega
  simp [binOp, Op.shift, this]
theorem r_shr {k' : IntKind} (h : 0 ≤ b) : (binOp .shr t (.int k a) (.int k' b)).run P w = .ok (.int k (a.fdiv (2 ^ (min b.toNat k.bits)))) w := by
  have : ¬ b < 0 := by omega
  simp [binOp, Op.shift, this]
theorem and31 (b : Int) : 0 ≤ IntKind.i32.wrap (BitVec.ofInt IntKind.i32.bits b &&& BitVec.ofInt IntKind.i32.bits 31).toNat := by
  have h : (BitVec.ofInt IntKind.i32.bits b &&& BitVec.ofInt IntKind.i32.bits 31).toNat ≤ 31 := by
    rw [BitVec.toNat_and]
    exact Nat.le_trans Nat.and_le_right (by decide)
  generalize (BitVec.ofInt IntKind.i32.bits b &&& BitVec.ofInt IntKind.i32.bits 31).toNat = n at h
  simp only [IntKind.wrap_i32]
  omega
end
end Go.Vc
namespace Go.Proofs.Ytgjmpnngheohbaa
open Go.Vc
def Pure1 (f : FuncId) : Prop := ∀ a : Int, ∃ z : Int, ∀ w, callD Try.prog f #[i32 a] w fun r w' => r = i32 z ∧ w' = w
def Pure2 (f : FuncId) : Prop := ∀ a b : Int, ∃ z : Int, ∀ w, callD Try.prog f #[i32 a, i32 b] w fun r w' => r = i32 z ∧ w' = w
theorem shr_p : Pure2 49 := fun a b => ⟨_, fun w => F49_wp (by
  unfold F49_den
  exact V.ok (r_convI Try.underlying21 Try.underlying97) (V.ok r_and (V.ok (r_shr (and31 b)) (V.ok (r_convI Try.underlying97 Try.underlying21) ⟨rfl, rfl⟩))))⟩
theorem some_p : Pure1 48 := fun a => by
  obtain ⟨z, hz⟩ := shr_p (IntKind.i32.wrap (BitVec.ofInt IntKind.i32.bits a ||| BitVec.ofInt IntKind.i32.bits (IntKind.i32.wrap (0 - a))).toNat) 31
  refine ⟨z, fun w => F48_wp ?_⟩
  unfold F48_den
  refine V.ok r_neg (V.ok r_or ?_)
  exact (hz w).mono fun _ _ h => h

theorem sameBytes_ok {w : World} {v1 v2 : Value} {l1 l2 : List Int} (h1 : BytesAre w v1 l1) (h2 : BytesAre w v2 l2) (hl : l1.length ≤ 1000) : callD Try.prog 43 #[v1, v2] w fun r w' => (∃ z, r = i32 z) ∧ Ext w w' := by
  apply F43_wp
  unfold F43_den
  refine lnx (by first | exact xa_22 | exact xa_35 | exact xa_41 | exact xa_62 | exact xa_72 | exact xa_91) h1 ?_
  refine lnx (by first | exact xa_22 | exact xa_35 | exact xa_41 | exact xa_62 | exact xa_72 | exact xa_91) h2 ?_
  refine V_neqI.2 (ifD_dec (fun _ => ⟨⟨_, rfl⟩, Ext.refl _⟩) fun he => ?_)
  refine lnx (by first | exact xa_22 | exact xa_35 | exact xa_41 | exact xa_62 | exact xa_72 | exact xa_91) h1 ?_
  refine ⟨fun v v' w' => ∃ (z : Int) (i : Nat), v = u8 z ∧ v' = i64 i ∧ i ≤ l1.length ∧ Ext w w', fun _ v _ => l1.length - (RowKit.intOf v).toNat, ⟨0, 0, rfl, rfl, Nat.zero_le _, Ext.refl _⟩, ?_⟩
  rintro _ _ w1 ⟨z, i, rfl, rfl, hi, x1⟩ _
  refine V_lss.2 (ifD_dec (fun hlt => ?_) fun hge => ?_)
  · have D1 : Ext w1 w1.drew := (Ext.refl _).drew
    refine drawD.mk' (fun w' => w' = w1.drew) rfl ?_
    refine ySl xa_22 l1_5 ((h1.ext x1).ext D1) (fun w' hw => hw ▸ Ext.refl _) (by omega) (by omega) (getD_u8 (by omega)) ?_
    refine ySl xa_22 l1_5 ((h2.ext x1).ext D1) (fun w' hw => hw ▸ Ext.refl _) (by omega) (by omega) (getD_u8 (by omega)) ?_
    refine yieldS.ok (fun w' _ => r_xor) ?_
    refine yieldS.ok (fun w' _ => r_or) ?_
    refine V_add.2 ?_
    rw [wrap_id (by omega) (by omega), i64_succ]
    exact ⟨⟨_, i + 1, rfl, rfl, by omega, x1.trans D1⟩, by simp only [intOf_i64]; omega⟩
  · refine V.ok (r_convI Try.underlying5 Try.underlying21) ?_
    obtain ⟨z2, hz2⟩ := some_p (IntKind.i32.wrap z)
    refine (hz2 w1).mono fun r w2 ⟨hr, hw⟩ => ?_
    subst hr; have hw := hw.symm; subst hw
    exact V_sub.2 ⟨⟨_, rfl⟩, x1⟩
section
variable {w : World} {rb hb B : Nat} {size : Int} {g cap : Nat} {ar : List Arr} {pub sec av : Value} {tp ts : List Int}
set_option maxHeartbeats 1600000 in
theorem sameSv_ok (h : RoomG w rb hb B size g cap ar pub sec tp ts) {who sa sb r1 a1 r2 a2 n : Int} (hav : SliceIs w av 1 5 [i64 r1, i64 a1, i64 r2, i64 a2, i64 n]) :
    callD Try.prog 30 #[svc rb who sa sb av] w fun q w' => SvPost w rb hb B size g ar pub sec who q w' := by
  apply F30_wp
  unfold F30_den
  refine bxK fun w1 hb1 x1 => ?_
  refine ldA hb1.boxed la_64 rfl ?_
  refine (bothG_ok (h.ext x1) (sa := sa) (sb := sb) (hav.ext x1)).mono fun q w2 ⟨⟨st, hq, hst⟩, x2⟩ => ?_
  subst hq
  have X2 := x1.trans x2
  refine V_neqI.2 (ifD_dec (fun hne => svSame h X2 rfl) fun hfine => ?_)
  obtain ⟨hf1, hf2⟩ := hst (by omega)
  obtain ⟨k1, y1, hk1, hr1, hm1, ha1, hn0, hn1⟩ := rng_fine hf1
  obtain ⟨k2, y2, hk2, hr2, hm2, ha2, _, hn2⟩ := rng_fine hf2
  obtain ⟨n, rfl⟩ : ∃ m : Nat, n = m := ⟨n.toNat, by omega⟩
  obtain ⟨a, rfl⟩ : ∃ m : Nat, a1 = m := ⟨a1.toNat, by omega⟩
  obtain ⟨c, rfl⟩ : ∃ m : Nat, a2 = m := ⟨a2.toNat, by omega⟩
  have hxl := h.h.len y1 (List.mem_of_getElem? hk1)
  have hb2 := hb1.ext x2
  have hav2 := hav.ext X2
  refine ldB hb2.boxed (by first | exact fa_37_0 | exact fa_37_1 | exact fa_37_2 | exact fa_37_3 | exact fa_37_4 | exact fa_44_0 | exact fa_44_1 | exact fa_44_2 | exact fa_44_3 | exact fa_44_4 | exact fa_59_0 | exact fa_59_3 | exact fa_59_4 | exact fa_64_0 | exact fa_64_1 | exact fa_64_2 | exact fa_64_3 | exact fa_64_4 | exact fa_64_5 | exact fa_74_0 | exact fa_74_1 | exact fa_93_0) (by first | exact l1_21 | exact l1_22 | exact l1_23 | exact l1_29 | exact l1_3 | exact l1_35 | exact l1_4 | exact l1_5 | exact l1_61 | exact l1_62 | exact l1_72 | exact l1_9 | exact l1_91) rfl ?_
  have D2 : Ext w2 w2.drew := (Ext.refl _).drew
  refine drawD.mk' (fun w' => Ext w2 w') D2 ?_
  refine yA (fun w' hw => (hb2.ext hw).boxed) la_64 rfl ?_
  refine ySl xa_62 l1_3 hav2 (fun w' hw => hw) (by omega) (by omega) rfl ?_
  refine ySl xa_62 l1_3 hav2 (fun w' hw => hw) (by omega) (by omega) rfl ?_
  refine ySl xa_62 l1_3 hav2 (fun w' hw => hw) (by omega) (by omega) rfl ?_
  refine yA (fun w' hw => (hb2.ext hw).boxed) la_64 rfl ?_
  refine ySl xa_62 l1_3 hav2 (fun w' hw => hw) (by omega) (by omega) rfl ?_
  refine ySl xa_62 l1_3 hav2 (fun w' hw => hw) (by omega) (by omega) rfl ?_
  refine ySl xa_62 l1_3 hav2 (fun w' hw => hw) (by omega) (by omega) rfl ?_
  have X2' := X2.trans D2
  refine (bytesG_ok (h.ext X2') hk1 (who := who) (sa := sa) (sb := sb) (av := av) hr1 (a := a) (n := n) (by omega)).mono fun v1 w3 ⟨hv1, x3⟩ => ?_
  have X3 := X2'.trans x3
  refine ⟨D2.trans x3, ?_⟩
  refine (bytesG_ok (h.ext X3) hk2 (who := who) (sa := sa) (sb := sb) (av := av) hr2 (a := c) (n := n) (by omega)).mono fun v2 w4 ⟨hv2, x4⟩ => ?_
  have X4 := X3.trans x4
  refine ⟨(D2.trans x3).trans x4, ?_⟩
  refine (sameBytes_ok (hv1 w4 (Fr.of_ext x4)) (hv2 w4 (Fr.refl _ _)) (by simp; omega)).mono fun q w5 ⟨⟨z, hq⟩, x5⟩ => ?_
  subst hq
  exact ⟨((D2.trans x3).trans x4).trans x5, svSame h (X4.trans x5) rfl⟩
set_option maxHeartbeats 3200000 in
theorem sendSv_ok (h : RoomG w rb hb B size g cap ar pub sec tp ts) {who sb r a n : Int} (hva : SliceIs w av 1 3 [i64 r, i64 a, i64 n]) :
    callD Try.prog 31 #[svc rb who 3 sb av] w fun q w' => SvPost w rb hb B size g ar pub sec who q w' := by
  apply F31_wp
  unfold F31_den
  have hlt := h.lt
  have m0 := h.ls
  refine bxK fun w1 hb1 x1 => ?_
  have D1 : Ext w1 w1.drew := (Ext.refl _).drew
  have hav1 := hva.ext x1
  refine drawD.mk' (fun w' => Ext w1 w') D1 ?_
  refine yfB (fun w' hw => (hb1.ext hw).boxed) (by first | exact fa_37_0 | exact fa_37_1 | exact fa_37_2 | exact fa_37_3 | exact fa_37_4 | exact fa_44_0 | exact fa_44_1 | exact fa_44_2 | exact fa_44_3 | exact fa_44_4 | exact fa_59_0 | exact fa_59_3 | exact fa_59_4 | exact fa_64_0 | exact fa_64_1 | exact fa_64_2 | exact fa_64_3 | exact fa_64_4 | exact fa_64_5 | exact fa_74_0 | exact fa_74_1 | exact fa_93_0) (by first | exact l1_21 | exact l1_22 | exact l1_23 | exact l1_29 | exact l1_3 | exact l1_35 | exact l1_4 | exact l1_5 | exact l1_61 | exact l1_62 | exact l1_72 | exact l1_9 | exact l1_91) rfl ?_
  refine ySl xa_62 l1_3 hav1 (fun w' hw => hw) (by omega) (by omega) rfl ?_
  refine yfB (fun w' hw => (hb1.ext hw).boxed) (by first | exact fa_37_0 | exact fa_37_1 | exact fa_37_2 | exact fa_37_3 | exact fa_37_4 | exact fa_44_0 | exact fa_44_1 | exact fa_44_2 | exact fa_44_3 | exact fa_44_4 | exact fa_59_0 | exact fa_59_3 | exact fa_59_4 | exact fa_64_0 | exact fa_64_1 | exact fa_64_2 | exact fa_64_3 | exact fa_64_4 | exact fa_64_5 | exact fa_74_0 | exact fa_74_1 | exact fa_93_0) (by first | exact l1_21 | exact l1_22 | exact l1_23 | exact l1_29 | exact l1_3 | exact l1_35 | exact l1_4 | exact l1_5 | exact l1_61 | exact l1_62 | exact l1_72 | exact l1_9 | exact l1_91) rfl ?_
  refine ySl xa_62 l1_3 hav1 (fun w' hw => hw) (by omega) (by omega) rfl ?_
  refine yfB (fun w' hw => (hb1.ext hw).boxed) (by first | exact fa_37_0 | exact fa_37_1 | exact fa_37_2 | exact fa_37_3 | exact fa_37_4 | exact fa_44_0 | exact fa_44_1 | exact fa_44_2 | exact fa_44_3 | exact fa_44_4 | exact fa_59_0 | exact fa_59_3 | exact fa_59_4 | exact fa_64_0 | exact fa_64_1 | exact fa_64_2 | exact fa_64_3 | exact fa_64_4 | exact fa_64_5 | exact fa_74_0 | exact fa_74_1 | exact fa_93_0) (by first | exact l1_21 | exact l1_22 | exact l1_23 | exact l1_29 | exact l1_3 | exact l1_35 | exact l1_4 | exact l1_5 | exact l1_61 | exact l1_62 | exact l1_72 | exact l1_9 | exact l1_91) rfl ?_
  refine ySl xa_62 l1_3 hav1 (fun w' hw => hw) (by omega) (by omega) rfl ?_
  refine ldA (hb1.ext D1).boxed la_64 rfl ?_
  refine (touch_ok (rb := rb) (who := who) (a := 3) (b := sb) (av := av)).mono fun _ w2 x2 => ?_
  have x12 := D1.trans x2
  have X2 := x1.trans x12
  refine ldA (hb1.ext x12).boxed la_64 rfl ?_
  refine (rangesG_ok (h.ext X2) (who := who) (sa := 3) (sb := sb) (av := av)).mono fun q w3 ⟨hq, x3⟩ => ?_
  subst hq
  have x13 := x12.trans x3
  have X3 := X2.trans x3
  refine V_neqI.2 (ifD_dec (fun hne => svSame h X3 rfl) fun hfine => ?_)
  obtain ⟨k, x, hk, hr, hm, ha0, hn0, han⟩ := rng_fine (show rng ar r a n who = 36864 by omega)
  obtain ⟨n, rfl⟩ : ∃ m : Nat, n = m := ⟨n.toNat, by omega⟩
  obtain ⟨a, rfl⟩ : ∃ m : Nat, a = m := ⟨a.toNat, by omega⟩
  have hxl := h.h.len x (List.mem_of_getElem? hk)
  have hb3 := hb1.ext x13
  have h3 := h.ext X3
  refine ldB hb3.boxed (by first | exact fa_37_0 | exact fa_37_1 | exact fa_37_2 | exact fa_37_3 | exact fa_37_4 | exact fa_44_0 | exact fa_44_1 | exact fa_44_2 | exact fa_44_3 | exact fa_44_4 | exact fa_59_0 | exact fa_59_3 | exact fa_59_4 | exact fa_64_0 | exact fa_64_1 | exact fa_64_2 | exact fa_64_3 | exact fa_64_4 | exact fa_64_5 | exact fa_74_0 | exact fa_74_1 | exact fa_93_0) (by first | exact l1_21 | exact l1_22 | exact l1_23 | exact l1_29 | exact l1_3 | exact l1_35 | exact l1_4 | exact l1_5 | exact l1_61 | exact l1_62 | exact l1_72 | exact l1_9 | exact l1_91) rfl ⟨.inl ⟨_, rfl⟩, ?_⟩
  refine V.ok r_fd_59_3 ?_
  refine ⟨fun v w' => v = .pointer (some ⟨rb, 0 + 4, none⟩) ∧ w' = w3, ?_, ?_⟩
  · refine ldB hb3.boxed (by first | exact fa_37_0 | exact fa_37_1 | exact fa_37_2 | exact fa_37_3 | exact fa_37_4 | exact fa_44_0 | exact fa_44_1 | exact fa_44_2 | exact fa_44_3 | exact fa_44_4 | exact fa_59_0 | exact fa_59_3 | exact fa_59_4 | exact fa_64_0 | exact fa_64_1 | exact fa_64_2 | exact fa_64_3 | exact fa_64_4 | exact fa_64_5 | exact fa_74_0 | exact fa_74_1 | exact fa_93_0) (by first | exact l1_21 | exact l1_22 | exact l1_23 | exact l1_29 | exact l1_3 | exact l1_35 | exact l1_4 | exact l1_5 | exact l1_61 | exact l1_62 | exact l1_72 | exact l1_9 | exact l1_91) rfl (V_neqI.2 ?_)
    simp only [show decide ((3 : Int) ≠ 1) = true by decide, ifD_true]
    refine ldB hb3.boxed (by first | exact fa_37_0 | exact fa_37_1 | exact fa_37_2 | exact fa_37_3 | exact fa_37_4 | exact fa_44_0 | exact fa_44_1 | exact fa_44_2 | exact fa_44_3 | exact fa_44_4 | exact fa_59_0 | exact fa_59_3 | exact fa_59_4 | exact fa_64_0 | exact fa_64_1 | exact fa_64_2 | exact fa_64_3 | exact fa_64_4 | exact fa_64_5 | exact fa_74_0 | exact fa_74_1 | exact fa_93_0) (by first | exact l1_21 | exact l1_22 | exact l1_23 | exact l1_29 | exact l1_3 | exact l1_35 | exact l1_4 | exact l1_5 | exact l1_61 | exact l1_62 | exact l1_72 | exact l1_9 | exact l1_91) rfl ⟨.inl ⟨_, rfl⟩, ?_⟩
    exact V.ok r_fd_59_4 ⟨rfl, rfl⟩
  rintro _ w' ⟨rfl, hw⟩ _
  have hw := hw.symm; subst hw
  refine ⟨.inl ⟨_, rfl⟩, ?_⟩
  have hcell : w3.cell? ⟨rb, 0 + 4, none⟩ = some sec := by rw [Nat.zero_add, h3.room.cell]; rfl
  refine V.ok (r_ld_22 hcell) ?_
  refine lnx (by first | exact xa_22 | exact xa_35 | exact xa_41 | exact xa_62 | exact xa_72 | exact xa_91) (SliceIs.of_own h3.qs) ?_
  refine V_add.2 ?_
  rw [show IntKind.i64.wrap (((ts.length : Nat) : Int) + (n : Int)) = ((ts.length + n : Nat) : Int) from by rw [wrap_id (by omega) (by omega)]; omega]
  refine V_gtr.2 (ifD_dec (fun hfull => svSame h X3 rfl) fun hroom => ?_)
  have D3 : Ext w3 w3.drew := (Ext.refl _).drew
  refine drawD.mk' (fun w' => Fr (fun i => sec.ownBlock = some i) w3 w') (Fr.of_ext D3) ⟨.inl ⟨_, rfl⟩, ?_⟩
  have hob : ∀ i, sec.ownBlock = some i → B ≤ i ∧ i < w.heap.size := fun i hi => h.qs.lt i hi
  have hw1l := hb1.lt
  have hrb : sec.ownBlock ≠ some rb := (h.fresh rb (.inl rfl)).2.2.2
  have hrl := h.room.lt
  have hhl := h.h.heap.lt
  have hbb : sec.ownBlock ≠ some w.heap.size := fun he => by have := hob _ he; omega
  refine yieldS.ok (fun w' hw => r_ld_22 (by rw [Nat.zero_add, (hw.blk h3.room hrb).cell]; rfl)) ?_
  refine yA (fun w' hw => (hw.blk hb3 hbb).boxed) la_64 rfl ?_
  have X3' := X3.trans D3
  refine (bytesG_ok (h.ext X3') hk (who := who) (sa := 3) (sb := sb) (av := av) hr (a := a) (n := n) (by omega)).mono fun bv w4 ⟨hbv, x4⟩ => ?_
  have x34 := D3.trans x4
  refine ⟨Fr.of_ext x34, ?_⟩
  have hbs := hbv w4 (Fr.refl _ _)
  have hbl : ((x.data.drop a).take n).length = n := by simp; omega
  have hbs' : SliceIs w4 bv 1 n (((x.data.drop a).take n).map u8) := by have := hbs; unfold BytesAre at this; rw [hbl] at this; exact this
  have h4 := h3.ext x34
  refine apS (by first | exact xe_22 | exact xe_35 | exact xe_62) h4.qs hbs' (all_u8 _) (by omega) (by unfold maxLen; omega) h4.h.lt fun v5 w5 ho5 hg5 hlies => ?_
  have f5 : Fr (fun i => sec.ownBlock = some i) w4 w5 := Fr.of_grown hg5 fun k hk => hk
  have f35 : Fr (fun i => sec.ownBlock = some i) w3 w5 := (Fr.of_ext (S := fun i => sec.ownBlock = some i) x34).trans f5 fun _ _ h => h
  refine ⟨f35, .inl ⟨_, rfl⟩, ?_⟩
  have hroom5 := f35.blk h3.room hrb
  refine stFU inf22 hroom5 rfl (by simp) (own_one ho5) ?_
  have f6 : Fr (fun i => i = rb) w5 (w5.setCell ⟨rb, 4, none⟩ v5) := Fr.of_set rfl
  have F : Fr (MuG rb hb g ar pub sec) w (w5.setCell ⟨rb, 4, none⟩ v5) := ((Fr.of_ext (S := fun i => sec.ownBlock = some i) X3).trans f35 fun _ _ h => h).or f6 |>.mono fun i hi => hi.elim (fun h => .inr (.inr (.inr (.inr (.inr h))))) .inl
  have F36 : Fr (fun i => sec.ownBlock = some i ∨ i = rb) w3 (w5.setCell ⟨rb, 4, none⟩ v5) := f35.or f6
  have s4 := (X3.trans x34).size
  -- a block of the room that is not sec's is not v5's
  have hoth : ∀ i, i < w.heap.size → sec.ownBlock ≠ some i → v5.ownBlock ≠ some i := fun i hi hn he => by
    rcases hlies with hl | hl
    · exact hn (hl ▸ he)
    · rw [hl] at he
      cases he
      omega
  have hG := h.hi
  have hh : HeapG (w5.setCell ⟨rb, 4, none⟩ v5) hb B size g cap ar := by
    refine ⟨F36.blk h3.h.heap fun hi => ?_, F36.own h3.h.row fun i hi he => ?_, fun b hbm => F36.own (h3.h.data b hbm) fun i hi he => ?_, h.h.len, h.h.dist, h.h.drow, by have := F36.size; have := h3.h.lt; omega, h.h.cnt, h.h.fresh⟩
    · rcases hi with hi | hi
      · exact (h.fresh hb (.inr rfl)).2.2.2 hi
      · exact hlt hi.symm
    · have hgi : g = i := by simpa [Value.ownBlock] using hi
      subst hgi
      rcases he with he | he
      · exact h.gs he
      · exact (h.fresh rb (.inl rfl)).1 he.symm
    · rcases he with he | he
      · exact h.ns b hbm i hi he
      · exact (h.fresh rb (.inl rfl)).2.1 b hbm (he ▸ hi)
  refine ⟨0, 36864, g, cap, ar, pub, v5, tp, ts ++ (x.data.drop a).take n, rfl, ⟨hroom5.set 4 v5, hh, F36.own h3.qp fun i hi he => ?_, ?_, h.lp, by simp only [List.length_append]; omega, fun i hi => ?_, h.np, fun b hbm i hi => ?_, h.gp, fun he => ?_, h.lt, fun y hy => ⟨(h.fresh y hy).1, (h.fresh y hy).2.1, (h.fresh y hy).2.2.1, ?_⟩⟩, Wk.same _ _ _, F⟩
  · rcases he with he | he
    · exact h.ne i hi he
    · exact (h.fresh rb (.inl rfl)).2.2.1 (he ▸ hi)
  · rw [List.length_append, List.map_append, hbl]
    exact f6.own ho5 fun i hi he => hoth rb hrl hrb (he ▸ hi)
  · exact hoth i (h.qp.lt i hi).2 (h.ne i hi)
  · exact hoth i ((h.h.data b hbm).lt i hi).2 (h.ns b hbm i hi)
  · exact hoth g (h.h.row.lt _ rfl).2 h.gs he
  · exact hoth y (by rcases hy with rfl | rfl <;> omega) (h.fresh y hy).2.2.2
end
/-- Two arrays are compared. -/
theorem sameArr_ok {w : World} {a b : Arr} (ha : BytesAre w a.dv a.data) (hb' : BytesAre w b.dv b.data) : callD Try.prog 18 #[.agg a.cells.toArray, .agg b.cells.toArray] w fun r w' => (∃ q : Bool, r = .bool q ∧ (SameA a b → q = true)) ∧ Ext w w' := by
  apply F18_wp
  unfold F18_den
  refine bx fun p1 w1 h1 x1 => ?_
  refine bx fun p2 w2 h2 x2 => ?_
  have h1' := h1.ext x2
  have X := x1.trans x2
  refine ldB h1' (by first | exact fa_37_0 | exact fa_37_1 | exact fa_37_2 | exact fa_37_3 | exact fa_37_4 | exact fa_44_0 | exact fa_44_1 | exact fa_44_2 | exact fa_44_3 | exact fa_44_4 | exact fa_59_0 | exact fa_59_3 | exact fa_59_4 | exact fa_64_0 | exact fa_64_1 | exact fa_64_2 | exact fa_64_3 | exact fa_64_4 | exact fa_64_5 | exact fa_74_0 | exact fa_74_1 | exact fa_93_0) (by first | exact l1_21 | exact l1_22 | exact l1_23 | exact l1_29 | exact l1_3 | exact l1_35 | exact l1_4 | exact l1_5 | exact l1_61 | exact l1_62 | exact l1_72 | exact l1_9 | exact l1_91) rfl ?_
  refine ldB h2 (by first | exact fa_37_0 | exact fa_37_1 | exact fa_37_2 | exact fa_37_3 | exact fa_37_4 | exact fa_44_0 | exact fa_44_1 | exact fa_44_2 | exact fa_44_3 | exact fa_44_4 | exact fa_59_0 | exact fa_59_3 | exact fa_59_4 | exact fa_64_0 | exact fa_64_1 | exact fa_64_2 | exact fa_64_3 | exact fa_64_4 | exact fa_64_5 | exact fa_74_0 | exact fa_74_1 | exact fa_93_0) (by first | exact l1_21 | exact l1_22 | exact l1_23 | exact l1_29 | exact l1_3 | exact l1_35 | exact l1_4 | exact l1_5 | exact l1_61 | exact l1_62 | exact l1_72 | exact l1_9 | exact l1_91) rfl (V_eqlI.2 ?_)
  by_cases e1 : a.owner = b.owner
  case neg =>
    simp only [e1, gd_ft, pickD_iff, reduceIte, Bool.false_eq_true, decide_false]
    exact ⟨⟨_, rfl, fun h => absurd h.1.symm e1⟩, X⟩
  simp only [e1, gd_t, pickD_iff, reduceIte, decide_true]
  refine ldB h1' (by first | exact fa_37_0 | exact fa_37_1 | exact fa_37_2 | exact fa_37_3 | exact fa_37_4 | exact fa_44_0 | exact fa_44_1 | exact fa_44_2 | exact fa_44_3 | exact fa_44_4 | exact fa_59_0 | exact fa_59_3 | exact fa_59_4 | exact fa_64_0 | exact fa_64_1 | exact fa_64_2 | exact fa_64_3 | exact fa_64_4 | exact fa_64_5 | exact fa_74_0 | exact fa_74_1 | exact fa_93_0) (by first | exact l1_21 | exact l1_22 | exact l1_23 | exact l1_29 | exact l1_3 | exact l1_35 | exact l1_4 | exact l1_5 | exact l1_61 | exact l1_62 | exact l1_72 | exact l1_9 | exact l1_91) rfl ?_
  refine ldB h2 (by first | exact fa_37_0 | exact fa_37_1 | exact fa_37_2 | exact fa_37_3 | exact fa_37_4 | exact fa_44_0 | exact fa_44_1 | exact fa_44_2 | exact fa_44_3 | exact fa_44_4 | exact fa_59_0 | exact fa_59_3 | exact fa_59_4 | exact fa_64_0 | exact fa_64_1 | exact fa_64_2 | exact fa_64_3 | exact fa_64_4 | exact fa_64_5 | exact fa_74_0 | exact fa_74_1 | exact fa_93_0) (by first | exact l1_21 | exact l1_22 | exact l1_23 | exact l1_29 | exact l1_3 | exact l1_35 | exact l1_4 | exact l1_5 | exact l1_61 | exact l1_62 | exact l1_72 | exact l1_9 | exact l1_91) rfl (V_eqlI.2 ?_)
  by_cases e2 : a.label = b.label
  case neg =>
    simp only [e2, gd_ft, pickD_iff, reduceIte, Bool.false_eq_true, decide_false]
    exact ⟨⟨_, rfl, fun h => absurd h.2.1.symm e2⟩, X⟩
  simp only [e2, gd_t, pickD_iff, reduceIte, decide_true]
  refine ldB h1' (by first | exact fa_37_0 | exact fa_37_1 | exact fa_37_2 | exact fa_37_3 | exact fa_37_4 | exact fa_44_0 | exact fa_44_1 | exact fa_44_2 | exact fa_44_3 | exact fa_44_4 | exact fa_59_0 | exact fa_59_3 | exact fa_59_4 | exact fa_64_0 | exact fa_64_1 | exact fa_64_2 | exact fa_64_3 | exact fa_64_4 | exact fa_64_5 | exact fa_74_0 | exact fa_74_1 | exact fa_93_0) (by first | exact l1_21 | exact l1_22 | exact l1_23 | exact l1_29 | exact l1_3 | exact l1_35 | exact l1_4 | exact l1_5 | exact l1_61 | exact l1_62 | exact l1_72 | exact l1_9 | exact l1_91) rfl ?_
  refine ldB h2 (by first | exact fa_37_0 | exact fa_37_1 | exact fa_37_2 | exact fa_37_3 | exact fa_37_4 | exact fa_44_0 | exact fa_44_1 | exact fa_44_2 | exact fa_44_3 | exact fa_44_4 | exact fa_59_0 | exact fa_59_3 | exact fa_59_4 | exact fa_64_0 | exact fa_64_1 | exact fa_64_2 | exact fa_64_3 | exact fa_64_4 | exact fa_64_5 | exact fa_74_0 | exact fa_74_1 | exact fa_93_0) (by first | exact l1_21 | exact l1_22 | exact l1_23 | exact l1_29 | exact l1_3 | exact l1_35 | exact l1_4 | exact l1_5 | exact l1_61 | exact l1_62 | exact l1_72 | exact l1_9 | exact l1_91) rfl (V_eqlI.2 ?_)
  by_cases e3 : a.life = b.life
  case neg =>
    simp only [e3, gd_ft, pickD_iff, reduceIte, Bool.false_eq_true, decide_false]
    exact ⟨⟨_, rfl, fun h => absurd h.2.2.1.symm e3⟩, X⟩
  simp only [e3, gd_t, pickD_iff, reduceIte, decide_true]
  refine ldB h1' (by first | exact fa_37_0 | exact fa_37_1 | exact fa_37_2 | exact fa_37_3 | exact fa_37_4 | exact fa_44_0 | exact fa_44_1 | exact fa_44_2 | exact fa_44_3 | exact fa_44_4 | exact fa_59_0 | exact fa_59_3 | exact fa_59_4 | exact fa_64_0 | exact fa_64_1 | exact fa_64_2 | exact fa_64_3 | exact fa_64_4 | exact fa_64_5 | exact fa_74_0 | exact fa_74_1 | exact fa_93_0) (by first | exact l1_21 | exact l1_22 | exact l1_23 | exact l1_29 | exact l1_3 | exact l1_35 | exact l1_4 | exact l1_5 | exact l1_61 | exact l1_62 | exact l1_72 | exact l1_9 | exact l1_91) rfl ?_
  refine ldB h2 (by first | exact fa_37_0 | exact fa_37_1 | exact fa_37_2 | exact fa_37_3 | exact fa_37_4 | exact fa_44_0 | exact fa_44_1 | exact fa_44_2 | exact fa_44_3 | exact fa_44_4 | exact fa_59_0 | exact fa_59_3 | exact fa_59_4 | exact fa_64_0 | exact fa_64_1 | exact fa_64_2 | exact fa_64_3 | exact fa_64_4 | exact fa_64_5 | exact fa_74_0 | exact fa_74_1 | exact fa_93_0) (by first | exact l1_21 | exact l1_22 | exact l1_23 | exact l1_29 | exact l1_3 | exact l1_35 | exact l1_4 | exact l1_5 | exact l1_61 | exact l1_62 | exact l1_72 | exact l1_9 | exact l1_91) rfl ?_
  refine V.ok (r_eqBool Try.underlying4) ?_
  by_cases e4 : a.share = b.share
  case neg =>
    simp only [show (a.share == b.share) = false by simpa using e4, gd_ft, pickD_iff, reduceIte, Bool.false_eq_true]
    exact ⟨⟨_, rfl, fun h => absurd h.2.2.2.1.symm e4⟩, X⟩
  simp only [show (a.share == b.share) = true by simpa using e4, gd_t, pickD_iff, reduceIte]
  refine ldB h1' (by first | exact fa_37_0 | exact fa_37_1 | exact fa_37_2 | exact fa_37_3 | exact fa_37_4 | exact fa_44_0 | exact fa_44_1 | exact fa_44_2 | exact fa_44_3 | exact fa_44_4 | exact fa_59_0 | exact fa_59_3 | exact fa_59_4 | exact fa_64_0 | exact fa_64_1 | exact fa_64_2 | exact fa_64_3 | exact fa_64_4 | exact fa_64_5 | exact fa_74_0 | exact fa_74_1 | exact fa_93_0) (by first | exact l1_21 | exact l1_22 | exact l1_23 | exact l1_29 | exact l1_3 | exact l1_35 | exact l1_4 | exact l1_5 | exact l1_61 | exact l1_62 | exact l1_72 | exact l1_9 | exact l1_91) rfl ?_
  refine V.ok (r_str Try.underlying22 Try.underlying5 Try.underlying9 (ha.ext X)) ?_
  refine ldB h2 (by first | exact fa_37_0 | exact fa_37_1 | exact fa_37_2 | exact fa_37_3 | exact fa_37_4 | exact fa_44_0 | exact fa_44_1 | exact fa_44_2 | exact fa_44_3 | exact fa_44_4 | exact fa_59_0 | exact fa_59_3 | exact fa_59_4 | exact fa_64_0 | exact fa_64_1 | exact fa_64_2 | exact fa_64_3 | exact fa_64_4 | exact fa_64_5 | exact fa_74_0 | exact fa_74_1 | exact fa_93_0) (by first | exact l1_21 | exact l1_22 | exact l1_23 | exact l1_29 | exact l1_3 | exact l1_35 | exact l1_4 | exact l1_5 | exact l1_61 | exact l1_62 | exact l1_72 | exact l1_9 | exact l1_91) rfl ?_
  refine V.ok (r_str Try.underlying22 Try.underlying5 Try.underlying9 (hb'.ext X)) ?_
  refine V.ok r_eqStr ?_
  exact ⟨⟨_, rfl, fun h => by rw [h.2.2.2.2]; simp⟩, X⟩
end Go.Proofs.Ytgjmpnngheohbaa
namespace Go.Vc
theorem own_blk {w : World} {g e B n size : Nat} {cs : List Value} (hb : Blk w g cs e) (hn : cs.length = n * size) (hB : B ≤ g) (hm : n ≤ maxLen) : w.ownsRow B e size (.slice (some ⟨g, 0, none⟩) n n) n cs :=
  ⟨hn, .inr ⟨g, n, cs.toArray, rfl, hB, hb, Nat.le_refl _, hm, by simpa using hn, by rw [← hn]; simp⟩⟩
/-- An append onto what the call owns, of elements of any size, and where it lies. -/
theorem apZ {P : Program} {w : World} {K : Value → World → Prop} {t e by_ ty sz : Nat} {z : Value} (ht : P.underlying t = some (.slice e)) (hi : Inf P e z sz by_) (hz : (z.cells.size == sz) = true) (hsz : 0 < sz) {B B' : Nat} {v : Value} {n : Nat} {xs : List Value} (ho : w.ownsRow B e sz v n xs) {x : Value} {m : Nat} {news : List Value} (hs : w.ownsRow B' e sz x m news) (hm : 0 < m) (h1 : news.all oneC = true)
    (hb : (n + m) * by_ ≤ 140737488355328) (h63 : n + m ≤ maxLen) (hB : B ≤ w.heap.size)
    (hk : ∀ g cap w', w'.ownsRow B e sz (.slice (some ⟨g, 0, none⟩) (n + m) cap) (n + m) (xs ++ news) → w.grownBy w' v.ownBlock → (v.ownBlock = some g ∨ g = w.heap.size) → K (.slice (some ⟨g, 0, none⟩) (n + m) cap) w') :
    V P (Builtin.append_ #[t, t] ty #[v, x]) w K := by
  obtain ⟨i, hi', hz', hn, hby⟩ := info_parts hi
  have hs0 := hs
  rcases hs.2 with ⟨_, h0⟩ | ⟨b, cap, cur, rfl, _⟩
  · omega
  · obtain ⟨g, cap, w', hr, h2, h3, h4, h5⟩ := run_append_lies (P := P) (w := w) t ty B e i z sz by_ ht hi' hz' hn hby (by simpa using hz) hsz v n xs ho ⟨b, 0, none⟩ m cap news hs.1 (hs0.cells rfl) (fun u hu => by rw [oneC_eq]; exact List.all_eq_true.1 h1 u hu) hm h63 hb hB _ rfl
    exact V.ok hr (hk g cap w' h2 h3 h4)
/-- What is behind the first a elements. -/
theorem r_slFrom {P : Program} {w : World} {t e : TypeId} {z : Value} {sz by_ : Nat} (ht : P.underlying t = some (.slice e)) (hi : Inf P e z sz by_) {g n cap a : Nat} (ha : a ≤ n) (hn : n ≤ cap) :
    (Instr.sliceAt t (.slice (some ⟨g, 0, none⟩) n cap) (some (.int .i64 (a : Int))) none none).run P w = .ok (.slice (if cap = a then some ⟨g, 0, none⟩ else some ⟨g, a * sz, none⟩) (n - a) (cap - a)) w := by
  simp [Instr.sliceAt, Instr.slice, run_underlying ht, run_size hi, Instr.sliceBounds, Instr.sliceBound, asIntOf, ha, add_mk]
end Go.Vc
namespace Go.Proofs.Ytgjmpnngheohbaa
open Go.Vc
theorem HeapG.cap {w : World} {hb B : Nat} {size : Int} {g cap : Nat} {ar : List Arr} (h : HeapG w hb B size g cap ar) : ar.length ≤ cap ∧ B ≤ g ∧ g < w.heap.size := by
  refine ⟨?_, h.row.lt _ rfl⟩
  rcases h.row.2 with ⟨h', _⟩ | ⟨g', cap', cur, h', _, _, hc, _⟩
  · cases h'
  · cases h'; exact hc
theorem usedG_ok {w : World} {hb B : Nat} {size : Int} {g cap : Nat} {ar : List Arr} (h : HeapG w hb B size g cap ar) (h2 : 2 ≤ ar.length) :
    callD Try.prog 45 #[.pointer (some ⟨hb, 0, none⟩)] w fun q w' => (∃ z : Nat, q = i64 (z : Int) ∧ 8 * (ar.length - 2) ≤ z ∧ z ≤ 72 * (ar.length - 2)) ∧ Ext w w' := by
  apply F45_wp
  unfold F45_den
  have hc := h.cap
  have hcnt := h.cnt
  refine ⟨.inl ⟨_, rfl⟩, ?_⟩
  refine ldB h.heap.boxed (by first | exact fa_37_0 | exact fa_37_1 | exact fa_37_2 | exact fa_37_3 | exact fa_37_4 | exact fa_44_0 | exact fa_44_1 | exact fa_44_2 | exact fa_44_3 | exact fa_44_4 | exact fa_59_0 | exact fa_59_3 | exact fa_59_4 | exact fa_64_0 | exact fa_64_1 | exact fa_64_2 | exact fa_64_3 | exact fa_64_4 | exact fa_64_5 | exact fa_74_0 | exact fa_74_1 | exact fa_93_0) (by first | exact l1_21 | exact l1_22 | exact l1_23 | exact l1_29 | exact l1_3 | exact l1_35 | exact l1_4 | exact l1_5 | exact l1_61 | exact l1_62 | exact l1_72 | exact l1_9 | exact l1_91) rfl ?_
  refine V.ok (r_slFrom (a := 2) Try.underlying72 inf37 h2 hc.1) ?_
  refine V_ln_72.2 ?_
  refine ⟨fun v v' w' => ∃ z i : Nat, v = i64 (z : Int) ∧ v' = i64 (i : Int) ∧ i ≤ ar.length - 2 ∧ 8 * i ≤ z ∧ z ≤ 72 * i ∧ Ext w w', fun _ v _ => ar.length - (RowKit.intOf v).toNat, ⟨0, 0, rfl, rfl, Nat.zero_le _, Nat.le_refl _, Nat.le_refl _, Ext.refl _⟩, ?_⟩
  rintro _ _ w1 ⟨z, i, rfl, rfl, hi, hz1, hz2, x1⟩ _
  refine V_lss.2 (ifD_dec (fun hlt => ?_) fun hge => ?_)
  · have hne : ¬ cap = 2 := by omega
    rw [if_neg hne]
    obtain ⟨a, ha⟩ := ex_get (l := ar) (j := i + 2) (by omega)
    have hal := h.len a (List.mem_of_getElem? ha)
    have ho := h.data a (List.mem_of_getElem? ha)
    refine V.ok (r_ix_72 (by omega) (by omega)) ?_
    have e : 2 * 5 + ((i : Nat) : Int).toNat * 5 = (i + 2) * 5 := by omega
    rw [e]
    refine V.ok (r_la_37 (cs := a.cells) rfl fun j hj => (h.ext x1).get ha hj) ?_
    refine asK (by first | exact sa_37 | exact sa_42 | exact sa_44 | exact sa_64) rfl (cells_one (own_one ho)) fun w2 hc2 x2 => ?_
    refine ldB hc2.boxed (by first | exact fa_37_0 | exact fa_37_1 | exact fa_37_2 | exact fa_37_3 | exact fa_37_4 | exact fa_44_0 | exact fa_44_1 | exact fa_44_2 | exact fa_44_3 | exact fa_44_4 | exact fa_59_0 | exact fa_59_3 | exact fa_59_4 | exact fa_64_0 | exact fa_64_1 | exact fa_64_2 | exact fa_64_3 | exact fa_64_4 | exact fa_64_5 | exact fa_74_0 | exact fa_74_1 | exact fa_93_0) (by first | exact l1_21 | exact l1_22 | exact l1_23 | exact l1_29 | exact l1_3 | exact l1_35 | exact l1_4 | exact l1_5 | exact l1_61 | exact l1_62 | exact l1_72 | exact l1_9 | exact l1_91) rfl (lnx (by first | exact xa_22 | exact xa_35 | exact xa_41 | exact xa_62 | exact xa_72 | exact xa_91) (SliceIs.of_own ((x1.trans x2).own ho)) ?_)
    refine V_add.2 (V_add.2 (V_add.2 ?_))
    rw [wrap_id (n := 8 + ((a.data.length : Nat) : Int)) (by omega) (by omega), wrap_id (by omega) (by omega), wrap_id (by omega) (by omega)]
    exact ⟨⟨z + (8 + a.data.length), i + 1, by congr 1, by congr 1, by omega, by omega, by omega, x1.trans x2⟩, by simp only [RowKit.intOf]; omega⟩
  · exact ⟨⟨z, rfl, by omega, by omega⟩, x1⟩
/-- An array more. -/
theorem HeapG.push {w w' : World} {hb B : Nat} {size : Int} {g cap g' cap' : Nat} {ar : List Arr} (h : HeapG w hb B size g cap ar) (a : Arr) (hl : a.data.length ≤ 64) (hcnt : ar.length + 1 ≤ 1000)
    (hheap : Blk w' hb [i64 size, .slice (some ⟨g', 0, none⟩) (ar.length + 1 : Nat) cap'] 74) (hrow : w'.ownsRow B 37 5 (.slice (some ⟨g', 0, none⟩) (ar.length + 1) cap') (ar.length + 1) (rowC ar ++ a.cells))
    (hd : w'.ownsRow w.heap.size 5 1 a.dv a.data.length (a.data.map u8)) (hne : a.dv.ownBlock ≠ some g') (hg : g' = g ∨ w.heap.size ≤ g') (hf : Fr (fun i => i = hb ∨ i = g) w w') :
    HeapG w' hb B size g' cap' (ar ++ [a]) := by
  have hlt := h.lt
  have hsz := hf.size
  have hc := h.cap
  have old : ∀ b ∈ ar, w'.ownsRow B 5 1 b.dv b.data.length (b.data.map u8) := fun b hbm => hf.own (h.data b hbm) fun i hi he => by
    rcases he with rfl | rfl
    · exact h.fresh.2 b hbm hi
    · exact h.drow b hbm hi
  have find : ∀ {i : Nat} {b : Arr}, (ar ++ [a])[i]? = some b → (i < ar.length ∧ ar[i]? = some b) ∨ (i = ar.length ∧ b = a) := by
    intro i b hi
    by_cases hil : i < ar.length
    · rw [List.getElem?_append_left hil] at hi; exact .inl ⟨hil, hi⟩
    · rw [List.getElem?_append_right (by omega)] at hi
      have hi' := (List.getElem?_eq_some_iff.1 hi).1
      simp at hi'
      have e : i = ar.length := by omega
      subst e
      simp at hi
      exact .inr ⟨rfl, hi.symm⟩
  have low : ∀ b ∈ ar, ∀ x, b.dv.ownBlock = some x → x < w.heap.size := fun b hbm x hx => ((h.data b hbm).lt x hx).2
  have high : ∀ x, a.dv.ownBlock = some x → w.heap.size ≤ x := fun x hx => (hd.lt x hx).1
  refine ⟨by simpa using hheap, by rw [rowC_snoc]; simpa using hrow, ?_, ?_, ?_, ?_, by omega, by simp; omega, ?_, ?_⟩
  · intro b hb'
    rcases List.mem_append.1 hb' with hb' | hb'
    · exact old b hb'
    · obtain rfl := List.mem_singleton.1 hb'
      exact own_mono hd (by omega)
  · intro b hb'
    rcases List.mem_append.1 hb' with hb' | hb'
    · exact h.len b hb'
    · obtain rfl := List.mem_singleton.1 hb'
      exact hl
  · intro i j b c x hi hj hbx hcx
    rcases find hi with ⟨_, hi'⟩ | ⟨rfl, rfl⟩ <;> rcases find hj with ⟨_, hj'⟩ | ⟨rfl, rfl⟩
    · exact h.dist i j b c x hi' hj' hbx hcx
    · have := low b (List.mem_of_getElem? hi') x hbx
      have := high x hcx
      omega
    · have := low c (List.mem_of_getElem? hj') x hcx
      have := high x hbx
      omega
    · rfl
  · intro b hb'
    rcases List.mem_append.1 hb' with hb' | hb'
    · intro he
      rcases hg with rfl | hg
      · exact h.drow b hb' he
      · have := low b hb' _ he; omega
    · obtain rfl := List.mem_singleton.1 hb'
      exact hne
  · have := h.heap.lt
    have := h.fresh.1
    omega
  · intro b hb' he
    rcases List.mem_append.1 hb' with hb' | hb'
    · exact h.fresh.2 b hb' he
    · obtain rfl := List.mem_singleton.1 hb'
      have := high _ he; have := h.heap.lt; omega
set_option maxHeartbeats 3200000 in
theorem allocG_ok {w : World} {hb B : Nat} {size : Int} {g cap : Nat} {ar : List Arr} (h : HeapG w hb B size g cap ar) (h2 : 2 ≤ ar.length) (hs : 0 ≤ size ∧ size ≤ 1000) {who life : Int} {n : Nat} {share : Bool} (hl : 0 ≤ life ∧ life ≤ 2) (hn : n ≤ 64) :
    callD Try.prog 35 #[.pointer (some ⟨hb, 0, none⟩), i64 who, i64 3, i64 life, .bool share, i64 (n : Int)] w fun q w' =>
      (q = .tuple #[i64 0, .bool false] ∧ Ext w w') ∨ ∃ g' cap' dv, q = .tuple #[i64 ((ar.length + 1 : Nat) : Int), .bool true] ∧ HeapG w' hb B size g' cap' (ar ++ [⟨who, 3, life, share, dv, List.replicate n 0⟩]) ∧ (∀ x, dv.ownBlock = some x → w.heap.size ≤ x) ∧ (g' = g ∨ w.heap.size ≤ g') ∧ Fr (fun i => i = hb ∨ i = g) w w' := by
  apply F35_wp
  unfold F35_den
  have hc := h.cap
  have hcnt := h.cnt
  have hlt := h.lt
  have D0 : Ext w w.drew := (Ext.refl _).drew
  refine drawD.mk' (fun w' => Ext w w') D0 ?_
  refine yieldS.ok (fun w' _ => r_neqI) ?_
  simp only [show decide ((3 : Int) ≠ 3) = false by decide, gdY_f, gdY_ft, pickD_iff, reduceIte, Bool.false_eq_true]
  refine yieldS.ok (fun w' _ => r_lss) ?_
  simp only [show ¬ life < 0 by omega, gdY_f, pickD_iff, reduceIte, Bool.false_eq_true, decide_false]
  refine yieldS.ok (fun w' _ => r_gtr) ?_
  simp only [show ¬ life > 2 by omega, gdY_f, pickD_iff, reduceIte, Bool.false_eq_true, decide_false]
  refine yieldS.ok (fun w' _ => r_lss) ?_
  simp only [show ¬ ((n : Nat) : Int) < 0 by omega, gdY_f, pickD_iff, reduceIte, Bool.false_eq_true, decide_false]
  refine yieldS.ok (fun w' _ => r_gtr) ?_
  simp only [show ¬ ((n : Nat) : Int) > 64 by omega, gd_f, gdY_f, pickD_iff, reduceIte, Bool.false_eq_true, decide_false]
  refine yieldS.ok (fun w' _ => r_add) ?_
  rw [wrap_id (by omega) (by omega)]
  refine ⟨.inl ⟨_, rfl⟩, ?_⟩
  refine yfB (fun w' hw => (h.heap.ext hw).boxed) (by first | exact fa_37_0 | exact fa_37_1 | exact fa_37_2 | exact fa_37_3 | exact fa_37_4 | exact fa_44_0 | exact fa_44_1 | exact fa_44_2 | exact fa_44_3 | exact fa_44_4 | exact fa_59_0 | exact fa_59_3 | exact fa_59_4 | exact fa_64_0 | exact fa_64_1 | exact fa_64_2 | exact fa_64_3 | exact fa_64_4 | exact fa_64_5 | exact fa_74_0 | exact fa_74_1 | exact fa_93_0) (by first | exact l1_21 | exact l1_22 | exact l1_23 | exact l1_29 | exact l1_3 | exact l1_35 | exact l1_4 | exact l1_5 | exact l1_61 | exact l1_62 | exact l1_72 | exact l1_9 | exact l1_91) rfl ?_
  refine (usedG_ok (h.ext D0) h2).mono fun q w1 ⟨⟨z, hq, hz1, hz2⟩, x1⟩ => ?_
  subst hq
  have X1 := D0.trans x1
  refine ⟨X1, ?_⟩
  refine yieldS.ok (fun w' _ => r_sub) ?_
  rw [wrap_id (by omega) (by omega)]
  refine yieldS.ok (fun w' _ => r_gtr) ?_
  refine ifD_dec (fun hfull => .inl ⟨by first | rfl | trivial, X1⟩) fun hroom => ?_
  have D1 : Ext w1 w1.drew := (Ext.refl _).drew
  have h1 := h.ext X1
  have hhg : ¬ hb = g := h.fresh.1
  have hhl0 := h.heap.lt
  refine drawD.mk' (fun w' => Fr (fun i => i = g) w1 w') (Fr.of_ext D1) ⟨.inl ⟨_, rfl⟩, ?_⟩
  refine yfB (fun w' hw => (hw.blk h1.heap hhg).boxed) (by first | exact fa_37_0 | exact fa_37_1 | exact fa_37_2 | exact fa_37_3 | exact fa_37_4 | exact fa_44_0 | exact fa_44_1 | exact fa_44_2 | exact fa_44_3 | exact fa_44_4 | exact fa_59_0 | exact fa_59_3 | exact fa_59_4 | exact fa_64_0 | exact fa_64_1 | exact fa_64_2 | exact fa_64_3 | exact fa_64_4 | exact fa_64_5 | exact fa_74_0 | exact fa_74_1 | exact fa_93_0) (by first | exact l1_21 | exact l1_22 | exact l1_23 | exact l1_29 | exact l1_3 | exact l1_35 | exact l1_4 | exact l1_5 | exact l1_61 | exact l1_62 | exact l1_72 | exact l1_9 | exact l1_91) rfl ?_
  have s1 := X1.size
  have d1 := D1.size
  refine mkBv (n := n) rfl Try.underlying22 inf5 rfl (by omega) (by omega) fun w2 hb2 x2 hs2 => ?_
  have hx12 := D1.trans x2
  refine ⟨Fr.of_ext hx12, ?_⟩
  refine yBld bd_37 [(0, i64 who), (1, i64 3), (2, i64 life), (3, .bool share), (4, .slice (some ⟨w1.drew.heap.size, 0, none⟩) n n)] rfl rfl ?_
  refine V.ok (v := .slice (some ⟨w2.heap.size, 0, none⟩) 1 1) (w' := w2.alloc (.cells (⟨who, 3, life, share, .slice (some ⟨w1.drew.heap.size, 0, none⟩) n n, List.replicate n 0⟩ : Arr).cells.toArray 37)) (by kernel_rfl) ?_
  have hb3 : Blk (w2.alloc (.cells (⟨who, 3, life, share, .slice (some ⟨w1.drew.heap.size, 0, none⟩) n n, List.replicate n 0⟩ : Arr).cells.toArray 37)) w2.heap.size (⟨who, 3, life, share, .slice (some ⟨w1.drew.heap.size, 0, none⟩) n n, List.replicate n 0⟩ : Arr).cells 37 := by unfold Blk; rw [heap_alloc_new]
  have x3 : Ext w2 (w2.alloc (.cells (⟨who, 3, life, share, .slice (some ⟨w1.drew.heap.size, 0, none⟩) n n, List.replicate n 0⟩ : Arr).cells.toArray 37)) := (Ext.refl _).alloc _
  generalize w2.alloc (.cells (⟨who, 3, life, share, .slice (some ⟨w1.drew.heap.size, 0, none⟩) n n, List.replicate n 0⟩ : Arr).cells.toArray 37) = w3 at hb3 x3 ⊢
  have hx13 := hx12.trans x3
  refine ⟨Fr.of_ext hx13, ?_⟩
  have s2 := x2.size
  have s3 := x3.size
  have ho3 : w3.ownsRow 0 37 5 (.slice (some ⟨w2.heap.size, 0, none⟩) 1 1) 1 _ := own_blk hb3 rfl (Nat.zero_le _) (by unfold maxLen; omega)
  refine apZ Try.underlying72 inf37 rfl (by omega) (hx13.own h1.row) ho3 (by omega) rfl (by omega) (by unfold maxLen; omega) (by omega) fun g' cap' w4 ho4 hg4 hlies => ?_
  have f4 : Fr (fun i => i = g) w3 w4 := Fr.of_grown hg4 fun k hk => by simpa [Value.ownBlock] using hk.symm
  have f14 : Fr (fun i => i = g) w1 w4 := (Fr.of_ext (S := fun i => i = g) hx13).trans f4 fun _ _ h => h
  refine ⟨f14, .inl ⟨_, rfl⟩, ?_⟩
  refine yieldS.ok (fun w' _ => r_fd_74_1) ?_
  have hheap4 := f14.blk h1.heap hhg
  refine stFU inf72 hheap4 rfl (by simp) rfl ?_
  have f5 : Fr (fun i => i = hb) w4 (w4.setCell ⟨hb, 1, none⟩ (.slice (some ⟨g', 0, none⟩) (ar.length + 1) cap')) := Fr.of_set rfl
  have hb5 := hheap4.set 1 (.slice (some ⟨g', 0, none⟩) (ar.length + 1) cap')
  have hg' : g' = g ∨ w1.heap.size ≤ g' ∧ w1.drew.heap.size ≠ g' := by
    rcases hlies with hl | hl
    · left; simpa [Value.ownBlock] using hl.symm
    · right; omega
  have hhl := h.heap.lt
  have hg'b : ¬ g' = hb := by omega
  have ho5 := f5.own ho4 fun k hk => by
    have : g' = k := by simpa [Value.ownBlock] using hk
    omega
  have hd4 : w4.ownsRow w1.heap.size 5 1 (.slice (some ⟨w1.drew.heap.size, 0, none⟩) n n) n (List.replicate n (u8 0)) := own_blk (f4.blk (hb2.ext x3) (by omega)) (by simp) (by omega) (by unfold maxLen; omega)
  have hd5 := f5.own hd4 fun k hk => by
    have : w1.drew.heap.size = k := by simpa [Value.ownBlock] using hk
    omega
  generalize w4.setCell ⟨hb, 1, none⟩ (.slice (some ⟨g', 0, none⟩) (ar.length + 1) cap') = w5 at f5 hb5 ho5 hd5 ⊢
  have f15 := f14.or f5
  have F15 : Fr (fun i => i = hb ∨ i = g) w1 w5 := f15.mono fun i hi => hi.symm
  refine ⟨.inl ⟨_, rfl⟩, ?_⟩
  refine ldB hb5.boxed (by first | exact fa_37_0 | exact fa_37_1 | exact fa_37_2 | exact fa_37_3 | exact fa_37_4 | exact fa_44_0 | exact fa_44_1 | exact fa_44_2 | exact fa_44_3 | exact fa_44_4 | exact fa_59_0 | exact fa_59_3 | exact fa_59_4 | exact fa_64_0 | exact fa_64_1 | exact fa_64_2 | exact fa_64_3 | exact fa_64_4 | exact fa_64_5 | exact fa_74_0 | exact fa_74_1 | exact fa_93_0) (by first | exact l1_21 | exact l1_22 | exact l1_23 | exact l1_29 | exact l1_3 | exact l1_35 | exact l1_4 | exact l1_5 | exact l1_61 | exact l1_62 | exact l1_72 | exact l1_9 | exact l1_91) rfl (V_ln_72.2 ?_)
  refine .inr ⟨g', cap', .slice (some ⟨w1.drew.heap.size, 0, none⟩) n n, rfl, ?_, fun x hx => ?_, by omega, (Fr.of_ext (S := fun i => i = hb ∨ i = g) X1).trans F15 fun _ _ h => h⟩
  · refine h1.push _ (by simpa using hn) (by omega) hb5 ho5 ?_ ?_ (by omega) F15
    · simpa using hd5
    · intro he
      have : w1.drew.heap.size = g' := by simpa [Value.ownBlock] using he
      rcases hg' with rfl | hg'
      · have := h1.cap; omega
      · omega
  · have : w1.drew.heap.size = x := by simpa [Value.ownBlock] using hx
    omega
end Go.Proofs.Ytgjmpnngheohbaa
namespace Go.Proofs.Ytgjmpnngheohbaa
open Go.Vc
/-- A heap whose row may be nil. -/
structure HeapV (w : World) (hb B : Nat) (size : Int) (v : Value) (ar : List Arr) : Prop where
  heap : Blk w hb [i64 size, v] 74
  row : w.ownsRow B 37 5 v ar.length (rowC ar)
  data : ∀ a ∈ ar, w.ownsRow B 5 1 a.dv a.data.length (a.data.map u8)
  dist : ∀ (i j : Nat) a b x, ar[i]? = some a → ar[j]? = some b → a.dv.ownBlock = some x → b.dv.ownBlock = some x → i = j
  drow : ∀ a ∈ ar, ∀ x, a.dv.ownBlock = some x → v.ownBlock ≠ some x
  lt : hb < B ∧ B ≤ w.heap.size
theorem HeapV.ext {w w' : World} {hb B : Nat} {size : Int} {v : Value} {ar : List Arr} (h : HeapV w hb B size v ar) (hx : Ext w w') : HeapV w' hb B size v ar :=
  ⟨h.heap.ext hx, hx.own h.row, fun a ha => hx.own (h.data a ha), h.dist, h.drow, by have := h.lt; have := hx.size; omega⟩
theorem HeapV.push {w w' : World} {hb B : Nat} {size : Int} {v v' : Value} {ar : List Arr} (h : HeapV w hb B size v ar) (a : Arr)
    (hheap : Blk w' hb [i64 size, v'] 74) (hrow : w'.ownsRow B 37 5 v' (ar.length + 1) (rowC ar ++ a.cells))
    (hd : w'.ownsRow w.heap.size 5 1 a.dv a.data.length (a.data.map u8)) (hne : ∀ x, a.dv.ownBlock = some x → v'.ownBlock ≠ some x) (hg : v'.ownBlock = v.ownBlock ∨ ∀ x, v'.ownBlock = some x → w.heap.size ≤ x) (hf : Fr (fun i => i = hb ∨ v.ownBlock = some i) w w') :
    HeapV w' hb B size v' (ar ++ [a]) := by
  have hlt := h.lt
  have hsz := hf.size
  have old : ∀ b ∈ ar, w'.ownsRow B 5 1 b.dv b.data.length (b.data.map u8) := fun b hbm => hf.own (h.data b hbm) fun i hi he => by
    rcases he with rfl | he
    · have := ((h.data b hbm).lt i hi).1; omega
    · exact h.drow b hbm i hi he
  have find : ∀ {i : Nat} {b : Arr}, (ar ++ [a])[i]? = some b → (i < ar.length ∧ ar[i]? = some b) ∨ (i = ar.length ∧ b = a) := by
    intro i b hi
    by_cases hil : i < ar.length
    · rw [List.getElem?_append_left hil] at hi; exact .inl ⟨hil, hi⟩
    · rw [List.getElem?_append_right (by omega)] at hi
      have hi' := (List.getElem?_eq_some_iff.1 hi).1
      simp at hi'
      have e : i = ar.length := by omega
      subst e
      simp at hi
      exact .inr ⟨rfl, hi.symm⟩
  have low : ∀ b ∈ ar, ∀ x, b.dv.ownBlock = some x → x < w.heap.size := fun b hbm x hx => ((h.data b hbm).lt x hx).2
  have high : ∀ x, a.dv.ownBlock = some x → w.heap.size ≤ x := fun x hx => (hd.lt x hx).1
  refine ⟨hheap, by rw [rowC_snoc]; simpa using hrow, ?_, ?_, ?_, by omega⟩
  · intro b hb'
    rcases List.mem_append.1 hb' with hb' | hb'
    · exact old b hb'
    · obtain rfl := List.mem_singleton.1 hb'
      exact own_mono hd (by omega)
  · intro i j b c x hi hj hbx hcx
    rcases find hi with ⟨_, hi'⟩ | ⟨rfl, rfl⟩ <;> rcases find hj with ⟨_, hj'⟩ | ⟨rfl, rfl⟩
    · exact h.dist i j b c x hi' hj' hbx hcx
    · have := low b (List.mem_of_getElem? hi') x hbx
      have := high x hcx
      omega
    · have := low c (List.mem_of_getElem? hj') x hcx
      have := high x hbx
      omega
    · rfl
  · intro b hb' x hx
    rcases List.mem_append.1 hb' with hb' | hb'
    · intro he
      rcases hg with hg | hg
      · exact h.drow b hb' x hx (hg ▸ he)
      · have := low b hb' _ hx; have := hg x he; omega
    · obtain rfl := List.mem_singleton.1 hb'
      exact hne x hx
/-- Two lists of arrays that read alike. -/
def SameL (ar ar' : List Arr) : Prop := ar'.length = ar.length ∧ ∀ (k : Nat) (a : Arr), ar[k]? = some a → ∃ a', ar'[k]? = some a' ∧ SameA a a'
set_option maxHeartbeats 3200000 in
theorem copyHeap_ok {w : World} {hb B : Nat} {size : Int} {g cap : Nat} {ar : List Arr} (h : HeapG w hb B size g cap ar) (h2 : 2 ≤ ar.length) :
    callD Try.prog 16 #[.pointer (some ⟨hb, 0, none⟩)] w fun q w' => (∃ g' cap' ar', q = .pointer (some ⟨w.heap.size, 0, none⟩) ∧ HeapG w' w.heap.size (w.heap.size + 1) size g' cap' ar' ∧ SameL ar ar') ∧ Ext w w' := by
  apply F16_wp
  unfold F16_den
  have hcnt := h.cnt
  refine ⟨.inl ⟨_, rfl⟩, ?_⟩
  refine ldB h.heap.boxed (by first | exact fa_37_0 | exact fa_37_1 | exact fa_37_2 | exact fa_37_3 | exact fa_37_4 | exact fa_44_0 | exact fa_44_1 | exact fa_44_2 | exact fa_44_3 | exact fa_44_4 | exact fa_59_0 | exact fa_59_3 | exact fa_59_4 | exact fa_64_0 | exact fa_64_1 | exact fa_64_2 | exact fa_64_3 | exact fa_64_4 | exact fa_64_5 | exact fa_74_0 | exact fa_74_1 | exact fa_93_0) (by first | exact l1_21 | exact l1_22 | exact l1_23 | exact l1_29 | exact l1_3 | exact l1_35 | exact l1_4 | exact l1_5 | exact l1_61 | exact l1_62 | exact l1_72 | exact l1_9 | exact l1_91) rfl ?_
  refine bld bd_74 [(0, i64 size)] rfl rfl ?_
  refine bxK fun w1 hc1 x1 => ?_
  have s1 := hc1.lt
  refine ⟨fun t w' => ∃ (n : Nat) (v : Value) (ar' : List Arr), t = i64 ((n : Int) + 1) ∧ n ≤ ar.length ∧ ar'.length = n ∧ HeapV w' w.heap.size (w.heap.size + 1) size v ar' ∧ (∀ (k : Nat) (a : Arr), k < n → ar[k]? = some a → ∃ a', ar'[k]? = some a' ∧ SameA a a') ∧ Ext w w',
    fun t _ => ar.length + 1 - (RowKit.intOf t).toNat, ⟨0, .slice none 0 0, [], rfl, Nat.zero_le _, rfl, ⟨hc1, ⟨rfl, .inl ⟨rfl, rfl⟩⟩, fun a ha => by simp at ha, fun i j a b x hi => by simp at hi, fun a ha => by simp at ha, by omega⟩, fun k a hk => by omega, x1⟩, ?_⟩
  rintro _ w2 ⟨n, v, ar', rfl, hn, hl', hV, hsame, x2⟩ _
  have hh2 := h.ext x2
  refine ⟨.inl ⟨_, rfl⟩, ?_⟩
  refine ldB hh2.heap.boxed (by first | exact fa_37_0 | exact fa_37_1 | exact fa_37_2 | exact fa_37_3 | exact fa_37_4 | exact fa_44_0 | exact fa_44_1 | exact fa_44_2 | exact fa_44_3 | exact fa_44_4 | exact fa_59_0 | exact fa_59_3 | exact fa_59_4 | exact fa_64_0 | exact fa_64_1 | exact fa_64_2 | exact fa_64_3 | exact fa_64_4 | exact fa_64_5 | exact fa_74_0 | exact fa_74_1 | exact fa_93_0) (by first | exact l1_21 | exact l1_22 | exact l1_23 | exact l1_29 | exact l1_3 | exact l1_35 | exact l1_4 | exact l1_5 | exact l1_61 | exact l1_62 | exact l1_72 | exact l1_9 | exact l1_91) rfl (V_ln_72.2 ?_)
  refine V_leq.2 (ifD_dec (fun hle => ?_) fun hgt => ?_)
  · obtain ⟨a, ha⟩ := ex_get (l := ar) (j := n) (by omega)
    have hal := h.len a (List.mem_of_getElem? ha)
    refine (arrayG_ok hh2 ha rfl).mono fun q w3 ⟨⟨dv, hq, ho⟩, x3⟩ => ?_
    subst hq
    refine V_ext0.2 (V_ext1.2 ?_)
    refine asK (by first | exact sa_37 | exact sa_42 | exact sa_44 | exact sa_64) rfl (cells_one (own_one ho)) fun w4 hc4 x4 => ?_
    have D4 : Ext w4 w4.drew := (Ext.refl _).drew
    have x24 := x3.trans x4
    have hV4 := hV.ext x24
    have hvb : ∀ i, v.ownBlock = some i → w.heap.size + 1 ≤ i ∧ i < w2.heap.size := fun i hi => hV.row.lt i hi
    have hVl := hV.lt
    have s2 := x2.size
    have s3 := x3.size
    have s4 := x4.size
    have d4 := D4.size
    have hn1 : v.ownBlock ≠ some w.heap.size := fun he => by have := hvb _ he; omega
    have hn2 : v.ownBlock ≠ some w3.heap.size := fun he => by have := hvb _ he; omega
    refine drawD.mk' (fun w' => Fr (fun i => v.ownBlock = some i) w4 w') (Fr.of_ext D4) ⟨.inl ⟨_, rfl⟩, ?_⟩
    refine yfB (fun w' hw => (hw.blk hV4.heap hn1).boxed) (by first | exact fa_37_0 | exact fa_37_1 | exact fa_37_2 | exact fa_37_3 | exact fa_37_4 | exact fa_44_0 | exact fa_44_1 | exact fa_44_2 | exact fa_44_3 | exact fa_44_4 | exact fa_59_0 | exact fa_59_3 | exact fa_59_4 | exact fa_64_0 | exact fa_64_1 | exact fa_64_2 | exact fa_64_3 | exact fa_64_4 | exact fa_64_5 | exact fa_74_0 | exact fa_74_1 | exact fa_93_0) (by first | exact l1_21 | exact l1_22 | exact l1_23 | exact l1_29 | exact l1_3 | exact l1_35 | exact l1_4 | exact l1_5 | exact l1_61 | exact l1_62 | exact l1_72 | exact l1_9 | exact l1_91) rfl ?_
    refine yA (fun w' hw => (hw.blk hc4 hn2).boxed) la_37 rfl ?_
    refine V.ok (v := .slice (some ⟨w4.drew.heap.size, 0, none⟩) 1 1) (w' := w4.drew.alloc (.cells ({ a with dv := dv } : Arr).cells.toArray 37)) (by kernel_rfl) ?_
    have hb5 : Blk (w4.drew.alloc (.cells ({ a with dv := dv } : Arr).cells.toArray 37)) w4.drew.heap.size ({ a with dv := dv } : Arr).cells 37 := by unfold Blk; rw [heap_alloc_new]
    have x5 : Ext w4.drew (w4.drew.alloc (.cells ({ a with dv := dv } : Arr).cells.toArray 37)) := (Ext.refl _).alloc _
    generalize w4.drew.alloc (.cells ({ a with dv := dv } : Arr).cells.toArray 37) = w5 at hb5 x5 ⊢
    have x45 := D4.trans x5
    refine ⟨Fr.of_ext x45, ?_⟩
    have s5 := x5.size
    have ho5 : w5.ownsRow 0 37 5 (.slice (some ⟨w4.drew.heap.size, 0, none⟩) 1 1) 1 _ := own_blk hb5 rfl (Nat.zero_le _) (by unfold maxLen; omega)
    refine apZ Try.underlying72 inf37 rfl (by omega) (x45.own hV4.row) ho5 (by omega) (by simpa using cells_one (own_one ho)) (by omega) (by unfold maxLen; omega) (by omega) fun g' cap' w6 ho6 hg6 hlies => ?_
    have f6 : Fr (fun i => v.ownBlock = some i) w5 w6 := Fr.of_grown hg6 fun k hk => hk
    have f46 : Fr (fun i => v.ownBlock = some i) w4 w6 := (Fr.of_ext (S := fun i => v.ownBlock = some i) x45).trans f6 fun _ _ h => h
    refine ⟨f46, .inl ⟨_, rfl⟩, ?_⟩
    refine yieldS.ok (fun w' _ => r_fd_74_1) ?_
    have hheap6 := f46.blk hV4.heap hn1
    refine stFU inf72 hheap6 rfl (by simp) rfl ?_
    have f7 : Fr (fun i => i = w.heap.size) w6 (w6.setCell ⟨w.heap.size, 1, none⟩ (.slice (some ⟨g', 0, none⟩) (ar'.length + 1) cap')) := Fr.of_set rfl
    have hb7 := hheap6.set 1 (.slice (some ⟨g', 0, none⟩) (ar'.length + 1) cap')
    have hg' : (.slice (some ⟨g', 0, none⟩) (ar'.length + 1) cap' : Value).ownBlock = v.ownBlock ∨ (w5.heap.size ≤ g') := by
      rcases hlies with hl | hl
      · left; rw [hl]; rfl
      · right; omega
    have hgw : ¬ g' = w.heap.size := by
      rcases hlies with hl | hl
      · have := hvb _ hl; omega
      · omega
    have ho7 := f7.own ho6 fun k hk => by
      have : g' = k := by simpa [Value.ownBlock] using hk
      omega
    have hd6 := f46.own (x4.own ho) fun k hk he => by
      have := (ho.lt k hk).1; have := hvb k he; omega
    have hd7 := f7.own hd6 fun k hk he => by
      have := (ho.lt k hk).1; omega
    have hdb : ∀ x, dv.ownBlock = some x → w2.heap.size ≤ x ∧ x < w3.heap.size := fun x hx => ho.lt x hx
    generalize w6.setCell ⟨w.heap.size, 1, none⟩ (.slice (some ⟨g', 0, none⟩) (ar'.length + 1) cap') = w7 at f7 hb7 ho7 hd7 ⊢
    have f47 := f46.or f7
    have F27 : Fr (fun i => i = w.heap.size ∨ v.ownBlock = some i) w2 w7 := (Fr.of_ext (S := fun i => i = w.heap.size ∨ v.ownBlock = some i) x24).trans (f47.mono fun i hi => hi.symm) fun _ _ h => h
    refine V_add.2 ?_
    rw [wrap_id (by omega) (by omega)]
    refine ⟨⟨n + 1, _, ar' ++ [{ a with dv := dv }], by congr 1, by omega, by simp [hl'], hV.push _ hb7 ho7 hd7 (fun x hx he => ?_) (hg'.imp id fun hg x hx => ?_) F27, fun k b hk hb' => ?_, F27.ext x2 fun i hi => ?_⟩, ?_⟩
    · have h9 : g' = x := by simpa [Value.ownBlock] using he
      have h8 := hdb x hx
      rcases hlies with hl | hl
      · have := hvb _ hl; omega
      · omega
    · have h9 : g' = x := by simpa [Value.ownBlock] using hx
      omega
    · by_cases hkn : k < n
      · obtain ⟨a', h1, h3⟩ := hsame k b hkn hb'
        exact ⟨a', by rw [List.getElem?_append_left (by omega)]; exact h1, h3⟩
      · have e : k = n := by omega
        subst e
        rw [ha] at hb'
        cases hb'
        exact ⟨{ a with dv := dv }, by rw [List.getElem?_append_right (by omega)]; simp [hl'], rfl, rfl, rfl, rfl, rfl⟩
    · rcases hi with rfl | hi
      · exact Nat.le_refl _
      · have := hvb i hi; omega
    · simp only [RowKit.intOf]; omega
  · have hnl : n = ar.length := by omega
    subst hnl
    obtain ⟨g', cap', hv, _, _⟩ := hV.row.form (by omega)
    subst hv
    rw [hl'] at hV
    have hall : ∀ a' ∈ ar', ∃ a ∈ ar, SameA a a' := fun a' ha' => by
      obtain ⟨k, hk⟩ := List.getElem?_of_mem ha'
      have hkl := (List.getElem?_eq_some_iff.1 hk).1
      obtain ⟨a, ha⟩ := ex_get (l := ar) (j := k) (by omega)
      obtain ⟨a'', h1, h3⟩ := hsame k a (by omega) ha
      rw [hk] at h1
      cases h1
      exact ⟨a, List.mem_of_getElem? ha, h3⟩
    refine ⟨⟨g', cap', ar', rfl, ⟨?_, ?_, hV.data, fun a' ha' => ?_, hV.dist, fun a' ha' he => hV.drow a' ha' g' he rfl, hV.lt.2, by omega, ?_, fun a' ha' he => ?_⟩, hl', fun k a hk => hsame k a (List.getElem?_eq_some_iff.1 hk).1 hk⟩, x2⟩
    · rw [hl']; exact hV.heap
    · have := hV.row; rw [hl'] at this ⊢; exact this
    · obtain ⟨a, ha, h9⟩ := hall a' ha'
      rw [h9.2.2.2.2]
      exact h.len a ha
    · have := hV.row.lt g' rfl; omega
    · have := (hV.data a' ha').lt _ he; omega
theorem countG_ok {w : World} {hb B : Nat} {size : Int} {g cap : Nat} {ar : List Arr} (h : HeapG w hb B size g cap ar) :
    callD Try.prog 17 #[.pointer (some ⟨hb, 0, none⟩)] w fun q w' => q = i64 (ar.length : Int) ∧ w' = w := by
  apply F17_wp
  unfold F17_den
  exact ⟨.inl ⟨_, rfl⟩, ldB h.heap.boxed (by first | exact fa_37_0 | exact fa_37_1 | exact fa_37_2 | exact fa_37_3 | exact fa_37_4 | exact fa_44_0 | exact fa_44_1 | exact fa_44_2 | exact fa_44_3 | exact fa_44_4 | exact fa_59_0 | exact fa_59_3 | exact fa_59_4 | exact fa_64_0 | exact fa_64_1 | exact fa_64_2 | exact fa_64_3 | exact fa_64_4 | exact fa_64_5 | exact fa_74_0 | exact fa_74_1 | exact fa_93_0) (by first | exact l1_21 | exact l1_22 | exact l1_23 | exact l1_29 | exact l1_3 | exact l1_35 | exact l1_4 | exact l1_5 | exact l1_61 | exact l1_62 | exact l1_72 | exact l1_9 | exact l1_91) rfl (V_ln_72.2 ⟨rfl, rfl⟩)⟩
end Go.Proofs.Ytgjmpnngheohbaa
namespace Go.Proofs.Ytgjmpnngheohbaa
open Go.Vc
theorem Wk.push (st who : Int) (ar : List Arr) (a : Arr) (h : st = 36864) : Wk st who ar (ar ++ [a]) :=
  ⟨by simp, fun hn => absurd h hn, fun k b hk => ⟨b, by rw [List.getElem?_append_left (List.getElem?_eq_some_iff.1 hk).1]; exact hk, .inl ⟨rfl, rfl, rfl, rfl, rfl⟩⟩⟩
theorem RoomG.push {w w' : World} {rb hb B : Nat} {size : Int} {g cap g' cap' : Nat} {ar : List Arr} {pub sec : Value} {tp ts : List Int} (h : RoomG w rb hb B size g cap ar pub sec tp ts) {a : Arr} (hh : HeapG w' hb B size g' cap' (ar ++ [a])) (hn : ∀ x, a.dv.ownBlock = some x → w.heap.size ≤ x) (hg : g' = g ∨ w.heap.size ≤ g') (hf : Fr (fun i => i = hb ∨ i = g) w w') :
    RoomG w' rb hb B size g' cap' (ar ++ [a]) pub sec tp ts := by
  have hlt := h.lt
  have hhl := h.h.lt
  have hc := h.h.cap
  have pb : ∀ x, pub.ownBlock = some x → B ≤ x ∧ x < w.heap.size := fun x hx => h.qp.lt x hx
  have sb : ∀ x, sec.ownBlock = some x → B ≤ x ∧ x < w.heap.size := fun x hx => h.qs.lt x hx
  have hrl := h.room.lt
  have hhl2 := h.h.heap.lt
  refine ⟨hf.blk h.room (fun he => he.elim hlt (h.fresh rb (.inl rfl)).1), hh, hf.own h.qp fun i hi he => ?_, hf.own h.qs fun i hi he => ?_, h.lp, h.ls, h.ne, fun b hb' x hx he => ?_, fun b hb' x hx he => ?_, fun he => ?_, fun he => ?_, hlt, fun y hy => ⟨?_, fun b hb' he => ?_, (h.fresh y hy).2.2⟩⟩
  · rcases he with rfl | rfl
    · exact (h.fresh _ (.inr rfl)).2.2.1 hi
    · exact h.gp hi
  · rcases he with rfl | rfl
    · exact (h.fresh _ (.inr rfl)).2.2.2 hi
    · exact h.gs hi
  · rcases List.mem_append.1 hb' with hb' | hb'
    · exact h.np b hb' x hx he
    · obtain rfl := List.mem_singleton.1 hb'
      have := hn x hx; have := pb x he; omega
  · rcases List.mem_append.1 hb' with hb' | hb'
    · exact h.ns b hb' x hx he
    · obtain rfl := List.mem_singleton.1 hb'
      have := hn x hx; have := sb x he; omega
  · rcases hg with rfl | hg
    · exact h.gp he
    · have := pb _ he; omega
  · rcases hg with rfl | hg
    · exact h.gs he
    · have := sb _ he; omega
  · have := (h.fresh y hy).1
    rcases hy with rfl | rfl <;> omega
  · rcases List.mem_append.1 hb' with hb' | hb'
    · exact (h.fresh y hy).2.1 b hb' he
    · obtain rfl := List.mem_singleton.1 hb'
      have := hn y he
      rcases hy with rfl | rfl <;> omega
section
variable {w : World} {rb hb B : Nat} {size : Int} {g cap : Nat} {ar : List Arr} {pub sec av : Value} {tp ts : List Int}
set_option maxHeartbeats 1600000 in
theorem makeSv_ok (h : RoomG w rb hb B size g cap ar pub sec tp ts) (h2 : 2 ≤ ar.length) (hs : 0 ≤ size ∧ size ≤ 1000) {who sb n : Int} (hsb : sb = 0 ∨ sb = 1 ∨ sb = 4) (hav : SliceIs w av 1 1 [i64 n]) :
    callD Try.prog 25 #[svc rb who 3 sb av] w fun q w' => SvPost w rb hb B size g ar pub sec who q w' := by
  apply F25_wp
  unfold F25_den
  refine bxK fun w1 hb1 x1 => ?_
  refine ldB hb1.boxed (by first | exact fa_37_0 | exact fa_37_1 | exact fa_37_2 | exact fa_37_3 | exact fa_37_4 | exact fa_44_0 | exact fa_44_1 | exact fa_44_2 | exact fa_44_3 | exact fa_44_4 | exact fa_59_0 | exact fa_59_3 | exact fa_59_4 | exact fa_64_0 | exact fa_64_1 | exact fa_64_2 | exact fa_64_3 | exact fa_64_4 | exact fa_64_5 | exact fa_74_0 | exact fa_74_1 | exact fa_93_0) (by first | exact l1_21 | exact l1_22 | exact l1_23 | exact l1_29 | exact l1_3 | exact l1_35 | exact l1_4 | exact l1_5 | exact l1_61 | exact l1_62 | exact l1_72 | exact l1_9 | exact l1_91) rfl ?_
  refine ldx xa_62 l1_3 (hav.ext x1) (by omega) (by omega) rfl ?_
  refine ldA hb1.boxed la_64 rfl ?_
  refine ldB hb1.boxed (by first | exact fa_37_0 | exact fa_37_1 | exact fa_37_2 | exact fa_37_3 | exact fa_37_4 | exact fa_44_0 | exact fa_44_1 | exact fa_44_2 | exact fa_44_3 | exact fa_44_4 | exact fa_59_0 | exact fa_59_3 | exact fa_59_4 | exact fa_64_0 | exact fa_64_1 | exact fa_64_2 | exact fa_64_3 | exact fa_64_4 | exact fa_64_5 | exact fa_74_0 | exact fa_74_1 | exact fa_93_0) (by first | exact l1_21 | exact l1_22 | exact l1_23 | exact l1_29 | exact l1_3 | exact l1_35 | exact l1_4 | exact l1_5 | exact l1_61 | exact l1_62 | exact l1_72 | exact l1_9 | exact l1_91) rfl ?_
  refine ldB hb1.boxed (by first | exact fa_37_0 | exact fa_37_1 | exact fa_37_2 | exact fa_37_3 | exact fa_37_4 | exact fa_44_0 | exact fa_44_1 | exact fa_44_2 | exact fa_44_3 | exact fa_44_4 | exact fa_59_0 | exact fa_59_3 | exact fa_59_4 | exact fa_64_0 | exact fa_64_1 | exact fa_64_2 | exact fa_64_3 | exact fa_64_4 | exact fa_64_5 | exact fa_74_0 | exact fa_74_1 | exact fa_93_0) (by first | exact l1_21 | exact l1_22 | exact l1_23 | exact l1_29 | exact l1_3 | exact l1_35 | exact l1_4 | exact l1_5 | exact l1_61 | exact l1_62 | exact l1_72 | exact l1_9 | exact l1_91) rfl ?_
  refine (shows_ok (rb := rb) (who := who) (a := 3) (b := sb) (av := av)).mono fun _ w2 x2 => ?_
  have X2 := x1.trans x2
  refine V_lss.2 ?_
  by_cases hn0 : n < 0
  · simp only [hn0, gd_tf, pickD_iff, ifD_true, reduceIte, decide_true]
    exact svSame h X2 rfl
  simp only [hn0, V_gtr, gd_f, pickD_iff, reduceIte, Bool.false_eq_true, decide_false]
  by_cases hn1 : n > 64
  · simp only [hn1, ifD_true, decide_true]
    exact svSame h X2 rfl
  simp only [hn1, ifD_false, decide_false]
  obtain ⟨n, rfl⟩ : ∃ m : Nat, n = m := ⟨n.toNat, by omega⟩
  have D2 : Ext w2 w2.drew := (Ext.refl _).drew
  have hlt := h.lt
  have hc := h.h.cap
  have hhl := h.h.heap.lt
  have s1 := x1.size
  have s2 := x2.size
  have hb2 := hb1.ext x2
  have h2' := h.ext X2
  have hS : ∀ w', Fr (fun i => i = hb ∨ i = g) w2 w' → Blk w' w.heap.size (svc rb who 3 sb av).cells.toList 64 := fun w' hw => hw.blk hb2 (by omega)
  have hR : ∀ w', Fr (fun i => i = hb ∨ i = g) w2 w' → Blk w' rb [.pointer (some ⟨hb, 0, none⟩), .slice none 0 0, .slice none 0 0, pub, sec] 59 := fun w' hw => hw.blk h2'.room (fun he => he.elim hlt (h.fresh rb (.inl rfl)).1)
  refine drawD.mk' (fun w' => Fr (fun i => i = hb ∨ i = g) w2 w') (Fr.of_ext D2) ?_
  refine yfB (fun w' hw => (hS w' hw).boxed) (by first | exact fa_37_0 | exact fa_37_1 | exact fa_37_2 | exact fa_37_3 | exact fa_37_4 | exact fa_44_0 | exact fa_44_1 | exact fa_44_2 | exact fa_44_3 | exact fa_44_4 | exact fa_59_0 | exact fa_59_3 | exact fa_59_4 | exact fa_64_0 | exact fa_64_1 | exact fa_64_2 | exact fa_64_3 | exact fa_64_4 | exact fa_64_5 | exact fa_74_0 | exact fa_74_1 | exact fa_93_0) (by first | exact l1_21 | exact l1_22 | exact l1_23 | exact l1_29 | exact l1_3 | exact l1_35 | exact l1_4 | exact l1_5 | exact l1_61 | exact l1_62 | exact l1_72 | exact l1_9 | exact l1_91) rfl ⟨.inl ⟨_, rfl⟩, ?_⟩
  refine yfB (fun w' hw => (hR w' hw).boxed) (by first | exact fa_37_0 | exact fa_37_1 | exact fa_37_2 | exact fa_37_3 | exact fa_37_4 | exact fa_44_0 | exact fa_44_1 | exact fa_44_2 | exact fa_44_3 | exact fa_44_4 | exact fa_59_0 | exact fa_59_3 | exact fa_59_4 | exact fa_64_0 | exact fa_64_1 | exact fa_64_2 | exact fa_64_3 | exact fa_64_4 | exact fa_64_5 | exact fa_74_0 | exact fa_74_1 | exact fa_93_0) (by first | exact l1_21 | exact l1_22 | exact l1_23 | exact l1_29 | exact l1_3 | exact l1_35 | exact l1_4 | exact l1_5 | exact l1_61 | exact l1_62 | exact l1_72 | exact l1_9 | exact l1_91) rfl ?_
  refine yfB (fun w' hw => (hS w' hw).boxed) (by first | exact fa_37_0 | exact fa_37_1 | exact fa_37_2 | exact fa_37_3 | exact fa_37_4 | exact fa_44_0 | exact fa_44_1 | exact fa_44_2 | exact fa_44_3 | exact fa_44_4 | exact fa_59_0 | exact fa_59_3 | exact fa_59_4 | exact fa_64_0 | exact fa_64_1 | exact fa_64_2 | exact fa_64_3 | exact fa_64_4 | exact fa_64_5 | exact fa_74_0 | exact fa_74_1 | exact fa_93_0) (by first | exact l1_21 | exact l1_22 | exact l1_23 | exact l1_29 | exact l1_3 | exact l1_35 | exact l1_4 | exact l1_5 | exact l1_61 | exact l1_62 | exact l1_72 | exact l1_9 | exact l1_91) rfl ?_
  refine yfB (fun w' hw => (hS w' hw).boxed) (by first | exact fa_37_0 | exact fa_37_1 | exact fa_37_2 | exact fa_37_3 | exact fa_37_4 | exact fa_44_0 | exact fa_44_1 | exact fa_44_2 | exact fa_44_3 | exact fa_44_4 | exact fa_59_0 | exact fa_59_3 | exact fa_59_4 | exact fa_64_0 | exact fa_64_1 | exact fa_64_2 | exact fa_64_3 | exact fa_64_4 | exact fa_64_5 | exact fa_74_0 | exact fa_74_1 | exact fa_93_0) (by first | exact l1_21 | exact l1_22 | exact l1_23 | exact l1_29 | exact l1_3 | exact l1_35 | exact l1_4 | exact l1_5 | exact l1_61 | exact l1_62 | exact l1_72 | exact l1_9 | exact l1_91) rfl ?_
  refine yfB (fun w' hw => (hS w' hw).boxed) (by first | exact fa_37_0 | exact fa_37_1 | exact fa_37_2 | exact fa_37_3 | exact fa_37_4 | exact fa_44_0 | exact fa_44_1 | exact fa_44_2 | exact fa_44_3 | exact fa_44_4 | exact fa_59_0 | exact fa_59_3 | exact fa_59_4 | exact fa_64_0 | exact fa_64_1 | exact fa_64_2 | exact fa_64_3 | exact fa_64_4 | exact fa_64_5 | exact fa_74_0 | exact fa_74_1 | exact fa_93_0) (by first | exact l1_21 | exact l1_22 | exact l1_23 | exact l1_29 | exact l1_3 | exact l1_35 | exact l1_4 | exact l1_5 | exact l1_61 | exact l1_62 | exact l1_72 | exact l1_9 | exact l1_91) rfl ?_
  refine yieldS.ok (fun w' _ => r_and) ?_
  refine yfB (fun w' hw => (hS w' hw).boxed) (by first | exact fa_37_0 | exact fa_37_1 | exact fa_37_2 | exact fa_37_3 | exact fa_37_4 | exact fa_44_0 | exact fa_44_1 | exact fa_44_2 | exact fa_44_3 | exact fa_44_4 | exact fa_59_0 | exact fa_59_3 | exact fa_59_4 | exact fa_64_0 | exact fa_64_1 | exact fa_64_2 | exact fa_64_3 | exact fa_64_4 | exact fa_64_5 | exact fa_74_0 | exact fa_74_1 | exact fa_93_0) (by first | exact l1_21 | exact l1_22 | exact l1_23 | exact l1_29 | exact l1_3 | exact l1_35 | exact l1_4 | exact l1_5 | exact l1_61 | exact l1_62 | exact l1_72 | exact l1_9 | exact l1_91) rfl ?_
  refine yieldS.ok (fun w' _ => r_geq) ?_
  have h3 := h2'.ext D2
  have hlife : 0 ≤ IntKind.i64.wrap (BitVec.ofInt IntKind.i64.bits sb &&& BitVec.ofInt IntKind.i64.bits 3).toNat ∧ IntKind.i64.wrap (BitVec.ofInt IntKind.i64.bits sb &&& BitVec.ofInt IntKind.i64.bits 3).toNat ≤ 2 := by
    rcases hsb with rfl | rfl | rfl <;> decide
  refine (allocG_ok h3.h h2 hs hlife (n := n) (by omega)).mono fun q w4 hq => ?_
  rcases hq with ⟨rfl, x4⟩ | ⟨g', cap', dv, rfl, hh, hdv, hg, hf⟩
  · refine ⟨Fr.of_ext (D2.trans x4), ?_⟩
    refine yieldS.ok (fun w' _ => r_ext0) ?_
    refine yieldS.ok (fun w' _ => r_ext1) ?_
    refine V_not.2 (ifD_true.2 ?_)
    exact svSame h ((X2.trans D2).trans x4) rfl
  · have f24 : Fr (fun i => i = hb ∨ i = g) w2 w4 := (Fr.of_ext (S := fun i => i = hb ∨ i = g) D2).trans hf fun _ _ h => h
    refine ⟨f24, ?_⟩
    refine yieldS.ok (fun w' _ => r_ext0) ?_
    refine yieldS.ok (fun w' _ => r_ext1) ?_
    refine V_not.2 (ifD_false.2 ?_)
    refine V.ok (r_convI Try.underlying3 Try.underlying21) ?_
    have F : Fr (MuG rb hb g ar pub sec) w w4 := (Fr.of_ext (S := MuG rb hb g ar pub sec) X2).trans f24 fun i _ hi => hi.elim (fun e => .inr (.inl e)) fun e => .inr (.inr (.inl e))
    exact ⟨_, 36864, g', cap', _, pub, sec, tp, ts, rfl, h3.push hh hdv hg hf, Wk.push _ _ _ _ rfl, F⟩
end
end Go.Proofs.Ytgjmpnngheohbaa
namespace Go.Proofs.Ytgjmpnngheohbaa
open Go.Vc
theorem sv27_ok {w : World} : callD Try.prog 21 #[i64 27] w fun r w' => r = i64 1 ∧ w' = w := by
  apply F21_wp
  unfold F21_den
  refine ⟨fun v w' => v = .bool true ∧ w' = w, ?_, ?_⟩
  · simp only [V_eqlI, Int.reduceEq, decide_false, decide_true, ifD_true]
    exact ⟨trivial, trivial⟩
  rintro _ w' ⟨rfl, hw⟩ _
  have hw := hw.symm; subst hw
  refine ifD_true.2 ?_
  exact ⟨rfl, rfl⟩
theorem sv28_ok {w : World} : callD Try.prog 21 #[i64 28] w fun r w' => r = i64 1 ∧ w' = w := by
  apply F21_wp
  unfold F21_den
  refine ⟨fun v w' => v = .bool true ∧ w' = w, ?_, ?_⟩
  · simp only [V_eqlI, Int.reduceEq, decide_false, decide_true, ifD_false]
    exact ⟨trivial, trivial⟩
  rintro _ w' ⟨rfl, hw⟩ _
  have hw := hw.symm; subst hw
  refine ifD_true.2 ?_
  exact ⟨rfl, rfl⟩
theorem sv29_ok {w : World} : callD Try.prog 21 #[i64 29] w fun r w' => r = i64 2 ∧ w' = w := by
  apply F21_wp
  unfold F21_den
  refine ⟨fun v w' => v = .bool false ∧ w' = w, ?_, ?_⟩
  · simp only [V_eqlI, Int.reduceEq, decide_false, ifD_false]
    exact ⟨trivial, trivial⟩
  rintro _ w' ⟨rfl, hw⟩ _
  have hw := hw.symm; subst hw
  refine ifD_false.2 ?_
  refine ⟨fun v w' => v = .bool true ∧ w' = w, ?_, ?_⟩
  · simp only [V_eqlI, Int.reduceEq, decide_false, decide_true, ifD_false]
    exact ⟨trivial, trivial⟩
  rintro _ w' ⟨rfl, hw⟩ _
  have hw := hw.symm; subst hw
  refine ifD_true.2 ?_
  exact ⟨rfl, rfl⟩
theorem sv30_ok {w : World} : callD Try.prog 21 #[i64 30] w fun r w' => r = i64 3 ∧ w' = w := by
  apply F21_wp
  unfold F21_den
  refine ⟨fun v w' => v = .bool false ∧ w' = w, ?_, ?_⟩
  · simp only [V_eqlI, Int.reduceEq, decide_false, ifD_false]
    exact ⟨trivial, trivial⟩
  rintro _ w' ⟨rfl, hw⟩ _
  have hw := hw.symm; subst hw
  refine ifD_false.2 ?_
  refine ⟨fun v w' => v = .bool false ∧ w' = w, ?_, ?_⟩
  · simp only [V_eqlI, Int.reduceEq, decide_false, ifD_false]
    exact ⟨trivial, trivial⟩
  rintro _ w' ⟨rfl, hw⟩ _
  have hw := hw.symm; subst hw
  refine ifD_false.2 ?_
  refine ⟨fun v w' => v = .bool true ∧ w' = w, ?_, ?_⟩
  · simp only [V_eqlI, Int.reduceEq, decide_false, decide_true, ifD_true]
    exact ⟨trivial, trivial⟩
  rintro _ w' ⟨rfl, hw⟩ _
  have hw := hw.symm; subst hw
  refine ifD_true.2 ?_
  exact ⟨rfl, rfl⟩
theorem sv31_ok {w : World} : callD Try.prog 21 #[i64 31] w fun r w' => r = i64 5 ∧ w' = w := by
  apply F21_wp
  unfold F21_den
  refine ⟨fun v w' => v = .bool false ∧ w' = w, ?_, ?_⟩
  · simp only [V_eqlI, Int.reduceEq, decide_false, ifD_false]
    exact ⟨trivial, trivial⟩
  rintro _ w' ⟨rfl, hw⟩ _
  have hw := hw.symm; subst hw
  refine ifD_false.2 ?_
  refine ⟨fun v w' => v = .bool false ∧ w' = w, ?_, ?_⟩
  · simp only [V_eqlI, Int.reduceEq, decide_false, ifD_false]
    exact ⟨trivial, trivial⟩
  rintro _ w' ⟨rfl, hw⟩ _
  have hw := hw.symm; subst hw
  refine ifD_false.2 ?_
  refine ⟨fun v w' => v = .bool false ∧ w' = w, ?_, ?_⟩
  · simp only [V_eqlI, Int.reduceEq, decide_false, ifD_false]
    exact ⟨trivial, trivial⟩
  rintro _ w' ⟨rfl, hw⟩ _
  have hw := hw.symm; subst hw
  refine ifD_false.2 ?_
  simp only [V_eqlI, Int.reduceEq, decide_false, decide_true, ifD_false, ifD_true]
  exact ⟨trivial, trivial⟩
theorem sv32_ok {w : World} : callD Try.prog 21 #[i64 32] w fun r w' => r = i64 5 ∧ w' = w := by
  apply F21_wp
  unfold F21_den
  refine ⟨fun v w' => v = .bool false ∧ w' = w, ?_, ?_⟩
  · simp only [V_eqlI, Int.reduceEq, decide_false, ifD_false]
    exact ⟨trivial, trivial⟩
  rintro _ w' ⟨rfl, hw⟩ _
  have hw := hw.symm; subst hw
  refine ifD_false.2 ?_
  refine ⟨fun v w' => v = .bool false ∧ w' = w, ?_, ?_⟩
  · simp only [V_eqlI, Int.reduceEq, decide_false, ifD_false]
    exact ⟨trivial, trivial⟩
  rintro _ w' ⟨rfl, hw⟩ _
  have hw := hw.symm; subst hw
  refine ifD_false.2 ?_
  refine ⟨fun v w' => v = .bool false ∧ w' = w, ?_, ?_⟩
  · simp only [V_eqlI, Int.reduceEq, decide_false, ifD_false]
    exact ⟨trivial, trivial⟩
  rintro _ w' ⟨rfl, hw⟩ _
  have hw := hw.symm; subst hw
  refine ifD_false.2 ?_
  simp only [V_eqlI, Int.reduceEq, decide_false, decide_true, ifD_false, ifD_true]
  exact ⟨trivial, trivial⟩
theorem sv36_ok {w : World} : callD Try.prog 21 #[i64 36] w fun r w' => r = i64 3 ∧ w' = w := by
  apply F21_wp
  unfold F21_den
  refine ⟨fun v w' => v = .bool false ∧ w' = w, ?_, ?_⟩
  · simp only [V_eqlI, Int.reduceEq, decide_false, ifD_false]
    exact ⟨trivial, trivial⟩
  rintro _ w' ⟨rfl, hw⟩ _
  have hw := hw.symm; subst hw
  refine ifD_false.2 ?_
  refine ⟨fun v w' => v = .bool false ∧ w' = w, ?_, ?_⟩
  · simp only [V_eqlI, Int.reduceEq, decide_false, ifD_false]
    exact ⟨trivial, trivial⟩
  rintro _ w' ⟨rfl, hw⟩ _
  have hw := hw.symm; subst hw
  refine ifD_false.2 ?_
  refine ⟨fun v w' => v = .bool true ∧ w' = w, ?_, ?_⟩
  · simp only [V_eqlI, Int.reduceEq, decide_false, decide_true, ifD_false]
    exact ⟨trivial, trivial⟩
  rintro _ w' ⟨rfl, hw⟩ _
  have hw := hw.symm; subst hw
  refine ifD_true.2 ?_
  exact ⟨rfl, rfl⟩
theorem rv27_ok {w : World} : callD Try.prog 15 #[i64 27] w fun r w' => r = i64 1 ∧ w' = w := by
  apply F15_wp
  unfold F15_den
  refine ⟨fun v w' => v = .bool true ∧ w' = w, ?_, ?_⟩
  · simp only [V_eqlI, Int.reduceEq, decide_false, decide_true, ifD_true]
    exact ⟨trivial, trivial⟩
  rintro _ w' ⟨rfl, hw⟩ _
  have hw := hw.symm; subst hw
  refine ifD_true.2 ?_
  exact ⟨rfl, rfl⟩
theorem rv28_ok {w : World} : callD Try.prog 15 #[i64 28] w fun r w' => r = i64 1 ∧ w' = w := by
  apply F15_wp
  unfold F15_den
  refine ⟨fun v w' => v = .bool true ∧ w' = w, ?_, ?_⟩
  · simp only [V_eqlI, Int.reduceEq, decide_false, decide_true, ifD_false]
    exact ⟨trivial, trivial⟩
  rintro _ w' ⟨rfl, hw⟩ _
  have hw := hw.symm; subst hw
  refine ifD_true.2 ?_
  exact ⟨rfl, rfl⟩
theorem rv29_ok {w : World} : callD Try.prog 15 #[i64 29] w fun r w' => r = i64 2 ∧ w' = w := by
  apply F15_wp
  unfold F15_den
  refine ⟨fun v w' => v = .bool false ∧ w' = w, ?_, ?_⟩
  · simp only [V_eqlI, Int.reduceEq, decide_false, ifD_false]
    exact ⟨trivial, trivial⟩
  rintro _ w' ⟨rfl, hw⟩ _
  have hw := hw.symm; subst hw
  refine ifD_false.2 ?_
  refine ⟨fun v w' => v = .bool true ∧ w' = w, ?_, ?_⟩
  · simp only [V_eqlI, Int.reduceEq, decide_false, decide_true, ifD_false]
    exact ⟨trivial, trivial⟩
  rintro _ w' ⟨rfl, hw⟩ _
  have hw := hw.symm; subst hw
  refine ifD_true.2 ?_
  exact ⟨rfl, rfl⟩
theorem rv30_ok {w : World} : callD Try.prog 15 #[i64 30] w fun r w' => r = i64 3 ∧ w' = w := by
  apply F15_wp
  unfold F15_den
  refine ⟨fun v w' => v = .bool false ∧ w' = w, ?_, ?_⟩
  · simp only [V_eqlI, Int.reduceEq, decide_false, ifD_false]
    exact ⟨trivial, trivial⟩
  rintro _ w' ⟨rfl, hw⟩ _
  have hw := hw.symm; subst hw
  refine ifD_false.2 ?_
  refine ⟨fun v w' => v = .bool false ∧ w' = w, ?_, ?_⟩
  · simp only [V_eqlI, Int.reduceEq, decide_false, ifD_false]
    exact ⟨trivial, trivial⟩
  rintro _ w' ⟨rfl, hw⟩ _
  have hw := hw.symm; subst hw
  refine ifD_false.2 ?_
  refine ⟨fun v w' => v = .bool true ∧ w' = w, ?_, ?_⟩
  · simp only [V_eqlI, Int.reduceEq, decide_false, decide_true, ifD_true]
    exact ⟨trivial, trivial⟩
  rintro _ w' ⟨rfl, hw⟩ _
  have hw := hw.symm; subst hw
  refine ifD_true.2 ?_
  exact ⟨rfl, rfl⟩
theorem rv31_ok {w : World} : callD Try.prog 15 #[i64 31] w fun r w' => r = i64 5 ∧ w' = w := by
  apply F15_wp
  unfold F15_den
  refine ⟨fun v w' => v = .bool false ∧ w' = w, ?_, ?_⟩
  · simp only [V_eqlI, Int.reduceEq, decide_false, ifD_false]
    exact ⟨trivial, trivial⟩
  rintro _ w' ⟨rfl, hw⟩ _
  have hw := hw.symm; subst hw
  refine ifD_false.2 ?_
  refine ⟨fun v w' => v = .bool false ∧ w' = w, ?_, ?_⟩
  · simp only [V_eqlI, Int.reduceEq, decide_false, ifD_false]
    exact ⟨trivial, trivial⟩
  rintro _ w' ⟨rfl, hw⟩ _
  have hw := hw.symm; subst hw
  refine ifD_false.2 ?_
  refine ⟨fun v w' => v = .bool false ∧ w' = w, ?_, ?_⟩
  · simp only [V_eqlI, Int.reduceEq, decide_false, ifD_false]
    exact ⟨trivial, trivial⟩
  rintro _ w' ⟨rfl, hw⟩ _
  have hw := hw.symm; subst hw
  refine ifD_false.2 ?_
  simp only [V_eqlI, Int.reduceEq, decide_false, decide_true, ifD_false, ifD_true]
  exact ⟨trivial, trivial⟩
theorem rv32_ok {w : World} : callD Try.prog 15 #[i64 32] w fun r w' => r = i64 5 ∧ w' = w := by
  apply F15_wp
  unfold F15_den
  refine ⟨fun v w' => v = .bool false ∧ w' = w, ?_, ?_⟩
  · simp only [V_eqlI, Int.reduceEq, decide_false, ifD_false]
    exact ⟨trivial, trivial⟩
  rintro _ w' ⟨rfl, hw⟩ _
  have hw := hw.symm; subst hw
  refine ifD_false.2 ?_
  refine ⟨fun v w' => v = .bool false ∧ w' = w, ?_, ?_⟩
  · simp only [V_eqlI, Int.reduceEq, decide_false, ifD_false]
    exact ⟨trivial, trivial⟩
  rintro _ w' ⟨rfl, hw⟩ _
  have hw := hw.symm; subst hw
  refine ifD_false.2 ?_
  refine ⟨fun v w' => v = .bool false ∧ w' = w, ?_, ?_⟩
  · simp only [V_eqlI, Int.reduceEq, decide_false, ifD_false]
    exact ⟨trivial, trivial⟩
  rintro _ w' ⟨rfl, hw⟩ _
  have hw := hw.symm; subst hw
  refine ifD_false.2 ?_
  simp only [V_eqlI, Int.reduceEq, decide_false, decide_true, ifD_false, ifD_true]
  exact ⟨trivial, trivial⟩
theorem rv36_ok {w : World} : callD Try.prog 15 #[i64 36] w fun r w' => r = i64 3 ∧ w' = w := by
  apply F15_wp
  unfold F15_den
  refine ⟨fun v w' => v = .bool false ∧ w' = w, ?_, ?_⟩
  · simp only [V_eqlI, Int.reduceEq, decide_false, ifD_false]
    exact ⟨trivial, trivial⟩
  rintro _ w' ⟨rfl, hw⟩ _
  have hw := hw.symm; subst hw
  refine ifD_false.2 ?_
  refine ⟨fun v w' => v = .bool false ∧ w' = w, ?_, ?_⟩
  · simp only [V_eqlI, Int.reduceEq, decide_false, ifD_false]
    exact ⟨trivial, trivial⟩
  rintro _ w' ⟨rfl, hw⟩ _
  have hw := hw.symm; subst hw
  refine ifD_false.2 ?_
  refine ⟨fun v w' => v = .bool true ∧ w' = w, ?_, ?_⟩
  · simp only [V_eqlI, Int.reduceEq, decide_false, decide_true, ifD_false]
    exact ⟨trivial, trivial⟩
  rintro _ w' ⟨rfl, hw⟩ _
  have hw := hw.symm; subst hw
  refine ifD_true.2 ?_
  exact ⟨rfl, rfl⟩
set_option maxHeartbeats 1600000 in
theorem serveG_ok {op : Int} {nn f : Nat} (hnn : nn ≤ 5) (hsv : ∀ {w : World}, callD Try.prog 21 #[i64 op] w fun r w' => r = i64 (nn : Int) ∧ w' = w) (hf : (op = 27 ∧ f = 25) ∨ (op = 28 ∧ f = 26) ∨ (op = 29 ∧ f = 27) ∨ (op = 30 ∧ f = 28) ∨ (op = 31 ∧ f = 29) ∨ (op = 32 ∧ f = 30) ∨ (op = 36 ∧ f = 31)) {w : World} {rb : Nat} {who sa sb : Int} {av : Value} {xs : List Int} (hxs : SliceIs w av 1 nn (xs.map i32)) (hl : xs.length = nn) (hsm : ∀ z ∈ xs, 0 ≤ z ∧ z ≤ 1000000) {Rr : Value → World → Prop}
    (hk : ∀ w1 av', Ext w w1 → w1.ownsRow w.heap.size 3 1 av' nn (xs.map i64) → callD Try.prog f #[svc rb who sa sb av'] w1 (fun r w' => ∃ p q, r = .tuple #[p, q] ∧ Rr (.tuple #[p, q]) w')) :
    callD Try.prog 12 #[.pointer (some ⟨rb, 0, none⟩), .pointer none, i64 who, i64 op, i64 sa, i64 sb, av] w Rr := by
  refine F12_wp ?_
  have key : ∀ {R : Value → World → Prop}, (∀ w1 av', Ext w w1 → w1.ownsRow w.heap.size 3 1 av' nn (xs.map i64) → callD Try.prog f #[svc rb who sa sb av'] w1 (fun r w' => ∃ p q, r = .tuple #[p, q] ∧ R (.tuple #[p, q]) w')) → F12_den (.pointer (some ⟨rb, 0, none⟩)) (.pointer none) (i64 who) (i64 op) (i64 sa) (i64 sb) av w R := by
    intro R hk
    unfold F12_den
    refine V.ok (r_eqPtr Try.underlying23) ?_
    simp only [gd_f]
    refine lnx (by first | exact xa_22 | exact xa_35 | exact xa_41 | exact xa_62 | exact xa_72 | exact xa_91) hxs ?_
    refine hsv.mono fun r w' ⟨hr, hw⟩ => ?_
    subst hr; have hw := hw.symm; subst hw
    refine V_neqI.2 ?_
    simp only [show decide (((nn : Nat) : Int) ≠ (nn : Int)) = false by simp, pickD_iff, Bool.false_eq_true, reduceIte]
    refine ifD_false.2 ?_
    refine bld bd_64 [(0, .pointer (some ⟨rb, 0, none⟩)), (1, .pointer none), (2, i64 who), (3, i64 sa), (4, i64 sb)] rfl rfl ?_
    refine asK (by first | exact sa_37 | exact sa_42 | exact sa_44 | exact sa_64) rfl rfl fun w1 hb1 x1 => ?_
    refine lnx (by first | exact xa_22 | exact xa_35 | exact xa_41 | exact xa_62 | exact xa_72 | exact xa_91) (hxs.ext x1) ?_
    refine ⟨fun v w' => ∃ (i : Nat) (ov : Value), v = i64 i ∧ i ≤ nn ∧ Ext w w' ∧ Blk w' w.heap.size [.pointer (some ⟨rb, 0, none⟩), .pointer none, i64 who, i64 sa, i64 sb, ov] 64 ∧ w'.ownsRow w.heap.size 3 1 ov i ((xs.take i).map i64) ∧ ov.ownBlock ≠ some w.heap.size,
      fun v _ => nn - (RowKit.intOf v).toNat, ⟨0, _, rfl, Nat.zero_le _, x1, hb1, by rw [List.take_zero]; exact ⟨rfl, .inl ⟨rfl, rfl⟩⟩, fun h => by cases h⟩, ?_⟩
    rintro _ w2 ⟨i, ov, rfl, hi, x2, hb2, ho2, hne2⟩ _
    refine V_lss.2 (ifD_dec (fun hlt => ?_) fun hge => ?_)
    · obtain ⟨z, hz⟩ := ex_get (l := xs) (j := i) (by omega)
      have hzb := hsm z (List.mem_of_getElem? hz)
      refine ldx xa_35 l1_21 (hxs.ext x2) (by omega) (by omega) (by simp [hz] : (xs.map i32)[((i : Nat) : Int).toNat]? = some (i32 z)) ?_
      refine ldB hb2.boxed (by first | exact fa_37_0 | exact fa_37_1 | exact fa_37_2 | exact fa_37_3 | exact fa_37_4 | exact fa_44_0 | exact fa_44_1 | exact fa_44_2 | exact fa_44_3 | exact fa_44_4 | exact fa_59_0 | exact fa_59_3 | exact fa_59_4 | exact fa_64_0 | exact fa_64_1 | exact fa_64_2 | exact fa_64_3 | exact fa_64_4 | exact fa_64_5 | exact fa_74_0 | exact fa_74_1 | exact fa_93_0) (by first | exact l1_21 | exact l1_22 | exact l1_23 | exact l1_29 | exact l1_3 | exact l1_35 | exact l1_4 | exact l1_5 | exact l1_61 | exact l1_62 | exact l1_72 | exact l1_9 | exact l1_91) rfl ?_
      refine V.ok (r_convI Try.underlying21 Try.underlying3) ?_
      rw [wrap_id (by omega) (by omega)]
      refine bsl (by first | exact xe_22 | exact xe_35 | exact xe_62) [i64 z] rfl rfl (by simp) rfl fun v3 w3 ho3 x3 => ?_
      have X3 := x2.trans x3
      have hb3 := hb2.ext x3
      refine apL (by first | exact xe_22 | exact xe_35 | exact xe_62) (x3.own ho2) ho3 (by simp) (by simp [oneC]) (by omega) (by unfold maxLen; omega) X3.size fun g cap w4 ho4 hg4 hlies => ?_
      have f4 : Fr (fun j => ov.ownBlock = some j) w3 w4 := Fr.of_grown hg4 fun k hk => hk
      have hb4 := f4.blk hb3 hne2
      have hbl := hb3.lt
      have hgne : g ≠ w.heap.size := by
        rcases hlies with h | h
        · intro he; exact hne2 (he ▸ h)
        · omega
      refine stF (by first | exact fa_37_0 | exact fa_37_1 | exact fa_37_2 | exact fa_37_3 | exact fa_37_4 | exact fa_44_0 | exact fa_44_1 | exact fa_44_2 | exact fa_44_3 | exact fa_44_4 | exact fa_59_0 | exact fa_59_3 | exact fa_59_4 | exact fa_64_0 | exact fa_64_1 | exact fa_64_2 | exact fa_64_3 | exact fa_64_4 | exact fa_64_5 | exact fa_74_0 | exact fa_74_1 | exact fa_93_0) inf62 hb4 rfl (by simp) rfl (V_add.2 ?_)
      rw [wrap_id (by omega) (by omega), i64_succ]
      have f5 : Fr (fun j => j = w.heap.size) w4 (w4.setCell ⟨w.heap.size, 5, none⟩ (.slice (some ⟨g, 0, none⟩) (i + 1) cap)) := Fr.of_set rfl
      refine ⟨⟨i + 1, _, rfl, by omega, f5.ext (f4.ext X3 fun j hj => (ho2.lt j hj).1) (fun j hj => by omega), hb4.set 5 _, ?_, fun he => hgne (by cases he; rfl)⟩, by simp only [intOf_i64]; omega⟩
      have := f5.own ho4 fun j hj he => hgne (by cases hj; exact he)
      rw [List.take_add_one, hz]
      simpa using this
    · have hin : i = nn := by omega
      subst hin
      rw [List.take_of_length_le (by omega)] at ho2
      have fin := hk w2 ov x2 ho2
      rcases hf with ⟨rfl, rfl⟩ | ⟨rfl, rfl⟩ | ⟨rfl, rfl⟩ | ⟨rfl, rfl⟩ | ⟨rfl, rfl⟩ | ⟨rfl, rfl⟩ | ⟨rfl, rfl⟩ <;>
      · simp only [V_eqlI, Int.reduceEq, decide_false, decide_true, ifD_false, ifD_true]
        refine ldA hb2.boxed la_64 rfl ?_
        refine fin.mono fun r w3 ⟨p, q, hr, hR⟩ => ?_
        subst hr
        exact V_ext0.2 (V_ext1.2 hR)
  exact key hk

end Go.Proofs.Ytgjmpnngheohbaa
namespace Go.Proofs.Ytgjmpnngheohbaa
open Go.Vc
def ar0 : List Arr := [⟨-1, 3, 0, false, .slice none 0 0, []⟩, ⟨-1, 4, 0, false, .slice none 0 0, []⟩]
theorem heapNewG_ok {w : World} {size : Int} (h1 : 64 ≤ size) (h2 : size ≤ 4096) : callD Try.prog 19 #[i64 size] w fun r w' => (∃ hb, r = .tuple #[.pointer (some ⟨hb, 0, none⟩), i64 0] ∧ w.heap.size ≤ hb ∧ HeapG w' hb w.heap.size size w.heap.size 2 ar0) ∧ Ext w w' := by
  apply F19_wp
  unfold F19_den
  refine V_lss.2 ?_
  simp only [show ¬ size < 64 by omega, V_gtr, gd_f, pickD_iff, reduceIte, Bool.false_eq_true, decide_false]
  simp only [show ¬ size > 4096 by omega, ifD_false, decide_false]
  refine bld bd_37 [(0, i64 (-1)), (1, i64 3)] rfl rfl ?_
  refine bld bd_37 [(0, i64 (-1)), (1, i64 4)] rfl rfl ?_
  refine V.ok (v := .slice (some ⟨w.heap.size, 0, none⟩) 2 2) (w' := w.alloc (.cells (rowC ar0).toArray 37)) (by kernel_rfl) ?_
  have hab : Blk (w.alloc (.cells (rowC ar0).toArray 37)) w.heap.size (rowC ar0) 37 := by unfold Blk; rw [heap_alloc_new]
  have hx1 : Ext w (w.alloc (.cells (rowC ar0).toArray 37)) := (Ext.refl w).alloc _
  generalize w.alloc (.cells (rowC ar0).toArray 37) = w1 at hab hx1 ⊢
  refine bld bd_74 [(0, i64 size), (1, .slice (some ⟨w.heap.size, 0, none⟩) 2 2)] rfl rfl ?_
  refine bxK fun w2 hhb x2 => ?_
  have hl := hab.lt
  have hl2 := hhb.lt
  refine ⟨⟨_, rfl, by omega, ⟨hhb, own_blk (hab.ext x2) rfl (Nat.le_refl _) (by unfold maxLen; decide), fun a ha => ?_, fun a ha => ?_, fun i j a b x hi _ hx => ?_, fun a ha => ?_, by omega, by decide, by omega, fun a ha => ?_⟩⟩, hx1.trans x2⟩
  · simp only [ar0, List.mem_cons, List.not_mem_nil, or_false] at ha
    rcases ha with rfl | rfl <;> exact ⟨rfl, .inl ⟨rfl, rfl⟩⟩
  · simp only [ar0, List.mem_cons, List.not_mem_nil, or_false] at ha
    rcases ha with rfl | rfl <;> exact Nat.zero_le _
  · have ha := List.mem_of_getElem? hi
    simp only [ar0, List.mem_cons, List.not_mem_nil, or_false] at ha
    rcases ha with rfl | rfl <;> cases hx
  · simp only [ar0, List.mem_cons, List.not_mem_nil, or_false] at ha
    rcases ha with rfl | rfl <;> exact fun h => by cases h
  · simp only [ar0, List.mem_cons, List.not_mem_nil, or_false] at ha
    rcases ha with rfl | rfl <;> exact fun h => by cases h
theorem roomNewG_ok {w : World} {size : Int} (h1 : 64 ≤ size) (h2 : size ≤ 4096) : callD Try.prog 6 #[i64 size] w fun r w' => (∃ rb hb, r = .tuple #[.pointer (some ⟨rb, 0, none⟩), i64 0] ∧ w.heap.size ≤ rb ∧ w.heap.size ≤ hb ∧ RoomG w' rb hb w.heap.size size w.heap.size 2 ar0 (.slice none 0 0) (.slice none 0 0) [] []) ∧ Ext w w' := by
  apply F6_wp
  unfold F6_den
  refine (heapNewG_ok h1 h2).mono fun r w1 ⟨⟨hb, hr, hbw, hh⟩, x1⟩ => ?_
  subst hr
  refine V_ext0.2 (V_ext1.2 (V_neqI.2 ?_))
  simp only [ne_eq, not_true_eq_false, ifD_false, decide_false]
  refine bld bd_59 [(0, .pointer (some ⟨hb, 0, none⟩))] rfl rfl ?_
  refine bxK fun w2 hrb x2 => ?_
  have s1 := x1.size
  have hbl := hh.heap.lt
  have hgl := hh.cap
  have hne := hh.fresh.1
  have mem : ∀ a ∈ ar0, a.dv.ownBlock = none := fun a ha => by
    simp only [ar0, List.mem_cons, List.not_mem_nil, or_false] at ha
    rcases ha with rfl | rfl <;> rfl
  refine ⟨⟨_, hb, rfl, s1, hbw, ⟨hrb, hh.ext x2, ⟨rfl, .inl ⟨rfl, rfl⟩⟩, ⟨rfl, .inl ⟨rfl, rfl⟩⟩, by simp, by simp, fun x hx => (by cases hx), fun a ha x hx => (by rw [mem a ha] at hx; cases hx), fun a ha x hx => (by rw [mem a ha] at hx; cases hx), (fun h => by cases h), (fun h => by cases h), by omega, fun x hx => ⟨by rcases hx with rfl | rfl <;> omega, fun a ha h => (by rw [mem a ha] at h; cases h), (fun h => by cases h), (fun h => by cases h)⟩⟩⟩, x1.trans x2⟩
end Go.Proofs.Ytgjmpnngheohbaa
namespace Go.Proofs.Ytgjmpnngheohbaa
open Go.Vc
/-- An argument that is a slice of words. -/
def Args32 (w : World) (sv : Value) (l : List Int) : Prop := (sv = .slice none 0 0 ∧ l = []) ∨ ∃ ad c, sv = .slice (some ad) l.length c ∧ (0 < l.length → SliceIs w sv 1 l.length (l.map i32))
theorem Args32.ext {w w' : World} {sv : Value} {l : List Int} (h : Args32 w sv l) (hx : Ext w w') : Args32 w' sv l := by
  rcases h with h | ⟨ad, c, h1, h2⟩
  · exact .inl h
  · exact .inr ⟨ad, c, h1, fun h0 => (h2 h0).ext hx⟩
theorem Args32.one {w : World} {sv : Value} {l : List Int} (h : Args32 w sv l) : oneC sv = true := by
  rcases h with ⟨rfl, _⟩ | ⟨ad, c, rfl, _⟩ <;> rfl
/-- Steps that came in, whole. -/
def StepsArr (w : World) (v : Value) (n : Nat) : Prop := (∃ a c, v = .slice a n c) ∧ (0 < n → ∃ cs, SliceIs w v 7 n cs ∧ ∀ i, i < n → ∃ (z0 z1 z2 z3 : Int) (c4 c5 c6 : Value) (xs : List Int), (cs.drop (i * 7)).take 7 = [i64 z0, i64 z1, i64 z2, i64 z3, c4, c5, c6] ∧ oneC c5 = true ∧ oneC c6 = true ∧ Args32 w c4 xs)
theorem heapOfG_ok {w : World} {rb hb B : Nat} {size : Int} {g cap : Nat} {ar : List Arr} {pub sec : Value} {tp ts : List Int} (h : RoomG w rb hb B size g cap ar pub sec tp ts) : callD Try.prog 9 #[.pointer (some ⟨rb, 0, none⟩)] w fun r w' => r = .pointer (some ⟨hb, 0, none⟩) ∧ w' = w := by
  apply F9_wp
  unfold F9_den
  exact ⟨.inl ⟨_, rfl⟩, ldB h.room.boxed (by first | exact fa_37_0 | exact fa_37_1 | exact fa_37_2 | exact fa_37_3 | exact fa_37_4 | exact fa_44_0 | exact fa_44_1 | exact fa_44_2 | exact fa_44_3 | exact fa_44_4 | exact fa_59_0 | exact fa_59_3 | exact fa_59_4 | exact fa_64_0 | exact fa_64_1 | exact fa_64_2 | exact fa_64_3 | exact fa_64_4 | exact fa_64_5 | exact fa_74_0 | exact fa_74_1 | exact fa_93_0) (by first | exact l1_21 | exact l1_22 | exact l1_23 | exact l1_29 | exact l1_3 | exact l1_35 | exact l1_4 | exact l1_5 | exact l1_61 | exact l1_62 | exact l1_72 | exact l1_9 | exact l1_91) rfl ⟨rfl, rfl⟩⟩
theorem HeapG.fr {S : Nat → Prop} {w w' : World} {hb B : Nat} {size : Int} {g cap : Nat} {ar : List Arr} (h : HeapG w hb B size g cap ar) (hf : Fr S w w') (hn : ∀ i, S i → i ≠ hb ∧ i ≠ g ∧ ∀ a ∈ ar, a.dv.ownBlock ≠ some i) : HeapG w' hb B size g cap ar :=
  ⟨hf.blk h.heap fun hs => (hn _ hs).1 rfl, hf.own h.row fun i hi hs => (hn i hs).2.1 (by simpa [Value.ownBlock] using hi.symm), fun a ha => hf.own (h.data a ha) fun i hi hs => (hn i hs).2.2 a ha hi, h.len, h.dist, h.drow, by have := hf.size; have := h.lt; omega, h.cnt, h.fresh⟩
theorem SameA.trans {a b c : Arr} (h : SameA a b) (h' : SameA b c) : SameA a c :=
  ⟨h'.1.trans h.1, h'.2.1.trans h.2.1, h'.2.2.1.trans h.2.2.1, h'.2.2.2.1.trans h.2.2.2.1, h'.2.2.2.2.trans h.2.2.2.2⟩
theorem SameA.symm {a b : Arr} (h : SameA a b) : SameA b a := ⟨h.1.symm, h.2.1.symm, h.2.2.1.symm, h.2.2.2.1.symm, h.2.2.2.2.symm⟩
def opsV : Array Value := #[i64 27, i64 27, i64 30, i64 30, i64 31, i64 31, i64 29, i64 36, i64 32, i64 28]
/-- What a number's service does. -/
def Does (f nn : Nat) : Prop := ∀ {w : World} {rb hb B g cap : Nat} {ar : List Arr} {pub sec av : Value} {tp ts : List Int} {who sb : Int} (_ : RoomG w rb hb B 1000 g cap ar pub sec tp ts) (_ : 2 ≤ ar.length) (_ : sb = 0 ∨ sb = 1 ∨ sb = 4) (xs : List Int) (_ : xs.length = nn) (_ : ∀ w', Fr (MuG rb hb g ar pub sec) w w' → SliceIs w' av 1 nn (xs.map i64)),
  callD Try.prog f #[svc rb who 3 sb av] w fun q w' => SvPost w rb hb B 1000 g ar pub sec who q w'
theorem does27 : Does 25 1 := fun h h2 hs xs hl hva => match xs, hl with
  | [_], _ => makeSv_ok h h2 (by omega) hs (hva _ (Fr.refl _ _))
theorem does28 : Does 26 1 := fun h h2 hs xs hl hva => match xs, hl with
  | [_], _ => lengthG_ok h (hva _ (Fr.refl _ _))
theorem does29 : Does 27 2 := fun h h2 hs xs hl hva => match xs, hl with
  | [_, _], _ => getSv_ok h (hva _ (Fr.refl _ _))
theorem does30 : Does 28 3 := fun h h2 hs xs hl hva => match xs, hl with
  | [_, _, _], _ => putSv_ok h hva
theorem does31 : Does 29 5 := fun h h2 hs xs hl hva => match xs, hl with
  | [_, _, _, _, _], _ => copySv_ok h hva
theorem does32 : Does 30 5 := fun h h2 hs xs hl hva => match xs, hl with
  | [_, _, _, _, _], _ => sameSv_ok h (hva _ (Fr.refl _ _))
theorem does36 : Does 31 3 := fun h h2 hs xs hl hva => match xs, hl with
  | [_, _, _], _ => sendSv_ok h (hva _ (Fr.refl _ _))
def OpF (op : Int) (f : Nat) : Prop := (op = 27 ∧ f = 25) ∨ (op = 28 ∧ f = 26) ∨ (op = 29 ∧ f = 27) ∨ (op = 30 ∧ f = 28) ∨ (op = 31 ∧ f = 29) ∨ (op = 32 ∧ f = 30) ∨ (op = 36 ∧ f = 31)
def OpIs (op : Int) (nn f : Nat) : Prop := nn ≤ 5 ∧ (∀ {w : World}, callD Try.prog 15 #[i64 op] w fun r w' => r = i64 (nn : Int) ∧ w' = w) ∧ (∀ {w : World}, callD Try.prog 21 #[i64 op] w fun r w' => r = i64 (nn : Int) ∧ w' = w) ∧ OpF op f ∧ Does f nn
theorem op27 : OpIs 27 1 25 := ⟨by omega, rv27_ok, sv27_ok, .inl ⟨rfl, rfl⟩, does27⟩
theorem op28 : OpIs 28 1 26 := ⟨by omega, rv28_ok, sv28_ok, .inr (.inl ⟨rfl, rfl⟩), does28⟩
theorem op29 : OpIs 29 2 27 := ⟨by omega, rv29_ok, sv29_ok, .inr (.inr (.inl ⟨rfl, rfl⟩)), does29⟩
theorem op30 : OpIs 30 3 28 := ⟨by omega, rv30_ok, sv30_ok, .inr (.inr (.inr (.inl ⟨rfl, rfl⟩))), does30⟩
theorem op31 : OpIs 31 5 29 := ⟨by omega, rv31_ok, sv31_ok, .inr (.inr (.inr (.inr (.inl ⟨rfl, rfl⟩)))), does31⟩
theorem op32 : OpIs 32 5 30 := ⟨by omega, rv32_ok, sv32_ok, .inr (.inr (.inr (.inr (.inr (.inl ⟨rfl, rfl⟩))))), does32⟩
theorem op36 : OpIs 36 3 31 := ⟨by omega, rv36_ok, sv36_ok, .inr (.inr (.inr (.inr (.inr (.inr ⟨rfl, rfl⟩))))), does36⟩
theorem op_all {k : Int} (h0 : 0 ≤ k) (h1 : k < 10) : ∃ (op : Int) (nn f : Nat), opsV[k.toNat]? = some (i64 op) ∧ OpIs op nn f := by
  have hcase : k = 0 ∨ k = 1 ∨ k = 2 ∨ k = 3 ∨ k = 4 ∨ k = 5 ∨ k = 6 ∨ k = 7 ∨ k = 8 ∨ k = 9 := by omega
  rcases hcase with rfl | rfl | rfl | rfl | rfl | rfl | rfl | rfl | rfl | rfl
  · exact ⟨_, _, _, rfl, op27⟩
  · exact ⟨_, _, _, rfl, op27⟩
  · exact ⟨_, _, _, rfl, op30⟩
  · exact ⟨_, _, _, rfl, op30⟩
  · exact ⟨_, _, _, rfl, op31⟩
  · exact ⟨_, _, _, rfl, op31⟩
  · exact ⟨_, _, _, rfl, op29⟩
  · exact ⟨_, _, _, rfl, op36⟩
  · exact ⟨_, _, _, rfl, op32⟩
  · exact ⟨_, _, _, rfl, op28⟩
/-- Serve, whatever the number. -/
theorem serveAll_ok {w : World} {rb hb B g cap : Nat} {ar : List Arr} {pub sec av : Value} {tp ts : List Int} (h : RoomG w rb hb B 1000 g cap ar pub sec tp ts) (h2 : 2 ≤ ar.length) {op : Int} {nn f : Nat} (ho : OpIs op nn f) {who sb : Int} (hsb : sb = 0 ∨ sb = 1 ∨ sb = 4) {xs : List Int} (hxs : SliceIs w av 1 nn (xs.map i32)) (hl : xs.length = nn) (hsm : ∀ z ∈ xs, 0 ≤ z ∧ z ≤ 1000000) :
    callD Try.prog 12 #[.pointer (some ⟨rb, 0, none⟩), .pointer none, i64 who, i64 op, i64 3, i64 sb, av] w fun q w' => SvPost w rb hb B 1000 g ar pub sec who q w' := by
  obtain ⟨h5, _, hsv, hf, hd⟩ := ho
  refine serveG_ok h5 hsv hf hxs hl hsm fun w1 av' x1 hown => ?_
  have hi := h.hi
  refine (hd (h.ext x1) h2 hsb xs hl fun w' hw => SliceIs.of_own (hw.own hown fun i hi' hm => by have := (hown.lt i hi').1; have := (hi i hm).1; omega)).mono fun q w' hq => ?_
  obtain ⟨p, st, g', cap', ar', pub', sec', tp', ts', hr, hR, hW, hF⟩ := hq
  exact ⟨_, _, hr, p, st, g', cap', ar', pub', sec', tp', ts', rfl, hR, hW, (Fr.of_ext (S := MuG rb hb g ar pub sec) x1).trans hF fun _ _ h => h⟩
end Go.Proofs.Ytgjmpnngheohbaa
namespace Go.Proofs.Ytgjmpnngheohbaa
open Go.Vc
set_option maxHeartbeats 8000000 in
theorem walls_law {lv : Value} {N : Nat} {w : World} (hlv : StepsArr w lv N) (known : ∀ w, callD Try.prog 8 #[] w fun v w' => v = .bool true ∧ Ext w w') :
    callD Try.prog 5 #[lv] w fun r w' => r = .bool true ∧ Ext w w' := by
  obtain ⟨⟨la, lc, rfl⟩, hlv⟩ := hlv
  apply F5_wp
  unfold F5_den
  refine (roomNewG_ok (by omega) (by omega)).mono fun r w1 ⟨⟨rb, hb, hr, hrb, hhb, h1⟩, x1⟩ => ?_
  subst hr
  refine V_ext0.2 (V_ext1.2 ?_)
  refine (known w1).mono fun r w2 ⟨hr, x2⟩ => ?_
  subst hr
  refine V_not.2 ?_
  simp only [V_neqI, ne_eq, not_true_eq_false, V_neqI, gd_f, pickD_iff, reduceIte, Bool.false_eq_true, Bool.not_true, decide_false]
  refine V.ok (r_eqPtr Try.underlying23) ?_
  simp only [gd_f, pickD_iff, reduceIte, Bool.false_eq_true]
  refine (heapOfG_ok (h1.ext x2)).mono fun r w3 ⟨hr, hw⟩ => ?_
  subst hr; have hw := hw.symm; subst hw
  refine V.ok (r_eqPtr Try.underlying29) ?_
  simp only [ifD_false]
  have X2 := x1.trans x2
  refine ⟨fun x w' => ∃ (i g cap : Nat) (ar : List Arr) (pub sec : Value) (tp ts : List Int), x = i64 i ∧ i ≤ 40 ∧ RoomG w' rb hb w.heap.size 1000 g cap ar pub sec tp ts ∧ 2 ≤ ar.length ∧ Ext w w',
    fun x _ => 40 - (RowKit.intOf x).toNat, ⟨0, _, _, _, _, _, _, _, rfl, by omega, h1.ext x2, Nat.le_refl _, X2⟩, ?_⟩
  rintro _ w4 ⟨i, g, cap, ar, pub, sec, tp, ts, rfl, hi40, h4, h2a, X4⟩ _
  refine V_ln_41.2 (V_lss.2 ?_)
  by_cases hiN : (i : Int) < (N : Int)
  case neg =>
    simp only [hiN, gd_ft, pickD_iff, ifD_false, reduceIte, Bool.false_eq_true, decide_false]
    exact ⟨trivial, X4⟩
  by_cases hi3 : (i : Int) < 40
  case neg =>
    simp only [hiN, hi3, V_lss, gd_t, pickD_iff, ifD_false, reduceIte, decide_true, decide_false]
    exact ⟨trivial, X4⟩
  simp only [hiN, hi3, V_lss, gd_t, pickD_iff, ifD_true, reduceIte, decide_true]
  obtain ⟨cs, hcs, hel⟩ := hlv (by omega)
  obtain ⟨z0, z1, z2, z3, c4, c5, c6, ys, hcells, h5c, h6c, hargs⟩ := hel i (by omega)
  refine ldxA xa_41 la_44 (hcs.ext X4) (by omega) (by omega) (l := [i64 z0, i64 z1, i64 z2, i64 z3, c4, c5, c6]) (by simpa using hcells) rfl ?_
  refine asK (by first | exact sa_37 | exact sa_42 | exact sa_44 | exact sa_64) rfl (by show (true && (true && (true && (true && (oneC c4 && (oneC c5 && (oneC c6 && true))))))) = true; rw [hargs.one, h5c, h6c]; rfl) fun w5 hy5 x5 => ?_
  refine ldB hy5.boxed (by first | exact fa_37_0 | exact fa_37_1 | exact fa_37_2 | exact fa_37_3 | exact fa_37_4 | exact fa_44_0 | exact fa_44_1 | exact fa_44_2 | exact fa_44_3 | exact fa_44_4 | exact fa_59_0 | exact fa_59_3 | exact fa_59_4 | exact fa_64_0 | exact fa_64_1 | exact fa_64_2 | exact fa_64_3 | exact fa_64_4 | exact fa_64_5 | exact fa_74_0 | exact fa_74_1 | exact fa_93_0) (by first | exact l1_21 | exact l1_22 | exact l1_23 | exact l1_29 | exact l1_3 | exact l1_35 | exact l1_4 | exact l1_5 | exact l1_61 | exact l1_62 | exact l1_72 | exact l1_9 | exact l1_91) rfl ?_
  refine (pick_ok (by omega) (by omega)).mono fun r w' ⟨⟨who, hr, _, _⟩, hw⟩ => ?_
  subst hr; have hw := hw.symm; subst hw
  refine V.ok (w' := w5) (v := .agg opsV) (by kernel_rfl) ?_
  refine ldB hy5.boxed (by first | exact fa_37_0 | exact fa_37_1 | exact fa_37_2 | exact fa_37_3 | exact fa_37_4 | exact fa_44_0 | exact fa_44_1 | exact fa_44_2 | exact fa_44_3 | exact fa_44_4 | exact fa_59_0 | exact fa_59_3 | exact fa_59_4 | exact fa_64_0 | exact fa_64_1 | exact fa_64_2 | exact fa_64_3 | exact fa_64_4 | exact fa_64_5 | exact fa_74_0 | exact fa_74_1 | exact fa_93_0) (by first | exact l1_21 | exact l1_22 | exact l1_23 | exact l1_29 | exact l1_3 | exact l1_35 | exact l1_4 | exact l1_5 | exact l1_61 | exact l1_62 | exact l1_72 | exact l1_9 | exact l1_91) rfl ?_
  refine (pick_ok (by omega) (by omega)).mono fun r w' ⟨⟨ko, hr, hk0, hk10⟩, hw⟩ => ?_
  subst hr; have hw := hw.symm; subst hw
  obtain ⟨op, nn, f, hop, hO⟩ := op_all hk0 hk10
  refine V.ok (r_idx Try.underlying48 inf3 ⟨_, Try.underlying3⟩ hk0 (by simpa using hk10) hop rfl) ?_
  have X5 := X4.trans x5
  have hO' := hO
  obtain ⟨hn5, hrv, _⟩ := hO'
  have h5 := h4.ext x5
  refine ⟨fun v u w' => ∃ (j : Nat) (xs : List Int), u = i64 j ∧ j ≤ nn ∧ xs.length = j ∧ (∀ z ∈ xs, 0 ≤ z ∧ z ≤ 1000000) ∧ w'.ownsRow w5.heap.size 21 1 v j (xs.map i32) ∧ Ext w5 w', fun _ u _ => 6 - (RowKit.intOf u).toNat, ⟨0, [], rfl, by omega, rfl, by simp, World.ownsRow_nil _ _ _ _, Ext.refl _⟩, ?_⟩
  rintro av _ w6 ⟨j, xs, rfl, hj, hxl, hsm, ho6, x6⟩ _
  refine hrv.mono fun r w' ⟨hr, hw⟩ => ?_
  subst hr; have hw := hw.symm; subst hw
  refine V_lss.2 (ifD_dec (fun hlt => ?_) fun hge => ?_)
  · refine ⟨fun v w' => (∃ z : Int, v = i32 z) ∧ w' = w6, ?_, ?_⟩
    · refine ldB (hy5.ext x6).boxed (by first | exact fa_37_0 | exact fa_37_1 | exact fa_37_2 | exact fa_37_3 | exact fa_37_4 | exact fa_44_0 | exact fa_44_1 | exact fa_44_2 | exact fa_44_3 | exact fa_44_4 | exact fa_59_0 | exact fa_59_3 | exact fa_59_4 | exact fa_64_0 | exact fa_64_1 | exact fa_64_2 | exact fa_64_3 | exact fa_64_4 | exact fa_64_5 | exact fa_74_0 | exact fa_74_1 | exact fa_93_0) (by first | exact l1_21 | exact l1_22 | exact l1_23 | exact l1_29 | exact l1_3 | exact l1_35 | exact l1_4 | exact l1_5 | exact l1_61 | exact l1_62 | exact l1_72 | exact l1_9 | exact l1_91) rfl ?_
      have ha6 := hargs.ext (X5.trans x6)
      have hln : V Try.prog (Builtin.len_ #[35] 3 #[c4]) w6 fun t w' => t = i64 ys.length ∧ w' = w6 := by
        rcases ha6 with ⟨rfl, rfl⟩ | ⟨ad, c, rfl, _⟩
        · exact V_ln_35.2 ⟨rfl, rfl⟩
        · exact V_ln_35.2 ⟨rfl, rfl⟩
      refine hln.mono fun t w' ⟨ht, hw⟩ => ?_
      subst ht; have hw := hw.symm; subst hw
      refine V_lss.2 (ifD_dec (fun hlt2 => ?_) fun hge2 => ⟨⟨0, rfl⟩, rfl⟩)
      refine ldB (hy5.ext x6).boxed (by first | exact fa_37_0 | exact fa_37_1 | exact fa_37_2 | exact fa_37_3 | exact fa_37_4 | exact fa_44_0 | exact fa_44_1 | exact fa_44_2 | exact fa_44_3 | exact fa_44_4 | exact fa_59_0 | exact fa_59_3 | exact fa_59_4 | exact fa_64_0 | exact fa_64_1 | exact fa_64_2 | exact fa_64_3 | exact fa_64_4 | exact fa_64_5 | exact fa_74_0 | exact fa_74_1 | exact fa_93_0) (by first | exact l1_21 | exact l1_22 | exact l1_23 | exact l1_29 | exact l1_3 | exact l1_35 | exact l1_4 | exact l1_5 | exact l1_61 | exact l1_62 | exact l1_72 | exact l1_9 | exact l1_91) rfl ?_
      rcases ha6 with ⟨_, rfl⟩ | ⟨ad, c, rfl, hs⟩
      · simp at hlt2
        omega
      obtain ⟨z, hz⟩ := ex_get (l := ys) (j := j) (by omega)
      refine ldx xa_35 l1_21 (hs (by omega)) (by omega) (by omega) (by simp [hz] : (ys.map i32)[((j : Nat) : Int).toNat]? = some (i32 z)) ⟨⟨z, rfl⟩, rfl⟩
    · rintro _ w' ⟨⟨z, rfl⟩, hw⟩ _
      have hw := hw.symm; subst hw
      refine V.ok (r_convI Try.underlying21 Try.underlying3) ?_
      refine (pick_ok (by omega) (by omega)).mono fun r w' ⟨⟨k, hr, hq0, hq7⟩, hw⟩ => ?_
      subst hr; have hw := hw.symm; subst hw
      refine V.ok (r_convI Try.underlying3 Try.underlying21) ?_
      rw [wrap32 hq0 (by omega)]
      refine bsl (by first | exact xe_22 | exact xe_35 | exact xe_62) [i32 k] rfl rfl (by simp) rfl fun v7 w7 ho7 x7 => ?_
      refine apO (by first | exact xe_22 | exact xe_35 | exact xe_62) (x7.own ho6) (SliceIs.of_own ho7) rfl (by omega) (by unfold maxLen; omega) (by have := x6.size; have := x7.size; omega) fun v8 w8 ho8 hg8 => ?_
      refine V_add.2 ?_
      rw [wrap_id (by omega) (by omega), i64_succ]
      refine ⟨⟨j + 1, xs ++ [k], rfl, by omega, by simp [hxl], fun z hz => ?_, by simpa using ho8, (x6.trans x7).grown hg8 fun q hq => (ho6.lt q hq).1⟩, by simp only [intOf_i64]; omega⟩
      rcases List.mem_append.1 hz with hz | hz
      · exact hsm z hz
      · obtain rfl := List.mem_singleton.1 hz
        omega
  have hjn : j = nn := by omega
  subst hjn
  have h6 := h5.ext x6
  have X6 := X5.trans x6
  refine (heapOfG_ok h6).mono fun r w' ⟨hr, hw⟩ => ?_
  subst hr; have hw := hw.symm; subst hw
  refine (copyHeap_ok h6.h h2a).mono fun r w7 ⟨⟨gc, cc, arC, hr, hC, hSL⟩, x7⟩ => ?_
  subst hr
  refine V.ok (w' := w7) (v := .agg #[i64 0, i64 0, i64 4, i64 1]) (by kernel_rfl) ?_
  refine ldB ((hy5.ext x6).ext x7).boxed (by first | exact fa_37_0 | exact fa_37_1 | exact fa_37_2 | exact fa_37_3 | exact fa_37_4 | exact fa_44_0 | exact fa_44_1 | exact fa_44_2 | exact fa_44_3 | exact fa_44_4 | exact fa_59_0 | exact fa_59_3 | exact fa_59_4 | exact fa_64_0 | exact fa_64_1 | exact fa_64_2 | exact fa_64_3 | exact fa_64_4 | exact fa_64_5 | exact fa_74_0 | exact fa_74_1 | exact fa_93_0) (by first | exact l1_21 | exact l1_22 | exact l1_23 | exact l1_29 | exact l1_3 | exact l1_35 | exact l1_4 | exact l1_5 | exact l1_61 | exact l1_62 | exact l1_72 | exact l1_9 | exact l1_91) rfl ?_
  refine (pick_ok (by omega) (by omega)).mono fun r w' ⟨⟨kb, hr, hb0, hb4⟩, hw⟩ => ?_
  subst hr; have hw := hw.symm; subst hw
  obtain ⟨sb, hsb, hsb'⟩ : ∃ sb : Int, (#[i64 0, i64 0, i64 4, i64 1] : Array Value)[kb.toNat]? = some (i64 sb) ∧ (sb = 0 ∨ sb = 1 ∨ sb = 4) := by
    have hcase : kb = 0 ∨ kb = 1 ∨ kb = 2 ∨ kb = 3 := by omega
    rcases hcase with rfl | rfl | rfl | rfl <;> exact ⟨_, rfl, by decide⟩
  refine V.ok (r_idx Try.underlying50 inf3 ⟨_, Try.underlying3⟩ hb0 (by simpa using hb4) hsb rfl) ?_
  have h7 := h6.ext x7
  have X7 := X6.trans x7
  have hi7 := h6.hi
  refine (serveAll_ok h7 h2a hO hsb' (SliceIs.of_own (x7.own ho6)) hxl hsm).mono fun r w8 ⟨p, st, g', cap', ar', pub', sec', tp', ts', hr, h8, hW, f8⟩ => ?_
  subst hr
  refine V_ext0.2 (V_ext1.2 ?_)
  refine V.ok (r_eqPtr Try.underlying29) (ifD_false.2 ?_)
  have X8 : Ext w w8 := f8.ext X7 fun q hq => by have := (hi7 q hq).2; omega
  have hC8 : HeapG w8 w6.heap.size (w6.heap.size + 1) 1000 gc cc arC := hC.fr f8 fun q hq => by
    have hql := (hi7 q hq).1
    refine ⟨by omega, ?_, fun a ha he => ?_⟩
    · have := hC.cap; omega
    · have := ((hC.data a ha).lt q he).1; omega
  have hcc := hC.cnt
  refine ⟨fun x w' => ∃ k : Nat, x = i64 ((k : Int) + 1) ∧ k ≤ arC.length ∧ Ext w8 w', fun x _ => arC.length + 1 - (RowKit.intOf x).toNat, ⟨0, rfl, Nat.zero_le _, Ext.refl _⟩, ?_⟩
  rintro _ w9 ⟨k, rfl, hk, x9⟩ _
  refine (countG_ok (hC8.ext x9)).mono fun r w' ⟨hr, hw⟩ => ?_
  subst hr; have hw := hw.symm; subst hw
  refine V_leq.2 (ifD_dec (fun hle => ?_) fun hgt => ?_)
  · have hkl : k < arC.length := by omega
    obtain ⟨hSL1, hSL2⟩ := hSL
    obtain ⟨a, ha⟩ := ex_get (l := ar) (j := k) (by omega)
    obtain ⟨c, hc, hac⟩ := hSL2 k a ha
    obtain ⟨a', ha', hch⟩ := hW.2.2 k a ha
    refine (arrayG_ok (hC8.ext x9) hc rfl).mono fun r w10 ⟨⟨v, hr, hv⟩, x10⟩ => ?_
    subst hr
    refine V_ext0.2 (V_ext1.2 ?_)
    refine asK (by first | exact sa_37 | exact sa_42 | exact sa_44 | exact sa_64) rfl (cells_one (own_one hv)) fun w11 hb11 x11 => ?_
    have x911 := x9.trans (x10.trans x11)
    refine (heapOfG_ok (h8.ext x911)).mono fun r w' ⟨hr, hw⟩ => ?_
    subst hr; have hw := hw.symm; subst hw
    refine (arrayG_ok (h8.ext x911).h ha' rfl).mono fun r w12 ⟨⟨u, hr, hu⟩, x12⟩ => ?_
    subst hr
    refine V_ext0.2 (V_ext1.2 ?_)
    refine asK (by first | exact sa_37 | exact sa_42 | exact sa_44 | exact sa_64) rfl (cells_one (own_one hu)) fun w13 hb13 x13 => ?_
    have x1213 := x12.trans x13
    have X13 := x911.trans x1213
    refine V_not.2 ?_
    simp only [Bool.not_true, gd_f]
    have hb11' := hb11.ext x1213
    refine ldA hb11'.boxed la_37 rfl ?_
    refine ldA hb13.boxed la_37 rfl ?_
    refine (sameArr_ok (a := { c with dv := v }) (b := { a' with dv := u }) (SliceIs.of_own ((x11.trans x1213).own hv)) (SliceIs.of_own (x13.own hu))).mono fun r w14 ⟨⟨q, hr, hq⟩, x14⟩ => ?_
    subst hr
    have X14 := X13.trans x14
    have done : V Try.prog (binOp .add 3 (i64 ((k : Int) + 1)) (i64 1)) w14 fun t w' => (∃ k : Nat, t = i64 ((k : Int) + 1) ∧ k ≤ arC.length ∧ Ext w8 w') ∧ arC.length + 1 - (RowKit.intOf t).toNat < arC.length + 1 - (RowKit.intOf (i64 ((k : Int) + 1))).toNat := by
      refine V_add.2 ?_
      rw [wrap_id (by omega) (by omega)]
      exact ⟨⟨k + 1, by congr 1, by omega, X14⟩, by simp only [intOf_i64]; omega⟩
    refine V_not.2 ?_
    by_cases hqt : q = true
    · subst hqt
      simp only [gd_ft, gd_undef, pickD_iff, ifD_false, reduceIte, Bool.false_eq_true, Bool.not_true]
      exact done
    · have hqf : q = false := by simpa using hqt
      subst hqf
      have hsa : st = 36864 ∧ mayA a who = true := by
        rcases hch with hch | hch
        · exact absurd (hq ((hac.symm.trans hch))) (by simp)
        · exact hch
      obtain ⟨hst, hmay⟩ := hsa
      subst hst
      simp only [V_neqI, gd_t, gd_f, pickD_iff, reduceIte, Bool.false_eq_true, Bool.not_false, decide_false, ne_eq, not_true_eq_false]
      have hb14 := (hb11'.ext x14).boxed
      refine ldB hb14 (by first | exact fa_37_0 | exact fa_37_1 | exact fa_37_2 | exact fa_37_3 | exact fa_37_4 | exact fa_44_0 | exact fa_44_1 | exact fa_44_2 | exact fa_44_3 | exact fa_44_4 | exact fa_59_0 | exact fa_59_3 | exact fa_59_4 | exact fa_64_0 | exact fa_64_1 | exact fa_64_2 | exact fa_64_3 | exact fa_64_4 | exact fa_64_5 | exact fa_74_0 | exact fa_74_1 | exact fa_93_0) (by first | exact l1_21 | exact l1_22 | exact l1_23 | exact l1_29 | exact l1_3 | exact l1_35 | exact l1_4 | exact l1_5 | exact l1_61 | exact l1_62 | exact l1_72 | exact l1_9 | exact l1_91) rfl ?_
      have eo : c.owner = a.owner := hac.1
      have es : c.share = a.share := hac.2.2.2.1
      have hm : a.owner = -1 ∨ a.owner = who ∨ a.share = true := by
        simp only [mayA, Bool.or_eq_true, decide_eq_true_eq] at hmay
        rcases hmay with (h | h) | h
        · exact .inl h
        · exact .inr (.inl h)
        · exact .inr (.inr h)
      by_cases e1 : c.owner = -1
      · simp only [e1, V_neqI, gd_ft, pickD_iff, ifD_false, reduceIte, Bool.false_eq_true, decide_false, ne_eq, not_true_eq_false]
        exact done
      simp only [e1, V_neqI, gd_t, pickD_iff, reduceIte, decide_true, ne_eq, not_false_eq_true]
      refine ldB hb14 (by first | exact fa_37_0 | exact fa_37_1 | exact fa_37_2 | exact fa_37_3 | exact fa_37_4 | exact fa_44_0 | exact fa_44_1 | exact fa_44_2 | exact fa_44_3 | exact fa_44_4 | exact fa_59_0 | exact fa_59_3 | exact fa_59_4 | exact fa_64_0 | exact fa_64_1 | exact fa_64_2 | exact fa_64_3 | exact fa_64_4 | exact fa_64_5 | exact fa_74_0 | exact fa_74_1 | exact fa_93_0) (by first | exact l1_21 | exact l1_22 | exact l1_23 | exact l1_29 | exact l1_3 | exact l1_35 | exact l1_4 | exact l1_5 | exact l1_61 | exact l1_62 | exact l1_72 | exact l1_9 | exact l1_91) rfl ?_
      by_cases e2 : c.owner = who
      · simp only [e2, V_neqI, gd_ft, pickD_iff, ifD_false, reduceIte, Bool.false_eq_true, decide_false, ne_eq, not_true_eq_false]
        exact done
      simp only [e2, V_neqI, gd_t, pickD_iff, reduceIte, decide_true, ne_eq, not_false_eq_true]
      refine ldB hb14 (by first | exact fa_37_0 | exact fa_37_1 | exact fa_37_2 | exact fa_37_3 | exact fa_37_4 | exact fa_44_0 | exact fa_44_1 | exact fa_44_2 | exact fa_44_3 | exact fa_44_4 | exact fa_59_0 | exact fa_59_3 | exact fa_59_4 | exact fa_64_0 | exact fa_64_1 | exact fa_64_2 | exact fa_64_3 | exact fa_64_4 | exact fa_64_5 | exact fa_74_0 | exact fa_74_1 | exact fa_93_0) (by first | exact l1_21 | exact l1_22 | exact l1_23 | exact l1_29 | exact l1_3 | exact l1_35 | exact l1_4 | exact l1_5 | exact l1_61 | exact l1_62 | exact l1_72 | exact l1_9 | exact l1_91) rfl ?_
      have e3 : c.share = true := by
        rcases hm with h | h | h
        · exact absurd (eo.trans h) e1
        · exact absurd (eo.trans h) e2
        · exact es.trans h
      simp only [e3, V_not, ifD_false, Bool.not_true]
      exact done
  · have hkl : k = arC.length := by omega
    have fin : V Try.prog (binOp .add 3 (i64 (i : Int)) (i64 1)) w9 fun t w' => (∃ (i g cap : Nat) (ar : List Arr) (pub sec : Value) (tp ts : List Int), t = i64 i ∧ i ≤ 40 ∧ RoomG w' rb hb w.heap.size 1000 g cap ar pub sec tp ts ∧ 2 ≤ ar.length ∧ Ext w w') ∧ 40 - (RowKit.intOf t).toNat < 40 - (RowKit.intOf (i64 (i : Int))).toNat := by
      refine V_add.2 ?_
      rw [wrap_id (by omega) (by omega), i64_succ]
      exact ⟨⟨i + 1, g', cap', ar', pub', sec', tp', ts', rfl, by omega, h8.ext x9, Nat.le_trans h2a hW.1, X8.trans x9⟩, by simp only [intOf_i64]; omega⟩
    refine V_neqI.2 ?_
    by_cases hst : st = 36864
    · simp only [hst, gd_ft, pickD_iff, ifD_false, reduceIte, Bool.false_eq_true, decide_false, ne_eq, not_true_eq_false]
      exact fin
    simp only [hst, gd_t, pickD_iff, reduceIte, decide_true, ne_eq, not_false_eq_true]
    refine (heapOfG_ok (h8.ext x9)).mono fun r w' ⟨hr, hw⟩ => ?_
    subst hr; have hw := hw.symm; subst hw
    refine (countG_ok (h8.ext x9).h).mono fun r w' ⟨hr, hw⟩ => ?_
    subst hr; have hw := hw.symm; subst hw
    refine (countG_ok (hC8.ext x9)).mono fun r w' ⟨hr, hw⟩ => ?_
    subst hr; have hw := hw.symm; subst hw
    have hcnt : ((ar'.length : Nat) : Int) = (arC.length : Nat) := by
      have := hW.2.1 hst
      have := hSL.1
      omega
    simp only [hcnt, V_neqI, ifD_false, decide_false, ne_eq, not_true_eq_false]
    exact fin
end Go.Proofs.Ytgjmpnngheohbaa
