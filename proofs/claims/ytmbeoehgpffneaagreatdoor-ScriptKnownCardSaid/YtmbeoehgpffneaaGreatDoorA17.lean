/- A region whose order is drawn is as it is evaluated. -/
import Derived.Test.YtmbeoehgpffneaaGreatDoorA16
namespace Go.Ab
noncomputable section
open Go.Vc (ev mapA callD putE vcOps okOps okOp mkAct opG opG_sound okOps_get)

theorem nth_of {l : List Nat} {i x : Nat} (h : l[i]? = some x) : nth l i = x := by simp [nth, h]
theorem nth_append {l m : List Nat} {i : Nat} (h : i < l.length) : nth (l ++ m) i = nth l i := by simp [nth, List.getElem?_append_left h]
theorem nth_last {l : List Nat} {x i : Nat} (h : l.length = i) : nth (l ++ [x]) i = x := by subst h; simp [nth]
theorem maxN_eq (a b : Nat) : maxN a b = max a b := by
  unfold maxN
  cases h : Nat.ble a b with
  | true => rw [Nat.ble_eq] at h; simp only []; omega
  | false => have : ¬ a ≤ b := fun h' => by rw [← Nat.ble_eq, h] at h'; cases h'
             simp only []; omega
theorem allLt_mem {i : Nat} : ∀ {l : List Nat}, allLt i l = true → ∀ p ∈ l, p < i
  | [], _, p, h => by simp at h
  | q :: l, h, p, hp => by
    simp only [allLt, Bool.and_eq_true, Nat.blt_eq] at h
    rcases List.mem_cons.1 hp with rfl | hp
    · exact h.1
    · exact allLt_mem h.2 p hp
theorem loOf_congr {I J : Inf} : ∀ {ps : List Nat}, (∀ p ∈ ps, lobe I p = lobe J p) → loOf I ps = loOf J ps
  | [], _ => rfl
  | p :: ps, h => by simp only [loOf]; rw [h p (by simp), loOf_congr fun q hq => h q (by simp [hq])]
theorem clOf_congr {I J : Inf} : ∀ {ps : List Nat}, (∀ p ∈ ps, nth I.cls p = nth J.cls p) → clOf I ps = clOf J ps
  | [], _ => rfl
  | p :: ps, h => by simp only [clOf]; rw [h p (by simp), clOf_congr fun q hq => h q (by simp [hq])]
/-- What the tables say. -/
structure InfOk (all : List Oper) (I : Inf) : Prop where
  lt : ∀ (i : Nat) o, all[i]? = some o → ∀ p ∈ predsOf o, p < i
  lo : ∀ (i : Nat) o, all[i]? = some o → nth I.los i = loOf I (predsOf o)
  cl : ∀ (i : Nat) o, all[i]? = some o → nth I.cls i = clOf I (predsOf o)
  ne : ∀ (i : Nat) o, all[i]? = some o → isE o.op = false → nth I.es i = 0
  eq : ∀ (i : Nat) o, all[i]? = some o → isE o.op = true → nth I.es i = nth I.los i + 1
theorem infOf_ok : ∀ (os : List Oper) (i count : Nat) (I J : Inf), infOf os i count I = some J → I.es.length = i → I.los.length = i → I.cls.length = i →
    (∀ (k : Nat), k < i → nth J.es k = nth I.es k ∧ nth J.los k = nth I.los k ∧ nth J.cls k = nth I.cls k) ∧
    ∀ (k : Nat) o, os[k]? = some o → (∀ p ∈ predsOf o, p < i + k) ∧ nth J.los (i + k) = loOf J (predsOf o) ∧ nth J.cls (i + k) = clOf J (predsOf o) ∧ (isE o.op = false → nth J.es (i + k) = 0) ∧ (isE o.op = true → nth J.es (i + k) = nth J.los (i + k) + 1)
  | [], i, count, I, J, h, _, _, _ => by
    simp only [infOf, Option.some.injEq] at h
    subst h
    exact ⟨fun k _ => ⟨rfl, rfl, rfl⟩, fun k o ho => by simp at ho⟩
  | o :: os, i, count, I, J, h, h1, h2, h3 => by
    simp only [infOf] at h
    split at h <;> try (cases h; done)
    rename_i hok
    simp only [Bool.and_eq_true] at hok
    obtain ⟨hlt, hcnt⟩ := hok
    have hlt := allLt_mem hlt
    obtain ⟨ih1, ih2⟩ := infOf_ok os (i + 1) _ _ J h (by simp [h1]) (by simp [h2]) (by simp [h3])
    have old : ∀ k, k < i → nth J.es k = nth I.es k ∧ nth J.los k = nth I.los k ∧ nth J.cls k = nth I.cls k := fun k hk => by
      obtain ⟨a, b, c⟩ := ih1 k (by omega)
      exact ⟨a.trans (nth_append (by omega)), b.trans (nth_append (by omega)), c.trans (nth_append (by omega))⟩
    obtain ⟨a, b, c⟩ := ih1 i (by omega)
    have a' : nth J.es i = (match isE o.op with | true => count + 1 | false => 0) := a.trans (nth_last h1)
    have b' : nth J.los i = loOf I (predsOf o) := b.trans (nth_last h2)
    have c' : nth J.cls i = clOf I (predsOf o) := c.trans (nth_last h3)
    have hlo : loOf I (predsOf o) = loOf J (predsOf o) := loOf_congr fun p hp => by
      obtain ⟨q1, q2, _⟩ := old p (hlt p hp)
      simp only [lobe, q1, q2]
    have hcl : clOf I (predsOf o) = clOf J (predsOf o) := clOf_congr fun p hp => (old p (hlt p hp)).2.2.symm
    refine ⟨old, fun k q hq => ?_⟩
    cases k with
    | zero =>
      simp at hq
      subst hq
      refine ⟨hlt, b'.trans hlo, c'.trans hcl, fun he => ?_, fun he => ?_⟩
      · show nth J.es i = 0
        rw [a', he]
      · show nth J.es i = nth J.los i + 1
        rw [a', he, b']
        rw [he] at hcnt
        have := Nat.eq_of_beq_eq_true hcnt
        simp only []
        rw [this]
    | succ k =>
      have := ih2 k q (by simpa using hq)
      rwa [show i + 1 + k = i + (k + 1) from by omega] at this
theorem infOk_ok {all : List Oper} {I : Inf} (h : infOk all = some I) : InfOk all I ∧ rdAll I all all 0 = true ∧ distinctB all = true := by
  unfold infOk at h
  split at h <;> try (cases h; done)
  rename_i J hJ
  split at h <;> cases h
  rename_i hb
  simp only [Bool.and_eq_true] at hb
  obtain ⟨_, h2⟩ := infOf_ok all 0 0 ⟨[], [], []⟩ I hJ rfl rfl rfl
  simp only [Nat.zero_add] at h2
  exact ⟨⟨fun i o ho => (h2 i o ho).1, fun i o ho => (h2 i o ho).2.1, fun i o ho => (h2 i o ho).2.2.1, fun i o ho => (h2 i o ho).2.2.2.1, fun i o ho => (h2 i o ho).2.2.2.2⟩, hb⟩
theorem loOf_le {I : Inf} {k : Nat} : ∀ {ps : List Nat}, (∀ p ∈ ps, lobe I p ≤ k) → loOf I ps ≤ k
  | [], _ => Nat.zero_le _
  | p :: ps, h => by
    simp only [loOf, maxN_eq]
    exact Nat.max_le.2 ⟨h p (by simp), loOf_le fun q hq => h q (by simp [hq])⟩
theorem tb_two (i j : Nat) : (2 ^ i).testBit j = decide (i = j) := Nat.testBit_two_pow
theorem clOf_bit {I : Inf} {j : Nat} : ∀ {ps : List Nat}, (clOf I ps).testBit j = true → ∃ p ∈ ps, p = j ∨ (nth I.cls p).testBit j = true
  | [], h => by simp [clOf] at h
  | p :: ps, h => by
    have h' : ((2 ^ p ||| nth I.cls p) ||| clOf I ps).testBit j = true := h
    rw [Nat.testBit_or, Nat.testBit_or, tb_two] at h'
    simp only [Bool.or_eq_true, decide_eq_true_eq] at h'
    rcases h' with (h' | h') | h'
    · exact ⟨p, by simp, .inl h'⟩
    · exact ⟨p, by simp, .inr h'⟩
    · obtain ⟨q, hq, h''⟩ := clOf_bit h'
      exact ⟨q, by simp [hq], h''⟩
theorem binds_eq (e : Edge) : Region.binds .any e = bindsB e := by
  cases e with
  | mk on g => cases g <;> rfl
theorem preds_mem {o : Oper} {p : Nat} : p ∈ predsOf o ↔ ∃ e ∈ o.after, Region.binds .any e = true ∧ e.on = p := by
  simp only [predsOf, List.mem_map, List.mem_filter]
  constructor
  · rintro ⟨e, ⟨h1, h2⟩, h3⟩; exact ⟨e, by simpa using h1, by rw [binds_eq]; exact h2, h3⟩
  · rintro ⟨e, h1, h2, h3⟩; exact ⟨e, ⟨by simpa using h1, by rw [← binds_eq]; exact h2⟩, h3⟩

/-! ### Which are done -/
abbrev Dn := Nat → Prop
/-- What is done is closed under what must be ahead. -/
def Closed (all : List Oper) (D : Dn) : Prop := ∀ (i : Nat) o, all[i]? = some o → D i → ∀ p ∈ predsOf o, D p
/-- The actions that are done are the first k ones. -/
def Upto (all : List Oper) (I : Inf) (D : Dn) (k : Nat) : Prop := ∀ (i : Nat) o, all[i]? = some o → nth I.es i ≠ 0 → (D i ↔ nth I.es i ≤ k)
theorem get_lt {all : List Oper} {i : Nat} {o : Oper} (h : all[i]? = some o) : i < all.length := (List.getElem?_eq_some_iff.1 h).1
theorem get_ex {all : List Oper} {i : Nat} (h : i < all.length) : ∃ o, all[i]? = some o := ⟨_, List.getElem?_eq_getElem h⟩
section
variable {all : List Oper} {I : Inf} {D : Dn} {k : Nat} (hI : InfOk all I) (hu : Upto all I D k)
include hI hu
theorem lobe_le (hc : Closed all D) : ∀ (i : Nat), i < all.length → D i → lobe I i ≤ k := by
  intro i
  induction i using Nat.strongRecOn with
  | _ i ih =>
    intro hi hd
    obtain ⟨o, ho⟩ := get_ex hi
    unfold lobe
    split
    · rw [hI.lo i o ho]
      exact loOf_le fun p hp => ih p (hI.lt i o ho p hp) (by have := hI.lt i o ho p hp; omega) (hc i o ho hd p hp)
    · rename_i hne
      exact (hu i o ho hne).1 hd
theorem los_le (hc : Closed all D) {i : Nat} {o : Oper} (ho : all[i]? = some o) (hp : ∀ p ∈ predsOf o, D p) : nth I.los i ≤ k := by
  rw [hI.lo i o ho]
  exact loOf_le fun p hpm => lobe_le hI hu hc p (by have := hI.lt i o ho p hpm; have := get_lt ho; omega) (hp p hpm)
omit hu in
theorem cls_done (hc : Closed all D) : ∀ (i : Nat), i < all.length → D i → ∀ j, (nth I.cls i).testBit j = true → D j := by
  intro i
  induction i using Nat.strongRecOn with
  | _ i ih =>
    intro hi hd j hj
    obtain ⟨o, ho⟩ := get_ex hi
    rw [hI.cl i o ho] at hj
    obtain ⟨p, hp, h | h⟩ := clOf_bit hj
    · subst h; exact hc i o ho hd p hp
    · exact ih p (hI.lt i o ho p hp) (by have := hI.lt i o ho p hp; omega) (hc i o ho hd p hp) j h
omit hu in
theorem cls_preds (hc : Closed all D) {i : Nat} {o : Oper} (ho : all[i]? = some o) (hp : ∀ p ∈ predsOf o, D p) : ∀ j, (nth I.cls i).testBit j = true → D j := by
  intro j hj
  rw [hI.cl i o ho] at hj
  obtain ⟨p, hpm, h | h⟩ := clOf_bit hj
  · subst h; exact hp p hpm
  · exact cls_done hI hc p (by have := hI.lt i o ho p hpm; have := get_lt ho; omega) (hp p hpm) j h
end
theorem hiFrom_ge {all : List Oper} {I : Inf} {i m k : Nat} (hk : k ≤ m) : ∀ (es : List Nat) (j : Nat), (∀ (q e : Nat), es[q]? = some (e + 1) → (nth I.cls (j + q)).testBit i = true → k ≤ e) → k ≤ hiFrom I i m es j
  | [], j, _ => hk
  | 0 :: es, j, h => hiFrom_ge (all := all) hk es (j + 1) fun q e hq hb => h (q + 1) e (by simpa using hq) (by rwa [show j + (q + 1) = j + 1 + q from by omega])
  | (e + 1) :: es, j, h => by
    have ih := hiFrom_ge (all := all) (I := I) (i := i) hk es (j + 1) fun q e hq hb => h (q + 1) e (by simpa using hq) (by rwa [show j + (q + 1) = j + 1 + q from by omega])
    simp only [hiFrom]
    split
    · rename_i hb
      rw [minN_eq]
      exact Nat.le_min.2 ⟨h 0 e rfl (by simpa using hb), ih⟩
    · exact ih
end
end Go.Ab
