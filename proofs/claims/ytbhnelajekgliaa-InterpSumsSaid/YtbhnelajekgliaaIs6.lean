/- InterpSums: the whole run. -/
import Derived.Test.YtbhnelajekgliaaIs5
namespace Go.Proofs.Ytbhnelajekgliaa
open Go.Vc Go.Ab
variable {p : Mch} {w w' : World} {H : Nat → Prop}
def oF (cd : List (Int × Int)) (i : Nat) : Int := (cd[i]?.getD (0, 0)).1
def aF (cd : List (Int × Int)) (i : Nat) : Int := (cd[i]?.getD (0, 0)).2
def cdC (cd : List (Int × Int)) : List Value := cd.flatMap fun q => [Value.int .i64 q.1, Value.int .i64 q.2, Value.int .i64 0]
theorem cdC_eq (cd : List (Int × Int)) : codeV cd.length (oF cd) (aF cd) = cdC cd := by
  have e : cd = (List.range cd.length).map fun i => cd[i]?.getD (0, 0) := by
    apply List.ext_getElem?
    intro i
    rw [List.getElem?_map]
    rcases Nat.lt_or_ge i cd.length with h | h
    · rw [List.getElem?_range h, List.getElem?_eq_getElem h]
      simp [List.getElem?_eq_getElem h]
    · rw [List.getElem?_eq_none h, List.getElem?_eq_none (by simpa using h)]
      rfl
  unfold cdC codeV
  conv => rhs; rw [e, List.flatMap_map]
  rfl
/-- Numbers and signs, as a code that leaves what they make. -/
inductive Prep : List (Int × Int) → Int → Prop
  | one {x : Int} (hx : R32 x) : Prep [(1, x)] x
  | app {c : List (Int × Int)} {v x op : Int} {f : Int → Int → Int} (h : Prep c v) (hx : R32 x) (hf : OpF op f) : Prep (c ++ [(1, x), (op, 0)]) (f v x)
theorem Prep.r {c : List (Int × Int)} {v : Int} (h : Prep c v) : R32 v := by
  induction h with
  | one hx => exact hx
  | app h hx hf ih => exact (hf.2 _ _ ih hx).2.2
def StepP (q : Int × Int) (s s' : List Int) : Prop := (q.1 = 1 ∧ R32 q.2 ∧ s' = s ++ [q.2] ∧ s.length ≤ 900) ∨ ∃ f x y, OpF q.1 f ∧ R32 x ∧ R32 y ∧ s = [x, y] ∧ s' = [f x y]
theorem prep_S {c : List (Int × Int)} {v : Int} (h : Prep c v) : ∃ S : Nat → List Int, S 0 = [] ∧ S c.length = [v] ∧ 0 < c.length ∧ ∀ i q, c[i]? = some q → StepP q (S i) (S (i + 1)) := by
  induction h with
  | @one x hx =>
    refine ⟨fun i => if i = 0 then [] else [x], rfl, rfl, Nat.one_pos, fun i q hq => ?_⟩
    have hi : i = 0 := by have := (List.getElem?_eq_some_iff.1 hq).1; simpa using this
    subst hi
    simp at hq
    subst hq
    exact .inl ⟨rfl, hx, rfl, by simp⟩
  | @app c v x op f h hx hf ih =>
    obtain ⟨S, h0, h1, h2, h3⟩ := ih
    refine ⟨fun i => if i ≤ c.length then S i else if i = c.length + 1 then [v, x] else [f v x], ?_, ?_, by simp, fun i q hq => ?_⟩
    · simp only [Nat.zero_le, if_true]
      exact h0
    · have e : (c ++ [(1, x), (op, 0)]).length = c.length + 2 := by simp
      rw [e]
      simp only [show ¬ c.length + 2 ≤ c.length by omega, show ¬ c.length + 2 = c.length + 1 by omega, if_false]
    · rcases Nat.lt_trichotomy i c.length with hi | hi | hi
      · rw [List.getElem?_append_left hi] at hq
        simp only [show i ≤ c.length by omega, show i + 1 ≤ c.length by omega, if_true]
        exact h3 i q hq
      · subst hi
        rw [List.getElem?_append_right (Nat.le_refl _)] at hq
        simp at hq
        subst hq
        simp only [Nat.le_refl, if_true, show ¬ c.length + 1 ≤ c.length by omega, if_false]
        rw [h1]
        exact .inl ⟨rfl, hx, rfl, by simp⟩
      · have hl : i < c.length + 2 := by have := (List.getElem?_eq_some_iff.1 hq).1; simpa using this
        obtain rfl : i = c.length + 1 := by omega
        rw [List.getElem?_append_right (by omega)] at hq
        rw [show c.length + 1 - c.length = 1 by omega] at hq
        simp at hq
        subst hq
        simp only [show ¬ c.length + 1 ≤ c.length by omega, show ¬ c.length + 1 + 1 ≤ c.length by omega, show ¬ c.length + 1 + 1 = c.length + 1 by omega, if_true, if_false]
        exact .inr ⟨f, v, x, hf, h.r, hx, rfl, rfl⟩
theorem stepP_ok {o a : Nat → Int} {q : Int × Int} {s s' : List Int} {pc z : Int} (h : StepP q s s') (hpc : 0 ≤ pc ∧ pc ≤ 1000) (h0 : ∀ f, OpF q.1 f → q.2 = q.2) : PlainOk p o a q.1 q.2 pc z s z s' := by
  rcases h with ⟨h1, h2, rfl, h4⟩ | ⟨f, x, y, hf, hx, hy, rfl, rfl⟩
  · rw [h1]
    exact plain_push h4 hpc h2
  · exact plain_op (st := []) hf hx hy (by simp) hpc
theorem stepP_no {q : Int × Int} {s s' : List Int} (h : StepP q s s') : (q.1 ≠ 37 ∧ q.1 ≠ 38 ∧ q.1 ≠ 39) ∧ (q.1 ≠ 27 ∧ q.1 ≠ 28 ∧ q.1 ≠ 17 ∧ q.1 ≠ 18 ∧ q.1 ≠ 29 ∧ q.1 ≠ 30 ∧ q.1 ≠ 36 ∧ q.1 ≠ 31 ∧ q.1 ≠ 32) := by
  rcases h with ⟨h1, _⟩ | ⟨f, x, y, hf, _⟩
  · omega
  · have := hf.1
    omega
/-- The fuel, read from the memory. -/
def fuelOf (p : Mch) (w : World) : Nat := match w.cell? ⟨p.mb, p.mo + 3, none⟩ with
  | some (.int _ n) => n.toNat
  | _ => 0
theorem MS.fuel {o a : Nat → Int} {fl : Nat} {pc fuel status z : Int} {st : List Int} {tn : Nat} (h : MS p o a H w fl pc fuel status z st tn) : fuelOf p w = fuel.toNat := by
  unfold fuelOf
  rw [h.cells.cell (j := 3) rfl]
set_option maxHeartbeats 1600000 in
theorem run_ok {c : List (Int × Int)} {v : Int} (hP : Prep c v) (hc : c.length ≤ 60) (hn : p.n = c.length + 2) (h : MS p (oF (c ++ [(34, 0), (39, 0)])) (aF (c ++ [(34, 0), (39, 0)])) H w 1 0 200 0 0 [] 0) :
    callD Try.prog 15 #[p.pm] w fun _ w' => (∃ pc tn, MS p (oF (c ++ [(34, 0), (39, 0)])) (aF (c ++ [(34, 0), (39, 0)])) H w' 0 pc (200 - ((c.length + 2 : Nat) : Int)) 36864 v [] tn) ∧ Kp H w w' := by
  obtain ⟨S, hS0, hS1, hcl, hS⟩ := prep_S hP
  generalize ho : oF (c ++ [(34, 0), (39, 0)]) = o at h ⊢
  generalize ha : aF (c ++ [(34, 0), (39, 0)]) = a at h ⊢
  have hoc : ∀ i q, c[i]? = some q → o i = q.1 ∧ a i = q.2 := fun i q hq => by
    have hi := (List.getElem?_eq_some_iff.1 hq).1
    rw [← ho, ← ha]
    unfold oF aF
    rw [List.getElem?_append_left hi, hq]
    exact ⟨rfl, rfl⟩
  have ho1 : o c.length = 34 ∧ a c.length = 0 := by
    rw [← ho, ← ha]
    unfold oF aF
    rw [List.getElem?_append_right (Nat.le_refl _)]
    simp
  have ho2 : o (c.length + 1) = 39 := by
    rw [← ho]
    unfold oF
    rw [List.getElem?_append_right (by omega), show c.length + 1 - c.length = 1 by omega]
    rfl
  apply F15_wp
  suffices key : ∀ R : Value → World → Prop, (∀ r w', (∃ pc tn, MS p o a H w' 0 pc (200 - ((c.length + 2 : Nat) : Int)) 36864 v [] tn) → Kp H w w' → R r w') → F15_den p.pm w R from key _ fun r w' h1 h2 => ⟨h1, h2⟩
  intro R hR
  unfold F15_den
  refine ⟨fun w' => ((∃ i : Nat, i ≤ c.length ∧ MS p o a H w' 1 (i : Int) (200 - (i : Int)) 0 0 (S i) i) ∨ MS p o a H w' 1 ((c.length + 1 : Nat) : Int) (200 - ((c.length + 1 : Nat) : Int)) 0 v [] (c.length + 1) ∨ ∃ pc tn, MS p o a H w' 0 pc (200 - ((c.length + 2 : Nat) : Int)) 36864 v [] tn) ∧ Kp H w w', fun w' => fuelOf p w', ⟨.inl ⟨0, Nat.zero_le _, by rw [hS0]; exact h⟩, Fr.refl _ _⟩, ?_⟩
  rintro w1 ⟨hI, k1⟩ _
  refine ⟨.inl ⟨_, rfl⟩, ?_⟩
  rcases hI with ⟨i, hi, h1⟩ | h1 | h1
  · refine ldFS (by first | exact fa_115_0 | exact fa_115_1 | exact fa_115_2 | exact fa_115_3 | exact fa_115_4 | exact fa_115_5 | exact fa_27_0 | exact fa_27_1 | exact fa_27_2 | exact fa_48_0 | exact fa_48_1 | exact fa_48_2 | exact fa_48_3 | exact fa_52_0 | exact fa_52_1 | exact fa_52_2 | exact fa_52_3 | exact fa_52_4 | exact fa_60_0 | exact fa_60_1 | exact fa_60_2 | exact fa_60_3 | exact fa_60_4 | exact fa_64_0 | exact fa_64_1 | exact fa_64_2 | exact fa_64_3 | exact fa_64_4 | exact fa_71_0 | exact fa_71_3 | exact fa_71_4 | exact fa_74_0 | exact fa_74_1 | exact fa_78_0 | exact fa_78_1 | exact fa_78_2 | exact fa_78_3 | exact fa_84_0 | exact fa_89_0 | exact fa_89_1 | exact fa_89_2 | exact fa_89_3 | exact fa_89_4 | exact fa_89_5) (by first | exact l1_21 | exact l1_22 | exact l1_23 | exact l1_24 | exact l1_3 | exact l1_31 | exact l1_4 | exact l1_49 | exact l1_5 | exact l1_50 | exact l1_55 | exact l1_56 | exact l1_57 | exact l1_58 | exact l1_61 | exact l1_62 | exact l1_72 | exact l1_82 | exact l1_87 | exact l1_9) h1.cells rfl (V_eqlI.2 ?_)
    simp only [decide_true, ifD_true]
    have e200 : 200 - ((i : Nat) : Int) - 1 = 200 - ((i + 1 : Nat) : Int) := by omega
    have ei : ((i : Nat) : Int) + 1 = ((i + 1 : Nat) : Int) := by omega
    by_cases hic : i < c.length
    · obtain ⟨q, hq⟩ : ∃ q, c[i]? = some q := ⟨_, List.getElem?_eq_getElem hic⟩
      obtain ⟨q1, q2⟩ := hoc i q hq
      have hst := hS i q hq
      obtain ⟨n1, n2⟩ := stepP_no hst
      refine (step_ok (i := i) (fl' := 1) (pc' := ((i + 1 : Nat) : Int)) (fuel' := 200 - ((i + 1 : Nat) : Int)) (status' := 0) (z' := 0) (st' := S (i + 1)) (tn' := i + 1) (by omega) (by omega) (by omega) h1 fun w2 h2 => ?_).mono fun r w2 ⟨h2, k2⟩ => ?_
      · rw [q1, q2]
        have := do_ok (stepP_ok (p := p) (o := o) (a := a) (z := 0) hst (pc := (i : Int)) (by omega) fun _ _ => rfl) n1 n2 h2
        rw [e200, ei] at this
        exact this
      · refine ⟨⟨.inl ⟨i + 1, hic, h2⟩, k1.trans k2⟩, ?_⟩
        show fuelOf p w2 < fuelOf p w1
        rw [h2.fuel, h1.fuel]
        omega
    · obtain rfl : i = c.length := by omega
      rw [hS1] at h1
      refine (step_ok (i := c.length) (fl' := 1) (pc' := ((c.length + 1 : Nat) : Int)) (fuel' := 200 - ((c.length + 1 : Nat) : Int)) (status' := 0) (z' := v) (st' := []) (tn' := c.length + 1) (by omega) (by omega) (by omega) h1 fun w2 h2 => ?_).mono fun r w2 ⟨h2, k2⟩ => ?_
      · rw [ho1.1, ho1.2]
        have := do_ok (plain_putf (p := p) (o := o) (a := a) (n := v) (z := 0) (st := []) (pc := (c.length : Int)) (by simp) (by omega)) (by decide) (by decide) h2
        rw [e200, ei] at this
        exact this
      · refine ⟨⟨.inr (.inl h2), k1.trans k2⟩, ?_⟩
        show fuelOf p w2 < fuelOf p w1
        rw [h2.fuel, h1.fuel]
        omega
  · refine ldFS (by first | exact fa_115_0 | exact fa_115_1 | exact fa_115_2 | exact fa_115_3 | exact fa_115_4 | exact fa_115_5 | exact fa_27_0 | exact fa_27_1 | exact fa_27_2 | exact fa_48_0 | exact fa_48_1 | exact fa_48_2 | exact fa_48_3 | exact fa_52_0 | exact fa_52_1 | exact fa_52_2 | exact fa_52_3 | exact fa_52_4 | exact fa_60_0 | exact fa_60_1 | exact fa_60_2 | exact fa_60_3 | exact fa_60_4 | exact fa_64_0 | exact fa_64_1 | exact fa_64_2 | exact fa_64_3 | exact fa_64_4 | exact fa_71_0 | exact fa_71_3 | exact fa_71_4 | exact fa_74_0 | exact fa_74_1 | exact fa_78_0 | exact fa_78_1 | exact fa_78_2 | exact fa_78_3 | exact fa_84_0 | exact fa_89_0 | exact fa_89_1 | exact fa_89_2 | exact fa_89_3 | exact fa_89_4 | exact fa_89_5) (by first | exact l1_21 | exact l1_22 | exact l1_23 | exact l1_24 | exact l1_3 | exact l1_31 | exact l1_4 | exact l1_49 | exact l1_5 | exact l1_50 | exact l1_55 | exact l1_56 | exact l1_57 | exact l1_58 | exact l1_61 | exact l1_62 | exact l1_72 | exact l1_82 | exact l1_87 | exact l1_9) h1.cells rfl (V_eqlI.2 ?_)
    simp only [decide_true, ifD_true]
    refine (step_ok (i := c.length + 1) (fl' := 0) (pc' := ((c.length + 1 : Nat) : Int)) (fuel' := 200 - ((c.length + 2 : Nat) : Int)) (status' := 36864) (z' := v) (st' := []) (tn' := c.length + 3) (by omega) (by omega) (by omega) h1 fun w2 h2 => ?_).mono fun r w2 ⟨h2, k2⟩ => ?_
    · rw [ho2]
      have := doRet_ok (A := a (c.length + 1)) h2 (by omega)
      rw [show 200 - ((c.length + 1 : Nat) : Int) - 1 = 200 - ((c.length + 2 : Nat) : Int) by omega] at this
      exact this
    · refine ⟨⟨.inr (.inr ⟨_, _, h2⟩), k1.trans k2⟩, ?_⟩
      show fuelOf p w2 < fuelOf p w1
      rw [h2.fuel, h1.fuel]
      omega
  · obtain ⟨pc, tn, h1⟩ := h1
    refine ldFS (by first | exact fa_115_0 | exact fa_115_1 | exact fa_115_2 | exact fa_115_3 | exact fa_115_4 | exact fa_115_5 | exact fa_27_0 | exact fa_27_1 | exact fa_27_2 | exact fa_48_0 | exact fa_48_1 | exact fa_48_2 | exact fa_48_3 | exact fa_52_0 | exact fa_52_1 | exact fa_52_2 | exact fa_52_3 | exact fa_52_4 | exact fa_60_0 | exact fa_60_1 | exact fa_60_2 | exact fa_60_3 | exact fa_60_4 | exact fa_64_0 | exact fa_64_1 | exact fa_64_2 | exact fa_64_3 | exact fa_64_4 | exact fa_71_0 | exact fa_71_3 | exact fa_71_4 | exact fa_74_0 | exact fa_74_1 | exact fa_78_0 | exact fa_78_1 | exact fa_78_2 | exact fa_78_3 | exact fa_84_0 | exact fa_89_0 | exact fa_89_1 | exact fa_89_2 | exact fa_89_3 | exact fa_89_4 | exact fa_89_5) (by first | exact l1_21 | exact l1_22 | exact l1_23 | exact l1_24 | exact l1_3 | exact l1_31 | exact l1_4 | exact l1_49 | exact l1_5 | exact l1_50 | exact l1_55 | exact l1_56 | exact l1_57 | exact l1_58 | exact l1_61 | exact l1_62 | exact l1_72 | exact l1_82 | exact l1_87 | exact l1_9) h1.cells rfl (V_eqlI.2 ?_)
    simp only [show ¬ ((36864 : Int) = 0) by decide, decide_false, ifD_false]
    refine ⟨.inl ⟨_, rfl⟩, ?_⟩
    exact ldFS (by first | exact fa_115_0 | exact fa_115_1 | exact fa_115_2 | exact fa_115_3 | exact fa_115_4 | exact fa_115_5 | exact fa_27_0 | exact fa_27_1 | exact fa_27_2 | exact fa_48_0 | exact fa_48_1 | exact fa_48_2 | exact fa_48_3 | exact fa_52_0 | exact fa_52_1 | exact fa_52_2 | exact fa_52_3 | exact fa_52_4 | exact fa_60_0 | exact fa_60_1 | exact fa_60_2 | exact fa_60_3 | exact fa_60_4 | exact fa_64_0 | exact fa_64_1 | exact fa_64_2 | exact fa_64_3 | exact fa_64_4 | exact fa_71_0 | exact fa_71_3 | exact fa_71_4 | exact fa_74_0 | exact fa_74_1 | exact fa_78_0 | exact fa_78_1 | exact fa_78_2 | exact fa_78_3 | exact fa_84_0 | exact fa_89_0 | exact fa_89_1 | exact fa_89_2 | exact fa_89_3 | exact fa_89_4 | exact fa_89_5) (by first | exact l1_21 | exact l1_22 | exact l1_23 | exact l1_24 | exact l1_3 | exact l1_31 | exact l1_4 | exact l1_49 | exact l1_5 | exact l1_50 | exact l1_55 | exact l1_56 | exact l1_57 | exact l1_58 | exact l1_61 | exact l1_62 | exact l1_72 | exact l1_82 | exact l1_87 | exact l1_9) h1.cells rfl (hR _ _ ⟨pc, tn, h1⟩ k1)
end Go.Proofs.Ytbhnelajekgliaa
