/- Fields of three applets. -/
import Derived.Test.YtgjmpnngheohbaaDoorFl2
namespace Go.Proofs.YtgjmpnngheohbaaDoor
open Go.Vc
/-- Where they lie. -/
structure Flp where
  (rb ro fb fo fc : Nat) (hv iv pv sv : Value) (g o c : Nat → Nat)
def flRow (z : Nat → Nat → Int) (a : Nat) : List Value := [i32 (z a 0), i32 (z a 1), i32 (z a 2), i32 (z a 3)]
structure FldR (p : Flp) (w : World) (z : Nat → Nat → Int) : Prop where
  box : Seg w p.rb p.ro [p.hv, p.iv, .slice (some ⟨p.fb, p.fo, none⟩) 3 p.fc, p.pv, p.sv]
  rows : Seg w p.fb p.fo [.slice (some ⟨p.g 0, p.o 0, none⟩) 4 (p.c 0), .slice (some ⟨p.g 1, p.o 1, none⟩) 4 (p.c 1), .slice (some ⟨p.g 2, p.o 2, none⟩) 4 (p.c 2)]
  cells : ∀ a, a < 3 → Seg w (p.g a) (p.o a) (flRow z a)
  apart : ∀ a, a < 3 → p.g a ≠ p.rb ∧ p.g a ≠ p.fb ∧ ∀ a', a' < 3 → p.g a = p.g a' → a = a'
  im : ∃ ia ic, p.iv = .slice ia 3 ic
variable {p : Flp} {w : World} {z : Nat → Nat → Int}
theorem FldR.ext {w' : World} (h : FldR p w z) (hx : Ext w w') : FldR p w' z := ⟨h.box.ext hx, h.rows.ext hx, fun a ha => (h.cells a ha).ext hx, h.apart, h.im⟩
theorem FldR.row (h : FldR p w z) {a : Nat} (ha : a < 3) : ([.slice (some ⟨p.g 0, p.o 0, none⟩) 4 (p.c 0), .slice (some ⟨p.g 1, p.o 1, none⟩) 4 (p.c 1), .slice (some ⟨p.g 2, p.o 2, none⟩) 4 (p.c 2)] : List Value)[((a : Nat) : Int).toNat]? = some (.slice (some ⟨p.g a, p.o a, none⟩) 4 (p.c a)) := by
  have h3 : a = 0 ∨ a = 1 ∨ a = 2 := by omega
  rcases h3 with rfl | rfl | rfl <;> rfl
theorem flRow_get {a k : Nat} (hk : k < 4) : (flRow z a)[((k : Nat) : Int).toNat]? = some (i32 (z a k)) := by
  have h4 : k = 0 ∨ k = 1 ∨ k = 2 ∨ k = 3 := by omega
  rcases h4 with rfl | rfl | rfl | rfl <;> rfl
def rm' (p : Flp) : Value := .pointer (some ⟨p.rb, p.ro, none⟩)
theorem field_ok (h : FldR p w z) {a k : Nat} (ha : a < 3) (hk : k < 4) : callD Tryd.prog 11 #[rm' p, i64 (a : Int), i64 (k : Int)] w fun r w' => r = .tuple #[i32 (z a k), .bool true] ∧ w' = w := by
  apply F11_wp
  unfold F11_den
  refine V_lss.2 ?_
  simp only [show ¬ ((a : Int) < 0) by omega, gd_f, pickD_iff, reduceIte, Bool.false_eq_true, decide_false]
  refine ⟨.inl ⟨_, rfl⟩, ?_⟩
  refine ldFS (by first | exact fa_105_0 | exact fa_105_1 | exact fa_105_2 | exact fa_105_3 | exact fa_105_4 | exact fa_116_0 | exact fa_116_1 | exact fa_120_0 | exact fa_120_1 | exact fa_127_0 | exact fa_127_1 | exact fa_131_0 | exact fa_131_1 | exact fa_131_2 | exact fa_131_3 | exact fa_131_4 | exact fa_133_0 | exact fa_133_1 | exact fa_133_2 | exact fa_133_3 | exact fa_36_1 | exact fa_36_2 | exact fa_36_3 | exact fa_36_4 | exact fa_42_0 | exact fa_42_1 | exact fa_42_2 | exact fa_42_3 | exact fa_42_4 | exact fa_42_5 | exact fa_42_6 | exact fa_57_0 | exact fa_63_0 | exact fa_63_1 | exact fa_63_2 | exact fa_63_3 | exact fa_63_4 | exact fa_80_0 | exact fa_80_1 | exact fa_80_2 | exact fa_80_3 | exact fa_80_4 | exact fa_85_2 | exact fa_85_3 | exact fa_88_0 | exact fa_88_1 | exact fa_88_2 | exact fa_88_3 | exact fa_91_0 | exact fa_95_0 | exact fa_95_1 | exact fa_95_2 | exact fa_95_3 | exact fa_95_4 | exact fa_95_5) (by first | exact l1_114 | exact l1_21 | exact l1_23 | exact l1_3 | exact l1_32 | exact l1_33 | exact l1_34 | exact l1_39 | exact l1_4 | exact l1_40 | exact l1_5 | exact l1_50 | exact l1_55 | exact l1_59 | exact l1_60 | exact l1_61 | exact l1_76 | exact l1_86) h.box rfl (V_ln_61.2 ?_)
  simp only [show ¬ ((a : Int) ≥ ((3 : Nat) : Int)) by omega, V_lss, V_geq, gd_f, pickD_iff, reduceIte, Bool.false_eq_true, decide_false]
  simp only [show ¬ ((k : Int) < 0) by omega, gd_f, reduceIte, Bool.false_eq_true, decide_false]
  refine ⟨.inl ⟨_, rfl⟩, ?_⟩
  refine ldFS (by first | exact fa_105_0 | exact fa_105_1 | exact fa_105_2 | exact fa_105_3 | exact fa_105_4 | exact fa_116_0 | exact fa_116_1 | exact fa_120_0 | exact fa_120_1 | exact fa_127_0 | exact fa_127_1 | exact fa_131_0 | exact fa_131_1 | exact fa_131_2 | exact fa_131_3 | exact fa_131_4 | exact fa_133_0 | exact fa_133_1 | exact fa_133_2 | exact fa_133_3 | exact fa_36_1 | exact fa_36_2 | exact fa_36_3 | exact fa_36_4 | exact fa_42_0 | exact fa_42_1 | exact fa_42_2 | exact fa_42_3 | exact fa_42_4 | exact fa_42_5 | exact fa_42_6 | exact fa_57_0 | exact fa_63_0 | exact fa_63_1 | exact fa_63_2 | exact fa_63_3 | exact fa_63_4 | exact fa_80_0 | exact fa_80_1 | exact fa_80_2 | exact fa_80_3 | exact fa_80_4 | exact fa_85_2 | exact fa_85_3 | exact fa_88_0 | exact fa_88_1 | exact fa_88_2 | exact fa_88_3 | exact fa_91_0 | exact fa_95_0 | exact fa_95_1 | exact fa_95_2 | exact fa_95_3 | exact fa_95_4 | exact fa_95_5) (by first | exact l1_114 | exact l1_21 | exact l1_23 | exact l1_3 | exact l1_32 | exact l1_33 | exact l1_34 | exact l1_39 | exact l1_4 | exact l1_40 | exact l1_5 | exact l1_50 | exact l1_55 | exact l1_59 | exact l1_60 | exact l1_61 | exact l1_76 | exact l1_86) h.box rfl ?_
  refine ldS xa_61 (by first | exact l1_114 | exact l1_21 | exact l1_23 | exact l1_3 | exact l1_32 | exact l1_33 | exact l1_34 | exact l1_39 | exact l1_4 | exact l1_40 | exact l1_5 | exact l1_50 | exact l1_55 | exact l1_59 | exact l1_60 | exact l1_61 | exact l1_76 | exact l1_86) h.rows (by omega) (by omega) (h.row ha) ?_
  refine V_ln_39.2 ?_
  simp only [show ¬ ((k : Int) ≥ ((4 : Nat) : Int)) by omega, V_geq, ifD_false, decide_false]
  refine ⟨.inl ⟨_, rfl⟩, ?_⟩
  refine ldFS (by first | exact fa_105_0 | exact fa_105_1 | exact fa_105_2 | exact fa_105_3 | exact fa_105_4 | exact fa_116_0 | exact fa_116_1 | exact fa_120_0 | exact fa_120_1 | exact fa_127_0 | exact fa_127_1 | exact fa_131_0 | exact fa_131_1 | exact fa_131_2 | exact fa_131_3 | exact fa_131_4 | exact fa_133_0 | exact fa_133_1 | exact fa_133_2 | exact fa_133_3 | exact fa_36_1 | exact fa_36_2 | exact fa_36_3 | exact fa_36_4 | exact fa_42_0 | exact fa_42_1 | exact fa_42_2 | exact fa_42_3 | exact fa_42_4 | exact fa_42_5 | exact fa_42_6 | exact fa_57_0 | exact fa_63_0 | exact fa_63_1 | exact fa_63_2 | exact fa_63_3 | exact fa_63_4 | exact fa_80_0 | exact fa_80_1 | exact fa_80_2 | exact fa_80_3 | exact fa_80_4 | exact fa_85_2 | exact fa_85_3 | exact fa_88_0 | exact fa_88_1 | exact fa_88_2 | exact fa_88_3 | exact fa_91_0 | exact fa_95_0 | exact fa_95_1 | exact fa_95_2 | exact fa_95_3 | exact fa_95_4 | exact fa_95_5) (by first | exact l1_114 | exact l1_21 | exact l1_23 | exact l1_3 | exact l1_32 | exact l1_33 | exact l1_34 | exact l1_39 | exact l1_4 | exact l1_40 | exact l1_5 | exact l1_50 | exact l1_55 | exact l1_59 | exact l1_60 | exact l1_61 | exact l1_76 | exact l1_86) h.box rfl ?_
  refine ldS xa_61 (by first | exact l1_114 | exact l1_21 | exact l1_23 | exact l1_3 | exact l1_32 | exact l1_33 | exact l1_34 | exact l1_39 | exact l1_4 | exact l1_40 | exact l1_5 | exact l1_50 | exact l1_55 | exact l1_59 | exact l1_60 | exact l1_61 | exact l1_76 | exact l1_86) h.rows (by omega) (by omega) (h.row ha) ?_
  refine ldS xa_39 (by first | exact l1_114 | exact l1_21 | exact l1_23 | exact l1_3 | exact l1_32 | exact l1_33 | exact l1_34 | exact l1_39 | exact l1_4 | exact l1_40 | exact l1_5 | exact l1_50 | exact l1_55 | exact l1_59 | exact l1_60 | exact l1_61 | exact l1_76 | exact l1_86) (h.cells a ha) (by omega) (by omega) (flRow_get hk) ?_
  exact ⟨rfl, rfl⟩
theorem field_no (h : FldR p w z) {a k : Int} (hn : ¬ (0 ≤ a ∧ a < 3 ∧ 0 ≤ k ∧ k < 4)) : callD Tryd.prog 11 #[rm' p, i64 a, i64 k] w fun r w' => r = .tuple #[i32 0, .bool false] ∧ w' = w := by
  apply F11_wp
  unfold F11_den
  refine V_lss.2 ?_
  by_cases h0 : a < 0
  · simp only [h0, gd_tf, pickD_iff, ifD_true, reduceIte, decide_true]
    exact ⟨by first | rfl | trivial, by first | rfl | trivial⟩
  simp only [h0, gd_f, pickD_iff, reduceIte, Bool.false_eq_true, decide_false]
  refine ⟨.inl ⟨_, rfl⟩, ?_⟩
  refine ldFS (by first | exact fa_105_0 | exact fa_105_1 | exact fa_105_2 | exact fa_105_3 | exact fa_105_4 | exact fa_116_0 | exact fa_116_1 | exact fa_120_0 | exact fa_120_1 | exact fa_127_0 | exact fa_127_1 | exact fa_131_0 | exact fa_131_1 | exact fa_131_2 | exact fa_131_3 | exact fa_131_4 | exact fa_133_0 | exact fa_133_1 | exact fa_133_2 | exact fa_133_3 | exact fa_36_1 | exact fa_36_2 | exact fa_36_3 | exact fa_36_4 | exact fa_42_0 | exact fa_42_1 | exact fa_42_2 | exact fa_42_3 | exact fa_42_4 | exact fa_42_5 | exact fa_42_6 | exact fa_57_0 | exact fa_63_0 | exact fa_63_1 | exact fa_63_2 | exact fa_63_3 | exact fa_63_4 | exact fa_80_0 | exact fa_80_1 | exact fa_80_2 | exact fa_80_3 | exact fa_80_4 | exact fa_85_2 | exact fa_85_3 | exact fa_88_0 | exact fa_88_1 | exact fa_88_2 | exact fa_88_3 | exact fa_91_0 | exact fa_95_0 | exact fa_95_1 | exact fa_95_2 | exact fa_95_3 | exact fa_95_4 | exact fa_95_5) (by first | exact l1_114 | exact l1_21 | exact l1_23 | exact l1_3 | exact l1_32 | exact l1_33 | exact l1_34 | exact l1_39 | exact l1_4 | exact l1_40 | exact l1_5 | exact l1_50 | exact l1_55 | exact l1_59 | exact l1_60 | exact l1_61 | exact l1_76 | exact l1_86) h.box rfl (V_ln_61.2 ?_)
  by_cases h3 : a ≥ ((3 : Nat) : Int)
  · simp only [h3, V_geq, gd_tf, pickD_iff, ifD_true, reduceIte, decide_true]
    exact ⟨by first | rfl | trivial, by first | rfl | trivial⟩
  simp only [h3, V_lss, V_geq, gd_f, pickD_iff, reduceIte, Bool.false_eq_true, decide_false]
  by_cases hk : k < 0
  · simp only [hk, gd_tf, ifD_true, reduceIte, decide_true]
    exact ⟨by first | rfl | trivial, by first | rfl | trivial⟩
  simp only [hk, gd_f, reduceIte, Bool.false_eq_true, decide_false]
  refine ⟨.inl ⟨_, rfl⟩, ?_⟩
  refine ldFS (by first | exact fa_105_0 | exact fa_105_1 | exact fa_105_2 | exact fa_105_3 | exact fa_105_4 | exact fa_116_0 | exact fa_116_1 | exact fa_120_0 | exact fa_120_1 | exact fa_127_0 | exact fa_127_1 | exact fa_131_0 | exact fa_131_1 | exact fa_131_2 | exact fa_131_3 | exact fa_131_4 | exact fa_133_0 | exact fa_133_1 | exact fa_133_2 | exact fa_133_3 | exact fa_36_1 | exact fa_36_2 | exact fa_36_3 | exact fa_36_4 | exact fa_42_0 | exact fa_42_1 | exact fa_42_2 | exact fa_42_3 | exact fa_42_4 | exact fa_42_5 | exact fa_42_6 | exact fa_57_0 | exact fa_63_0 | exact fa_63_1 | exact fa_63_2 | exact fa_63_3 | exact fa_63_4 | exact fa_80_0 | exact fa_80_1 | exact fa_80_2 | exact fa_80_3 | exact fa_80_4 | exact fa_85_2 | exact fa_85_3 | exact fa_88_0 | exact fa_88_1 | exact fa_88_2 | exact fa_88_3 | exact fa_91_0 | exact fa_95_0 | exact fa_95_1 | exact fa_95_2 | exact fa_95_3 | exact fa_95_4 | exact fa_95_5) (by first | exact l1_114 | exact l1_21 | exact l1_23 | exact l1_3 | exact l1_32 | exact l1_33 | exact l1_34 | exact l1_39 | exact l1_4 | exact l1_40 | exact l1_5 | exact l1_50 | exact l1_55 | exact l1_59 | exact l1_60 | exact l1_61 | exact l1_76 | exact l1_86) h.box rfl ?_
  obtain ⟨a, rfl⟩ : ∃ n : Nat, a = n := ⟨a.toNat, by omega⟩
  refine ldS xa_61 (by first | exact l1_114 | exact l1_21 | exact l1_23 | exact l1_3 | exact l1_32 | exact l1_33 | exact l1_34 | exact l1_39 | exact l1_4 | exact l1_40 | exact l1_5 | exact l1_50 | exact l1_55 | exact l1_59 | exact l1_60 | exact l1_61 | exact l1_76 | exact l1_86) h.rows (by omega) (by omega) (h.row (by omega)) ?_
  refine V_ln_39.2 ?_
  simp only [show (k ≥ ((4 : Nat) : Int)) by omega, V_geq, ifD_true, decide_true]
  exact ⟨by first | rfl | trivial, by first | rfl | trivial⟩
def upZ (z : Nat → Nat → Int) (a k : Nat) (n : Int) : Nat → Nat → Int := fun a' k' => if a' = a ∧ k' = k then n else z a' k'
theorem flRow_set {a k : Nat} {n : Int} (hk : k < 4) : (flRow z a).set k (i32 n) = flRow (upZ z a k n) a := by
  have h4 : k = 0 ∨ k = 1 ∨ k = 2 ∨ k = 3 := by omega
  rcases h4 with rfl | rfl | rfl | rfl <;> simp [flRow, upZ]
theorem flRow_ne {a a' k : Nat} {n : Int} (h : a' ≠ a) : flRow (upZ z a k n) a' = flRow z a' := by simp [flRow, upZ, h]
theorem setField_ok (h : FldR p w z) {a k : Nat} (ha : a < 3) (hk : k < 4) {n : Int} : callD Tryd.prog 10 #[rm' p, i64 (a : Int), i64 (k : Int), i32 n] w fun r w' => r = .bool true ∧ FldR p w' (upZ z a k n) ∧ Fr (fun j => j = p.g a) w w' := by
  apply F10_wp
  unfold F10_den
  refine (field_ok h ha hk).mono fun r w' ⟨hr, hw⟩ => ?_
  subst hr; have hw := hw.symm; subst hw
  refine V_ext0.2 (V_ext1.2 (V_not.2 (ifD_false.2 ⟨.inl ⟨_, rfl⟩, ?_⟩)))
  refine ldFS (by first | exact fa_105_0 | exact fa_105_1 | exact fa_105_2 | exact fa_105_3 | exact fa_105_4 | exact fa_116_0 | exact fa_116_1 | exact fa_120_0 | exact fa_120_1 | exact fa_127_0 | exact fa_127_1 | exact fa_131_0 | exact fa_131_1 | exact fa_131_2 | exact fa_131_3 | exact fa_131_4 | exact fa_133_0 | exact fa_133_1 | exact fa_133_2 | exact fa_133_3 | exact fa_36_1 | exact fa_36_2 | exact fa_36_3 | exact fa_36_4 | exact fa_42_0 | exact fa_42_1 | exact fa_42_2 | exact fa_42_3 | exact fa_42_4 | exact fa_42_5 | exact fa_42_6 | exact fa_57_0 | exact fa_63_0 | exact fa_63_1 | exact fa_63_2 | exact fa_63_3 | exact fa_63_4 | exact fa_80_0 | exact fa_80_1 | exact fa_80_2 | exact fa_80_3 | exact fa_80_4 | exact fa_85_2 | exact fa_85_3 | exact fa_88_0 | exact fa_88_1 | exact fa_88_2 | exact fa_88_3 | exact fa_91_0 | exact fa_95_0 | exact fa_95_1 | exact fa_95_2 | exact fa_95_3 | exact fa_95_4 | exact fa_95_5) (by first | exact l1_114 | exact l1_21 | exact l1_23 | exact l1_3 | exact l1_32 | exact l1_33 | exact l1_34 | exact l1_39 | exact l1_4 | exact l1_40 | exact l1_5 | exact l1_50 | exact l1_55 | exact l1_59 | exact l1_60 | exact l1_61 | exact l1_76 | exact l1_86) h.box rfl ?_
  refine ldS xa_61 (by first | exact l1_114 | exact l1_21 | exact l1_23 | exact l1_3 | exact l1_32 | exact l1_33 | exact l1_34 | exact l1_39 | exact l1_4 | exact l1_40 | exact l1_5 | exact l1_50 | exact l1_55 | exact l1_59 | exact l1_60 | exact l1_61 | exact l1_76 | exact l1_86) h.rows (by omega) (by omega) (h.row ha) ?_
  refine stS (n := 4) xa_39 inf21 (h.cells a ha) rfl (by omega) (by omega) rfl ?_
  obtain ⟨n1, n2, n3⟩ := h.apart a ha
  refine ⟨rfl, ⟨h.box.other (Ne.symm n1), h.rows.other (Ne.symm n2), fun a' ha' => ?_, h.apart, h.im⟩, ?_⟩
  · by_cases he : a' = a
    · subst he
      rw [← flRow_set hk, Int.toNat_natCast]
      exact (h.cells a' ha').set (show k < 4 from hk) _
    · rw [flRow_ne he]
      exact (h.cells a' ha').other fun hg => he (n3 a' ha' hg.symm).symm
  · exact Fr.of_set rfl
theorem count_ok (h : FldR p w z) : callD Tryd.prog 13 #[rm' p] w fun r w' => r = i64 3 ∧ w' = w := by
  apply F13_wp
  unfold F13_den
  obtain ⟨ia, ic, hi⟩ := h.im
  refine ⟨.inl ⟨_, rfl⟩, ?_⟩
  refine ldFS (by first | exact fa_105_0 | exact fa_105_1 | exact fa_105_2 | exact fa_105_3 | exact fa_105_4 | exact fa_116_0 | exact fa_116_1 | exact fa_120_0 | exact fa_120_1 | exact fa_127_0 | exact fa_127_1 | exact fa_131_0 | exact fa_131_1 | exact fa_131_2 | exact fa_131_3 | exact fa_131_4 | exact fa_133_0 | exact fa_133_1 | exact fa_133_2 | exact fa_133_3 | exact fa_36_1 | exact fa_36_2 | exact fa_36_3 | exact fa_36_4 | exact fa_42_0 | exact fa_42_1 | exact fa_42_2 | exact fa_42_3 | exact fa_42_4 | exact fa_42_5 | exact fa_42_6 | exact fa_57_0 | exact fa_63_0 | exact fa_63_1 | exact fa_63_2 | exact fa_63_3 | exact fa_63_4 | exact fa_80_0 | exact fa_80_1 | exact fa_80_2 | exact fa_80_3 | exact fa_80_4 | exact fa_85_2 | exact fa_85_3 | exact fa_88_0 | exact fa_88_1 | exact fa_88_2 | exact fa_88_3 | exact fa_91_0 | exact fa_95_0 | exact fa_95_1 | exact fa_95_2 | exact fa_95_3 | exact fa_95_4 | exact fa_95_5) (by first | exact l1_114 | exact l1_21 | exact l1_23 | exact l1_3 | exact l1_32 | exact l1_33 | exact l1_34 | exact l1_39 | exact l1_4 | exact l1_40 | exact l1_5 | exact l1_50 | exact l1_55 | exact l1_59 | exact l1_60 | exact l1_61 | exact l1_76 | exact l1_86) h.box rfl ?_
  rw [hi]
  exact V_ln_60.2 ⟨rfl, rfl⟩
theorem image_no (h : FldR p w z) {k : Int} (hk : ¬ (0 ≤ k ∧ k < 3)) : callD Tryd.prog 12 #[rm' p, i64 k] w fun r w' => (∃ cs : List Value, r = .tuple #[.agg cs.toArray, .bool false] ∧ cs.length = 5 ∧ cs.all oneC = true) ∧ Ext w w' := by
  apply F12_wp
  suffices key : ∀ R : Value → World → Prop, (∀ (cs : List Value) w', cs.length = 5 → cs.all oneC = true → Ext w w' → R (.tuple #[.agg cs.toArray, .bool false]) w') → F12_den (rm' p) (i64 k) w R  from
    key _ fun cs w' h1 h2 hx => ⟨⟨cs, rfl, h1, h2⟩, hx⟩
  intro R hR
  unfold F12_den
  obtain ⟨ia, ic, hi⟩ := h.im
  refine alK inf36 fun w1 hz x1 => ?_
  have h1 := h.ext x1
  have fin : V Tryd.prog (Instr.build 36 #[]) w1 fun t17 w11 =>
      U Tryd.prog (Instr.storeAt 36 (.pointer (some ⟨w.heap.size, 0, none⟩)) t17) w11 fun _ w12 =>
      ∃ r1, (loadVar 36 (match (Value.pointer (some ⟨w.heap.size, 0, none⟩)) with | .pointer (some p) => p | _ => ⟨0, 0, none⟩)).run Tryd.prog w12 = .ok r1 w12 ∧ (∃ p, (Value.pointer (some ⟨w.heap.size, 0, none⟩)) = Value.pointer (some p)) ∧ R (.tuple #[r1, (Value.bool false)]) w12 := by
    refine bld bd_36 [] rfl rfl ?_
    refine stA inf36 hz rfl rfl rfl rfl fun w2 h2 hch => ?_
    exact ⟨_, r_var Tryd.underlying36 rfl inf36 h2 rfl, ⟨_, rfl⟩, hR _ _ rfl rfl (hch.ext w x1 (Nat.le_refl _))⟩
  refine V_lss.2 ?_
  by_cases h0 : k < 0
  · simp only [h0, gd_tf, pickD_iff, ifD_true, reduceIte, decide_true]
    exact fin
  simp only [h0, gd_f, pickD_iff, reduceIte, Bool.false_eq_true, decide_false]
  refine ⟨.inl ⟨_, rfl⟩, ?_⟩
  refine ldFS (by first | exact fa_105_0 | exact fa_105_1 | exact fa_105_2 | exact fa_105_3 | exact fa_105_4 | exact fa_116_0 | exact fa_116_1 | exact fa_120_0 | exact fa_120_1 | exact fa_127_0 | exact fa_127_1 | exact fa_131_0 | exact fa_131_1 | exact fa_131_2 | exact fa_131_3 | exact fa_131_4 | exact fa_133_0 | exact fa_133_1 | exact fa_133_2 | exact fa_133_3 | exact fa_36_1 | exact fa_36_2 | exact fa_36_3 | exact fa_36_4 | exact fa_42_0 | exact fa_42_1 | exact fa_42_2 | exact fa_42_3 | exact fa_42_4 | exact fa_42_5 | exact fa_42_6 | exact fa_57_0 | exact fa_63_0 | exact fa_63_1 | exact fa_63_2 | exact fa_63_3 | exact fa_63_4 | exact fa_80_0 | exact fa_80_1 | exact fa_80_2 | exact fa_80_3 | exact fa_80_4 | exact fa_85_2 | exact fa_85_3 | exact fa_88_0 | exact fa_88_1 | exact fa_88_2 | exact fa_88_3 | exact fa_91_0 | exact fa_95_0 | exact fa_95_1 | exact fa_95_2 | exact fa_95_3 | exact fa_95_4 | exact fa_95_5) (by first | exact l1_114 | exact l1_21 | exact l1_23 | exact l1_3 | exact l1_32 | exact l1_33 | exact l1_34 | exact l1_39 | exact l1_4 | exact l1_40 | exact l1_5 | exact l1_50 | exact l1_55 | exact l1_59 | exact l1_60 | exact l1_61 | exact l1_76 | exact l1_86) h1.box rfl ?_
  rw [hi]
  refine V_ln_60.2 ?_
  simp only [show (k ≥ ((3 : Nat) : Int)) by omega, V_geq, ifD_true, decide_true]
  exact fin
end Go.Proofs.YtgjmpnngheohbaaDoor
