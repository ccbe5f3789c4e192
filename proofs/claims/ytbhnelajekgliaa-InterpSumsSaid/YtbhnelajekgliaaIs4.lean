/- InterpSums: one instruction. -/
import Derived.Test.YtbhnelajekgliaaIs3
namespace Go.Vc
section
variable {P : Program} {w : World} {S : World → Prop} {L : Value → Prop}
theorem yFE {s f j ft : Nat} (hf : FA P s f j) (hl : L1 P ft) {b o : Nat} {u : Value} (hs : ∀ w', S w' → ∃ cs, Seg w' b o cs ∧ cs[j]? = some u) (hk : L u) :
    yieldS P S (Instr.fieldAt s (.pointer (some ⟨b, o, none⟩)) f) fun q => yieldS P S (Instr.loadAt ft q) L := by
  obtain ⟨d, hd, ha⟩ := hl
  exact yieldS.ok (fun w' _ => hf.ex w' b o) (yieldS.ok (fun w' hw => by obtain ⟨cs, h1, h2⟩ := hs w' hw; exact r_load hd ha (h1.cell h2)) hk)
end
end Go.Vc
namespace Go.Proofs.Ytbhnelajekgliaa
open Go.Vc Go.Ab
variable {p : Mch} {o a : Nat → Int} {w w' : World} {fl : Nat} {pc fuel status z : Int} {H : Nat → Prop} {st : List Int} {tn : Nat}
theorem one_ok {n : Int} (h : MS p o a H w fl pc fuel status z (st ++ [n]) tn) (hl : st.length ≤ 900) : callD Try.prog 42 #[p.pf] w fun r w' => r = i32 n ∧ MS p o a H w' fl pc fuel status z st tn ∧ Kp H w w' := by
  apply F42_wp
  unfold F42_den
  refine (pop_ok h (by simp; omega) (k := 1) (by decide) (by simp)).mono fun r w1 ⟨hs, hm, hk⟩ => ?_
  have e : (st ++ [n]).length - 1 = st.length := by simp
  rw [e] at hs hm
  simp only [List.take_left, List.drop_left, List.map_cons, List.map_nil] at hs hm
  exact ldx xa_22 l1_21 hs (by omega) (by omega) rfl ⟨rfl, hm, hk⟩
theorem number_ok {op x y : Int} {f : Int → Int → Int} (hf : OpF op f) (hx : R32 x) (hy : R32 y) (h : MS p o a H w fl pc fuel status z (st ++ [x, y]) tn) (hl : st.length ≤ 900) : callD Try.prog 45 #[p.pf, i64 op] w fun r w' => r = i32 (f x y) ∧ MS p o a H w' fl pc fuel status z st tn ∧ Kp H w w' := by
  apply F45_wp
  suffices key : ∀ R : Value → World → Prop, (∀ w', MS p o a H w' fl pc fuel status z st tn → Kp H w w' → R (i32 (f x y)) w') → F45_den p.pf (i64 op) w R from key _ fun w' h1 h2 => ⟨rfl, h1, h2⟩
  intro R hR
  have hr := hf.1
  unfold F45_den
  simp only [V_eqlI, show ¬ op = 15 by omega, show ¬ op = 16 by omega, show ¬ op = 26 by omega, show ¬ op = 22 by omega, decide_false, ifD_false]
  refine (pop_ok h (by simp; omega) (k := 2) (by decide) (by simp)).mono fun r w1 ⟨hs, hm, hk⟩ => ?_
  have e : (st ++ [x, y]).length - 2 = st.length := by simp
  rw [e] at hs hm
  simp only [List.take_left, List.drop_left, List.map_cons, List.map_nil] at hs hm
  have D1 : Ext w1 w1.drew := (Ext.refl _).drew
  refine drawD.mk' (fun w' => Ext w1 w') D1 ?_
  refine ySl xa_22 l1_21 hs (fun w' hw => hw) (by omega) (by omega) (u := i32 x) rfl ?_
  refine ySl xa_22 l1_21 hs (fun w' hw => hw) (by omega) (by omega) (u := i32 y) rfl ?_
  refine ((hf.2 x y hx hy).1 _).mono fun r w' ⟨hr, hw⟩ => ?_
  subst hr; have hw := hw.symm; subst hw
  exact ⟨D1, hR _ (hm.ext D1) (hk.trans (Kp.of_ext D1))⟩
theorem top_ok (h : MS p o a H w 1 pc fuel status z st tn) : callD Try.prog 28 #[p.pm] w fun r w' => r = p.pf ∧ Ext w w' := by
  obtain ⟨sv, tv, tc, h0, hs, ht, h1, sf, tf, stf, hh⟩ := h.ex
  apply F28_wp
  unfold F28_den
  have D1 : Ext w w.drew := (Ext.refl _).drew
  refine drawD.mk' (fun w' => Ext w w') D1 ⟨.inl ⟨_, rfl⟩, ?_⟩
  refine yFS (by first | exact fa_115_0 | exact fa_115_1 | exact fa_115_2 | exact fa_115_3 | exact fa_115_4 | exact fa_115_5 | exact fa_27_0 | exact fa_27_1 | exact fa_27_2 | exact fa_48_0 | exact fa_48_1 | exact fa_48_2 | exact fa_48_3 | exact fa_52_0 | exact fa_52_1 | exact fa_52_2 | exact fa_52_3 | exact fa_52_4 | exact fa_60_0 | exact fa_60_1 | exact fa_60_2 | exact fa_60_3 | exact fa_60_4 | exact fa_64_0 | exact fa_64_1 | exact fa_64_2 | exact fa_64_3 | exact fa_64_4 | exact fa_71_0 | exact fa_71_3 | exact fa_71_4 | exact fa_74_0 | exact fa_74_1 | exact fa_78_0 | exact fa_78_1 | exact fa_78_2 | exact fa_78_3 | exact fa_84_0 | exact fa_89_0 | exact fa_89_1 | exact fa_89_2 | exact fa_89_3 | exact fa_89_4 | exact fa_89_5) (by first | exact l1_21 | exact l1_22 | exact l1_23 | exact l1_24 | exact l1_3 | exact l1_31 | exact l1_4 | exact l1_49 | exact l1_5 | exact l1_50 | exact l1_55 | exact l1_56 | exact l1_57 | exact l1_58 | exact l1_61 | exact l1_62 | exact l1_72 | exact l1_82 | exact l1_87 | exact l1_9) (fun w' hw => h0.m.ext hw) rfl ⟨.inl ⟨_, rfl⟩, ?_⟩
  refine yFS (by first | exact fa_115_0 | exact fa_115_1 | exact fa_115_2 | exact fa_115_3 | exact fa_115_4 | exact fa_115_5 | exact fa_27_0 | exact fa_27_1 | exact fa_27_2 | exact fa_48_0 | exact fa_48_1 | exact fa_48_2 | exact fa_48_3 | exact fa_52_0 | exact fa_52_1 | exact fa_52_2 | exact fa_52_3 | exact fa_52_4 | exact fa_60_0 | exact fa_60_1 | exact fa_60_2 | exact fa_60_3 | exact fa_60_4 | exact fa_64_0 | exact fa_64_1 | exact fa_64_2 | exact fa_64_3 | exact fa_64_4 | exact fa_71_0 | exact fa_71_3 | exact fa_71_4 | exact fa_74_0 | exact fa_74_1 | exact fa_78_0 | exact fa_78_1 | exact fa_78_2 | exact fa_78_3 | exact fa_84_0 | exact fa_89_0 | exact fa_89_1 | exact fa_89_2 | exact fa_89_3 | exact fa_89_4 | exact fa_89_5) (by first | exact l1_21 | exact l1_22 | exact l1_23 | exact l1_24 | exact l1_3 | exact l1_31 | exact l1_4 | exact l1_49 | exact l1_5 | exact l1_50 | exact l1_55 | exact l1_56 | exact l1_57 | exact l1_58 | exact l1_61 | exact l1_62 | exact l1_72 | exact l1_82 | exact l1_87 | exact l1_9) (fun w' hw => h0.m.ext hw) rfl ?_
  refine yieldS.ok (fun w' _ => r_len Try.underlying62) ?_
  refine yieldS.ok (fun w' _ => r_sub) ?_
  refine yS xa_62 (by first | exact l1_21 | exact l1_22 | exact l1_23 | exact l1_24 | exact l1_3 | exact l1_31 | exact l1_4 | exact l1_49 | exact l1_5 | exact l1_50 | exact l1_55 | exact l1_56 | exact l1_57 | exact l1_58 | exact l1_61 | exact l1_62 | exact l1_72 | exact l1_82 | exact l1_87 | exact l1_9) (fun w' hw => h0.g.ext hw) (by decide) (by decide) (u := p.pf) (by rfl) ?_
  exact ⟨rfl, D1⟩
/-- What plain does with an instruction. -/
def PlainOk (p : Mch) (o a : Nat → Int) (op A pc z : Int) (st : List Int) (z' : Int) (st' : List Int) : Prop :=
  ∀ {H : Nat → Prop} {w : World} {fuel : Int} {tn : Nat}, MS p o a H w 1 pc fuel 0 z st tn → callD Try.prog 38 #[p.pm, p.pf, .agg #[i64 op, i64 A, i64 0]] w fun r w' => r = i64 (pc + 1) ∧ MS p o a H w' 1 pc fuel 0 z' st' tn ∧ Kp H w w'
theorem MS.pcs (h : MS p o a H w fl pc fuel status z st tn) : ∃ cs, Seg w p.fb p.bo cs ∧ cs[2]? = some (i64 pc) := by
  obtain ⟨sv, tv, tc, h0, _⟩ := h.ex
  exact ⟨_, h0.f, rfl⟩
theorem plain_push {A pc z : Int} {st : List Int} (hst : st.length ≤ 900) (hpc : 0 ≤ pc ∧ pc ≤ 1000) (hA : R32 A) : PlainOk p o a 1 A pc z st z (st ++ [A]) := by
  intro H w fuel tn h
  apply F38_wp
  suffices key : ∀ R : Value → World → Prop, (∀ w', MS p o a H w' 1 pc fuel 0 z (st ++ [A]) tn → Kp H w w' → R (i64 (pc + 1)) w') → F38_den p.pm p.pf (.agg #[i64 1, i64 A, i64 0]) w R from key _ fun w' h1 h2 => ⟨rfl, h1, h2⟩
  intro R hR
  unfold F38_den
  refine bx fun b w1 hb x1 => ?_
  refine ldB hb (by first | exact fa_115_0 | exact fa_115_1 | exact fa_115_2 | exact fa_115_3 | exact fa_115_4 | exact fa_115_5 | exact fa_27_0 | exact fa_27_1 | exact fa_27_2 | exact fa_48_0 | exact fa_48_1 | exact fa_48_2 | exact fa_48_3 | exact fa_52_0 | exact fa_52_1 | exact fa_52_2 | exact fa_52_3 | exact fa_52_4 | exact fa_60_0 | exact fa_60_1 | exact fa_60_2 | exact fa_60_3 | exact fa_60_4 | exact fa_64_0 | exact fa_64_1 | exact fa_64_2 | exact fa_64_3 | exact fa_64_4 | exact fa_71_0 | exact fa_71_3 | exact fa_71_4 | exact fa_74_0 | exact fa_74_1 | exact fa_78_0 | exact fa_78_1 | exact fa_78_2 | exact fa_78_3 | exact fa_84_0 | exact fa_89_0 | exact fa_89_1 | exact fa_89_2 | exact fa_89_3 | exact fa_89_4 | exact fa_89_5) (by first | exact l1_21 | exact l1_22 | exact l1_23 | exact l1_24 | exact l1_3 | exact l1_31 | exact l1_4 | exact l1_49 | exact l1_5 | exact l1_50 | exact l1_55 | exact l1_56 | exact l1_57 | exact l1_58 | exact l1_61 | exact l1_62 | exact l1_72 | exact l1_82 | exact l1_87 | exact l1_9) rfl ?_
  simp only [V_eqlI, Int.reduceEq, decide_true, decide_false, ifD_true, ifD_false]
  refine ldB hb (by first | exact fa_115_0 | exact fa_115_1 | exact fa_115_2 | exact fa_115_3 | exact fa_115_4 | exact fa_115_5 | exact fa_27_0 | exact fa_27_1 | exact fa_27_2 | exact fa_48_0 | exact fa_48_1 | exact fa_48_2 | exact fa_48_3 | exact fa_52_0 | exact fa_52_1 | exact fa_52_2 | exact fa_52_3 | exact fa_52_4 | exact fa_60_0 | exact fa_60_1 | exact fa_60_2 | exact fa_60_3 | exact fa_60_4 | exact fa_64_0 | exact fa_64_1 | exact fa_64_2 | exact fa_64_3 | exact fa_64_4 | exact fa_71_0 | exact fa_71_3 | exact fa_71_4 | exact fa_74_0 | exact fa_74_1 | exact fa_78_0 | exact fa_78_1 | exact fa_78_2 | exact fa_78_3 | exact fa_84_0 | exact fa_89_0 | exact fa_89_1 | exact fa_89_2 | exact fa_89_3 | exact fa_89_4 | exact fa_89_5) (by first | exact l1_21 | exact l1_22 | exact l1_23 | exact l1_24 | exact l1_3 | exact l1_31 | exact l1_4 | exact l1_49 | exact l1_5 | exact l1_50 | exact l1_55 | exact l1_56 | exact l1_57 | exact l1_58 | exact l1_61 | exact l1_62 | exact l1_72 | exact l1_82 | exact l1_87 | exact l1_9) rfl ?_
  refine V.ok (r_convI Try.underlying3 Try.underlying21) ?_
  rw [show IntKind.i32.wrap A = A by unfold R32 at hA; simp only [IntKind.wrap_i32]; omega]
  refine (push_ok (h.ext x1) (by omega)).mono fun r w2 ⟨h2, k2⟩ => ?_
  obtain ⟨cs, hc, hp⟩ := h2.pcs
  refine ⟨.inl ⟨_, rfl⟩, ldFS (by first | exact fa_115_0 | exact fa_115_1 | exact fa_115_2 | exact fa_115_3 | exact fa_115_4 | exact fa_115_5 | exact fa_27_0 | exact fa_27_1 | exact fa_27_2 | exact fa_48_0 | exact fa_48_1 | exact fa_48_2 | exact fa_48_3 | exact fa_52_0 | exact fa_52_1 | exact fa_52_2 | exact fa_52_3 | exact fa_52_4 | exact fa_60_0 | exact fa_60_1 | exact fa_60_2 | exact fa_60_3 | exact fa_60_4 | exact fa_64_0 | exact fa_64_1 | exact fa_64_2 | exact fa_64_3 | exact fa_64_4 | exact fa_71_0 | exact fa_71_3 | exact fa_71_4 | exact fa_74_0 | exact fa_74_1 | exact fa_78_0 | exact fa_78_1 | exact fa_78_2 | exact fa_78_3 | exact fa_84_0 | exact fa_89_0 | exact fa_89_1 | exact fa_89_2 | exact fa_89_3 | exact fa_89_4 | exact fa_89_5) (by first | exact l1_21 | exact l1_22 | exact l1_23 | exact l1_24 | exact l1_3 | exact l1_31 | exact l1_4 | exact l1_49 | exact l1_5 | exact l1_50 | exact l1_55 | exact l1_56 | exact l1_57 | exact l1_58 | exact l1_61 | exact l1_62 | exact l1_72 | exact l1_82 | exact l1_87 | exact l1_9) hc hp (V_add.2 ?_)⟩
  rw [wrap_id (by omega) (by omega)]
  exact hR _ h2 ((Kp.of_ext x1).trans k2)
theorem plain_op {op A x y pc z : Int} {st : List Int} {f : Int → Int → Int} (hf : OpF op f) (hx : R32 x) (hy : R32 y) (hst : st.length ≤ 900) (hpc : 0 ≤ pc ∧ pc ≤ 1000) : PlainOk p o a op A pc z (st ++ [x, y]) z (st ++ [f x y]) := by
  intro H w fuel tn h
  apply F38_wp
  suffices key : ∀ R : Value → World → Prop, (∀ w', MS p o a H w' 1 pc fuel 0 z (st ++ [f x y]) tn → Kp H w w' → R (i64 (pc + 1)) w') → F38_den p.pm p.pf (.agg #[i64 op, i64 A, i64 0]) w R from key _ fun w' h1 h2 => ⟨rfl, h1, h2⟩
  intro R hR
  have hr := hf.1
  unfold F38_den
  refine bx fun b w1 hb x1 => ?_
  refine ldB hb (by first | exact fa_115_0 | exact fa_115_1 | exact fa_115_2 | exact fa_115_3 | exact fa_115_4 | exact fa_115_5 | exact fa_27_0 | exact fa_27_1 | exact fa_27_2 | exact fa_48_0 | exact fa_48_1 | exact fa_48_2 | exact fa_48_3 | exact fa_52_0 | exact fa_52_1 | exact fa_52_2 | exact fa_52_3 | exact fa_52_4 | exact fa_60_0 | exact fa_60_1 | exact fa_60_2 | exact fa_60_3 | exact fa_60_4 | exact fa_64_0 | exact fa_64_1 | exact fa_64_2 | exact fa_64_3 | exact fa_64_4 | exact fa_71_0 | exact fa_71_3 | exact fa_71_4 | exact fa_74_0 | exact fa_74_1 | exact fa_78_0 | exact fa_78_1 | exact fa_78_2 | exact fa_78_3 | exact fa_84_0 | exact fa_89_0 | exact fa_89_1 | exact fa_89_2 | exact fa_89_3 | exact fa_89_4 | exact fa_89_5) (by first | exact l1_21 | exact l1_22 | exact l1_23 | exact l1_24 | exact l1_3 | exact l1_31 | exact l1_4 | exact l1_49 | exact l1_5 | exact l1_50 | exact l1_55 | exact l1_56 | exact l1_57 | exact l1_58 | exact l1_61 | exact l1_62 | exact l1_72 | exact l1_82 | exact l1_87 | exact l1_9) rfl ?_
  simp only [V_eqlI, show ¬ op = 23 by omega, show ¬ op = 24 by omega, show ¬ op = 1 by omega, show ¬ op = 2 by omega, show ¬ op = 3 by omega, show ¬ op = 4 by omega, show ¬ op = 5 by omega, show ¬ op = 25 by omega, show ¬ op = 35 by omega, show ¬ op = 33 by omega, show ¬ op = 34 by omega, decide_false, ifD_false]
  refine ldB hb (by first | exact fa_115_0 | exact fa_115_1 | exact fa_115_2 | exact fa_115_3 | exact fa_115_4 | exact fa_115_5 | exact fa_27_0 | exact fa_27_1 | exact fa_27_2 | exact fa_48_0 | exact fa_48_1 | exact fa_48_2 | exact fa_48_3 | exact fa_52_0 | exact fa_52_1 | exact fa_52_2 | exact fa_52_3 | exact fa_52_4 | exact fa_60_0 | exact fa_60_1 | exact fa_60_2 | exact fa_60_3 | exact fa_60_4 | exact fa_64_0 | exact fa_64_1 | exact fa_64_2 | exact fa_64_3 | exact fa_64_4 | exact fa_71_0 | exact fa_71_3 | exact fa_71_4 | exact fa_74_0 | exact fa_74_1 | exact fa_78_0 | exact fa_78_1 | exact fa_78_2 | exact fa_78_3 | exact fa_84_0 | exact fa_89_0 | exact fa_89_1 | exact fa_89_2 | exact fa_89_3 | exact fa_89_4 | exact fa_89_5) (by first | exact l1_21 | exact l1_22 | exact l1_23 | exact l1_24 | exact l1_3 | exact l1_31 | exact l1_4 | exact l1_49 | exact l1_5 | exact l1_50 | exact l1_55 | exact l1_56 | exact l1_57 | exact l1_58 | exact l1_61 | exact l1_62 | exact l1_72 | exact l1_82 | exact l1_87 | exact l1_9) rfl ?_
  refine (number_ok hf hx hy (h.ext x1) hst).mono fun r w2 ⟨hr, h2, k2⟩ => ?_
  subst hr
  refine (push_ok h2 (by omega)).mono fun r w3 ⟨h3, k3⟩ => ?_
  obtain ⟨cs, hc, hp⟩ := h3.pcs
  refine ⟨.inl ⟨_, rfl⟩, ldFS (by first | exact fa_115_0 | exact fa_115_1 | exact fa_115_2 | exact fa_115_3 | exact fa_115_4 | exact fa_115_5 | exact fa_27_0 | exact fa_27_1 | exact fa_27_2 | exact fa_48_0 | exact fa_48_1 | exact fa_48_2 | exact fa_48_3 | exact fa_52_0 | exact fa_52_1 | exact fa_52_2 | exact fa_52_3 | exact fa_52_4 | exact fa_60_0 | exact fa_60_1 | exact fa_60_2 | exact fa_60_3 | exact fa_60_4 | exact fa_64_0 | exact fa_64_1 | exact fa_64_2 | exact fa_64_3 | exact fa_64_4 | exact fa_71_0 | exact fa_71_3 | exact fa_71_4 | exact fa_74_0 | exact fa_74_1 | exact fa_78_0 | exact fa_78_1 | exact fa_78_2 | exact fa_78_3 | exact fa_84_0 | exact fa_89_0 | exact fa_89_1 | exact fa_89_2 | exact fa_89_3 | exact fa_89_4 | exact fa_89_5) (by first | exact l1_21 | exact l1_22 | exact l1_23 | exact l1_24 | exact l1_3 | exact l1_31 | exact l1_4 | exact l1_49 | exact l1_5 | exact l1_50 | exact l1_55 | exact l1_56 | exact l1_57 | exact l1_58 | exact l1_61 | exact l1_62 | exact l1_72 | exact l1_82 | exact l1_87 | exact l1_9) hc hp (V_add.2 ?_)⟩
  rw [wrap_id (by omega) (by omega)]
  exact hR _ h3 (((Kp.of_ext x1).trans k2).trans k3)
/-- The one field. -/
theorem fieldE_ok {sv tv : Value} (h : MS0 p o a w fl pc fuel status z sv tv) : callD Try.prog 8 #[p.pr, i64 0, i64 0] w fun r w' => r = .tuple #[i32 z, .bool true] ∧ w' = w := by
  apply F8_wp
  unfold F8_den
  refine V_lss.2 ?_
  simp only [show ¬ ((0 : Int) < 0) by omega, gd_f, pickD_iff, reduceIte, Bool.false_eq_true, decide_false]
  refine ⟨.inl ⟨_, rfl⟩, ?_⟩
  refine ldFS (by first | exact fa_115_0 | exact fa_115_1 | exact fa_115_2 | exact fa_115_3 | exact fa_115_4 | exact fa_115_5 | exact fa_27_0 | exact fa_27_1 | exact fa_27_2 | exact fa_48_0 | exact fa_48_1 | exact fa_48_2 | exact fa_48_3 | exact fa_52_0 | exact fa_52_1 | exact fa_52_2 | exact fa_52_3 | exact fa_52_4 | exact fa_60_0 | exact fa_60_1 | exact fa_60_2 | exact fa_60_3 | exact fa_60_4 | exact fa_64_0 | exact fa_64_1 | exact fa_64_2 | exact fa_64_3 | exact fa_64_4 | exact fa_71_0 | exact fa_71_3 | exact fa_71_4 | exact fa_74_0 | exact fa_74_1 | exact fa_78_0 | exact fa_78_1 | exact fa_78_2 | exact fa_78_3 | exact fa_84_0 | exact fa_89_0 | exact fa_89_1 | exact fa_89_2 | exact fa_89_3 | exact fa_89_4 | exact fa_89_5) (by first | exact l1_21 | exact l1_22 | exact l1_23 | exact l1_24 | exact l1_3 | exact l1_31 | exact l1_4 | exact l1_49 | exact l1_5 | exact l1_50 | exact l1_55 | exact l1_56 | exact l1_57 | exact l1_58 | exact l1_61 | exact l1_62 | exact l1_72 | exact l1_82 | exact l1_87 | exact l1_9) h.r rfl (V_ln_57.2 ?_)
  simp only [show ¬ ((0 : Int) ≥ ((1 : Nat) : Int)) by omega, V_lss, V_geq, gd_f, pickD_iff, reduceIte, Bool.false_eq_true, decide_false]
  simp only [show ¬ ((0 : Int) < 0) by omega, gd_f, reduceIte, Bool.false_eq_true, decide_false]
  refine ⟨.inl ⟨_, rfl⟩, ?_⟩
  refine ldFS (by first | exact fa_115_0 | exact fa_115_1 | exact fa_115_2 | exact fa_115_3 | exact fa_115_4 | exact fa_115_5 | exact fa_27_0 | exact fa_27_1 | exact fa_27_2 | exact fa_48_0 | exact fa_48_1 | exact fa_48_2 | exact fa_48_3 | exact fa_52_0 | exact fa_52_1 | exact fa_52_2 | exact fa_52_3 | exact fa_52_4 | exact fa_60_0 | exact fa_60_1 | exact fa_60_2 | exact fa_60_3 | exact fa_60_4 | exact fa_64_0 | exact fa_64_1 | exact fa_64_2 | exact fa_64_3 | exact fa_64_4 | exact fa_71_0 | exact fa_71_3 | exact fa_71_4 | exact fa_74_0 | exact fa_74_1 | exact fa_78_0 | exact fa_78_1 | exact fa_78_2 | exact fa_78_3 | exact fa_84_0 | exact fa_89_0 | exact fa_89_1 | exact fa_89_2 | exact fa_89_3 | exact fa_89_4 | exact fa_89_5) (by first | exact l1_21 | exact l1_22 | exact l1_23 | exact l1_24 | exact l1_3 | exact l1_31 | exact l1_4 | exact l1_49 | exact l1_5 | exact l1_50 | exact l1_55 | exact l1_56 | exact l1_57 | exact l1_58 | exact l1_61 | exact l1_62 | exact l1_72 | exact l1_82 | exact l1_87 | exact l1_9) h.r rfl ?_
  refine ldS xa_57 (by first | exact l1_21 | exact l1_22 | exact l1_23 | exact l1_24 | exact l1_3 | exact l1_31 | exact l1_4 | exact l1_49 | exact l1_5 | exact l1_50 | exact l1_55 | exact l1_56 | exact l1_57 | exact l1_58 | exact l1_61 | exact l1_62 | exact l1_72 | exact l1_82 | exact l1_87 | exact l1_9) h.rf (by omega) (by omega) rfl ?_
  refine V_ln_22.2 ?_
  simp only [show ¬ ((0 : Int) ≥ ((1 : Nat) : Int)) by omega, V_geq, ifD_false, decide_false]
  refine ⟨.inl ⟨_, rfl⟩, ?_⟩
  refine ldFS (by first | exact fa_115_0 | exact fa_115_1 | exact fa_115_2 | exact fa_115_3 | exact fa_115_4 | exact fa_115_5 | exact fa_27_0 | exact fa_27_1 | exact fa_27_2 | exact fa_48_0 | exact fa_48_1 | exact fa_48_2 | exact fa_48_3 | exact fa_52_0 | exact fa_52_1 | exact fa_52_2 | exact fa_52_3 | exact fa_52_4 | exact fa_60_0 | exact fa_60_1 | exact fa_60_2 | exact fa_60_3 | exact fa_60_4 | exact fa_64_0 | exact fa_64_1 | exact fa_64_2 | exact fa_64_3 | exact fa_64_4 | exact fa_71_0 | exact fa_71_3 | exact fa_71_4 | exact fa_74_0 | exact fa_74_1 | exact fa_78_0 | exact fa_78_1 | exact fa_78_2 | exact fa_78_3 | exact fa_84_0 | exact fa_89_0 | exact fa_89_1 | exact fa_89_2 | exact fa_89_3 | exact fa_89_4 | exact fa_89_5) (by first | exact l1_21 | exact l1_22 | exact l1_23 | exact l1_24 | exact l1_3 | exact l1_31 | exact l1_4 | exact l1_49 | exact l1_5 | exact l1_50 | exact l1_55 | exact l1_56 | exact l1_57 | exact l1_58 | exact l1_61 | exact l1_62 | exact l1_72 | exact l1_82 | exact l1_87 | exact l1_9) h.r rfl ?_
  refine ldS xa_57 (by first | exact l1_21 | exact l1_22 | exact l1_23 | exact l1_24 | exact l1_3 | exact l1_31 | exact l1_4 | exact l1_49 | exact l1_5 | exact l1_50 | exact l1_55 | exact l1_56 | exact l1_57 | exact l1_58 | exact l1_61 | exact l1_62 | exact l1_72 | exact l1_82 | exact l1_87 | exact l1_9) h.rf (by omega) (by omega) rfl ?_
  refine ldS xa_22 (by first | exact l1_21 | exact l1_22 | exact l1_23 | exact l1_24 | exact l1_3 | exact l1_31 | exact l1_4 | exact l1_49 | exact l1_5 | exact l1_50 | exact l1_55 | exact l1_56 | exact l1_57 | exact l1_58 | exact l1_61 | exact l1_62 | exact l1_72 | exact l1_82 | exact l1_87 | exact l1_9) h.z (by omega) (by omega) rfl ?_
  exact ⟨rfl, rfl⟩
theorem setE_ok (h : MS p o a H w fl pc fuel status z st tn) {n : Int} : callD Try.prog 44 #[p.pr, i64 0, i64 0, i32 n] w fun r w' => MS p o a H w' fl pc fuel status n st tn ∧ Kp H w w' := by
  obtain ⟨sv, tv, tc, h0, hs, ht, h1, sf, tf, stf, hh⟩ := h.ex
  apply F44_wp
  unfold F44_den
  refine (fieldE_ok h0).mono fun r w' ⟨hr, hw⟩ => ?_
  subst hr; have hw := hw.symm; subst hw
  refine V_ext0.2 (V_ext1.2 (V_not.2 (ifD_false.2 ⟨.inl ⟨_, rfl⟩, ?_⟩)))
  refine ldFS (by first | exact fa_115_0 | exact fa_115_1 | exact fa_115_2 | exact fa_115_3 | exact fa_115_4 | exact fa_115_5 | exact fa_27_0 | exact fa_27_1 | exact fa_27_2 | exact fa_48_0 | exact fa_48_1 | exact fa_48_2 | exact fa_48_3 | exact fa_52_0 | exact fa_52_1 | exact fa_52_2 | exact fa_52_3 | exact fa_52_4 | exact fa_60_0 | exact fa_60_1 | exact fa_60_2 | exact fa_60_3 | exact fa_60_4 | exact fa_64_0 | exact fa_64_1 | exact fa_64_2 | exact fa_64_3 | exact fa_64_4 | exact fa_71_0 | exact fa_71_3 | exact fa_71_4 | exact fa_74_0 | exact fa_74_1 | exact fa_78_0 | exact fa_78_1 | exact fa_78_2 | exact fa_78_3 | exact fa_84_0 | exact fa_89_0 | exact fa_89_1 | exact fa_89_2 | exact fa_89_3 | exact fa_89_4 | exact fa_89_5) (by first | exact l1_21 | exact l1_22 | exact l1_23 | exact l1_24 | exact l1_3 | exact l1_31 | exact l1_4 | exact l1_49 | exact l1_5 | exact l1_50 | exact l1_55 | exact l1_56 | exact l1_57 | exact l1_58 | exact l1_61 | exact l1_62 | exact l1_72 | exact l1_82 | exact l1_87 | exact l1_9) h0.r rfl ?_
  refine ldS xa_57 (by first | exact l1_21 | exact l1_22 | exact l1_23 | exact l1_24 | exact l1_3 | exact l1_31 | exact l1_4 | exact l1_49 | exact l1_5 | exact l1_50 | exact l1_55 | exact l1_56 | exact l1_57 | exact l1_58 | exact l1_61 | exact l1_62 | exact l1_72 | exact l1_82 | exact l1_87 | exact l1_9) h0.rf (by omega) (by omega) rfl ?_
  refine stS (n := 1) xa_22 inf21 h0.z rfl (by omega) (by omega) rfl ?_
  obtain ⟨h2, f2⟩ := h0.setZ (z' := n)
  have F : Kp H w _ := f2.mono fun i hi hH => (hh i hH).2.1.2.2.2.2.2.2.2 hi
  exact ⟨⟨sv, tv, tc, h2, f2.own hs fun i hi hs => (sf i hi).2.2.2.2.2.2.2 hs, f2.own ht fun i hi hs => (tf i hi).2.2.2.2.2.2.2 hs, h1, sf, tf, stf, fun i hi => ⟨Nat.lt_of_lt_of_le (hh i hi).1 f2.size, (hh i hi).2⟩⟩, F⟩
theorem plain_putf {n pc z : Int} {st : List Int} (hst : st.length ≤ 900) (hpc : 0 ≤ pc ∧ pc ≤ 1000) : PlainOk p o a 34 0 pc z (st ++ [n]) n st := by
  intro H w fuel tn h
  apply F38_wp
  suffices key : ∀ R : Value → World → Prop, (∀ w', MS p o a H w' 1 pc fuel 0 n st tn → Kp H w w' → R (i64 (pc + 1)) w') → F38_den p.pm p.pf (.agg #[i64 34, i64 0, i64 0]) w R from key _ fun w' h1 h2 => ⟨rfl, h1, h2⟩
  intro R hR
  unfold F38_den
  refine bxK fun w1 hb x1 => ?_
  refine ldB hb.boxed (by first | exact fa_115_0 | exact fa_115_1 | exact fa_115_2 | exact fa_115_3 | exact fa_115_4 | exact fa_115_5 | exact fa_27_0 | exact fa_27_1 | exact fa_27_2 | exact fa_48_0 | exact fa_48_1 | exact fa_48_2 | exact fa_48_3 | exact fa_52_0 | exact fa_52_1 | exact fa_52_2 | exact fa_52_3 | exact fa_52_4 | exact fa_60_0 | exact fa_60_1 | exact fa_60_2 | exact fa_60_3 | exact fa_60_4 | exact fa_64_0 | exact fa_64_1 | exact fa_64_2 | exact fa_64_3 | exact fa_64_4 | exact fa_71_0 | exact fa_71_3 | exact fa_71_4 | exact fa_74_0 | exact fa_74_1 | exact fa_78_0 | exact fa_78_1 | exact fa_78_2 | exact fa_78_3 | exact fa_84_0 | exact fa_89_0 | exact fa_89_1 | exact fa_89_2 | exact fa_89_3 | exact fa_89_4 | exact fa_89_5) (by first | exact l1_21 | exact l1_22 | exact l1_23 | exact l1_24 | exact l1_3 | exact l1_31 | exact l1_4 | exact l1_49 | exact l1_5 | exact l1_50 | exact l1_55 | exact l1_56 | exact l1_57 | exact l1_58 | exact l1_61 | exact l1_62 | exact l1_72 | exact l1_82 | exact l1_87 | exact l1_9) rfl ?_
  simp only [V_eqlI, Int.reduceEq, decide_true, decide_false, ifD_true, ifD_false]
  have D1 : Ext w1 w1.drew := (Ext.refl _).drew
  have hk := (h.keep x1 (Nat.le_refl _) hb.lt).ext D1
  have st0 : ∀ {w' : World} {z : Int} {st : List Int}, MS p o a (fun i => H i ∨ i = w.heap.size) w' 1 pc fuel 0 z st tn → ∃ sv tv z, MS0 p o a w' 1 pc fuel 0 z sv tv := fun h => by
    obtain ⟨sv, tv, tc, h0, _⟩ := h.ex
    exact ⟨sv, tv, _, h0⟩
  refine drawD.mk' (fun w' => (∃ sv tv z, MS0 p o a w' 1 pc fuel 0 z sv tv) ∧ Blk w' w.heap.size [i64 34, i64 0, i64 0] 27) ⟨st0 hk, hb.ext D1⟩ ⟨.inl ⟨_, rfl⟩, ?_⟩
  refine yFE (by first | exact fa_115_0 | exact fa_115_1 | exact fa_115_2 | exact fa_115_3 | exact fa_115_4 | exact fa_115_5 | exact fa_27_0 | exact fa_27_1 | exact fa_27_2 | exact fa_48_0 | exact fa_48_1 | exact fa_48_2 | exact fa_48_3 | exact fa_52_0 | exact fa_52_1 | exact fa_52_2 | exact fa_52_3 | exact fa_52_4 | exact fa_60_0 | exact fa_60_1 | exact fa_60_2 | exact fa_60_3 | exact fa_60_4 | exact fa_64_0 | exact fa_64_1 | exact fa_64_2 | exact fa_64_3 | exact fa_64_4 | exact fa_71_0 | exact fa_71_3 | exact fa_71_4 | exact fa_74_0 | exact fa_74_1 | exact fa_78_0 | exact fa_78_1 | exact fa_78_2 | exact fa_78_3 | exact fa_84_0 | exact fa_89_0 | exact fa_89_1 | exact fa_89_2 | exact fa_89_3 | exact fa_89_4 | exact fa_89_5) (by first | exact l1_21 | exact l1_22 | exact l1_23 | exact l1_24 | exact l1_3 | exact l1_31 | exact l1_4 | exact l1_49 | exact l1_5 | exact l1_50 | exact l1_55 | exact l1_56 | exact l1_57 | exact l1_58 | exact l1_61 | exact l1_62 | exact l1_72 | exact l1_82 | exact l1_87 | exact l1_9) (fun w' ⟨⟨_, _, _, h0⟩, _⟩ => ⟨_, h0.m, rfl⟩) ⟨.inl ⟨_, rfl⟩, ?_⟩
  refine yFE (by first | exact fa_115_0 | exact fa_115_1 | exact fa_115_2 | exact fa_115_3 | exact fa_115_4 | exact fa_115_5 | exact fa_27_0 | exact fa_27_1 | exact fa_27_2 | exact fa_48_0 | exact fa_48_1 | exact fa_48_2 | exact fa_48_3 | exact fa_52_0 | exact fa_52_1 | exact fa_52_2 | exact fa_52_3 | exact fa_52_4 | exact fa_60_0 | exact fa_60_1 | exact fa_60_2 | exact fa_60_3 | exact fa_60_4 | exact fa_64_0 | exact fa_64_1 | exact fa_64_2 | exact fa_64_3 | exact fa_64_4 | exact fa_71_0 | exact fa_71_3 | exact fa_71_4 | exact fa_74_0 | exact fa_74_1 | exact fa_78_0 | exact fa_78_1 | exact fa_78_2 | exact fa_78_3 | exact fa_84_0 | exact fa_89_0 | exact fa_89_1 | exact fa_89_2 | exact fa_89_3 | exact fa_89_4 | exact fa_89_5) (by first | exact l1_21 | exact l1_22 | exact l1_23 | exact l1_24 | exact l1_3 | exact l1_31 | exact l1_4 | exact l1_49 | exact l1_5 | exact l1_50 | exact l1_55 | exact l1_56 | exact l1_57 | exact l1_58 | exact l1_61 | exact l1_62 | exact l1_72 | exact l1_82 | exact l1_87 | exact l1_9) (fun w' ⟨⟨_, _, _, h0⟩, _⟩ => ⟨_, h0.f, rfl⟩) ?_
  refine yfB (fun w' hw => hw.2.boxed) (by first | exact fa_115_0 | exact fa_115_1 | exact fa_115_2 | exact fa_115_3 | exact fa_115_4 | exact fa_115_5 | exact fa_27_0 | exact fa_27_1 | exact fa_27_2 | exact fa_48_0 | exact fa_48_1 | exact fa_48_2 | exact fa_48_3 | exact fa_52_0 | exact fa_52_1 | exact fa_52_2 | exact fa_52_3 | exact fa_52_4 | exact fa_60_0 | exact fa_60_1 | exact fa_60_2 | exact fa_60_3 | exact fa_60_4 | exact fa_64_0 | exact fa_64_1 | exact fa_64_2 | exact fa_64_3 | exact fa_64_4 | exact fa_71_0 | exact fa_71_3 | exact fa_71_4 | exact fa_74_0 | exact fa_74_1 | exact fa_78_0 | exact fa_78_1 | exact fa_78_2 | exact fa_78_3 | exact fa_84_0 | exact fa_89_0 | exact fa_89_1 | exact fa_89_2 | exact fa_89_3 | exact fa_89_4 | exact fa_89_5) (by first | exact l1_21 | exact l1_22 | exact l1_23 | exact l1_24 | exact l1_3 | exact l1_31 | exact l1_4 | exact l1_49 | exact l1_5 | exact l1_50 | exact l1_55 | exact l1_56 | exact l1_57 | exact l1_58 | exact l1_61 | exact l1_62 | exact l1_72 | exact l1_82 | exact l1_87 | exact l1_9) rfl ?_
  refine (one_ok hk hst).mono fun r w2 ⟨hr, h2, k2⟩ => ?_
  subst hr
  have hb2 : Blk w2 w.heap.size [i64 34, i64 0, i64 0] 27 := k2.blk (hb.ext D1) fun hn => hn (.inr rfl)
  refine ⟨⟨st0 h2, hb2⟩, ?_⟩
  refine (setE_ok h2).mono fun r w3 ⟨h3, k3⟩ => ?_
  refine ⟨⟨st0 h3, k3.blk hb2 fun hn => hn (.inr rfl)⟩, ⟨.inl ⟨_, rfl⟩, ?_⟩⟩
  obtain ⟨cs, hc, hp⟩ := h3.pcs
  refine ldFS (by first | exact fa_115_0 | exact fa_115_1 | exact fa_115_2 | exact fa_115_3 | exact fa_115_4 | exact fa_115_5 | exact fa_27_0 | exact fa_27_1 | exact fa_27_2 | exact fa_48_0 | exact fa_48_1 | exact fa_48_2 | exact fa_48_3 | exact fa_52_0 | exact fa_52_1 | exact fa_52_2 | exact fa_52_3 | exact fa_52_4 | exact fa_60_0 | exact fa_60_1 | exact fa_60_2 | exact fa_60_3 | exact fa_60_4 | exact fa_64_0 | exact fa_64_1 | exact fa_64_2 | exact fa_64_3 | exact fa_64_4 | exact fa_71_0 | exact fa_71_3 | exact fa_71_4 | exact fa_74_0 | exact fa_74_1 | exact fa_78_0 | exact fa_78_1 | exact fa_78_2 | exact fa_78_3 | exact fa_84_0 | exact fa_89_0 | exact fa_89_1 | exact fa_89_2 | exact fa_89_3 | exact fa_89_4 | exact fa_89_5) (by first | exact l1_21 | exact l1_22 | exact l1_23 | exact l1_24 | exact l1_3 | exact l1_31 | exact l1_4 | exact l1_49 | exact l1_5 | exact l1_50 | exact l1_55 | exact l1_56 | exact l1_57 | exact l1_58 | exact l1_61 | exact l1_62 | exact l1_72 | exact l1_82 | exact l1_87 | exact l1_9) hc hp (V_add.2 ?_)
  rw [wrap_id (by omega) (by omega)]
  have low : ∀ {a b : World}, Kp (fun i => H i ∨ i = w.heap.size) a b → Kp H a b := fun f => f.mono fun i hi hH => hi (.inl hH)
  exact hR _ (h3.less fun i hi => .inl hi) (((Kp.of_ext (x1.trans D1)).trans (low k2)).trans (low k3))
end Go.Proofs.Ytbhnelajekgliaa
