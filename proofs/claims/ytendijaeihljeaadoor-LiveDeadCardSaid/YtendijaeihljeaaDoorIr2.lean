/- Contracts: which nodes may be. -/
import Derived.Test.YtendijaeihljeaaDoorIr1
namespace Go.Proofs.YtendijaeihljeaaDoor
open Go.Vc

def serves (op : Int) : Int :=
  if op = 27 ∨ op = 28 then 1 else if op = 17 ∨ op = 18 ∨ op = 29 then 2 else if op = 30 ∨ op = 36 then 3 else if op = 31 ∨ op = 32 then 5 else -1
def okBin (op : Int) : Prop := (6 ≤ op ∧ op ≤ 14) ∨ (19 ≤ op ∧ op ≤ 21)
def okUn (op : Int) : Prop := op = 15 ∨ op = 16 ∨ op = 26
def GNode.okF : GNode → Prop
  | .bin op _ _ _ => okBin op
  | .un op _ _ => okUn op
  | .getField _ f => 0 ≤ f ∧ f < 8
  | .putField f _ => 0 ≤ f ∧ f < 8
  | .serve op _ _ _ l => serves op = l.length
  | .call m _ l => (0 ≤ m ∧ m < 8) ∧ l.length ≤ 4
  | .callX i _ l => (0 ≤ i ∧ i < 4) ∧ l.length ≤ 4
  | _ => True
def GNode.bareN : GNode → Bool
  | .const _ _ | .move _ _ | .bin _ _ _ _ | .un _ _ _ | .choose _ _ _ _ | .getField _ _ => false
  | _ => true

theorem binary_ok {op : Int} {w : World} : callD Tryd.prog 70 #[i64 op] w fun r w' => (∃ b, r = .bool b ∧ (b = true ↔ okBin op)) ∧ w' = w := by
  apply F70_wp
  have key : ∀ R : Value → World → Prop, (∀ b : Bool, (b = true ↔ okBin op) → R (.bool b) w) → F70_den (i64 op) w R := by
    intro R hR
    unfold F70_den
    by_cases h1 : op ≥ 6 <;> by_cases h2 : op ≤ 14 <;> by_cases h3 : op ≥ 19 <;> by_cases h4 : op ≤ 21 <;>
      simp only [h1, h2, h3, h4, V_leq, V_geq, gd_t, gd_f, gd_tf, gd_ft, gd_undef, pickD_iff, reduceIte, Bool.false_eq_true, decide_true, decide_false] <;> exact hR _ (by simp [okBin]; omega)
  exact key _ fun b hb => ⟨⟨b, rfl, hb⟩, rfl⟩
theorem unary_ok {op : Int} {w : World} : callD Tryd.prog 71 #[i64 op] w fun r w' => (∃ b, r = .bool b ∧ (b = true ↔ okUn op)) ∧ w' = w := by
  apply F71_wp
  have key : ∀ R : Value → World → Prop, (∀ b : Bool, (b = true ↔ okUn op) → R (.bool b) w) → F71_den (i64 op) w R := by
    intro R hR
    unfold F71_den
    rcases Bool.eq_false_or_eq_true (decide (op = 15)) with e1 | e1 <;> rcases Bool.eq_false_or_eq_true (decide (op = 16)) with e2 | e2 <;> rcases Bool.eq_false_or_eq_true (decide (op = 26)) with e3 | e3 <;>
      simp only [e1, e2, e3, V_eqlI, gd_f, gd_tf, pickD_iff, reduceIte, Bool.false_eq_true] <;> exact hR _ (by simp at e1 e2 e3; simp [okUn]; omega)
  exact key _ fun b hb => ⟨⟨b, rfl, hb⟩, rfl⟩
theorem serves_ok {op : Int} {w : World} : callD Tryd.prog 72 #[i64 op] w fun r w' => r = i64 (serves op) ∧ w' = w := by
  apply F72_wp
  unfold F72_den
  refine ⟨fun v w' => v = .bool (decide (op = 27 ∨ op = 28)) ∧ w' = w, ?_, ?_⟩
  · refine V_eqlI.2 (ifD_dec (fun h => ?_) fun h => V_eqlI.2 ?_) <;> exact ⟨by simp [h], rfl⟩
  rintro _ w1 ⟨rfl, rfl⟩ _
  refine ifD_dec (fun h => ⟨by simp [serves, h], rfl⟩) fun h1 => ?_
  refine ⟨fun v w' => v = .bool (decide (op = 17 ∨ op = 18 ∨ op = 29)) ∧ w' = w1, ?_, ?_⟩
  · refine V_eqlI.2 (ifD_dec (fun h => ?_) fun h => V_eqlI.2 (ifD_dec (fun h' => ?_) fun h' => V_eqlI.2 ?_))
    · exact ⟨by simp [h], rfl⟩
    · exact ⟨by simp [h'], rfl⟩
    · exact ⟨by simp [h, h'], rfl⟩
  rintro _ w2 ⟨rfl, rfl⟩ _
  refine ifD_dec (fun h => ⟨by simp [serves, h1, h], rfl⟩) fun h2 => ?_
  refine ⟨fun v w' => v = .bool (decide (op = 30 ∨ op = 36)) ∧ w' = w2, ?_, ?_⟩
  · refine V_eqlI.2 (ifD_dec (fun h => ?_) fun h => V_eqlI.2 ?_) <;> exact ⟨by simp [h], rfl⟩
  rintro _ w3 ⟨rfl, rfl⟩ _
  refine ifD_dec (fun h => ⟨by simp [serves, h1, h2, h], rfl⟩) fun h3 => ?_
  refine V_eqlI.2 (ifD_dec (fun h => ?_) fun h => ?_)
  · exact ifD_dec (fun _ => ⟨by subst h; rfl, rfl⟩) fun h' => absurd h h'
  refine V_eqlI.2 (ifD_dec (fun h' => ?_) fun h' => ?_)
  · exact ⟨by subst h'; rfl, rfl⟩
  · exact ⟨by simp [serves, h1, h2, h3, h, h'], rfl⟩

theorem len_args {n : GNode} {w : World} {sv : Value} (h : IntsAre w sv n.args) : ∃ a c, sv = .slice a n.args.length c := h.shape

theorem fields_ok {n : GNode} {v : Value} {w : World} (h : NodeIs w v n) : callD Tryd.prog 52 #[v] w fun r w' => (∃ b, r = .bool b ∧ (b = true ↔ n.okF)) ∧ Ext w w' := by
  obtain ⟨sv, rfl, hs⟩ := h
  obtain ⟨sa, sc, rfl⟩ := hs.shape
  apply F52_wp
  unfold F52_den
  cases n with
  | bin op _ _ _ =>
    dsimp only [GNode.val]; (repeat (first | (with_reducible refine th (by first | exact ta_108 | exact ta_110 | exact ta_112 | exact ta_114 | exact ta_116 | exact ta_50 | exact ta_54 | exact ta_61 | exact ta_68 | exact ta_91 | exact ta_93 | exact ta_95 | exact ta_97 | exact ta_99) ?_) | ((with_reducible refine tm (by first | exact ta_108 | exact ta_110 | exact ta_112 | exact ta_114 | exact ta_116 | exact ta_50 | exact ta_54 | exact ta_61 | exact ta_68 | exact ta_91 | exact ta_93 | exact ta_95 | exact ta_97 | exact ta_99) (by decide) ?_); intro _ _ _))); refine asB (by first | exact sa_108 | exact sa_110 | exact sa_112 | exact sa_114 | exact sa_116 | exact sa_120 | exact sa_26 | exact sa_28 | exact sa_37 | exact sa_44 | exact sa_50 | exact sa_54 | exact sa_61 | exact sa_68 | exact sa_70 | exact sa_76 | exact sa_91 | exact sa_93 | exact sa_95 | exact sa_97 | exact sa_99) rfl rfl fun b w1 hb x1 => ?_; refine ldB hb (by first | exact fa_108_0 | exact fa_108_1 | exact fa_110_0 | exact fa_110_1 | exact fa_112_0 | exact fa_112_1 | exact fa_112_2 | exact fa_112_3 | exact fa_112_4 | exact fa_114_0 | exact fa_114_1 | exact fa_114_2 | exact fa_116_0 | exact fa_116_1 | exact fa_116_2 | exact fa_26_0 | exact fa_26_1 | exact fa_26_2 | exact fa_37_0 | exact fa_37_1 | exact fa_44_0 | exact fa_44_1 | exact fa_44_2 | exact fa_54_0 | exact fa_61_0 | exact fa_61_1 | exact fa_68_0 | exact fa_68_1 | exact fa_68_2 | exact fa_68_3 | exact fa_70_0 | exact fa_70_1 | exact fa_70_2 | exact fa_76_0 | exact fa_76_1 | exact fa_76_2 | exact fa_76_3 | exact fa_76_6 | exact fa_76_7 | exact fa_82_0 | exact fa_82_1 | exact fa_82_2 | exact fa_82_3 | exact fa_82_4 | exact fa_82_5 | exact fa_82_6 | exact fa_82_7 | exact fa_82_8 | exact fa_91_0 | exact fa_91_1 | exact fa_93_0 | exact fa_93_1 | exact fa_93_2 | exact fa_95_0 | exact fa_95_1 | exact fa_95_2 | exact fa_95_3 | exact fa_97_0 | exact fa_99_0 | exact fa_99_1) (by first | exact l1_21 | exact l1_24 | exact l1_28 | exact l1_3 | exact l1_35 | exact l1_4 | exact l1_42 | exact l1_52 | exact l1_58) rfl ?_
    exact binary_ok.mono fun r w2 ⟨h1, h2⟩ => ⟨h1, h2 ▸ x1⟩
  | un op _ _ =>
    dsimp only [GNode.val]; (repeat (first | (with_reducible refine th (by first | exact ta_108 | exact ta_110 | exact ta_112 | exact ta_114 | exact ta_116 | exact ta_50 | exact ta_54 | exact ta_61 | exact ta_68 | exact ta_91 | exact ta_93 | exact ta_95 | exact ta_97 | exact ta_99) ?_) | ((with_reducible refine tm (by first | exact ta_108 | exact ta_110 | exact ta_112 | exact ta_114 | exact ta_116 | exact ta_50 | exact ta_54 | exact ta_61 | exact ta_68 | exact ta_91 | exact ta_93 | exact ta_95 | exact ta_97 | exact ta_99) (by decide) ?_); intro _ _ _))); refine asB (by first | exact sa_108 | exact sa_110 | exact sa_112 | exact sa_114 | exact sa_116 | exact sa_120 | exact sa_26 | exact sa_28 | exact sa_37 | exact sa_44 | exact sa_50 | exact sa_54 | exact sa_61 | exact sa_68 | exact sa_70 | exact sa_76 | exact sa_91 | exact sa_93 | exact sa_95 | exact sa_97 | exact sa_99) rfl rfl fun b w1 hb x1 => ?_; refine ldB hb (by first | exact fa_108_0 | exact fa_108_1 | exact fa_110_0 | exact fa_110_1 | exact fa_112_0 | exact fa_112_1 | exact fa_112_2 | exact fa_112_3 | exact fa_112_4 | exact fa_114_0 | exact fa_114_1 | exact fa_114_2 | exact fa_116_0 | exact fa_116_1 | exact fa_116_2 | exact fa_26_0 | exact fa_26_1 | exact fa_26_2 | exact fa_37_0 | exact fa_37_1 | exact fa_44_0 | exact fa_44_1 | exact fa_44_2 | exact fa_54_0 | exact fa_61_0 | exact fa_61_1 | exact fa_68_0 | exact fa_68_1 | exact fa_68_2 | exact fa_68_3 | exact fa_70_0 | exact fa_70_1 | exact fa_70_2 | exact fa_76_0 | exact fa_76_1 | exact fa_76_2 | exact fa_76_3 | exact fa_76_6 | exact fa_76_7 | exact fa_82_0 | exact fa_82_1 | exact fa_82_2 | exact fa_82_3 | exact fa_82_4 | exact fa_82_5 | exact fa_82_6 | exact fa_82_7 | exact fa_82_8 | exact fa_91_0 | exact fa_91_1 | exact fa_93_0 | exact fa_93_1 | exact fa_93_2 | exact fa_95_0 | exact fa_95_1 | exact fa_95_2 | exact fa_95_3 | exact fa_97_0 | exact fa_99_0 | exact fa_99_1) (by first | exact l1_21 | exact l1_24 | exact l1_28 | exact l1_3 | exact l1_35 | exact l1_4 | exact l1_42 | exact l1_52 | exact l1_58) rfl ?_
    exact unary_ok.mono fun r w2 ⟨h1, h2⟩ => ⟨h1, h2 ▸ x1⟩
  | getField _ f | putField f _ =>
    dsimp only [GNode.val]; (repeat (first | (with_reducible refine th (by first | exact ta_108 | exact ta_110 | exact ta_112 | exact ta_114 | exact ta_116 | exact ta_50 | exact ta_54 | exact ta_61 | exact ta_68 | exact ta_91 | exact ta_93 | exact ta_95 | exact ta_97 | exact ta_99) ?_) | ((with_reducible refine tm (by first | exact ta_108 | exact ta_110 | exact ta_112 | exact ta_114 | exact ta_116 | exact ta_50 | exact ta_54 | exact ta_61 | exact ta_68 | exact ta_91 | exact ta_93 | exact ta_95 | exact ta_97 | exact ta_99) (by decide) ?_); intro _ _ _))); refine asB (by first | exact sa_108 | exact sa_110 | exact sa_112 | exact sa_114 | exact sa_116 | exact sa_120 | exact sa_26 | exact sa_28 | exact sa_37 | exact sa_44 | exact sa_50 | exact sa_54 | exact sa_61 | exact sa_68 | exact sa_70 | exact sa_76 | exact sa_91 | exact sa_93 | exact sa_95 | exact sa_97 | exact sa_99) rfl rfl fun b w1 hb x1 => ?_; refine ldB hb (by first | exact fa_108_0 | exact fa_108_1 | exact fa_110_0 | exact fa_110_1 | exact fa_112_0 | exact fa_112_1 | exact fa_112_2 | exact fa_112_3 | exact fa_112_4 | exact fa_114_0 | exact fa_114_1 | exact fa_114_2 | exact fa_116_0 | exact fa_116_1 | exact fa_116_2 | exact fa_26_0 | exact fa_26_1 | exact fa_26_2 | exact fa_37_0 | exact fa_37_1 | exact fa_44_0 | exact fa_44_1 | exact fa_44_2 | exact fa_54_0 | exact fa_61_0 | exact fa_61_1 | exact fa_68_0 | exact fa_68_1 | exact fa_68_2 | exact fa_68_3 | exact fa_70_0 | exact fa_70_1 | exact fa_70_2 | exact fa_76_0 | exact fa_76_1 | exact fa_76_2 | exact fa_76_3 | exact fa_76_6 | exact fa_76_7 | exact fa_82_0 | exact fa_82_1 | exact fa_82_2 | exact fa_82_3 | exact fa_82_4 | exact fa_82_5 | exact fa_82_6 | exact fa_82_7 | exact fa_82_8 | exact fa_91_0 | exact fa_91_1 | exact fa_93_0 | exact fa_93_1 | exact fa_93_2 | exact fa_95_0 | exact fa_95_1 | exact fa_95_2 | exact fa_95_3 | exact fa_97_0 | exact fa_99_0 | exact fa_99_1) (by first | exact l1_21 | exact l1_24 | exact l1_28 | exact l1_3 | exact l1_35 | exact l1_4 | exact l1_42 | exact l1_52 | exact l1_58) rfl ?_
    exact in_ok.mono fun r w2 ⟨h1, h2⟩ => ⟨⟨_, h1, by simp [GNode.okF]⟩, h2 ▸ x1⟩
  | serve op _ _ _ l =>
    dsimp only [GNode.val]; (repeat (first | (with_reducible refine th (by first | exact ta_108 | exact ta_110 | exact ta_112 | exact ta_114 | exact ta_116 | exact ta_50 | exact ta_54 | exact ta_61 | exact ta_68 | exact ta_91 | exact ta_93 | exact ta_95 | exact ta_97 | exact ta_99) ?_) | ((with_reducible refine tm (by first | exact ta_108 | exact ta_110 | exact ta_112 | exact ta_114 | exact ta_116 | exact ta_50 | exact ta_54 | exact ta_61 | exact ta_68 | exact ta_91 | exact ta_93 | exact ta_95 | exact ta_97 | exact ta_99) (by decide) ?_); intro _ _ _))); refine asB (by first | exact sa_108 | exact sa_110 | exact sa_112 | exact sa_114 | exact sa_116 | exact sa_120 | exact sa_26 | exact sa_28 | exact sa_37 | exact sa_44 | exact sa_50 | exact sa_54 | exact sa_61 | exact sa_68 | exact sa_70 | exact sa_76 | exact sa_91 | exact sa_93 | exact sa_95 | exact sa_97 | exact sa_99) rfl rfl fun b w1 hb x1 => ?_
    refine drawD.mk' (fun w' => Boxed w' b _) (hb.ext (Ext.refl _).drew) ?_
    refine yieldS.ok (fun w' hw => fa_112_0.ex w' b 0) ?_
    refine yieldS.ok (fun w' hw => r_ld_3 (hw 0 _ rfl)) ?_
    refine yieldS.ok (fun w' hw => fa_112_4.ex w' b 0) ?_
    refine yieldS.ok (fun w' hw => r_ld_35 (hw 4 _ rfl)) ?_
    refine yieldS.ok (fun w' hw => r_len Tryd.underlying35) ?_
    refine serves_ok.mono fun r w2 ⟨h1, h2⟩ => ?_
    subst h1 h2
    refine ⟨hb.ext (Ext.refl _).drew, ?_⟩
    refine yieldS.ok (fun w' hw => r_eqlI) ?_
    exact ⟨⟨_, rfl, decide_eq_true_iff⟩, x1.drew⟩
  | call m _ l | callX m _ l =>
    dsimp only [GNode.val]; (repeat (first | (with_reducible refine th (by first | exact ta_108 | exact ta_110 | exact ta_112 | exact ta_114 | exact ta_116 | exact ta_50 | exact ta_54 | exact ta_61 | exact ta_68 | exact ta_91 | exact ta_93 | exact ta_95 | exact ta_97 | exact ta_99) ?_) | ((with_reducible refine tm (by first | exact ta_108 | exact ta_110 | exact ta_112 | exact ta_114 | exact ta_116 | exact ta_50 | exact ta_54 | exact ta_61 | exact ta_68 | exact ta_91 | exact ta_93 | exact ta_95 | exact ta_97 | exact ta_99) (by decide) ?_); intro _ _ _))); refine asB (by first | exact sa_108 | exact sa_110 | exact sa_112 | exact sa_114 | exact sa_116 | exact sa_120 | exact sa_26 | exact sa_28 | exact sa_37 | exact sa_44 | exact sa_50 | exact sa_54 | exact sa_61 | exact sa_68 | exact sa_70 | exact sa_76 | exact sa_91 | exact sa_93 | exact sa_95 | exact sa_97 | exact sa_99) rfl rfl fun b w1 hb x1 => ?_; refine ldB hb (by first | exact fa_108_0 | exact fa_108_1 | exact fa_110_0 | exact fa_110_1 | exact fa_112_0 | exact fa_112_1 | exact fa_112_2 | exact fa_112_3 | exact fa_112_4 | exact fa_114_0 | exact fa_114_1 | exact fa_114_2 | exact fa_116_0 | exact fa_116_1 | exact fa_116_2 | exact fa_26_0 | exact fa_26_1 | exact fa_26_2 | exact fa_37_0 | exact fa_37_1 | exact fa_44_0 | exact fa_44_1 | exact fa_44_2 | exact fa_54_0 | exact fa_61_0 | exact fa_61_1 | exact fa_68_0 | exact fa_68_1 | exact fa_68_2 | exact fa_68_3 | exact fa_70_0 | exact fa_70_1 | exact fa_70_2 | exact fa_76_0 | exact fa_76_1 | exact fa_76_2 | exact fa_76_3 | exact fa_76_6 | exact fa_76_7 | exact fa_82_0 | exact fa_82_1 | exact fa_82_2 | exact fa_82_3 | exact fa_82_4 | exact fa_82_5 | exact fa_82_6 | exact fa_82_7 | exact fa_82_8 | exact fa_91_0 | exact fa_91_1 | exact fa_93_0 | exact fa_93_1 | exact fa_93_2 | exact fa_95_0 | exact fa_95_1 | exact fa_95_2 | exact fa_95_3 | exact fa_97_0 | exact fa_99_0 | exact fa_99_1) (by first | exact l1_21 | exact l1_24 | exact l1_28 | exact l1_3 | exact l1_35 | exact l1_4 | exact l1_42 | exact l1_52 | exact l1_58) rfl ?_
    refine in_ok.mono fun r w2 ⟨h1, h2⟩ => ?_
    subst h1 h2
    refine gd_iff.2 ?_
    split
    · rename_i hin
      refine V.ok (FA.ex (by first | exact fa_108_0 | exact fa_108_1 | exact fa_110_0 | exact fa_110_1 | exact fa_112_0 | exact fa_112_1 | exact fa_112_2 | exact fa_112_3 | exact fa_112_4 | exact fa_114_0 | exact fa_114_1 | exact fa_114_2 | exact fa_116_0 | exact fa_116_1 | exact fa_116_2 | exact fa_26_0 | exact fa_26_1 | exact fa_26_2 | exact fa_37_0 | exact fa_37_1 | exact fa_44_0 | exact fa_44_1 | exact fa_44_2 | exact fa_54_0 | exact fa_61_0 | exact fa_61_1 | exact fa_68_0 | exact fa_68_1 | exact fa_68_2 | exact fa_68_3 | exact fa_70_0 | exact fa_70_1 | exact fa_70_2 | exact fa_76_0 | exact fa_76_1 | exact fa_76_2 | exact fa_76_3 | exact fa_76_6 | exact fa_76_7 | exact fa_82_0 | exact fa_82_1 | exact fa_82_2 | exact fa_82_3 | exact fa_82_4 | exact fa_82_5 | exact fa_82_6 | exact fa_82_7 | exact fa_82_8 | exact fa_91_0 | exact fa_91_1 | exact fa_93_0 | exact fa_93_1 | exact fa_93_2 | exact fa_95_0 | exact fa_95_1 | exact fa_95_2 | exact fa_95_3 | exact fa_97_0 | exact fa_99_0 | exact fa_99_1) _ _ _) (gd_iff.2 ?_)
      rw [if_pos hin]
      refine V.ok (r_ld_35 (hb 2 _ rfl)) (gd_iff.2 ?_)
      rw [if_pos hin]
      refine V.ok (r_len Tryd.underlying35) (gd_iff.2 ?_)
      rw [if_pos hin]
      refine V_leq.2 (pickD_mk ?_)
      rw [if_pos hin]
      have := of_decide_eq_true hin
      exact ⟨⟨_, rfl, decide_eq_true_iff.trans ⟨fun h => ⟨this, by simp only [GNode.args] at h; omega⟩, fun h => by have := h.2; simp only [GNode.args]; omega⟩⟩, x1⟩
    · rename_i hin
      refine gd_iff.2 ?_
      rw [if_neg hin]
      refine gd_iff.2 ?_
      rw [if_neg hin]
      refine gd_iff.2 ?_
      rw [if_neg hin]
      refine pickD_mk ?_
      rw [if_neg hin]
      exact ⟨⟨_, rfl, by simp [GNode.okF] at hin ⊢; omega⟩, x1⟩
  | _ => dsimp only [GNode.val]; (repeat (first | (with_reducible refine th (by first | exact ta_108 | exact ta_110 | exact ta_112 | exact ta_114 | exact ta_116 | exact ta_50 | exact ta_54 | exact ta_61 | exact ta_68 | exact ta_91 | exact ta_93 | exact ta_95 | exact ta_97 | exact ta_99) ?_) | ((with_reducible refine tm (by first | exact ta_108 | exact ta_110 | exact ta_112 | exact ta_114 | exact ta_116 | exact ta_50 | exact ta_54 | exact ta_61 | exact ta_68 | exact ta_91 | exact ta_93 | exact ta_95 | exact ta_97 | exact ta_99) (by decide) ?_); intro _ _ _))); refine V_neqni_52.2 ?_; exact ⟨⟨_, rfl, by simp [GNode.okF]⟩, Ext.refl _⟩

theorem bare_ok {n : GNode} {v : Value} {w : World} (h : NodeIs w v n) : callD Tryd.prog 53 #[v] w fun r w' => r = .bool n.bareN ∧ w' = w := by
  obtain ⟨sv, rfl, hs⟩ := h
  apply F53_wp
  have key : ∀ R : Value → World → Prop, R (.bool n.bareN) w → F53_den (n.val sv) w R := by
    intro R hR
    unfold F53_den
    cases n <;> simp only [GNode.val, V_ta_61, V_ta_91, V_ta_68, V_ta_93, V_ta_95, V_ta_108, V_ext0, V_ext1, reduceIte, Nat.reduceEqDiff, pickD_iff, ifD_true, ifD_false, Bool.false_eq_true] <;> exact hR
  exact key _ ⟨rfl, rfl⟩

/-- A node may stand at place k of a program of so many registers and nodes. -/
structure RightN (n : GNode) (k regs count : Int) : Prop where
  f : n.okF
  u : ∀ r ∈ n.us, 0 ≤ r ∧ r < regs
  t : ∀ r ∈ n.nx k, 0 ≤ r ∧ r < count
  d : (0 ≤ n.df ∧ n.df < regs) ∨ (n.df = -1 ∧ n.bareN = true)


theorem right_ok {p : GProg} {pv nv : Value} {n : GNode} {k : Int} {w : World} (hp : ProgIs w pv p) (hn : NodeIs w nv n) (hl : n.args.length ≤ 4294967296) (h0 : 0 ≤ k) (h1 : k ≤ 1000000) :
    callD Tryd.prog 37 #[pv, nv, i64 k] w fun r w' => (∃ b, r = .bool b ∧ (b = true ↔ RightN n k p.regs p.nodes.length)) ∧ Ext w w' := by
  obtain ⟨ns, rfl, ⟨vs, hs, _⟩, _⟩ := hp
  apply F37_wp
  unfold F37_den
  refine bx fun b w1 hb x1 => ?_
  refine (fields_ok (hn.ext x1)).mono fun r w2 ⟨⟨bf, hr, hbf⟩, x2⟩ => ?_
  subst hr
  refine V_not.2 (ifD.mk (fun hf => ?_) fun hf => ?_)
  · refine ⟨⟨false, rfl, ⟨(fun h => by cases h), fun h => ?_⟩⟩, x1.trans x2⟩
    have := hbf.2 h.f
    subst this; cases hf
  have hok : n.okF := hbf.1 (by cases bf <;> simp_all)
  refine (uses_ok (hn.ext (x1.trans x2)) hl).mono fun ul w3 ⟨hu', x3⟩ => ?_
  have hu : IntsAre w3 ul n.us := SliceIs.of_own hu'
  clear hu'
  have X3 := x1.trans (x2.trans x3)
  have hb3 := hb.ext (x2.trans x3)
  have hlen := us_len n
  refine lnx (by first | exact xa_22 | exact xa_23 | exact xa_24 | exact xa_28 | exact xa_35 | exact xa_42 | exact xa_58) hu ?_
  refine ⟨fun v w' => ∃ j : Nat, v = i64 j ∧ j ≤ n.us.length ∧ Ext w3 w' ∧ ∀ (i : Nat) u, i < j → n.us[i]? = some u → 0 ≤ u ∧ u < p.regs, fun v _ => n.us.length - (RowKit.intOf v).toNat,
    ⟨0, rfl, by omega, Ext.refl _, fun i u hi => by omega⟩, ?_⟩
  rintro _ w4 ⟨j, rfl, hj, x4, hall⟩ _
  refine V_lss.2 (ifD_dec (fun hlt => ?_) fun hge => ?_)
  · have hlt' : j < n.us.length := by omega
    obtain ⟨u, hu'⟩ := ex_get hlt'
    refine ldx (by first | exact xa_22 | exact xa_23 | exact xa_24 | exact xa_28 | exact xa_35 | exact xa_42 | exact xa_58) (by first | exact l1_21 | exact l1_24 | exact l1_28 | exact l1_3 | exact l1_35 | exact l1_4 | exact l1_42 | exact l1_52 | exact l1_58) (hu.ext x4) (by omega) (by omega) (getI hu') ?_
    refine ldB (hb3.ext x4) (by first | exact fa_108_0 | exact fa_108_1 | exact fa_110_0 | exact fa_110_1 | exact fa_112_0 | exact fa_112_1 | exact fa_112_2 | exact fa_112_3 | exact fa_112_4 | exact fa_114_0 | exact fa_114_1 | exact fa_114_2 | exact fa_116_0 | exact fa_116_1 | exact fa_116_2 | exact fa_26_0 | exact fa_26_1 | exact fa_26_2 | exact fa_37_0 | exact fa_37_1 | exact fa_44_0 | exact fa_44_1 | exact fa_44_2 | exact fa_54_0 | exact fa_61_0 | exact fa_61_1 | exact fa_68_0 | exact fa_68_1 | exact fa_68_2 | exact fa_68_3 | exact fa_70_0 | exact fa_70_1 | exact fa_70_2 | exact fa_76_0 | exact fa_76_1 | exact fa_76_2 | exact fa_76_3 | exact fa_76_6 | exact fa_76_7 | exact fa_82_0 | exact fa_82_1 | exact fa_82_2 | exact fa_82_3 | exact fa_82_4 | exact fa_82_5 | exact fa_82_6 | exact fa_82_7 | exact fa_82_8 | exact fa_91_0 | exact fa_91_1 | exact fa_93_0 | exact fa_93_1 | exact fa_93_2 | exact fa_95_0 | exact fa_95_1 | exact fa_95_2 | exact fa_95_3 | exact fa_97_0 | exact fa_99_0 | exact fa_99_1) (by first | exact l1_21 | exact l1_24 | exact l1_28 | exact l1_3 | exact l1_35 | exact l1_4 | exact l1_42 | exact l1_52 | exact l1_58) rfl ?_
    refine in_ok.mono fun r w5 ⟨hr, hw⟩ => ?_
    subst hr hw
    refine V_not.2 (ifD.mk (fun hf => ?_) fun hf => ?_)
    · refine ⟨⟨false, rfl, ⟨(fun h => by cases h), fun h => ?_⟩⟩, X3.trans x4⟩
      have := h.u u (List.mem_of_getElem? hu')
      simp [this] at hf
    · have hin : 0 ≤ u ∧ u < p.regs := by simpa using hf
      refine V_add.2 ?_
      rw [wrap_id (by omega) (by omega), i64_succ]
      refine ⟨⟨j + 1, rfl, by omega, x4, fun i u' hi hu2 => ?_⟩, by simp only [intOf_i64]; omega⟩
      by_cases hij : i = j
      · subst hij; rw [hu'] at hu2; cases hu2; exact hin
      · exact hall i u' (by omega) hu2
  have hju : j = n.us.length := by omega
  have hus : ∀ r ∈ n.us, 0 ≤ r ∧ r < p.regs := fun r hr => by
    obtain ⟨i, hi⟩ := List.getElem?_of_mem hr
    exact hall i r (by have := (List.getElem?_eq_some_iff.1 hi).1; omega) hi
  have X4 := X3.trans x4
  have hb4 := hb3.ext x4
  refine (next_ok (hn.ext X4) h0 h1).mono fun tl w5 ⟨ht', x5⟩ => ?_
  have ht : IntsAre w5 tl (n.nx k) := SliceIs.of_own ht'
  clear ht'
  have X5 := X4.trans x5
  have hb5 := hb4.ext x5
  have hlen2 := nx_len n k
  refine lnx (by first | exact xa_22 | exact xa_23 | exact xa_24 | exact xa_28 | exact xa_35 | exact xa_42 | exact xa_58) ht ?_
  refine ⟨fun v w' => ∃ j : Nat, v = i64 j ∧ j ≤ (n.nx k).length ∧ Ext w5 w' ∧ ∀ (i : Nat) u, i < j → (n.nx k)[i]? = some u → 0 ≤ u ∧ u < p.nodes.length, fun v _ => (n.nx k).length - (RowKit.intOf v).toNat,
    ⟨0, rfl, by omega, Ext.refl _, fun i u hi => by omega⟩, ?_⟩
  rintro _ w6 ⟨j2, rfl, hj2, x6, hall2⟩ _
  refine V_lss.2 (ifD_dec (fun hlt => ?_) fun hge2 => ?_)
  · have hlt' : j2 < (n.nx k).length := by omega
    obtain ⟨u, hu'⟩ := ex_get hlt'
    refine ldx (by first | exact xa_22 | exact xa_23 | exact xa_24 | exact xa_28 | exact xa_35 | exact xa_42 | exact xa_58) (by first | exact l1_21 | exact l1_24 | exact l1_28 | exact l1_3 | exact l1_35 | exact l1_4 | exact l1_42 | exact l1_52 | exact l1_58) (ht.ext x6) (by omega) (by omega) (getI hu') ?_
    refine ldB (hb5.ext x6) (by first | exact fa_108_0 | exact fa_108_1 | exact fa_110_0 | exact fa_110_1 | exact fa_112_0 | exact fa_112_1 | exact fa_112_2 | exact fa_112_3 | exact fa_112_4 | exact fa_114_0 | exact fa_114_1 | exact fa_114_2 | exact fa_116_0 | exact fa_116_1 | exact fa_116_2 | exact fa_26_0 | exact fa_26_1 | exact fa_26_2 | exact fa_37_0 | exact fa_37_1 | exact fa_44_0 | exact fa_44_1 | exact fa_44_2 | exact fa_54_0 | exact fa_61_0 | exact fa_61_1 | exact fa_68_0 | exact fa_68_1 | exact fa_68_2 | exact fa_68_3 | exact fa_70_0 | exact fa_70_1 | exact fa_70_2 | exact fa_76_0 | exact fa_76_1 | exact fa_76_2 | exact fa_76_3 | exact fa_76_6 | exact fa_76_7 | exact fa_82_0 | exact fa_82_1 | exact fa_82_2 | exact fa_82_3 | exact fa_82_4 | exact fa_82_5 | exact fa_82_6 | exact fa_82_7 | exact fa_82_8 | exact fa_91_0 | exact fa_91_1 | exact fa_93_0 | exact fa_93_1 | exact fa_93_2 | exact fa_95_0 | exact fa_95_1 | exact fa_95_2 | exact fa_95_3 | exact fa_97_0 | exact fa_99_0 | exact fa_99_1) (by first | exact l1_21 | exact l1_24 | exact l1_28 | exact l1_3 | exact l1_35 | exact l1_4 | exact l1_42 | exact l1_52 | exact l1_58) rfl ?_
    refine lnx (by first | exact xa_22 | exact xa_23 | exact xa_24 | exact xa_28 | exact xa_35 | exact xa_42 | exact xa_58) (hs.ext (X5.trans x6)) ?_
    refine in_ok.mono fun r w7 ⟨hr, hw⟩ => ?_
    subst hr hw
    refine V_not.2 (ifD.mk (fun hf => ?_) fun hf => ?_)
    · refine ⟨⟨false, rfl, ⟨(fun h => by cases h), fun h => ?_⟩⟩, X5.trans x6⟩
      have := h.t u (List.mem_of_getElem? hu')
      simp [this] at hf
    · have hin : 0 ≤ u ∧ u < p.nodes.length := by simpa using hf
      refine V_add.2 ?_
      rw [wrap_id (by omega) (by omega), i64_succ]
      refine ⟨⟨j2 + 1, rfl, by omega, x6, fun i u' hi hu2 => ?_⟩, by simp only [intOf_i64]; omega⟩
      by_cases hij : i = j2
      · subst hij; rw [hu'] at hu2; cases hu2; exact hin
      · exact hall2 i u' (by omega) hu2
  have hns : ∀ r ∈ n.nx k, 0 ≤ r ∧ r < p.nodes.length := fun r hr => by
    obtain ⟨i, hi⟩ := List.getElem?_of_mem hr
    exact hall2 i r (by have := (List.getElem?_eq_some_iff.1 hi).1; omega) hi
  have X6 := X5.trans x6
  have hb6 := hb5.ext x6
  refine (def_ok (hn.ext X6)).mono fun r w7 ⟨hr, x7⟩ => ?_
  subst hr
  refine ldB (hb6.ext x7) (by first | exact fa_108_0 | exact fa_108_1 | exact fa_110_0 | exact fa_110_1 | exact fa_112_0 | exact fa_112_1 | exact fa_112_2 | exact fa_112_3 | exact fa_112_4 | exact fa_114_0 | exact fa_114_1 | exact fa_114_2 | exact fa_116_0 | exact fa_116_1 | exact fa_116_2 | exact fa_26_0 | exact fa_26_1 | exact fa_26_2 | exact fa_37_0 | exact fa_37_1 | exact fa_44_0 | exact fa_44_1 | exact fa_44_2 | exact fa_54_0 | exact fa_61_0 | exact fa_61_1 | exact fa_68_0 | exact fa_68_1 | exact fa_68_2 | exact fa_68_3 | exact fa_70_0 | exact fa_70_1 | exact fa_70_2 | exact fa_76_0 | exact fa_76_1 | exact fa_76_2 | exact fa_76_3 | exact fa_76_6 | exact fa_76_7 | exact fa_82_0 | exact fa_82_1 | exact fa_82_2 | exact fa_82_3 | exact fa_82_4 | exact fa_82_5 | exact fa_82_6 | exact fa_82_7 | exact fa_82_8 | exact fa_91_0 | exact fa_91_1 | exact fa_93_0 | exact fa_93_1 | exact fa_93_2 | exact fa_95_0 | exact fa_95_1 | exact fa_95_2 | exact fa_95_3 | exact fa_97_0 | exact fa_99_0 | exact fa_99_1) (by first | exact l1_21 | exact l1_24 | exact l1_28 | exact l1_3 | exact l1_35 | exact l1_4 | exact l1_42 | exact l1_52 | exact l1_58) rfl ?_
  refine in_ok.mono fun r w8 ⟨hr, hw⟩ => ?_
  subst hr hw
  have X7 := X6.trans x7
  by_cases hd : 0 ≤ n.df ∧ n.df < p.regs
  · simp only [decide_eq_true hd, gd_tf, gd_undef, pickD_iff, reduceIte]
    exact ⟨⟨true, rfl, ⟨fun _ => ⟨hok, hus, hns, .inl hd⟩, fun _ => rfl⟩⟩, X7⟩
  · simp only [decide_eq_false hd, gd_f, pickD_iff, V_eqlI]
    by_cases hm : n.df = -1
    · simp only [decide_eq_true hm, gd_t]
      refine (bare_ok (hn.ext X7)).mono fun r w9 ⟨hr, hw⟩ => ?_
      subst hr hw
      refine ⟨⟨n.bareN, by simp, ⟨fun hb => ⟨hok, hus, hns, .inr ⟨hm, hb⟩⟩, fun h => ?_⟩⟩, X7⟩
      rcases h.d with h | h
      · exact absurd h hd
      · exact h.2
    · simp only [decide_eq_false hm, gd_ft]
      refine ⟨⟨false, by simp, ⟨(fun h => by cases h), fun h => ?_⟩⟩, X7⟩
      rcases h.d with h | h
      · exact absurd h hd
      · exact absurd h.1 hm

/-- A program that may be. -/
structure OkProg (p : GProg) : Prop where
  l1 : 1 ≤ p.nodes.length
  l2 : p.nodes.length ≤ 250
  r1 : 0 ≤ p.regs
  r2 : p.regs ≤ 40
  p1 : 0 ≤ p.params
  p2 : p.params ≤ 4
  p3 : p.params ≤ p.regs
  nodes : ∀ (i : Nat) n, p.nodes[i]? = some n → RightN n i p.regs p.nodes.length

theorem check_ok {p : GProg} {pv : Value} {w : World} (hp : ProgIs w pv p) (hv : OkProg p) :
    callD Tryd.prog 19 #[pv] w fun r w' => r = .bool true ∧ Ext w w' := by
  obtain ⟨ns, rfl, hn, hargs⟩ := hp
  have hn' := hn
  obtain ⟨vs, hs, hvs⟩ := hn'
  obtain ⟨l1, l2, r1, r2, p1, p2, p3, hnodes⟩ := hv
  apply F19_wp
  unfold F19_den
  refine bx fun b w1 hb x1 => ?_
  refine ldB hb (by first | exact fa_108_0 | exact fa_108_1 | exact fa_110_0 | exact fa_110_1 | exact fa_112_0 | exact fa_112_1 | exact fa_112_2 | exact fa_112_3 | exact fa_112_4 | exact fa_114_0 | exact fa_114_1 | exact fa_114_2 | exact fa_116_0 | exact fa_116_1 | exact fa_116_2 | exact fa_26_0 | exact fa_26_1 | exact fa_26_2 | exact fa_37_0 | exact fa_37_1 | exact fa_44_0 | exact fa_44_1 | exact fa_44_2 | exact fa_54_0 | exact fa_61_0 | exact fa_61_1 | exact fa_68_0 | exact fa_68_1 | exact fa_68_2 | exact fa_68_3 | exact fa_70_0 | exact fa_70_1 | exact fa_70_2 | exact fa_76_0 | exact fa_76_1 | exact fa_76_2 | exact fa_76_3 | exact fa_76_6 | exact fa_76_7 | exact fa_82_0 | exact fa_82_1 | exact fa_82_2 | exact fa_82_3 | exact fa_82_4 | exact fa_82_5 | exact fa_82_6 | exact fa_82_7 | exact fa_82_8 | exact fa_91_0 | exact fa_91_1 | exact fa_93_0 | exact fa_93_1 | exact fa_93_2 | exact fa_95_0 | exact fa_95_1 | exact fa_95_2 | exact fa_95_3 | exact fa_97_0 | exact fa_99_0 | exact fa_99_1) (by first | exact l1_21 | exact l1_24 | exact l1_28 | exact l1_3 | exact l1_35 | exact l1_4 | exact l1_42 | exact l1_52 | exact l1_58) rfl (lnx (by first | exact xa_22 | exact xa_23 | exact xa_24 | exact xa_28 | exact xa_35 | exact xa_42 | exact xa_58) (hs.ext x1) (V_lss.2 ?_))
  simp only [show decide ((p.nodes.length : Int) < 1) = false from by simp; omega, gd_f]
  refine ldB hb (by first | exact fa_108_0 | exact fa_108_1 | exact fa_110_0 | exact fa_110_1 | exact fa_112_0 | exact fa_112_1 | exact fa_112_2 | exact fa_112_3 | exact fa_112_4 | exact fa_114_0 | exact fa_114_1 | exact fa_114_2 | exact fa_116_0 | exact fa_116_1 | exact fa_116_2 | exact fa_26_0 | exact fa_26_1 | exact fa_26_2 | exact fa_37_0 | exact fa_37_1 | exact fa_44_0 | exact fa_44_1 | exact fa_44_2 | exact fa_54_0 | exact fa_61_0 | exact fa_61_1 | exact fa_68_0 | exact fa_68_1 | exact fa_68_2 | exact fa_68_3 | exact fa_70_0 | exact fa_70_1 | exact fa_70_2 | exact fa_76_0 | exact fa_76_1 | exact fa_76_2 | exact fa_76_3 | exact fa_76_6 | exact fa_76_7 | exact fa_82_0 | exact fa_82_1 | exact fa_82_2 | exact fa_82_3 | exact fa_82_4 | exact fa_82_5 | exact fa_82_6 | exact fa_82_7 | exact fa_82_8 | exact fa_91_0 | exact fa_91_1 | exact fa_93_0 | exact fa_93_1 | exact fa_93_2 | exact fa_95_0 | exact fa_95_1 | exact fa_95_2 | exact fa_95_3 | exact fa_97_0 | exact fa_99_0 | exact fa_99_1) (by first | exact l1_21 | exact l1_24 | exact l1_28 | exact l1_3 | exact l1_35 | exact l1_4 | exact l1_42 | exact l1_52 | exact l1_58) rfl (lnx (by first | exact xa_22 | exact xa_23 | exact xa_24 | exact xa_28 | exact xa_35 | exact xa_42 | exact xa_58) (hs.ext x1) (V_gtr.2 ?_))
  simp only [show decide ((p.nodes.length : Int) > 250) = false from by simp; omega, pickD_iff, Bool.false_eq_true, reduceIte, gd_f]
  refine ldB hb (by first | exact fa_108_0 | exact fa_108_1 | exact fa_110_0 | exact fa_110_1 | exact fa_112_0 | exact fa_112_1 | exact fa_112_2 | exact fa_112_3 | exact fa_112_4 | exact fa_114_0 | exact fa_114_1 | exact fa_114_2 | exact fa_116_0 | exact fa_116_1 | exact fa_116_2 | exact fa_26_0 | exact fa_26_1 | exact fa_26_2 | exact fa_37_0 | exact fa_37_1 | exact fa_44_0 | exact fa_44_1 | exact fa_44_2 | exact fa_54_0 | exact fa_61_0 | exact fa_61_1 | exact fa_68_0 | exact fa_68_1 | exact fa_68_2 | exact fa_68_3 | exact fa_70_0 | exact fa_70_1 | exact fa_70_2 | exact fa_76_0 | exact fa_76_1 | exact fa_76_2 | exact fa_76_3 | exact fa_76_6 | exact fa_76_7 | exact fa_82_0 | exact fa_82_1 | exact fa_82_2 | exact fa_82_3 | exact fa_82_4 | exact fa_82_5 | exact fa_82_6 | exact fa_82_7 | exact fa_82_8 | exact fa_91_0 | exact fa_91_1 | exact fa_93_0 | exact fa_93_1 | exact fa_93_2 | exact fa_95_0 | exact fa_95_1 | exact fa_95_2 | exact fa_95_3 | exact fa_97_0 | exact fa_99_0 | exact fa_99_1) (by first | exact l1_21 | exact l1_24 | exact l1_28 | exact l1_3 | exact l1_35 | exact l1_4 | exact l1_42 | exact l1_52 | exact l1_58) rfl ?_
  refine in_ok.mono fun r w5 ⟨hr, hw⟩ => ?_
  subst hr hw
  simp only [show decide (0 ≤ p.regs ∧ p.regs < 41) = true from by simp; omega, V_not, Bool.not_true, pickD_iff, Bool.false_eq_true, reduceIte, gd_f]
  refine ldB hb (by first | exact fa_108_0 | exact fa_108_1 | exact fa_110_0 | exact fa_110_1 | exact fa_112_0 | exact fa_112_1 | exact fa_112_2 | exact fa_112_3 | exact fa_112_4 | exact fa_114_0 | exact fa_114_1 | exact fa_114_2 | exact fa_116_0 | exact fa_116_1 | exact fa_116_2 | exact fa_26_0 | exact fa_26_1 | exact fa_26_2 | exact fa_37_0 | exact fa_37_1 | exact fa_44_0 | exact fa_44_1 | exact fa_44_2 | exact fa_54_0 | exact fa_61_0 | exact fa_61_1 | exact fa_68_0 | exact fa_68_1 | exact fa_68_2 | exact fa_68_3 | exact fa_70_0 | exact fa_70_1 | exact fa_70_2 | exact fa_76_0 | exact fa_76_1 | exact fa_76_2 | exact fa_76_3 | exact fa_76_6 | exact fa_76_7 | exact fa_82_0 | exact fa_82_1 | exact fa_82_2 | exact fa_82_3 | exact fa_82_4 | exact fa_82_5 | exact fa_82_6 | exact fa_82_7 | exact fa_82_8 | exact fa_91_0 | exact fa_91_1 | exact fa_93_0 | exact fa_93_1 | exact fa_93_2 | exact fa_95_0 | exact fa_95_1 | exact fa_95_2 | exact fa_95_3 | exact fa_97_0 | exact fa_99_0 | exact fa_99_1) (by first | exact l1_21 | exact l1_24 | exact l1_28 | exact l1_3 | exact l1_35 | exact l1_4 | exact l1_42 | exact l1_52 | exact l1_58) rfl ?_
  refine in_ok.mono fun r w5 ⟨hr, hw⟩ => ?_
  subst hr hw
  simp only [show decide (0 ≤ p.params ∧ p.params < 5) = true from by simp; omega, V_not, Bool.not_true, pickD_iff, Bool.false_eq_true, reduceIte, gd_f]
  refine ldB hb (by first | exact fa_108_0 | exact fa_108_1 | exact fa_110_0 | exact fa_110_1 | exact fa_112_0 | exact fa_112_1 | exact fa_112_2 | exact fa_112_3 | exact fa_112_4 | exact fa_114_0 | exact fa_114_1 | exact fa_114_2 | exact fa_116_0 | exact fa_116_1 | exact fa_116_2 | exact fa_26_0 | exact fa_26_1 | exact fa_26_2 | exact fa_37_0 | exact fa_37_1 | exact fa_44_0 | exact fa_44_1 | exact fa_44_2 | exact fa_54_0 | exact fa_61_0 | exact fa_61_1 | exact fa_68_0 | exact fa_68_1 | exact fa_68_2 | exact fa_68_3 | exact fa_70_0 | exact fa_70_1 | exact fa_70_2 | exact fa_76_0 | exact fa_76_1 | exact fa_76_2 | exact fa_76_3 | exact fa_76_6 | exact fa_76_7 | exact fa_82_0 | exact fa_82_1 | exact fa_82_2 | exact fa_82_3 | exact fa_82_4 | exact fa_82_5 | exact fa_82_6 | exact fa_82_7 | exact fa_82_8 | exact fa_91_0 | exact fa_91_1 | exact fa_93_0 | exact fa_93_1 | exact fa_93_2 | exact fa_95_0 | exact fa_95_1 | exact fa_95_2 | exact fa_95_3 | exact fa_97_0 | exact fa_99_0 | exact fa_99_1) (by first | exact l1_21 | exact l1_24 | exact l1_28 | exact l1_3 | exact l1_35 | exact l1_4 | exact l1_42 | exact l1_52 | exact l1_58) rfl (ldB hb (by first | exact fa_108_0 | exact fa_108_1 | exact fa_110_0 | exact fa_110_1 | exact fa_112_0 | exact fa_112_1 | exact fa_112_2 | exact fa_112_3 | exact fa_112_4 | exact fa_114_0 | exact fa_114_1 | exact fa_114_2 | exact fa_116_0 | exact fa_116_1 | exact fa_116_2 | exact fa_26_0 | exact fa_26_1 | exact fa_26_2 | exact fa_37_0 | exact fa_37_1 | exact fa_44_0 | exact fa_44_1 | exact fa_44_2 | exact fa_54_0 | exact fa_61_0 | exact fa_61_1 | exact fa_68_0 | exact fa_68_1 | exact fa_68_2 | exact fa_68_3 | exact fa_70_0 | exact fa_70_1 | exact fa_70_2 | exact fa_76_0 | exact fa_76_1 | exact fa_76_2 | exact fa_76_3 | exact fa_76_6 | exact fa_76_7 | exact fa_82_0 | exact fa_82_1 | exact fa_82_2 | exact fa_82_3 | exact fa_82_4 | exact fa_82_5 | exact fa_82_6 | exact fa_82_7 | exact fa_82_8 | exact fa_91_0 | exact fa_91_1 | exact fa_93_0 | exact fa_93_1 | exact fa_93_2 | exact fa_95_0 | exact fa_95_1 | exact fa_95_2 | exact fa_95_3 | exact fa_97_0 | exact fa_99_0 | exact fa_99_1) (by first | exact l1_21 | exact l1_24 | exact l1_28 | exact l1_3 | exact l1_35 | exact l1_4 | exact l1_42 | exact l1_52 | exact l1_58) rfl (V_gtr.2 ?_))
  simp only [show decide (p.params > p.regs) = false from by simp; omega, ifD_false]
  refine ldB hb (by first | exact fa_108_0 | exact fa_108_1 | exact fa_110_0 | exact fa_110_1 | exact fa_112_0 | exact fa_112_1 | exact fa_112_2 | exact fa_112_3 | exact fa_112_4 | exact fa_114_0 | exact fa_114_1 | exact fa_114_2 | exact fa_116_0 | exact fa_116_1 | exact fa_116_2 | exact fa_26_0 | exact fa_26_1 | exact fa_26_2 | exact fa_37_0 | exact fa_37_1 | exact fa_44_0 | exact fa_44_1 | exact fa_44_2 | exact fa_54_0 | exact fa_61_0 | exact fa_61_1 | exact fa_68_0 | exact fa_68_1 | exact fa_68_2 | exact fa_68_3 | exact fa_70_0 | exact fa_70_1 | exact fa_70_2 | exact fa_76_0 | exact fa_76_1 | exact fa_76_2 | exact fa_76_3 | exact fa_76_6 | exact fa_76_7 | exact fa_82_0 | exact fa_82_1 | exact fa_82_2 | exact fa_82_3 | exact fa_82_4 | exact fa_82_5 | exact fa_82_6 | exact fa_82_7 | exact fa_82_8 | exact fa_91_0 | exact fa_91_1 | exact fa_93_0 | exact fa_93_1 | exact fa_93_2 | exact fa_95_0 | exact fa_95_1 | exact fa_95_2 | exact fa_95_3 | exact fa_97_0 | exact fa_99_0 | exact fa_99_1) (by first | exact l1_21 | exact l1_24 | exact l1_28 | exact l1_3 | exact l1_35 | exact l1_4 | exact l1_42 | exact l1_52 | exact l1_58) rfl (lnx (by first | exact xa_22 | exact xa_23 | exact xa_24 | exact xa_28 | exact xa_35 | exact xa_42 | exact xa_58) (hs.ext x1) ?_)
  refine ⟨fun v w' => ∃ j : Nat, v = i64 j ∧ j ≤ p.nodes.length ∧ Ext w5 w', fun v _ => p.nodes.length - (RowKit.intOf v).toNat, ⟨0, rfl, by omega, Ext.refl _⟩, ?_⟩
  rintro _ w6 ⟨j, rfl, hj, x6⟩ _
  refine V_lss.2 (ifD_dec (fun hlt => ?_) fun hge => ⟨trivial, x1.trans x6⟩)
  have hlt' : j < p.nodes.length := by omega
  obtain ⟨n, hn1⟩ := ex_get hlt'
  obtain ⟨u, hu, hnu⟩ := hvs j n hn1
  have hb6 := hb.ext x6
  refine ldx (by first | exact xa_22 | exact xa_23 | exact xa_24 | exact xa_28 | exact xa_35 | exact xa_42 | exact xa_58) (by first | exact l1_21 | exact l1_24 | exact l1_28 | exact l1_3 | exact l1_35 | exact l1_4 | exact l1_42 | exact l1_52 | exact l1_58) (hs.ext (x1.trans x6)) (by omega) (by omega) (by simpa using hu) ?_
  refine ldA hb6 la_26 rfl ?_
  refine (right_ok (p := p) ⟨ns, rfl, hn.ext (x1.trans x6), hargs⟩ (hnu.ext (x1.trans x6)) (hargs n (List.mem_of_getElem? hn1)) (by omega) (by omega)).mono fun r w7 ⟨⟨bb, hr, hbb⟩, x7⟩ => ?_
  subst hr
  have := hbb.2 (hnodes j n hn1)
  subst this
  refine V_not.2 (ifD_false.2 (V_add.2 ?_))
  rw [wrap_id (by omega) (by omega), i64_succ]
  exact ⟨⟨j + 1, rfl, by omega, x6.trans x7⟩, by simp only [intOf_i64]; omega⟩
end Go.Proofs.YtendijaeihljeaaDoor
