/- Plain nodes: the reference's right; its check of a program. -/
import Derived.Test.YtendijaeihljeaaDoorPl2
namespace Go.Proofs.YtendijaeihljeaaDoor
open Go.Vc
set_option maxHeartbeats 4000000 in
theorem rightP_ok {g : GNode} {v : Value} {w : World} (h : PlainIs w v g) : callD Tryd.prog 34 #[v] w fun r w' => (∃ ok : Bool, r = .bool ok ∧ (ok = true → g.okF)) ∧ Ext w w' := by
  obtain ⟨m, sv, rfl, hs⟩ := h
  obtain ⟨sa, sc, rfl⟩ := hs.shape
  apply F34_wp
  unfold F34_den
  refine bx fun b w1 hb x1 => ?_
  refine ⟨fun u v w' => ∃ (r : Int) (ok : Bool), u = i64 r ∧ v = .bool ok ∧ w' = w1 ∧ (ok = true → (g.us.length : Int) = r → g.okF), ?_, ?_⟩
  · refine ldB hb (by first | exact fa_108_0 | exact fa_108_1 | exact fa_110_0 | exact fa_110_1 | exact fa_112_0 | exact fa_112_1 | exact fa_112_2 | exact fa_112_3 | exact fa_112_4 | exact fa_114_0 | exact fa_114_1 | exact fa_114_2 | exact fa_116_0 | exact fa_116_1 | exact fa_116_2 | exact fa_26_0 | exact fa_26_1 | exact fa_26_2 | exact fa_37_0 | exact fa_37_1 | exact fa_44_0 | exact fa_44_1 | exact fa_44_2 | exact fa_54_0 | exact fa_61_0 | exact fa_61_1 | exact fa_68_0 | exact fa_68_1 | exact fa_68_2 | exact fa_68_3 | exact fa_70_0 | exact fa_70_1 | exact fa_70_2 | exact fa_76_0 | exact fa_76_1 | exact fa_76_2 | exact fa_76_3 | exact fa_76_6 | exact fa_76_7 | exact fa_82_0 | exact fa_82_1 | exact fa_82_2 | exact fa_82_3 | exact fa_82_4 | exact fa_82_5 | exact fa_82_6 | exact fa_82_7 | exact fa_82_8 | exact fa_91_0 | exact fa_91_1 | exact fa_93_0 | exact fa_93_1 | exact fa_93_2 | exact fa_95_0 | exact fa_95_1 | exact fa_95_2 | exact fa_95_3 | exact fa_97_0 | exact fa_99_0 | exact fa_99_1) (by first | exact l1_21 | exact l1_24 | exact l1_28 | exact l1_3 | exact l1_35 | exact l1_4 | exact l1_42 | exact l1_52 | exact l1_58) rfl ?_
    refine ⟨fun v w' => v = .bool (decide (g.pk = 1 ∨ g.pk = 6 ∨ g.pk = 7)) ∧ w' = w1, ?_, ?_⟩
    · cases g <;> (simp only [GNode.pk, V_eqlI, Int.reduceEq, decide_true, decide_false, ifD_true, ifD_false]; first | exact ⟨rfl, rfl⟩ | simp)
    rintro _ w1 ⟨rfl, rfl⟩ _
    have c2 : w1.cell? ⟨b, 0 + 2, none⟩ = some (i64 g.pop) := hb 2 _ rfl
    have c3 : w1.cell? ⟨b, 0 + 3, none⟩ = some (i64 (g.pN m)) := hb 3 _ rfl
    cases g with
    | const d k | tick | goto t =>
      simp only [GNode.pk, Int.reduceEq, or_false, or_true, decide_true, ifD_true]
      exact ⟨0, true, rfl, rfl, (by first | rfl | trivial), fun _ _ => trivial⟩
    | move d s =>
      simp only [GNode.pk, V_eqlI, Int.reduceEq, or_false, decide_true, decide_false, ifD_true, ifD_false]
      exact ⟨1, true, rfl, rfl, (by first | rfl | trivial), fun _ _ => trivial⟩
    | branch c t =>
      simp only [GNode.pk, V_eqlI, Int.reduceEq, or_false, decide_true, decide_false, ifD_true, ifD_false]
      exact ⟨1, true, rfl, rfl, (by first | rfl | trivial), fun _ _ => trivial⟩
    | choose d c a e =>
      simp only [GNode.pk, V_eqlI, Int.reduceEq, or_false, decide_true, decide_false, ifD_true, ifD_false]
      exact ⟨3, true, rfl, rfl, (by first | rfl | trivial), fun _ _ => trivial⟩
    | bin op d a e =>
      simp only [GNode.pk, V_eqlI, Int.reduceEq, or_false, decide_true, decide_false, ifD_true, ifD_false]
      simp only [GNode.pop] at c2
      by_cases h1 : op ≥ 6 <;> by_cases h2 : op ≤ 14 <;> rcases Bool.eq_false_or_eq_true (decide (op = 19)) with e3 | e3 <;> rcases Bool.eq_false_or_eq_true (decide (op = 20)) with e4 | e4 <;> rcases Bool.eq_false_or_eq_true (decide (op = 21)) with e5 | e5 <;>
        simp only [V_fd_76_2, V_ld_3, c2, ldO_some, h1, h2, e3, e4, e5, V_leq, V_geq, V_eqlI, gd_t, gd_f, gd_tf, gd_ft, pickD_iff, reduceIte, Bool.false_eq_true, decide_true, decide_false] <;> exact ⟨2, _, rfl, rfl, (by first | rfl | trivial), by simp at e3 e4 e5; simp [GNode.okF, okBin]; try omega⟩
    | un op d a =>
      simp only [GNode.pk, V_eqlI, Int.reduceEq, or_false, decide_true, decide_false, ifD_true, ifD_false]
      simp only [GNode.pop] at c2
      rcases Bool.eq_false_or_eq_true (decide (op = 15)) with e1 | e1 <;> rcases Bool.eq_false_or_eq_true (decide (op = 16)) with e2 | e2 <;> rcases Bool.eq_false_or_eq_true (decide (op = 26)) with e3 | e3 <;>
        simp only [V_fd_76_2, V_ld_3, c2, ldO_some, e1, e2, e3, V_eqlI, gd_f, gd_tf, pickD_iff, reduceIte, Bool.false_eq_true] <;> exact ⟨1, _, rfl, rfl, (by first | rfl | trivial), by simp at e1 e2 e3; simp [GNode.okF, okUn]; try omega⟩
    | getField d f =>
      simp only [GNode.pk, V_eqlI, Int.reduceEq, or_false, decide_true, decide_false, ifD_true, ifD_false]
      simp only [GNode.pN] at c3
      by_cases h1 : f ≥ 0 <;> by_cases h2 : f < 8 <;> simp only [V_fd_76_3, V_ld_3, c3, ldO_some, h1, h2, V_lss, V_geq, gd_t, gd_ft, pickD_iff, reduceIte, Bool.false_eq_true, decide_true, decide_false] <;> exact ⟨0, _, rfl, rfl, (by first | rfl | trivial), by simp [GNode.okF]; try omega⟩
    | putField f s =>
      simp only [GNode.pk, V_eqlI, Int.reduceEq, or_false, decide_true, decide_false, ifD_true, ifD_false]
      simp only [GNode.pN] at c3
      by_cases h1 : f ≥ 0 <;> by_cases h2 : f < 8 <;> simp only [V_fd_76_3, V_ld_3, c3, ldO_some, h1, h2, V_lss, V_geq, gd_t, gd_ft, pickD_iff, reduceIte, Bool.false_eq_true, decide_true, decide_false] <;> exact ⟨1, _, rfl, rfl, (by first | rfl | trivial), by simp [GNode.okF]; try omega⟩
    | serve op a e d l =>
      simp only [GNode.pk, V_eqlI, Int.reduceEq, or_false, decide_true, decide_false, ifD_true, ifD_false]
      refine ldB hb (by first | exact fa_108_0 | exact fa_108_1 | exact fa_110_0 | exact fa_110_1 | exact fa_112_0 | exact fa_112_1 | exact fa_112_2 | exact fa_112_3 | exact fa_112_4 | exact fa_114_0 | exact fa_114_1 | exact fa_114_2 | exact fa_116_0 | exact fa_116_1 | exact fa_116_2 | exact fa_26_0 | exact fa_26_1 | exact fa_26_2 | exact fa_37_0 | exact fa_37_1 | exact fa_44_0 | exact fa_44_1 | exact fa_44_2 | exact fa_54_0 | exact fa_61_0 | exact fa_61_1 | exact fa_68_0 | exact fa_68_1 | exact fa_68_2 | exact fa_68_3 | exact fa_70_0 | exact fa_70_1 | exact fa_70_2 | exact fa_76_0 | exact fa_76_1 | exact fa_76_2 | exact fa_76_3 | exact fa_76_6 | exact fa_76_7 | exact fa_82_0 | exact fa_82_1 | exact fa_82_2 | exact fa_82_3 | exact fa_82_4 | exact fa_82_5 | exact fa_82_6 | exact fa_82_7 | exact fa_82_8 | exact fa_91_0 | exact fa_91_1 | exact fa_93_0 | exact fa_93_1 | exact fa_93_2 | exact fa_95_0 | exact fa_95_1 | exact fa_95_2 | exact fa_95_3 | exact fa_97_0 | exact fa_99_0 | exact fa_99_1) (by first | exact l1_21 | exact l1_24 | exact l1_28 | exact l1_3 | exact l1_35 | exact l1_4 | exact l1_42 | exact l1_52 | exact l1_58) rfl ?_
      refine serves8_ok.mono fun r w2 ⟨hr, hw⟩ => ?_
      subst hr hw
      refine V_geq.2 ?_
      exact ⟨serves op, _, rfl, rfl, (by first | rfl | trivial), fun _ h => h.symm⟩
    | call k d l =>
      simp only [GNode.pk, V_eqlI, Int.reduceEq, or_false, decide_true, decide_false, ifD_true, ifD_false]
      simp only [GNode.pN] at c3
      refine ldB hb (by first | exact fa_108_0 | exact fa_108_1 | exact fa_110_0 | exact fa_110_1 | exact fa_112_0 | exact fa_112_1 | exact fa_112_2 | exact fa_112_3 | exact fa_112_4 | exact fa_114_0 | exact fa_114_1 | exact fa_114_2 | exact fa_116_0 | exact fa_116_1 | exact fa_116_2 | exact fa_26_0 | exact fa_26_1 | exact fa_26_2 | exact fa_37_0 | exact fa_37_1 | exact fa_44_0 | exact fa_44_1 | exact fa_44_2 | exact fa_54_0 | exact fa_61_0 | exact fa_61_1 | exact fa_68_0 | exact fa_68_1 | exact fa_68_2 | exact fa_68_3 | exact fa_70_0 | exact fa_70_1 | exact fa_70_2 | exact fa_76_0 | exact fa_76_1 | exact fa_76_2 | exact fa_76_3 | exact fa_76_6 | exact fa_76_7 | exact fa_82_0 | exact fa_82_1 | exact fa_82_2 | exact fa_82_3 | exact fa_82_4 | exact fa_82_5 | exact fa_82_6 | exact fa_82_7 | exact fa_82_8 | exact fa_91_0 | exact fa_91_1 | exact fa_93_0 | exact fa_93_1 | exact fa_93_2 | exact fa_95_0 | exact fa_95_1 | exact fa_95_2 | exact fa_95_3 | exact fa_97_0 | exact fa_99_0 | exact fa_99_1) (by first | exact l1_21 | exact l1_24 | exact l1_28 | exact l1_3 | exact l1_35 | exact l1_4 | exact l1_42 | exact l1_52 | exact l1_58) rfl ?_
      refine V_ln_35.2 ?_
      by_cases h1 : k ≥ 0 <;> by_cases h2 : k < 8 <;> by_cases h3 : (((GNode.call k d l).us.length : Nat) : Int) ≤ 4 <;> simp only [V_fd_76_3, V_ld_3, c3, ldO_some, h1, h2, h3, V_lss, V_leq, V_geq, gd_t, gd_ft, pickD_iff, reduceIte, Bool.false_eq_true, decide_true, decide_false] <;>
        exact ⟨_, _, rfl, rfl, (by first | rfl | trivial), by simp [GNode.okF, GNode.us] at h3 ⊢; try omega⟩
    | callX k d l =>
      simp only [GNode.pk, V_eqlI, Int.reduceEq, or_false, decide_true, decide_false, ifD_true, ifD_false]
      simp only [GNode.pN] at c3
      refine ldB hb (by first | exact fa_108_0 | exact fa_108_1 | exact fa_110_0 | exact fa_110_1 | exact fa_112_0 | exact fa_112_1 | exact fa_112_2 | exact fa_112_3 | exact fa_112_4 | exact fa_114_0 | exact fa_114_1 | exact fa_114_2 | exact fa_116_0 | exact fa_116_1 | exact fa_116_2 | exact fa_26_0 | exact fa_26_1 | exact fa_26_2 | exact fa_37_0 | exact fa_37_1 | exact fa_44_0 | exact fa_44_1 | exact fa_44_2 | exact fa_54_0 | exact fa_61_0 | exact fa_61_1 | exact fa_68_0 | exact fa_68_1 | exact fa_68_2 | exact fa_68_3 | exact fa_70_0 | exact fa_70_1 | exact fa_70_2 | exact fa_76_0 | exact fa_76_1 | exact fa_76_2 | exact fa_76_3 | exact fa_76_6 | exact fa_76_7 | exact fa_82_0 | exact fa_82_1 | exact fa_82_2 | exact fa_82_3 | exact fa_82_4 | exact fa_82_5 | exact fa_82_6 | exact fa_82_7 | exact fa_82_8 | exact fa_91_0 | exact fa_91_1 | exact fa_93_0 | exact fa_93_1 | exact fa_93_2 | exact fa_95_0 | exact fa_95_1 | exact fa_95_2 | exact fa_95_3 | exact fa_97_0 | exact fa_99_0 | exact fa_99_1) (by first | exact l1_21 | exact l1_24 | exact l1_28 | exact l1_3 | exact l1_35 | exact l1_4 | exact l1_42 | exact l1_52 | exact l1_58) rfl ?_
      refine V_ln_35.2 ?_
      by_cases h1 : k ≥ 0 <;> by_cases h2 : k < 4 <;> by_cases h3 : (((GNode.callX k d l).us.length : Nat) : Int) ≤ 4 <;> simp only [V_fd_76_3, V_ld_3, c3, ldO_some, h1, h2, h3, V_lss, V_leq, V_geq, gd_t, gd_ft, pickD_iff, reduceIte, Bool.false_eq_true, decide_true, decide_false] <;>
        exact ⟨_, _, rfl, rfl, (by first | rfl | trivial), by simp [GNode.okF, GNode.us] at h3 ⊢; try omega⟩
    | ret s =>
      simp only [GNode.pk, V_eqlI, Int.reduceEq, or_false, decide_true, decide_false, ifD_true, ifD_false]
      refine ldB hb (by first | exact fa_108_0 | exact fa_108_1 | exact fa_110_0 | exact fa_110_1 | exact fa_112_0 | exact fa_112_1 | exact fa_112_2 | exact fa_112_3 | exact fa_112_4 | exact fa_114_0 | exact fa_114_1 | exact fa_114_2 | exact fa_116_0 | exact fa_116_1 | exact fa_116_2 | exact fa_26_0 | exact fa_26_1 | exact fa_26_2 | exact fa_37_0 | exact fa_37_1 | exact fa_44_0 | exact fa_44_1 | exact fa_44_2 | exact fa_54_0 | exact fa_61_0 | exact fa_61_1 | exact fa_68_0 | exact fa_68_1 | exact fa_68_2 | exact fa_68_3 | exact fa_70_0 | exact fa_70_1 | exact fa_70_2 | exact fa_76_0 | exact fa_76_1 | exact fa_76_2 | exact fa_76_3 | exact fa_76_6 | exact fa_76_7 | exact fa_82_0 | exact fa_82_1 | exact fa_82_2 | exact fa_82_3 | exact fa_82_4 | exact fa_82_5 | exact fa_82_6 | exact fa_82_7 | exact fa_82_8 | exact fa_91_0 | exact fa_91_1 | exact fa_93_0 | exact fa_93_1 | exact fa_93_2 | exact fa_95_0 | exact fa_95_1 | exact fa_95_2 | exact fa_95_3 | exact fa_97_0 | exact fa_99_0 | exact fa_99_1) (by first | exact l1_21 | exact l1_24 | exact l1_28 | exact l1_3 | exact l1_35 | exact l1_4 | exact l1_42 | exact l1_52 | exact l1_58) rfl ?_
      refine V_ln_35.2 ?_
      refine V_leq.2 ?_
      exact ⟨_, _, rfl, rfl, (by first | rfl | trivial), fun _ _ => trivial⟩
  · rintro _ _ w1 ⟨r, ok, rfl, rfl, rfl, hok⟩ _
    cases ok with
    | true =>
      simp only [gd_t]
      refine ldB hb (by first | exact fa_108_0 | exact fa_108_1 | exact fa_110_0 | exact fa_110_1 | exact fa_112_0 | exact fa_112_1 | exact fa_112_2 | exact fa_112_3 | exact fa_112_4 | exact fa_114_0 | exact fa_114_1 | exact fa_114_2 | exact fa_116_0 | exact fa_116_1 | exact fa_116_2 | exact fa_26_0 | exact fa_26_1 | exact fa_26_2 | exact fa_37_0 | exact fa_37_1 | exact fa_44_0 | exact fa_44_1 | exact fa_44_2 | exact fa_54_0 | exact fa_61_0 | exact fa_61_1 | exact fa_68_0 | exact fa_68_1 | exact fa_68_2 | exact fa_68_3 | exact fa_70_0 | exact fa_70_1 | exact fa_70_2 | exact fa_76_0 | exact fa_76_1 | exact fa_76_2 | exact fa_76_3 | exact fa_76_6 | exact fa_76_7 | exact fa_82_0 | exact fa_82_1 | exact fa_82_2 | exact fa_82_3 | exact fa_82_4 | exact fa_82_5 | exact fa_82_6 | exact fa_82_7 | exact fa_82_8 | exact fa_91_0 | exact fa_91_1 | exact fa_93_0 | exact fa_93_1 | exact fa_93_2 | exact fa_95_0 | exact fa_95_1 | exact fa_95_2 | exact fa_95_3 | exact fa_97_0 | exact fa_99_0 | exact fa_99_1) (by first | exact l1_21 | exact l1_24 | exact l1_28 | exact l1_3 | exact l1_35 | exact l1_4 | exact l1_42 | exact l1_52 | exact l1_58) rfl ?_
      refine V_ln_35.2 ?_
      refine V_eqlI.2 ?_
      simp only [pickD_iff, reduceIte]
      exact ⟨⟨_, rfl, fun h => hok rfl (of_decide_eq_true h)⟩, x1⟩
    | false =>
      simp only [gd_ft, pickD_iff, Bool.false_eq_true, reduceIte]
      exact ⟨⟨false, rfl, fun h => by cases h⟩, x1⟩
end Go.Proofs.YtendijaeihljeaaDoor
