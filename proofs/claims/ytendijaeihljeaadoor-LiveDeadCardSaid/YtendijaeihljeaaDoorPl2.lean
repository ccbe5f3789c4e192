/- Plain nodes: which may be; what they write; what comes next. -/
import Derived.Test.YtendijaeihljeaaDoorPl1
namespace Go.Proofs.YtendijaeihljeaaDoor
open Go.Vc
theorem serves8_ok {op : Int} {w : World} : callD Tryd.prog 51 #[i64 op] w fun r w' => r = i64 (serves op) ∧ w' = w := by
  apply F51_wp
  unfold F51_den
  refine ⟨fun v w' => v = .bool (decide (op = 27 ∨ op = 28)) ∧ w' = w, ?_, ?_⟩
  · refine V_eqlI.2 (ifD_dec (fun h => ?_) fun h => V_eqlI.2 ?_) <;> exact ⟨by simp [h], rfl⟩
  rintro _ w1 ⟨rfl, rfl⟩ _
  refine ifD_dec (fun h => ⟨by simp [serves, h], rfl⟩) fun h1 => ?_
  refine ⟨fun v w' => v = .bool (decide (op = 17 ∨ op = 18 ∨ op = 29)) ∧ w' = w1, ?_, ?_⟩
  · refine V_eqlI.2 (ifD_dec (fun h => ?_) fun h => V_eqlI.2 (ifD_dec (fun h' => ?_) fun h' => V_eqlI.2 ?_))
    · exact ⟨by simp [h], rfl⟩
    · exact ⟨by simp [h'], rfl⟩
    · exact ⟨by simp [h, h'], rfl⟩
  rintro _ w2 ⟨rfl, rfl⟩ _
  refine ifD_dec (fun h => ⟨by simp [serves, h1, h], rfl⟩) fun h2 => ?_
  refine ⟨fun v w' => v = .bool (decide (op = 30 ∨ op = 36)) ∧ w' = w2, ?_, ?_⟩
  · refine V_eqlI.2 (ifD_dec (fun h => ?_) fun h => V_eqlI.2 ?_) <;> exact ⟨by simp [h], rfl⟩
  rintro _ w3 ⟨rfl, rfl⟩ _
  refine ifD_dec (fun h => ⟨by simp [serves, h1, h2, h], rfl⟩) fun h3 => ?_
  refine V_eqlI.2 (ifD_dec (fun h => ?_) fun h => ?_)
  · exact ifD_dec (fun _ => ⟨by subst h; rfl, rfl⟩) fun h' => absurd h h'
  refine V_eqlI.2 (ifD_dec (fun h' => ?_) fun h' => ?_)
  · exact ⟨by subst h'; rfl, rfl⟩
  · exact ⟨by simp [serves, h1, h2, h3, h, h'], rfl⟩


def GNode.wr : GNode → Int
  | .const _ _ | .move _ _ | .bin _ _ _ _ | .un _ _ _ | .choose _ _ _ _ | .getField _ _ => 1
  | .serve _ _ _ _ _ | .call _ _ _ | .callX _ _ _ => 0
  | _ => -1
theorem writes_ok {g : GNode} {v : Value} {w : World} (h : PlainIs w v g) : callD Tryd.prog 35 #[v] w fun r w' => r = i64 g.wr ∧ Ext w w' := by
  obtain ⟨m, sv, rfl, hs⟩ := h
  apply F35_wp
  unfold F35_den
  refine bx fun b w1 hb x1 => ?_
  refine ldB hb (by first | exact fa_108_0 | exact fa_108_1 | exact fa_110_0 | exact fa_110_1 | exact fa_112_0 | exact fa_112_1 | exact fa_112_2 | exact fa_112_3 | exact fa_112_4 | exact fa_114_0 | exact fa_114_1 | exact fa_114_2 | exact fa_116_0 | exact fa_116_1 | exact fa_116_2 | exact fa_26_0 | exact fa_26_1 | exact fa_26_2 | exact fa_37_0 | exact fa_37_1 | exact fa_44_0 | exact fa_44_1 | exact fa_44_2 | exact fa_54_0 | exact fa_61_0 | exact fa_61_1 | exact fa_68_0 | exact fa_68_1 | exact fa_68_2 | exact fa_68_3 | exact fa_70_0 | exact fa_70_1 | exact fa_70_2 | exact fa_76_0 | exact fa_76_1 | exact fa_76_2 | exact fa_76_3 | exact fa_76_6 | exact fa_76_7 | exact fa_82_0 | exact fa_82_1 | exact fa_82_2 | exact fa_82_3 | exact fa_82_4 | exact fa_82_5 | exact fa_82_6 | exact fa_82_7 | exact fa_82_8 | exact fa_91_0 | exact fa_91_1 | exact fa_93_0 | exact fa_93_1 | exact fa_93_2 | exact fa_95_0 | exact fa_95_1 | exact fa_95_2 | exact fa_95_3 | exact fa_97_0 | exact fa_99_0 | exact fa_99_1) (by first | exact l1_21 | exact l1_24 | exact l1_28 | exact l1_3 | exact l1_35 | exact l1_4 | exact l1_42 | exact l1_52 | exact l1_58) rfl ?_
  refine ⟨fun v w' => v = .bool (decide (g.wr = 1)) ∧ w' = w1, ?_, ?_⟩
  · cases g <;> (simp only [GNode.pk, V_eqlI, Int.reduceEq, decide_true, decide_false, ifD_true, ifD_false]; first | exact ⟨rfl, rfl⟩ | simp [GNode.wr])
  · rintro _ w2 ⟨rfl, rfl⟩ _
    cases g <;> (simp only [GNode.wr, GNode.pk, V_eqlI, Int.reduceEq, Int.reduceNeg, decide_true, decide_false, ifD_true, ifD_false]; first | exact ⟨rfl, x1⟩ | exact ⟨trivial, x1⟩)
theorem nextP_ok {g : GNode} {v : Value} {w : World} {k : Int} (h : PlainIs w v g) (h0 : 0 ≤ k) (h1 : k ≤ 1000000) : callD Tryd.prog 36 #[v, i64 k] w fun r w' => w'.ownsRow w.heap.size 3 1 r (g.nx k).length ((g.nx k).map i64) ∧ Ext w w' := by
  obtain ⟨m, sv, rfl, hs⟩ := h
  apply F36_wp
  unfold F36_den
  have hw : IntKind.i64.wrap (k + 1) = k + 1 := wrap_id (by omega) (by omega)
  refine bx fun b w1 hb x1 => ?_
  refine ldB hb (by first | exact fa_108_0 | exact fa_108_1 | exact fa_110_0 | exact fa_110_1 | exact fa_112_0 | exact fa_112_1 | exact fa_112_2 | exact fa_112_3 | exact fa_112_4 | exact fa_114_0 | exact fa_114_1 | exact fa_114_2 | exact fa_116_0 | exact fa_116_1 | exact fa_116_2 | exact fa_26_0 | exact fa_26_1 | exact fa_26_2 | exact fa_37_0 | exact fa_37_1 | exact fa_44_0 | exact fa_44_1 | exact fa_44_2 | exact fa_54_0 | exact fa_61_0 | exact fa_61_1 | exact fa_68_0 | exact fa_68_1 | exact fa_68_2 | exact fa_68_3 | exact fa_70_0 | exact fa_70_1 | exact fa_70_2 | exact fa_76_0 | exact fa_76_1 | exact fa_76_2 | exact fa_76_3 | exact fa_76_6 | exact fa_76_7 | exact fa_82_0 | exact fa_82_1 | exact fa_82_2 | exact fa_82_3 | exact fa_82_4 | exact fa_82_5 | exact fa_82_6 | exact fa_82_7 | exact fa_82_8 | exact fa_91_0 | exact fa_91_1 | exact fa_93_0 | exact fa_93_1 | exact fa_93_2 | exact fa_95_0 | exact fa_95_1 | exact fa_95_2 | exact fa_95_3 | exact fa_97_0 | exact fa_99_0 | exact fa_99_1) (by first | exact l1_21 | exact l1_24 | exact l1_28 | exact l1_3 | exact l1_35 | exact l1_4 | exact l1_42 | exact l1_52 | exact l1_58) rfl ?_
  refine ⟨fun v w' => v = .bool (decide (g.pk = 0 ∨ g.pk = 14)) ∧ w' = w1, ?_, ?_⟩
  · cases g <;> (simp only [GNode.pk, V_eqlI, Int.reduceEq, decide_true, decide_false, ifD_false]; first | exact ⟨rfl, rfl⟩ | simp [])
  · rintro _ w2 ⟨rfl, rfl⟩ _
    cases g with
    | ret s =>
      simp only [GNode.pk, Int.reduceEq, or_true, decide_true, ifD_true]
      exact ⟨World.ownsRow_nil _ _ _ _, x1⟩
    | goto t =>
      simp only [GNode.pk, Int.reduceEq, or_false, decide_false, ifD_false, V_eqlI, decide_true, ifD_true]
      refine ldB hb (by first | exact fa_108_0 | exact fa_108_1 | exact fa_110_0 | exact fa_110_1 | exact fa_112_0 | exact fa_112_1 | exact fa_112_2 | exact fa_112_3 | exact fa_112_4 | exact fa_114_0 | exact fa_114_1 | exact fa_114_2 | exact fa_116_0 | exact fa_116_1 | exact fa_116_2 | exact fa_26_0 | exact fa_26_1 | exact fa_26_2 | exact fa_37_0 | exact fa_37_1 | exact fa_44_0 | exact fa_44_1 | exact fa_44_2 | exact fa_54_0 | exact fa_61_0 | exact fa_61_1 | exact fa_68_0 | exact fa_68_1 | exact fa_68_2 | exact fa_68_3 | exact fa_70_0 | exact fa_70_1 | exact fa_70_2 | exact fa_76_0 | exact fa_76_1 | exact fa_76_2 | exact fa_76_3 | exact fa_76_6 | exact fa_76_7 | exact fa_82_0 | exact fa_82_1 | exact fa_82_2 | exact fa_82_3 | exact fa_82_4 | exact fa_82_5 | exact fa_82_6 | exact fa_82_7 | exact fa_82_8 | exact fa_91_0 | exact fa_91_1 | exact fa_93_0 | exact fa_93_1 | exact fa_93_2 | exact fa_95_0 | exact fa_95_1 | exact fa_95_2 | exact fa_95_3 | exact fa_97_0 | exact fa_99_0 | exact fa_99_1) (by first | exact l1_21 | exact l1_24 | exact l1_28 | exact l1_3 | exact l1_35 | exact l1_4 | exact l1_42 | exact l1_52 | exact l1_58) rfl ?_
      refine bsl (by first | exact xe_23 | exact xe_24 | exact xe_28 | exact xe_35 | exact xe_58) [i64 t] rfl rfl (by simp) rfl fun v w2 ho x2 => ?_
      exact ⟨own_mono ho x1.size, x1.trans x2⟩
    | branch c t =>
      simp only [GNode.pk, Int.reduceEq, or_false, decide_false, ifD_false, V_eqlI, decide_true, ifD_true]
      refine ldB hb (by first | exact fa_108_0 | exact fa_108_1 | exact fa_110_0 | exact fa_110_1 | exact fa_112_0 | exact fa_112_1 | exact fa_112_2 | exact fa_112_3 | exact fa_112_4 | exact fa_114_0 | exact fa_114_1 | exact fa_114_2 | exact fa_116_0 | exact fa_116_1 | exact fa_116_2 | exact fa_26_0 | exact fa_26_1 | exact fa_26_2 | exact fa_37_0 | exact fa_37_1 | exact fa_44_0 | exact fa_44_1 | exact fa_44_2 | exact fa_54_0 | exact fa_61_0 | exact fa_61_1 | exact fa_68_0 | exact fa_68_1 | exact fa_68_2 | exact fa_68_3 | exact fa_70_0 | exact fa_70_1 | exact fa_70_2 | exact fa_76_0 | exact fa_76_1 | exact fa_76_2 | exact fa_76_3 | exact fa_76_6 | exact fa_76_7 | exact fa_82_0 | exact fa_82_1 | exact fa_82_2 | exact fa_82_3 | exact fa_82_4 | exact fa_82_5 | exact fa_82_6 | exact fa_82_7 | exact fa_82_8 | exact fa_91_0 | exact fa_91_1 | exact fa_93_0 | exact fa_93_1 | exact fa_93_2 | exact fa_95_0 | exact fa_95_1 | exact fa_95_2 | exact fa_95_3 | exact fa_97_0 | exact fa_99_0 | exact fa_99_1) (by first | exact l1_21 | exact l1_24 | exact l1_28 | exact l1_3 | exact l1_35 | exact l1_4 | exact l1_42 | exact l1_52 | exact l1_58) rfl ?_
      refine V_add.2 ?_
      rw [hw]
      refine V_eqlI.2 (ifD_dec (fun heq => ?_) fun hne => ?_)
      · refine V_add.2 ?_
        rw [hw]
        refine bsl (by first | exact xe_23 | exact xe_24 | exact xe_28 | exact xe_35 | exact xe_58) [i64 (k + 1)] rfl rfl (by simp) rfl fun v w2 ho x2 => ?_
        have hu : GNode.nx (.branch c t) k = [k + 1] := by simp only [GNode.nx]; rw [if_pos (show t = k + 1 from heq)]
        rw [hu]
        exact ⟨own_mono ho x1.size, x1.trans x2⟩
      · refine V_add.2 ?_
        rw [hw]
        refine ldB hb (by first | exact fa_108_0 | exact fa_108_1 | exact fa_110_0 | exact fa_110_1 | exact fa_112_0 | exact fa_112_1 | exact fa_112_2 | exact fa_112_3 | exact fa_112_4 | exact fa_114_0 | exact fa_114_1 | exact fa_114_2 | exact fa_116_0 | exact fa_116_1 | exact fa_116_2 | exact fa_26_0 | exact fa_26_1 | exact fa_26_2 | exact fa_37_0 | exact fa_37_1 | exact fa_44_0 | exact fa_44_1 | exact fa_44_2 | exact fa_54_0 | exact fa_61_0 | exact fa_61_1 | exact fa_68_0 | exact fa_68_1 | exact fa_68_2 | exact fa_68_3 | exact fa_70_0 | exact fa_70_1 | exact fa_70_2 | exact fa_76_0 | exact fa_76_1 | exact fa_76_2 | exact fa_76_3 | exact fa_76_6 | exact fa_76_7 | exact fa_82_0 | exact fa_82_1 | exact fa_82_2 | exact fa_82_3 | exact fa_82_4 | exact fa_82_5 | exact fa_82_6 | exact fa_82_7 | exact fa_82_8 | exact fa_91_0 | exact fa_91_1 | exact fa_93_0 | exact fa_93_1 | exact fa_93_2 | exact fa_95_0 | exact fa_95_1 | exact fa_95_2 | exact fa_95_3 | exact fa_97_0 | exact fa_99_0 | exact fa_99_1) (by first | exact l1_21 | exact l1_24 | exact l1_28 | exact l1_3 | exact l1_35 | exact l1_4 | exact l1_42 | exact l1_52 | exact l1_58) rfl ?_
        refine bsl (by first | exact xe_23 | exact xe_24 | exact xe_28 | exact xe_35 | exact xe_58) [i64 (k + 1), i64 t] rfl rfl (by simp) rfl fun v w2 ho x2 => ?_
        have hu : GNode.nx (.branch c t) k = [k + 1, t] := by simp only [GNode.nx]; rw [if_neg (show ¬ t = k + 1 from hne)]
        rw [hu]
        exact ⟨own_mono ho x1.size, x1.trans x2⟩
    | _ =>
      simp only [GNode.pk, Int.reduceEq, or_false, decide_false, ifD_false, V_eqlI]
      refine V_add.2 ?_
      rw [hw]
      refine bsl (by first | exact xe_23 | exact xe_24 | exact xe_28 | exact xe_35 | exact xe_58) [i64 (k + 1)] rfl rfl (by simp) rfl fun v w2 ho x2 => ?_
      exact ⟨own_mono ho x1.size, x1.trans x2⟩
end Go.Proofs.YtendijaeihljeaaDoor
