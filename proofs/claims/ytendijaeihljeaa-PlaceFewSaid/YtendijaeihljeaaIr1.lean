/- Contracts of package ir's functions on single nodes. -/
import Derived.Test.YtendijaeihljeaaNodes
import Derived.Test.YtendijaeihljeaaDens
namespace Go.Proofs.Ytendijaeihljeaa
open Go.Vc

theorem all_i64 (l : List Int) : (l.map i64).all oneC = true := by simp [oneC]
theorem all_vb (l : List Bool) : (l.map Value.bool).all oneC = true := by simp [oneC]

theorem clone_int {v : Value} {l : List Int} {w : World} (h : IntsAre w v l) (hl : l.length ≤ 4294967296) :
    callD Try.prog 29 #[v] w fun r w' => w'.ownsRow w.heap.size 3 1 r l.length (l.map i64) ∧ Ext w w' := by
  apply F29_wp
  unfold F29_den
  exact cloneD (R := fun r w' => w'.ownsRow w.heap.size 3 1 r l.length (l.map i64) ∧ Ext w w') xe_22 h (all_i64 l) (by omega) fun v' w' h1 h2 => ⟨h1, h2⟩
theorem clone_bool {v : Value} {l : List Bool} {w : World} (h : BoolsAre w v l) (hl : l.length ≤ 4294967296) :
    callD Try.prog 30 #[v] w fun r w' => w'.ownsRow w.heap.size 4 1 r l.length (l.map Value.bool) ∧ Ext w w' := by
  apply F30_wp
  unfold F30_den
  exact cloneD (R := fun r w' => w'.ownsRow w.heap.size 4 1 r l.length (l.map Value.bool) ∧ Ext w w') xe_47 h (all_vb l) (by omega) fun v' w' h1 h2 => ⟨h1, h2⟩

theorem def_ok {n : GNode} {v : Value} {w : World} (h : NodeIs w v n) : callD Try.prog 17 #[v] w fun r w' => r = i64 n.df ∧ Ext w w' := by
  obtain ⟨sv, rfl, hs⟩ := h
  obtain ⟨sa, sc, rfl⟩ := hs.shape
  apply F17_wp
  unfold F17_den
  cases n <;> (dsimp only [GNode.val]; (repeat (first | (with_reducible refine th (by first | exact ta_27 | exact ta_30 | exact ta_32 | exact ta_34 | exact ta_36 | exact ta_38 | exact ta_68 | exact ta_70 | exact ta_72 | exact ta_74 | exact ta_76 | exact ta_78 | exact ta_82 | exact ta_85) ?_) | ((with_reducible refine tm (by first | exact ta_27 | exact ta_30 | exact ta_32 | exact ta_34 | exact ta_36 | exact ta_38 | exact ta_68 | exact ta_70 | exact ta_72 | exact ta_74 | exact ta_76 | exact ta_78 | exact ta_82 | exact ta_85) (by decide) ?_); intro _ _ _))); first | exact ⟨rfl, Ext.refl _⟩ | (refine asB (by first | exact sa_25 | exact sa_27 | exact sa_30 | exact sa_34 | exact sa_36 | exact sa_38 | exact sa_40 | exact sa_47 | exact sa_49 | exact sa_68 | exact sa_70 | exact sa_72 | exact sa_74 | exact sa_76 | exact sa_78 | exact sa_82 | exact sa_85) rfl rfl fun b w1 hb x1 => ?_; refine ldB hb (by first | exact fa_25_0 | exact fa_25_1 | exact fa_25_2 | exact fa_27_0 | exact fa_30_0 | exact fa_30_1 | exact fa_30_2 | exact fa_34_0 | exact fa_34_1 | exact fa_36_0 | exact fa_36_1 | exact fa_36_2 | exact fa_36_3 | exact fa_38_0 | exact fa_40_0 | exact fa_40_1 | exact fa_49_0 | exact fa_49_1 | exact fa_49_2 | exact fa_68_0 | exact fa_68_1 | exact fa_68_2 | exact fa_68_3 | exact fa_70_0 | exact fa_70_1 | exact fa_72_0 | exact fa_72_3 | exact fa_72_4 | exact fa_74_0 | exact fa_74_1 | exact fa_74_2 | exact fa_76_0 | exact fa_76_1 | exact fa_76_2 | exact fa_78_0 | exact fa_78_1 | exact fa_82_0 | exact fa_82_1 | exact fa_85_0) (by first | exact l1_22 | exact l1_23 | exact l1_3 | exact l1_4 | exact l1_46 | exact l1_47 | exact l1_54) rfl ?_; exact ⟨rfl, x1⟩))

theorem uses_ok {n : GNode} {v : Value} {w : World} (h : NodeIs w v n) (hl : n.args.length ≤ 4294967296) : callD Try.prog 21 #[v] w fun r w' => w'.ownsRow w.heap.size 3 1 r n.us.length (n.us.map i64) ∧ Ext w w' := by
  obtain ⟨sv, rfl, hs⟩ := h
  obtain ⟨sa, sc, rfl⟩ := hs.shape
  apply F21_wp
  unfold F21_den
  cases n with
  | const _ _ | tick | goto _ | getField _ _ => dsimp only [GNode.val]; (repeat (first | (with_reducible refine th (by first | exact ta_27 | exact ta_30 | exact ta_32 | exact ta_34 | exact ta_36 | exact ta_38 | exact ta_68 | exact ta_70 | exact ta_72 | exact ta_74 | exact ta_76 | exact ta_78 | exact ta_82 | exact ta_85) ?_) | ((with_reducible refine tm (by first | exact ta_27 | exact ta_30 | exact ta_32 | exact ta_34 | exact ta_36 | exact ta_38 | exact ta_68 | exact ta_70 | exact ta_72 | exact ta_74 | exact ta_76 | exact ta_78 | exact ta_82 | exact ta_85) (by decide) ?_); intro _ _ _))); exact ⟨World.ownsRow_nil _ _ _ _, Ext.refl _⟩
  | move _ a | un _ _ a | branch a _ | putField _ a =>
    dsimp only [GNode.val]; (repeat (first | (with_reducible refine th (by first | exact ta_27 | exact ta_30 | exact ta_32 | exact ta_34 | exact ta_36 | exact ta_38 | exact ta_68 | exact ta_70 | exact ta_72 | exact ta_74 | exact ta_76 | exact ta_78 | exact ta_82 | exact ta_85) ?_) | ((with_reducible refine tm (by first | exact ta_27 | exact ta_30 | exact ta_32 | exact ta_34 | exact ta_36 | exact ta_38 | exact ta_68 | exact ta_70 | exact ta_72 | exact ta_74 | exact ta_76 | exact ta_78 | exact ta_82 | exact ta_85) (by decide) ?_); intro _ _ _)))
    refine asB (by first | exact sa_25 | exact sa_27 | exact sa_30 | exact sa_34 | exact sa_36 | exact sa_38 | exact sa_40 | exact sa_47 | exact sa_49 | exact sa_68 | exact sa_70 | exact sa_72 | exact sa_74 | exact sa_76 | exact sa_78 | exact sa_82 | exact sa_85) rfl rfl fun b w1 hb x1 => ?_; refine ldB hb (by first | exact fa_25_0 | exact fa_25_1 | exact fa_25_2 | exact fa_27_0 | exact fa_30_0 | exact fa_30_1 | exact fa_30_2 | exact fa_34_0 | exact fa_34_1 | exact fa_36_0 | exact fa_36_1 | exact fa_36_2 | exact fa_36_3 | exact fa_38_0 | exact fa_40_0 | exact fa_40_1 | exact fa_49_0 | exact fa_49_1 | exact fa_49_2 | exact fa_68_0 | exact fa_68_1 | exact fa_68_2 | exact fa_68_3 | exact fa_70_0 | exact fa_70_1 | exact fa_72_0 | exact fa_72_3 | exact fa_72_4 | exact fa_74_0 | exact fa_74_1 | exact fa_74_2 | exact fa_76_0 | exact fa_76_1 | exact fa_76_2 | exact fa_78_0 | exact fa_78_1 | exact fa_82_0 | exact fa_82_1 | exact fa_85_0) (by first | exact l1_22 | exact l1_23 | exact l1_3 | exact l1_4 | exact l1_46 | exact l1_47 | exact l1_54) rfl ?_
    refine bsl (by first | exact xe_22 | exact xe_23 | exact xe_46 | exact xe_47) [i64 a] rfl rfl (by simp) rfl fun v w2 ho x2 => ?_
    exact ⟨own_mono ho x1.size, x1.trans x2⟩
  | bin _ _ a c =>
    dsimp only [GNode.val]; (repeat (first | (with_reducible refine th (by first | exact ta_27 | exact ta_30 | exact ta_32 | exact ta_34 | exact ta_36 | exact ta_38 | exact ta_68 | exact ta_70 | exact ta_72 | exact ta_74 | exact ta_76 | exact ta_78 | exact ta_82 | exact ta_85) ?_) | ((with_reducible refine tm (by first | exact ta_27 | exact ta_30 | exact ta_32 | exact ta_34 | exact ta_36 | exact ta_38 | exact ta_68 | exact ta_70 | exact ta_72 | exact ta_74 | exact ta_76 | exact ta_78 | exact ta_82 | exact ta_85) (by decide) ?_); intro _ _ _)))
    refine asB (by first | exact sa_25 | exact sa_27 | exact sa_30 | exact sa_34 | exact sa_36 | exact sa_38 | exact sa_40 | exact sa_47 | exact sa_49 | exact sa_68 | exact sa_70 | exact sa_72 | exact sa_74 | exact sa_76 | exact sa_78 | exact sa_82 | exact sa_85) rfl rfl fun b w1 hb x1 => ?_; refine ldB hb (by first | exact fa_25_0 | exact fa_25_1 | exact fa_25_2 | exact fa_27_0 | exact fa_30_0 | exact fa_30_1 | exact fa_30_2 | exact fa_34_0 | exact fa_34_1 | exact fa_36_0 | exact fa_36_1 | exact fa_36_2 | exact fa_36_3 | exact fa_38_0 | exact fa_40_0 | exact fa_40_1 | exact fa_49_0 | exact fa_49_1 | exact fa_49_2 | exact fa_68_0 | exact fa_68_1 | exact fa_68_2 | exact fa_68_3 | exact fa_70_0 | exact fa_70_1 | exact fa_72_0 | exact fa_72_3 | exact fa_72_4 | exact fa_74_0 | exact fa_74_1 | exact fa_74_2 | exact fa_76_0 | exact fa_76_1 | exact fa_76_2 | exact fa_78_0 | exact fa_78_1 | exact fa_82_0 | exact fa_82_1 | exact fa_85_0) (by first | exact l1_22 | exact l1_23 | exact l1_3 | exact l1_4 | exact l1_46 | exact l1_47 | exact l1_54) rfl ?_; refine ldB hb (by first | exact fa_25_0 | exact fa_25_1 | exact fa_25_2 | exact fa_27_0 | exact fa_30_0 | exact fa_30_1 | exact fa_30_2 | exact fa_34_0 | exact fa_34_1 | exact fa_36_0 | exact fa_36_1 | exact fa_36_2 | exact fa_36_3 | exact fa_38_0 | exact fa_40_0 | exact fa_40_1 | exact fa_49_0 | exact fa_49_1 | exact fa_49_2 | exact fa_68_0 | exact fa_68_1 | exact fa_68_2 | exact fa_68_3 | exact fa_70_0 | exact fa_70_1 | exact fa_72_0 | exact fa_72_3 | exact fa_72_4 | exact fa_74_0 | exact fa_74_1 | exact fa_74_2 | exact fa_76_0 | exact fa_76_1 | exact fa_76_2 | exact fa_78_0 | exact fa_78_1 | exact fa_82_0 | exact fa_82_1 | exact fa_85_0) (by first | exact l1_22 | exact l1_23 | exact l1_3 | exact l1_4 | exact l1_46 | exact l1_47 | exact l1_54) rfl ?_
    refine bsl (by first | exact xe_22 | exact xe_23 | exact xe_46 | exact xe_47) [i64 a, i64 c] rfl rfl (by simp) rfl fun v w2 ho x2 => ?_
    exact ⟨own_mono ho x1.size, x1.trans x2⟩
  | choose _ a c d =>
    dsimp only [GNode.val]; (repeat (first | (with_reducible refine th (by first | exact ta_27 | exact ta_30 | exact ta_32 | exact ta_34 | exact ta_36 | exact ta_38 | exact ta_68 | exact ta_70 | exact ta_72 | exact ta_74 | exact ta_76 | exact ta_78 | exact ta_82 | exact ta_85) ?_) | ((with_reducible refine tm (by first | exact ta_27 | exact ta_30 | exact ta_32 | exact ta_34 | exact ta_36 | exact ta_38 | exact ta_68 | exact ta_70 | exact ta_72 | exact ta_74 | exact ta_76 | exact ta_78 | exact ta_82 | exact ta_85) (by decide) ?_); intro _ _ _)))
    refine asB (by first | exact sa_25 | exact sa_27 | exact sa_30 | exact sa_34 | exact sa_36 | exact sa_38 | exact sa_40 | exact sa_47 | exact sa_49 | exact sa_68 | exact sa_70 | exact sa_72 | exact sa_74 | exact sa_76 | exact sa_78 | exact sa_82 | exact sa_85) rfl rfl fun b w1 hb x1 => ?_; refine ldB hb (by first | exact fa_25_0 | exact fa_25_1 | exact fa_25_2 | exact fa_27_0 | exact fa_30_0 | exact fa_30_1 | exact fa_30_2 | exact fa_34_0 | exact fa_34_1 | exact fa_36_0 | exact fa_36_1 | exact fa_36_2 | exact fa_36_3 | exact fa_38_0 | exact fa_40_0 | exact fa_40_1 | exact fa_49_0 | exact fa_49_1 | exact fa_49_2 | exact fa_68_0 | exact fa_68_1 | exact fa_68_2 | exact fa_68_3 | exact fa_70_0 | exact fa_70_1 | exact fa_72_0 | exact fa_72_3 | exact fa_72_4 | exact fa_74_0 | exact fa_74_1 | exact fa_74_2 | exact fa_76_0 | exact fa_76_1 | exact fa_76_2 | exact fa_78_0 | exact fa_78_1 | exact fa_82_0 | exact fa_82_1 | exact fa_85_0) (by first | exact l1_22 | exact l1_23 | exact l1_3 | exact l1_4 | exact l1_46 | exact l1_47 | exact l1_54) rfl ?_; refine ldB hb (by first | exact fa_25_0 | exact fa_25_1 | exact fa_25_2 | exact fa_27_0 | exact fa_30_0 | exact fa_30_1 | exact fa_30_2 | exact fa_34_0 | exact fa_34_1 | exact fa_36_0 | exact fa_36_1 | exact fa_36_2 | exact fa_36_3 | exact fa_38_0 | exact fa_40_0 | exact fa_40_1 | exact fa_49_0 | exact fa_49_1 | exact fa_49_2 | exact fa_68_0 | exact fa_68_1 | exact fa_68_2 | exact fa_68_3 | exact fa_70_0 | exact fa_70_1 | exact fa_72_0 | exact fa_72_3 | exact fa_72_4 | exact fa_74_0 | exact fa_74_1 | exact fa_74_2 | exact fa_76_0 | exact fa_76_1 | exact fa_76_2 | exact fa_78_0 | exact fa_78_1 | exact fa_82_0 | exact fa_82_1 | exact fa_85_0) (by first | exact l1_22 | exact l1_23 | exact l1_3 | exact l1_4 | exact l1_46 | exact l1_47 | exact l1_54) rfl ?_; refine ldB hb (by first | exact fa_25_0 | exact fa_25_1 | exact fa_25_2 | exact fa_27_0 | exact fa_30_0 | exact fa_30_1 | exact fa_30_2 | exact fa_34_0 | exact fa_34_1 | exact fa_36_0 | exact fa_36_1 | exact fa_36_2 | exact fa_36_3 | exact fa_38_0 | exact fa_40_0 | exact fa_40_1 | exact fa_49_0 | exact fa_49_1 | exact fa_49_2 | exact fa_68_0 | exact fa_68_1 | exact fa_68_2 | exact fa_68_3 | exact fa_70_0 | exact fa_70_1 | exact fa_72_0 | exact fa_72_3 | exact fa_72_4 | exact fa_74_0 | exact fa_74_1 | exact fa_74_2 | exact fa_76_0 | exact fa_76_1 | exact fa_76_2 | exact fa_78_0 | exact fa_78_1 | exact fa_82_0 | exact fa_82_1 | exact fa_85_0) (by first | exact l1_22 | exact l1_23 | exact l1_3 | exact l1_4 | exact l1_46 | exact l1_47 | exact l1_54) rfl ?_
    refine bsl (by first | exact xe_22 | exact xe_23 | exact xe_46 | exact xe_47) [i64 a, i64 c, i64 d] rfl rfl (by simp) rfl fun v w2 ho x2 => ?_
    exact ⟨own_mono ho x1.size, x1.trans x2⟩
  | serve _ _ _ _ l | call _ _ l | callX _ _ l =>
    dsimp only [GNode.val]; (repeat (first | (with_reducible refine th (by first | exact ta_27 | exact ta_30 | exact ta_32 | exact ta_34 | exact ta_36 | exact ta_38 | exact ta_68 | exact ta_70 | exact ta_72 | exact ta_74 | exact ta_76 | exact ta_78 | exact ta_82 | exact ta_85) ?_) | ((with_reducible refine tm (by first | exact ta_27 | exact ta_30 | exact ta_32 | exact ta_34 | exact ta_36 | exact ta_38 | exact ta_68 | exact ta_70 | exact ta_72 | exact ta_74 | exact ta_76 | exact ta_78 | exact ta_82 | exact ta_85) (by decide) ?_); intro _ _ _)))
    refine asB (by first | exact sa_25 | exact sa_27 | exact sa_30 | exact sa_34 | exact sa_36 | exact sa_38 | exact sa_40 | exact sa_47 | exact sa_49 | exact sa_68 | exact sa_70 | exact sa_72 | exact sa_74 | exact sa_76 | exact sa_78 | exact sa_82 | exact sa_85) rfl rfl fun b w1 hb x1 => ?_; refine ldB hb (by first | exact fa_25_0 | exact fa_25_1 | exact fa_25_2 | exact fa_27_0 | exact fa_30_0 | exact fa_30_1 | exact fa_30_2 | exact fa_34_0 | exact fa_34_1 | exact fa_36_0 | exact fa_36_1 | exact fa_36_2 | exact fa_36_3 | exact fa_38_0 | exact fa_40_0 | exact fa_40_1 | exact fa_49_0 | exact fa_49_1 | exact fa_49_2 | exact fa_68_0 | exact fa_68_1 | exact fa_68_2 | exact fa_68_3 | exact fa_70_0 | exact fa_70_1 | exact fa_72_0 | exact fa_72_3 | exact fa_72_4 | exact fa_74_0 | exact fa_74_1 | exact fa_74_2 | exact fa_76_0 | exact fa_76_1 | exact fa_76_2 | exact fa_78_0 | exact fa_78_1 | exact fa_82_0 | exact fa_82_1 | exact fa_85_0) (by first | exact l1_22 | exact l1_23 | exact l1_3 | exact l1_4 | exact l1_46 | exact l1_47 | exact l1_54) rfl ?_
    exact (clone_int (hs.ext x1) hl).mono fun r w2 ⟨h1, h2⟩ => ⟨own_mono h1 x1.size, x1.trans h2⟩
  | ret s =>
    dsimp only [GNode.val]; (repeat (first | (with_reducible refine th (by first | exact ta_27 | exact ta_30 | exact ta_32 | exact ta_34 | exact ta_36 | exact ta_38 | exact ta_68 | exact ta_70 | exact ta_72 | exact ta_74 | exact ta_76 | exact ta_78 | exact ta_82 | exact ta_85) ?_) | ((with_reducible refine tm (by first | exact ta_27 | exact ta_30 | exact ta_32 | exact ta_34 | exact ta_36 | exact ta_38 | exact ta_68 | exact ta_70 | exact ta_72 | exact ta_74 | exact ta_76 | exact ta_78 | exact ta_82 | exact ta_85) (by decide) ?_); intro _ _ _)))
    refine asB (by first | exact sa_25 | exact sa_27 | exact sa_30 | exact sa_34 | exact sa_36 | exact sa_38 | exact sa_40 | exact sa_47 | exact sa_49 | exact sa_68 | exact sa_70 | exact sa_72 | exact sa_74 | exact sa_76 | exact sa_78 | exact sa_82 | exact sa_85) rfl rfl fun b w1 hb x1 => ?_; refine ldB hb (by first | exact fa_25_0 | exact fa_25_1 | exact fa_25_2 | exact fa_27_0 | exact fa_30_0 | exact fa_30_1 | exact fa_30_2 | exact fa_34_0 | exact fa_34_1 | exact fa_36_0 | exact fa_36_1 | exact fa_36_2 | exact fa_36_3 | exact fa_38_0 | exact fa_40_0 | exact fa_40_1 | exact fa_49_0 | exact fa_49_1 | exact fa_49_2 | exact fa_68_0 | exact fa_68_1 | exact fa_68_2 | exact fa_68_3 | exact fa_70_0 | exact fa_70_1 | exact fa_72_0 | exact fa_72_3 | exact fa_72_4 | exact fa_74_0 | exact fa_74_1 | exact fa_74_2 | exact fa_76_0 | exact fa_76_1 | exact fa_76_2 | exact fa_78_0 | exact fa_78_1 | exact fa_82_0 | exact fa_82_1 | exact fa_85_0) (by first | exact l1_22 | exact l1_23 | exact l1_3 | exact l1_4 | exact l1_46 | exact l1_47 | exact l1_54) rfl ?_
    refine V_neqI.2 (ifD_dec (fun hne => ?_) fun heq => ?_)
    · refine ldB hb (by first | exact fa_25_0 | exact fa_25_1 | exact fa_25_2 | exact fa_27_0 | exact fa_30_0 | exact fa_30_1 | exact fa_30_2 | exact fa_34_0 | exact fa_34_1 | exact fa_36_0 | exact fa_36_1 | exact fa_36_2 | exact fa_36_3 | exact fa_38_0 | exact fa_40_0 | exact fa_40_1 | exact fa_49_0 | exact fa_49_1 | exact fa_49_2 | exact fa_68_0 | exact fa_68_1 | exact fa_68_2 | exact fa_68_3 | exact fa_70_0 | exact fa_70_1 | exact fa_72_0 | exact fa_72_3 | exact fa_72_4 | exact fa_74_0 | exact fa_74_1 | exact fa_74_2 | exact fa_76_0 | exact fa_76_1 | exact fa_76_2 | exact fa_78_0 | exact fa_78_1 | exact fa_82_0 | exact fa_82_1 | exact fa_85_0) (by first | exact l1_22 | exact l1_23 | exact l1_3 | exact l1_4 | exact l1_46 | exact l1_47 | exact l1_54) rfl ?_
      refine bsl (by first | exact xe_22 | exact xe_23 | exact xe_46 | exact xe_47) [i64 s] rfl rfl (by simp) rfl fun v w2 ho x2 => ?_
      have hu : GNode.us (.ret s) = [s] := by simp only [GNode.us]; rw [if_neg hne]
      rw [hu]
      exact ⟨own_mono ho x1.size, x1.trans x2⟩
    · have hu : GNode.us (.ret s) = [] := by simp only [GNode.us]; rw [if_pos (by omega)]
      rw [hu]
      exact ⟨World.ownsRow_nil _ _ _ _, x1⟩

theorem next_ok {n : GNode} {v : Value} {w : World} {k : Int} (h : NodeIs w v n) (h0 : 0 ≤ k) (h1 : k ≤ 1000000) : callD Try.prog 22 #[v, i64 k] w fun r w' => w'.ownsRow w.heap.size 3 1 r (n.nx k).length ((n.nx k).map i64) ∧ Ext w w' := by
  obtain ⟨sv, rfl, hs⟩ := h
  obtain ⟨sa, sc, rfl⟩ := hs.shape
  apply F22_wp
  unfold F22_den
  have hw : IntKind.i64.wrap (k + 1) = k + 1 := wrap_id (by omega) (by omega)
  cases n with
  | goto t =>
    dsimp only [GNode.val]
    refine V_eqni_54.2 (ifD_false.2 ?_)
    (repeat (first | (with_reducible refine th (by first | exact ta_27 | exact ta_30 | exact ta_32 | exact ta_34 | exact ta_36 | exact ta_38 | exact ta_68 | exact ta_70 | exact ta_72 | exact ta_74 | exact ta_76 | exact ta_78 | exact ta_82 | exact ta_85) ?_) | ((with_reducible refine tm (by first | exact ta_27 | exact ta_30 | exact ta_32 | exact ta_34 | exact ta_36 | exact ta_38 | exact ta_68 | exact ta_70 | exact ta_72 | exact ta_74 | exact ta_76 | exact ta_78 | exact ta_82 | exact ta_85) (by decide) ?_); intro _ _ _)))
    refine asB (by first | exact sa_25 | exact sa_27 | exact sa_30 | exact sa_34 | exact sa_36 | exact sa_38 | exact sa_40 | exact sa_47 | exact sa_49 | exact sa_68 | exact sa_70 | exact sa_72 | exact sa_74 | exact sa_76 | exact sa_78 | exact sa_82 | exact sa_85) rfl rfl fun b w1 hb x1 => ?_; refine ldB hb (by first | exact fa_25_0 | exact fa_25_1 | exact fa_25_2 | exact fa_27_0 | exact fa_30_0 | exact fa_30_1 | exact fa_30_2 | exact fa_34_0 | exact fa_34_1 | exact fa_36_0 | exact fa_36_1 | exact fa_36_2 | exact fa_36_3 | exact fa_38_0 | exact fa_40_0 | exact fa_40_1 | exact fa_49_0 | exact fa_49_1 | exact fa_49_2 | exact fa_68_0 | exact fa_68_1 | exact fa_68_2 | exact fa_68_3 | exact fa_70_0 | exact fa_70_1 | exact fa_72_0 | exact fa_72_3 | exact fa_72_4 | exact fa_74_0 | exact fa_74_1 | exact fa_74_2 | exact fa_76_0 | exact fa_76_1 | exact fa_76_2 | exact fa_78_0 | exact fa_78_1 | exact fa_82_0 | exact fa_82_1 | exact fa_85_0) (by first | exact l1_22 | exact l1_23 | exact l1_3 | exact l1_4 | exact l1_46 | exact l1_47 | exact l1_54) rfl ?_
    refine bsl (by first | exact xe_22 | exact xe_23 | exact xe_46 | exact xe_47) [i64 t] rfl rfl (by simp) rfl fun v w2 ho x2 => ?_
    exact ⟨own_mono ho x1.size, x1.trans x2⟩
  | ret s =>
    dsimp only [GNode.val]
    refine V_eqni_54.2 (ifD_false.2 ?_)
    (repeat (first | (with_reducible refine th (by first | exact ta_27 | exact ta_30 | exact ta_32 | exact ta_34 | exact ta_36 | exact ta_38 | exact ta_68 | exact ta_70 | exact ta_72 | exact ta_74 | exact ta_76 | exact ta_78 | exact ta_82 | exact ta_85) ?_) | ((with_reducible refine tm (by first | exact ta_27 | exact ta_30 | exact ta_32 | exact ta_34 | exact ta_36 | exact ta_38 | exact ta_68 | exact ta_70 | exact ta_72 | exact ta_74 | exact ta_76 | exact ta_78 | exact ta_82 | exact ta_85) (by decide) ?_); intro _ _ _)))
    refine asB (by first | exact sa_25 | exact sa_27 | exact sa_30 | exact sa_34 | exact sa_36 | exact sa_38 | exact sa_40 | exact sa_47 | exact sa_49 | exact sa_68 | exact sa_70 | exact sa_72 | exact sa_74 | exact sa_76 | exact sa_78 | exact sa_82 | exact sa_85) rfl rfl fun b w1 hb x1 => ?_
    exact ⟨World.ownsRow_nil _ _ _ _, x1⟩
  | branch c t =>
    dsimp only [GNode.val]
    refine V_eqni_54.2 (ifD_false.2 ?_)
    (repeat (first | (with_reducible refine th (by first | exact ta_27 | exact ta_30 | exact ta_32 | exact ta_34 | exact ta_36 | exact ta_38 | exact ta_68 | exact ta_70 | exact ta_72 | exact ta_74 | exact ta_76 | exact ta_78 | exact ta_82 | exact ta_85) ?_) | ((with_reducible refine tm (by first | exact ta_27 | exact ta_30 | exact ta_32 | exact ta_34 | exact ta_36 | exact ta_38 | exact ta_68 | exact ta_70 | exact ta_72 | exact ta_74 | exact ta_76 | exact ta_78 | exact ta_82 | exact ta_85) (by decide) ?_); intro _ _ _)))
    refine asB (by first | exact sa_25 | exact sa_27 | exact sa_30 | exact sa_34 | exact sa_36 | exact sa_38 | exact sa_40 | exact sa_47 | exact sa_49 | exact sa_68 | exact sa_70 | exact sa_72 | exact sa_74 | exact sa_76 | exact sa_78 | exact sa_82 | exact sa_85) rfl rfl fun b w1 hb x1 => ?_; refine ldB hb (by first | exact fa_25_0 | exact fa_25_1 | exact fa_25_2 | exact fa_27_0 | exact fa_30_0 | exact fa_30_1 | exact fa_30_2 | exact fa_34_0 | exact fa_34_1 | exact fa_36_0 | exact fa_36_1 | exact fa_36_2 | exact fa_36_3 | exact fa_38_0 | exact fa_40_0 | exact fa_40_1 | exact fa_49_0 | exact fa_49_1 | exact fa_49_2 | exact fa_68_0 | exact fa_68_1 | exact fa_68_2 | exact fa_68_3 | exact fa_70_0 | exact fa_70_1 | exact fa_72_0 | exact fa_72_3 | exact fa_72_4 | exact fa_74_0 | exact fa_74_1 | exact fa_74_2 | exact fa_76_0 | exact fa_76_1 | exact fa_76_2 | exact fa_78_0 | exact fa_78_1 | exact fa_82_0 | exact fa_82_1 | exact fa_85_0) (by first | exact l1_22 | exact l1_23 | exact l1_3 | exact l1_4 | exact l1_46 | exact l1_47 | exact l1_54) rfl ?_
    refine V_add.2 ?_
    rw [hw]
    refine V_neqI.2 (ifD_dec (fun hne => ?_) fun heq => ?_)
    · refine V_add.2 ?_
      rw [hw]
      refine ldB hb (by first | exact fa_25_0 | exact fa_25_1 | exact fa_25_2 | exact fa_27_0 | exact fa_30_0 | exact fa_30_1 | exact fa_30_2 | exact fa_34_0 | exact fa_34_1 | exact fa_36_0 | exact fa_36_1 | exact fa_36_2 | exact fa_36_3 | exact fa_38_0 | exact fa_40_0 | exact fa_40_1 | exact fa_49_0 | exact fa_49_1 | exact fa_49_2 | exact fa_68_0 | exact fa_68_1 | exact fa_68_2 | exact fa_68_3 | exact fa_70_0 | exact fa_70_1 | exact fa_72_0 | exact fa_72_3 | exact fa_72_4 | exact fa_74_0 | exact fa_74_1 | exact fa_74_2 | exact fa_76_0 | exact fa_76_1 | exact fa_76_2 | exact fa_78_0 | exact fa_78_1 | exact fa_82_0 | exact fa_82_1 | exact fa_85_0) (by first | exact l1_22 | exact l1_23 | exact l1_3 | exact l1_4 | exact l1_46 | exact l1_47 | exact l1_54) rfl ?_
      refine bsl (by first | exact xe_22 | exact xe_23 | exact xe_46 | exact xe_47) [i64 (k + 1), i64 t] rfl rfl (by simp) rfl fun v w2 ho x2 => ?_
      have hu : GNode.nx (.branch c t) k = [k + 1, t] := by simp only [GNode.nx]; rw [if_neg hne]
      rw [hu]
      exact ⟨own_mono ho x1.size, x1.trans x2⟩
    · refine V_add.2 ?_
      rw [hw]
      refine bsl (by first | exact xe_22 | exact xe_23 | exact xe_46 | exact xe_47) [i64 (k + 1)] rfl rfl (by simp) rfl fun v w2 ho x2 => ?_
      have hu : GNode.nx (.branch c t) k = [k + 1] := by simp only [GNode.nx]; rw [if_pos (by omega)]
      rw [hu]
      exact ⟨own_mono ho x1.size, x1.trans x2⟩
  | _ =>
    dsimp only [GNode.val]
    refine V_eqni_54.2 (ifD_false.2 ?_)
    (repeat (first | (with_reducible refine th (by first | exact ta_27 | exact ta_30 | exact ta_32 | exact ta_34 | exact ta_36 | exact ta_38 | exact ta_68 | exact ta_70 | exact ta_72 | exact ta_74 | exact ta_76 | exact ta_78 | exact ta_82 | exact ta_85) ?_) | ((with_reducible refine tm (by first | exact ta_27 | exact ta_30 | exact ta_32 | exact ta_34 | exact ta_36 | exact ta_38 | exact ta_68 | exact ta_70 | exact ta_72 | exact ta_74 | exact ta_76 | exact ta_78 | exact ta_82 | exact ta_85) (by decide) ?_); intro _ _ _)))
    refine V_add.2 ?_
    rw [hw]
    refine bsl (by first | exact xe_22 | exact xe_23 | exact xe_46 | exact xe_47) [i64 (k + 1)] rfl rfl (by simp) rfl fun v w2 ho x2 => ?_
    exact ⟨ho, x2⟩

theorem in_ok {n c : Int} {w : World} : callD Try.prog 11 #[i64 n, i64 c] w fun r w' => r = .bool (decide (0 ≤ n ∧ n < c)) ∧ w' = w := by
  apply F11_wp
  unfold F11_den
  refine V_geq.2 ?_
  by_cases h : n ≥ 0
  · simp only [h, decide_true, gd_iff, reduceIte, V_lss, pickD_iff]
    have h' : 0 ≤ n := h
    simp [h']
  · simp only [h, decide_false, gd_iff, Bool.false_eq_true, reduceIte, pickD_iff]
    have h' : ¬ 0 ≤ n := h
    simp [h']
end Go.Proofs.Ytendijaeihljeaa
