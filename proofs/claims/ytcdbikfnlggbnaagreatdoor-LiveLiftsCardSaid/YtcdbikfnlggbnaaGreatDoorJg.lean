/- LiftTicks: there is a Tick for each start, at its place, and no other; the law, walked. Contracts of package ir's functions on single nodes. Contracts: which nodes may be. The lifted program may be: each node stands right. Package live: what is alive ahead of a node. What is alive, as plain data: by ways through a program; matrices of bools that grow. Package live: Behind. Package live: the contract of Behind: the matrix of what is alive. Package live: the contract of Behind, joined. Package live: the contract of Ahead; closed programs. The closed sentences of chapter 19. Plain nodes: what PlainNode makes of a node. Plain nodes: which may be; what they write; what comes next. Slices of structs; the reference's check of a program. Plain: a program as the reference has it. An element of a row of structs, read in a region. The reference: where a plain node writes, what is alive ahead of it, and one sweep's innermost loop. The reference's Behind: its sweep's innermost loop, and its contract. The reference's Ahead (a seat whose Dens has its region with reS). Two rows that are the same. told: what is alive in a program is as the document says. LiveLifts: the law, walked. The row's last step, from 'Ext': what was there is as it was; new blocks may be anything. What an argument reads as, it reads as behind a call that leaves all that was there. What a row lays, read at an element of an array, wherever the array stands on the list. -/
import Derived.Test.YtcdbikfnlggbnaaGreatDoorJf
import Derived.Test.YtcdbikfnlggbnaaGreatDoorJb
import Derived.WalkKit
import Derived.ProofKit
import Derived.OpenShut
import Derived.WideKeyArgs
import Derived.ChangeArms
import Derived.FnData
namespace Go.Proofs.YtcdbikfnlggbnaaGreatDoor
open Go.Vc Go.Tc
variable {w : World} {K : Value → World → Prop}
def GNode.isTick : GNode → Bool
  | .tick => true
  | _ => false
theorem ite_some {α : Type} {c : Prop} [Decidable c] {a b : Option α} {n : α} (h : (if c then a else b) = some n) : (c ∧ a = some n) ∨ (¬ c ∧ b = some n) := by
  by_cases hc : c
  · rw [if_pos hc] at h; exact .inl ⟨hc, h⟩
  · rw [if_neg hc] at h; exact .inr ⟨hc, h⟩
theorem ite_none {α : Type} {c : Prop} [Decidable c] {a b : Option α} (h : (if c then a else b) = none) : (c ∧ a = none) ∨ (¬ c ∧ b = none) := by
  by_cases hc : c
  · rw [if_pos hc] at h; exact .inl ⟨hc, h⟩
  · rw [if_neg hc] at h; exact .inr ⟨hc, h⟩
theorem aim_tick (T : List Int) (n : GNode) : (aimN T n).isTick = n.isTick := by cases n <;> rfl
theorem liftN_tick {i : Img} {m : Mth} {x : Ins} {h : Nat} {n : GNode} (hn : liftN i m x h = some n) : n.isTick = false := by
  unfold liftN at hn
  repeat (rcases ite_some hn with ⟨_, hn⟩ | ⟨_, hn⟩; · (first | (cases hn; done) | (cases hn; rfl)))
  cases hn; rfl
def tickC (l : List GNode) : Nat := l.countP GNode.isTick
def onC (T : List Int) : Nat := T.countP fun t => decide (0 ≤ t)
theorem liftK_ticks (i : Img) (m : Mth) (st : St) (r : List Bool) : ∀ k, tickC (liftK i m st r k).1 = onC (liftK i m st r k).2 ∧ (liftK i m st r k).2.length = k ∧ (liftK i m st r k).1.length ≤ m.locals.length + 2 * k ∧ ∀ (pc : Nat) (t : Int), (liftK i m st r k).2[pc]? = some t → 0 ≤ t → (liftK i m st r k).1[t.toNat]? = some .tick
  | 0 => by
    refine ⟨?_, rfl, by simp [liftK], fun pc t h => by simp [liftK] at h⟩
    simp [liftK, tickC, onC, List.countP_eq_zero, GNode.isTick]
  | k + 1 => by
    obtain ⟨h1, h2, h3, h4⟩ := liftK_ticks i m st r k
    cases hk : r.getD k false with
    | false =>
      have e : liftK i m st r (k + 1) = ((liftK i m st r k).1, (liftK i m st r k).2 ++ [-1]) := by simp only [liftK, hk]; rfl
      rw [e]
      refine ⟨by simpa [onC] using h1, by simp [h2], by dsimp only; omega, fun pc t h h0 => ?_⟩
      rw [List.getElem?_append] at h
      split at h
      · exact h4 pc t h h0
      · have : t = -1 := by
          have := List.mem_of_getElem? h
          simpa using this
        omega
    | true =>
      have e : liftK i m st r (k + 1) = ((liftK i m st r k).1 ++ .tick :: (liftN i m (m.ins k) (st.s k).length).toList, (liftK i m st r k).2 ++ [((liftK i m st r k).1.length : Int)]) := by simp only [liftK, hk]; rfl
      rw [e]
      have hz : tickC (liftN i m (m.ins k) (st.s k).length).toList = 0 := by
        cases ho : liftN i m (m.ins k) (st.s k).length with
        | none => rfl
        | some n => simp [tickC, liftN_tick ho]
      have hl : (liftN i m (m.ins k) (st.s k).length).toList.length ≤ 1 := by cases liftN i m (m.ins k) (st.s k).length <;> simp
      refine ⟨?_, by simp [h2], by simp; omega, fun pc t h h0 => ?_⟩
      · simp only [tickC, onC] at h1 hz ⊢
        rw [List.countP_append, List.countP_cons, List.countP_append, h1, hz]
        simp [GNode.isTick]
      · rw [List.getElem?_append] at h
        split at h
        · have := h4 pc t h h0
          rw [List.getElem?_append_left (List.getElem?_eq_some_iff.1 this).1]
          exact this
        · have : t = ((liftK i m st r k).1.length : Int) := by
            have := List.mem_of_getElem? h
            simpa using this
          subst this
          rw [Int.toNat_natCast, List.getElem?_append_right (Nat.le_refl _)]
          simp
theorem liftP_ticks (i : Img) (m : Mth) (st : St) (r : List Bool) : tickC (liftP i m st r) = onC (liftK i m st r m.code.length).2 ∧ (liftK i m st r m.code.length).2.length = m.code.length ∧ (liftP i m st r).length ≤ m.locals.length + 2 * m.code.length ∧ ∀ (pc : Nat) (t : Int), (liftK i m st r m.code.length).2[pc]? = some t → 0 ≤ t → (liftP i m st r)[t.toNat]? = some .tick := by
  obtain ⟨h1, h2, h3, h4⟩ := liftK_ticks i m st r m.code.length
  refine ⟨?_, h2, by simpa [liftP] using h3, fun pc t h h0 => ?_⟩
  · rw [← h1]
    show ((liftK i m st r m.code.length).1.map _).countP _ = _
    rw [List.countP_map]
    exact List.countP_congr fun n _ => by simp [aim_tick]
  · show ((liftK i m st r m.code.length).1.map _)[t.toNat]? = _
    rw [List.getElem?_map, h4 pc t h h0]; rfl
end Go.Proofs.YtcdbikfnlggbnaaGreatDoor
namespace Go.Proofs.YtcdbikfnlggbnaaGreatDoor
open Go.Vc

theorem all_i64 (l : List Int) : (l.map i64).all oneC = true := by simp [oneC]
theorem all_vb (l : List Bool) : (l.map Value.bool).all oneC = true := by simp [oneC]

theorem clone_int {v : Value} {l : List Int} {w : World} (h : IntsAre w v l) (hl : l.length ≤ 4294967296) :
    callD Tryz.prog 109 #[v] w fun r w' => w'.ownsRow w.heap.size 3 1 r l.length (l.map i64) ∧ Ext w w' := by
  apply F109_wp
  unfold F109_den
  exact cloneD (R := fun r w' => w'.ownsRow w.heap.size 3 1 r l.length (l.map i64) ∧ Ext w w') xe_23 h (all_i64 l) (by omega) fun v' w' h1 h2 => ⟨h1, h2⟩
theorem clone_bool {v : Value} {l : List Bool} {w : World} (h : BoolsAre w v l) (hl : l.length ≤ 4294967296) :
    callD Tryz.prog 110 #[v] w fun r w' => w'.ownsRow w.heap.size 4 1 r l.length (l.map Value.bool) ∧ Ext w w' := by
  apply F110_wp
  unfold F110_den
  exact cloneD (R := fun r w' => w'.ownsRow w.heap.size 4 1 r l.length (l.map Value.bool) ∧ Ext w w') xe_78 h (all_vb l) (by omega) fun v' w' h1 h2 => ⟨h1, h2⟩

theorem def_ok {n : GNode} {v : Value} {w : World} (h : NodeIs w v n) : callD Tryz.prog 73 #[v] w fun r w' => r = i64 n.df ∧ Ext w w' := by
  obtain ⟨sv, rfl, hs⟩ := h
  obtain ⟨sa, sc, rfl⟩ := hs.shape
  apply F73_wp
  unfold F73_den
  cases n <;> (dsimp only [GNode.val]; (repeat (first | (with_reducible refine th (by first | exact ta_105 | exact ta_113 | exact ta_140 | exact ta_142 | exact ta_144 | exact ta_146 | exact ta_148 | exact ta_150 | exact ta_152 | exact ta_155 | exact ta_157 | exact ta_162 | exact ta_84) ?_) | ((with_reducible refine tm (by first | exact ta_105 | exact ta_113 | exact ta_140 | exact ta_142 | exact ta_144 | exact ta_146 | exact ta_148 | exact ta_150 | exact ta_152 | exact ta_155 | exact ta_157 | exact ta_162 | exact ta_49 | exact ta_84) (by decide) ?_); intro _ _ _))); first | exact ⟨rfl, Ext.refl _⟩ | (refine asB (by first | exact sa_105 | exact sa_113 | exact sa_140 | exact sa_142 | exact sa_144 | exact sa_146 | exact sa_148 | exact sa_150 | exact sa_152 | exact sa_155 | exact sa_157 | exact sa_162 | exact sa_84) rfl rfl fun b w1 hb x1 => ?_; refine ldB hb (by first | exact fa_105_0 | exact fa_113_0 | exact fa_113_1 | exact fa_113_2 | exact fa_113_3 | exact fa_118_0 | exact fa_118_1 | exact fa_118_2 | exact fa_118_3 | exact fa_118_4 | exact fa_120_0 | exact fa_120_1 | exact fa_120_2 | exact fa_120_3 | exact fa_137_0 | exact fa_137_1 | exact fa_137_2 | exact fa_137_3 | exact fa_137_4 | exact fa_137_5 | exact fa_140_0 | exact fa_140_1 | exact fa_142_0 | exact fa_142_1 | exact fa_142_2 | exact fa_144_0 | exact fa_144_1 | exact fa_144_2 | exact fa_144_3 | exact fa_146_0 | exact fa_148_0 | exact fa_148_1 | exact fa_150_0 | exact fa_150_1 | exact fa_152_0 | exact fa_152_1 | exact fa_155_0 | exact fa_155_1 | exact fa_155_2 | exact fa_157_0 | exact fa_157_1 | exact fa_157_2 | exact fa_162_0 | exact fa_162_1 | exact fa_162_2 | exact fa_162_3 | exact fa_84_0) (by first | exact l1_126 | exact l1_179 | exact l1_21 | exact l1_210 | exact l1_212 | exact l1_22 | exact l1_23 | exact l1_24 | exact l1_25 | exact l1_3) rfl ?_; exact ⟨rfl, x1⟩))

theorem uses_ok {n : GNode} {v : Value} {w : World} (h : NodeIs w v n) (hl : n.args.length ≤ 4294967296) : callD Tryz.prog 71 #[v] w fun r w' => w'.ownsRow w.heap.size 3 1 r n.us.length (n.us.map i64) ∧ Ext w w' := by
  obtain ⟨sv, rfl, hs⟩ := h
  obtain ⟨sa, sc, rfl⟩ := hs.shape
  apply F71_wp
  unfold F71_den
  cases n with
  | const _ _ | tick | goto _ | getField _ _ => dsimp only [GNode.val]; (repeat (first | (with_reducible refine th ta_105 ?_) | ((with_reducible refine tm (by first | exact ta_105 | exact ta_113 | exact ta_140 | exact ta_142 | exact ta_144 | exact ta_146 | exact ta_148 | exact ta_150 | exact ta_152 | exact ta_155 | exact ta_157 | exact ta_162) (by decide) ?_); intro _ _ _))); exact ⟨World.ownsRow_nil _ _ _ _, Ext.refl _⟩
  | move _ a | un _ _ a | branch a _ | putField _ a =>
    dsimp only [GNode.val]; (repeat (first | (with_reducible refine th (by first | exact ta_105 | exact ta_113 | exact ta_140 | exact ta_142 | exact ta_144 | exact ta_146 | exact ta_148 | exact ta_152) ?_) | ((with_reducible refine tm (by first | exact ta_105 | exact ta_113 | exact ta_140 | exact ta_142 | exact ta_144 | exact ta_148) (by decide) ?_); intro _ _ _)))
    refine asB (by first | exact sa_105 | exact sa_113 | exact sa_140 | exact sa_142 | exact sa_144 | exact sa_146 | exact sa_148 | exact sa_152) rfl rfl fun b w1 hb x1 => ?_; refine ldB hb (by first | exact fa_105_0 | exact fa_113_0 | exact fa_113_1 | exact fa_113_2 | exact fa_113_3 | exact fa_118_0 | exact fa_118_1 | exact fa_118_2 | exact fa_118_3 | exact fa_118_4 | exact fa_120_0 | exact fa_120_1 | exact fa_120_2 | exact fa_120_3 | exact fa_137_0 | exact fa_137_1 | exact fa_137_2 | exact fa_137_3 | exact fa_137_4 | exact fa_137_5 | exact fa_140_0 | exact fa_140_1 | exact fa_142_0 | exact fa_142_1 | exact fa_142_2 | exact fa_144_0 | exact fa_144_1 | exact fa_144_2 | exact fa_144_3 | exact fa_146_0 | exact fa_148_0 | exact fa_152_1) (by first | exact l1_126 | exact l1_179 | exact l1_21 | exact l1_210 | exact l1_212 | exact l1_22 | exact l1_23 | exact l1_24 | exact l1_25 | exact l1_3) rfl ?_
    refine bsl (by first | exact xe_202 | exact xe_23) [i64 a] rfl rfl (by simp) rfl fun v w2 ho x2 => ?_
    exact ⟨own_mono ho x1.size, x1.trans x2⟩
  | bin _ _ a c =>
    dsimp only [GNode.val]; (repeat (first | (with_reducible refine th (by first | exact ta_105 | exact ta_113) ?_) | ((with_reducible refine tm (by first | exact ta_105 | exact ta_140) (by decide) ?_); intro _ _ _)))
    refine asB sa_113 rfl rfl fun b w1 hb x1 => ?_; refine ldB hb fa_113_2 l1_3 rfl ?_; refine ldB hb fa_113_3 l1_3 rfl ?_
    refine bsl xe_23 [i64 a, i64 c] rfl rfl (by simp) rfl fun v w2 ho x2 => ?_
    exact ⟨own_mono ho x1.size, x1.trans x2⟩
  | choose _ a c d =>
    dsimp only [GNode.val]; (repeat (first | (with_reducible refine th (by first | exact ta_105 | exact ta_144) ?_) | ((with_reducible refine tm (by first | exact ta_105 | exact ta_113 | exact ta_140 | exact ta_142) (by decide) ?_); intro _ _ _)))
    refine asB sa_144 rfl rfl fun b w1 hb x1 => ?_; refine ldB hb fa_144_1 l1_3 rfl ?_; refine ldB hb fa_144_2 l1_3 rfl ?_; refine ldB hb fa_144_3 l1_3 rfl ?_
    refine bsl xe_23 [i64 a, i64 c, i64 d] rfl rfl (by simp) rfl fun v w2 ho x2 => ?_
    exact ⟨own_mono ho x1.size, x1.trans x2⟩
  | serve _ _ _ _ l | call _ _ l | callX _ _ l =>
    dsimp only [GNode.val]; (repeat (first | (with_reducible refine th (by first | exact ta_105 | exact ta_113 | exact ta_140 | exact ta_142 | exact ta_144 | exact ta_146 | exact ta_148 | exact ta_150 | exact ta_152 | exact ta_155 | exact ta_157 | exact ta_162) ?_) | ((with_reducible refine tm (by first | exact ta_105 | exact ta_113 | exact ta_140 | exact ta_142 | exact ta_144 | exact ta_146 | exact ta_148 | exact ta_150 | exact ta_152 | exact ta_155 | exact ta_157 | exact ta_162) (by decide) ?_); intro _ _ _)))
    refine asB (by first | exact sa_105 | exact sa_113 | exact sa_140 | exact sa_142 | exact sa_144 | exact sa_146 | exact sa_148 | exact sa_150 | exact sa_152 | exact sa_155 | exact sa_157 | exact sa_162) rfl rfl fun b w1 hb x1 => ?_; refine ldB hb (by first | exact fa_105_0 | exact fa_113_0 | exact fa_113_1 | exact fa_113_2 | exact fa_113_3 | exact fa_118_0 | exact fa_118_1 | exact fa_118_2 | exact fa_118_3 | exact fa_118_4 | exact fa_120_0 | exact fa_120_1 | exact fa_120_2 | exact fa_120_3 | exact fa_137_0 | exact fa_137_1 | exact fa_137_2 | exact fa_137_3 | exact fa_137_4 | exact fa_137_5 | exact fa_140_0 | exact fa_140_1 | exact fa_142_0 | exact fa_142_1 | exact fa_142_2 | exact fa_144_0 | exact fa_144_1 | exact fa_144_2 | exact fa_144_3 | exact fa_146_0 | exact fa_148_0 | exact fa_148_1 | exact fa_150_0 | exact fa_150_1 | exact fa_152_0 | exact fa_152_1 | exact fa_155_0 | exact fa_155_1 | exact fa_155_2 | exact fa_157_0 | exact fa_157_1 | exact fa_157_2 | exact fa_162_4) (by first | exact l1_126 | exact l1_179 | exact l1_21 | exact l1_210 | exact l1_212 | exact l1_22 | exact l1_23) rfl ?_
    exact (clone_int (hs.ext x1) hl).mono fun r w2 ⟨h1, h2⟩ => ⟨own_mono h1 x1.size, x1.trans h2⟩
  | ret s =>
    dsimp only [GNode.val]; (repeat (first | (with_reducible refine th ta_105 ?_) | ((with_reducible refine tm (by first | exact ta_105 | exact ta_113 | exact ta_140 | exact ta_142 | exact ta_144 | exact ta_146 | exact ta_148 | exact ta_150 | exact ta_152 | exact ta_155 | exact ta_157 | exact ta_162) (by decide) ?_); intro _ _ _)))
    refine asB sa_105 rfl rfl fun b w1 hb x1 => ?_; refine ldB hb fa_105_0 l1_3 rfl ?_
    refine V_neqI.2 (ifD_dec (fun hne => ?_) fun heq => ?_)
    · refine ldB hb fa_105_0 l1_3 rfl ?_
      refine bsl xe_23 [i64 s] rfl rfl (by simp) rfl fun v w2 ho x2 => ?_
      have hu : GNode.us (.ret s) = [s] := by simp only [GNode.us]; rw [if_neg hne]
      rw [hu]
      exact ⟨own_mono ho x1.size, x1.trans x2⟩
    · have hu : GNode.us (.ret s) = [] := by simp only [GNode.us]; rw [if_pos (by omega)]
      rw [hu]
      exact ⟨World.ownsRow_nil _ _ _ _, x1⟩

theorem next_ok {n : GNode} {v : Value} {w : World} {k : Int} (h : NodeIs w v n) (h0 : 0 ≤ k) (h1 : k ≤ 1000000) : callD Tryz.prog 72 #[v, i64 k] w fun r w' => w'.ownsRow w.heap.size 3 1 r (n.nx k).length ((n.nx k).map i64) ∧ Ext w w' := by
  obtain ⟨sv, rfl, hs⟩ := h
  obtain ⟨sa, sc, rfl⟩ := hs.shape
  apply F72_wp
  unfold F72_den
  have hw : IntKind.i64.wrap (k + 1) = k + 1 := wrap_id (by omega) (by omega)
  cases n with
  | goto t =>
    dsimp only [GNode.val]
    refine V_eqni_52.2 (ifD_false.2 ?_)
    (repeat (first | (with_reducible refine th (by first | exact ta_105 | exact ta_146) ?_) | ((with_reducible refine tm ta_105 (by decide) ?_); intro _ _ _)))
    refine asB sa_146 rfl rfl fun b w1 hb x1 => ?_; refine ldB hb fa_146_0 l1_3 rfl ?_
    refine bsl xe_23 [i64 t] rfl rfl (by simp) rfl fun v w2 ho x2 => ?_
    exact ⟨own_mono ho x1.size, x1.trans x2⟩
  | ret s =>
    dsimp only [GNode.val]
    refine V_eqni_52.2 (ifD_false.2 ?_)
    (repeat (first | (with_reducible refine th ta_105 ?_) | ((with_reducible refine tm (by first | exact ta_105 | exact ta_113 | exact ta_140 | exact ta_142 | exact ta_144 | exact ta_146 | exact ta_148) (by decide) ?_); intro _ _ _)))
    refine asB sa_105 rfl rfl fun b w1 hb x1 => ?_
    exact ⟨World.ownsRow_nil _ _ _ _, x1⟩
  | branch c t =>
    dsimp only [GNode.val]
    refine V_eqni_52.2 (ifD_false.2 ?_)
    (repeat (first | (with_reducible refine th (by first | exact ta_105 | exact ta_148) ?_) | ((with_reducible refine tm (by first | exact ta_105 | exact ta_146) (by decide) ?_); intro _ _ _)))
    refine asB sa_148 rfl rfl fun b w1 hb x1 => ?_; refine ldB hb fa_148_1 l1_3 rfl ?_
    refine V_add.2 ?_
    rw [hw]
    refine V_neqI.2 (ifD_dec (fun hne => ?_) fun heq => ?_)
    · refine V_add.2 ?_
      rw [hw]
      refine ldB hb fa_148_1 l1_3 rfl ?_
      refine bsl xe_23 [i64 (k + 1), i64 t] rfl rfl (by simp) rfl fun v w2 ho x2 => ?_
      have hu : GNode.nx (.branch c t) k = [k + 1, t] := by simp only [GNode.nx]; rw [if_neg hne]
      rw [hu]
      exact ⟨own_mono ho x1.size, x1.trans x2⟩
    · refine V_add.2 ?_
      rw [hw]
      refine bsl xe_23 [i64 (k + 1)] rfl rfl (by simp) rfl fun v w2 ho x2 => ?_
      have hu : GNode.nx (.branch c t) k = [k + 1] := by simp only [GNode.nx]; rw [if_pos (by omega)]
      rw [hu]
      exact ⟨own_mono ho x1.size, x1.trans x2⟩
  | _ =>
    dsimp only [GNode.val]
    refine V_eqni_52.2 (ifD_false.2 ?_)
    (repeat (first | (with_reducible refine th ta_105 ?_) | ((with_reducible refine tm (by first | exact ta_105 | exact ta_113 | exact ta_140 | exact ta_142 | exact ta_144 | exact ta_146 | exact ta_148) (by decide) ?_); intro _ _ _)))
    refine V_add.2 ?_
    rw [hw]
    refine bsl (by first | exact xe_202 | exact xe_23) [i64 (k + 1)] rfl rfl (by simp) rfl fun v w2 ho x2 => ?_
    exact ⟨ho, x2⟩

theorem in_ok {n c : Int} {w : World} : callD Tryz.prog 37 #[i64 n, i64 c] w fun r w' => r = .bool (decide (0 ≤ n ∧ n < c)) ∧ w' = w := by
  apply F37_wp
  unfold F37_den
  refine V_geq.2 ?_
  by_cases h : n ≥ 0
  · simp only [h, decide_true, gd_iff, reduceIte, V_lss, pickD_iff]
    have h' : 0 ≤ n := h
    simp []
  · simp only [h, decide_false, gd_iff, Bool.false_eq_true, reduceIte, pickD_iff]
    have h' : ¬ 0 ≤ n := h
    simp []
end Go.Proofs.YtcdbikfnlggbnaaGreatDoor
namespace Go.Proofs.YtcdbikfnlggbnaaGreatDoor
open Go.Vc

def serves (op : Int) : Int :=
  if op = 27 ∨ op = 28 then 1 else if op = 17 ∨ op = 18 ∨ op = 29 then 2 else if op = 30 ∨ op = 36 then 3 else if op = 31 ∨ op = 32 then 5 else -1
def okBin (op : Int) : Prop := (6 ≤ op ∧ op ≤ 14) ∨ (19 ≤ op ∧ op ≤ 21)
def okUn (op : Int) : Prop := op = 15 ∨ op = 16 ∨ op = 26
def GNode.okF : GNode → Prop
  | .bin op _ _ _ => okBin op
  | .un op _ _ => okUn op
  | .getField _ f => 0 ≤ f ∧ f < 8
  | .putField f _ => 0 ≤ f ∧ f < 8
  | .serve op _ _ _ l => serves op = l.length
  | .call m _ l => (0 ≤ m ∧ m < 8) ∧ l.length ≤ 4
  | .callX i _ l => (0 ≤ i ∧ i < 4) ∧ l.length ≤ 4
  | _ => True
def GNode.bareN : GNode → Bool
  | .const _ _ | .move _ _ | .bin _ _ _ _ | .un _ _ _ | .choose _ _ _ _ | .getField _ _ => false
  | _ => true

theorem binary_ok {op : Int} {w : World} : callD Tryz.prog 106 #[i64 op] w fun r w' => (∃ b, r = .bool b ∧ (b = true ↔ okBin op)) ∧ w' = w := by
  apply F106_wp
  have key : ∀ R : Value → World → Prop, (∀ b : Bool, (b = true ↔ okBin op) → R (.bool b) w) → F106_den (i64 op) w R := by
    intro R hR
    unfold F106_den
    by_cases h1 : op ≥ 6 <;> by_cases h2 : op ≤ 14 <;> by_cases h3 : op ≥ 19 <;> by_cases h4 : op ≤ 21 <;>
      simp only [h1, h2, h3, h4, V_leq, V_geq, gd_t, gd_f, gd_tf, gd_ft, gd_undef, pickD_iff, reduceIte, Bool.false_eq_true, decide_true, decide_false] <;> exact hR _ (by simp [okBin]; omega)
  exact key _ fun b hb => ⟨⟨b, rfl, hb⟩, rfl⟩
theorem unary_ok {op : Int} {w : World} : callD Tryz.prog 107 #[i64 op] w fun r w' => (∃ b, r = .bool b ∧ (b = true ↔ okUn op)) ∧ w' = w := by
  apply F107_wp
  have key : ∀ R : Value → World → Prop, (∀ b : Bool, (b = true ↔ okUn op) → R (.bool b) w) → F107_den (i64 op) w R := by
    intro R hR
    unfold F107_den
    rcases Bool.eq_false_or_eq_true (decide (op = 15)) with e1 | e1 <;> rcases Bool.eq_false_or_eq_true (decide (op = 16)) with e2 | e2 <;> rcases Bool.eq_false_or_eq_true (decide (op = 26)) with e3 | e3 <;>
      simp only [e1, e2, e3, V_eqlI, gd_f, gd_tf, pickD_iff, reduceIte, Bool.false_eq_true] <;> exact hR _ (by simp at e1 e2 e3; simp [okUn]; omega)
  exact key _ fun b hb => ⟨⟨b, rfl, hb⟩, rfl⟩
theorem serves_ok {op : Int} {w : World} : callD Tryz.prog 108 #[i64 op] w fun r w' => r = i64 (serves op) ∧ w' = w := by
  apply F108_wp
  unfold F108_den
  refine ⟨fun v w' => v = .bool (decide (op = 27 ∨ op = 28)) ∧ w' = w, ?_, ?_⟩
  · refine V_eqlI.2 (ifD_dec (fun h => ?_) fun h => V_eqlI.2 ?_) <;> exact ⟨by simp [h], rfl⟩
  rintro _ w1 ⟨rfl, rfl⟩ _
  refine ifD_dec (fun h => ⟨by simp [serves, h], rfl⟩) fun h1 => ?_
  refine ⟨fun v w' => v = .bool (decide (op = 17 ∨ op = 18 ∨ op = 29)) ∧ w' = w1, ?_, ?_⟩
  · refine V_eqlI.2 (ifD_dec (fun h => ?_) fun h => V_eqlI.2 (ifD_dec (fun h' => ?_) fun h' => V_eqlI.2 ?_))
    · exact ⟨by simp [h], rfl⟩
    · exact ⟨by simp [h'], rfl⟩
    · exact ⟨by simp [h, h'], rfl⟩
  rintro _ w2 ⟨rfl, rfl⟩ _
  refine ifD_dec (fun h => ⟨by simp [serves, h1, h], rfl⟩) fun h2 => ?_
  refine ⟨fun v w' => v = .bool (decide (op = 30 ∨ op = 36)) ∧ w' = w2, ?_, ?_⟩
  · refine V_eqlI.2 (ifD_dec (fun h => ?_) fun h => V_eqlI.2 ?_) <;> exact ⟨by simp [h], rfl⟩
  rintro _ w3 ⟨rfl, rfl⟩ _
  refine ifD_dec (fun h => ⟨by simp [serves, h1, h2, h], rfl⟩) fun h3 => ?_
  refine V_eqlI.2 (ifD_dec (fun h => ?_) fun h => ?_)
  · exact ifD_dec (fun _ => ⟨by subst h; rfl, rfl⟩) fun h' => absurd h h'
  refine V_eqlI.2 (ifD_dec (fun h' => ?_) fun h' => ?_)
  · exact ⟨by subst h'; rfl, rfl⟩
  · exact ⟨by simp [serves, h1, h2, h3, h, h'], rfl⟩

theorem fields_ok {n : GNode} {v : Value} {w : World} (h : NodeIs w v n) : callD Tryz.prog 70 #[v] w fun r w' => (∃ b, r = .bool b ∧ (b = true ↔ n.okF)) ∧ Ext w w' := by
  obtain ⟨sv, rfl, hs⟩ := h
  obtain ⟨sa, sc, rfl⟩ := hs.shape
  apply F70_wp
  unfold F70_den
  cases n with
  | bin op _ _ _ =>
    dsimp only [GNode.val]; (repeat (first | (with_reducible refine th (by first | exact ta_105 | exact ta_113) ?_) | ((with_reducible refine tm ta_105 (by decide) ?_); intro _ _ _))); refine asB sa_113 rfl rfl fun b w1 hb x1 => ?_; refine ldB hb fa_113_0 l1_3 rfl ?_
    exact binary_ok.mono fun r w2 ⟨h1, h2⟩ => ⟨h1, h2 ▸ x1⟩
  | un op _ _ =>
    dsimp only [GNode.val]; (repeat (first | (with_reducible refine th (by first | exact ta_105 | exact ta_142) ?_) | ((with_reducible refine tm (by first | exact ta_105 | exact ta_113) (by decide) ?_); intro _ _ _))); refine asB sa_142 rfl rfl fun b w1 hb x1 => ?_; refine ldB hb fa_142_0 l1_3 rfl ?_
    exact unary_ok.mono fun r w2 ⟨h1, h2⟩ => ⟨h1, h2 ▸ x1⟩
  | getField _ f | putField f _ =>
    dsimp only [GNode.val]; (repeat (first | (with_reducible refine th (by first | exact ta_105 | exact ta_113 | exact ta_140 | exact ta_142 | exact ta_144 | exact ta_146 | exact ta_148 | exact ta_150 | exact ta_152) ?_) | ((with_reducible refine tm (by first | exact ta_105 | exact ta_113 | exact ta_140 | exact ta_142 | exact ta_150) (by decide) ?_); intro _ _ _))); refine asB (by first | exact sa_105 | exact sa_113 | exact sa_140 | exact sa_142 | exact sa_144 | exact sa_146 | exact sa_148 | exact sa_150 | exact sa_152) rfl rfl fun b w1 hb x1 => ?_; refine ldB hb (by first | exact fa_105_0 | exact fa_113_0 | exact fa_113_1 | exact fa_113_2 | exact fa_113_3 | exact fa_118_0 | exact fa_118_1 | exact fa_118_2 | exact fa_118_3 | exact fa_118_4 | exact fa_120_0 | exact fa_120_1 | exact fa_120_2 | exact fa_120_3 | exact fa_137_0 | exact fa_137_1 | exact fa_137_2 | exact fa_137_3 | exact fa_137_4 | exact fa_137_5 | exact fa_140_0 | exact fa_140_1 | exact fa_142_0 | exact fa_142_1 | exact fa_142_2 | exact fa_144_0 | exact fa_144_1 | exact fa_144_2 | exact fa_144_3 | exact fa_146_0 | exact fa_148_0 | exact fa_148_1 | exact fa_150_0 | exact fa_150_1 | exact fa_152_0) (by first | exact l1_126 | exact l1_179 | exact l1_21 | exact l1_210 | exact l1_212 | exact l1_22 | exact l1_23 | exact l1_24 | exact l1_25 | exact l1_3) rfl ?_
    exact in_ok.mono fun r w2 ⟨h1, h2⟩ => ⟨⟨_, h1, by simp [GNode.okF]⟩, h2 ▸ x1⟩
  | serve op _ _ _ l =>
    dsimp only [GNode.val]; (repeat (first | (with_reducible refine th (by first | exact ta_105 | exact ta_162) ?_) | ((with_reducible refine tm (by first | exact ta_105 | exact ta_113 | exact ta_140 | exact ta_142 | exact ta_144 | exact ta_146 | exact ta_148 | exact ta_150 | exact ta_152) (by decide) ?_); intro _ _ _))); refine asB sa_162 rfl rfl fun b w1 hb x1 => ?_
    refine drawD.mk' (fun w' => Boxed w' b _) (hb.ext (Ext.refl _).drew) ?_
    refine yieldS.ok (fun w' hw => fa_162_0.ex w' b 0) ?_
    refine yieldS.ok (fun w' hw => r_ld_3 (hw 0 _ rfl)) ?_
    refine yieldS.ok (fun w' hw => fa_162_4.ex w' b 0) ?_
    refine yieldS.ok (fun w' hw => r_ld_23 (hw 4 _ rfl)) ?_
    refine yieldS.ok (fun w' hw => r_len Tryz.underlying23) ?_
    refine serves_ok.mono fun r w2 ⟨h1, h2⟩ => ?_
    subst h1 h2
    refine ⟨hb.ext (Ext.refl _).drew, ?_⟩
    refine yieldS.ok (fun w' hw => r_eqlI) ?_
    exact ⟨⟨_, rfl, decide_eq_true_iff⟩, x1.drew⟩
  | call m _ l | callX m _ l =>
    dsimp only [GNode.val]; (repeat (first | (with_reducible refine th (by first | exact ta_105 | exact ta_113 | exact ta_140 | exact ta_142 | exact ta_144 | exact ta_146 | exact ta_148 | exact ta_150 | exact ta_152 | exact ta_155 | exact ta_157) ?_) | ((with_reducible refine tm (by first | exact ta_105 | exact ta_113 | exact ta_140 | exact ta_142 | exact ta_144 | exact ta_146 | exact ta_148 | exact ta_150 | exact ta_152 | exact ta_155 | exact ta_157 | exact ta_162) (by decide) ?_); intro _ _ _))); refine asB (by first | exact sa_105 | exact sa_113 | exact sa_140 | exact sa_142 | exact sa_144 | exact sa_146 | exact sa_148 | exact sa_150 | exact sa_152 | exact sa_155 | exact sa_157) rfl rfl fun b w1 hb x1 => ?_; refine ldB hb (by first | exact fa_105_0 | exact fa_113_0 | exact fa_113_1 | exact fa_113_2 | exact fa_113_3 | exact fa_118_0 | exact fa_118_1 | exact fa_118_2 | exact fa_118_3 | exact fa_118_4 | exact fa_120_0 | exact fa_120_1 | exact fa_120_2 | exact fa_120_3 | exact fa_137_0 | exact fa_137_1 | exact fa_137_2 | exact fa_137_3 | exact fa_137_4 | exact fa_137_5 | exact fa_140_0 | exact fa_140_1 | exact fa_142_0 | exact fa_142_1 | exact fa_142_2 | exact fa_144_0 | exact fa_144_1 | exact fa_144_2 | exact fa_144_3 | exact fa_146_0 | exact fa_148_0 | exact fa_148_1 | exact fa_150_0 | exact fa_150_1 | exact fa_152_0 | exact fa_152_1 | exact fa_155_0 | exact fa_157_0) (by first | exact l1_126 | exact l1_179 | exact l1_21 | exact l1_210 | exact l1_212 | exact l1_22 | exact l1_23 | exact l1_24 | exact l1_25 | exact l1_3) rfl ?_
    refine in_ok.mono fun r w2 ⟨h1, h2⟩ => ?_
    subst h1 h2
    refine gd_iff.2 ?_
    split
    · rename_i hin
      refine V.ok (FA.ex (by first | exact fa_105_0 | exact fa_113_0 | exact fa_113_1 | exact fa_113_2 | exact fa_113_3 | exact fa_118_0 | exact fa_118_1 | exact fa_118_2 | exact fa_118_3 | exact fa_118_4 | exact fa_120_0 | exact fa_120_1 | exact fa_120_2 | exact fa_120_3 | exact fa_137_0 | exact fa_137_1 | exact fa_137_2 | exact fa_137_3 | exact fa_137_4 | exact fa_137_5 | exact fa_140_0 | exact fa_140_1 | exact fa_142_0 | exact fa_142_1 | exact fa_142_2 | exact fa_144_0 | exact fa_144_1 | exact fa_144_2 | exact fa_144_3 | exact fa_146_0 | exact fa_148_0 | exact fa_148_1 | exact fa_150_0 | exact fa_150_1 | exact fa_152_0 | exact fa_152_1 | exact fa_155_0 | exact fa_155_1 | exact fa_155_2 | exact fa_157_2) _ _ _) (gd_iff.2 ?_)
      rw [if_pos hin]
      refine V.ok (r_ld_23 (hb 2 _ rfl)) (gd_iff.2 ?_)
      rw [if_pos hin]
      refine V.ok (r_len Tryz.underlying23) (gd_iff.2 ?_)
      rw [if_pos hin]
      refine V_leq.2 (pickD_mk ?_)
      rw [if_pos hin]
      have := of_decide_eq_true hin
      exact ⟨⟨_, rfl, decide_eq_true_iff.trans ⟨fun h => ⟨this, by simp only [GNode.args] at h; omega⟩, fun h => by have := h.2; simp only [GNode.args]; omega⟩⟩, x1⟩
    · rename_i hin
      refine gd_iff.2 ?_
      rw [if_neg hin]
      refine gd_iff.2 ?_
      rw [if_neg hin]
      refine gd_iff.2 ?_
      rw [if_neg hin]
      refine pickD_mk ?_
      rw [if_neg hin]
      exact ⟨⟨_, rfl, by simp [GNode.okF] at hin ⊢; omega⟩, x1⟩
  | _ => dsimp only [GNode.val]; (repeat (first | (with_reducible refine th ta_105 ?_) | ((with_reducible refine tm (by first | exact ta_105 | exact ta_113 | exact ta_140 | exact ta_142 | exact ta_144 | exact ta_146 | exact ta_148 | exact ta_150 | exact ta_152 | exact ta_155 | exact ta_157 | exact ta_162) (by decide) ?_); intro _ _ _))); refine V_neqni_52.2 ?_; exact ⟨⟨_, rfl, by simp [GNode.okF]⟩, Ext.refl _⟩

theorem bare_ok {n : GNode} {v : Value} {w : World} (h : NodeIs w v n) : callD Tryz.prog 74 #[v] w fun r w' => r = .bool n.bareN ∧ w' = w := by
  obtain ⟨sv, rfl, hs⟩ := h
  apply F74_wp
  have key : ∀ R : Value → World → Prop, R (.bool n.bareN) w → F74_den (n.val sv) w R := by
    intro R hR
    unfold F74_den
    cases n <;> simp only [GNode.val, V_ta_84, V_ta_140, V_ta_113, V_ta_142, V_ta_144, V_ta_150, V_ext0, V_ext1, reduceIte, Nat.reduceEqDiff, pickD_iff, ifD_true, ifD_false, Bool.false_eq_true] <;> exact hR
  exact key _ ⟨rfl, rfl⟩

/-- A node may stand at place k of a program of so many registers and nodes. -/
structure RightN (n : GNode) (k regs count : Int) : Prop where
  f : n.okF
  u : ∀ r ∈ n.us, 0 ≤ r ∧ r < regs
  t : ∀ r ∈ n.nx k, 0 ≤ r ∧ r < count
  d : (0 ≤ n.df ∧ n.df < regs) ∨ (n.df = -1 ∧ n.bareN = true)


theorem right_ok {p : GProg} {pv nv : Value} {n : GNode} {k : Int} {w : World} (hp : ProgIs w pv p) (hn : NodeIs w nv n) (hl : n.args.length ≤ 4294967296) (h0 : 0 ≤ k) (h1 : k ≤ 1000000) :
    callD Tryz.prog 38 #[pv, nv, i64 k] w fun r w' => (∃ b, r = .bool b ∧ (b = true ↔ RightN n k p.regs p.nodes.length)) ∧ Ext w w' := by
  obtain ⟨ns, rfl, ⟨vs, hs, _⟩, _⟩ := hp
  apply F38_wp
  unfold F38_den
  refine bx fun b w1 hb x1 => ?_
  refine (fields_ok (hn.ext x1)).mono fun r w2 ⟨⟨bf, hr, hbf⟩, x2⟩ => ?_
  subst hr
  refine V_not.2 (ifD.mk (fun hf => ?_) fun hf => ?_)
  · refine ⟨⟨false, rfl, ⟨(fun h => by cases h), fun h => ?_⟩⟩, x1.trans x2⟩
    have := hbf.2 h.f
    subst this; cases hf
  have hok : n.okF := hbf.1 (by cases bf <;> simp_all)
  refine (uses_ok (hn.ext (x1.trans x2)) hl).mono fun ul w3 ⟨hu', x3⟩ => ?_
  have hu : IntsAre w3 ul n.us := SliceIs.of_own hu'
  clear hu'
  have X3 := x1.trans (x2.trans x3)
  have hb3 := hb.ext (x2.trans x3)
  have hlen := us_len n
  refine lnx xa_23 hu ?_
  refine ⟨fun v w' => ∃ j : Nat, v = i64 j ∧ j ≤ n.us.length ∧ Ext w3 w' ∧ ∀ (i : Nat) u, i < j → n.us[i]? = some u → 0 ≤ u ∧ u < p.regs, fun v _ => n.us.length - (RowKit.intOf v).toNat,
    ⟨0, rfl, by omega, Ext.refl _, fun i u hi => by omega⟩, ?_⟩
  rintro _ w4 ⟨j, rfl, hj, x4, hall⟩ _
  refine V_lss.2 (ifD_dec (fun hlt => ?_) fun hge => ?_)
  · have hlt' : j < n.us.length := by omega
    obtain ⟨u, hu'⟩ := ex_get hlt'
    refine ldx xa_23 l1_3 (hu.ext x4) (by omega) (by omega) (getI hu') ?_
    refine ldB (hb3.ext x4) fa_38_1 l1_3 rfl ?_
    refine in_ok.mono fun r w5 ⟨hr, hw⟩ => ?_
    subst hr hw
    refine V_not.2 (ifD.mk (fun hf => ?_) fun hf => ?_)
    · refine ⟨⟨false, rfl, ⟨(fun h => by cases h), fun h => ?_⟩⟩, X3.trans x4⟩
      have := h.u u (List.mem_of_getElem? hu')
      simp [this] at hf
    · have hin : 0 ≤ u ∧ u < p.regs := by simpa using hf
      refine V_add.2 ?_
      rw [wrap_id (by omega) (by omega), i64_succ]
      refine ⟨⟨j + 1, rfl, by omega, x4, fun i u' hi hu2 => ?_⟩, by simp only [intOf_i64]; omega⟩
      by_cases hij : i = j
      · subst hij; rw [hu'] at hu2; cases hu2; exact hin
      · exact hall i u' (by omega) hu2
  have hju : j = n.us.length := by omega
  have hus : ∀ r ∈ n.us, 0 ≤ r ∧ r < p.regs := fun r hr => by
    obtain ⟨i, hi⟩ := List.getElem?_of_mem hr
    exact hall i r (by have := (List.getElem?_eq_some_iff.1 hi).1; omega) hi
  have X4 := X3.trans x4
  have hb4 := hb3.ext x4
  refine (next_ok (hn.ext X4) h0 h1).mono fun tl w5 ⟨ht', x5⟩ => ?_
  have ht : IntsAre w5 tl (n.nx k) := SliceIs.of_own ht'
  clear ht'
  have X5 := X4.trans x5
  have hb5 := hb4.ext x5
  have hlen2 := nx_len n k
  refine lnx xa_23 ht ?_
  refine ⟨fun v w' => ∃ j : Nat, v = i64 j ∧ j ≤ (n.nx k).length ∧ Ext w5 w' ∧ ∀ (i : Nat) u, i < j → (n.nx k)[i]? = some u → 0 ≤ u ∧ u < p.nodes.length, fun v _ => (n.nx k).length - (RowKit.intOf v).toNat,
    ⟨0, rfl, by omega, Ext.refl _, fun i u hi => by omega⟩, ?_⟩
  rintro _ w6 ⟨j2, rfl, hj2, x6, hall2⟩ _
  refine V_lss.2 (ifD_dec (fun hlt => ?_) fun hge2 => ?_)
  · have hlt' : j2 < (n.nx k).length := by omega
    obtain ⟨u, hu'⟩ := ex_get hlt'
    refine ldx xa_23 l1_3 (ht.ext x6) (by omega) (by omega) (getI hu') ?_
    refine ldB (hb5.ext x6) fa_38_2 l1_36 rfl ?_
    refine lnx xa_36 (hs.ext (X5.trans x6)) ?_
    refine in_ok.mono fun r w7 ⟨hr, hw⟩ => ?_
    subst hr hw
    refine V_not.2 (ifD.mk (fun hf => ?_) fun hf => ?_)
    · refine ⟨⟨false, rfl, ⟨(fun h => by cases h), fun h => ?_⟩⟩, X5.trans x6⟩
      have := h.t u (List.mem_of_getElem? hu')
      simp [this] at hf
    · have hin : 0 ≤ u ∧ u < p.nodes.length := by simpa using hf
      refine V_add.2 ?_
      rw [wrap_id (by omega) (by omega), i64_succ]
      refine ⟨⟨j2 + 1, rfl, by omega, x6, fun i u' hi hu2 => ?_⟩, by simp only [intOf_i64]; omega⟩
      by_cases hij : i = j2
      · subst hij; rw [hu'] at hu2; cases hu2; exact hin
      · exact hall2 i u' (by omega) hu2
  have hns : ∀ r ∈ n.nx k, 0 ≤ r ∧ r < p.nodes.length := fun r hr => by
    obtain ⟨i, hi⟩ := List.getElem?_of_mem hr
    exact hall2 i r (by have := (List.getElem?_eq_some_iff.1 hi).1; omega) hi
  have X6 := X5.trans x6
  have hb6 := hb5.ext x6
  refine (def_ok (hn.ext X6)).mono fun r w7 ⟨hr, x7⟩ => ?_
  subst hr
  refine ldB (hb6.ext x7) fa_38_1 l1_3 rfl ?_
  refine in_ok.mono fun r w8 ⟨hr, hw⟩ => ?_
  subst hr hw
  have X7 := X6.trans x7
  by_cases hd : 0 ≤ n.df ∧ n.df < p.regs
  · simp only [decide_eq_true hd, gd_tf, gd_undef, pickD_iff, reduceIte]
    exact ⟨⟨true, rfl, ⟨fun _ => ⟨hok, hus, hns, .inl hd⟩, fun _ => rfl⟩⟩, X7⟩
  · simp only [decide_eq_false hd, gd_f, pickD_iff, V_eqlI]
    by_cases hm : n.df = -1
    · simp only [decide_eq_true hm, gd_t]
      refine (bare_ok (hn.ext X7)).mono fun r w9 ⟨hr, hw⟩ => ?_
      subst hr hw
      refine ⟨⟨n.bareN, by simp, ⟨fun hb => ⟨hok, hus, hns, .inr ⟨hm, hb⟩⟩, fun h => ?_⟩⟩, X7⟩
      rcases h.d with h | h
      · exact absurd h hd
      · exact h.2
    · simp only [decide_eq_false hm, gd_ft]
      refine ⟨⟨false, by simp, ⟨(fun h => by cases h), fun h => ?_⟩⟩, X7⟩
      rcases h.d with h | h
      · exact absurd h hd
      · exact absurd h.1 hm

/-- A program that may be. -/
structure OkProg (p : GProg) : Prop where
  l1 : 1 ≤ p.nodes.length
  l2 : p.nodes.length ≤ 250
  r1 : 0 ≤ p.regs
  r2 : p.regs ≤ 40
  p1 : 0 ≤ p.params
  p2 : p.params ≤ 4
  p3 : p.params ≤ p.regs
  nodes : ∀ (i : Nat) n, p.nodes[i]? = some n → RightN n i p.regs p.nodes.length

theorem check_ok {p : GProg} {pv : Value} {w : World} (hp : ProgIs w pv p) (hv : OkProg p) :
    callD Tryz.prog 18 #[pv] w fun r w' => r = .bool true ∧ Ext w w' := by
  obtain ⟨ns, rfl, hn, hargs⟩ := hp
  have hn' := hn
  obtain ⟨vs, hs, hvs⟩ := hn'
  obtain ⟨l1, l2, r1, r2, p1, p2, p3, hnodes⟩ := hv
  apply F18_wp
  unfold F18_den
  refine bx fun b w1 hb x1 => ?_
  refine ldB hb fa_38_2 l1_36 rfl (lnx xa_36 (hs.ext x1) (V_lss.2 ?_))
  simp only [show decide ((p.nodes.length : Int) < 1) = false from by simp; omega, gd_f]
  refine ldB hb fa_38_2 l1_36 rfl (lnx xa_36 (hs.ext x1) (V_gtr.2 ?_))
  simp only [show decide ((p.nodes.length : Int) > 250) = false from by simp; omega, pickD_iff, Bool.false_eq_true, reduceIte, gd_f]
  refine ldB hb fa_38_1 l1_3 rfl ?_
  refine in_ok.mono fun r w5 ⟨hr, hw⟩ => ?_
  subst hr hw
  simp only [show decide (0 ≤ p.regs ∧ p.regs < 41) = true from by simp; omega, V_not, Bool.not_true, pickD_iff, Bool.false_eq_true, reduceIte, gd_f]
  refine ldB hb fa_38_0 l1_3 rfl ?_
  refine in_ok.mono fun r w5 ⟨hr, hw⟩ => ?_
  subst hr hw
  simp only [show decide (0 ≤ p.params ∧ p.params < 5) = true from by simp; omega, V_not, Bool.not_true, pickD_iff, Bool.false_eq_true, reduceIte, gd_f]
  refine ldB hb fa_38_0 l1_3 rfl (ldB hb fa_38_1 l1_3 rfl (V_gtr.2 ?_))
  simp only [show decide (p.params > p.regs) = false from by simp; omega, ifD_false]
  refine ldB hb fa_38_2 l1_36 rfl (lnx xa_36 (hs.ext x1) ?_)
  refine ⟨fun v w' => ∃ j : Nat, v = i64 j ∧ j ≤ p.nodes.length ∧ Ext w5 w', fun v _ => p.nodes.length - (RowKit.intOf v).toNat, ⟨0, rfl, by omega, Ext.refl _⟩, ?_⟩
  rintro _ w6 ⟨j, rfl, hj, x6⟩ _
  refine V_lss.2 (ifD_dec (fun hlt => ?_) fun hge => ⟨trivial, x1.trans x6⟩)
  have hlt' : j < p.nodes.length := by omega
  obtain ⟨n, hn1⟩ := ex_get hlt'
  obtain ⟨u, hu, hnu⟩ := hvs j n hn1
  have hb6 := hb.ext x6
  refine ldx xa_36 l1_52 (hs.ext (x1.trans x6)) (by omega) (by omega) (by simpa using hu) ?_
  refine ldA hb6 la_38 rfl ?_
  refine (right_ok (p := p) ⟨ns, rfl, hn.ext (x1.trans x6), hargs⟩ (hnu.ext (x1.trans x6)) (hargs n (List.mem_of_getElem? hn1)) (by omega) (by omega)).mono fun r w7 ⟨⟨bb, hr, hbb⟩, x7⟩ => ?_
  subst hr
  have := hbb.2 (hnodes j n hn1)
  subst this
  refine V_not.2 (ifD_false.2 (V_add.2 ?_))
  rw [wrap_id (by omega) (by omega), i64_succ]
  exact ⟨⟨j + 1, rfl, by omega, x6.trans x7⟩, by simp only [intOf_i64]; omega⟩
end Go.Proofs.YtcdbikfnlggbnaaGreatDoor
namespace Go.Proofs.YtcdbikfnlggbnaaGreatDoor
open Go.Vc Go.Tc
/-- A node that may stand among 18 registers, its way aside. -/
def OkNode (n : GNode) : Prop := n.okF ∧ (∀ r ∈ n.us, 0 ≤ r ∧ r < 18) ∧ ((0 ≤ n.df ∧ n.df < 18) ∨ (n.df = -1 ∧ n.bareN = true))
theorem rowP_in {h n : Nat} (h1 : n ≤ h) (h2 : h ≤ 8) : ∀ r ∈ rowP h n, 0 ≤ r ∧ r < 18 := fun r hr => by
  simp only [rowP, List.mem_map, List.mem_range] at hr
  obtain ⟨k, hk, rfl⟩ := hr
  omega
theorem rowP_len (h n : Nat) : (rowP h n).length = n := by simp [rowP]
theorem liftN_ok {i : Img} {m : Mth} {x : Ins} {h : Nat} {n : GNode} (ox : Okx i m x) (h8 : h ≤ 8) (ha : (asked i m x).length ≤ h) (hg : h - (asked i m x).length + hgt i m x ≤ 8) (hn : liftN i m x h = some n) : OkNode n := by
  have xr := ox.xr
  have hop := xr.1
  have hl := xr.2.1
  have hu := xr.2.2.1
  have nm := ox.nm
  have pl := ox.mr.1.2
  have ll := ox.mr.2.2.1.2
  have fl := ox.ir.1.2
  have locl : m.locs.length ≤ 10 := by simp [Mth.locs]; omega
  unfold liftN at hn
  by_cases d0 : x.op = 1
  · rw [if_pos d0] at hn; cases hn
    have e1 : hgt i m x = 1 := by simp [hgt, givesS, d0]
    have e2 : asked i m x = [] := by simp [asked, d0, isBin]
    rw [e1, e2] at hg
    exact ⟨trivial, by simp [GNode.us], .inl (by simp only [GNode.df]; simp at hg; omega)⟩
  rw [if_neg d0] at hn
  by_cases d1 : x.op = 2
  · rw [if_pos d1] at hn; cases hn
    have e1 : hgt i m x = 1 := by simp [hgt, givesS, d1]
    have e2 : asked i m x = [] := by simp [asked, d1, isBin]
    rw [e1, e2] at hg
    simp only [namesS, d1, true_or, if_true] at nm
    simp [lim, d1] at hl hu
    exact ⟨trivial, by simp [GNode.us]; omega, .inl (by simp only [GNode.df]; simp at hg; omega)⟩
  rw [if_neg d1] at hn
  by_cases d2 : x.op = 3
  · rw [if_pos d2] at hn; cases hn
    have e2 : (asked i m x).length = 1 := by simp [asked, d2]
    simp [lim, d2] at hl hu
    exact ⟨trivial, by simp [GNode.us]; omega, .inl (by simp only [GNode.df]; omega)⟩
  rw [if_neg d2] at hn
  by_cases d3 : x.op = 4
  · rw [if_pos d3] at hn; cases hn
  rw [if_neg d3] at hn
  by_cases d4 : x.op = 5
  · rw [if_pos d4] at hn; cases hn
    have e1 : hgt i m x = 2 := by simp [hgt, givesS, d4]
    have e2 : (asked i m x).length = 1 := by simp [asked, d4]
    rw [e1, e2] at hg
    exact ⟨trivial, by simp [GNode.us]; omega, .inl (by simp only [GNode.df]; omega)⟩
  rw [if_neg d4] at hn
  by_cases d5 : x.op = 15 ∨ x.op = 16 ∨ x.op = 26
  · rw [if_pos d5] at hn; cases hn
    have e2 : (asked i m x).length = 1 := by rcases d5 with d5 | d5 | d5 <;> simp [asked, d5, isBin]
    exact ⟨d5, by simp [GNode.us]; omega, .inl (by simp only [GNode.df]; omega)⟩
  rw [if_neg d5] at hn
  by_cases d6 : x.op = 22
  · rw [if_pos d6] at hn; cases hn
    have e2 : (asked i m x).length = 3 := by simp [asked, d6, isBin]
    exact ⟨trivial, by simp [GNode.us]; omega, .inl (by simp only [GNode.df]; omega)⟩
  rw [if_neg d6] at hn
  by_cases c1 : x.op = 23
  · rw [if_pos c1] at hn; cases hn
    exact ⟨trivial, by simp [GNode.us], .inr ⟨rfl, rfl⟩⟩
  rw [if_neg c1] at hn
  by_cases c2 : x.op = 24
  · rw [if_pos c2] at hn; cases hn
    have e2 : (asked i m x).length = 1 := by simp [asked, c2, isBin]
    exact ⟨trivial, by simp [GNode.us]; omega, .inr ⟨rfl, rfl⟩⟩
  rw [if_neg c2] at hn
  by_cases d9 : x.op = 25
  · rw [if_pos d9] at hn; cases hn
    have e1 : hgt i m x = 1 := by simp [hgt, givesS, d9, isBin]
    have e2 : asked i m x = [] := by simp [asked, d9, isBin]
    rw [e1, e2] at hg
    exact ⟨trivial, by simp [GNode.us], .inl (by simp only [GNode.df]; simp at hg; omega)⟩
  rw [if_neg d9] at hn
  by_cases d10 : x.op = 35
  · rw [if_pos d10] at hn; cases hn
    have e1 : hgt i m x = 1 := by simp [hgt, givesS, d10, isBin]
    have e2 : asked i m x = [] := by simp [asked, d10, isBin]
    rw [e1, e2] at hg
    exact ⟨trivial, by simp [GNode.us], .inl (by simp only [GNode.df]; simp at hg; omega)⟩
  rw [if_neg d10] at hn
  by_cases d11 : x.op = 33
  · rw [if_pos d11] at hn; cases hn
    have e1 : hgt i m x = 1 := by simp [hgt, givesS, d11]
    have e2 : asked i m x = [] := by simp [asked, d11, isBin]
    rw [e1, e2] at hg
    simp [lim, d11] at hl hu
    exact ⟨⟨by omega, by omega⟩, by simp [GNode.us], .inl (by simp only [GNode.df]; simp at hg; omega)⟩
  rw [if_neg d11] at hn
  by_cases d12 : x.op = 34
  · rw [if_pos d12] at hn; cases hn
    have e2 : (asked i m x).length = 1 := by simp [asked, d12]
    simp [lim, d12] at hl hu
    exact ⟨⟨by omega, by omega⟩, by simp [GNode.us]; omega, .inr ⟨rfl, rfl⟩⟩
  rw [if_neg d12] at hn
  have res : ∀ {r : Int} {q : Nat}, q ≤ h → h - q + (resL r).length ≤ 8 → (0 ≤ resP r ((h : Int) - (q : Nat)) ∧ resP r ((h : Int) - (q : Nat)) < 18) ∨ resP r ((h : Int) - (q : Nat)) = -1 := fun {r q} hq hr => by
    unfold resP resL at *
    by_cases h0 : r = 0
    · rw [if_pos h0]; exact .inr rfl
    · rw [if_neg h0] at hr ⊢; simp at hr; exact .inl (by omega)
  by_cases d13 : x.op = 37
  · rw [if_pos d13] at hn; cases hn
    have e1 : hgt i m x = (resL (i.meth x.a).result).length := by simp [hgt, givesS, d13, isBin]
    have e2 : asked i m x = (i.meth x.a).params := by simp [asked, d13, isBin]
    rw [e2] at ha hg
    rw [e1] at hg
    simp [lim, d13] at hl hu
    simp [namesS, d13] at nm
    have hp := (ox.ir.2.2.1.2.1 _ (Img.meth_mem hl nm)).1.2
    refine ⟨⟨⟨by omega, by omega⟩, by rw [rowP_len]; omega⟩, fun r hr => rowP_in ha h8 r hr, ?_⟩
    rcases res ha hg with h1 | h1
    · exact .inl h1
    · exact .inr ⟨h1, rfl⟩
  rw [if_neg d13] at hn
  by_cases d14 : x.op = 38
  · rw [if_pos d14] at hn; cases hn
    have e1 : hgt i m x = (resL (i.imp x.a).result).length := by simp [hgt, givesS, d14, isBin]
    have e2 : asked i m x = (i.imp x.a).params := by simp [asked, d14, isBin]
    rw [e2] at ha hg
    rw [e1] at hg
    simp [lim, d14] at hl hu
    simp [namesS, d14] at nm
    have hp := (ox.ir.2.1.2 _ (Img.imp_mem hl nm)).2.1.2
    refine ⟨⟨⟨by omega, by omega⟩, by rw [rowP_len]; omega⟩, fun r hr => rowP_in ha h8 r hr, ?_⟩
    rcases res ha hg with h1 | h1
    · exact .inl h1
    · exact .inr ⟨h1, rfl⟩
  rw [if_neg d14] at hn
  by_cases d15 : x.op = 39
  · rw [if_pos d15] at hn; cases hn
    have e2 : asked i m x = resL m.result := by simp [asked, d15, isBin]
    rw [e2] at ha
    refine ⟨trivial, fun r hr => ?_, .inr ⟨rfl, rfl⟩⟩
    simp only [GNode.us] at hr
    split at hr
    · simp at hr
    · rename_i hne
      simp only [List.mem_singleton] at hr
      unfold resP at hr hne
      unfold resL at ha
      by_cases h0 : m.result = 0
      · rw [if_pos h0] at hne; exact absurd rfl hne
      · rw [if_neg h0] at hr ha; simp at ha; omega
  rw [if_neg d15] at hn
  by_cases d16 : (srvP x.op).1 ≠ 0
  · rw [if_pos d16] at hn; cases hn
    have e0 : x.op = 27 ∨ x.op = 28 ∨ x.op = 17 ∨ x.op = 18 ∨ x.op = 29 ∨ x.op = 30 ∨ x.op = 36 ∨ x.op = 31 ∨ x.op = 32 := by
      apply Classical.byContradiction
      intro hne
      apply d16
      simp only [srvP]
      rw [if_neg (by omega), if_neg (by omega), if_neg (by omega), if_neg (by omega), if_neg (by omega)]
    rcases e0 with e | e | e | e | e | e | e | e | e <;>
      (have e1 : (asked i m x).length = (srvP x.op).1.toNat := by simp [asked, srvP, e, isBin]
       have e2 : hgt i m x = if (srvP x.op).2 then 1 else 0 := by first | (simp [hgt, givesS, srvP, e, isBin]; done) | (simp [hgt, givesS, srvP, e, isBin]; split <;> rfl)
       simp [srvP, e] at e1 e2
       refine ⟨by simp [GNode.okF, serves, rowP_len, srvP, e], fun r hr => rowP_in (n := (srvP x.op).1.toNat) (by simp [srvP, e]; omega) h8 r hr, ?_⟩
       simp [GNode.df, GNode.bareN, srvP, e]
       try omega)
  · rw [if_neg d16] at hn; cases hn
    have e0 : isBin x.op := by
      have d16' : (srvP x.op).1 = 0 := by simpa using d16
      unfold isBin
      simp only [srvP] at d16'
      repeat' (split at d16' <;> first | (simp at d16'; done) | skip)
      omega
    have e2 : (asked i m x).length = 2 := by
      unfold asked
      rw [if_neg (by omega), if_neg (by omega), if_neg (by omega), if_neg (by omega), if_pos e0]; rfl
    exact ⟨e0, by simp [GNode.us]; omega, .inl (by simp only [GNode.df]; omega)⟩
/-- The way goes on to the next one. -/
def GNode.falls : GNode → Bool
  | .goto _ | .ret _ => false
  | _ => true
theorem liftN_falls {i : Img} {m : Mth} {x : Ins} {h k : Nat} {n : GNode} (hn : liftN i m x h = some n) (hf : n.falls = true) : ((k : Int) + 1) ∈ nextS x k := by
  by_cases c1 : x.op = 23
  · have : n = .goto x.a := by simp [liftN, c1] at hn; exact hn.symm
    subst this; cases hf
  by_cases c2 : x.op = 39
  · have : n = .ret (resP m.result ((h : Int) - 1)) := by simp [liftN, c2] at hn; exact hn.symm
    subst this; cases hf
  unfold nextS
  rw [if_neg c1]
  by_cases c3 : x.op = 24
  · rw [if_pos c3]; exact List.mem_cons_self
  · rw [if_neg c3, if_neg c2]; exact List.mem_singleton.2 rfl
theorem liftN_none {i : Img} {m : Mth} {x : Ins} {h : Nat} (ho : liftN i m x h = none) : x.op = 4 := by
  apply Classical.byContradiction
  intro hne
  unfold liftN at ho
  iterate 17 (rcases ite_none ho with ⟨hc, ho⟩ | ⟨_, ho⟩; · (first | (cases ho; done) | exact absurd hc hne))
  cases ho
theorem liftN_goto {i : Img} {m : Mth} {x : Ins} {h : Nat} {t : Int} (hn : liftN i m x h = some (.goto t)) : x.op = 23 ∧ t = x.a := by
  unfold liftN at hn
  iterate 17 (rcases ite_some hn with ⟨hc, hn⟩ | ⟨_, hn⟩; · (first | (cases hn; done) | (cases hn; exact ⟨hc, rfl⟩)))
  cases hn
theorem liftN_branch {i : Img} {m : Mth} {x : Ins} {h : Nat} {q t : Int} (hn : liftN i m x h = some (.branch q t)) : x.op = 24 ∧ t = x.a := by
  unfold liftN at hn
  iterate 17 (rcases ite_some hn with ⟨hc, hn⟩ | ⟨_, hn⟩; · (first | (cases hn; done) | (cases hn; exact ⟨hc, rfl⟩)))
  cases hn
theorem liftK_end {i : Img} {m : Mth} {st : St} {r : List Bool} (R : Rch i m st [] r) : ∀ k, ∀ (a : Nat) (n : GNode), (liftK i m st r k).1[a]? = some n → n.falls = true → a + 1 < (liftK i m st r k).1.length ∨ (a + 1 = (liftK i m st r k).1.length ∧ r.getD k false = true)
  | 0, a, n, h, _ => by
    have hlt := (List.getElem?_eq_some_iff.1 h).1
    have hz : r.getD 0 false = true := by rcases R.z with hz | hz; exact hz; cases hz
    by_cases h1 : a + 1 < (liftK i m st r 0).1.length
    · exact .inl h1
    · exact .inr ⟨by omega, hz⟩
  | k + 1, a, n, h, hf => by
    have ih := liftK_end R k
    cases hk : r.getD k false with
    | false =>
      have e : (liftK i m st r (k + 1)).1 = (liftK i m st r k).1 := by simp only [liftK, hk]; rfl
      rw [e] at h ⊢
      rcases ih a n h hf with h1 | ⟨_, h1⟩
      · exact .inl h1
      · rw [hk] at h1; cases h1
    | true =>
      have e : (liftK i m st r (k + 1)).1 = (liftK i m st r k).1 ++ .tick :: (liftN i m (m.ins k) (st.s k).length).toList := by simp only [liftK, hk]; rfl
      have next : ((k : Int) + 1) ∈ nextS (m.ins k) k → r.getD (k + 1) false = true := fun hm => by
        rcases R.cl k hk _ hm with h1 | h1
        · rwa [show ((k : Int) + 1).toNat = k + 1 by omega] at h1
        · cases h1
      rw [e] at h ⊢
      rw [List.getElem?_append] at h
      split at h
      · left; simp; omega
      · rename_i hge
        have hlt := (List.getElem?_eq_some_iff.1 h).1
        cases ho : liftN i m (m.ins k) (st.s k).length with
        | none =>
          rw [ho] at hlt
          simp at hlt
          right
          refine ⟨by simp; omega, next ?_⟩
          have h4 : (m.ins k).op = 4 := liftN_none ho
          simp [nextS, h4]
        | some y =>
          rw [ho] at hlt h
          simp at hlt
          by_cases ha : a = (liftK i m st r k).1.length
          · left; simp; omega
          · right
            have ea : a - (liftK i m st r k).1.length = 1 := by omega
            rw [ea] at h
            simp at h
            subst h
            exact ⟨by simp; omega, next (liftN_falls ho hf)⟩
theorem liftK_at {i : Img} {m : Mth} {st : St} {r : List Bool} : ∀ (k pc : Nat), pc < k → r.getD pc false = true → ∃ t : Nat, (liftK i m st r k).2[pc]? = some (t : Int) ∧ t < (liftK i m st r k).1.length
  | k + 1, pc, h, hr => by
    have hl := (liftK_ticks i m st r k).2.1
    by_cases hpk : pc = k
    · subst hpk
      have e : liftK i m st r (pc + 1) = ((liftK i m st r pc).1 ++ .tick :: (liftN i m (m.ins pc) (st.s pc).length).toList, (liftK i m st r pc).2 ++ [((liftK i m st r pc).1.length : Int)]) := by simp only [liftK, hr]; rfl
      rw [e]
      exact ⟨(liftK i m st r pc).1.length, by rw [List.getElem?_append_right (by omega), hl]; simp, by simp⟩
    · obtain ⟨t, h1, h2⟩ := liftK_at (i := i) (m := m) (st := st) (r := r) k pc (by omega) hr
      cases hk : r.getD k false with
      | false =>
        have e : liftK i m st r (k + 1) = ((liftK i m st r k).1, (liftK i m st r k).2 ++ [-1]) := by simp only [liftK, hk]; rfl
        rw [e]
        exact ⟨t, by rw [List.getElem?_append_left (by omega)]; exact h1, h2⟩
      | true =>
        have e : liftK i m st r (k + 1) = ((liftK i m st r k).1 ++ .tick :: (liftN i m (m.ins k) (st.s k).length).toList, (liftK i m st r k).2 ++ [((liftK i m st r k).1.length : Int)]) := by simp only [liftK, hk]; rfl
        rw [e]
        exact ⟨t, by rw [List.getElem?_append_left (by omega)]; exact h1, by simp; omega⟩
/-- Each node stands right; what it jumps to is reached. -/
theorem liftK_okn {i : Img} {m : Mth} {st : St} {r : List Bool} (hox : ∀ x ∈ m.code, Okx i m x) (hwf : WF m st) (hled : ∀ k, st.h k = true → Led i m st k) (R : Rch i m st [] r) : ∀ k, k ≤ m.code.length → ∀ n ∈ (liftK i m st r k).1, OkNode n ∧ (match n with | .goto t | .branch _ t => r.getD t.toNat false = true | _ => True)
  | 0, _, n, h => by
    simp only [liftK, List.mem_map, List.mem_range] at h
    obtain ⟨j, hj, rfl⟩ := h
    have mr : m.right ∨ m.code.length = 0 := by
      by_cases h0 : m.code.length = 0
      · exact .inr h0
      · obtain ⟨x, hx⟩ := ex_get (l := m.code) (j := 0) (by omega)
        exact .inl (hox x (List.mem_of_getElem? hx)).mr
    have hz : r.getD 0 false = true := by rcases R.z with hz | hz; exact hz; cases hz
    have h0 : 0 < r.length := getD_lt hz
    have hrl := R.rl
    rcases mr with mr | mr
    · have pl := mr.1.2
      have ll := mr.2.2.1.2
      exact ⟨⟨trivial, by simp [GNode.us], .inl (by simp only [GNode.df]; omega)⟩, trivial⟩
    · omega
  | k + 1, hk1, n, h => by
    have ih := liftK_okn hox hwf hled R k (by omega)
    cases hk : r.getD k false with
    | false =>
      have e : (liftK i m st r (k + 1)).1 = (liftK i m st r k).1 := by simp only [liftK, hk]; rfl
      rw [e] at h
      exact ih n h
    | true =>
      have e : (liftK i m st r (k + 1)).1 = (liftK i m st r k).1 ++ .tick :: (liftN i m (m.ins k) (st.s k).length).toList := by simp only [liftK, hk]; rfl
      rw [e] at h
      rcases List.mem_append.1 h with h | h
      · exact ih n h
      · rcases List.mem_cons.1 h with h | h
        · subst h
          exact ⟨⟨trivial, by simp [GNode.us], .inr ⟨rfl, rfl⟩⟩, trivial⟩
        · have hn : liftN i m (m.ins k) (st.s k).length = some n := by simpa using h
          have hh := R.rs k hk
          obtain ⟨out, hdo, _⟩ := hled k hh
          obtain ⟨hkd, hl8⟩ := hwf.kd k hh
          have ox := hox _ (ins_mem (m := m) (k := k) (by omega))
          obtain ⟨_, ho8, hask, hlen⟩ := doS_ok ox hkd hdo
          refine ⟨liftN_ok ox hl8 hask (by omega) hn, ?_⟩
          have jmp : ∀ t, t ∈ nextS (m.ins k) k → r.getD t.toNat false = true := fun t ht => by
            rcases R.cl k hk t ht with h1 | h1
            · exact h1
            · cases h1
          cases n with
          | goto t =>
            obtain ⟨e1, rfl⟩ := liftN_goto hn
            exact jmp _ (by simp [nextS, e1])
          | branch q t =>
            obtain ⟨e1, rfl⟩ := liftN_branch hn
            exact jmp _ (by simp [nextS, e1])
          | _ => trivial
/-- The lifted program is one that may be. -/
theorem lift_okProg {i : Img} {k : Nat} {st : St} {r : List Bool} (ht : Taken i) (hk : k < i.methods.length) (hw : Walk i (i.meth k) (some st)) (R : Rch i (i.meth k) st [] r) : OkProg ⟨(i.meth k).params.length, 18, liftP i (i.meth k) st r⟩ := by
  have hmi := meth_get (i := i) (a := (k : Int)) (by omega) (by omega)
  rw [Int.toNat_natCast] at hmi
  have ir := ht.1
  have mr : (i.meth k).right := ir.2.2.1.2.1 _ (List.mem_of_getElem? hmi)
  obtain ⟨hox, hwf, hh0, hs0, hled⟩ := hw.led ir mr
  generalize hmm : i.meth k = m at *
  have pl := mr.1.2
  have ll := mr.2.2.1.2
  have lc := mr.2.2.2.1.2
  obtain ⟨c1, c2, c3, c4⟩ := liftP_ticks i m st r
  have hz : r.getD 0 false = true := by rcases R.z with hz | hz; exact hz; cases hz
  have hl0 : 0 < m.code.length := by have := getD_lt hz; have := R.rl; omega
  obtain ⟨t0, ht0, htl⟩ := liftK_at (i := i) (m := m) (st := st) (r := r) m.code.length 0 hl0 hz
  have hlen : (liftP i m st r).length = (liftK i m st r m.code.length).1.length := by simp [liftP]
  refine ⟨by dsimp only; omega, by dsimp only; omega, by dsimp only; decide, by dsimp only; decide, by dsimp only; omega, by dsimp only; omega, by dsimp only; omega, fun a n hn => ?_⟩
  have hn : (liftP i m st r)[a]? = some n := hn
  have hn' := hn
  rw [show liftP i m st r = (liftK i m st r m.code.length).1.map (aimN (liftK i m st r m.code.length).2) from rfl, List.getElem?_map, Option.map_eq_some_iff] at hn'
  obtain ⟨y, hy, rfl⟩ := hn'
  obtain ⟨⟨o1, o2, o3⟩, o4⟩ := liftK_okn hox hwf hled R m.code.length (Nat.le_refl _) y (List.mem_of_getElem? hy)
  have hcend : r.getD m.code.length false = false := by
    cases hc : r.getD m.code.length false with
    | false => rfl
    | true => have := getD_lt hc; have := R.rl; omega
  have fall : y.falls = true → (a : Int) + 1 < ((liftP i m st r).length : Int) := fun hf => by
    rcases liftK_end R m.code.length a y hy hf with h1 | ⟨_, h1⟩
    · omega
    · rw [hcend] at h1; cases h1
  have aim : ∀ t : Int, r.getD t.toNat false = true → 0 ≤ nth (liftK i m st r m.code.length).2 t.toNat ∧ nth (liftK i m st r m.code.length).2 t.toNat < ((liftP i m st r).length : Int) := fun t hr => by
    have := getD_lt hr
    have := R.rl
    obtain ⟨q, h1, h2⟩ := liftK_at (i := i) (m := m) (st := st) (r := r) m.code.length t.toNat (by omega) hr
    have e : nth (liftK i m st r m.code.length).2 t.toNat = (q : Int) := by
      unfold nth
      rw [List.getD_eq_getElem?_getD, h1]; rfl
    rw [e]
    omega
  refine ⟨?_, ?_, ?_, ?_⟩
  · cases y <;> exact o1
  · cases y <;> exact o2
  · intro t htn
    cases y with
    | goto to =>
      have htn : t ∈ [nth (liftK i m st r m.code.length).2 to.toNat] := htn
      rw [List.mem_singleton] at htn
      subst htn
      exact aim to o4
    | branch q to =>
      have hA := aim to o4
      have hF := fall rfl
      simp only [aimN, GNode.nx] at htn
      split at htn
      · rw [List.mem_singleton] at htn; subst htn; exact ⟨by omega, hF⟩
      · rcases List.mem_cons.1 htn with h1 | h1
        · subst h1; exact ⟨by omega, hF⟩
        · rw [List.mem_singleton] at h1; subst h1; exact hA
    | ret s => simp [aimN, GNode.nx] at htn
    | _ =>
      have hF := fall rfl
      simp only [aimN, GNode.nx, List.mem_singleton] at htn
      subst htn
      exact ⟨by omega, hF⟩
  · cases y <;> exact o3
end Go.Proofs.YtcdbikfnlggbnaaGreatDoor
namespace Go.Proofs.YtcdbikfnlggbnaaGreatDoor
open Go.Vc

/-- Ahead of a node, of what is alive behind it. -/
def killL (d : Int) (bs : List Bool) : List Bool := if 0 ≤ d then bs.set d.toNat false else bs
def aheadL (n : GNode) (bs : List Bool) : List Bool := n.us.foldl (fun a r => a.set r.toNat true) (killL n.df bs)
theorem killL_len (d : Int) (bs : List Bool) : (killL d bs).length = bs.length := by unfold killL; split <;> simp
theorem foldSet_len (l : List Int) (bs : List Bool) : (l.foldl (fun a r => a.set r.toNat true) bs).length = bs.length := by
  induction l generalizing bs with
  | nil => rfl
  | cons x l ih => simp [ih]
theorem aheadL_len (n : GNode) (bs : List Bool) : (aheadL n bs).length = bs.length := by unfold aheadL; rw [foldSet_len, killL_len]
theorem map_set_b (bs : List Bool) (i : Nat) (b : Bool) : (bs.map Value.bool).set i (.bool b) = (bs.set i b).map Value.bool := by rw [List.map_set]

theorem ahead_ok {n : GNode} {nv bv : Value} {bs : List Bool} {w : World} (hn : NodeIs w nv n) (hb : BoolsAre w bv bs) (hl : n.args.length ≤ 4294967296) (hbl : bs.length ≤ 4294967296)
    (hd : n.df < bs.length) (hu : ∀ r ∈ n.us, 0 ≤ r ∧ r < bs.length) :
    callD Tryz.prog 75 #[nv, bv] w fun r w' => w'.ownsRow w.heap.size 4 1 r bs.length ((aheadL n bs).map Value.bool) ∧ Ext w w' := by
  apply F75_wp
  unfold F75_den
  refine (clone_bool hb hbl).mono fun ov w1 ⟨ho, x1⟩ => ?_
  refine ⟨fun w' => w'.ownsRow w.heap.size 4 1 ov bs.length ((killL n.df bs).map Value.bool) ∧ Ext w w', ?_, ?_⟩
  · refine (def_ok (hn.ext x1)).mono fun r w2 ⟨hr, x2⟩ => ?_
    subst hr
    refine V_geq.2 (ifD_dec (fun hge => ?_) fun hlt => ?_)
    · have hge' : 0 ≤ n.df := hge
      refine stO xa_78 inf4 (x2.own ho) hge' hd rfl fun w3 ho3 hg => ?_
      rw [map_set_b] at ho3
      refine ⟨?_, (x1.trans x2).grown hg fun k hk => ((x2.own ho).lt k hk).1⟩
      unfold killL
      rw [if_pos hge']
      exact ho3
    · refine ⟨?_, x1.trans x2⟩
      unfold killL
      rw [if_neg (by simpa using hlt)]
      exact x2.own ho
  rintro w2 ⟨ho2, x2⟩ _
  refine (uses_ok (hn.ext x2) hl).mono fun ul w3 ⟨hus, x3⟩ => ?_
  have hlen := us_len n
  have hov : ∀ k, ov.ownBlock = some k → k < w2.heap.size := fun k hk => (ho2.lt k hk).2
  refine lnx xa_23 (SliceIs.of_own hus) ?_
  refine ⟨fun v w' => ∃ j : Nat, v = i64 j ∧ j ≤ n.us.length ∧ Ext w w' ∧ w'.ownsRow w2.heap.size 3 1 ul n.us.length (n.us.map i64) ∧ w'.ownsRow w.heap.size 4 1 ov bs.length (((n.us.take j).foldl (fun a r => a.set r.toNat true) (killL n.df bs)).map Value.bool),
    fun v _ => n.us.length - (RowKit.intOf v).toNat, ⟨0, rfl, by omega, x2.trans x3, hus, by simpa using x3.own ho2⟩, ?_⟩
  rintro _ w4 ⟨j, rfl, hj, x4, hus4, ho4⟩ _
  refine V_lss.2 (ifD_dec (fun hlt => ?_) fun hge => ?_)
  · have hlt' : j < n.us.length := by omega
    obtain ⟨u, hu'⟩ := ex_get hlt'
    obtain ⟨hu0, hu1⟩ := hu u (List.mem_of_getElem? hu')
    refine ldO' xa_23 l1_3 hus4 (by omega) (by omega) (getI hu') ?_
    refine stO xa_78 inf4 ho4 hu0 (by omega) rfl fun w5 ho5 hg => ?_
    refine V_add.2 ?_
    rw [wrap_id (by omega) (by omega), i64_succ]
    rw [map_set_b] at ho5
    refine ⟨⟨j + 1, rfl, by omega, x4.grown hg fun k hk => (ho4.lt k hk).1, hus4.kept hg (own_ne hus4 hov), ?_⟩, by simp only [intOf_i64]; omega⟩
    rw [List.take_add_one, hu']
    simpa using ho5
  · have hju : j = n.us.length := by omega
    subst hju
    rw [List.take_length] at ho4
    exact ⟨ho4, x4⟩
end Go.Proofs.YtcdbikfnlggbnaaGreatDoor
namespace Go.Proofs.YtcdbikfnlggbnaaGreatDoor
open Go.Vc

def GProg.at' (p : GProg) (k : Nat) : GNode := p.nodes.getD k .tick
/-- Register r is alive behind node k. -/
inductive Alive (p : GProg) : Nat → Nat → Prop
  | use {k to r : Nat} : (to : Int) ∈ (p.at' k).nx k → (r : Int) ∈ (p.at' to).us → Alive p k r
  | pass {k to r : Nat} : (to : Int) ∈ (p.at' k).nx k → (r : Int) ≠ (p.at' to).df → Alive p to r → Alive p k r
/-- ... ahead of it. -/
def AheadP (p : GProg) (m : Nat → Nat → Prop) (to r : Nat) : Prop := (r : Int) ∈ (p.at' to).us ∨ ((r : Int) ≠ (p.at' to).df ∧ m to r)
abbrev Mx := Nat → Nat → Bool
def updM (m : Mx) (k r : Nat) (b : Bool) : Mx := fun k' r' => if k' = k ∧ r' = r then b else m k' r'
theorem updM_same (m : Mx) (k r : Nat) : updM m k r (m k r) = m := by
  funext k' r'
  unfold updM
  split
  · rename_i h; rw [h.1, h.2]
  · rfl
def rowL (m : Mx) (k R : Nat) : List Bool := (List.range R).map (m k)
theorem rowL_len (m : Mx) (k R : Nat) : (rowL m k R).length = R := by simp [rowL]
theorem rowL_get {m : Mx} {k R r : Nat} (h : r < R) : (rowL m k R)[r]? = some (m k r) := by simp [rowL, h]
theorem rowL_upd (m : Mx) (k r R : Nat) (b : Bool) : rowL (updM m k r b) k R = (rowL m k R).set r b := by
  apply List.ext_getElem?
  intro j
  by_cases hj : j < R
  · rw [rowL_get hj, List.getElem?_set]
    by_cases hr : r = j
    · subst hr; simp [updM, rowL, hj]
    · have : ¬ j = r := fun h => hr h.symm
      simp [updM, this, hr, rowL_get hj]
  · simp [rowL, hj]
theorem rowL_other {m : Mx} {k k' r R : Nat} {b : Bool} (h : k' ≠ k) : rowL (updM m k r b) k' R = rowL m k' R := by
  unfold rowL
  apply List.map_congr_left
  intro j _
  simp [updM, h]

/-- How many are not set. -/
def cntR (f : Nat → Bool) : Nat → Nat
  | 0 => 0
  | n + 1 => cntR f n + if f n then 0 else 1
def cntM (m : Mx) (R : Nat) : Nat → Nat
  | 0 => 0
  | n + 1 => cntM m R n + cntR (m n) R
theorem cntR_le {f g : Nat → Bool} (h : ∀ j, f j = true → g j = true) : ∀ n, cntR g n ≤ cntR f n
  | 0 => Nat.le_refl _
  | n + 1 => by
    have := cntR_le h n
    unfold cntR
    have hj := h n
    cases hf : f n <;> cases hg : g n <;> simp [hf, hg] at hj ⊢ <;> omega
theorem cntR_lt {f g : Nat → Bool} (h : ∀ j, f j = true → g j = true) {i : Nat} (hf : f i = false) (hg : g i = true) : ∀ n, i < n → cntR g n < cntR f n
  | 0, hi => by omega
  | n + 1, hi => by
    unfold cntR
    by_cases he : i = n
    · subst he
      have := cntR_le h i
      simp [hf, hg]; omega
    · have := cntR_lt h hf hg n (by omega)
      have hj := h n
      cases h1 : f n <;> cases h2 : g n <;> simp [h1, h2] at hj ⊢ <;> omega
theorem cntM_le {m m' : Mx} (h : ∀ k r, m k r = true → m' k r = true) (R : Nat) : ∀ n, cntM m' R n ≤ cntM m R n
  | 0 => Nat.le_refl _
  | n + 1 => by
    have h1 := cntM_le h R n
    have h2 := cntR_le (h n) R
    unfold cntM
    omega
theorem cntM_lt {m m' : Mx} (h : ∀ k r, m k r = true → m' k r = true) {R k r : Nat} (hr : r < R) (hf : m k r = false) (hg : m' k r = true) : ∀ n, k < n → cntM m' R n < cntM m R n
  | 0, hi => by omega
  | n + 1, hi => by
    unfold cntM
    have h2 := cntR_le (h n) R
    by_cases he : k = n
    · subst he
      have h1 := cntM_le h R k
      have := cntR_lt (h k) hf hg R hr
      omega
    · have := cntM_lt h hr hf hg n (by omega)
      omega

/-- aheadL, bit by bit. -/
theorem foldSet_get (l : List Int) : ∀ (bs : List Bool) (r : Nat), r < bs.length → (∀ x ∈ l, 0 ≤ x) → (l.foldl (fun a r => a.set r.toNat true) bs)[r]? = some (decide ((r : Int) ∈ l) || bs.getD r false) := by
  induction l with
  | nil => intro bs r h _; simp [h]
  | cons x l ih =>
    intro bs r h h0
    rw [List.foldl_cons, ih (bs.set x.toNat true) r (by simpa using h) (fun y hy => h0 y (by simp [hy]))]
    have hx := h0 x (by simp)
    by_cases hr : x.toNat = r
    · have : (r : Int) = x := by omega
      simp [hr, this, h]
    · have : ¬ (r : Int) = x := by omega
      simp [List.getD_eq_getElem?_getD, List.getElem?_set, hr, this]
theorem aheadL_get {n : GNode} {bs : List Bool} {r : Nat} (h : r < bs.length) (h0 : ∀ x ∈ n.us, 0 ≤ x) :
    (aheadL n bs)[r]? = some (decide ((r : Int) ∈ n.us) || (decide ((r : Int) ≠ n.df) && bs.getD r false)) := by
  unfold aheadL
  rw [foldSet_get _ _ _ (by rw [killL_len]; exact h) h0]
  congr 2
  unfold killL
  split
  · rename_i hd
    by_cases hr : n.df.toNat = r
    · have : (r : Int) = n.df := by omega
      simp [hr, this, h]
    · have : ¬ (r : Int) = n.df := by omega
      simp [List.getD_eq_getElem?_getD, List.getElem?_set, hr, this]
  · rename_i hd
    have : ¬ (r : Int) = n.df := by omega
    simp [this]
end Go.Proofs.YtcdbikfnlggbnaaGreatDoor
namespace Go.Proofs.YtcdbikfnlggbnaaGreatDoor
open Go.Vc

def sl (R g : Nat) : Value := .slice (some ⟨g, 0, none⟩) R R
/-- The state of Behind: the box of the program, the rows, their matrix. -/
structure St (w0 w : World) (b : Nat) (cs : List Value) (g0 : Nat) (gs : List Nat) (R : Nat) (m : Mx) : Prop where
  x : Ext w0 w
  box : Boxed w b cs
  lo : w0.heap.size ≤ g0
  bg : b < g0
  gg : ∀ g ∈ gs, g0 < g
  nd : gs.Nodup
  out : Blk w g0 (gs.map (sl R)) 78
  rows : ∀ (k g : Nat), gs[k]? = some g → Blk w g ((rowL m k R).map Value.bool) 4
theorem St.ext {w0 w w' : World} {b g0 R : Nat} {cs : List Value} {gs : List Nat} {m : Mx} (h : St w0 w b cs g0 gs R m) (hx : Ext w w') : St w0 w' b cs g0 gs R m :=
  ⟨h.x.trans hx, h.box.ext hx, h.lo, h.bg, h.gg, h.nd, h.out.ext hx, fun k g hk => (h.rows k g hk).ext hx⟩
theorem nd_inj {gs : List Nat} (h : gs.Nodup) {i j g : Nat} (hi : gs[i]? = some g) (hj : gs[j]? = some g) : i = j := by
  obtain ⟨hi', hi2⟩ := List.getElem?_eq_some_iff.1 hi
  obtain ⟨hj', hj2⟩ := List.getElem?_eq_some_iff.1 hj
  have hp := List.pairwise_iff_getElem.1 h
  rcases Nat.lt_trichotomy i j with hlt | he | hgt
  · exact absurd (hi2.trans hj2.symm) (hp i j hi' hj' hlt)
  · exact he
  · exact absurd (hj2.trans hi2.symm) (hp j i hj' hi' hgt)
theorem St.set {w0 w : World} {b g0 R : Nat} {cs : List Value} {gs : List Nat} {m : Mx} (h : St w0 w b cs g0 gs R m) {k g : Nat} (hk : gs[k]? = some g) (r : Nat) (v : Bool) :
    St w0 (w.setCell ⟨g, r, none⟩ (.bool v)) b cs g0 gs R (updM m k r v) := by
  have hgm := List.mem_of_getElem? hk
  have hg := h.gg g hgm
  refine ⟨h.x.setCell (by have := h.lo; omega) _, h.box.other (by have := h.bg; omega), h.lo, h.bg, h.gg, h.nd, h.out.other (by omega), fun k' g' hk' => ?_⟩
  by_cases he : k' = k
  · subst he
    rw [hk] at hk'
    cases hk'
    rw [rowL_upd, ← map_set_b]
    exact (h.rows _ _ hk).set r _
  · rw [rowL_other he]
    exact (h.rows k' g' hk').other fun hgg => he (nd_inj h.nd hk' (hgg ▸ hk))
/-- The matrix as the world holds it. -/
def readM (gs : List Nat) (w : World) : Mx := fun k r =>
  match gs[k]? with
  | some g => (match w.cell? ⟨g, r, none⟩ with | some (.bool b) => b | _ => false)
  | none => false
theorem St.read {w0 w : World} {b g0 R : Nat} {cs : List Value} {gs : List Nat} {m : Mx} (h : St w0 w b cs g0 gs R m) {k r : Nat} (hk : k < gs.length) (hr : r < R) : readM gs w k r = m k r := by
  obtain ⟨g, hg⟩ := ex_get hk
  unfold readM
  rw [hg]
  have := (h.rows k g hg).cell r
  rw [List.getElem?_map, rowL_get hr] at this
  simp [this]
theorem cntR_congr {f g : Nat → Bool} : ∀ n, (∀ j, j < n → f j = g j) → cntR f n = cntR g n
  | 0, _ => rfl
  | n + 1, h => by unfold cntR; rw [cntR_congr n fun j hj => h j (by omega), h n (by omega)]
theorem cntM_congr {m m' : Mx} {R : Nat} : ∀ n, (∀ k r, k < n → r < R → m k r = m' k r) → cntM m R n = cntM m' R n
  | 0, _ => rfl
  | n + 1, h => by unfold cntM; rw [cntM_congr n fun k r hk hr => h k r (by omega) hr, cntR_congr R fun r hr => h n r (by omega) hr]
theorem St.cnt {w0 w : World} {b g0 R : Nat} {cs : List Value} {gs : List Nat} {m : Mx} (h : St w0 w b cs g0 gs R m) : cntM (readM gs w) R gs.length = cntM m R gs.length :=
  cntM_congr _ fun _ _ hk hr => h.read hk hr

/-- All that is ahead of what comes next is in the row. -/
def Done (p : GProg) (R : Nat) (m : Mx) (k : Nat) : Prop := ∀ to : Nat, (to : Int) ∈ (p.at' k).nx k → ∀ r < R, AheadP p (fun a b => m a b = true) to r → m k r = true
def Snd (p : GProg) (m : Mx) : Prop := ∀ k r, m k r = true → Alive p k r
/-- A sweep so far: what has grown. -/
structure Swp (p : GProg) (N R : Nat) (m0 m : Mx) (f : Bool) : Prop where
  le : ∀ k r, m0 k r = true → m k r = true
  snd : Snd p m
  no : f = false → m = m0
  yes : f = true → ∃ k r, k < N ∧ r < R ∧ m0 k r = false ∧ m k r = true
theorem Swp.step {p : GProg} {N R : Nat} {m0 m : Mx} {f : Bool} (h : Swp p N R m0 m f) {k r : Nat} (hk : k < N) (hr : r < R) (a : Bool) (ha : a = true → Alive p k r) :
    Swp p N R m0 (updM m k r (m k r || a)) (f || (a && !m k r)) := by
  have hle : ∀ k' r', m k' r' = true → updM m k r (m k r || a) k' r' = true := by
    intro k' r' h'
    unfold updM
    split
    · rename_i he; rw [he.1, he.2] at h'; simp [h']
    · exact h'
  refine ⟨fun k' r' h' => hle _ _ (h.le _ _ h'), ?_, ?_, ?_⟩
  · intro k' r' h'
    unfold updM at h'
    split at h'
    · rename_i he
      rw [he.1, he.2]
      rcases Bool.or_eq_true_iff.1 h' with h1 | h1
      · exact h.snd _ _ h1
      · exact ha h1
    · exact h.snd _ _ h'
  · intro hf
    have hf' := Bool.or_eq_false_iff.1 hf
    have : (m k r || a) = m k r := by
      have := hf'.2
      cases hm : m k r <;> cases a <;> simp_all
    rw [this, updM_same]
    exact h.no hf'.1
  · intro hf
    rcases Bool.or_eq_true_iff.1 hf with h1 | h1
    · obtain ⟨k', r', h2, h3, h4, h5⟩ := h.yes h1
      exact ⟨k', r', h2, h3, h4, hle _ _ h5⟩
    · have h2 : a = true ∧ m k r = false := by simpa using h1
      refine ⟨k, r, hk, hr, ?_, by simp [updM, h2.1]⟩
      cases h0 : m0 k r with
      | false => rfl
      | true => have := h.le _ _ h0; rw [h2.2] at this; cases this
/-- What is closed under the way back is all that is alive. -/
theorem alive_of_done {p : GProg} {N R : Nat} {m : Mx} (hN : N = p.nodes.length) (hv : ∀ (i : Nat) n, p.nodes[i]? = some n → RightN n i R N) (h : ∀ k < N, Done p R m k) : ∀ {k r : Nat}, Alive p k r → k < N → r < R → m k r = true := by
  intro k r ha
  have hat : ∀ k < N, p.nodes[k]? = some (p.at' k) := fun k hk => by
    unfold GProg.at'
    rw [List.getD_eq_getElem?_getD]
    obtain ⟨n, hn⟩ := ex_get (l := p.nodes) (j := k) (by omega)
    simp [hn]
  induction ha with
  | use h1 h2 => intro hk hr; exact h _ hk _ h1 _ hr (.inl h2)
  | @pass k to r h1 h2 h3 ih =>
    intro hk hr
    have hto : to < N := by have := (hv _ _ (hat _ hk)).t _ h1; omega
    exact h _ hk _ h1 _ hr (.inr ⟨h2, ih hto hr⟩)
end Go.Proofs.YtcdbikfnlggbnaaGreatDoor
namespace Go.Proofs.YtcdbikfnlggbnaaGreatDoor
open Go.Vc

theorem rowL_false (k R : Nat) : (rowL (fun _ _ => false) k R).map Value.bool = List.replicate R (.bool false) := by
  apply List.ext_getElem?
  intro j
  by_cases hj : j < R
  · simp [rowL_get hj, hj]
  · simp [rowL, hj]
theorem OkProg.at {p : GProg} (hv : OkProg p) {k : Nat} (hk : k < p.nodes.length) : p.nodes[k]? = some (p.at' k) ∧ RightN (p.at' k) k p.regs p.nodes.length := by
  obtain ⟨n, hn⟩ := ex_get hk
  have : p.at' k = n := by unfold GProg.at'; rw [List.getD_eq_getElem?_getD, hn]; rfl
  rw [this]
  exact ⟨hn, hv.nodes k n hn⟩

set_option maxHeartbeats 1600000 in
/-- One sweep's innermost loop. -/
theorem sweep5 {p : GProg} {N R : Nat} {w0 : World} {b g0 : Nat} {cs : List Value} {gs : List Nat} {m0 : Mx} (hN : gs.length = N) (hN2 : N ≤ 250) (hR1 : R ≤ 40)
    {k g : Nat} (hkN : k < N) (hg : gs[k]? = some g) {av : Value} {A : List Bool} {B : Nat} (hA : A.length = R) (hgB : ∀ g ∈ gs, g < B)
    (hal : ∀ r, A[r]? = some true → Alive p k r) {Q : Value → World → Prop} {w : World} {f : Bool} {m : Mx} (hst : St w0 w b cs g0 gs R m) (hsw : Swp p N R m0 m f)
    (ha : w.ownsRow B 4 1 av R (A.map Value.bool))
    (hQ : ∀ (f' : Bool) (m' : Mx) w', St w0 w' b cs g0 gs R m' → Swp p N R m0 m' f' → (f = true → f' = true) → (f' = false → ∀ r, A[r]? = some true → m0 k r = true) → Ext w0 w' → (∀ B' e size n v xs, w.ownsRow B' e size n v xs → (∀ g ∈ gs, g < B') → w'.ownsRow B' e size n v xs) → Q (.bool f') w') :
    ∃ (I5 : NP 2) (μ5 : NF 2), I5 (.bool f) (Value.int IntKind.i64 0) w ∧
      ∀ (t5_3 : Value) (t62 : Value), ∀ w37 : World, I5 t5_3 t62 w37 → ∀ _f : Env,
      V Tryz.prog (binOp .lss 3 t62 (i64 R)) w37 fun t63 w38 =>
      ifD t63 (
      V Tryz.prog (Instr.indexAt 78 av t62) w38 fun t65 w39 =>
      V Tryz.prog (Instr.loadAt 4 t65) w39 fun t66 w40 =>
      gd t5_3 false (fun K => K t66 w40) w40 fun t69 w41 =>
      gd t5_3 false (fun K => K t69 w41) w41 fun t70 w42 =>
      gd t70 true (fun K => K (.slice (some ⟨g0, 0, none⟩) N N) w42) w42 fun t71 w43 =>
      gd t70 true (fun K => K (i64 k) w43) w43 fun t72 w44 =>
      gd t70 true (fun K => V Tryz.prog (Instr.indexAt 98 t71 t72) w44 K) w44 fun t73 w45 =>
      gd t70 true (fun K => V Tryz.prog (Instr.loadAt 78 t73) w45 K) w45 fun t74 w46 =>
      gd t70 true (fun K => K t62 w46) w46 fun t75 w47 =>
      gd t70 true (fun K => V Tryz.prog (Instr.indexAt 78 t74 t75) w47 K) w47 fun t76 w48 =>
      gd t70 true (fun K => V Tryz.prog (Instr.loadAt 4 t76) w48 K) w48 fun t77 w49 =>
      gd t70 true (fun K => V Tryz.prog (Op.unary UnOp.not t77) w49 K) w49 fun t78 w50 =>
      gd t5_3 false (fun K => pickD t70 t78 (Value.bool false) fun v => K v w50) w50 fun t79 w51 =>
      pickD t5_3 (Value.bool true) t79 fun t80 =>
      drawD w51 fun S22 w53 =>
      yieldS Tryz.prog S22 (Instr.indexAt 98 (.slice (some ⟨g0, 0, none⟩) N N) (i64 k)) fun t83 =>
      yieldS Tryz.prog S22 (Instr.loadAt 78 t83) fun t84 =>
      yieldS Tryz.prog S22 (Instr.indexAt 98 (.slice (some ⟨g0, 0, none⟩) N N) (i64 k)) fun t88 =>
      yieldS Tryz.prog S22 (Instr.loadAt 78 t88) fun t89 =>
      yieldS Tryz.prog S22 (Instr.indexAt 78 t89 t62) fun t91 =>
      yieldS Tryz.prog S22 (Instr.loadAt 4 t91) fun t92 =>
      gdY t92 false (fun K => K t66) fun t94 =>
      pickD t92 (Value.bool true) t94 fun t95 =>
      yieldS Tryz.prog S22 (Instr.indexAt 78 t84 t62) fun t96 =>
      U Tryz.prog (Instr.storeAt 4 t96 t95) w53 fun _ w54 =>
      V Tryz.prog (binOp .add 3 t62 (Value.int IntKind.i64 1)) w54 fun t97 w55 =>
      I5 t80 t97 w55 ∧ μ5 t80 t97 w55 < μ5 t5_3 t62 w37) (
      Q t5_3 w38) := by
  have hgm := List.mem_of_getElem? hg
  refine ⟨fun v1 v2 w' => ∃ (f' : Bool) (r : Nat) (m' : Mx), v1 = .bool f' ∧ v2 = i64 r ∧ r ≤ R ∧ St w0 w' b cs g0 gs R m' ∧ Swp p N R m0 m' f' ∧ (f = true → f' = true) ∧ (f' = false → ∀ j, j < r → A[j]? = some true → m0 k j = true) ∧
      w'.ownsRow B 4 1 av R (A.map Value.bool) ∧ (∀ B' e size n v xs, w.ownsRow B' e size n v xs → (∀ g ∈ gs, g < B') → w'.ownsRow B' e size n v xs), fun _ v2 _ => R - (RowKit.intOf v2).toNat,
    ⟨f, 0, m, rfl, rfl, Nat.zero_le _, hst, hsw, id, fun _ j hj => by omega, ha, fun _ _ _ _ _ _ h _ => h⟩, ?_⟩
  rintro _ _ w1 ⟨f', r, m', rfl, rfl, hr, hst', hsw', hff, hcl, ha', hkeep⟩ _
  refine V_lss.2 (ifD_dec (fun hlt => ?_) fun hge => ?_)
  · have hr' : r < R := by omega
    obtain ⟨a, haa⟩ := ex_get (l := A) (j := r) (by omega)
    refine ldO' xa_78 l1_4 ha' (by omega) (by omega) (getB haa) ?_
    have hrow := hst'.rows k g hg
    have hslO : SliceIs w1 (.slice (some ⟨g0, 0, none⟩) N N) 1 N (gs.map (sl R)) := hst'.out.slice (by simpa using hN) (by unfold maxLen; omega)
    have hslR : SliceIs w1 (sl R g) 1 R ((rowL m' k R).map Value.bool) := hrow.slice (by simp [rowL_len]) (by unfold maxLen; omega)
    have hgk : (gs.map (sl R))[((k : Nat) : Int).toNat]? = some (sl R g) := by simp [hg]
    have hmk : ((rowL m' k R).map Value.bool)[((r : Nat) : Int).toNat]? = some (.bool (m' k r)) := by simp [rowL_get hr']
    -- what the flag becomes
    have flag : ∀ {Z : Value → World → Prop}, Z (.bool (f' || (a && !m' k r))) w1 →
        (gd (.bool f') false (fun K => K (.bool a) w1) w1 fun t69 w41 =>
      gd (.bool f') false (fun K => K t69 w41) w41 fun t70 w42 =>
      gd t70 true (fun K => K (.slice (some ⟨g0, 0, none⟩) N N) w42) w42 fun t71 w43 =>
      gd t70 true (fun K => K (i64 k) w43) w43 fun t72 w44 =>
      gd t70 true (fun K => V Tryz.prog (Instr.indexAt 98 t71 t72) w44 K) w44 fun t73 w45 =>
      gd t70 true (fun K => V Tryz.prog (Instr.loadAt 78 t73) w45 K) w45 fun t74 w46 =>
      gd t70 true (fun K => K (i64 r) w46) w46 fun t75 w47 =>
      gd t70 true (fun K => V Tryz.prog (Instr.indexAt 78 t74 t75) w47 K) w47 fun t76 w48 =>
      gd t70 true (fun K => V Tryz.prog (Instr.loadAt 4 t76) w48 K) w48 fun t77 w49 =>
      gd t70 true (fun K => V Tryz.prog (Op.unary UnOp.not t77) w49 K) w49 fun t78 w50 =>
      gd (.bool f') false (fun K => pickD t70 t78 (Value.bool false) fun v => K v w50) w50 fun t79 w51 =>
      pickD (.bool f') (Value.bool true) t79 fun t80 => Z t80 w51) := by
      intro Z hZ
      cases f' with
      | true => simp only [gd_tf, gd_undef, pickD_iff, reduceIte]; simpa using hZ
      | false =>
        cases a with
        | false => simp only [gd_f, gd_ft, pickD_iff, Bool.false_eq_true, reduceIte]; simpa using hZ
        | true =>
          simp only [gd_f, gd_t]
          refine ldx xa_98 l1_78 hslO (by omega) (by omega) hgk ?_
          refine ldx xa_78 l1_4 hslR (by omega) (by omega) hmk ?_
          simp only [V_not, pickD_iff, Bool.false_eq_true, reduceIte]
          simpa using hZ
    refine flag ?_
    refine drawD.mk' (fun w' => w' = w1.drew) rfl ?_
    have hx : ∀ w', w' = w1.drew → Ext w1 w' := fun w' h => h ▸ (Ext.refl _).drew
    refine ySl xa_98 l1_78 hslO hx (by omega) (by omega) hgk ?_
    refine ySl xa_98 l1_78 hslO hx (by omega) (by omega) hgk ?_
    refine ySl xa_78 l1_4 hslR hx (by omega) (by omega) hmk ?_
    have val : ∀ {Z : Value → Prop}, Z (.bool (m' k r || a)) → gdY (.bool (m' k r)) false (fun K => K (.bool a)) fun t94 => pickD (.bool (m' k r)) (Value.bool true) t94 Z := by
      intro Z hZ
      cases hm : m' k r with
      | true => simp only [gdY_tf, pickD_iff, reduceIte]; simpa [hm] using hZ
      | false => simp only [gdY_f, pickD_iff, Bool.false_eq_true, reduceIte]; simpa [hm] using hZ
    refine val ?_
    refine yieldS.ok (fun w' _ => r_ix_78 (by omega) (by omega)) ?_
    refine U.ok (r_store inf4 rfl (u := .bool (m' k r)) ?_ ?_) ?_
    · have := hrow.cell r
      rw [List.getElem?_map, rowL_get hr'] at this
      simpa using this
    · exact hrow.frozen _
    · refine V_add.2 ?_
      rw [wrap_id (by omega) (by omega), i64_succ]
      have hset := (hst'.ext (Ext.refl _).drew).set hg r (m' k r || a)
      have hk' : ∀ {B' e size n v xs}, w1.ownsRow B' e size v n xs → (∀ g ∈ gs, g < B') → (w1.drew.setCell ⟨g, 0 + (r : Int).toNat * 1, none⟩ (.bool (m' k r || a))).ownsRow B' e size v n xs := by
        intro B' e size n v xs h hB
        have h' : w1.drew.ownsRow B' e size v n xs := h
        refine h'.kept (row := some g) ⟨rfl, rfl, rfl, by simp, fun i _ hi => heap_setCell_other _ _ _ _ (fun he => hi (by simp [he]))⟩ (own_ne h' fun x hx => ?_)
        cases hx
        exact hB g hgm
      refine ⟨⟨f' || (a && !m' k r), r + 1, updM m' k r (m' k r || a), rfl, rfl, by omega, by simpa using hset, hsw'.step hkN hr' a (fun h => hal r (by rw [haa, h])), fun h => by simp [hff h], ?_, hk' ha' hgB, fun B' e size n v xs h hB => hk' (hkeep B' e size n v xs h hB) hB⟩, by simp only [intOf_i64]; omega⟩
      intro hf j hj hAj
      have hf' := Bool.or_eq_false_iff.1 hf
      by_cases hjr : j = r
      · subst hjr
        rw [haa] at hAj
        cases hAj
        have : m' k j = true := by simpa using hf'.2
        rw [← hsw'.no hf'.1]
        exact this
      · exact hcl hf'.1 j (by omega) hAj
  · refine hQ f' m' w1 hst' hsw' hff (fun hf r' hr' => hcl hf r' ?_ hr') hst'.x hkeep
    have := (List.getElem?_eq_some_iff.1 hr').1
    omega
end Go.Proofs.YtcdbikfnlggbnaaGreatDoor
namespace Go.Proofs.YtcdbikfnlggbnaaGreatDoor
open Go.Vc

/-- The matrix of a [][]bool. -/
def MatIs (w : World) (v : Value) (N R : Nat) (m : Mx) : Prop := ∃ (g0 : Nat) (gs : List Nat), v = .slice (some ⟨g0, 0, none⟩) N N ∧ gs.length = N ∧ Blk w g0 (gs.map (sl R)) 78 ∧ ∀ (k g : Nat), gs[k]? = some g → Blk w g ((rowL m k R).map Value.bool) 4
theorem MatIs.ext {w w' : World} {v : Value} {N R : Nat} {m : Mx} (h : MatIs w v N R m) (hx : Ext w w') : MatIs w' v N R m := by
  obtain ⟨g0, gs, h1, h2, h3, h4⟩ := h
  exact ⟨g0, gs, h1, h2, h3.ext hx, fun k g hk => (h4 k g hk).ext hx⟩

theorem set_rows (R g : Nat) (gs : List Nat) (n : Nat) (h : gs.length < n) :
    ((gs.map (sl R)) ++ List.replicate (n - gs.length) (Value.slice none 0 0)).set gs.length (sl R g) = (gs ++ [g]).map (sl R) ++ List.replicate (n - (gs ++ [g]).length) (Value.slice none 0 0) := by
  obtain ⟨k, hk⟩ : ∃ k, n - gs.length = k + 1 := ⟨n - gs.length - 1, by omega⟩
  have hk2 : n - (gs ++ [g]).length = k := by simp; omega
  rw [hk, hk2, List.set_append_right _ _ (by simp)]
  simp [List.replicate_succ]

/-- A matrix all of whose blocks are new. -/
def MatIn (w0 w : World) (v : Value) (N R : Nat) (m : Mx) : Prop := ∃ (g0 : Nat) (gs : List Nat), v = .slice (some ⟨g0, 0, none⟩) N N ∧ gs.length = N ∧ Blk w g0 (gs.map (sl R)) 78 ∧ (∀ (k g : Nat), gs[k]? = some g → Blk w g ((rowL m k R).map Value.bool) 4) ∧ w0.heap.size ≤ g0 ∧ ∀ g ∈ gs, w0.heap.size ≤ g
theorem MatIn.is {w0 w : World} {v : Value} {N R : Nat} {m : Mx} (h : MatIn w0 w v N R m) : MatIs w v N R m := by
  obtain ⟨g0, gs, h1, h2, h3, h4, _⟩ := h
  exact ⟨g0, gs, h1, h2, h3, h4⟩
set_option maxHeartbeats 1600000 in
theorem behindO_ok {p : GProg} {R : Nat} {pv : Value} {w : World} (hp : ProgIs w pv p) (hv : OkProg p) (hR : p.regs = R) :
    callD Tryz.prog 39 #[pv] w fun r w' => (∃ m, MatIn w w' r p.nodes.length R m ∧ ∀ k r, k < p.nodes.length → r < R → (m k r = true ↔ Alive p k r)) ∧ Ext w w' := by
  have hp0 := hp
  obtain ⟨ns, rfl, hns, hargs⟩ := hp
  have hns0 := hns
  obtain ⟨vs, hs, hvs⟩ := hns
  have hl1 := hv.l1; have hl2 := hv.l2; have hr1 := hv.r1; have hr2 := hv.r2
  have hat := fun {k : Nat} (hk : k < p.nodes.length) => hv.at hk
  generalize hN : p.nodes.length = N at *
  apply F39_wp
  unfold F39_den
  refine bx fun b w1 hb x1 => ?_
  refine ldA hb la_38 rfl ?_
  refine (check_ok (p := p) (hp0.ext x1) hv).mono fun r w2 ⟨hr, x2⟩ => ?_
  subst hr
  refine V_not.2 (ifD_false.2 ?_)
  have hb2 := hb.ext x2
  have X2 := x1.trans x2
  refine ldB hb2 fa_38_2 l1_36 rfl (lnx xa_36 (hs.ext X2) ?_)
  refine mkB Tryz.underlying98 inf78 rfl (n := N) (by omega) (by omega) fun w3 ho x3 hsz3 => ?_
  refine V_ln_98.2 ?_
  have hbB : b < w2.heap.size := by
    have := hb2 0 (i64 p.params) rfl
    exact World.block_lt_of_cell? _ _ this
  have hlo : w.heap.size ≤ w2.heap.size := X2.size
  generalize w2.heap.size = g0 at *
  have X3 := X2.trans x3
  -- the rows are made
  refine ⟨fun v w' => ∃ gs : List Nat, v = i64 gs.length ∧ gs.length ≤ N ∧ Ext w w' ∧ Boxed w' b [i64 p.params, i64 p.regs, ns] ∧ (∀ g ∈ gs, g0 < g) ∧ gs.Nodup ∧ (∀ g ∈ gs, g < w'.heap.size) ∧
      Blk w' g0 (gs.map (sl R) ++ List.replicate (N - gs.length) (.slice none 0 0)) 78 ∧ ∀ g ∈ gs, Blk w' g (List.replicate R (.bool false)) 4,
    fun v _ => N - (RowKit.intOf v).toNat, ⟨[], rfl, Nat.zero_le _, X3, hb2.ext x3, by simp, List.nodup_nil, by simp, by simpa using ho, by simp⟩, ?_⟩
  rintro _ w4 ⟨gs, rfl, hle, x4, hb4, hgg, hnd, hlt4, ho4, hrows4⟩ _
  refine V_lss.2 (ifD_dec (fun hlt => ?_) fun hge => ?_)
  · refine ldB hb4 fa_38_1 l1_3 rfl ?_
    refine mkBv hR Tryz.underlying78 inf4 rfl (n := R) (by omega) (by omega) fun w5 hrow x5 hsz5 => ?_
    refine stB xa_98 inf78 (ho4.ext x5) (by simp; omega) (by omega) (by omega) rfl ?_
    refine V_add.2 ?_
    rw [wrap_id (by omega) (by omega), i64_succ]
    simp only [Int.toNat_natCast]
    have hset := (ho4.ext x5).set gs.length (sl R w4.heap.size)
    rw [set_rows R _ gs N (by omega)] at hset
    have hg0 := ho4.lt
    refine ⟨⟨gs ++ [w4.heap.size], by simp, by simp; omega, (x4.trans x5).setCell hlo _, Boxed.other (g := g0) (hb4.ext x5) (by omega), ?_, ?_, ?_, hset, ?_⟩, by simp only [intOf_i64]; omega⟩
    · intro g hg
      rcases List.mem_append.1 hg with h | h
      · exact hgg g h
      · have : g = w4.heap.size := by simpa using h
        omega
    · refine List.nodup_append.2 ⟨hnd, by simp, ?_⟩
      intro a ha c hc
      have : c = w4.heap.size := by simpa using hc
      have := hlt4 a ha
      omega
    · intro g hg
      simp only [World.size_setCell]
      rcases List.mem_append.1 hg with h | h
      · have := hlt4 g h; omega
      · have : g = w4.heap.size := by simpa using h
        omega
    · intro g hg
      rcases List.mem_append.1 hg with h | h
      · exact ((hrows4 g h).ext x5).other (by have := hgg g h; omega)
      · have he : g = w4.heap.size := by simpa using h
        subst he
        exact hrow.other (by omega)
  have hgl : gs.length = N := by omega
  rw [hgl, Nat.sub_self] at ho4
  simp only [List.replicate_zero, List.append_nil] at ho4
  have hst0 : St w w4 b [i64 p.params, i64 p.regs, ns] g0 gs R (fun _ _ => false) :=
    ⟨x4, hb4, hlo, hbB, hgg, hnd, ho4, fun k g hk => by rw [rowL_false]; exact hrows4 g (List.mem_of_getElem? hk)⟩
  clear hrows4 ho4 hlt4 hle hge hb4 x4
  have hslO : ∀ {w' m}, St w w' b [i64 p.params, i64 p.regs, ns] g0 gs R m → SliceIs w' (.slice (some ⟨g0, 0, none⟩) N N) 1 N (gs.map (sl R)) := fun h => h.out.slice (by simpa using hgl) (by unfold maxLen; omega)
  have hslR : ∀ {w' m k g}, St w w' b [i64 p.params, i64 p.regs, ns] g0 gs R m → gs[k]? = some g → SliceIs w' (sl R g) 1 R ((rowL m k R).map Value.bool) := fun h hk => (h.rows _ _ hk).slice (by simp [rowL_len]) (by unfold maxLen; omega)
  have hglt : ∀ {w' m}, St w w' b [i64 p.params, i64 p.regs, ns] g0 gs R m → ∀ g ∈ gs, g < w'.heap.size := fun h g hg => by
    obtain ⟨k, hk⟩ := List.getElem?_of_mem hg
    exact (h.rows k g hk).lt
  -- round after round
  refine ⟨fun v w' => ∃ (f : Bool) (m : Mx), v = .bool f ∧ St w w' b [i64 p.params, i64 p.regs, ns] g0 gs R m ∧ Snd p m ∧ (f = false → ∀ k < N, Done p R m k),
    fun v w' => 2 * cntM (readM gs w') R gs.length + (match v with | .bool true => 1 | _ => 0), ⟨true, _, rfl, hst0, (fun _ _ h => by cases h), (fun h => by cases h)⟩, ?_⟩
  rintro _ w5 ⟨f0, m0, rfl, hst, hsnd, hcl⟩ _
  refine ifD.mk (fun hf => ?_) fun hf => ?_
  rotate_left
  · refine ⟨⟨m0, ⟨g0, gs, rfl, hgl, hst.out, hst.rows, hst.lo, fun g hg => Nat.le_of_lt (Nat.lt_of_le_of_lt hst.lo (hst.gg g hg))⟩, fun k r hk hr => ⟨hsnd k r, fun h => ?_⟩⟩, hst.x⟩
    exact alive_of_done hN.symm (fun i n hn => hR ▸ hN ▸ hv.nodes i n hn) (hcl hf) h hk hr
  subst hf
  refine ldB hst.box fa_38_2 l1_36 rfl (lnx xa_36 (hs.ext hst.x) (V_sub.2 ?_))
  rw [wrap_id (by omega) (by omega)]
  refine ⟨fun v1 v2 w' => ∃ (f : Bool) (kk : Int) (m : Mx), v1 = .bool f ∧ v2 = i64 kk ∧ -1 ≤ kk ∧ kk < N ∧ St w w' b [i64 p.params, i64 p.regs, ns] g0 gs R m ∧ Swp p N R m0 m f ∧ (f = false → ∀ k : Nat, kk < k → k < N → Done p R m0 k),
    fun _ v2 _ => (RowKit.intOf v2 + 1).toNat, ⟨false, _, m0, rfl, rfl, by omega, by omega, hst, ⟨fun _ _ h => h, hsnd, fun _ => rfl, (fun h => by cases h)⟩, fun _ k h1 h2 => by omega⟩, ?_⟩
  rintro _ _ w6 ⟨f, kk, m, rfl, rfl, hk1, hk2, hst6, hsw6, hcl6⟩ _
  refine V_geq.2 (ifD_dec (fun hge => ?_) fun hlt => ?_)
  rotate_left
  · -- the sweep is over
    have hkk : kk = -1 := by have : ¬ 0 ≤ kk := hlt; omega
    refine ⟨⟨f, m, rfl, hst6, hsw6.snd, fun hf k hk => ?_⟩, ?_⟩
    · rw [hsw6.no hf]; exact hcl6 hf k (by omega) hk
    · show 2 * cntM (readM gs w6) R gs.length + _ < 2 * cntM (readM gs w5) R gs.length + 1
      rw [hst6.cnt, hst.cnt]
      cases f with
      | false =>
        have := cntM_le hsw6.le R gs.length
        show 2 * _ + 0 < _
        omega
      | true =>
        obtain ⟨k, r, h1, h2, h3, h4⟩ := hsw6.yes rfl
        have := cntM_lt hsw6.le h2 h3 h4 gs.length (by omega)
        show 2 * _ + 1 < _
        omega
  have hge' : 0 ≤ kk := hge
  obtain ⟨k, rfl⟩ := Int.eq_ofNat_of_zero_le hge'
  have hk : k < N := by omega
  obtain ⟨g, hg⟩ := ex_get (l := gs) (j := k) (by omega)
  obtain ⟨hpk, hrk⟩ := hat hk
  obtain ⟨u, hu, hnu⟩ := hvs k _ hpk
  refine ldB hst6.box fa_38_2 l1_36 rfl ?_
  refine ldx xa_36 l1_52 (hs.ext hst6.x) (by omega) (by omega) (by simpa using hu) ?_
  refine (next_ok (hnu.ext hst6.x) (by omega) (by omega)).mono fun tl w7 ⟨htl, x7⟩ => ?_
  refine lnx xa_23 (SliceIs.of_own htl) ?_
  have hst7 := hst6.ext x7
  have hlen := nx_len (p.at' k) k
  refine ⟨fun v1 v2 w' => ∃ (f' : Bool) (j : Nat) (m' : Mx), v1 = .bool f' ∧ v2 = i64 j ∧ j ≤ ((p.at' k).nx k).length ∧ St w w' b [i64 p.params, i64 p.regs, ns] g0 gs R m' ∧ Swp p N R m0 m' f' ∧ (f = true → f' = true) ∧
      (f' = false → ∀ (i : Nat) (to : Nat), i < j → ((p.at' k).nx k)[i]? = some (to : Int) → ∀ r < R, AheadP p (fun a b => m0 a b = true) to r → m0 k r = true) ∧ w'.ownsRow w6.heap.size 3 1 tl ((p.at' k).nx k).length (((p.at' k).nx k).map i64),
    fun _ v2 _ => ((p.at' k).nx k).length - (RowKit.intOf v2).toNat, ⟨f, 0, m, rfl, rfl, Nat.zero_le _, hst7, hsw6, id, fun _ i to hi => by omega, htl⟩, ?_⟩
  rintro _ _ w8 ⟨f', j, m', rfl, rfl, hj, hst8, hsw8, hff, hcl8, htl8⟩ _
  refine V_lss.2 (ifD_dec (fun hjlt => ?_) fun hjge => ?_)
  rotate_left
  · refine V_sub.2 ?_
    rw [wrap_id (by omega) (by omega)]
    refine ⟨⟨f', (k : Int) - 1, m', rfl, rfl, by omega, by omega, hst8, hsw8, fun hf k' hk' hkN => ?_⟩, by simp only [intOf_i64]; omega⟩
    by_cases he : k' = k
    · subst he
      intro to hto r hr ha
      obtain ⟨i, hi⟩ := List.getElem?_of_mem hto
      have hi' := (List.getElem?_eq_some_iff.1 hi).1
      exact hcl8 hf i to (by omega) hi r hr ha
    · have hf0 : f = false := by cases f with | false => rfl | true => rw [hff rfl] at hf; cases hf
      exact hcl6 hf0 k' (by omega) hkN
  obtain ⟨to, hto⟩ := ex_get (l := (p.at' k).nx k) (j := j) (by omega)
  have htor := hrk.t to (List.mem_of_getElem? hto)
  obtain ⟨to, rfl⟩ := Int.eq_ofNat_of_zero_le htor.1
  have htoN : to < N := by omega
  obtain ⟨hpt, hrt⟩ := hat htoN
  obtain ⟨ut, hut, hnut⟩ := hvs to _ hpt
  obtain ⟨gt, hgt⟩ := ex_get (l := gs) (j := to) (by omega)
  refine ldO' xa_23 l1_3 htl8 (by omega) (by omega) (getI hto) ?_
  refine drawD.mk' (fun w' => Ext w8 w') (Ext.refl _).drew ?_
  refine yfB (fun w' hw => hst8.box.ext hw) fa_38_2 l1_36 rfl ?_
  refine ySl xa_36 l1_52 (hs.ext hst8.x) (fun _ h => h) (by omega) (by omega) (by simpa using hut) ?_
  refine ySl xa_98 l1_78 (hslO hst8) (fun _ h => h) (by omega) (by omega) (by simp [hgt] : (gs.map (sl R))[((to : Nat) : Int).toNat]? = some (sl R gt)) ?_
  have hrl := rowL_len m' to R
  have hdf : (p.at' to).df < R := by rcases hrt.d with h | h <;> omega
  have hus : ∀ r ∈ (p.at' to).us, 0 ≤ r ∧ r < ((rowL m' to R).length : Int) := fun r hr => by have := hrt.u r hr; rw [hrl]; omega
  have hrow8 : BoolsAre w8.drew (sl R gt) (rowL m' to R) := by
    have := (hslR hst8 hgt).ext (Ext.refl _).drew
    unfold BoolsAre
    rw [hrl]; exact this
  refine (ahead_ok (hnut.ext (hst8.x.trans (Ext.refl _).drew)) hrow8 (hargs _ (List.mem_of_getElem? hpt)) (by omega) (by rw [hrl]; exact hdf) hus).mono fun av w9 ⟨hav, x9⟩ => ?_
  have x9' : Ext w8 w9 := Ext.trans (Ext.refl _).drew x9
  refine ⟨x9', ?_⟩
  rw [hrl] at hav
  refine yLen xa_78 (SliceIs.of_own hav) ?_
  have hst9 := hst8.ext x9'
  have hag : ∀ r, r < R → (aheadL (p.at' to) (rowL m' to R))[r]? = some (decide ((r : Int) ∈ (p.at' to).us) || (decide ((r : Int) ≠ (p.at' to).df) && m' to r)) := fun r hr => by
    rw [aheadL_get (by rw [hrl]; exact hr) (fun x hx => (hus x hx).1)]
    congr 3
    rw [List.getD_eq_getElem?_getD, rowL_get hr]; rfl
  have hagT : ∀ r, r < R → ((aheadL (p.at' to) (rowL m' to R))[r]? = some true ↔ AheadP p (fun a b => m' a b = true) to r) := fun r hr => by
    rw [hag r hr]
    simp [AheadP]
  refine sweep5 hgl hl2 (by omega) hk hg (A := aheadL (p.at' to) (rowL m' to R)) (by rw [aheadL_len, hrl]) (hglt hst8) (fun r hr => ?_) hst9 hsw8 hav ?_
  · have hrR : r < R := by have := (List.getElem?_eq_some_iff.1 hr).1; rw [aheadL_len, hrl] at this; exact this
    rw [hagT r hrR] at hr
    rcases hr with h | ⟨h1, h2⟩
    · exact .use (List.mem_of_getElem? hto) h
    · exact .pass (List.mem_of_getElem? hto) h1 (hsw8.snd _ _ h2)
  · intro f'' m'' w10 hst10 hsw10 hff10 hcl10 _ hkeep
    refine V_add.2 ?_
    rw [wrap_id (by omega) (by omega), i64_succ]
    refine ⟨⟨f'', j + 1, m'', rfl, rfl, by omega, hst10, hsw10, fun h => hff10 (hff h), fun hf i to' hi hto' r hr ha => ?_, hkeep _ _ _ _ _ _ (x9'.own htl8) (fun g hg => hglt hst6 g hg)⟩, by simp only [intOf_i64]; omega⟩
    by_cases hij : i = j
    · subst hij
      rw [hto] at hto'
      have : (to : Int) = to' := by simpa using hto'
      have : to = to' := by omega
      subst this
      have hf' : f' = false := by cases f' with | false => rfl | true => rw [hff10 rfl] at hf; cases hf
      refine hcl10 hf r ?_
      rw [hagT r hr, hsw8.no hf']
      exact ha
    · have hf' : f' = false := by cases f' with | false => rfl | true => rw [hff10 rfl] at hf; cases hf
      exact hcl8 hf' i to' (by omega) hto' r hr ha
theorem behind_ok {p : GProg} {R : Nat} {pv : Value} {w : World} (hp : ProgIs w pv p) (hv : OkProg p) (hR : p.regs = R) :
    callD Tryz.prog 39 #[pv] w fun r w' => (∃ m, MatIs w' r p.nodes.length R m ∧ ∀ k r, k < p.nodes.length → r < R → (m k r = true ↔ Alive p k r)) ∧ Ext w w' :=
  (behindO_ok hp hv hR).mono fun _ _ ⟨⟨m, h1, h2⟩, hx⟩ => ⟨⟨m, h1.is, h2⟩, hx⟩
end Go.Proofs.YtcdbikfnlggbnaaGreatDoor
namespace Go.Proofs.YtcdbikfnlggbnaaGreatDoor
open Go.Vc

theorem MatIs.row {w : World} {v : Value} {N R : Nat} {m : Mx} (h : MatIs w v N R m) (hN : N ≤ 250) (hR : R ≤ 40) : ∃ cs, SliceIs w v 1 N cs ∧ ∀ k, k < N → ∃ u, cs[k]? = some u ∧ BoolsAre w u (rowL m k R) := by
  obtain ⟨g0, gs, rfl, hl, h1, h2⟩ := h
  refine ⟨_, h1.slice (by simpa using hl) (by unfold maxLen; omega), fun k hk => ?_⟩
  obtain ⟨g, hg⟩ := ex_get (l := gs) (j := k) (by omega)
  refine ⟨sl R g, by simp [hg], ?_⟩
  have := (h2 k g hg).slice (n := R) (by simp [rowL_len]) (by unfold maxLen; omega)
  unfold BoolsAre
  rw [rowL_len]; exact this

set_option maxHeartbeats 1600000 in
theorem Ahead_ok {p : GProg} {R : Nat} {pv : Value} {w : World} (hp : ProgIs w pv p) (hv : OkProg p) (hR : p.regs = R) :
    callD Tryz.prog 42 #[pv] w fun r w' => (∃ l : List Bool, l.length = R ∧ BoolsAre w' r l ∧ ∀ r < R, (l[r]? = some true ↔ AheadP p (Alive p) 0 r)) ∧ Ext w w' := by
  have hp0 := hp
  obtain ⟨ns, rfl, hns, hargs⟩ := hp
  have hns0 := hns
  obtain ⟨vs, hs, hvs⟩ := hns
  have hl1 := hv.l1; have hl2 := hv.l2; have hr1 := hv.r1; have hr2 := hv.r2
  obtain ⟨hpt, hrt⟩ := hv.at (k := 0) (by omega)
  obtain ⟨u, hu, hnu⟩ := hvs 0 _ hpt
  apply F42_wp
  unfold F42_den
  refine bx fun b w1 hb x1 => ?_
  refine ldA hb la_38 rfl ?_
  refine (check_ok (p := p) (hp0.ext x1) hv).mono fun r w2 ⟨hr, x2⟩ => ?_
  subst hr
  refine V_not.2 (ifD_false.2 ?_)
  have hb2 := hb.ext x2
  have X2 := x1.trans x2
  refine drawD.mk' (fun w' => Ext w2 w') (Ext.refl _).drew ?_
  refine yfB (fun w' hw => hb2.ext hw) fa_38_2 l1_36 rfl ?_
  refine ySl xa_36 l1_52 (hs.ext X2) (fun _ h => h) (by omega) (by omega) (by simpa using hu) ?_
  refine yA (fun w' hw => hb2.ext hw) la_38 rfl ?_
  refine (behind_ok (hp0.ext (X2.trans (Ext.refl _).drew)) hv hR).mono fun mv w3 ⟨⟨m, hm, ham⟩, x3⟩ => ?_
  have x3' : Ext w2 w3 := Ext.trans (Ext.refl _).drew x3
  refine ⟨x3', fun w' => Ext w3 w', fun w' h => x3'.trans h, Ext.refl _, ?_⟩
  obtain ⟨cs, hcs, hrow⟩ := hm.row hl2 (by omega)
  obtain ⟨rv, hrv, hrb⟩ := hrow 0 (by omega)
  refine ySl xa_98 l1_78 hcs (fun _ h => h) (by omega) (by omega) (by simpa using hrv) ?_
  have hdf : (p.at' 0).df < R := by rcases hrt.d with h | h <;> omega
  have hus : ∀ r ∈ (p.at' 0).us, 0 ≤ r ∧ r < ((rowL m 0 R).length : Int) := fun r hr => by have := hrt.u r hr; rw [rowL_len]; omega
  refine (ahead_ok (hnu.ext (X2.trans x3')) hrb (hargs _ (List.mem_of_getElem? hpt)) (by rw [rowL_len]; omega) (by rw [rowL_len]; exact hdf) hus).mono fun av w4 ⟨hav, x4⟩ => ?_
  refine ⟨x4, fun w' => Ext w3 w', fun _ h => h, x4, ⟨⟨_, ?_, (by have := SliceIs.of_own hav; unfold BoolsAre; rw [aheadL_len]; exact this), fun r hr => ?_⟩, (X2.trans x3').trans x4⟩⟩
  · rw [aheadL_len, rowL_len]
  · rw [aheadL_get (by rw [rowL_len]; exact hr) (fun x hx => (hus x hx).1)]
    rw [List.getD_eq_getElem?_getD, rowL_get hr]
    simp only [Option.getD_some, Option.some.injEq, Bool.or_eq_true, Bool.and_eq_true, decide_eq_true_eq]
    unfold AheadP
    rw [ham 0 r (by omega) hr]

/-- A matrix is closed under the way back: by reckoning. -/
def doneB (p : GProg) (R : Nat) (m : Mx) : Bool :=
  (List.range p.nodes.length).all fun k => ((p.at' k).nx k).all fun to => (List.range R).all fun r => !((p.at' to.toNat).us.contains (r : Int) || (decide ((r : Int) ≠ (p.at' to.toNat).df) && m to.toNat r)) || m k r
theorem doneB_done {p : GProg} {R : Nat} {m : Mx} (h : doneB p R m = true) : ∀ k < p.nodes.length, Done p R m k := by
  intro k hk to hto r hr ha
  have := List.all_eq_true.1 (List.all_eq_true.1 (List.all_eq_true.1 h k (List.mem_range.2 hk)) to hto) r (List.mem_range.2 hr)
  simp only [Int.toNat_natCast, Bool.or_eq_true, Bool.not_eq_true', Bool.or_eq_false_iff, Bool.and_eq_false_iff] at this
  rcases this with ⟨h1, h2⟩ | h
  · rcases ha with h3 | ⟨h3, h4⟩
    · have : (p.at' to).us.contains (r : Int) = true := by simpa using h3
      rw [this] at h1; cases h1
    · rcases h2 with h2 | h2
      · simp [h3] at h2
      · rw [h2] at h4; cases h4
  · exact h
end Go.Proofs.YtcdbikfnlggbnaaGreatDoor
namespace Go.Proofs.YtcdbikfnlggbnaaGreatDoor
open Go.Vc

theorem not_alive {p : GProg} {R : Nat} (m : Mx) (hv : OkProg p) (hR : p.regs = R) (h : doneB p R m = true) {k r : Nat} (hk : k < p.nodes.length) (hr : r < R) (hm : m k r = false) : ¬ Alive p k r := fun ha => by
  have := alive_of_done rfl (fun i n hn => hR ▸ hv.nodes i n hn) (doneB_done h) ha hk hr
  rw [hm] at this; cases this
theorem nodesAre_lit {w : World} {v : Value} {l : List GNode} {vs : List Value} (h : SliceIs w v 1 vs.length vs) (hv : vs = l.map (GNode.val (.slice none 0 0))) (ha : ∀ n ∈ l, n.args = []) : NodesAre w v l := by
  subst hv
  refine ⟨_, by simpa using h, fun i n hn => ⟨n.val (.slice none 0 0), by simp [hn], _, rfl, ?_⟩⟩
  rw [ha n (List.mem_of_getElem? hn)]
  exact ⟨rfl, .inl ⟨rfl, rfl⟩⟩

def pKnown : GProg := ⟨0, 2, [.const 0 0, .ret 0]⟩
theorem okKnown : OkProg pKnown := by
  refine ⟨by decide, by decide, by decide, by decide, by decide, by decide, by decide, fun i n hn => ?_⟩
  match i, hn with
  | 0, hn => cases hn; exact ⟨trivial, by decide, by decide, by decide⟩
  | 1, hn => cases hn; exact ⟨trivial, by decide, by decide, by decide⟩

theorem mat_b {p : GProg} {m : Mx} {N R : Nat} (hN : p.nodes.length = N) (ham : ∀ k r, k < p.nodes.length → r < R → (m k r = true ↔ Alive p k r)) {k r : Nat} (hk : k < N) (hr : r < R) {b : Bool} (h : if b then Alive p k r else ¬ Alive p k r) :
    ((rowL m k R).map Value.bool)[((r : Nat) : Int).toNat]? = some (.bool b) := by
  have := ham k r (hN ▸ hk) hr
  have hb : m k r = b := by
    cases b with
    | true => exact this.2 (by simpa using h)
    | false => cases hm : m k r with
      | false => rfl
      | true => exact absurd (this.1 hm) (by simpa using h)
  simp [rowL_get hr, hb]

theorem a_known : Alive pKnown 0 0 ∧ ¬ Alive pKnown 0 1 ∧ ¬ Alive pKnown 1 0 :=
  ⟨.use (to := 1) (by decide) (by decide), not_alive (R := 2) (fun k r => k == 0 && r == 0) okKnown rfl (by decide) (by decide) (by decide) rfl, not_alive (R := 2) (fun k r => k == 0 && r == 0) okKnown rfl (by decide) (by decide) (by decide) rfl⟩

set_option maxHeartbeats 1600000 in
theorem known_ok {w : World} : callD Tryz.prog 21 #[] w fun r w' => r = .bool true ∧ Ext w w' := by
  apply F21_wp
  unfold F21_den
  refine bld bd_84 [(0, i64 0)] rfl rfl ?_
  refine mki mi_84 ?_
  refine bld bd_105 [(0, i64 0)] rfl rfl ?_
  refine mki mi_105 ?_
  refine bsl xe_36 [(GNode.const 0 0).val (.slice none 0 0), (GNode.ret 0).val (.slice none 0 0)] rfl rfl (by decide) rfl fun ns w1 ho x1 => ?_
  have hs := SliceIs.of_own ho
  obtain ⟨a, c, rfl⟩ := hs.shape
  refine bld bd_38 [(1, i64 2), (2, _)] rfl rfl ?_
  refine (behind_ok (p := pKnown) (R := 2) ⟨_, rfl, nodesAre_lit (l := pKnown.nodes) hs rfl (by decide), by decide⟩ okKnown rfl).mono fun r w2 ⟨⟨m, hm, ham⟩, x2⟩ => ?_
  obtain ⟨cs, hcs, hrow⟩ := hm.row (by decide) (by decide)
  obtain ⟨u0, hu0, hr0⟩ := hrow 0 (by decide)
  obtain ⟨u1, hu1, hr1⟩ := hrow 1 (by decide)
  have hat := fun {k r : Nat} (hk : k < 2) (hr : r < 2) {b : Bool} h => mat_b (p := pKnown) (N := 2) rfl ham hk hr (b := b) h
  refine lnx xa_98 hcs (V_eqlI.2 ?_)
  refine gRowLen xa_98 l1_78 xa_78 hcs (by decide) (by decide) hu0 hr0 (gd_t.2 (V_eqlI.2 ?_))
  rw [rowL_len]
  refine pickT ?_
  refine gRead xa_98 l1_78 xa_78 l1_4 hcs (by decide) (by decide) hu0 hr0 (by decide) (by rw [rowL_len]; decide) (hat (k := 0) (r := 0) (by decide) (by decide) (b := true) a_known.1) (pickT ?_)
  refine gRead xa_98 l1_78 xa_78 l1_4 hcs (by decide) (by decide) hu0 hr0 (by decide) (by rw [rowL_len]; decide) (hat (k := 0) (r := 1) (by decide) (by decide) (b := false) a_known.2.1) (gd_t.2 (V_not.2 (pickT ?_)))
  refine gRowLen xa_98 l1_78 xa_78 hcs (by decide) (by decide) hu1 hr1 (gd_t.2 (V_eqlI.2 ?_))
  rw [rowL_len]
  refine pickT ?_
  refine gRead xa_98 l1_78 xa_78 l1_4 hcs (by decide) (by decide) hu1 hr1 (by decide) (by rw [rowL_len]; decide) (hat (k := 1) (r := 0) (by decide) (by decide) (b := false) a_known.2.2) (gd_t.2 (V_not.2 (pickT ?_)))
  exact ⟨rfl, x1.trans x2⟩
end Go.Proofs.YtcdbikfnlggbnaaGreatDoor
namespace Go.Proofs.YtcdbikfnlggbnaaGreatDoor
open Go.Vc
def GNode.pk : GNode → Int
  | .const _ _ => 1 | .move _ _ => 2 | .bin _ _ _ _ => 3 | .un _ _ _ => 4 | .choose _ _ _ _ => 5 | .tick => 6 | .goto _ => 7 | .branch _ _ => 8
  | .getField _ _ => 9 | .putField _ _ => 10 | .serve _ _ _ _ _ => 11 | .call _ _ _ => 12 | .callX _ _ _ => 13 | .ret _ => 14
def GNode.pop : GNode → Int
  | .bin op _ _ _ | .un op _ _ | .serve op _ _ _ _ => op
  | _ => 0
def GNode.pN (m : Int) : GNode → Int
  | .const _ _ => m
  | .getField _ f | .putField f _ => f
  | .call k _ _ | .callX k _ _ => k
  | _ => 0
def GNode.pA : GNode → Int
  | .serve _ a _ _ _ => a
  | _ => 0
def GNode.pB : GNode → Int
  | .serve _ _ b _ _ => b
  | _ => 0
def GNode.pT : GNode → Int
  | .goto t | .branch _ t => t
  | _ => 0
def GNode.pcs (g : GNode) (m : Int) (sv : Value) : List Value := [i64 g.pk, i64 g.df, i64 g.pop, i64 (g.pN m), i64 g.pA, i64 g.pB, i64 g.pT, sv]
/-- A value is what PlainNode makes of the node g (a Const's number aside). -/
def PlainIs (w : World) (v : Value) (g : GNode) : Prop := ∃ m sv, v = .agg (g.pcs m sv).toArray ∧ IntsAre w sv g.us
theorem PlainIs.ext {w w' : World} {v : Value} {g : GNode} (h : PlainIs w v g) (hx : Ext w w') : PlainIs w' v g := by
  obtain ⟨m, sv, h1, h2⟩ := h
  exact ⟨m, sv, h1, h2.ext hx⟩
theorem ints_nil (w : World) : IntsAre w (.slice none 0 0) [] := SliceIs.nil w 1
/-- The end of each arm: the struct is built, laid, and read. -/
theorem plainEnd {R : Value → World → Prop} {w0 w1 : World} {g : Nat} {old : List Value} {parts : Array (Nat × Value)} (n : GNode) (m : Int) (sv : Value) (l : List (Nat × Value)) (hp : parts = l.toArray) (h1 : (l.all fun x => decide (x.1 < 8) && oneC x.2) = true)
    (hl : l.foldl (fun cs x => cs.set x.1 x.2) [i64 0, i64 0, i64 0, i64 0, i64 0, i64 0, i64 0, .slice none 0 0] = n.pcs m sv) (hsv : oneC sv = true) (hb : Blk w1 g old 92) (ho : old.length = 8)
    (hx : Ext w0 w1) (hg : w0.heap.size ≤ g) (hk : ∀ w', Ext w0 w' → Chg w1 g w' → R (.agg (n.pcs m sv).toArray) w') :
    V Tryz.prog (Instr.build 92 parts) w1 fun t w2 => U Tryz.prog (Instr.storeAt 92 (.pointer (some ⟨g, 0, none⟩)) t) w2 fun _ w3 =>
      ∃ r1, (loadVar 92 (match (Value.pointer (some ⟨g, 0, none⟩)) with | .pointer (some p) => p | _ => ⟨0, 0, none⟩)).run Tryz.prog w3 = .ok r1 w3 ∧ (∃ p, (Value.pointer (some ⟨g, 0, none⟩)) = Value.pointer (some p)) ∧ R r1 w3 := by
  refine bld bd_92 l hp h1 ?_
  have hl' : l.foldl (fun cs x => cs.set x.1 x.2) [.int .i64 0, .int .i64 0, .int .i64 0, .int .i64 0, .int .i64 0, .int .i64 0, .int .i64 0, .slice none 0 0] = n.pcs m sv := hl
  rw [hl']
  refine stA inf92 hb (l := n.pcs m sv) rfl rfl ho (by simp [GNode.pcs, oneC]; cases sv <;> simp_all [oneC]) fun w' h2 hc => ?_
  exact ⟨_, r_var Tryz.underlying92 rfl inf92 h2 rfl, ⟨_, rfl⟩, hk w' (hc.ext _ hx hg) hc⟩
/-- .. where its slice lies: with what was there, or in a row of its own. -/
def PlainO (v0 : Value) (w w' : World) (v : Value) (g : GNode) : Prop := ∃ m sv, v = .agg (g.pcs m sv).toArray ∧ ((∀ w0, NodeIs w0 v0 g → IntsAre w0 sv g.us) ∨ w'.ownsRow w.heap.size 3 1 sv g.us.length (g.us.map i64))
theorem own1 {w : World} {B e n : Nat} {v : Value} {xs : List Value} (h : w.ownsRow B e 1 v n xs) : oneC v = true := by
  obtain ⟨a, c, rfl⟩ := (SliceIs.of_own h).shape; rfl
theorem shape_ints {w : World} {sv : Value} {l : List Int} (h : IntsAre w sv l) : oneC sv = true := by
  obtain ⟨a, c, rfl⟩ := h.shape; rfl
set_option maxHeartbeats 1000000 in
theorem plainO_ok {n : GNode} {v : Value} {w : World} (h : NodeIs w v n) : callD Tryz.prog 36 #[v] w fun r w' => PlainO v w w' r n ∧ Ext w w' := by
  obtain ⟨sv, rfl, hs⟩ := h
  obtain ⟨sa, sc, rfl⟩ := hs.shape
  apply F36_wp
  unfold F36_den
  refine alK inf92 fun w0 h0 x0 => ?_
  have fin0 : ∀ {n : GNode} {v0 : Value} {m : Int} {w1 w2 : World}, Ext w w2 → Chg w1 w.heap.size w2 → n.us = [] → PlainO v0 w w2 (.agg (n.pcs m (.slice none 0 0)).toArray) n ∧ Ext w w2 := fun {n v0 m w1 w2} hx _ hu => ⟨⟨m, _, rfl, .inl fun _ _ => by rw [hu]; exact ints_nil _⟩, hx⟩
  cases n with
  | const d m =>
    dsimp only [GNode.val]; (repeat (first | (with_reducible refine th (by first | exact ta_105 | exact ta_84) ?_) | ((with_reducible refine tm ta_105 (by decide) ?_); intro _ _ _)))
    refine asB sa_84 rfl rfl fun b w1 hb x1 => ?_; refine ldB hb fa_84_0 l1_3 rfl ?_; refine ldB hb fa_84_1 l1_21 rfl ?_
    refine V_cv_21_3.2 ?_
    exact plainEnd (.const d m) _ (.slice none 0 0) [(0, i64 1), (1, i64 d), (3, _)] rfl rfl rfl rfl (h0.ext x1) rfl (x0.trans x1) (Nat.le_refl _) fun w' hx hc => fin0 hx hc rfl
  | tick =>
    dsimp only [GNode.val]; (repeat (first | (with_reducible refine th (by first | exact ta_105 | exact ta_49) ?_) | ((with_reducible refine tm (by first | exact ta_105 | exact ta_113 | exact ta_140 | exact ta_142 | exact ta_144 | exact ta_84) (by decide) ?_); intro _ _ _)))
    refine asB sa_49 rfl rfl fun b w1 hb x1 => ?_
    exact plainEnd .tick 0 (.slice none 0 0) [(0, i64 6), (1, i64 (-1))] rfl rfl rfl rfl (h0.ext x1) rfl (x0.trans x1) (Nat.le_refl _) fun w' hx hc => fin0 hx hc rfl
  | goto t =>
    dsimp only [GNode.val]; (repeat (first | (with_reducible refine th (by first | exact ta_105 | exact ta_146) ?_) | ((with_reducible refine tm (by first | exact ta_105 | exact ta_113 | exact ta_140 | exact ta_142 | exact ta_144 | exact ta_146 | exact ta_148 | exact ta_150 | exact ta_152 | exact ta_155 | exact ta_157 | exact ta_162 | exact ta_49 | exact ta_84) (by decide) ?_); intro _ _ _)))
    refine asB sa_146 rfl rfl fun b w1 hb x1 => ?_; refine ldB hb fa_146_0 l1_3 rfl ?_
    exact plainEnd (.goto t) 0 (.slice none 0 0) [(0, i64 7), (1, i64 (-1)), (6, i64 t)] rfl rfl rfl rfl (h0.ext x1) rfl (x0.trans x1) (Nat.le_refl _) fun w' hx hc => fin0 hx hc rfl
  | getField d f =>
    dsimp only [GNode.val]; (repeat (first | (with_reducible refine th (by first | exact ta_105 | exact ta_150) ?_) | ((with_reducible refine tm (by first | exact ta_105 | exact ta_113 | exact ta_140 | exact ta_142 | exact ta_144 | exact ta_146 | exact ta_148 | exact ta_150 | exact ta_152 | exact ta_155 | exact ta_157 | exact ta_162 | exact ta_49 | exact ta_84) (by decide) ?_); intro _ _ _)))
    refine asB sa_150 rfl rfl fun b w1 hb x1 => ?_; refine ldB hb fa_150_0 l1_3 rfl ?_; refine ldB hb fa_150_1 l1_3 rfl ?_
    exact plainEnd (.getField d f) 0 (.slice none 0 0) [(0, i64 9), (1, i64 d), (3, i64 f)] rfl rfl rfl rfl (h0.ext x1) rfl (x0.trans x1) (Nat.le_refl _) fun w' hx hc => fin0 hx hc rfl
  | move d s =>
    dsimp only [GNode.val]; (repeat (first | (with_reducible refine th (by first | exact ta_105 | exact ta_140) ?_) | ((with_reducible refine tm (by first | exact ta_105 | exact ta_84) (by decide) ?_); intro _ _ _)))
    refine asB sa_140 rfl rfl fun b w1 hb x1 => ?_; refine ldB hb fa_140_0 l1_3 rfl ?_; refine ldB hb fa_140_1 l1_3 rfl ?_
    refine bsl xe_23 [i64 s] rfl rfl (by simp) rfl fun v w2 ho x2 => ?_
    exact plainEnd (.move d s) 0 v [(0, i64 2), (1, i64 d), (7, v)] rfl (by obtain ⟨_, _, rfl⟩ := (SliceIs.of_own ho).shape; rfl) rfl (own1 ho) ((h0.ext x1).ext x2) rfl ((x0.trans x1).trans x2) (Nat.le_refl _) fun w' hx hc => ⟨⟨0, v, rfl, .inr (own_mono (hc.ownRow ho (Nat.lt_of_lt_of_le h0.lt x1.size)) (x0.trans x1).size)⟩, hx⟩
  | bin op d a c =>
    dsimp only [GNode.val]; (repeat (first | (with_reducible refine th (by first | exact ta_105 | exact ta_113) ?_) | ((with_reducible refine tm (by first | exact ta_105 | exact ta_113 | exact ta_140 | exact ta_84) (by decide) ?_); intro _ _ _)))
    refine asB sa_113 rfl rfl fun b w1 hb x1 => ?_; refine ldB hb fa_113_0 l1_3 rfl ?_; refine ldB hb fa_113_1 l1_3 rfl ?_; refine ldB hb fa_113_2 l1_3 rfl ?_; refine ldB hb fa_113_3 l1_3 rfl ?_
    refine bsl xe_23 [i64 a, i64 c] rfl rfl (by simp) rfl fun v w2 ho x2 => ?_
    exact plainEnd (.bin op d a c) 0 v [(0, i64 3), (2, i64 op), (1, i64 d), (7, v)] rfl (by obtain ⟨_, _, rfl⟩ := (SliceIs.of_own ho).shape; rfl) rfl (own1 ho) ((h0.ext x1).ext x2) rfl ((x0.trans x1).trans x2) (Nat.le_refl _) fun w' hx hc => ⟨⟨0, v, rfl, .inr (own_mono (hc.ownRow ho (Nat.lt_of_lt_of_le h0.lt x1.size)) (x0.trans x1).size)⟩, hx⟩
  | un op d a =>
    dsimp only [GNode.val]; (repeat (first | (with_reducible refine th (by first | exact ta_105 | exact ta_142) ?_) | ((with_reducible refine tm (by first | exact ta_105 | exact ta_113 | exact ta_140 | exact ta_84) (by decide) ?_); intro _ _ _)))
    refine asB sa_142 rfl rfl fun b w1 hb x1 => ?_; refine ldB hb fa_142_0 l1_3 rfl ?_; refine ldB hb fa_142_1 l1_3 rfl ?_; refine ldB hb fa_142_2 l1_3 rfl ?_
    refine bsl xe_23 [i64 a] rfl rfl (by simp) rfl fun v w2 ho x2 => ?_
    exact plainEnd (.un op d a) 0 v [(0, i64 4), (2, i64 op), (1, i64 d), (7, v)] rfl (by obtain ⟨_, _, rfl⟩ := (SliceIs.of_own ho).shape; rfl) rfl (own1 ho) ((h0.ext x1).ext x2) rfl ((x0.trans x1).trans x2) (Nat.le_refl _) fun w' hx hc => ⟨⟨0, v, rfl, .inr (own_mono (hc.ownRow ho (Nat.lt_of_lt_of_le h0.lt x1.size)) (x0.trans x1).size)⟩, hx⟩
  | choose d c a e =>
    dsimp only [GNode.val]; (repeat (first | (with_reducible refine th (by first | exact ta_105 | exact ta_144) ?_) | ((with_reducible refine tm (by first | exact ta_105 | exact ta_113 | exact ta_140 | exact ta_142 | exact ta_84) (by decide) ?_); intro _ _ _)))
    refine asB sa_144 rfl rfl fun b w1 hb x1 => ?_; refine ldB hb fa_144_0 l1_3 rfl ?_; refine ldB hb fa_144_1 l1_3 rfl ?_; refine ldB hb fa_144_2 l1_3 rfl ?_; refine ldB hb fa_144_3 l1_3 rfl ?_
    refine bsl xe_23 [i64 c, i64 a, i64 e] rfl rfl (by simp) rfl fun v w2 ho x2 => ?_
    exact plainEnd (.choose d c a e) 0 v [(0, i64 5), (1, i64 d), (7, v)] rfl (by obtain ⟨_, _, rfl⟩ := (SliceIs.of_own ho).shape; rfl) rfl (own1 ho) ((h0.ext x1).ext x2) rfl ((x0.trans x1).trans x2) (Nat.le_refl _) fun w' hx hc => ⟨⟨0, v, rfl, .inr (own_mono (hc.ownRow ho (Nat.lt_of_lt_of_le h0.lt x1.size)) (x0.trans x1).size)⟩, hx⟩
  | branch c t =>
    dsimp only [GNode.val]; (repeat (first | (with_reducible refine th (by first | exact ta_105 | exact ta_148) ?_) | ((with_reducible refine tm (by first | exact ta_105 | exact ta_113 | exact ta_140 | exact ta_142 | exact ta_144 | exact ta_146 | exact ta_148 | exact ta_150 | exact ta_152 | exact ta_155 | exact ta_157 | exact ta_162 | exact ta_49 | exact ta_84) (by decide) ?_); intro _ _ _)))
    refine asB sa_148 rfl rfl fun b w1 hb x1 => ?_; refine ldB hb fa_148_1 l1_3 rfl ?_; refine ldB hb fa_148_0 l1_3 rfl ?_
    refine bsl xe_23 [i64 c] rfl rfl (by simp) rfl fun v w2 ho x2 => ?_
    exact plainEnd (.branch c t) 0 v [(0, i64 8), (1, i64 (-1)), (6, i64 t), (7, v)] rfl (by obtain ⟨_, _, rfl⟩ := (SliceIs.of_own ho).shape; rfl) rfl (own1 ho) ((h0.ext x1).ext x2) rfl ((x0.trans x1).trans x2) (Nat.le_refl _) fun w' hx hc => ⟨⟨0, v, rfl, .inr (own_mono (hc.ownRow ho (Nat.lt_of_lt_of_le h0.lt x1.size)) (x0.trans x1).size)⟩, hx⟩
  | putField f s =>
    dsimp only [GNode.val]; (repeat (first | (with_reducible refine th (by first | exact ta_105 | exact ta_152) ?_) | ((with_reducible refine tm (by first | exact ta_105 | exact ta_113 | exact ta_140 | exact ta_142 | exact ta_144 | exact ta_146 | exact ta_148 | exact ta_150 | exact ta_152 | exact ta_155 | exact ta_157 | exact ta_162 | exact ta_49 | exact ta_84) (by decide) ?_); intro _ _ _)))
    refine asB sa_152 rfl rfl fun b w1 hb x1 => ?_; refine ldB hb fa_152_0 l1_3 rfl ?_; refine ldB hb fa_152_1 l1_3 rfl ?_
    refine bsl xe_23 [i64 s] rfl rfl (by simp) rfl fun v w2 ho x2 => ?_
    exact plainEnd (.putField f s) 0 v [(0, i64 10), (1, i64 (-1)), (3, i64 f), (7, v)] rfl (by obtain ⟨_, _, rfl⟩ := (SliceIs.of_own ho).shape; rfl) rfl (own1 ho) ((h0.ext x1).ext x2) rfl ((x0.trans x1).trans x2) (Nat.le_refl _) fun w' hx hc => ⟨⟨0, v, rfl, .inr (own_mono (hc.ownRow ho (Nat.lt_of_lt_of_le h0.lt x1.size)) (x0.trans x1).size)⟩, hx⟩
  | serve op a c d l =>
    dsimp only [GNode.val]; (repeat (first | (with_reducible refine th (by first | exact ta_105 | exact ta_162) ?_) | ((with_reducible refine tm (by first | exact ta_105 | exact ta_113 | exact ta_140 | exact ta_142 | exact ta_144 | exact ta_146 | exact ta_148 | exact ta_150 | exact ta_152 | exact ta_155 | exact ta_157 | exact ta_162 | exact ta_49 | exact ta_84) (by decide) ?_); intro _ _ _)))
    refine asB sa_162 rfl rfl fun b w1 hb x1 => ?_; refine ldB hb fa_162_0 l1_3 rfl ?_; refine ldB hb fa_162_1 l1_3 rfl ?_; refine ldB hb fa_162_2 l1_3 rfl ?_; refine ldB hb fa_162_3 l1_3 rfl ?_; refine ldB hb fa_162_4 l1_23 rfl ?_
    exact plainEnd (.serve op a c d l) 0 _ [(0, i64 11), (2, i64 op), (4, i64 a), (5, i64 c), (1, i64 d), (7, _)] rfl rfl rfl rfl (h0.ext x1) rfl (x0.trans x1) (Nat.le_refl _) fun w' hx hc => ⟨⟨0, _, rfl, .inl fun w0 h0 => by obtain ⟨sv', e, h⟩ := h0; simp only [GNode.val] at e; cases e; exact h⟩, hx⟩
  | call k d l =>
    dsimp only [GNode.val]; (repeat (first | (with_reducible refine th (by first | exact ta_105 | exact ta_155) ?_) | ((with_reducible refine tm (by first | exact ta_105 | exact ta_113 | exact ta_140 | exact ta_142 | exact ta_144 | exact ta_146 | exact ta_148 | exact ta_150 | exact ta_152 | exact ta_155 | exact ta_157 | exact ta_162 | exact ta_49 | exact ta_84) (by decide) ?_); intro _ _ _)))
    refine asB sa_155 rfl rfl fun b w1 hb x1 => ?_; refine ldB hb fa_155_0 l1_3 rfl ?_; refine ldB hb fa_155_1 l1_3 rfl ?_; refine ldB hb fa_155_2 l1_23 rfl ?_
    exact plainEnd (.call k d l) 0 _ [(0, i64 12), (3, i64 k), (1, i64 d), (7, _)] rfl rfl rfl rfl (h0.ext x1) rfl (x0.trans x1) (Nat.le_refl _) fun w' hx hc => ⟨⟨0, _, rfl, .inl fun w0 h0 => by obtain ⟨sv', e, h⟩ := h0; simp only [GNode.val] at e; cases e; exact h⟩, hx⟩
  | callX k d l =>
    dsimp only [GNode.val]; (repeat (first | (with_reducible refine th (by first | exact ta_105 | exact ta_157) ?_) | ((with_reducible refine tm (by first | exact ta_105 | exact ta_113 | exact ta_140 | exact ta_142 | exact ta_144 | exact ta_146 | exact ta_148 | exact ta_150 | exact ta_152 | exact ta_155 | exact ta_157 | exact ta_162 | exact ta_49 | exact ta_84) (by decide) ?_); intro _ _ _)))
    refine asB sa_157 rfl rfl fun b w1 hb x1 => ?_; refine ldB hb fa_157_0 l1_3 rfl ?_; refine ldB hb fa_157_1 l1_3 rfl ?_; refine ldB hb fa_157_2 l1_23 rfl ?_
    exact plainEnd (.callX k d l) 0 _ [(0, i64 13), (3, i64 k), (1, i64 d), (7, _)] rfl rfl rfl rfl (h0.ext x1) rfl (x0.trans x1) (Nat.le_refl _) fun w' hx hc => ⟨⟨0, _, rfl, .inl fun w0 h0 => by obtain ⟨sv', e, h⟩ := h0; simp only [GNode.val] at e; cases e; exact h⟩, hx⟩
  | ret s =>
    dsimp only [GNode.val]; (repeat (first | (with_reducible refine th ta_105 ?_) | ((with_reducible refine tm (by first | exact ta_105 | exact ta_113 | exact ta_140 | exact ta_142 | exact ta_144 | exact ta_146 | exact ta_148 | exact ta_150 | exact ta_152 | exact ta_155 | exact ta_157 | exact ta_162 | exact ta_49 | exact ta_84) (by decide) ?_); intro _ _ _)))
    refine asB sa_105 rfl rfl fun b w1 hb x1 => ?_; refine ldB hb fa_105_0 l1_3 rfl ?_
    refine V_eqlI.2 (ifD_dec (fun heq => ?_) fun hne => ?_)
    · exact plainEnd (.ret s) 0 (.slice none 0 0) [(0, i64 14), (1, i64 (-1))] rfl rfl rfl rfl (h0.ext x1) rfl (x0.trans x1) (Nat.le_refl _) fun w' hx hc => fin0 hx hc (by simp [GNode.us, heq])
    · refine ldB hb fa_105_0 l1_3 rfl ?_
      refine bsl xe_23 [i64 s] rfl rfl (by simp) rfl fun v w2 ho x2 => ?_
      exact plainEnd (.ret s) 0 v [(0, i64 14), (1, i64 (-1)), (7, v)] rfl (by obtain ⟨_, _, rfl⟩ := (SliceIs.of_own ho).shape; rfl) rfl (own1 ho) ((h0.ext x1).ext x2) rfl ((x0.trans x1).trans x2) (Nat.le_refl _) fun w' hx hc => ⟨⟨0, v, rfl, by
        have hu : GNode.us (.ret s) = [s] := by simp only [GNode.us]; rw [if_neg hne]
        rw [hu]
        exact .inr (own_mono (hc.ownRow ho (Nat.lt_of_lt_of_le h0.lt x1.size)) (x0.trans x1).size)⟩, hx⟩
/-- A slice literal of one struct. -/
theorem bs83 {w : World} {K : Value → World → Prop} {g : GNode} {m : Int} {sv : Value} (_ : oneC sv = true) (hk : ∀ w', w'.ownsRow w.heap.size 92 8 (.slice (some ⟨w.heap.size, 0, none⟩) 1 1) 1 (g.pcs m sv) → Ext w w' → K (.slice (some ⟨w.heap.size, 0, none⟩) 1 1) w') :
    V Tryz.prog (Instr.buildSlice 54 1 #[(0, .agg (g.pcs m sv).toArray)]) w K := by
  have hr : (Instr.buildSlice 54 1 #[(0, .agg (g.pcs m sv).toArray)]).run Tryz.prog w = .ok (.slice (some ⟨w.heap.size, 0, none⟩) 1 1) (w.alloc (.cells (g.pcs m sv).toArray 92)) := by
    simp only [Instr.buildSlice, Sem.run_bind, run_underlying Tryz.underlying54, Result.andThen_ok, run_size inf92]
    rw [if_neg (by decide), if_neg (by decide)]
    simp only [Sem.run_bind, run_zero inf92, Result.andThen_ok, Sem.run_pure]
    have hf : ∀ z : Array Value, z = #[.int .i64 0, .int .i64 0, .int .i64 0, .int .i64 0, .int .i64 0, .int .i64 0, .int .i64 0, .slice none 0 0] → Instr.fill (fun i => some (i * 8, 8)) (Array.map (fun x => z[x % z.size]!) (Array.range (1 * 8))) [(0, Value.agg (g.pcs m sv).toArray)] = some (g.pcs m sv).toArray := by
      rintro _ rfl
      kernel_rfl
    have hf' := hf _ rfl
    simp only [Value.cells] at hf' ⊢
    erw [hf']
    simp [newRow, newObj, Sem.run]
  refine V.ok hr (hk _ ?_ ((Ext.refl w).alloc _))
  exact ⟨rfl, .inr ⟨_, 1, _, rfl, Nat.le_refl _, by rw [heap_alloc_new], by decide, by decide, by rfl, rfl⟩⟩
end Go.Proofs.YtcdbikfnlggbnaaGreatDoor
namespace Go.Proofs.YtcdbikfnlggbnaaGreatDoor
open Go.Vc
def GNode.wr : GNode → Int
  | .const _ _ | .move _ _ | .bin _ _ _ _ | .un _ _ _ | .choose _ _ _ _ | .getField _ _ => 1
  | .serve _ _ _ _ _ | .call _ _ _ | .callX _ _ _ => 0
  | _ => -1
theorem writes_ok {g : GNode} {v : Value} {w : World} (h : PlainIs w v g) : callD Tryz.prog 78 #[v] w fun r w' => r = i64 g.wr ∧ Ext w w' := by
  obtain ⟨m, sv, rfl, hs⟩ := h
  apply F78_wp
  unfold F78_den
  refine bx fun b w1 hb x1 => ?_
  refine ldB hb fa_92_0 l1_3 rfl ?_
  refine ⟨fun v w' => v = .bool (decide (g.wr = 1)) ∧ w' = w1, ?_, ?_⟩
  · cases g <;> (simp only [GNode.pk, V_eqlI, Int.reduceEq, decide_true, decide_false, ifD_true, ifD_false]; first | exact ⟨rfl, rfl⟩ | simp [GNode.wr])
  · rintro _ w2 ⟨rfl, rfl⟩ _
    cases g <;> (simp only [GNode.wr, GNode.pk, V_eqlI, Int.reduceEq, Int.reduceNeg, decide_true, decide_false, ifD_true, ifD_false]; first | exact ⟨rfl, x1⟩ | exact ⟨trivial, x1⟩)
theorem nextP_ok {g : GNode} {v : Value} {w : World} {k : Int} (h : PlainIs w v g) (h0 : 0 ≤ k) (h1 : k ≤ 1000000) : callD Tryz.prog 76 #[v, i64 k] w fun r w' => w'.ownsRow w.heap.size 3 1 r (g.nx k).length ((g.nx k).map i64) ∧ Ext w w' := by
  obtain ⟨m, sv, rfl, hs⟩ := h
  apply F76_wp
  unfold F76_den
  have hw : IntKind.i64.wrap (k + 1) = k + 1 := wrap_id (by omega) (by omega)
  refine bx fun b w1 hb x1 => ?_
  refine ldB hb fa_92_0 l1_3 rfl ?_
  refine ⟨fun v w' => v = .bool (decide (g.pk = 0 ∨ g.pk = 14)) ∧ w' = w1, ?_, ?_⟩
  · cases g <;> (simp only [GNode.pk, V_eqlI, Int.reduceEq, decide_true, decide_false, ifD_false]; first | exact ⟨rfl, rfl⟩ | simp [])
  · rintro _ w2 ⟨rfl, rfl⟩ _
    cases g with
    | ret s =>
      simp only [GNode.pk, Int.reduceEq, or_true, decide_true, ifD_true]
      exact ⟨World.ownsRow_nil _ _ _ _, x1⟩
    | goto t =>
      simp only [GNode.pk, Int.reduceEq, or_false, decide_false, ifD_false, V_eqlI, decide_true, ifD_true]
      refine ldB hb fa_92_6 l1_3 rfl ?_
      refine bsl xe_23 [i64 t] rfl rfl (by simp) rfl fun v w2 ho x2 => ?_
      exact ⟨own_mono ho x1.size, x1.trans x2⟩
    | branch c t =>
      simp only [GNode.pk, Int.reduceEq, or_false, decide_false, ifD_false, V_eqlI, decide_true, ifD_true]
      refine ldB hb fa_92_6 l1_3 rfl ?_
      refine V_add.2 ?_
      rw [hw]
      refine V_eqlI.2 (ifD_dec (fun heq => ?_) fun hne => ?_)
      · refine V_add.2 ?_
        rw [hw]
        refine bsl xe_23 [i64 (k + 1)] rfl rfl (by simp) rfl fun v w2 ho x2 => ?_
        have hu : GNode.nx (.branch c t) k = [k + 1] := by simp only [GNode.nx]; rw [if_pos (show t = k + 1 from heq)]
        rw [hu]
        exact ⟨own_mono ho x1.size, x1.trans x2⟩
      · refine V_add.2 ?_
        rw [hw]
        refine ldB hb fa_92_6 l1_3 rfl ?_
        refine bsl xe_23 [i64 (k + 1), i64 t] rfl rfl (by simp) rfl fun v w2 ho x2 => ?_
        have hu : GNode.nx (.branch c t) k = [k + 1, t] := by simp only [GNode.nx]; rw [if_neg (show ¬ t = k + 1 from hne)]
        rw [hu]
        exact ⟨own_mono ho x1.size, x1.trans x2⟩
    | _ =>
      simp only [GNode.pk, Int.reduceEq, or_false, decide_false, ifD_false, V_eqlI]
      refine V_add.2 ?_
      rw [hw]
      refine bsl (by first | exact xe_202 | exact xe_23) [i64 (k + 1)] rfl rfl (by simp) rfl fun v w2 ho x2 => ?_
      exact ⟨own_mono ho x1.size, x1.trans x2⟩
end Go.Proofs.YtcdbikfnlggbnaaGreatDoor
namespace Go.Proofs.YtcdbikfnlggbnaaGreatDoor
open Go.Vc
/-- A program of plain nodes, as a value. -/
def PProgIs (w : World) (v : Value) (params regs : Int) (gs : List GNode) : Prop := ∃ ns cs, v = .agg #[i64 params, i64 regs, ns] ∧ SliceIs w ns 8 gs.length cs ∧ ∀ (i : Nat) g, gs[i]? = some g → ∃ m sv, (cs.drop (i * 8)).take 8 = g.pcs m sv ∧ IntsAre w sv g.us
end Go.Proofs.YtcdbikfnlggbnaaGreatDoor
namespace Go.Vc
open Go.Proofs
section
variable {P : Program} {w : World}
theorem Blk.grown {w w' : World} {g : Nat} {cs : List Value} {e : TypeId} {row : Option Nat} (h : Blk w g cs e) (hg : w.grownBy w' row) (hne : row ≠ some g) : Blk w' g cs e := by
  have := hg.block g h.lt (fun he => hne he.symm)
  unfold Blk at h ⊢
  rw [this]; exact h
theorem own_ty {w : World} {B B' e e' s s' n n' : Nat} {v v' : Value} {xs xs' : List Value} (h : w.ownsRow B e s v n xs) (h' : w.ownsRow B' e' s' v' n' xs') (hne : e ≠ e') : v.ownBlock = none ∨ v.ownBlock ≠ v'.ownBlock := by
  rcases h.2 with ⟨rfl, _⟩ | ⟨g, cap, cur, rfl, _, h1, _⟩
  · exact .inl rfl
  · refine .inr ?_
    rcases h'.2 with ⟨rfl, _⟩ | ⟨g', cap', cur', rfl, _, h2, _⟩
    · simp [Value.ownBlock]
    · simp only [Value.ownBlock, ne_eq, Option.some.injEq]
      rintro rfl
      rw [h1] at h2
      cases h2
      exact hne rfl
theorem own_blk {w : World} {B e s n g : Nat} {v : Value} {xs : List Value} (h : w.ownsRow B e s v n xs) (hg : g < B) : v.ownBlock ≠ some g := fun he => by have := (h.lt g he).1; omega
theorem set_grown {w : World} {g o : Nat} {u : Value} : w.grownBy (w.setCell ⟨g, o, none⟩ u) (some g) := ⟨rfl, rfl, rfl, by simp, fun _ _ hne => heap_setCell_other _ _ _ _ (fun he => hne (by simp [he]))⟩
theorem own_set {w : World} {B e s n g o : Nat} {v u : Value} {xs : List Value} (h : w.ownsRow B e s v n xs) (hg : g < B) : (w.setCell ⟨g, o, none⟩ u).ownsRow B e s v n xs :=
  h.kept set_grown (.inr (own_blk h hg))
theorem el_old {cs l : List Value} {i j sz : Nat} (hl : cs.length = i * sz) (hj : j < i) : ((cs ++ l).drop (j * sz)).take sz = (cs.drop (j * sz)).take sz := by
  have h1 : (j + 1) * sz ≤ i * sz := Nat.mul_le_mul_right sz hj
  rw [Nat.add_mul, Nat.one_mul] at h1
  rw [List.drop_append_of_le_length (by omega), List.take_append_of_le_length (by rw [List.length_drop]; omega)]
theorem el_new {cs l : List Value} {i sz : Nat} (hl : cs.length = i * sz) (h2 : l.length = sz) : ((cs ++ l).drop (i * sz)).take sz = l := by
  rw [← hl, List.drop_left, ← h2, List.take_length]
end
end Go.Vc
namespace Go.Proofs.YtcdbikfnlggbnaaGreatDoor
open Go.Vc
theorem own1' {w : World} {B e s n : Nat} {v : Value} {xs : List Value} (h : w.ownsRow B e s v n xs) : oneC v = true := by
  obtain ⟨a, c, rfl⟩ := (SliceIs.of_own h).shape; rfl
/-- The rows so far. -/
def El (p : GProg) (w0 w : World) (B i : Nat) (cs : List Value) : Prop := ∀ j, j < i → ∃ g m sv, p.nodes[j]? = some g ∧ (cs.drop (j * 8)).take 8 = g.pcs m sv ∧ (IntsAre w0 sv g.us ∨ w.ownsRow B 3 1 sv g.us.length (g.us.map i64))
set_option maxHeartbeats 2000000 in
theorem plainProg_ok {p : GProg} {pv : Value} {w : World} (hp : ProgIs w pv p) (hl : p.nodes.length ≤ 1000) : callD Tryz.prog 17 #[pv] w fun r w' => PProgIs w' r p.params p.regs p.nodes ∧ Ext w w' := by
  obtain ⟨ns, rfl, ⟨vs, hs, hvs⟩, _⟩ := hp
  apply F17_wp
  unfold F17_den
  refine bxK fun w1 h1 x1 => ?_
  refine alK inf56 fun w2 h2 x2 => ?_
  have h12 : Blk w2 w.heap.size [i64 p.params, i64 p.regs, ns] 38 := h1.ext x2
  refine ldB h12.boxed fa_38_0 l1_3 rfl ?_
  refine ldB h12.boxed fa_38_1 l1_3 rfl ?_
  refine bld bd_56 [(0, i64 p.params), (1, i64 p.regs)] rfl rfl ?_
  refine asK sa_56 rfl rfl fun w3 h3 x3 => ?_
  obtain ⟨na, nc, rfl⟩ := hs.shape
  have l1 := h1.lt
  have l2 := h2.lt
  have X3 := (x1.trans x2).trans x3
  refine ⟨fun v w' => ∃ (i : Nat) (nv : Value) (cs : List Value), v = i64 i ∧ i ≤ p.nodes.length ∧ Ext w w' ∧ w2.heap.size < w'.heap.size ∧ Blk w' w.heap.size [i64 p.params, i64 p.regs, .slice na p.nodes.length nc] 38 ∧ Blk w' w1.heap.size [i64 0, i64 0, .slice none 0 0] 56 ∧
      Blk w' w2.heap.size [i64 p.params, i64 p.regs, nv] 56 ∧ w'.ownsRow (w2.heap.size + 1) 92 8 nv i cs ∧ El p w w' (w2.heap.size + 1) i cs, fun v _ => p.nodes.length - (RowKit.intOf v).toNat,
    ⟨0, .slice none 0 0, [], rfl, Nat.zero_le _, X3, h3.lt, h12.ext x3, h2.ext x3, h3, World.ownsRow_nil _ _ _ _, fun j hj => by omega⟩, ?_⟩
  rintro _ w4 ⟨i, nv, cs, rfl, hi, X4, hsz, k1, k2, k3, ho, hel⟩ _
  refine ldB k1.boxed fa_38_2 l1_36 rfl ?_
  refine V_ln_36.2 (V_lss.2 (ifD_dec (fun hlt => ?_) fun hge => ?_))
  · have hi' : i < p.nodes.length := by omega
    obtain ⟨g, hg⟩ := ex_get hi'
    obtain ⟨u, hu, hnu⟩ := hvs i g hg
    have D4 : Ext w4 w4.drew := (Ext.refl _).drew
    refine drawD.mk' (fun w' => Ext w w' ∧ Blk w' w.heap.size [i64 p.params, i64 p.regs, .slice na p.nodes.length nc] 38 ∧ Blk w' w2.heap.size [i64 p.params, i64 p.regs, nv] 56) ⟨X4.trans D4, k1.ext D4, k3.ext D4⟩ ?_
    refine yfB (fun w' hw => hw.2.2.boxed) fa_56_2 l1_54 rfl ?_
    refine yfB (fun w' hw => hw.2.1.boxed) fa_38_2 l1_36 rfl ?_
    refine ySl xa_36 l1_52 hs (fun _ h => h.1) (by omega) (by omega) (by simpa using hu) ?_
    refine (plainO_ok (hnu.ext (X4.trans D4))).mono fun r w5 ⟨⟨m, sv, hr, hsv⟩, x5⟩ => ?_
    subst hr
    have D5 := D4.trans x5
    refine ⟨⟨X4.trans D5, k1.ext D5, k3.ext D5⟩, ?_⟩
    have hsvc : oneC sv = true := by
      rcases hsv with h | h
      · exact shape_ints (h _ hnu)
      · exact own1 h
    refine bs83 hsvc fun w6 ho6 x6 => ?_
    have D6 := D5.trans x6
    refine ⟨⟨X4.trans D6, k1.ext D6, k3.ext D6⟩, ?_⟩
    have hoo := D6.own ho
    have hs6 := D6.size
    refine apA Tryz.underlying54 inf92 rfl (by decide) hoo (SliceIs.of_own ho6) (by simp only [GNode.pcs, List.all_cons, List.all_nil, hsvc, Bool.and_true]; rfl) (by omega) (by unfold maxLen; omega) (by omega) fun nv' w7 ho7 hg7 => ?_
    have hrow : ∀ k, nv.ownBlock = some k → w2.heap.size + 1 ≤ k := fun k hk => (hoo.lt k hk).1
    have X7 : Ext w w7 := (X4.trans D6).grown hg7 fun k hk => by have := hrow k hk; omega
    have k1' := (k1.ext D6).grown hg7 (own_blk hoo (by omega))
    have k2' := (k2.ext D6).grown hg7 (own_blk hoo (by omega))
    have k3' := (k3.ext D6).grown hg7 (own_blk hoo (by omega))
    refine ⟨⟨X7, k1', k3'⟩, ?_⟩
    refine yieldS.ok (fun w' _ => r_fd_56_2) ?_
    refine U.ok (r_store inf54 (own1' ho7) (by rw [Nat.zero_add, k3'.cell]; rfl) (by rw [Nat.zero_add]; exact k3'.frozen 2)) ?_
    refine V_add.2 ?_
    rw [wrap_id (by omega) (by omega), i64_succ, Nat.zero_add]
    refine ⟨⟨i + 1, nv', cs ++ g.pcs m sv, rfl, by omega, X7.setCell (by omega) _, by have := hg7.size; rw [show (w7.setCell ⟨w2.heap.size, 2, none⟩ nv').heap.size = w7.heap.size by simp]; omega, k1'.other (by omega), k2'.other (by omega), k3'.set 2 nv', own_set ho7 (by omega), fun j hj => ?_⟩, by simp only [intOf_i64]; omega⟩
    have hcl : cs.length = i * 8 := ho.1
    by_cases hji : j = i
    · subst hji
      refine ⟨g, m, sv, hg, el_new hcl rfl, ?_⟩
      rcases hsv with h | h
      · exact .inl (h _ hnu)
      · have h6 := own_mono (x6.own h) (show w2.heap.size + 1 ≤ w4.drew.heap.size by have := D4.size; omega)
        exact .inr (own_set (h6.kept hg7 (own_ty h6 hoo (by decide))) (by omega))
    · obtain ⟨g', m', sv', e1, e2, e3⟩ := hel j (by omega)
      refine ⟨g', m', sv', e1, (el_old hcl (by omega)).trans e2, e3.imp id fun h => ?_⟩
      exact own_set ((D6.own h).kept hg7 (own_ty (D6.own h) hoo (by decide))) (by omega)
  · refine ldA k3.boxed la_56 rfl ?_
    refine stA inf56 k2 (l := [i64 p.params, i64 p.regs, nv]) rfl rfl rfl (by have := own1' ho; simp only [List.all_cons, List.all_nil, this, Bool.and_true]; rfl) fun w' h2' hc => ?_
    have hin : i = p.nodes.length := by omega
    subst hin
    have X' := hc.ext _ X4 (by omega)
    refine ⟨_, r_var Tryz.underlying56 rfl inf56 h2' rfl, ⟨_, rfl⟩, ⟨nv, cs, rfl, SliceIs.of_own (hc.ownRow ho (by omega)), fun j g hg => ?_⟩, X'⟩
    obtain ⟨g', m', sv', e1, e2, e3⟩ := hel j (List.getElem?_eq_some_iff.1 hg).1
    rw [hg] at e1
    cases e1
    refine ⟨m', sv', e2, ?_⟩
    rcases e3 with h | h
    · exact h.ext X'
    · exact SliceIs.of_own (hc.ownRow h (by omega))
end Go.Proofs.YtcdbikfnlggbnaaGreatDoor
namespace Go.Vc
section
variable {P : Program} {w : World} {S : World → Prop} {L : Value → Prop}
theorem yldxA {t x : TypeId} {v : Value} {n sz : Nat} {cs l : List Value} {k : IntKind} {i : Int} (h : XA P t sz) (ht : ∃ d z by_, P.underlying x = some d ∧ aggB d = true ∧ Inf P x z sz by_) (hs : SliceIs w v sz n cs) (hx : ∀ w', S w' → Ext w w') (h0 : 0 ≤ i) (h1 : i < n)
    (hc : (cs.drop (i.toNat * sz)).take sz = l) (hl : l.length = sz) (hk : L (.agg l.toArray)) :
    yieldS P S (Instr.indexAt t v (.int k i)) fun p => yieldS P S (Instr.loadAt x p) L := by
  obtain ⟨e, z, b', hte, hi⟩ := h
  obtain ⟨d, z', by_, h2, h3, h4⟩ := ht
  obtain ⟨b, off, cap, rfl, hcell⟩ := hs.there (by omega)
  refine yieldS.ok (fun w' _ => r_index hte hi h0 h1) (yieldS.ok (fun w' hw => r_loadAgg h2 h3 h4 hl fun j hj => ?_) hk)
  obtain ⟨u, hu⟩ : ∃ u, l[j]? = some u := ⟨_, List.getElem?_eq_getElem hj⟩
  rw [hu, Nat.add_assoc]
  refine (hx w' hw).cell (hcell _ u ?_)
  rw [← hc, List.getElem?_take, List.getElem?_drop] at hu
  split at hu
  · exact hu
  · cases hu
end
end Go.Vc
namespace Go.Proofs.YtcdbikfnlggbnaaGreatDoor
open Go.Vc
theorem wr_df {g : GNode} (h : g.wr < 0) : g.df = -1 := by cases g <;> simp_all [GNode.wr, GNode.df]
theorem def36_ok {g : GNode} {v : Value} {w : World} (h : PlainIs w v g) : callD Tryz.prog 44 #[v] w fun r w' => r = i64 g.df ∧ Ext w w' := by
  have h0 := h
  obtain ⟨m, sv, rfl, hs⟩ := h
  apply F44_wp
  unfold F44_den
  refine bx fun b w1 hb x1 => ?_
  refine ldA hb la_92 rfl ?_
  refine (writes_ok (h0.ext x1)).mono fun r w2 ⟨hr, x2⟩ => ?_
  subst hr
  refine V_lss.2 (ifD_dec (fun hlt => ?_) fun hge => ?_)
  · exact ⟨by rw [wr_df hlt], x1.trans x2⟩
  · refine ldB (hb.ext x2) fa_92_1 l1_3 rfl ?_
    exact ⟨rfl, x1.trans x2⟩
set_option maxHeartbeats 1000000 in
theorem in31_ok {n : GNode} {nv bv : Value} {bs : List Bool} {w : World} (hn : PlainIs w nv n) (hb : BoolsAre w bv bs) (hl : n.us.length ≤ 4294967299) (hbl : bs.length ≤ 4294967296)
    (hd : n.df < bs.length) (hu : ∀ r ∈ n.us, 0 ≤ r ∧ r < bs.length) :
    callD Tryz.prog 77 #[nv, bv] w fun r w' => w'.ownsRow w.heap.size 4 1 r bs.length ((aheadL n bs).map Value.bool) ∧ Ext w w' := by
  have hn0 := hn
  obtain ⟨m, sv, rfl, hs⟩ := hn
  apply F77_wp
  unfold F77_den
  refine bxK fun w1 h1 x1 => ?_
  refine bsl xe_78 [] rfl rfl (by simp) rfl fun v0 w2 ho2 x2 => ?_
  have x12 := x1.trans x2
  refine apO xe_78 ho2 (hb.ext x12) (by simp [oneC]) (by omega) (by unfold maxLen; omega) x2.size fun ov w3 ho3 hg3 => ?_
  have x3 : Ext w w3 := x12.grown hg3 fun k hk => Nat.le_trans x1.size (ho2.lt k hk).1
  have h3 := (h1.ext x2).grown hg3 (own_blk ho2 h1.lt)
  simp only [Nat.zero_add, List.nil_append] at ho3
  refine ⟨fun w' => w'.ownsRow w1.heap.size 4 1 ov bs.length ((killL n.df bs).map Value.bool) ∧ Ext w w' ∧ Blk w' w.heap.size (n.pcs m sv) 92, ?_, ?_⟩
  · refine ldA h3.boxed la_92 rfl ?_
    refine (def36_ok (hn0.ext x3)).mono fun r w4 ⟨hr, x4⟩ => ?_
    subst hr
    refine V_geq.2 (ifD_dec (fun hge => ?_) fun hlt => ?_)
    · have hge' : 0 ≤ n.df := hge
      refine stO xa_78 inf4 (x4.own ho3) hge' hd rfl fun w5 ho5 hg => ?_
      rw [map_set_b] at ho5
      refine ⟨?_, (x3.trans x4).grown hg fun k hk => Nat.le_trans x1.size (ho3.lt k hk).1, (h3.ext x4).grown hg (own_blk ho3 h1.lt)⟩
      unfold killL
      rw [if_pos hge']
      exact ho5
    · refine ⟨?_, x3.trans x4, h3.ext x4⟩
      unfold killL
      rw [if_neg (by simpa using hlt)]
      exact x4.own ho3
  rintro w4 ⟨ho4, x4, h4⟩ _
  obtain ⟨sa, sc, rfl⟩ := hs.shape
  refine ⟨fun v w' => ∃ j : Nat, v = i64 j ∧ j ≤ n.us.length ∧ Ext w w' ∧ Blk w' w.heap.size (n.pcs m (.slice sa n.us.length sc)) 92 ∧ w'.ownsRow w1.heap.size 4 1 ov bs.length (((n.us.take j).foldl (fun a r => a.set r.toNat true) (killL n.df bs)).map Value.bool),
    fun v _ => n.us.length - (RowKit.intOf v).toNat, ⟨0, rfl, by omega, x4, h4, by simpa using ho4⟩, ?_⟩
  rintro _ w5 ⟨j, rfl, hj, x5, h5, ho5⟩ _
  have hs5 := hs.ext x5
  refine ldB h5.boxed fa_92_7 l1_23 rfl (lnx xa_23 hs5 ?_)
  refine V_lss.2 (ifD_dec (fun hlt => ?_) fun hge => ?_)
  · have hlt' : j < n.us.length := by omega
    obtain ⟨u, hu'⟩ := ex_get hlt'
    obtain ⟨hu0, hu1⟩ := hu u (List.mem_of_getElem? hu')
    refine ldB h5.boxed fa_92_7 l1_23 rfl ?_
    refine ldx xa_23 l1_3 hs5 (by omega) (by omega) (getI hu') ?_
    refine stO xa_78 inf4 ho5 hu0 (by omega) rfl fun w6 ho6 hg => ?_
    refine V_add.2 ?_
    rw [wrap_id (by omega) (by omega), i64_succ]
    rw [map_set_b] at ho6
    refine ⟨⟨j + 1, rfl, by omega, x5.grown hg fun k hk => Nat.le_trans x1.size (ho5.lt k hk).1, h5.grown hg (own_blk ho5 h1.lt), ?_⟩, by simp only [intOf_i64]; omega⟩
    rw [List.take_add_one, hu']
    simpa using ho6
  · have hju : j = n.us.length := by omega
    subst hju
    rw [List.take_length] at ho5
    exact ⟨own_mono ho5 x1.size, x5⟩
end Go.Proofs.YtcdbikfnlggbnaaGreatDoor
namespace Go.Proofs.YtcdbikfnlggbnaaGreatDoor
open Go.Vc
set_option maxHeartbeats 1600000 in
theorem sweepP {p : GProg} {N R : Nat} {w0 : World} {b g0 : Nat} {cs : List Value} {gs : List Nat} {m0 : Mx} (hN : gs.length = N) (hN2 : N ≤ 250) (hR1 : R ≤ 40) (hc1 : cs[1]? = some (i64 R))
    {k g : Nat} (hkN : k < N) (hg : gs[k]? = some g) {av : Value} {A : List Bool} {B : Nat} (hA : A.length = R) (hgB : ∀ g ∈ gs, g < B)
    (hal : ∀ r, A[r]? = some true → Alive p k r) {Q : Value → World → Prop} {w : World} {f : Bool} {m : Mx} (hst : St w0 w b cs g0 gs R m) (hsw : Swp p N R m0 m f)
    (ha : w.ownsRow B 4 1 av R (A.map Value.bool))
    (hQ : ∀ (f' : Bool) (m' : Mx) w', St w0 w' b cs g0 gs R m' → Swp p N R m0 m' f' → (f = true → f' = true) → (f' = false → ∀ r, A[r]? = some true → m0 k r = true) → Ext w0 w' → (∀ B' e size n v xs, w.ownsRow B' e size n v xs → (∀ g ∈ gs, g < B') → w'.ownsRow B' e size n v xs) → Q (.bool f') w') :
    ∃ (I5 : NP 2) (μ5 : NF 2), I5 (.bool f) (Value.int IntKind.i64 0) w ∧
      ∀ (t5_3 : Value) (t10 : Value), ∀ w32 : World, I5 t5_3 t10 w32 → ∀ _f : Env,
      V Tryz.prog (Instr.fieldAt 56 (.pointer (some ⟨b, 0, none⟩)) 1) w32 fun t66 w33 =>
      V Tryz.prog (Instr.loadAt 3 t66) w33 fun t67 w34 =>
      V Tryz.prog (binOp .lss 3 t10 t67) w34 fun t68 w35 =>
      ifD t68 (
      V Tryz.prog (Instr.indexAt 78 av t10) w35 fun t73 w36 =>
      V Tryz.prog (Instr.loadAt 4 t73) w36 fun t74 w37 =>
      gd t74 true (fun K => K (.slice (some ⟨g0, 0, none⟩) N N) w37) w37 fun t76 w38 =>
      gd t74 true (fun K => K (i64 k) w38) w38 fun t77 w39 =>
      gd t74 true (fun K => V Tryz.prog (Instr.indexAt 98 t76 t77) w39 K) w39 fun t78 w40 =>
      gd t74 true (fun K => V Tryz.prog (Instr.loadAt 78 t78) w40 K) w40 fun t79 w41 =>
      gd t74 true (fun K => K t10 w41) w41 fun t80 w42 =>
      gd t74 true (fun K => V Tryz.prog (Instr.indexAt 78 t79 t80) w42 K) w42 fun t81 w43 =>
      gd t74 true (fun K => V Tryz.prog (Instr.loadAt 4 t81) w43 K) w43 fun t82 w44 =>
      gd t74 true (fun K => V Tryz.prog (Op.unary UnOp.not t82) w44 K) w44 fun t83 w45 =>
      pickD t74 t83 (Value.bool false) fun t84 =>
      ifD t84 (
      V Tryz.prog (Instr.indexAt 98 (.slice (some ⟨g0, 0, none⟩) N N) (i64 k)) w45 fun t87 w47 =>
      V Tryz.prog (Instr.loadAt 78 t87) w47 fun t88 w48 =>
      V Tryz.prog (Instr.indexAt 78 t88 t10) w48 fun t90 w49 =>
      U Tryz.prog (Instr.storeAt 4 t90 (Value.bool true)) w49 fun _ w50 =>
      V Tryz.prog (binOp .add 3 t10 (Value.int IntKind.i64 1)) w50 fun t70 w51 =>
      I5 (Value.bool true) t70 w51 ∧ μ5 (Value.bool true) t70 w51 < μ5 t5_3 t10 w32) (
      V Tryz.prog (binOp .add 3 t10 (Value.int IntKind.i64 1)) w45 fun t70_1 w52 =>
      I5 t5_3 t70_1 w52 ∧ μ5 t5_3 t70_1 w52 < μ5 t5_3 t10 w32)) (
      Q t5_3 w35) := by
  have hgm := List.mem_of_getElem? hg
  refine ⟨fun v1 v2 w' => ∃ (f' : Bool) (r : Nat) (m' : Mx), v1 = .bool f' ∧ v2 = i64 r ∧ r ≤ R ∧ St w0 w' b cs g0 gs R m' ∧ Swp p N R m0 m' f' ∧ (f = true → f' = true) ∧ (f' = false → ∀ j, j < r → A[j]? = some true → m0 k j = true) ∧
      w'.ownsRow B 4 1 av R (A.map Value.bool) ∧ (∀ B' e size n v xs, w.ownsRow B' e size n v xs → (∀ g ∈ gs, g < B') → w'.ownsRow B' e size n v xs), fun _ v2 _ => R - (RowKit.intOf v2).toNat,
    ⟨f, 0, m, rfl, rfl, Nat.zero_le _, hst, hsw, id, fun _ j hj => by omega, ha, fun _ _ _ _ _ _ h _ => h⟩, ?_⟩
  rintro _ _ w1 ⟨f', r, m', rfl, rfl, hr, hst', hsw', hff, hcl, ha', hkeep⟩ _
  refine ldB hst'.box fa_56_1 l1_3 hc1 ?_
  refine V_lss.2 (ifD_dec (fun hlt => ?_) fun hge => ?_)
  · have hr' : r < R := by omega
    obtain ⟨a, haa⟩ := ex_get (l := A) (j := r) (by omega)
    refine ldO' xa_78 l1_4 ha' (by omega) (by omega) (getB haa) ?_
    have hrow := hst'.rows k g hg
    have hslO : SliceIs w1 (.slice (some ⟨g0, 0, none⟩) N N) 1 N (gs.map (sl R)) := hst'.out.slice (by simpa using hN) (by unfold maxLen; omega)
    have hslR : SliceIs w1 (sl R g) 1 R ((rowL m' k R).map Value.bool) := hrow.slice (by simp [rowL_len]) (by unfold maxLen; omega)
    have hgk : (gs.map (sl R))[((k : Nat) : Int).toNat]? = some (sl R g) := by simp [hg]
    have hmk : ((rowL m' k R).map Value.bool)[((r : Nat) : Int).toNat]? = some (.bool (m' k r)) := by simp [rowL_get hr']
    have flag : ∀ {Z : Value → World → Prop}, Z (.bool (a && !m' k r)) w1 →
        (gd (.bool a) true (fun K => K (.slice (some ⟨g0, 0, none⟩) N N) w1) w1 fun t76 w38 =>
      gd (.bool a) true (fun K => K (i64 k) w38) w38 fun t77 w39 =>
      gd (.bool a) true (fun K => V Tryz.prog (Instr.indexAt 98 t76 t77) w39 K) w39 fun t78 w40 =>
      gd (.bool a) true (fun K => V Tryz.prog (Instr.loadAt 78 t78) w40 K) w40 fun t79 w41 =>
      gd (.bool a) true (fun K => K (i64 r) w41) w41 fun t80 w42 =>
      gd (.bool a) true (fun K => V Tryz.prog (Instr.indexAt 78 t79 t80) w42 K) w42 fun t81 w43 =>
      gd (.bool a) true (fun K => V Tryz.prog (Instr.loadAt 4 t81) w43 K) w43 fun t82 w44 =>
      gd (.bool a) true (fun K => V Tryz.prog (Op.unary UnOp.not t82) w44 K) w44 fun t83 w45 =>
      pickD (.bool a) t83 (Value.bool false) fun t84 => Z t84 w45) := by
      intro Z hZ
      cases a with
      | false => simp only [gd_ft, pickD_iff, Bool.false_eq_true, reduceIte]; simpa using hZ
      | true =>
        simp only [gd_t]
        refine ldx xa_98 l1_78 hslO (by omega) (by omega) hgk ?_
        refine ldx xa_78 l1_4 hslR (by omega) (by omega) hmk ?_
        simp only [V_not, pickD_iff, reduceIte]
        simpa using hZ
    refine flag ?_
    refine ifD.mk (fun ht => ?_) fun hf => ?_
    · have ha1 : a = true := by cases a with | true => rfl | false => cases ht
      have hm0 : m' k r = false := by cases hm : m' k r with | false => rfl | true => rw [hm, Bool.not_true, Bool.and_false] at ht; cases ht
      refine ldx xa_98 l1_78 hslO (by omega) (by omega) hgk ?_
      refine V.ok (r_ix_78 (by omega) (by omega)) ?_
      refine U.ok (r_store inf4 rfl (u := .bool (m' k r)) ?_ ?_) ?_
      · have := hrow.cell r
        rw [List.getElem?_map, rowL_get hr'] at this
        simpa using this
      · exact hrow.frozen _
      · refine V_add.2 ?_
        rw [wrap_id (by omega) (by omega), i64_succ]
        have hset := hst'.set hg r true
        have hk' : ∀ {B' e size n v xs}, w1.ownsRow B' e size v n xs → (∀ g ∈ gs, g < B') → (w1.setCell ⟨g, 0 + (r : Int).toNat * 1, none⟩ (.bool true)).ownsRow B' e size v n xs := by
          intro B' e size n v xs h hB
          refine h.kept (row := some g) ⟨rfl, rfl, rfl, by simp, fun i _ hi => heap_setCell_other _ _ _ _ (fun he => hi (by simp [he]))⟩ (own_ne h fun x hx => ?_)
          cases hx
          exact hB g hgm
        have hst2 := hsw'.step hkN hr' a (fun h => hal r (by rw [haa, h]))
        rw [ha1, hm0] at hst2
        simp only [Bool.not_false, Bool.and_self, Bool.or_true] at hst2
        refine ⟨⟨true, r + 1, updM m' k r true, rfl, rfl, by omega, by simpa using hset, hst2, fun _ => rfl, (fun h => by cases h), hk' ha' hgB, fun B' e size n v xs h hB => hk' (hkeep B' e size n v xs h hB) hB⟩, by simp only [intOf_i64]; omega⟩
    · refine V_add.2 ?_
      rw [wrap_id (by omega) (by omega), i64_succ]
      refine ⟨⟨f', r + 1, m', rfl, rfl, by omega, hst', hsw', hff, fun hf0 j hj hAj => ?_, ha', hkeep⟩, by simp only [intOf_i64]; omega⟩
      by_cases hjr : j = r
      · subst hjr
        rw [haa] at hAj
        cases hAj
        have : m' k j = true := by simpa using hf
        rw [← hsw'.no hf0]
        exact this
      · exact hcl hf0 j (by omega) hAj
  · refine hQ f' m' w1 hst' hsw' hff (fun hf r' hr' => hcl hf r' ?_ hr') hst'.x hkeep
    have := (List.getElem?_eq_some_iff.1 hr').1
    omega

set_option maxHeartbeats 1600000 in
theorem behindP_ok {p : GProg} {R : Nat} {pv : Value} {w : World} (hp : PProgIs w pv p.params p.regs p.nodes) (hargs : ∀ n ∈ p.nodes, n.args.length ≤ 4294967296) (hv : OkProg p) (hR : p.regs = R) :
    callD Tryz.prog 40 #[pv] w fun r w' => (∃ m, MatIs w' r p.nodes.length R m ∧ ∀ k r, k < p.nodes.length → r < R → (m k r = true ↔ Alive p k r)) ∧ Ext w w' := by
  obtain ⟨ns, cs, rfl, hs, hel⟩ := hp
  have hl1 := hv.l1; have hl2 := hv.l2; have hr1 := hv.r1; have hr2 := hv.r2
  have hat := fun {k : Nat} (hk : k < p.nodes.length) => hv.at hk
  generalize hN : p.nodes.length = N at *
  apply F40_wp
  unfold F40_den
  refine bx fun b w1 hb x1 => ?_
  have hb2 := hb
  have X2 := x1
  obtain ⟨na, nc, rfl⟩ := hs.shape
  refine ldB hb2 fa_56_2 l1_54 rfl (lnx xa_54 (hs.ext X2) ?_)
  refine mkB Tryz.underlying98 inf78 rfl (n := N) (by omega) (by omega) fun w3 ho x3 hsz3 => ?_
  have hbB : b < w1.heap.size := by
    have := hb2 0 (i64 p.params) rfl
    exact World.block_lt_of_cell? _ _ this
  have hlo : w.heap.size ≤ w1.heap.size := X2.size
  generalize w1.heap.size = g0 at *
  have X3 := X2.trans x3
  -- the rows are made
  refine ⟨fun v w' => ∃ gs : List Nat, v = i64 gs.length ∧ gs.length ≤ N ∧ Ext w w' ∧ Boxed w' b [i64 p.params, i64 p.regs, .slice na N nc] ∧ (∀ g ∈ gs, g0 < g) ∧ gs.Nodup ∧ (∀ g ∈ gs, g < w'.heap.size) ∧
      Blk w' g0 (gs.map (sl R) ++ List.replicate (N - gs.length) (.slice none 0 0)) 78 ∧ ∀ g ∈ gs, Blk w' g (List.replicate R (.bool false)) 4,
    fun v _ => N - (RowKit.intOf v).toNat, ⟨[], rfl, Nat.zero_le _, X3, hb2.ext x3, by simp, List.nodup_nil, by simp, by simpa using ho, by simp⟩, ?_⟩
  rintro _ w4 ⟨gs, rfl, hle, x4, hb4, hgg, hnd, hlt4, ho4, hrows4⟩ _
  refine V_ln_98.2 ?_
  refine V_lss.2 (ifD_dec (fun hlt => ?_) fun hge => ?_)
  · refine ldB hb4 fa_56_1 l1_3 rfl ?_
    refine mkBv hR Tryz.underlying78 inf4 rfl (n := R) (by omega) (by omega) fun w5 hrow x5 hsz5 => ?_
    refine stB xa_98 inf78 (ho4.ext x5) (by simp; omega) (by omega) (by omega) rfl ?_
    refine V_add.2 ?_
    rw [wrap_id (by omega) (by omega), i64_succ]
    simp only [Int.toNat_natCast]
    have hset := (ho4.ext x5).set gs.length (sl R w4.heap.size)
    rw [set_rows R _ gs N (by omega)] at hset
    have hg0 := ho4.lt
    refine ⟨⟨gs ++ [w4.heap.size], by simp, by simp; omega, (x4.trans x5).setCell hlo _, Boxed.other (g := g0) (hb4.ext x5) (by omega), ?_, ?_, ?_, hset, ?_⟩, by simp only [intOf_i64]; omega⟩
    · intro g hg
      rcases List.mem_append.1 hg with h | h
      · exact hgg g h
      · have : g = w4.heap.size := by simpa using h
        omega
    · refine List.nodup_append.2 ⟨hnd, by simp, ?_⟩
      intro a ha c hc
      have : c = w4.heap.size := by simpa using hc
      have := hlt4 a ha
      omega
    · intro g hg
      simp only [World.size_setCell]
      rcases List.mem_append.1 hg with h | h
      · have := hlt4 g h; omega
      · have : g = w4.heap.size := by simpa using h
        omega
    · intro g hg
      rcases List.mem_append.1 hg with h | h
      · exact ((hrows4 g h).ext x5).other (by have := hgg g h; omega)
      · have he : g = w4.heap.size := by simpa using h
        subst he
        exact hrow.other (by omega)
  have hgl : gs.length = N := by omega
  rw [hgl, Nat.sub_self] at ho4
  simp only [List.replicate_zero, List.append_nil] at ho4
  have hst0 : St w w4 b [i64 p.params, i64 p.regs, .slice na N nc] g0 gs R (fun _ _ => false) :=
    ⟨x4, hb4, hlo, hbB, hgg, hnd, ho4, fun k g hk => by rw [rowL_false]; exact hrows4 g (List.mem_of_getElem? hk)⟩
  clear hrows4 ho4 hlt4 hle hge hb4 x4
  have hslO : ∀ {w' m}, St w w' b [i64 p.params, i64 p.regs, .slice na N nc] g0 gs R m → SliceIs w' (.slice (some ⟨g0, 0, none⟩) N N) 1 N (gs.map (sl R)) := fun h => h.out.slice (by simpa using hgl) (by unfold maxLen; omega)
  have hslR : ∀ {w' m k g}, St w w' b [i64 p.params, i64 p.regs, .slice na N nc] g0 gs R m → gs[k]? = some g → SliceIs w' (sl R g) 1 R ((rowL m k R).map Value.bool) := fun h hk => (h.rows _ _ hk).slice (by simp [rowL_len]) (by unfold maxLen; omega)
  have hglt : ∀ {w' m}, St w w' b [i64 p.params, i64 p.regs, .slice na N nc] g0 gs R m → ∀ g ∈ gs, g < w'.heap.size := fun h g hg => by
    obtain ⟨k, hk⟩ := List.getElem?_of_mem hg
    exact (h.rows k g hk).lt
  -- round after round
  refine ⟨fun v w' => ∃ (f : Bool) (m : Mx), v = .bool f ∧ St w w' b [i64 p.params, i64 p.regs, .slice na N nc] g0 gs R m ∧ Snd p m ∧ (f = false → ∀ k < N, Done p R m k),
    fun v w' => 2 * cntM (readM gs w') R gs.length + (match v with | .bool true => 1 | _ => 0), ⟨true, _, rfl, hst0, (fun _ _ h => by cases h), (fun h => by cases h)⟩, ?_⟩
  rintro _ w5 ⟨f0, m0, rfl, hst, hsnd, hcl⟩ _
  refine ifD.mk (fun hf => ?_) fun hf => ?_
  rotate_left
  · refine ⟨⟨m0, ⟨g0, gs, rfl, hgl, hst.out, hst.rows⟩, fun k r hk hr => ⟨hsnd k r, fun h => ?_⟩⟩, hst.x⟩
    exact alive_of_done hN.symm (fun i n hn => hR ▸ hN ▸ hv.nodes i n hn) (hcl hf) h hk hr
  subst hf
  refine ldB hst.box fa_56_2 l1_54 rfl (lnx xa_54 (hs.ext hst.x) (V_sub.2 ?_))
  rw [wrap_id (by omega) (by omega)]
  refine ⟨fun v1 v2 w' => ∃ (f : Bool) (kk : Int) (m : Mx), v1 = .bool f ∧ v2 = i64 kk ∧ -1 ≤ kk ∧ kk < N ∧ St w w' b [i64 p.params, i64 p.regs, .slice na N nc] g0 gs R m ∧ Swp p N R m0 m f ∧ (f = false → ∀ k : Nat, kk < k → k < N → Done p R m0 k),
    fun _ v2 _ => (RowKit.intOf v2 + 1).toNat, ⟨false, _, m0, rfl, rfl, by omega, by omega, hst, ⟨fun _ _ h => h, hsnd, fun _ => rfl, (fun h => by cases h)⟩, fun _ k h1 h2 => by omega⟩, ?_⟩
  rintro _ _ w6 ⟨f, kk, m, rfl, rfl, hk1, hk2, hst6, hsw6, hcl6⟩ _
  refine V_geq.2 (ifD_dec (fun hge => ?_) fun hlt => ?_)
  rotate_left
  · -- the sweep is over
    have hkk : kk = -1 := by have : ¬ 0 ≤ kk := hlt; omega
    refine ⟨⟨f, m, rfl, hst6, hsw6.snd, fun hf k hk => ?_⟩, ?_⟩
    · rw [hsw6.no hf]; exact hcl6 hf k (by omega) hk
    · show 2 * cntM (readM gs w6) R gs.length + _ < 2 * cntM (readM gs w5) R gs.length + 1
      rw [hst6.cnt, hst.cnt]
      cases f with
      | false =>
        have := cntM_le hsw6.le R gs.length
        show 2 * _ + 0 < _
        omega
      | true =>
        obtain ⟨k, r, h1, h2, h3, h4⟩ := hsw6.yes rfl
        have := cntM_lt hsw6.le h2 h3 h4 gs.length (by omega)
        show 2 * _ + 1 < _
        omega
  have hge' : 0 ≤ kk := hge
  obtain ⟨k, rfl⟩ := Int.eq_ofNat_of_zero_le hge'
  have hk : k < N := by omega
  obtain ⟨g, hg⟩ := ex_get (l := gs) (j := k) (by omega)
  obtain ⟨hpk, hrk⟩ := hat hk
  obtain ⟨um, usv, hue, hui⟩ := hel k _ hpk
  refine ldB hst6.box fa_56_2 l1_54 rfl ?_
  refine ldxA xa_54 la_92 (hs.ext hst6.x) (by omega) (by omega) hue rfl ?_
  refine (nextP_ok (g := p.at' k) ⟨um, usv, rfl, hui.ext hst6.x⟩ (by omega) (by omega)).mono fun tl w7 ⟨htl, x7⟩ => ?_
  have hst7 := hst6.ext x7
  have hlen := nx_len (p.at' k) k
  refine ⟨fun v1 v2 w' => ∃ (f' : Bool) (j : Nat) (m' : Mx), v1 = .bool f' ∧ v2 = i64 j ∧ j ≤ ((p.at' k).nx k).length ∧ St w w' b [i64 p.params, i64 p.regs, .slice na N nc] g0 gs R m' ∧ Swp p N R m0 m' f' ∧ (f = true → f' = true) ∧
      (f' = false → ∀ (i : Nat) (to : Nat), i < j → ((p.at' k).nx k)[i]? = some (to : Int) → ∀ r < R, AheadP p (fun a b => m0 a b = true) to r → m0 k r = true) ∧ w'.ownsRow w6.heap.size 3 1 tl ((p.at' k).nx k).length (((p.at' k).nx k).map i64),
    fun _ v2 _ => ((p.at' k).nx k).length - (RowKit.intOf v2).toNat, ⟨f, 0, m, rfl, rfl, Nat.zero_le _, hst7, hsw6, id, fun _ i to hi => by omega, htl⟩, ?_⟩
  rintro _ _ w8 ⟨f', j, m', rfl, rfl, hj, hst8, hsw8, hff, hcl8, htl8⟩ _
  refine lnx xa_23 (SliceIs.of_own htl8) ?_
  refine V_lss.2 (ifD_dec (fun hjlt => ?_) fun hjge => ?_)
  rotate_left
  · refine V_sub.2 ?_
    rw [wrap_id (by omega) (by omega)]
    refine ⟨⟨f', (k : Int) - 1, m', rfl, rfl, by omega, by omega, hst8, hsw8, fun hf k' hk' hkN => ?_⟩, by simp only [intOf_i64]; omega⟩
    by_cases he : k' = k
    · subst he
      intro to hto r hr ha
      obtain ⟨i, hi⟩ := List.getElem?_of_mem hto
      have hi' := (List.getElem?_eq_some_iff.1 hi).1
      exact hcl8 hf i to (by omega) hi r hr ha
    · have hf0 : f = false := by cases f with | false => rfl | true => rw [hff rfl] at hf; cases hf
      exact hcl6 hf0 k' (by omega) hkN
  obtain ⟨to, hto⟩ := ex_get (l := (p.at' k).nx k) (j := j) (by omega)
  have htor := hrk.t to (List.mem_of_getElem? hto)
  obtain ⟨to, rfl⟩ := Int.eq_ofNat_of_zero_le htor.1
  have htoN : to < N := by omega
  obtain ⟨hpt, hrt⟩ := hat htoN
  obtain ⟨tm, tsv, hte, hti⟩ := hel to _ hpt
  obtain ⟨gt, hgt⟩ := ex_get (l := gs) (j := to) (by omega)
  have htlS : SliceIs w8 tl 1 ((p.at' k).nx k).length (((p.at' k).nx k).map i64) := SliceIs.of_own htl8
  refine drawD.mk' (fun w' => Ext w8 w') (Ext.refl _).drew ?_
  refine yfB (fun w' hw => hst8.box.ext hw) fa_56_2 l1_54 rfl ?_
  refine ySl xa_23 l1_3 htlS (fun _ h => h) (by omega) (by omega) (getI hto) ?_
  refine yldxA xa_54 la_92 (hs.ext hst8.x) (fun _ h => h) (by omega) (by omega) hte rfl ?_
  refine ySl xa_23 l1_3 htlS (fun _ h => h) (by omega) (by omega) (getI hto) ?_
  refine ySl xa_98 l1_78 (hslO hst8) (fun _ h => h) (by omega) (by omega) (by simp [hgt] : (gs.map (sl R))[((to : Nat) : Int).toNat]? = some (sl R gt)) ?_
  have hrl := rowL_len m' to R
  have hdf : (p.at' to).df < R := by rcases hrt.d with h | h <;> omega
  have hus : ∀ r ∈ (p.at' to).us, 0 ≤ r ∧ r < ((rowL m' to R).length : Int) := fun r hr => by have := hrt.u r hr; rw [hrl]; omega
  have hrow8 : BoolsAre w8.drew (sl R gt) (rowL m' to R) := by
    have := (hslR hst8 hgt).ext (Ext.refl _).drew
    unfold BoolsAre
    rw [hrl]; exact this
  refine (in31_ok (n := p.at' to) ⟨tm, tsv, rfl, hti.ext (hst8.x.trans (Ext.refl _).drew)⟩ hrow8 (by have := hargs _ (List.mem_of_getElem? hpt); have := us_len (p.at' to); omega) (by omega) (by rw [hrl]; exact hdf) hus).mono fun av w9 ⟨hav, x9⟩ => ?_
  have x9' : Ext w8 w9 := Ext.trans (Ext.refl _).drew x9
  refine ⟨x9', ?_⟩
  rw [hrl] at hav
  have hst9 := hst8.ext x9'
  have hag : ∀ r, r < R → (aheadL (p.at' to) (rowL m' to R))[r]? = some (decide ((r : Int) ∈ (p.at' to).us) || (decide ((r : Int) ≠ (p.at' to).df) && m' to r)) := fun r hr => by
    rw [aheadL_get (by rw [hrl]; exact hr) (fun x hx => (hus x hx).1)]
    congr 3
    rw [List.getD_eq_getElem?_getD, rowL_get hr]; rfl
  have hagT : ∀ r, r < R → ((aheadL (p.at' to) (rowL m' to R))[r]? = some true ↔ AheadP p (fun a b => m' a b = true) to r) := fun r hr => by
    rw [hag r hr]
    simp [AheadP]
  refine sweepP hgl hl2 (by omega) (by rw [hR]; rfl) hk hg (A := aheadL (p.at' to) (rowL m' to R)) (by rw [aheadL_len, hrl]) (hglt hst8) (fun r hr => ?_) hst9 hsw8 hav ?_
  · have hrR : r < R := by have := (List.getElem?_eq_some_iff.1 hr).1; rw [aheadL_len, hrl] at this; exact this
    rw [hagT r hrR] at hr
    rcases hr with h | ⟨h1, h2⟩
    · exact .use (List.mem_of_getElem? hto) h
    · exact .pass (List.mem_of_getElem? hto) h1 (hsw8.snd _ _ h2)
  · intro f'' m'' w10 hst10 hsw10 hff10 hcl10 _ hkeep
    refine V_add.2 ?_
    rw [wrap_id (by omega) (by omega), i64_succ]
    refine ⟨⟨f'', j + 1, m'', rfl, rfl, by omega, hst10, hsw10, fun h => hff10 (hff h), fun hf i to' hi hto' r hr ha => ?_, hkeep _ _ _ _ _ _ (x9'.own htl8) (fun g hg => hglt hst6 g hg)⟩, by simp only [intOf_i64]; omega⟩
    by_cases hij : i = j
    · subst hij
      rw [hto] at hto'
      have : (to : Int) = to' := by simpa using hto'
      have : to = to' := by omega
      subst this
      have hf' : f' = false := by cases f' with | false => rfl | true => rw [hff10 rfl] at hf; cases hf
      refine hcl10 hf r ?_
      rw [hagT r hr, hsw8.no hf']
      exact ha
    · have hf' : f' = false := by cases f' with | false => rfl | true => rw [hff10 rfl] at hf; cases hf
      exact hcl8 hf' i to' (by omega) hto' r hr ha
end Go.Proofs.YtcdbikfnlggbnaaGreatDoor
namespace Go.Proofs.YtcdbikfnlggbnaaGreatDoor
open Go.Vc
theorem PProgIs.ext {w w' : World} {v : Value} {params regs : Int} {gs : List GNode} (h : PProgIs w v params regs gs) (hx : Ext w w') : PProgIs w' v params regs gs := by
  obtain ⟨ns, cs, h1, h2, h3⟩ := h
  refine ⟨ns, cs, h1, h2.ext hx, fun i g hg => ?_⟩
  obtain ⟨m, sv, h4, h5⟩ := h3 i g hg
  exact ⟨m, sv, h4, h5.ext hx⟩
/-- A row is what it tells. -/
theorem bools_eq {l l' : List Bool} {R : Nat} (h1 : l.length = R) (h2 : l'.length = R) (h : ∀ r, r < R → (l[r]? = some true ↔ l'[r]? = some true)) : l = l' := by
  apply List.ext_getElem?
  intro r
  by_cases hr : r < R
  · obtain ⟨a, ha⟩ := ex_get (l := l) (j := r) (by omega)
    obtain ⟨b, hb⟩ := ex_get (l := l') (j := r) (by omega)
    have := h r hr
    rw [ha, hb] at this
    rw [ha, hb]
    cases a <;> cases b <;> simp_all
  · rw [List.getElem?_eq_none (by omega), List.getElem?_eq_none (by omega)]
set_option maxHeartbeats 1600000 in
theorem aheadP_ok {p : GProg} {R : Nat} {pv : Value} {w : World} (hp : PProgIs w pv p.params p.regs p.nodes) (hargs : ∀ n ∈ p.nodes, n.args.length ≤ 4294967296) (hv : OkProg p) (hR : p.regs = R) :
    callD Tryz.prog 43 #[pv] w fun r w' => (∃ l : List Bool, l.length = R ∧ w'.ownsRow w.heap.size 4 1 r R (l.map Value.bool) ∧ ∀ r < R, (l[r]? = some true ↔ AheadP p (Alive p) 0 r)) ∧ Ext w w' := by
  have hp0 := hp
  obtain ⟨ns, cs0, rfl, hs, hel⟩ := hp
  have hl1 := hv.l1; have hl2 := hv.l2; have hr1 := hv.r1; have hr2 := hv.r2
  obtain ⟨hpt, hrt⟩ := hv.at (k := 0) (by omega)
  obtain ⟨um, usv, hue, hui⟩ := hel 0 _ hpt
  apply F43_wp
  unfold F43_den
  refine bx fun b w1 hb x1 => ?_
  refine drawD.mk' (fun w' => Ext w1 w') (Ext.refl _).drew ?_
  refine yfB (fun w' hw => hb.ext hw) fa_56_2 l1_54 rfl ?_
  refine yldxA xa_54 la_92 (hs.ext x1) (fun _ h => h) (by omega) (by omega) hue rfl ?_
  refine yA (fun w' hw => hb.ext hw) la_56 rfl ?_
  refine (behindP_ok (hp0.ext (x1.trans (Ext.refl _).drew)) hargs hv hR).mono fun mv w3 ⟨⟨m, hm, ham⟩, x3⟩ => ?_
  have x3' : Ext w1 w3 := Ext.trans (Ext.refl _).drew x3
  refine ⟨x3', fun w' => Ext w3 w', fun w' h => x3'.trans h, Ext.refl _, ?_⟩
  obtain ⟨cs, hcs, hrow⟩ := hm.row hl2 (by omega)
  obtain ⟨rv, hrv, hrb⟩ := hrow 0 (by omega)
  refine ySl xa_98 l1_78 hcs (fun _ h => h) (by omega) (by omega) (by simpa using hrv) ?_
  have hdf : (p.at' 0).df < R := by rcases hrt.d with h | h <;> omega
  have hus : ∀ r ∈ (p.at' 0).us, 0 ≤ r ∧ r < ((rowL m 0 R).length : Int) := fun r hr => by have := hrt.u r hr; rw [rowL_len]; omega
  refine (in31_ok (n := p.at' 0) ⟨um, usv, rfl, hui.ext (x1.trans x3')⟩ hrb (by have := hargs _ (List.mem_of_getElem? hpt); have := us_len (p.at' 0); omega) (by rw [rowL_len]; omega) (by rw [rowL_len]; exact hdf) hus).mono fun av w4 ⟨hav, x4⟩ => ?_
  refine ⟨x4, fun w' => Ext w3 w', fun _ h => h, x4, ⟨⟨_, ?_, (by rw [rowL_len] at hav; exact own_mono hav (x1.trans x3').size), fun r hr => ?_⟩, (x1.trans x3').trans x4⟩⟩
  · rw [aheadL_len, rowL_len]
  · rw [aheadL_get (by rw [rowL_len]; exact hr) (fun x hx => (hus x hx).1)]
    rw [List.getD_eq_getElem?_getD, rowL_get hr]
    simp only [Option.getD_some, Option.some.injEq, Bool.or_eq_true, Bool.and_eq_true, decide_eq_true_eq]
    unfold AheadP
    rw [ham 0 r (by omega) hr]
end Go.Proofs.YtcdbikfnlggbnaaGreatDoor
namespace Go.Proofs.YtcdbikfnlggbnaaGreatDoor
open Go.Vc
theorem same_ok {l : List Bool} {a b : Value} {w : World} (ha : BoolsAre w a l) (hb : BoolsAre w b l) (hl : l.length ≤ 1000) : callD Tryz.prog 41 #[a, b] w fun r w' => r = .bool true ∧ Ext w w' := by
  apply F41_wp
  unfold F41_den
  obtain ⟨aa, ac, rfl⟩ := ha.shape
  obtain ⟨ba, bc, rfl⟩ := hb.shape
  refine V_ln_78.2 (V_ln_78.2 (V_neqI.2 (ifD_dec (fun h => absurd rfl h) fun _ => ?_)))
  refine ⟨fun v w' => ∃ i : Nat, v = i64 i ∧ i ≤ l.length ∧ Ext w w', fun v _ => l.length - (RowKit.intOf v).toNat, ⟨0, rfl, Nat.zero_le _, Ext.refl _⟩, ?_⟩
  rintro _ w1 ⟨i, rfl, hi, x1⟩ _
  refine V_ln_78.2 (V_lss.2 (ifD_dec (fun hlt => ?_) fun hge => ?_))
  · obtain ⟨u, hu⟩ := ex_get (l := l) (j := i) (by omega)
    refine drawD.mk' (fun w' => Ext w1 w') (Ext.refl _).drew ?_
    refine ySl xa_78 l1_4 (ha.ext x1) (fun _ h => h) (by omega) (by omega) (getB hu) ?_
    refine ySl xa_78 l1_4 (hb.ext x1) (fun _ h => h) (by omega) (by omega) (getB hu) ?_
    refine yieldS.ok (fun w' _ => r_neqBool Tryz.underlying4) ?_
    refine ifD.mk (fun h => by simp at h) fun _ => ?_
    refine V_add.2 ?_
    rw [wrap_id (by omega) (by omega), i64_succ]
    exact ⟨⟨i + 1, rfl, by omega, x1.trans (Ext.refl _).drew⟩, by simp only [intOf_i64]; omega⟩
  · exact ⟨rfl, x1⟩
end Go.Proofs.YtcdbikfnlggbnaaGreatDoor
namespace Go.Proofs.YtcdbikfnlggbnaaGreatDoor
open Go.Vc
theorem yNot {P : Program} {S : World → Prop} {L : Value → Prop} {b : Bool} (hk : L (.bool (!b))) : yieldS P S (Op.unary UnOp.not (.bool b)) L := yieldS.ok (fun _ _ => rfl) hk
set_option maxHeartbeats 1600000 in
theorem told_ok {p : GProg} {R : Nat} {pv : Value} {w : World} (hp : ProgIs w pv p) (hv : OkProg p) (hR : p.regs = R) :
    callD Tryz.prog 20 #[pv] w fun r w' => r = .bool true ∧ Ext w w' := by
  have hp0 := hp
  obtain ⟨ns0, rfl, hns0, hargs⟩ := hp
  have hl1 := hv.l1; have hl2 := hv.l2; have hr1 := hv.r1; have hr2 := hv.r2
  apply F20_wp
  unfold F20_den
  refine bx fun b1 w1 hb1 x1 => ?_
  refine ldA hb1 la_38 rfl ?_
  refine (plainProg_ok (hp0.ext x1) (by omega)).mono fun q w2 ⟨hq, x2⟩ => ?_
  have hq0 := hq
  obtain ⟨qs, qcs, rfl, hqs, hqel⟩ := hq
  obtain ⟨qa, qc, rfl⟩ := hqs.shape
  refine asB sa_56 rfl rfl fun b2 w3 hb2 x3 => ?_
  have x13 := x2.trans x3
  refine ldA (hb1.ext x13) la_38 rfl ?_
  refine (behind_ok (hp0.ext (x1.trans x13)) hv hR).mono fun av w4 ⟨⟨ma, hma, haa⟩, x4⟩ => ?_
  refine ldA (hb2.ext x4) la_56 rfl ?_
  refine (behindP_ok (hq0.ext (x3.trans x4)) hargs hv hR).mono fun bv w5 ⟨⟨mb, hmb, hbb⟩, x5⟩ => ?_
  obtain ⟨csa, hcsa, hrowa⟩ := (hma.ext x5).row hl2 (by omega)
  obtain ⟨csb, hcsb, hrowb⟩ := hmb.row hl2 (by omega)
  have X5 : Ext w w5 := ((x1.trans x13).trans x4).trans x5
  refine lnx xa_98 hcsa (lnx xa_98 hcsb (V_neqI.2 (ifD_dec (fun h => absurd rfl h) fun _ => ?_)))
  refine ⟨fun v w' => ∃ i : Nat, v = i64 i ∧ i ≤ p.nodes.length ∧ Ext w5 w', fun v _ => p.nodes.length - (RowKit.intOf v).toNat, ⟨0, rfl, Nat.zero_le _, Ext.refl _⟩, ?_⟩
  rintro _ w6 ⟨i, rfl, hi, x6⟩ _
  have D6 : Ext w6 w6.drew := (Ext.refl _).drew
  refine lnx xa_98 (hcsa.ext x6) (V_lss.2 (ifD_dec (fun hlt => ?_) fun hge => ?_))
  · have hi' : i < p.nodes.length := by omega
    obtain ⟨ua, hua, hra⟩ := hrowa i hi'
    obtain ⟨ub, hub, hrb⟩ := hrowb i hi'
    refine drawD.mk' (fun w' => Ext w6 w') D6 ?_
    refine ySl xa_98 l1_78 (hcsa.ext x6) (fun _ h => h) (by omega) (by omega) (by simpa using hua) ?_
    refine ySl xa_98 l1_78 (hcsb.ext x6) (fun _ h => h) (by omega) (by omega) (by simpa using hub) ?_
    have he : rowL mb i R = rowL ma i R := bools_eq (rowL_len _ _ _) (rowL_len _ _ _) fun r hr => by
      rw [rowL_get hr, rowL_get hr]
      simp only [Option.some.injEq]
      rw [haa i r hi' hr, hbb i r hi' hr]
    rw [he] at hrb
    refine (same_ok (hra.ext (x6.trans D6)) (hrb.ext (x6.trans D6)) (by rw [rowL_len]; omega)).mono fun r w7 ⟨hr, x7⟩ => ?_
    subst hr
    refine ⟨D6.trans x7, yNot (ifD_false.2 ?_)⟩
    refine V_add.2 ?_
    rw [wrap_id (by omega) (by omega), i64_succ]
    exact ⟨⟨i + 1, rfl, by omega, (x6.trans D6).trans x7⟩, by simp only [intOf_i64]; omega⟩
  · refine drawD.mk' (fun w' => Ext w6 w') D6 ?_
    have hb1' := hb1.ext (((x13.trans x4).trans x5).trans x6)
    have hb2' := hb2.ext ((x4.trans x5).trans x6)
    refine yA (fun w' hw => hb1'.ext hw) la_38 rfl ?_
    refine yA (fun w' hw => hb2'.ext hw) la_56 rfl ?_
    refine (Ahead_ok (hp0.ext ((X5.trans x6).trans D6)) hv hR).mono fun r1 w7 ⟨⟨la, hla, hba, hia⟩, x7⟩ => ?_
    refine ⟨D6.trans x7, ?_⟩
    refine (aheadP_ok (hq0.ext ((((x3.trans x4).trans x5).trans x6).trans (D6.trans x7))) hargs hv hR).mono fun r2 w8 ⟨⟨lb, hlb, hbb', hib⟩, x8⟩ => ?_
    refine ⟨(D6.trans x7).trans x8, ?_⟩
    have hbb' : BoolsAre w8 r2 lb := by unfold BoolsAre; rw [hlb]; exact SliceIs.of_own hbb'
    have he : lb = la := bools_eq hlb hla fun r hr => (hib r hr).trans (hia r hr).symm
    subst he
    refine (same_ok (hba.ext x8) hbb' (by omega)).mono fun r w9 ⟨hr, x9⟩ => ?_
    exact ⟨((D6.trans x7).trans x8).trans x9, hr, (X5.trans x6).trans (((D6.trans x7).trans x8).trans x9)⟩
end Go.Proofs.YtcdbikfnlggbnaaGreatDoor
namespace Go.Proofs.YtcdbikfnlggbnaaGreatDoor
open Go.Vc Go.Tc
variable {w : World} {K : Value → World → Prop}
theorem RightN.al {n : GNode} {k r c : Int} (h : RightN n k r c) : n.args.length ≤ 5 := by
  have hf := h.f
  cases n with
  | serve op a b d l =>
    have hf : serves op = l.length := hf
    unfold serves at hf
    show l.length ≤ 5
    split at hf
    · omega
    · split at hf
      · omega
      · split at hf
        · omega
        · split at hf <;> omega
  | call m d l => have := hf.2; show l.length ≤ 5; omega
  | callX m d l => have := hf.2; show l.length ≤ 5; omega
  | _ => exact Nat.zero_le _
/-- A lifted program, as it lies in memory. -/
theorem lift_progIs {i : Img} {k : Nat} {st : Tc.St} {r : List Bool} {nv : Value} (ok : OkProg ⟨(i.meth k).params.length, 18, liftP i (i.meth k) st r⟩) (hN : NodesAre w nv (liftP i (i.meth k) st r)) : ProgIs w (.agg #[i64 (i.meth k).params.length, i64 18, nv]) ⟨(i.meth k).params.length, 18, liftP i (i.meth k) st r⟩ :=
  ⟨nv, rfl, hN, fun n hn => by
    obtain ⟨a, ha⟩ := List.getElem?_of_mem hn
    have := (ok.nodes a n ha).al
    omega⟩
set_option maxHeartbeats 2000000 in
theorem lifts6 {rv : Value} {rl : List Rw} (hr : RwsAre w rv rl) (hb : BinsOk w) (hT : Tabs w) (rn : rl.length ≤ 5000000000000) (known : ∀ w, callD Tryz.prog 21 #[] w fun v w' => v = .bool true ∧ Ext w w') :
    callD Tryz.prog 6 #[rv] w fun v w' => v = .bool true ∧ Ext w w' := by
  apply F6_wp
  suffices key : ∀ R : Value → World → Prop, (∀ w', Ext w w' → R (.bool true) w') → F6_den rv w R from key _ fun _ hx => ⟨rfl, hx⟩
  intro R hR
  unfold F6_den
  refine bsl xe_64 [rv] rfl rfl (by simp) (by simp [hr.one]) fun v1 w1 ho1 x1 => ?_
  refine applets19 (ll := [rl]) ⟨[rv], SliceIs.of_own ho1, fun k l hkl => ?_⟩ (hb.ext x1) (hT.ext x1) fun v2 l w2 hl hl3 _ x2 => ?_
  · match k, hkl with
    | 0, hkl => cases hkl; exact ⟨rv, rfl, hr.ext x1, rn⟩
    | k + 1, hkl => simp at hkl
  have x02 := x1.trans x2
  refine ⟨fun v w' => ∃ j : Nat, v = i64 j ∧ j ≤ l.length ∧ Ext w2 w', fun v _ => l.length - (RowKit.intOf v).toNat, ⟨0, rfl, Nat.zero_le _, Ext.refl _⟩, ?_⟩
  rintro _ w3 ⟨j, rfl, hj, x3⟩ _
  refine lnS xa_62 (hl.ext x3) (V_lss.2 (ifD_dec (fun hlt => ?_) fun hge => ?_))
  case refine_2 => exact (known w3).mono fun v w4 ⟨hv, x4⟩ => by subst hv; exact hR _ ((x02.trans x3).trans x4)
  obtain ⟨x, hx⟩ := ex_get (l := l) (j := j) (by omega)
  obtain ⟨p, i⟩ := x
  refine ⟨fun v w' => ∃ k : Nat, v = i64 k ∧ k ≤ i.methods.length ∧ Ext w2 w', fun v _ => i.methods.length - (RowKit.intOf v).toNat, ⟨0, rfl, Nat.zero_le _, x3⟩, ?_⟩
  rintro _ w4 ⟨k, rfl, hk, x4⟩ _
  refine ldSF xa_62 fa_27_3 l1_25 (hl.ext x4) hx fun row ⟨hrow, hA, ht⟩ => ⟨p.mv, by rw [hrow]; rfl, by decide, ?_⟩
  have ml := ht.1.2.2.1.1.2
  refine lnS xa_25 hA.at_.mt (V_lss.2 (ifD_dec (fun hlt2 => ?_) fun hge2 => ?_))
  case refine_2 =>
    refine V_add.2 ?_
    rw [wrap_id (by omega) (by omega), i64_succ]
    exact ⟨⟨j + 1, rfl, by omega, x4⟩, by simp only [intOf_i64]; omega⟩
  refine ldS xa_62 la_27 (hl.ext x4) hx aplLen fun row2 ⟨hrow2, _, _⟩ => ?_
  subst hrow2
  refine lift12 (p := p) (i := i) hA.at_ hA.nm hA.rg (fun st r nv sv w8 _ h0 hkl hw Rc hN hS x8 => ?_) fun w8 hne x8 => absurd ⟨ht, by omega, by omega⟩ hne
  have ok := lift_okProg ht (by omega) hw Rc
  have hP := lift_progIs ok hN
  obtain ⟨na, nc, rfl⟩ : ∃ a c, nv = .slice a (liftP i (i.meth k) st r).length c := by obtain ⟨vs, h1, _⟩ := hN; exact SliceIs.shape h1
  refine V_tup (v := .agg #[i64 (i.meth k).params.length, i64 18, .slice na (liftP i (i.meth k) st r).length nc]) rfl (V_tup (v := sv) rfl (V_tup (v := .bool true) rfl ?_))
  refine asB sa_38 rfl rfl fun b9 w9 hb9 x9 => ?_
  have hb9 : Boxed w9 b9 [i64 (i.meth k).params.length, i64 18, .slice na (liftP i (i.meth k) st r).length nc] := hb9
  have x29 := (x4.trans x8).trans x9
  refine V_not.2 ?_
  simp only [Bool.not_true, evL, reduceIte, Bool.false_eq_true, Bool.not_true]
  refine ldA hb9 la_38 rfl ?_
  refine (told_ok (hP.ext x9) ok rfl).mono fun v w10 ⟨hv, x10⟩ => ?_
  subst hv
  refine V_not.2 ?_
  simp only [Bool.not_true, evL, Bool.not_true]
  refine V_add.2 ?_
  rw [wrap_id (by omega) (by omega), i64_succ]
  exact ⟨⟨k + 1, rfl, by omega, x29.trans x10⟩, by simp only [intOf_i64]; omega⟩
end Go.Proofs.YtcdbikfnlggbnaaGreatDoor
namespace Go.Vc
open Go.ChangeShapes Go.WideShapes Go.ChangeAt Go.RowKit
variable {H : Type} {enc : TypeId × Value → H} {P : Program}

theorem post_of_ext {f : Func} {s : ChangeSpec} {apart fresh handsOn again : Bool} {W W' : World} {args : Array Value} {v : Value} {ds gs : List (DataW H)} {pa pv : List MemPlace}
    (hW : DataW.Whole enc P f.params.toList s.vars apart W args.toList ds gs (pa ++ pv)) (hx : Ext W W')
    (hr : ∀ b sp hd, DataW.TrodAll enc P W' b sp hd f.resultTypes.toList (v.resultList f.resultTypes.size) (s.fn H (ds ++ gs)).results [])
    (ha : ∀ sp : Nat → Bool, (∀ p ∈ pa ++ pv, sp p.block = true) → DataW.TrodAll enc P W' 0 sp true f.params.toList args.toList (s.fn H (ds ++ gs)).args pa)
    (hv : ∀ sp : Nat → Bool, (∀ p ∈ pa ++ pv, sp p.block = true) → DataW.TrodVars enc P W' sp s.vars (s.fn H (ds ++ gs)).vars pv)
    (hok : ∀ (j : Nat) (t : TypeId) (r : Value), f.resultTypes[j]? = some t → (v.resultList f.resultTypes.size)[j]? = some r → Value.okWide P W' .any 0 t r) :
    s.post enc P f apart fresh handsOn again W args v W' := by
  have hlt := hW.lt
  have hall : ∀ p ∈ pa ++ pv, (fun b => decide (b < W.heap.size)) p.block = true := fun p hp => decide_eq_true (hlt p hp)
  have hk := hx.below.frame (· ∈ pa ++ pv)
  refine ⟨ds, gs, pa ++ pv, [], pa, pv, hW, hr _ _ _, ha _ hall, hv _ hall, World.keptBut_mono (fun p hp => ⟨hp, .inr (by simpa using hp)⟩) hk, fun _ => ?_⟩
  obtain ⟨_, _, _, _, _, hz, hn⟩ := hW
  have h2 := trodAll_append (ha (fun _ => true) fun _ _ => rfl) (hr 0 (fun _ => true) true)
  refine ⟨hok, _, _, pa ++ pv, ⟨pa, pv, (by simpa using h2), hv _ fun _ _ => rfl, rfl, fun b off hp => ?_, hn⟩, fun p hp _ => hp⟩
  rw [hx.below.frozen (hlt _ hp)]
  exact hz b off hp
end Go.Vc
namespace Go.Vc
open Go.ChangeShapes Go.WideShapes Go.ChangeAt Go.RowKit
variable {H : Type} {enc : TypeId × Value → H} {P : Program}
theorem args_stay (hl : laidOutB P = true) {W W' : World} (hx : Ext W W') {sp : Nat → Bool} : ∀ {ts : List TypeId} {vs : List Value} {ds : List (DataW H)} {p : List MemPlace}, (ts.all fun t => P.readableRec t && decide (t < P.types.size)) = true →
    DataW.TrodAll enc P W 0 (fun _ => true) true ts vs ds p → (∀ x ∈ p, x.block < W.heap.size) → (∀ x ∈ p, sp x.block = true) → DataW.TrodAll enc P W' 0 sp true ts vs ds p
  | [], vs, ds, p, _, h, _, _ => by
    obtain ⟨rfl, rfl, rfl⟩ := trodAll_nil h
    exact trodAll_mk0
  | t :: ts, vs, ds, p, hr, h, hlt, hs => by
    simp only [List.all_cons, Bool.and_eq_true, decide_eq_true_eq] at hr
    obtain ⟨v, vs', d, ds', p1, p2, rfl, rfl, rfl, h1, h2⟩ := trodAll_cons h
    exact trodAll_cons_mk (WideElems.Trod_stays hl hr.1.1 hr.1.2 h1 (fun x hx' => hx.below.same (hlt x (by simp [hx']))) fun x hx' => hs x (by simp [hx']))
      (args_stay hl hx (by simpa using hr.2) h2 (fun x hx' => hlt x (by simp [hx'])) fun x hx' => hs x (by simp [hx']))
end Go.Vc
namespace Go.Vc
open Go.ChangeShapes
theorem laid_elem {P : Program} {W : World} {x : String} {ds : List (DataW Unit)} {g t e m : Nat} (hg : P.globalNamed x = some g) (ht : (P.globals[g]?).map (·.type) = some t) (hu : P.underlying t = some (.array m e)) {i : Nat} (hi : i < m) :
    ∀ {laid : List (String × DataW Unit)} {ps : List MemPlace}, DataW.LaidVars P W laid ps → (x, .agg ds) ∈ laid → ∃ (fuel : Nat) (q : List MemPlace) (cs : List Value) (d : DataW Unit), ds[i]? = some d ∧ DataW.trod (fun _ => ()) P W 0 (fun _ => true) false fuel e ((cs.drop (i * P.cellsOf e)).take (P.cellsOf e)) = some (d, q) ∧ ∀ j : Nat, W.cell? ⟨g, j, none⟩ = cs[j]?
  | [], _, _, hm => by cases hm
  | (n', d') :: r, ps, h, hm => by
    obtain ⟨g', t', cs, fuel, p, q, h1, h2, h3, h4, h5, _⟩ := h
    rcases List.mem_cons.1 hm with e1 | e1
    · cases e1
      obtain rfl := Option.some.inj (hg.symm.trans h1)
      obtain rfl := Option.some.inj (ht.symm.trans h2)
      obtain ⟨xs, m', _, ex, _, hxl, hel⟩ := DataW.trod_array hu h4
      have hE := hel i hi
      rw [List.getElem?_eq_getElem (by omega)] at hE
      refine ⟨m', (xs[i]'(by omega)).2, cs.toList, (xs[i]'(by omega)).1, ?_, hE, fun j => by rw [World.var?_cell hg h3 j, ← Array.getElem?_toList]⟩
      have : ds = xs.map (·.1) := by have := congrArg Prod.fst ex; simpa using this
      rw [this, List.getElem?_map, List.getElem?_eq_getElem (by omega)]; rfl
    · exact laid_elem hg ht hu hi h5 e1
/-- A whole number of an array of them. -/
theorem laid_int {P : Program} {W : World} {x : String} {ds : List (DataW Unit)} {g t e m : Nat} {k : IntKind} {laid : List (String × DataW Unit)} {ps : List MemPlace} (hg : P.globalNamed x = some g) (ht : (P.globals[g]?).map (·.type) = some t) (hu : P.underlying t = some (.array m e)) (he : P.underlying e = some (.int k)) (c1 : P.cellsOf e = 1)
    (h : DataW.LaidVars P W laid ps) (hm : (x, .agg ds) ∈ laid) {i : Nat} (hi : i < m) : ∃ z, ds[i]? = some (.lit (.int k z)) ∧ W.cell? ⟨g, i, none⟩ = some (.int k z) := by
  obtain ⟨fuel, q, cs, d, h1, h2, h3⟩ := laid_elem hg ht hu hi h hm
  rw [c1, Nat.mul_one] at h2
  obtain ⟨z, e1, e2, _⟩ := DataW.trod_int he h2
  cases e2
  refine ⟨z, h1, ?_⟩
  rw [h3 i]
  have h0 : ((cs.drop i).take 1)[0]? = some (.int k z) := by rw [e1]; rfl
  simpa using h0
/-- A field that is a whole number, of an array of structs. -/
theorem laid_fld {P : Program} {W : World} {x : String} {ds : List (DataW Unit)} {g t e m c f o u : Nat} {fs : Array Field} {k : IntKind} {laid : List (String × DataW Unit)} {ps : List MemPlace} (hg : P.globalNamed x = some g) (ht : (P.globals[g]?).map (·.type) = some t) (hu : P.underlying t = some (.array m e)) (he : P.underlying e = some (.struct fs)) (hc : P.cellsOf e = c)
    (hf : (fs[f]?).map (fun y => (y.type, y.offset)) = some (u, o)) (hk : P.underlying u = some (.int k)) (c1 : P.cellsOf u = 1) (ho : o < c)
    (h : DataW.LaidVars P W laid ps) (hm : (x, .agg ds) ∈ laid) {i : Nat} (hi : i < m) : ∃ l z, ds[i]? = some (.agg l) ∧ l[f]? = some (.lit (.int k z)) ∧ W.cell? ⟨g, i * c + o, none⟩ = some (.int k z) := by
  obtain ⟨fuel, q, cs, d, h1, h2, h3⟩ := laid_elem hg ht hu hi h hm
  rw [hc] at h2
  obtain ⟨xs, n, _, ex, _, hxl, hel⟩ := DataW.trod_struct he h2
  obtain ⟨fd, hfd, hfe⟩ := Option.map_eq_some_iff.1 hf
  have h4 := hel f fd hfd
  have hlt : f < fs.size := (Array.getElem?_eq_some_iff.1 hfd).1
  simp only [Prod.mk.injEq] at hfe
  obtain ⟨rfl, rfl⟩ := hfe
  rw [c1, List.getElem?_eq_getElem (by omega)] at h4
  obtain ⟨z, e1, e2, _⟩ := DataW.trod_int hk h4
  have e3 : d = .agg (xs.map (·.1)) := congrArg Prod.fst ex
  refine ⟨_, z, by rw [h1, e3], by rw [List.getElem?_map, List.getElem?_eq_getElem (by omega)]; simp [e2], ?_⟩
  rw [h3]
  have h0 : ((((cs.drop (i * c)).take c).drop fd.offset).take 1)[0]? = some (.int k z) := by rw [e1]; rfl
  simpa [List.getElem?_take, List.getElem?_drop, ho] using h0
end Go.Vc
