/- Script: chapter 27's example, walked. -/
import Derived.Test.YtmbeoehgpffneaaGreatDoorSc4
namespace Go.Vc
theorem Blk.seg {w : World} {b : Nat} {cs : List Value} {e : TypeId} (h : Blk w b cs e) : Seg w b 0 cs :=
  ⟨cs.toArray, e, (0, 0), h, by simp, .inl rfl, fun j v hj => by simpa using hj⟩
theorem own_blk {w : World} {g e B n size : Nat} {cs : List Value} (hb : Blk w g cs e) (hn : cs.length = n * size) (hB : B ≤ g) (hm : n ≤ maxLen) : w.ownsRow B e size (.slice (some ⟨g, 0, none⟩) n n) n cs :=
  ⟨hn, .inr ⟨g, n, cs.toArray, rfl, hB, hb, Nat.le_refl _, hm, by simpa using hn, by rw [← hn]; simp⟩⟩
end Go.Vc
namespace Go.Proofs.YtmbeoehgpffneaaGreatDoor
open Go.Vc Go.Ab Go.RowKit
theorem e_ws : ∀ args w, (callFunc 11 args).run Tryz.prog w = .ok (.enter 11 args) w := enters_of lays166.f166 (by kernel_rfl) rfl
theorem evL_one : evL.all oneC = true := by rfl
set_option maxHeartbeats 3200000 in
theorem runK_ok {m : Int} {w : World} (h : HM m w) : callD Tryz.prog 4 #[i64 200, i64 0, .string sDesNl] w fun r w' => r = .tuple #[.string sAnsNl, i64 0, i64 0] ∧ Ext w w' := by
  apply F4_wp
  suffices key : ∀ R : Value → World → Prop, (∀ w', Ext w w' → R (.tuple #[.string sAnsNl, i64 0, i64 0]) w') → F4_den (i64 200) (i64 0) (.string sDesNl) w R from key _ fun w' hx => ⟨rfl, hx⟩
  intro R hR
  unfold F4_den
  refine callD.mono (R := fun v w' => v = .slice (some ⟨w.heap.size, 0, none⟩) 2 2 ∧ Blk w' w.heap.size [.string sDes, .string ⟨#[]⟩] 9 ∧ Ext w w') ⟨e_sp, (sSplit sDesNl ⟨#[10]⟩ m w (by decide) h.cell (by decide)).mono fun e w' ⟨he, hw⟩ => by
    rw [q_count] at he hw
    rw [q_split] at hw
    subst hw
    exact ⟨_, he, rfl, by unfold Blk; rw [heap_alloc_new], (Ext.refl _).alloc _⟩⟩ fun v w1 ⟨hv, hb1, x1⟩ => ?_
  subst hv
  refine ⟨fun v w' => v = .slice (some ⟨w.heap.size, 0, none⟩) 1 2 ∧ w' = w1, ?_, ?_⟩
  · refine V_ln_36.2 (V_sub.2 ?_)
    refine ldS xa_36 l1_9 hb1.seg (by decide) (by decide) (u := .string ⟨#[]⟩) (by rfl) ?_
    refine V.ok (v := .bool true) (w' := w1) (by kernel_rfl) (ifD_true.2 ?_)
    refine V_ln_36.2 (V_sub.2 ?_)
    exact V.ok (v := .slice (some ⟨w.heap.size, 0, none⟩) 1 2) (w' := w1) (by kernel_rfl) ⟨rfl, rfl⟩
  rintro _ w' ⟨rfl, hw⟩ _
  have hw := hw.symm; subst hw
  refine V_ln_36.2 (V_gtr.2 ?_)
  simp only [show ¬ (((1 : Nat) : Int) > 400) by decide, ifD_false, decide_false]
  refine V_ln_36.2 ?_
  refine ⟨fun t10 t39 w' => (t39 = i64 0 ∧ t10 = .slice none 0 0 ∧ w' = w1) ∨ (t39 = i64 1 ∧ w'.ownsRow w.heap.size 27 6 t10 1 evL ∧ Ext w w'), fun _ t39 _ => 2 - (RowKit.intOf t39).toNat, .inl ⟨rfl, rfl, rfl⟩, ?_⟩
  rintro t10 t39 w2 hI _
  rcases hI with ⟨rfl, rfl, hw⟩ | ⟨rfl, ho2, x2⟩
  · subst hw
    refine V_lss.2 ?_
    simp only [show ((0 : Int) < ((1 : Nat) : Int)) by decide, ifD_true, decide_true]
    refine ldS xa_36 l1_9 hb1.seg (by decide) (by decide) (u := .string sDes) (by rfl) ?_
    refine (parse_ok (h.ext x1)).mono fun r w3 ⟨hr, x3⟩ => ?_
    subst hr
    refine V_ext0.2 (V_ext1.2 ?_)
    refine asK (by first | exact sa_27 | exact sa_44) rfl (by rfl) fun w4 hb4 x4 => ?_
    refine V.ok (v := .bool true) (w' := w4) (by kernel_rfl) ?_
    simp only [V_not, gd_t, pickD_iff, ifD_true, ifD_false, reduceIte, Bool.not_true]
    refine ldA hb4.boxed la_27 rfl ?_
    refine V.ok (v := .slice (some ⟨w4.heap.size, 0, none⟩) 1 1) (w' := w4.alloc (.cells evL.toArray 27)) (by kernel_rfl) ?_
    have hb5 : Blk (w4.alloc (.cells evL.toArray 27)) w4.heap.size evL 27 := by unfold Blk; rw [heap_alloc_new]
    have x5 : Ext w4 (w4.alloc (.cells evL.toArray 27)) := (Ext.refl _).alloc _
    generalize w4.alloc (.cells evL.toArray 27) = w5 at hb5 x5 ⊢
    have ho5 : w5.ownsRow 0 27 6 (.slice (some ⟨w4.heap.size, 0, none⟩) 1 1) 1 evL := own_blk hb5 rfl (Nat.zero_le _) (by unfold maxLen; omega)
    have X5 := ((x1.trans x3).trans x4).trans x5
    refine apA Tryz.underlying38 inf27 rfl (by omega) (World.ownsRow_nil w5 w.heap.size _ _) (SliceIs.of_own ho5) evL_one (by omega) (by unfold maxLen; omega) X5.size fun v6 w6 ho6 hg => ?_
    refine V_add.2 ?_
    exact ⟨.inr ⟨by rfl, ho6, X5.grown hg fun k hk => by cases hk⟩, by decide⟩
  refine V_lss.2 ?_
  simp only [show ¬ ((1 : Int) < ((1 : Nat) : Int)) by decide, ifD_false, decide_false]
  have h2 := h.ext x2
  obtain ⟨⟨vN, sN⟩, hN, hvN⟩ := Option.map_eq_some_iff.1 (q_new m)
  obtain rfl : vN = _ := hvN
  have hP := q_play m
  rw [hN, Option.bind_some] at hP
  dsimp only at hP
  obtain ⟨⟨vP, sP⟩, hP1, hvP⟩ := Option.map_eq_some_iff.1 hP
  obtain rfl : vP = _ := hvP
  refine callD.mono' (runQ_ok (args' := [i64 200, i64 0]) hN h2.rel (RL.cons (.int _ _) (RL.cons (.int _ _) .nil))) fun r w3 ⟨β3, ev3, rv3⟩ => ?_
  obtain ⟨l', rfl, hl⟩ := RL.of_tuple rv3
  obtain ⟨cv, l1, e1, hcv, hl1⟩ := hl.inv
  obtain ⟨y, l2, rfl, hy, hl2⟩ := hl1.inv
  have := hl2.inv_nil
  subst this
  cases hy
  rw [show l' = #[cv, .int .i64 0] from Array.toList_inj.1 e1]
  have x3 := ev_ext0 ev3 rfl (Nat.lt_succ_self 2)
  have X3 := x2.trans x3
  refine V_ext0.2 (V_ext1.2 (V_neqI.2 ?_))
  simp only [ne_eq, not_true_eq_false, ifD_false, decide_false]
  refine alK inf44 fun w4 hb4 x4 => ?_
  have X4 := X3.trans x4
  obtain ⟨ea, ec, rfl⟩ : ∃ a c, t10 = .slice a 1 c := (SliceIs.of_own ho2).shape
  refine V_ln_38.2 ?_
  have fr7 : ∀ {w6 w7 : World} {β7 : Beta} {s7 : Go.Ab.St}, Ev GM β3 sN w6 β7 s7 w7 → w3.heap.size < w6.heap.size → Fr (fun i => w.heap.size ≤ i ∧ i ≠ w3.heap.size) w6 w7 := fun {w6 w7 β7 s7} ev hlt =>
    ⟨ev.oth.1, ev.oth.2.1, ev.oth.2.2, ev.sz, fun k hk hn => by
      have ro3 := ev3.ro 2 _ _ _ (Nat.lt_succ_self 2) rfl
      by_cases hk2 : k = 2
      · subst hk2
        exact (ev.ro 2 _ _ _ (Nat.lt_of_lt_of_le (Nat.lt_succ_self 2) ev3.sn) ro3.1).2.2 2 0 1 (ro3.2.1.trans (upB_same _ _ _))
      · refine ev.out k hk fun b base lim hb => ?_
        have hl3 := ev3.rel.rlt hb
        rcases ev3.new b k base lim hb with ⟨b0, base0, lim0, h0⟩ | h0
        · by_cases hb2 : b0 = 2
          · subst hb2
            rw [upB_same] at h0
            cases h0
            exact hk2 rfl
          · rw [upB_ne _ _ hb2] at h0
            cases h0
        · have := x2.size
          exact hn ⟨by omega, by omega⟩⟩
  have bel : ∀ {a b : World}, Below w3.heap.size a b → Ext w a → Ext w b := fun hb hx => ⟨hb.os.trans hx.os, hb.tape.trans hx.tape, hb.output.trans hx.output, Nat.le_trans hx.size hb.size, fun i hi hn => (hb.block i (by have := X3.size; omega)).trans (hx.block i hi hn)⟩
  have hb4l := hb4.lt
  refine ⟨fun x w' => (x = i64 0 ∧ w' = w4) ∨ (x = i64 1 ∧ Lib.IsBuilder 44 5 w3.heap.size w3.heap.size (Lib.byteCells sAnsNl.data.toList) w' ∧ Ext w w' ∧ w3.heap.size ≤ w'.heap.size), fun x _ => 2 - (RowKit.intOf x).toNat, .inl ⟨rfl, rfl⟩, ?_⟩
  rintro x w5 hI _
  rcases hI with ⟨rfl, hw⟩ | ⟨rfl, hB5, X5, hs5⟩
  · subst hw
    refine V_lss.2 ?_
    simp only [show ((0 : Int) < ((1 : Nat) : Int)) by decide, ifD_true, decide_true]
    have hrow := SliceIs.of_own ((x3.trans x4).own ho2)
    refine ldxA xa_38 la_27 hrow (by decide) (by decide) (l := evL) rfl rfl ?_
    refine asK (by first | exact sa_27 | exact sa_44) rfl (by rfl) fun w6 hb6 x6 => ?_
    refine ldA hb6.boxed la_27 rfl ?_
    refine callD.mono' (runQ_ok (args' := [cv, .agg evL.toArray]) hP1 ((ev3.rel.ext x4).rel.ext x6).rel (RL.cons hcv (RL.cons (rv_aggS rfl) .nil))) fun r w7 ⟨β7, ev7, rv7⟩ => ?_
    rw [rv7.aggF rfl]
    have s6 := x6.size
    have f7 := fr7 ev7 (by omega)
    have X6 := X4.trans x6
    have X7 : Ext w w7 := f7.ext X6 fun i hi => hi.1
    have hb7 := f7.blk (hb4.ext x6) fun hn => hn.2 rfl
    refine (tell_ok (h.ext X7)).mono fun r w8 ⟨hr, x8⟩ => ?_
    subst hr
    refine V.ok (v := .string sAnsNl) (w' := w8) (by kernel_rfl) ?_
    have X8 := X7.trans x8
    have hb8 := hb7.ext x8
    have hb8l := hb8.lt
    refine callD.mono (R := fun v w' => Lib.IsBuilder 44 5 w3.heap.size w3.heap.size (Lib.byteCells sAnsNl.data.toList) w' ∧ Ext w w' ∧ w3.heap.size ≤ w'.heap.size) ⟨e_ws, (sWriteString w3.heap.size w3.heap.size [] sAnsNl w8 (.inl ⟨Nat.le_refl _, _, hb8, World.ownsRow_nil _ _ _ _, fun h => by cases h⟩) (by decide) (by omega)).mono fun e w' ⟨he, hb, hbel⟩ => ⟨_, he, .inr hb, bel hbel X8, by have := hbel.size; omega⟩⟩ fun v9 w9 ⟨hB9, X9, s9⟩ => ?_
    refine V_add.2 ?_
    exact ⟨.inr ⟨by rfl, hB9, X9, s9⟩, by decide⟩
  refine V_lss.2 ?_
  simp only [show ¬ ((1 : Int) < ((1 : Nat) : Int)) by decide, ifD_false, decide_false]
  refine callD.mono (R := fun v w' => v = .string sAnsNl ∧ Ext w w') ⟨e_st, (sString _ _ _ _ hB5 hs5).mono fun e w' ⟨he, hbel⟩ => ⟨_, he, rfl, bel hbel X5⟩⟩ fun v6 w6 ⟨hv6, X6⟩ => ?_
  subst hv6
  exact hR _ X6
end Go.Proofs.YtmbeoehgpffneaaGreatDoor
