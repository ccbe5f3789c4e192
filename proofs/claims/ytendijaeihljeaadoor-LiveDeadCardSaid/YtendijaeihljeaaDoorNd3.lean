/- A program, of raw nodes. -/
import Derived.Test.YtendijaeihljeaaDoorNd2
namespace Go.Vc
section
variable {P : Program} {w : World} {S : World → Prop} {L : Value → Prop}
theorem yldxA {t x : TypeId} {v : Value} {n sz : Nat} {cs l : List Value} {k : IntKind} {i : Int} (h : XA P t sz) (ht : ∃ d z by_, P.underlying x = some d ∧ aggB d = true ∧ Inf P x z sz by_) (hs : SliceIs w v sz n cs) (hx : ∀ w', S w' → Ext w w') (h0 : 0 ≤ i) (h1 : i < n)
    (hc : (cs.drop (i.toNat * sz)).take sz = l) (hl : l.length = sz) (hk : L (.agg l.toArray)) :
    yieldS P S (Instr.indexAt t v (.int k i)) fun p => yieldS P S (Instr.loadAt x p) L := by
  obtain ⟨e, z, b', hte, hi⟩ := h
  obtain ⟨d, z', by_, h2, h3, h4⟩ := ht
  obtain ⟨b, off, cap, rfl, hcell⟩ := hs.there (by omega)
  refine yieldS.ok (fun w' _ => r_index hte hi h0 h1) (yieldS.ok (fun w' hw => r_loadAgg h2 h3 h4 hl fun j hj => ?_) hk)
  obtain ⟨u, hu⟩ : ∃ u, l[j]? = some u := ⟨_, List.getElem?_eq_getElem hj⟩
  rw [hu, Nat.add_assoc]
  refine (hx w' hw).cell (hcell _ u ?_)
  rw [← hc, List.getElem?_take, List.getElem?_drop] at hu
  split at hu
  · exact hu
  · cases hu
end
end Go.Vc
namespace Go.Proofs.YtendijaeihljeaaDoor
open Go.Vc
/-- The raw nodes that came in. -/
def RawsAre (w : World) (v : Value) (n : Nat) : Prop := (∃ a c, v = .slice a n c) ∧ (0 < n → ∃ cs, SliceIs w v 9 n cs ∧ ∀ i, i < n → ∃ k d o m a b c t sv l, (cs.drop (i * 9)).take 9 = rawCells k d o m a b c t sv ∧ ArgsLike w sv l)
/-- Nodes in a row that the call owns. -/
def OwnProg (w : World) (B : Nat) (ns : Value) (gs : List GNode) (vs : List Value) : Prop := w.ownsRow B 52 1 ns gs.length vs ∧ ∀ (i : Nat) g, gs[i]? = some g → ∃ u, vs[i]? = some u ∧ NodeT w u g
theorem val_one (g : GNode) (sv : Value) : oneC (g.val sv) = true := by cases g <;> rfl
theorem NodeT.one {w : World} {v : Value} {g : GNode} (h : NodeT w v g) : oneC v = true := by
  obtain ⟨sv, rfl, _⟩ := h
  exact val_one g sv
theorem OwnProg.ext {w w' : World} {B : Nat} {ns : Value} {gs : List GNode} {vs : List Value} (h : OwnProg w B ns gs vs) (hx : Ext w w') : OwnProg w' B ns gs vs := ⟨hx.own h.1, fun i g hg => by
  obtain ⟨u, h1, h2⟩ := h.2 i g hg
  exact ⟨u, h1, h2.ext hx⟩⟩
theorem OwnProg.app {w w' : World} {B : Nat} {ns ns' u : Value} {gs : List GNode} {vs : List Value} {g : GNode} (h : OwnProg w B ns gs vs) (hu : NodeT w u g) (ho : w'.ownsRow B 52 1 ns' (gs.length + 1) (vs ++ [u])) (hg : w.grownBy w' ns.ownBlock) : OwnProg w' B ns' (gs ++ [g]) (vs ++ [u]) := by
  have hvl : vs.length = gs.length := by have := h.1.1; simpa using this
  refine ⟨by simpa using ho, fun i g' hi => ?_⟩
  rcases Nat.lt_or_ge i gs.length with hlt | hge
  · rw [List.getElem?_append_left hlt] at hi
    obtain ⟨u', h1, h2⟩ := h.2 i g' hi
    exact ⟨u', by rw [List.getElem?_append_left (by omega)]; exact h1, h2.grown' h.1 hg (by decide)⟩
  · have hi' := (List.getElem?_eq_some_iff.1 hi).1
    simp at hi'
    obtain rfl : i = gs.length := by omega
    rw [List.getElem?_append_right (Nat.le_refl _)] at hi
    simp at hi
    subst hi
    exact ⟨u, by rw [← hvl, List.getElem?_append_right (Nat.le_refl _)]; simp, hu.grown' h.1 hg (by decide)⟩
theorem OwnProg.set {w : World} {B b o : Nat} {ns x : Value} {gs : List GNode} {vs cs : List Value} {e : TypeId} (h : OwnProg w B ns gs vs) (hb : Blk w b cs e) (he : e ≠ 3) (hB : b < B) : OwnProg (w.setCell ⟨b, o, none⟩ x) B ns gs vs :=
  ⟨own_set h.1 hB, fun i g hg => by
    obtain ⟨u, h1, h2⟩ := h.2 i g hg
    exact ⟨u, h1, h2.grown set_grown hb he⟩⟩
theorem OwnProg.chg {w w' : World} {B b : Nat} {ns : Value} {gs : List GNode} {vs cs : List Value} {e : TypeId} (h : OwnProg w B ns gs vs) (hb : Blk w b cs e) (he : e ≠ 3) (hB : b < B) (hc : Chg w b w') : OwnProg w' B ns gs vs :=
  ⟨hc.ownRow h.1 hB, fun i g hg => by
    obtain ⟨u, h1, h2⟩ := h.2 i g hg
    exact ⟨u, h1, h2.grown hc.grown hb he⟩⟩
/-- What Program gives. -/
structure Made (gs : List GNode) (P0 R : Int) : Prop where
  r1 : 1 ≤ R
  r2 : R ≤ 14
  p1 : 0 ≤ P0
  p2 : P0 ≤ 4
  p3 : P0 ≤ R
  l1 : 1 ≤ gs.length
  l2 : gs.length ≤ 41
  last : gs[gs.length - 1]? = some (.ret (-1))
  args : ∀ g ∈ gs, g.args.length ≤ 6
set_option maxHeartbeats 4000000 in
theorem program_ok {lv : Value} {n : Nat} {regs params : Int} {w : World} (hl : RawsAre w lv n) (hb : BinsOk w) : callD Tryd.prog 17 #[lv, i64 regs, i64 params] w fun r w' =>
    (∃ P0 R ns gs vs, r = .agg #[i64 P0, i64 R, ns] ∧ OwnProg w' w.heap.size ns gs vs ∧ Made gs P0 R) ∧ Ext w w' := by
  obtain ⟨⟨la, lc, rfl⟩, hl⟩ := hl
  apply F17_wp
  unfold F17_den
  refine alK inf26 fun w1 h1 x1 => ?_
  refine (pick_ok (by decide) (by decide)).mono fun r w' ⟨⟨k, hk, hk0, hk14⟩, hw⟩ => ?_
  subst hk; have hw := hw.symm; subst hw
  refine V_add.2 ?_
  rw [wrap_id (by omega) (by omega)]
  refine bld bd_26 [(1, i64 (1 + k))] rfl rfl ?_
  refine asK (by first | exact sa_108 | exact sa_110 | exact sa_112 | exact sa_114 | exact sa_116 | exact sa_120 | exact sa_26 | exact sa_28 | exact sa_37 | exact sa_44 | exact sa_50 | exact sa_54 | exact sa_61 | exact sa_68 | exact sa_70 | exact sa_76 | exact sa_91 | exact sa_93 | exact sa_95 | exact sa_97 | exact sa_99) rfl rfl fun w2 h2 x2 => ?_
  have h2' : Blk w2 w1.heap.size [i64 0, i64 (1 + k), .slice none 0 0] 26 := h2
  refine ldB h2'.boxed (by first | exact fa_108_0 | exact fa_108_1 | exact fa_110_0 | exact fa_110_1 | exact fa_112_0 | exact fa_112_1 | exact fa_112_2 | exact fa_112_3 | exact fa_112_4 | exact fa_114_0 | exact fa_114_1 | exact fa_114_2 | exact fa_116_0 | exact fa_116_1 | exact fa_116_2 | exact fa_26_0 | exact fa_26_1 | exact fa_26_2 | exact fa_37_0 | exact fa_37_1 | exact fa_44_0 | exact fa_44_1 | exact fa_44_2 | exact fa_54_0 | exact fa_61_0 | exact fa_61_1 | exact fa_68_0 | exact fa_68_1 | exact fa_68_2 | exact fa_68_3 | exact fa_70_0 | exact fa_70_1 | exact fa_70_2 | exact fa_76_0 | exact fa_76_1 | exact fa_76_2 | exact fa_76_3 | exact fa_76_6 | exact fa_76_7 | exact fa_82_0 | exact fa_82_1 | exact fa_82_2 | exact fa_82_3 | exact fa_82_4 | exact fa_82_5 | exact fa_82_6 | exact fa_82_7 | exact fa_82_8 | exact fa_91_0 | exact fa_91_1 | exact fa_93_0 | exact fa_93_1 | exact fa_93_2 | exact fa_95_0 | exact fa_95_1 | exact fa_95_2 | exact fa_95_3 | exact fa_97_0 | exact fa_99_0 | exact fa_99_1) (by first | exact l1_21 | exact l1_24 | exact l1_28 | exact l1_3 | exact l1_35 | exact l1_4 | exact l1_42 | exact l1_52 | exact l1_58) rfl ?_
  refine V_add.2 ?_
  rw [wrap_id (by omega) (by omega)]
  refine mn2 fun m hm hm1 hm2 => ?_
  refine (pick_ok (by omega) (by omega)).mono fun r w' ⟨⟨p0, hp, hp0, hpm⟩, hw⟩ => ?_
  subst hp; have hw := hw.symm; subst hw
  refine V.ok r_fd_26_0 ?_
  refine U.ok (r_store inf3 rfl (by rw [Nat.zero_add, h2'.cell]; rfl) (by rw [Nat.zero_add]; exact h2'.frozen 0)) ?_
  rw [Nat.zero_add]
  have l1 := h1.lt
  have l2 := h2.lt
  have X3 : Ext w (w2.setCell ⟨w1.heap.size, 0, none⟩ (i64 p0)) := (x1.trans x2).setCell (by omega) _
  have h3 : Blk (w2.setCell ⟨w1.heap.size, 0, none⟩ (i64 p0)) w1.heap.size [i64 p0, i64 (1 + k), .slice none 0 0] 26 := h2'.set 0 (i64 p0)
  have h13 : Blk (w2.setCell ⟨w1.heap.size, 0, none⟩ (i64 p0)) w.heap.size [i64 0, i64 0, .slice none 0 0] 26 := (h1.ext x2).other (by omega)
  have s3 : (w2.setCell ⟨w1.heap.size, 0, none⟩ (i64 p0)).heap.size = w2.heap.size := by simp
  generalize (w2.setCell ⟨w1.heap.size, 0, none⟩ (i64 p0)) = w3 at X3 h3 h13 s3 ⊢
  refine V_ln_22.2 ?_
  refine mn2 fun q hq hq1 hq2 => ?_
  have hq0 : 0 ≤ q := by rcases hq with rfl | rfl <;> omega
  obtain ⟨M, rfl⟩ : ∃ M : Nat, q = (M : Int) := ⟨q.toNat, by omega⟩
  refine V_add.2 ?_
  rw [wrap_id (by omega) (by omega)]
  refine ⟨fun v w' => ∃ (i : Nat) (nv : Value) (gs : List GNode) (vs : List Value), v = i64 i ∧ i ≤ M ∧ gs.length = i ∧ Ext w w' ∧ w2.heap.size ≤ w'.heap.size ∧ Blk w' w.heap.size [i64 0, i64 0, .slice none 0 0] 26 ∧ Blk w' w1.heap.size [i64 p0, i64 (1 + k), nv] 26 ∧
      OwnProg w' (w1.heap.size + 1) nv gs vs ∧ (∀ g ∈ gs, g.args.length ≤ 6), fun v _ => M - (RowKit.intOf v).toNat, ⟨0, .slice none 0 0, [], [], rfl, Nat.zero_le _, rfl, X3, by omega, h13, h3, ⟨World.ownsRow_nil _ _ _ _, fun i g hg => by simp at hg⟩, fun g hg => by simp at hg⟩, ?_⟩
  rintro _ w4 ⟨i, nv, gs, vs, rfl, hi, hgl, X4, hsz, k1, k2, ho, hargs⟩ _
  refine V_sub.2 ?_
  rw [wrap_id (by omega) (by omega), show ((M : Int) + 1 - 1) = M by omega]
  have hnv : oneC nv = true := own1' ho.1
  refine V_lss.2 (ifD_dec (fun hlt => ?_) fun hge => ?_)
  · obtain ⟨cs, hs, hel⟩ := hl (by omega)
    obtain ⟨rk, rd, ro, rn, ra, rb, rc, rt, sv, rl, hc, hri⟩ := hel i (by omega)
    have D4 : Ext w4 w4.drew := (Ext.refl _).drew
    refine drawD.mk' (fun w' => Ext w w' ∧ Blk w' w1.heap.size [i64 p0, i64 (1 + k), nv] 26) ⟨X4.trans D4, k2.ext D4⟩ ?_
    refine yfB (fun w' hw => hw.2.boxed) (by first | exact fa_108_0 | exact fa_108_1 | exact fa_110_0 | exact fa_110_1 | exact fa_112_0 | exact fa_112_1 | exact fa_112_2 | exact fa_112_3 | exact fa_112_4 | exact fa_114_0 | exact fa_114_1 | exact fa_114_2 | exact fa_116_0 | exact fa_116_1 | exact fa_116_2 | exact fa_26_0 | exact fa_26_1 | exact fa_26_2 | exact fa_37_0 | exact fa_37_1 | exact fa_44_0 | exact fa_44_1 | exact fa_44_2 | exact fa_54_0 | exact fa_61_0 | exact fa_61_1 | exact fa_68_0 | exact fa_68_1 | exact fa_68_2 | exact fa_68_3 | exact fa_70_0 | exact fa_70_1 | exact fa_70_2 | exact fa_76_0 | exact fa_76_1 | exact fa_76_2 | exact fa_76_3 | exact fa_76_6 | exact fa_76_7 | exact fa_82_0 | exact fa_82_1 | exact fa_82_2 | exact fa_82_3 | exact fa_82_4 | exact fa_82_5 | exact fa_82_6 | exact fa_82_7 | exact fa_82_8 | exact fa_91_0 | exact fa_91_1 | exact fa_93_0 | exact fa_93_1 | exact fa_93_2 | exact fa_95_0 | exact fa_95_1 | exact fa_95_2 | exact fa_95_3 | exact fa_97_0 | exact fa_99_0 | exact fa_99_1) (by first | exact l1_21 | exact l1_24 | exact l1_28 | exact l1_3 | exact l1_35 | exact l1_4 | exact l1_42 | exact l1_52 | exact l1_58) rfl ?_
    refine yldxA xa_22 la_82 hs (fun _ h => h.1) (by omega) (by omega) hc rfl ?_
    refine yfB (fun w' hw => hw.2.boxed) (by first | exact fa_108_0 | exact fa_108_1 | exact fa_110_0 | exact fa_110_1 | exact fa_112_0 | exact fa_112_1 | exact fa_112_2 | exact fa_112_3 | exact fa_112_4 | exact fa_114_0 | exact fa_114_1 | exact fa_114_2 | exact fa_116_0 | exact fa_116_1 | exact fa_116_2 | exact fa_26_0 | exact fa_26_1 | exact fa_26_2 | exact fa_37_0 | exact fa_37_1 | exact fa_44_0 | exact fa_44_1 | exact fa_44_2 | exact fa_54_0 | exact fa_61_0 | exact fa_61_1 | exact fa_68_0 | exact fa_68_1 | exact fa_68_2 | exact fa_68_3 | exact fa_70_0 | exact fa_70_1 | exact fa_70_2 | exact fa_76_0 | exact fa_76_1 | exact fa_76_2 | exact fa_76_3 | exact fa_76_6 | exact fa_76_7 | exact fa_82_0 | exact fa_82_1 | exact fa_82_2 | exact fa_82_3 | exact fa_82_4 | exact fa_82_5 | exact fa_82_6 | exact fa_82_7 | exact fa_82_8 | exact fa_91_0 | exact fa_91_1 | exact fa_93_0 | exact fa_93_1 | exact fa_93_2 | exact fa_95_0 | exact fa_95_1 | exact fa_95_2 | exact fa_95_3 | exact fa_97_0 | exact fa_99_0 | exact fa_99_1) (by first | exact l1_21 | exact l1_24 | exact l1_28 | exact l1_3 | exact l1_35 | exact l1_4 | exact l1_42 | exact l1_52 | exact l1_58) rfl ?_
    refine (node_ok (x := .agg (rawCells rk rd ro rn ra rb rc rt sv).toArray) ⟨_, _, _, _, _, _, _, _, _, _, rfl, hri.ext (X4.trans D4)⟩ (by omega) (by omega) (hb.ext (X4.trans D4))).mono fun u w5 ⟨⟨g, hg, hg6⟩, x5⟩ => ?_
    have D5 := D4.trans x5
    refine ⟨⟨X4.trans D5, k2.ext D5⟩, ?_⟩
    have hu1 := hg.one
    refine bsl (by first | exact xe_23 | exact xe_24 | exact xe_28 | exact xe_35 | exact xe_58) [u] rfl rfl (by simp) (by simp [hu1]) fun v6 w6 ho6 x6 => ?_
    have D6 := D5.trans x6
    refine ⟨⟨X4.trans D6, k2.ext D6⟩, ?_⟩
    have hoo := ho.ext D6
    have hs6 := D6.size
    refine apO (by first | exact xe_23 | exact xe_24 | exact xe_28 | exact xe_35 | exact xe_58) hoo.1 (SliceIs.of_own ho6) (by simp [hu1]) (by omega) (by unfold maxLen; omega) (by omega) fun nv' w7 ho7 hg7 => ?_
    have X7 : Ext w w7 := (X4.trans D6).grown hg7 fun k hk => by have := (hoo.1.lt k hk).1; omega
    have k1' := (k1.ext D6).grown hg7 (own_blk hoo.1 (by omega))
    have k2' := (k2.ext D6).grown hg7 (own_blk hoo.1 (by omega))
    have hp7 := hoo.app (hg.ext x6) ho7 hg7
    refine ⟨⟨X7, k2'⟩, ?_⟩
    refine yieldS.ok (fun w' _ => r_fd_26_2) ?_
    refine U.ok (r_store inf24 (own1' ho7) (by rw [Nat.zero_add, k2'.cell]; rfl) (by rw [Nat.zero_add]; exact k2'.frozen 2)) ?_
    refine V_add.2 ?_
    rw [wrap_id (by omega) (by omega), i64_succ, Nat.zero_add]
    refine ⟨⟨i + 1, nv', gs ++ [g], vs ++ [u], rfl, by omega, by simp [hgl], X7.setCell (by omega) _, by have := hg7.size; rw [show (w7.setCell ⟨w1.heap.size, 2, none⟩ nv').heap.size = w7.heap.size by simp]; omega, k1'.other (by omega), k2'.set 2 nv', hp7.set k2' (by decide) (by omega), fun g' hg' => ?_⟩, by simp only [intOf_i64]; omega⟩
    rcases List.mem_append.1 hg' with h | h
    · exact hargs g' h
    · simp at h; subst h; exact hg6
  · refine ldB k2.boxed (by first | exact fa_108_0 | exact fa_108_1 | exact fa_110_0 | exact fa_110_1 | exact fa_112_0 | exact fa_112_1 | exact fa_112_2 | exact fa_112_3 | exact fa_112_4 | exact fa_114_0 | exact fa_114_1 | exact fa_114_2 | exact fa_116_0 | exact fa_116_1 | exact fa_116_2 | exact fa_26_0 | exact fa_26_1 | exact fa_26_2 | exact fa_37_0 | exact fa_37_1 | exact fa_44_0 | exact fa_44_1 | exact fa_44_2 | exact fa_54_0 | exact fa_61_0 | exact fa_61_1 | exact fa_68_0 | exact fa_68_1 | exact fa_68_2 | exact fa_68_3 | exact fa_70_0 | exact fa_70_1 | exact fa_70_2 | exact fa_76_0 | exact fa_76_1 | exact fa_76_2 | exact fa_76_3 | exact fa_76_6 | exact fa_76_7 | exact fa_82_0 | exact fa_82_1 | exact fa_82_2 | exact fa_82_3 | exact fa_82_4 | exact fa_82_5 | exact fa_82_6 | exact fa_82_7 | exact fa_82_8 | exact fa_91_0 | exact fa_91_1 | exact fa_93_0 | exact fa_93_1 | exact fa_93_2 | exact fa_95_0 | exact fa_95_1 | exact fa_95_2 | exact fa_95_3 | exact fa_97_0 | exact fa_99_0 | exact fa_99_1) (by first | exact l1_21 | exact l1_24 | exact l1_28 | exact l1_3 | exact l1_35 | exact l1_4 | exact l1_42 | exact l1_52 | exact l1_58) rfl ?_
    refine bld bd_54 [(0, i64 (-1))] rfl rfl ?_
    refine mki mi_54 ?_
    have hret : NodeT w4 (.iface 54 (.agg #[i64 (-1)])) (.ret (-1)) := ⟨.slice none 0 0, rfl, ints_nil _, Ty3.nil _⟩
    refine bsl (by first | exact xe_23 | exact xe_24 | exact xe_28 | exact xe_35 | exact xe_58) [.iface 54 (.agg #[i64 (-1)])] rfl rfl (by simp) rfl fun v6 w6 ho6 x6 => ?_
    have hoo := ho.ext x6
    have hs6 := x6.size
    refine apO (by first | exact xe_23 | exact xe_24 | exact xe_28 | exact xe_35 | exact xe_58) hoo.1 (SliceIs.of_own ho6) rfl (by omega) (by unfold maxLen; omega) (by omega) fun nv' w7 ho7 hg7 => ?_
    have X7 : Ext w w7 := (X4.trans x6).grown hg7 fun k hk => by have := (hoo.1.lt k hk).1; omega
    have k1' := (k1.ext x6).grown hg7 (own_blk hoo.1 (by omega))
    have k2' := (k2.ext x6).grown hg7 (own_blk hoo.1 (by omega))
    have hp7 := hoo.app (hret.ext x6) ho7 hg7
    refine V.ok r_fd_26_2 ?_
    refine U.ok (r_store inf24 (own1' ho7) (by rw [Nat.zero_add, k2'.cell]; rfl) (by rw [Nat.zero_add]; exact k2'.frozen 2)) ?_
    rw [Nat.zero_add]
    have k3 := k2'.set 2 nv'
    have k13 : Blk (w7.setCell ⟨w1.heap.size, 2, none⟩ nv') w.heap.size [i64 0, i64 0, .slice none 0 0] 26 := k1'.other (by omega)
    have hp8 := hp7.set (o := 2) (x := nv') k2' (by decide) (by omega)
    have X8 : Ext w (w7.setCell ⟨w1.heap.size, 2, none⟩ nv') := X7.setCell (by omega) _
    refine ldA k3.boxed la_26 rfl ?_
    refine stA inf26 k13 (l := [i64 p0, i64 (1 + k), nv']) rfl rfl rfl (by have := own1' ho7; simp only [List.all_cons, List.all_nil, this, Bool.and_true]; rfl) fun w9 h9 hc => ?_
    refine ⟨_, r_var Tryd.underlying26 rfl inf26 h9 rfl, ⟨_, rfl⟩, ⟨p0, 1 + k, nv', gs ++ [.ret (-1)], vs ++ [.iface 54 (.agg #[i64 (-1)])], rfl, ?_, ⟨by omega, by omega, hp0, by omega, by omega, by simp, by simp; omega, by simp, fun g' hg' => ?_⟩⟩, hc.ext _ X8 (Nat.le_refl _)⟩
    · have h10 := hp8.chg k13 (by decide) (by omega) hc
      exact ⟨own_mono h10.1 (by omega), h10.2⟩
    · rcases List.mem_append.1 hg' with h | h
      · exact hargs g' h
      · simp at h; subst h; exact Nat.zero_le _
end Go.Proofs.YtendijaeihljeaaDoor
