/- Plain: a program as the reference has it. -/
import Derived.Test.YtendijaeihljeaaDoorPl5
namespace Go.Vc
open Go.Proofs
section
variable {P : Program} {w : World}
theorem Blk.grown {w w' : World} {g : Nat} {cs : List Value} {e : TypeId} {row : Option Nat} (h : Blk w g cs e) (hg : w.grownBy w' row) (hne : row ≠ some g) : Blk w' g cs e := by
  have := hg.block g h.lt (fun he => hne he.symm)
  unfold Blk at h ⊢
  rw [this]; exact h
theorem own_ty {w : World} {B B' e e' s s' n n' : Nat} {v v' : Value} {xs xs' : List Value} (h : w.ownsRow B e s v n xs) (h' : w.ownsRow B' e' s' v' n' xs') (hne : e ≠ e') : v.ownBlock = none ∨ v.ownBlock ≠ v'.ownBlock := by
  rcases h.2 with ⟨rfl, _⟩ | ⟨g, cap, cur, rfl, _, h1, _⟩
  · exact .inl rfl
  · refine .inr ?_
    rcases h'.2 with ⟨rfl, _⟩ | ⟨g', cap', cur', rfl, _, h2, _⟩
    · simp [Value.ownBlock]
    · simp only [Value.ownBlock, ne_eq, Option.some.injEq]
      rintro rfl
      rw [h1] at h2
      cases h2
      exact hne rfl
theorem own_blk {w : World} {B e s n g : Nat} {v : Value} {xs : List Value} (h : w.ownsRow B e s v n xs) (hg : g < B) : v.ownBlock ≠ some g := fun he => by have := (h.lt g he).1; omega
theorem set_grown {w : World} {g o : Nat} {u : Value} : w.grownBy (w.setCell ⟨g, o, none⟩ u) (some g) := ⟨rfl, rfl, rfl, by simp, fun _ _ hne => heap_setCell_other _ _ _ _ (fun he => hne (by simp [he]))⟩
theorem own_set {w : World} {B e s n g o : Nat} {v u : Value} {xs : List Value} (h : w.ownsRow B e s v n xs) (hg : g < B) : (w.setCell ⟨g, o, none⟩ u).ownsRow B e s v n xs :=
  h.kept set_grown (.inr (own_blk h hg))
theorem el_old {cs l : List Value} {i j sz : Nat} (hl : cs.length = i * sz) (hj : j < i) : ((cs ++ l).drop (j * sz)).take sz = (cs.drop (j * sz)).take sz := by
  have h1 : (j + 1) * sz ≤ i * sz := Nat.mul_le_mul_right sz hj
  rw [Nat.add_mul, Nat.one_mul] at h1
  rw [List.drop_append_of_le_length (by omega), List.take_append_of_le_length (by rw [List.length_drop]; omega)]
theorem el_new {cs l : List Value} {i sz : Nat} (hl : cs.length = i * sz) (h2 : l.length = sz) : ((cs ++ l).drop (i * sz)).take sz = l := by
  rw [← hl, List.drop_left, ← h2, List.take_length]
end
end Go.Vc
namespace Go.Proofs.YtendijaeihljeaaDoor
open Go.Vc
theorem own1' {w : World} {B e s n : Nat} {v : Value} {xs : List Value} (h : w.ownsRow B e s v n xs) : oneC v = true := by
  obtain ⟨a, c, rfl⟩ := (SliceIs.of_own h).shape; rfl
/-- The rows so far. -/
def El (p : GProg) (w0 w : World) (B i : Nat) (cs : List Value) : Prop := ∀ j, j < i → ∃ g m sv, p.nodes[j]? = some g ∧ (cs.drop (j * 8)).take 8 = g.pcs m sv ∧ (IntsAre w0 sv g.us ∨ w.ownsRow B 3 1 sv g.us.length (g.us.map i64))
theorem El.mono {p : GProg} {w0 w w' : World} {B i : Nat} {cs : List Value} (h : El p w0 w B i cs) (hk : ∀ {sv n xs}, w.ownsRow B 3 1 sv n xs → w'.ownsRow B 3 1 sv n xs) : El p w0 w' B i cs := fun j hj => by
  obtain ⟨g, m, sv, h1, h2, h3⟩ := h j hj
  exact ⟨g, m, sv, h1, h2, h3.imp id hk⟩
set_option maxHeartbeats 2000000 in
theorem plainProg_ok {p : GProg} {pv : Value} {w : World} (hp : ProgIs w pv p) (hl : p.nodes.length ≤ 1000) : callD Tryd.prog 15 #[pv] w fun r w' => PProgIs w' r p.params p.regs p.nodes ∧ Ext w w' := by
  obtain ⟨ns, rfl, ⟨vs, hs, hvs⟩, _⟩ := hp
  apply F15_wp
  unfold F15_den
  refine bxK fun w1 h1 x1 => ?_
  refine alK inf44 fun w2 h2 x2 => ?_
  have h12 : Blk w2 w.heap.size [i64 p.params, i64 p.regs, ns] 26 := h1.ext x2
  refine ldB h12.boxed (by first | exact fa_108_0 | exact fa_108_1 | exact fa_110_0 | exact fa_110_1 | exact fa_112_0 | exact fa_112_1 | exact fa_112_2 | exact fa_112_3 | exact fa_112_4 | exact fa_114_0 | exact fa_114_1 | exact fa_114_2 | exact fa_116_0 | exact fa_116_1 | exact fa_116_2 | exact fa_26_0 | exact fa_26_1 | exact fa_26_2 | exact fa_37_0 | exact fa_37_1 | exact fa_44_0 | exact fa_44_1 | exact fa_44_2 | exact fa_54_0 | exact fa_61_0 | exact fa_61_1 | exact fa_68_0 | exact fa_68_1 | exact fa_68_2 | exact fa_68_3 | exact fa_70_0 | exact fa_70_1 | exact fa_70_2 | exact fa_76_0 | exact fa_76_1 | exact fa_76_2 | exact fa_76_3 | exact fa_76_6 | exact fa_76_7 | exact fa_82_0 | exact fa_82_1 | exact fa_82_2 | exact fa_82_3 | exact fa_82_4 | exact fa_82_5 | exact fa_82_6 | exact fa_82_7 | exact fa_82_8 | exact fa_91_0 | exact fa_91_1 | exact fa_93_0 | exact fa_93_1 | exact fa_93_2 | exact fa_95_0 | exact fa_95_1 | exact fa_95_2 | exact fa_95_3 | exact fa_97_0 | exact fa_99_0 | exact fa_99_1) (by first | exact l1_21 | exact l1_24 | exact l1_28 | exact l1_3 | exact l1_35 | exact l1_4 | exact l1_42 | exact l1_52 | exact l1_58) rfl ?_
  refine ldB h12.boxed (by first | exact fa_108_0 | exact fa_108_1 | exact fa_110_0 | exact fa_110_1 | exact fa_112_0 | exact fa_112_1 | exact fa_112_2 | exact fa_112_3 | exact fa_112_4 | exact fa_114_0 | exact fa_114_1 | exact fa_114_2 | exact fa_116_0 | exact fa_116_1 | exact fa_116_2 | exact fa_26_0 | exact fa_26_1 | exact fa_26_2 | exact fa_37_0 | exact fa_37_1 | exact fa_44_0 | exact fa_44_1 | exact fa_44_2 | exact fa_54_0 | exact fa_61_0 | exact fa_61_1 | exact fa_68_0 | exact fa_68_1 | exact fa_68_2 | exact fa_68_3 | exact fa_70_0 | exact fa_70_1 | exact fa_70_2 | exact fa_76_0 | exact fa_76_1 | exact fa_76_2 | exact fa_76_3 | exact fa_76_6 | exact fa_76_7 | exact fa_82_0 | exact fa_82_1 | exact fa_82_2 | exact fa_82_3 | exact fa_82_4 | exact fa_82_5 | exact fa_82_6 | exact fa_82_7 | exact fa_82_8 | exact fa_91_0 | exact fa_91_1 | exact fa_93_0 | exact fa_93_1 | exact fa_93_2 | exact fa_95_0 | exact fa_95_1 | exact fa_95_2 | exact fa_95_3 | exact fa_97_0 | exact fa_99_0 | exact fa_99_1) (by first | exact l1_21 | exact l1_24 | exact l1_28 | exact l1_3 | exact l1_35 | exact l1_4 | exact l1_42 | exact l1_52 | exact l1_58) rfl ?_
  refine bld bd_44 [(0, i64 p.params), (1, i64 p.regs)] rfl rfl ?_
  refine asK (by first | exact sa_108 | exact sa_110 | exact sa_112 | exact sa_114 | exact sa_116 | exact sa_120 | exact sa_26 | exact sa_28 | exact sa_37 | exact sa_44 | exact sa_50 | exact sa_54 | exact sa_61 | exact sa_68 | exact sa_70 | exact sa_76 | exact sa_91 | exact sa_93 | exact sa_95 | exact sa_97 | exact sa_99) rfl rfl fun w3 h3 x3 => ?_
  obtain ⟨na, nc, rfl⟩ := hs.shape
  have l1 := h1.lt
  have l2 := h2.lt
  have X3 := (x1.trans x2).trans x3
  refine ⟨fun v w' => ∃ (i : Nat) (nv : Value) (cs : List Value), v = i64 i ∧ i ≤ p.nodes.length ∧ Ext w w' ∧ w2.heap.size < w'.heap.size ∧ Blk w' w.heap.size [i64 p.params, i64 p.regs, .slice na p.nodes.length nc] 26 ∧ Blk w' w1.heap.size [i64 0, i64 0, .slice none 0 0] 44 ∧
      Blk w' w2.heap.size [i64 p.params, i64 p.regs, nv] 44 ∧ w'.ownsRow (w2.heap.size + 1) 76 8 nv i cs ∧ El p w w' (w2.heap.size + 1) i cs, fun v _ => p.nodes.length - (RowKit.intOf v).toNat,
    ⟨0, .slice none 0 0, [], rfl, Nat.zero_le _, X3, h3.lt, h12.ext x3, h2.ext x3, h3, World.ownsRow_nil _ _ _ _, fun j hj => by omega⟩, ?_⟩
  rintro _ w4 ⟨i, nv, cs, rfl, hi, X4, hsz, k1, k2, k3, ho, hel⟩ _
  refine ldB k1.boxed (by first | exact fa_108_0 | exact fa_108_1 | exact fa_110_0 | exact fa_110_1 | exact fa_112_0 | exact fa_112_1 | exact fa_112_2 | exact fa_112_3 | exact fa_112_4 | exact fa_114_0 | exact fa_114_1 | exact fa_114_2 | exact fa_116_0 | exact fa_116_1 | exact fa_116_2 | exact fa_26_0 | exact fa_26_1 | exact fa_26_2 | exact fa_37_0 | exact fa_37_1 | exact fa_44_0 | exact fa_44_1 | exact fa_44_2 | exact fa_54_0 | exact fa_61_0 | exact fa_61_1 | exact fa_68_0 | exact fa_68_1 | exact fa_68_2 | exact fa_68_3 | exact fa_70_0 | exact fa_70_1 | exact fa_70_2 | exact fa_76_0 | exact fa_76_1 | exact fa_76_2 | exact fa_76_3 | exact fa_76_6 | exact fa_76_7 | exact fa_82_0 | exact fa_82_1 | exact fa_82_2 | exact fa_82_3 | exact fa_82_4 | exact fa_82_5 | exact fa_82_6 | exact fa_82_7 | exact fa_82_8 | exact fa_91_0 | exact fa_91_1 | exact fa_93_0 | exact fa_93_1 | exact fa_93_2 | exact fa_95_0 | exact fa_95_1 | exact fa_95_2 | exact fa_95_3 | exact fa_97_0 | exact fa_99_0 | exact fa_99_1) (by first | exact l1_21 | exact l1_24 | exact l1_28 | exact l1_3 | exact l1_35 | exact l1_4 | exact l1_42 | exact l1_52 | exact l1_58) rfl ?_
  refine V_ln_24.2 (V_lss.2 (ifD_dec (fun hlt => ?_) fun hge => ?_))
  · have hi' : i < p.nodes.length := by omega
    obtain ⟨g, hg⟩ := ex_get hi'
    obtain ⟨u, hu, hnu⟩ := hvs i g hg
    have D4 : Ext w4 w4.drew := (Ext.refl _).drew
    refine drawD.mk' (fun w' => Ext w w' ∧ Blk w' w.heap.size [i64 p.params, i64 p.regs, .slice na p.nodes.length nc] 26 ∧ Blk w' w2.heap.size [i64 p.params, i64 p.regs, nv] 44) ⟨X4.trans D4, k1.ext D4, k3.ext D4⟩ ?_
    refine yfB (fun w' hw => hw.2.2.boxed) (by first | exact fa_108_0 | exact fa_108_1 | exact fa_110_0 | exact fa_110_1 | exact fa_112_0 | exact fa_112_1 | exact fa_112_2 | exact fa_112_3 | exact fa_112_4 | exact fa_114_0 | exact fa_114_1 | exact fa_114_2 | exact fa_116_0 | exact fa_116_1 | exact fa_116_2 | exact fa_26_0 | exact fa_26_1 | exact fa_26_2 | exact fa_37_0 | exact fa_37_1 | exact fa_44_0 | exact fa_44_1 | exact fa_44_2 | exact fa_54_0 | exact fa_61_0 | exact fa_61_1 | exact fa_68_0 | exact fa_68_1 | exact fa_68_2 | exact fa_68_3 | exact fa_70_0 | exact fa_70_1 | exact fa_70_2 | exact fa_76_0 | exact fa_76_1 | exact fa_76_2 | exact fa_76_3 | exact fa_76_6 | exact fa_76_7 | exact fa_82_0 | exact fa_82_1 | exact fa_82_2 | exact fa_82_3 | exact fa_82_4 | exact fa_82_5 | exact fa_82_6 | exact fa_82_7 | exact fa_82_8 | exact fa_91_0 | exact fa_91_1 | exact fa_93_0 | exact fa_93_1 | exact fa_93_2 | exact fa_95_0 | exact fa_95_1 | exact fa_95_2 | exact fa_95_3 | exact fa_97_0 | exact fa_99_0 | exact fa_99_1) (by first | exact l1_21 | exact l1_24 | exact l1_28 | exact l1_3 | exact l1_35 | exact l1_4 | exact l1_42 | exact l1_52 | exact l1_58) rfl ?_
    refine yfB (fun w' hw => hw.2.1.boxed) (by first | exact fa_108_0 | exact fa_108_1 | exact fa_110_0 | exact fa_110_1 | exact fa_112_0 | exact fa_112_1 | exact fa_112_2 | exact fa_112_3 | exact fa_112_4 | exact fa_114_0 | exact fa_114_1 | exact fa_114_2 | exact fa_116_0 | exact fa_116_1 | exact fa_116_2 | exact fa_26_0 | exact fa_26_1 | exact fa_26_2 | exact fa_37_0 | exact fa_37_1 | exact fa_44_0 | exact fa_44_1 | exact fa_44_2 | exact fa_54_0 | exact fa_61_0 | exact fa_61_1 | exact fa_68_0 | exact fa_68_1 | exact fa_68_2 | exact fa_68_3 | exact fa_70_0 | exact fa_70_1 | exact fa_70_2 | exact fa_76_0 | exact fa_76_1 | exact fa_76_2 | exact fa_76_3 | exact fa_76_6 | exact fa_76_7 | exact fa_82_0 | exact fa_82_1 | exact fa_82_2 | exact fa_82_3 | exact fa_82_4 | exact fa_82_5 | exact fa_82_6 | exact fa_82_7 | exact fa_82_8 | exact fa_91_0 | exact fa_91_1 | exact fa_93_0 | exact fa_93_1 | exact fa_93_2 | exact fa_95_0 | exact fa_95_1 | exact fa_95_2 | exact fa_95_3 | exact fa_97_0 | exact fa_99_0 | exact fa_99_1) (by first | exact l1_21 | exact l1_24 | exact l1_28 | exact l1_3 | exact l1_35 | exact l1_4 | exact l1_42 | exact l1_52 | exact l1_58) rfl ?_
    refine ySl xa_24 l1_52 hs (fun _ h => h.1) (by omega) (by omega) (by simpa using hu) ?_
    refine (plainO_ok (hnu.ext (X4.trans D4))).mono fun r w5 ⟨⟨m, sv, hr, hsv⟩, x5⟩ => ?_
    subst hr
    have D5 := D4.trans x5
    refine ⟨⟨X4.trans D5, k1.ext D5, k3.ext D5⟩, ?_⟩
    have hsvc : oneC sv = true := by
      rcases hsv with h | h
      · exact shape_ints (h _ hnu)
      · exact own1 h
    refine bs83 hsvc fun w6 ho6 x6 => ?_
    have D6 := D5.trans x6
    refine ⟨⟨X4.trans D6, k1.ext D6, k3.ext D6⟩, ?_⟩
    have hoo := D6.own ho
    have hs6 := D6.size
    refine apA Tryd.underlying42 inf76 rfl (by decide) hoo (SliceIs.of_own ho6) (by simp only [GNode.pcs, List.all_cons, List.all_nil, hsvc, Bool.and_true]; rfl) (by omega) (by unfold maxLen; omega) (by omega) fun nv' w7 ho7 hg7 => ?_
    have hrow : ∀ k, nv.ownBlock = some k → w2.heap.size + 1 ≤ k := fun k hk => (hoo.lt k hk).1
    have X7 : Ext w w7 := (X4.trans D6).grown hg7 fun k hk => by have := hrow k hk; omega
    have k1' := (k1.ext D6).grown hg7 (own_blk hoo (by omega))
    have k2' := (k2.ext D6).grown hg7 (own_blk hoo (by omega))
    have k3' := (k3.ext D6).grown hg7 (own_blk hoo (by omega))
    refine ⟨⟨X7, k1', k3'⟩, ?_⟩
    refine yieldS.ok (fun w' _ => r_fd_44_2) ?_
    refine U.ok (r_store inf42 (own1' ho7) (by rw [Nat.zero_add, k3'.cell]; rfl) (by rw [Nat.zero_add]; exact k3'.frozen 2)) ?_
    refine V_add.2 ?_
    rw [wrap_id (by omega) (by omega), i64_succ, Nat.zero_add]
    refine ⟨⟨i + 1, nv', cs ++ g.pcs m sv, rfl, by omega, X7.setCell (by omega) _, by have := hg7.size; rw [show (w7.setCell ⟨w2.heap.size, 2, none⟩ nv').heap.size = w7.heap.size by simp]; omega, k1'.other (by omega), k2'.other (by omega), k3'.set 2 nv', own_set ho7 (by omega), fun j hj => ?_⟩, by simp only [intOf_i64]; omega⟩
    have hcl : cs.length = i * 8 := ho.1
    by_cases hji : j = i
    · subst hji
      refine ⟨g, m, sv, hg, el_new hcl rfl, ?_⟩
      rcases hsv with h | h
      · exact .inl (h _ hnu)
      · have h6 := own_mono (x6.own h) (show w2.heap.size + 1 ≤ w4.drew.heap.size by have := D4.size; omega)
        exact .inr (own_set (h6.kept hg7 (own_ty h6 hoo (by decide))) (by omega))
    · obtain ⟨g', m', sv', e1, e2, e3⟩ := hel j (by omega)
      refine ⟨g', m', sv', e1, (el_old hcl (by omega)).trans e2, e3.imp id fun h => ?_⟩
      exact own_set ((D6.own h).kept hg7 (own_ty (D6.own h) hoo (by decide))) (by omega)
  · refine ldA k3.boxed la_44 rfl ?_
    refine stA inf44 k2 (l := [i64 p.params, i64 p.regs, nv]) rfl rfl rfl (by have := own1' ho; simp only [List.all_cons, List.all_nil, this, Bool.and_true]; rfl) fun w' h2' hc => ?_
    have hin : i = p.nodes.length := by omega
    subst hin
    have X' := hc.ext _ X4 (by omega)
    refine ⟨_, r_var Tryd.underlying44 rfl inf44 h2' rfl, ⟨_, rfl⟩, ⟨nv, cs, rfl, SliceIs.of_own (hc.ownRow ho (by omega)), fun j g hg => ?_⟩, X'⟩
    obtain ⟨g', m', sv', e1, e2, e3⟩ := hel j (List.getElem?_eq_some_iff.1 hg).1
    rw [hg] at e1
    cases e1
    refine ⟨m', sv', e2, ?_⟩
    rcases e3 with h | h
    · exact h.ext X'
    · exact SliceIs.of_own (hc.ownRow h (by omega))
end Go.Proofs.YtendijaeihljeaaDoor
