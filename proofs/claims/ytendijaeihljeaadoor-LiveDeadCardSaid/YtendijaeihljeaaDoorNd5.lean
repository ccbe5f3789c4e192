/- Tame, walked. -/
import Derived.Test.YtendijaeihljeaaDoorNd4
namespace Go.Vc
section
variable {P : Program} {w : World}
/-- A store into a row that the call owns, at an address that is known. -/
theorem stY {x : TypeId} {z : Value} {by_ : Nat} (hx : Inf P x z 1 by_) {B e n g c : Nat} {xs : List Value} (ho : w.ownsRow B e 1 (.slice (some ⟨g, 0, none⟩) n c) n xs) {i : Nat} (h1 : i < n) {u : Value} (hu : oneC u = true) {K' : World → Prop}
    (hk : ∀ w', w'.ownsRow B e 1 (.slice (some ⟨g, 0, none⟩) n c) n (xs.set i u) → w.grownBy w' (some g) → K' w') :
    U P (Instr.storeAt x (.pointer (some ⟨g, 0 + i * 1, none⟩)) u) w fun _ w2 => K' w2 := by
  obtain ⟨s1, s2⟩ := ho.stored i u
  have hc := ho.cellAt i (by omega)
  have hlt : i < xs.length := by have := ho.1; omega
  rw [List.getElem?_eq_getElem hlt] at hc
  simp only [Nat.zero_add, Nat.mul_one]
  exact U.ok (r_store hx hu hc (ho.frozenAt _)) (hk _ s1 s2)
end
end Go.Vc
namespace Go.Proofs.YtendijaeihljeaaDoor
open Go.Vc
theorem RawsAre.ext {w w' : World} {v : Value} {n : Nat} (h : RawsAre w v n) (hx : Ext w w') : RawsAre w' v n := by
  refine ⟨h.1, fun h0 => ?_⟩
  obtain ⟨cs, h1, h2⟩ := h.2 h0
  refine ⟨cs, h1.ext hx, fun i hi => ?_⟩
  obtain ⟨k, d, o, m, a, b, c, t, sv, l, h3, h4⟩ := h2 i hi
  exact ⟨k, d, o, m, a, b, c, t, sv, l, h3, h4.ext hx⟩
def tickV : Value := .iface 50 (.agg #[])
def retV : Value := .iface 54 (.agg #[i64 (-1)])
theorem tickT (w : World) : NodeT w tickV .tick := ⟨.slice none 0 0, rfl, ints_nil _, Ty3.nil _⟩
theorem retT (w : World) : NodeT w retV (.ret (-1)) := ⟨.slice none 0 0, rfl, ints_nil _, Ty3.nil _⟩
/-- The program that is tried. -/
def tried (N i : Nat) (g : GNode) : List GNode := ((List.replicate N GNode.tick).set i g).set (N - 1) (.ret (-1))
theorem tried_len (N i : Nat) (g : GNode) : (tried N i g).length = N := by simp [tried]
theorem tried_get {N i j : Nat} {g n : GNode} (h : (tried N i g)[j]? = some n) : (j = N - 1 ∧ n = .ret (-1)) ∨ (j ≠ N - 1 ∧ j = i ∧ n = g) ∨ (j ≠ N - 1 ∧ j ≠ i ∧ n = .tick) := by
  have hj : j < N := by have := (List.getElem?_eq_some_iff.1 h).1; simpa [tried] using this
  unfold tried at h
  by_cases h1 : j = N - 1
  · subst h1
    rw [List.getElem?_set_self (by simp; omega)] at h
    cases h
    exact .inl ⟨rfl, rfl⟩
  · rw [List.getElem?_set_ne (fun e => h1 e.symm)] at h
    by_cases h2 : j = i
    · subst h2
      rw [List.getElem?_set_self (by simp; omega)] at h
      cases h
      exact .inr (.inl ⟨h1, rfl, rfl⟩)
    · rw [List.getElem?_set_ne (fun e => h2 e.symm)] at h
      simp [hj] at h
      exact .inr (.inr ⟨h1, h2, h.symm⟩)
theorem tried_at {N i : Nat} {g : GNode} (hi : i < N) (h : i ≠ N - 1) : (tried N i g)[i]? = some g := by
  unfold tried
  rw [List.getElem?_set_ne (fun e => h e.symm), List.getElem?_set_self (by simpa using hi)]
set_option maxHeartbeats 8000000 in
theorem tame_ok {lv : Value} {n : Nat} {regs params : Int} {w : World} (hl : RawsAre w lv n) (hb : BinsOk w) : callD Tryd.prog 6 #[lv, i64 regs, i64 params] w fun r w' => Tamed w w' r ∧ Ext w w' := by
  apply F6_wp
  unfold F6_den
  refine alK inf26 fun w1 h1 x1 => ?_
  refine (program_ok (hl.ext x1) (hb.ext x1)).mono fun r w2 ⟨⟨P0, R, ns, gs0, vs0, hr, ho2, hm⟩, x2⟩ => ?_
  subst hr
  have m1 := hm.l1; have m2 := hm.l2; have r1 := hm.r1; have r2 := hm.r2
  obtain ⟨ng, nc, rfl⟩ : ∃ ng nc, ns = .slice (some ⟨ng, 0, none⟩) gs0.length nc := by
    rcases ho2.1.2 with ⟨_, h⟩ | ⟨g, cap, cur, h, _⟩
    · omega
    · exact ⟨g, cap, h⟩
  refine asK (by first | exact sa_108 | exact sa_110 | exact sa_112 | exact sa_114 | exact sa_116 | exact sa_120 | exact sa_26 | exact sa_28 | exact sa_37 | exact sa_44 | exact sa_50 | exact sa_54 | exact sa_61 | exact sa_68 | exact sa_70 | exact sa_76 | exact sa_91 | exact sa_93 | exact sa_95 | exact sa_97 | exact sa_99) rfl rfl fun w3 h3 x3 => ?_
  have T3 : TF w w3 w1.heap.size w.heap.size w2.heap.size P0 R (.slice (some ⟨ng, 0, none⟩) gs0.length nc) gs0 vs0 := ⟨(x1.trans x2).trans x3, (h1.ext x2).ext x3, h3, ho2.ext x3, Nat.le_refl _, h1.lt, x2.size, fun k hk => (ho2.1.lt k hk).2⟩
  refine ⟨fun v w' => ∃ (i : Nat) (gs : List GNode) (vs : List Value), v = i64 i ∧ i ≤ gs0.length ∧ TF w w' w1.heap.size w.heap.size w2.heap.size P0 R (.slice (some ⟨ng, 0, none⟩) gs0.length nc) gs vs ∧ gs.length = gs0.length ∧ gs[gs0.length - 1]? = some (.ret (-1)) ∧ (∀ g ∈ gs, g.args.length ≤ 6) ∧
      (∀ (j : Nat) g, j < i → j < gs0.length - 1 → gs[j]? = some g → RightN g j R gs0.length), fun v _ => gs0.length - (RowKit.intOf v).toNat, ⟨0, gs0, vs0, rfl, Nat.zero_le _, T3, rfl, hm.last, hm.args, fun j g hj => by omega⟩, ?_⟩
  rintro _ w4 ⟨i, gs, vs, rfl, hi, T4, hgl, hlast, hargs, hdone⟩ _
  refine ldB T4.t.boxed (by first | exact fa_108_0 | exact fa_108_1 | exact fa_110_0 | exact fa_110_1 | exact fa_112_0 | exact fa_112_1 | exact fa_112_2 | exact fa_112_3 | exact fa_112_4 | exact fa_114_0 | exact fa_114_1 | exact fa_114_2 | exact fa_116_0 | exact fa_116_1 | exact fa_116_2 | exact fa_26_0 | exact fa_26_1 | exact fa_26_2 | exact fa_37_0 | exact fa_37_1 | exact fa_44_0 | exact fa_44_1 | exact fa_44_2 | exact fa_54_0 | exact fa_61_0 | exact fa_61_1 | exact fa_68_0 | exact fa_68_1 | exact fa_68_2 | exact fa_68_3 | exact fa_70_0 | exact fa_70_1 | exact fa_70_2 | exact fa_76_0 | exact fa_76_1 | exact fa_76_2 | exact fa_76_3 | exact fa_76_6 | exact fa_76_7 | exact fa_82_0 | exact fa_82_1 | exact fa_82_2 | exact fa_82_3 | exact fa_82_4 | exact fa_82_5 | exact fa_82_6 | exact fa_82_7 | exact fa_82_8 | exact fa_91_0 | exact fa_91_1 | exact fa_93_0 | exact fa_93_1 | exact fa_93_2 | exact fa_95_0 | exact fa_95_1 | exact fa_95_2 | exact fa_95_3 | exact fa_97_0 | exact fa_99_0 | exact fa_99_1) (by first | exact l1_21 | exact l1_24 | exact l1_28 | exact l1_3 | exact l1_35 | exact l1_4 | exact l1_42 | exact l1_52 | exact l1_58) rfl ?_
  refine V_ln_24.2 (V_lss.2 (ifD_dec (fun hlt => ?_) fun hge => ?_))
  · have hi' : i < gs0.length := by omega
    refine ⟨fun v w' => ∃ g9 g10, v = .pointer (some ⟨g9, 0, none⟩) ∧ TF w w' w1.heap.size w.heap.size w2.heap.size P0 R (.slice (some ⟨ng, 0, none⟩) gs0.length nc) gs vs ∧ Blk w' g9 [i64 0, i64 R, .slice (some ⟨g10, 0, none⟩) gs0.length gs0.length] 26 ∧
        w'.ownsRow g10 52 1 (.slice (some ⟨g10, 0, none⟩) gs0.length gs0.length) gs0.length (List.replicate gs0.length .nilIface) ∧ w2.heap.size < g9 ∧ w2.heap.size < g10 ∧ g9 ≠ g10, ?_, ?_⟩
    · have D4 : Ext w4 w4.drew := (Ext.refl _).drew
      have lt7 := T4.t.lt
      have sd := D4.size
      have T5 := T4.ext D4
      refine drawD.mk' (fun w' => Boxed w' w2.heap.size [i64 P0, i64 R, .slice (some ⟨ng, 0, none⟩) gs0.length nc]) T5.t.boxed ?_
      refine yfB (fun _ hw => hw) (by first | exact fa_108_0 | exact fa_108_1 | exact fa_110_0 | exact fa_110_1 | exact fa_112_0 | exact fa_112_1 | exact fa_112_2 | exact fa_112_3 | exact fa_112_4 | exact fa_114_0 | exact fa_114_1 | exact fa_114_2 | exact fa_116_0 | exact fa_116_1 | exact fa_116_2 | exact fa_26_0 | exact fa_26_1 | exact fa_26_2 | exact fa_37_0 | exact fa_37_1 | exact fa_44_0 | exact fa_44_1 | exact fa_44_2 | exact fa_54_0 | exact fa_61_0 | exact fa_61_1 | exact fa_68_0 | exact fa_68_1 | exact fa_68_2 | exact fa_68_3 | exact fa_70_0 | exact fa_70_1 | exact fa_70_2 | exact fa_76_0 | exact fa_76_1 | exact fa_76_2 | exact fa_76_3 | exact fa_76_6 | exact fa_76_7 | exact fa_82_0 | exact fa_82_1 | exact fa_82_2 | exact fa_82_3 | exact fa_82_4 | exact fa_82_5 | exact fa_82_6 | exact fa_82_7 | exact fa_82_8 | exact fa_91_0 | exact fa_91_1 | exact fa_93_0 | exact fa_93_1 | exact fa_93_2 | exact fa_95_0 | exact fa_95_1 | exact fa_95_2 | exact fa_95_3 | exact fa_97_0 | exact fa_99_0 | exact fa_99_1) (by first | exact l1_21 | exact l1_24 | exact l1_28 | exact l1_3 | exact l1_35 | exact l1_4 | exact l1_42 | exact l1_52 | exact l1_58) rfl ?_
      refine yfB (fun _ hw => hw) (by first | exact fa_108_0 | exact fa_108_1 | exact fa_110_0 | exact fa_110_1 | exact fa_112_0 | exact fa_112_1 | exact fa_112_2 | exact fa_112_3 | exact fa_112_4 | exact fa_114_0 | exact fa_114_1 | exact fa_114_2 | exact fa_116_0 | exact fa_116_1 | exact fa_116_2 | exact fa_26_0 | exact fa_26_1 | exact fa_26_2 | exact fa_37_0 | exact fa_37_1 | exact fa_44_0 | exact fa_44_1 | exact fa_44_2 | exact fa_54_0 | exact fa_61_0 | exact fa_61_1 | exact fa_68_0 | exact fa_68_1 | exact fa_68_2 | exact fa_68_3 | exact fa_70_0 | exact fa_70_1 | exact fa_70_2 | exact fa_76_0 | exact fa_76_1 | exact fa_76_2 | exact fa_76_3 | exact fa_76_6 | exact fa_76_7 | exact fa_82_0 | exact fa_82_1 | exact fa_82_2 | exact fa_82_3 | exact fa_82_4 | exact fa_82_5 | exact fa_82_6 | exact fa_82_7 | exact fa_82_8 | exact fa_91_0 | exact fa_91_1 | exact fa_93_0 | exact fa_93_1 | exact fa_93_2 | exact fa_95_0 | exact fa_95_1 | exact fa_95_2 | exact fa_95_3 | exact fa_97_0 | exact fa_99_0 | exact fa_99_1) (by first | exact l1_21 | exact l1_24 | exact l1_28 | exact l1_3 | exact l1_35 | exact l1_4 | exact l1_42 | exact l1_52 | exact l1_58) rfl ?_
      refine yieldS.ok (fun w' _ => r_len Tryd.underlying24) ⟨?_, ?_⟩
      · refine mkB Tryd.underlying24 inf52 rfl (n := gs0.length) (by omega) (by omega) fun w6 hb6 x6 hs6 => ?_
        have T6 := T5.ext x6
        refine ⟨T6.t.boxed, ?_⟩
        refine yBld bd_26 [(1, i64 R), (2, .slice (some ⟨w4.drew.heap.size, 0, none⟩) gs0.length gs0.length)] rfl rfl ?_
        refine alK inf26 fun w7 h7 x7 => ?_
        have T7 := T6.ext x7
        refine ⟨T7.t.boxed, ?_⟩
        refine stA inf26 h7 (l := [i64 0, i64 R, .slice (some ⟨w4.drew.heap.size, 0, none⟩) gs0.length gs0.length]) rfl rfl rfl rfl fun w8 h8 hc => ?_
        exact ⟨w6.heap.size, w4.drew.heap.size, rfl, T7.chg h7 hc (by decide) (by omega), h8, blk_own (hc.other (by omega) (hb6.ext x7)) (by simp) (by unfold maxLen; omega), by omega, by omega, by omega⟩
      · refine alK inf26 fun w7 h7 x7 => ?_
        have T7 := T5.ext x7
        refine ⟨T7.t.boxed, ?_⟩
        have l7 := h7.lt
        refine mkB Tryd.underlying24 inf52 rfl (n := gs0.length) (by omega) (by omega) fun w6 hb6 x6 hs6 => ?_
        have T6 := T7.ext x6
        refine ⟨T6.t.boxed, ?_⟩
        refine yBld bd_26 [(1, i64 R), (2, .slice (some ⟨w7.heap.size, 0, none⟩) gs0.length gs0.length)] rfl rfl ?_
        refine stA inf26 (h7.ext x6) (l := [i64 0, i64 R, .slice (some ⟨w7.heap.size, 0, none⟩) gs0.length gs0.length]) rfl rfl rfl rfl fun w8 h8 hc => ?_
        exact ⟨w4.drew.heap.size, w7.heap.size, rfl, T6.chg (h7.ext x6) hc (by decide) (by omega), h8, blk_own (hc.other (by omega) hb6) (by simp) (by unfold maxLen; omega), by omega, by omega, by omega⟩
    rintro _ w10 ⟨g9, g10, rfl, T10, k10, o10, l9, l10, hne⟩ _
    refine ⟨fun v w' => ∃ (k : Nat) (cs : List Value), v = i64 k ∧ k ≤ gs0.length ∧ TF w w' w1.heap.size w.heap.size w2.heap.size P0 R (.slice (some ⟨ng, 0, none⟩) gs0.length nc) gs vs ∧ Blk w' g9 [i64 0, i64 R, .slice (some ⟨g10, 0, none⟩) gs0.length gs0.length] 26 ∧
        w'.ownsRow g10 52 1 (.slice (some ⟨g10, 0, none⟩) gs0.length gs0.length) gs0.length cs ∧ ∀ j, j < k → cs[j]? = some tickV, fun v _ => gs0.length - (RowKit.intOf v).toNat, ⟨0, _, rfl, Nat.zero_le _, T10, k10, o10, fun j hj => by omega⟩, ?_⟩
    rintro _ w11 ⟨k, cs, rfl, hk, T11, k11, o11, htick⟩ _
    have hcl : cs.length = gs0.length := by have := o11.1; simpa using this
    refine ldB k11.boxed (by first | exact fa_108_0 | exact fa_108_1 | exact fa_110_0 | exact fa_110_1 | exact fa_112_0 | exact fa_112_1 | exact fa_112_2 | exact fa_112_3 | exact fa_112_4 | exact fa_114_0 | exact fa_114_1 | exact fa_114_2 | exact fa_116_0 | exact fa_116_1 | exact fa_116_2 | exact fa_26_0 | exact fa_26_1 | exact fa_26_2 | exact fa_37_0 | exact fa_37_1 | exact fa_44_0 | exact fa_44_1 | exact fa_44_2 | exact fa_54_0 | exact fa_61_0 | exact fa_61_1 | exact fa_68_0 | exact fa_68_1 | exact fa_68_2 | exact fa_68_3 | exact fa_70_0 | exact fa_70_1 | exact fa_70_2 | exact fa_76_0 | exact fa_76_1 | exact fa_76_2 | exact fa_76_3 | exact fa_76_6 | exact fa_76_7 | exact fa_82_0 | exact fa_82_1 | exact fa_82_2 | exact fa_82_3 | exact fa_82_4 | exact fa_82_5 | exact fa_82_6 | exact fa_82_7 | exact fa_82_8 | exact fa_91_0 | exact fa_91_1 | exact fa_93_0 | exact fa_93_1 | exact fa_93_2 | exact fa_95_0 | exact fa_95_1 | exact fa_95_2 | exact fa_95_3 | exact fa_97_0 | exact fa_99_0 | exact fa_99_1) (by first | exact l1_21 | exact l1_24 | exact l1_28 | exact l1_3 | exact l1_35 | exact l1_4 | exact l1_42 | exact l1_52 | exact l1_58) rfl ?_
    refine V_ln_24.2 (V_lss.2 (ifD_dec (fun hkl => ?_) fun hkg => ?_))
    · refine ldB k11.boxed (by first | exact fa_108_0 | exact fa_108_1 | exact fa_110_0 | exact fa_110_1 | exact fa_112_0 | exact fa_112_1 | exact fa_112_2 | exact fa_112_3 | exact fa_112_4 | exact fa_114_0 | exact fa_114_1 | exact fa_114_2 | exact fa_116_0 | exact fa_116_1 | exact fa_116_2 | exact fa_26_0 | exact fa_26_1 | exact fa_26_2 | exact fa_37_0 | exact fa_37_1 | exact fa_44_0 | exact fa_44_1 | exact fa_44_2 | exact fa_54_0 | exact fa_61_0 | exact fa_61_1 | exact fa_68_0 | exact fa_68_1 | exact fa_68_2 | exact fa_68_3 | exact fa_70_0 | exact fa_70_1 | exact fa_70_2 | exact fa_76_0 | exact fa_76_1 | exact fa_76_2 | exact fa_76_3 | exact fa_76_6 | exact fa_76_7 | exact fa_82_0 | exact fa_82_1 | exact fa_82_2 | exact fa_82_3 | exact fa_82_4 | exact fa_82_5 | exact fa_82_6 | exact fa_82_7 | exact fa_82_8 | exact fa_91_0 | exact fa_91_1 | exact fa_93_0 | exact fa_93_1 | exact fa_93_2 | exact fa_95_0 | exact fa_95_1 | exact fa_95_2 | exact fa_95_3 | exact fa_97_0 | exact fa_99_0 | exact fa_99_1) (by first | exact l1_21 | exact l1_24 | exact l1_28 | exact l1_3 | exact l1_35 | exact l1_4 | exact l1_42 | exact l1_52 | exact l1_58) rfl ?_
      refine bld bd_50 [] rfl rfl ?_
      refine mki mi_50 ?_
      refine stO xa_24 inf52 o11 (by omega) (by omega) rfl fun w12 o12 hg12 => ?_
      refine V_add.2 ?_
      rw [wrap_id (by omega) (by omega), i64_succ]
      refine ⟨⟨k + 1, cs.set k tickV, rfl, by omega, T11.own' o11 hg12 (by decide) l10, k11.grown hg12 (fun he => hne (by cases he; rfl)), by simpa [tickV] using o12, fun j hj => ?_⟩, by simp only [intOf_i64]; omega⟩
      by_cases hjk : j = k
      · subst hjk; rw [List.getElem?_set_self (by omega)]
      · rw [List.getElem?_set_ne (fun e => hjk e.symm)]; exact htick j (by omega)
    · have D11 : Ext w11 w11.drew := (Ext.refl _).drew
      obtain ⟨g, hg⟩ := ex_get (l := gs) (j := i) (by omega)
      obtain ⟨u, hu, hut⟩ := T11.own.2 i g hg
      refine drawD.mk' (fun w' => w' = w11.drew) rfl ?_
      refine yfB (fun w' hw => hw ▸ (k11.ext D11).boxed) (by first | exact fa_108_0 | exact fa_108_1 | exact fa_110_0 | exact fa_110_1 | exact fa_112_0 | exact fa_112_1 | exact fa_112_2 | exact fa_112_3 | exact fa_112_4 | exact fa_114_0 | exact fa_114_1 | exact fa_114_2 | exact fa_116_0 | exact fa_116_1 | exact fa_116_2 | exact fa_26_0 | exact fa_26_1 | exact fa_26_2 | exact fa_37_0 | exact fa_37_1 | exact fa_44_0 | exact fa_44_1 | exact fa_44_2 | exact fa_54_0 | exact fa_61_0 | exact fa_61_1 | exact fa_68_0 | exact fa_68_1 | exact fa_68_2 | exact fa_68_3 | exact fa_70_0 | exact fa_70_1 | exact fa_70_2 | exact fa_76_0 | exact fa_76_1 | exact fa_76_2 | exact fa_76_3 | exact fa_76_6 | exact fa_76_7 | exact fa_82_0 | exact fa_82_1 | exact fa_82_2 | exact fa_82_3 | exact fa_82_4 | exact fa_82_5 | exact fa_82_6 | exact fa_82_7 | exact fa_82_8 | exact fa_91_0 | exact fa_91_1 | exact fa_93_0 | exact fa_93_1 | exact fa_93_2 | exact fa_95_0 | exact fa_95_1 | exact fa_95_2 | exact fa_95_3 | exact fa_97_0 | exact fa_99_0 | exact fa_99_1) (by first | exact l1_21 | exact l1_24 | exact l1_28 | exact l1_3 | exact l1_35 | exact l1_4 | exact l1_42 | exact l1_52 | exact l1_58) rfl ?_
      refine yfB (fun w' hw => hw ▸ (T11.ext D11).t.boxed) (by first | exact fa_108_0 | exact fa_108_1 | exact fa_110_0 | exact fa_110_1 | exact fa_112_0 | exact fa_112_1 | exact fa_112_2 | exact fa_112_3 | exact fa_112_4 | exact fa_114_0 | exact fa_114_1 | exact fa_114_2 | exact fa_116_0 | exact fa_116_1 | exact fa_116_2 | exact fa_26_0 | exact fa_26_1 | exact fa_26_2 | exact fa_37_0 | exact fa_37_1 | exact fa_44_0 | exact fa_44_1 | exact fa_44_2 | exact fa_54_0 | exact fa_61_0 | exact fa_61_1 | exact fa_68_0 | exact fa_68_1 | exact fa_68_2 | exact fa_68_3 | exact fa_70_0 | exact fa_70_1 | exact fa_70_2 | exact fa_76_0 | exact fa_76_1 | exact fa_76_2 | exact fa_76_3 | exact fa_76_6 | exact fa_76_7 | exact fa_82_0 | exact fa_82_1 | exact fa_82_2 | exact fa_82_3 | exact fa_82_4 | exact fa_82_5 | exact fa_82_6 | exact fa_82_7 | exact fa_82_8 | exact fa_91_0 | exact fa_91_1 | exact fa_93_0 | exact fa_93_1 | exact fa_93_2 | exact fa_95_0 | exact fa_95_1 | exact fa_95_2 | exact fa_95_3 | exact fa_97_0 | exact fa_99_0 | exact fa_99_1) (by first | exact l1_21 | exact l1_24 | exact l1_28 | exact l1_3 | exact l1_35 | exact l1_4 | exact l1_42 | exact l1_52 | exact l1_58) rfl ?_
      have hsn := SliceIs.of_own T11.own.1
      rw [hgl] at hsn
      refine ySl xa_24 l1_52 hsn (fun w' hw => hw ▸ D11) (by omega) (by omega) (by simpa using hu) ?_
      refine yieldS.ok (fun w' _ => r_ix_24 (by omega) (by omega)) ?_
      have hii : ((i : Nat) : Int).toNat = i := by simp
      rw [hii]
      refine stY inf52 (D11.own o11) hi' hut.one fun w12 o12 hg12 => ?_
      have T12 := (T11.ext D11).own' (D11.own o11) hg12 (by decide) l10
      have k12 := (k11.ext D11).grown hg12 (fun he => hne (by cases he; rfl))
      refine ldB k12.boxed (by first | exact fa_108_0 | exact fa_108_1 | exact fa_110_0 | exact fa_110_1 | exact fa_112_0 | exact fa_112_1 | exact fa_112_2 | exact fa_112_3 | exact fa_112_4 | exact fa_114_0 | exact fa_114_1 | exact fa_114_2 | exact fa_116_0 | exact fa_116_1 | exact fa_116_2 | exact fa_26_0 | exact fa_26_1 | exact fa_26_2 | exact fa_37_0 | exact fa_37_1 | exact fa_44_0 | exact fa_44_1 | exact fa_44_2 | exact fa_54_0 | exact fa_61_0 | exact fa_61_1 | exact fa_68_0 | exact fa_68_1 | exact fa_68_2 | exact fa_68_3 | exact fa_70_0 | exact fa_70_1 | exact fa_70_2 | exact fa_76_0 | exact fa_76_1 | exact fa_76_2 | exact fa_76_3 | exact fa_76_6 | exact fa_76_7 | exact fa_82_0 | exact fa_82_1 | exact fa_82_2 | exact fa_82_3 | exact fa_82_4 | exact fa_82_5 | exact fa_82_6 | exact fa_82_7 | exact fa_82_8 | exact fa_91_0 | exact fa_91_1 | exact fa_93_0 | exact fa_93_1 | exact fa_93_2 | exact fa_95_0 | exact fa_95_1 | exact fa_95_2 | exact fa_95_3 | exact fa_97_0 | exact fa_99_0 | exact fa_99_1) (by first | exact l1_21 | exact l1_24 | exact l1_28 | exact l1_3 | exact l1_35 | exact l1_4 | exact l1_42 | exact l1_52 | exact l1_58) rfl ?_
      refine ldB k12.boxed (by first | exact fa_108_0 | exact fa_108_1 | exact fa_110_0 | exact fa_110_1 | exact fa_112_0 | exact fa_112_1 | exact fa_112_2 | exact fa_112_3 | exact fa_112_4 | exact fa_114_0 | exact fa_114_1 | exact fa_114_2 | exact fa_116_0 | exact fa_116_1 | exact fa_116_2 | exact fa_26_0 | exact fa_26_1 | exact fa_26_2 | exact fa_37_0 | exact fa_37_1 | exact fa_44_0 | exact fa_44_1 | exact fa_44_2 | exact fa_54_0 | exact fa_61_0 | exact fa_61_1 | exact fa_68_0 | exact fa_68_1 | exact fa_68_2 | exact fa_68_3 | exact fa_70_0 | exact fa_70_1 | exact fa_70_2 | exact fa_76_0 | exact fa_76_1 | exact fa_76_2 | exact fa_76_3 | exact fa_76_6 | exact fa_76_7 | exact fa_82_0 | exact fa_82_1 | exact fa_82_2 | exact fa_82_3 | exact fa_82_4 | exact fa_82_5 | exact fa_82_6 | exact fa_82_7 | exact fa_82_8 | exact fa_91_0 | exact fa_91_1 | exact fa_93_0 | exact fa_93_1 | exact fa_93_2 | exact fa_95_0 | exact fa_95_1 | exact fa_95_2 | exact fa_95_3 | exact fa_97_0 | exact fa_99_0 | exact fa_99_1) (by first | exact l1_21 | exact l1_24 | exact l1_28 | exact l1_3 | exact l1_35 | exact l1_4 | exact l1_42 | exact l1_52 | exact l1_58) rfl ?_
      refine V_ln_24.2 (V_sub.2 ?_)
      rw [wrap_id (by omega) (by omega), show ((gs0.length : Nat) : Int) - 1 = ((gs0.length - 1 : Nat) : Int) by omega]
      refine bld bd_54 [(0, i64 (-1))] rfl rfl ?_
      refine mki mi_54 ?_
      refine stO xa_24 inf52 o12 (by omega) (by omega) rfl fun w13 o13 hg13 => ?_
      have T13 := T12.own' o12 hg13 (by decide) l10
      have k13 := k12.grown hg13 (fun he => hne (by cases he; rfl))
      have o13' : w13.ownsRow g10 52 1 (.slice (some ⟨g10, 0, none⟩) gs0.length gs0.length) gs0.length ((cs.set i u).set (gs0.length - 1) retV) := by simpa [retV] using o13
      have hut13 : NodeT w13 u g := ((hut.ext D11).grown' (D11.own o11) hg12 (by decide)).grown' o12 hg13 (by decide)
      refine ldB T13.t.boxed (by first | exact fa_108_0 | exact fa_108_1 | exact fa_110_0 | exact fa_110_1 | exact fa_112_0 | exact fa_112_1 | exact fa_112_2 | exact fa_112_3 | exact fa_112_4 | exact fa_114_0 | exact fa_114_1 | exact fa_114_2 | exact fa_116_0 | exact fa_116_1 | exact fa_116_2 | exact fa_26_0 | exact fa_26_1 | exact fa_26_2 | exact fa_37_0 | exact fa_37_1 | exact fa_44_0 | exact fa_44_1 | exact fa_44_2 | exact fa_54_0 | exact fa_61_0 | exact fa_61_1 | exact fa_68_0 | exact fa_68_1 | exact fa_68_2 | exact fa_68_3 | exact fa_70_0 | exact fa_70_1 | exact fa_70_2 | exact fa_76_0 | exact fa_76_1 | exact fa_76_2 | exact fa_76_3 | exact fa_76_6 | exact fa_76_7 | exact fa_82_0 | exact fa_82_1 | exact fa_82_2 | exact fa_82_3 | exact fa_82_4 | exact fa_82_5 | exact fa_82_6 | exact fa_82_7 | exact fa_82_8 | exact fa_91_0 | exact fa_91_1 | exact fa_93_0 | exact fa_93_1 | exact fa_93_2 | exact fa_95_0 | exact fa_95_1 | exact fa_95_2 | exact fa_95_3 | exact fa_97_0 | exact fa_99_0 | exact fa_99_1) (by first | exact l1_21 | exact l1_24 | exact l1_28 | exact l1_3 | exact l1_35 | exact l1_4 | exact l1_42 | exact l1_52 | exact l1_58) rfl ?_
      refine V_ln_24.2 (V_sub.2 ?_)
      rw [wrap_id (by omega) (by omega), show ((gs0.length : Nat) : Int) - 1 = ((gs0.length - 1 : Nat) : Int) by omega]
      refine V_eqlI.2 (ifD_dec (fun heq => ?_) fun hneq => ?_)
      · exact tameEnd T13 hm hgl (by rw [hgl]; exact hlast) hargs fun j g hj hgj => by rw [hgl] at hj ⊢; exact hdone j g (by omega) hj hgj
      have hiN : i ≠ gs0.length - 1 := fun e => hneq (by rw [e])
      refine ldA k13.boxed la_26 rfl ?_
      have hq : ProgIs w13 (.agg #[i64 0, i64 R, .slice (some ⟨g10, 0, none⟩) gs0.length gs0.length]) ⟨0, R, tried gs0.length i g⟩ := by
        refine ⟨_, rfl, ⟨_, by rw [tried_len]; exact SliceIs.of_own o13', fun j m hj => ?_⟩, fun m hm' => ?_⟩
        · have hjN : j < gs0.length := by have := (List.getElem?_eq_some_iff.1 hj).1; simpa [tried] using this
          rcases tried_get hj with ⟨h1, rfl⟩ | ⟨h1, rfl, rfl⟩ | ⟨h1, h2, rfl⟩
          · subst h1
            exact ⟨retV, by rw [List.getElem?_set_self (by simp; omega)], (retT _).is⟩
          · exact ⟨u, by rw [List.getElem?_set_ne (fun e => h1 e.symm), List.getElem?_set_self (by omega)], hut13.is⟩
          · exact ⟨tickV, by rw [List.getElem?_set_ne (fun e => h1 e.symm), List.getElem?_set_ne (fun e => h2 e.symm)]; exact htick j (by omega), (tickT _).is⟩
        · obtain ⟨j, hj⟩ := List.getElem?_of_mem hm'
          rcases tried_get hj with ⟨_, rfl⟩ | ⟨_, rfl, rfl⟩ | ⟨_, _, rfl⟩
          · exact Nat.zero_le _
          · have := hargs _ (List.mem_of_getElem? hg); omega
          · exact Nat.zero_le _
      refine (plainProg_ok hq (by show (tried gs0.length i g).length ≤ 1000; rw [tried_len]; omega)).mono fun v w14 ⟨hv, x14⟩ => ?_
      refine (checkP_ok hv (by show (tried gs0.length i g).length ≤ 1000; rw [tried_len]; omega) fun m hm' => ?_).mono fun v w15 ⟨⟨ok, hok, hall⟩, x15⟩ => ?_
      · have h3 := us_len m
        obtain ⟨j, hj⟩ := List.getElem?_of_mem hm'
        rcases tried_get hj with ⟨_, rfl⟩ | ⟨_, rfl, rfl⟩ | ⟨_, _, rfl⟩
        · simp [GNode.args] at h3; omega
        · have := hargs _ (List.mem_of_getElem? hg); omega
        · simp [GNode.args] at h3; omega
      subst hok
      have T15 := (T13.ext x14).ext x15
      refine V_not.2 (ifD.mk (fun hn => ?_) fun hn => ?_)
      · refine ldB T15.t.boxed (by first | exact fa_108_0 | exact fa_108_1 | exact fa_110_0 | exact fa_110_1 | exact fa_112_0 | exact fa_112_1 | exact fa_112_2 | exact fa_112_3 | exact fa_112_4 | exact fa_114_0 | exact fa_114_1 | exact fa_114_2 | exact fa_116_0 | exact fa_116_1 | exact fa_116_2 | exact fa_26_0 | exact fa_26_1 | exact fa_26_2 | exact fa_37_0 | exact fa_37_1 | exact fa_44_0 | exact fa_44_1 | exact fa_44_2 | exact fa_54_0 | exact fa_61_0 | exact fa_61_1 | exact fa_68_0 | exact fa_68_1 | exact fa_68_2 | exact fa_68_3 | exact fa_70_0 | exact fa_70_1 | exact fa_70_2 | exact fa_76_0 | exact fa_76_1 | exact fa_76_2 | exact fa_76_3 | exact fa_76_6 | exact fa_76_7 | exact fa_82_0 | exact fa_82_1 | exact fa_82_2 | exact fa_82_3 | exact fa_82_4 | exact fa_82_5 | exact fa_82_6 | exact fa_82_7 | exact fa_82_8 | exact fa_91_0 | exact fa_91_1 | exact fa_93_0 | exact fa_93_1 | exact fa_93_2 | exact fa_95_0 | exact fa_95_1 | exact fa_95_2 | exact fa_95_3 | exact fa_97_0 | exact fa_99_0 | exact fa_99_1) (by first | exact l1_21 | exact l1_24 | exact l1_28 | exact l1_3 | exact l1_35 | exact l1_4 | exact l1_42 | exact l1_52 | exact l1_58) rfl ?_
        refine bld bd_50 [] rfl rfl ?_
        refine mki mi_50 ?_
        have ho15 := T15.own.1
        rw [hgl] at ho15
        refine stO xa_24 inf52 ho15 (by omega) (by omega) rfl fun w16 o16 hg16 => ?_
        refine V_add.2 ?_
        rw [wrap_id (by omega) (by omega), i64_succ]
        have T16 := T15.put (i := i) (g := .tick) (u := tickV) (w' := w16) (by omega) (by rw [hgl]; simpa [tickV] using o16) hg16 (tickT _)
        refine ⟨⟨i + 1, gs.set i .tick, vs.set i tickV, rfl, by omega, T16, by simpa using hgl, by rw [List.getElem?_set_ne (fun e => hiN e)]; exact hlast, fun g' hg' => ?_, fun j g' hj hjN hgj => ?_⟩, by simp only [intOf_i64]; omega⟩
        · rcases List.mem_or_eq_of_mem_set hg' with h | rfl
          · exact hargs g' h
          · exact Nat.zero_le _
        · by_cases hji : j = i
          · subst hji
            rw [List.getElem?_set_self (by omega)] at hgj
            cases hgj
            exact right_tick (by omega)
          · rw [List.getElem?_set_ne (fun e => hji e.symm)] at hgj
            exact hdone j g' (by omega) hjN hgj
      · refine V_add.2 ?_
        rw [wrap_id (by omega) (by omega), i64_succ]
        refine ⟨⟨i + 1, gs, vs, rfl, by omega, T15, hgl, hlast, hargs, fun j g' hj hjN hgj => ?_⟩, by simp only [intOf_i64]; omega⟩
        by_cases hji : j = i
        · subst hji
          rw [hg] at hgj
          cases hgj
          have := hall (by simpa using hn) j g (tried_at hi' hiN)
          rw [show (tried gs0.length j g).length = gs0.length from tried_len _ _ _] at this
          exact this
        · exact hdone j g' (by omega) hjN hgj
  · exact tameEnd T4 hm hgl (by rw [hgl]; exact hlast) hargs fun j g hj hgj => by rw [hgl] at hj ⊢; exact hdone j g (by omega) hj hgj
end Go.Proofs.YtendijaeihljeaaDoor
