/- The reference: where a plain node writes, what is alive ahead of it, and one sweep's innermost loop. The reference's Behind: its sweep's innermost loop, and its contract. The reference's apart: have all of some registers places of their own? Package place: with. Package place: may a register have a place? Which nodes are pure; which leave the chip's registers. Package place: the rules as they are made: which registers meet, which must stand in slots. Package place: all of some registers meet one another. The words' functions: each answers a number that its arguments alone make. ir.do, walked. ir.Eval, walked; what is not alive does not matter. LiveDead, walked. -/
import Derived.Test.YtendijaeihljeaaDoorNd5
import Derived.Test.YtendijaeihljeaaDoorLive6
import Derived.Deep.AppendLies
import Derived.Laws.CopyRow
namespace Go.Proofs.YtendijaeihljeaaDoor
open Go.Vc
theorem wr_df {g : GNode} (h : g.wr < 0) : g.df = -1 := by cases g <;> simp_all [GNode.wr, GNode.df]
theorem def36_ok {g : GNode} {v : Value} {w : World} (h : PlainIs w v g) : callD Tryd.prog 29 #[v] w fun r w' => r = i64 g.df ∧ Ext w w' := by
  have h0 := h
  obtain ⟨m, sv, rfl, hs⟩ := h
  apply F29_wp
  unfold F29_den
  refine bx fun b w1 hb x1 => ?_
  refine ldA hb la_76 rfl ?_
  refine (writes_ok (h0.ext x1)).mono fun r w2 ⟨hr, x2⟩ => ?_
  subst hr
  refine V_lss.2 (ifD_dec (fun hlt => ?_) fun hge => ?_)
  · exact ⟨by rw [wr_df hlt], x1.trans x2⟩
  · refine ldB (hb.ext x2) (by first | exact fa_108_0 | exact fa_108_1 | exact fa_110_0 | exact fa_110_1 | exact fa_112_0 | exact fa_112_1 | exact fa_112_2 | exact fa_112_3 | exact fa_112_4 | exact fa_114_0 | exact fa_114_1 | exact fa_114_2 | exact fa_116_0 | exact fa_116_1 | exact fa_116_2 | exact fa_26_0 | exact fa_26_1 | exact fa_26_2 | exact fa_37_0 | exact fa_37_1 | exact fa_44_0 | exact fa_44_1 | exact fa_44_2 | exact fa_54_0 | exact fa_61_0 | exact fa_61_1 | exact fa_68_0 | exact fa_68_1 | exact fa_68_2 | exact fa_68_3 | exact fa_70_0 | exact fa_70_1 | exact fa_70_2 | exact fa_76_0 | exact fa_76_1 | exact fa_76_2 | exact fa_76_3 | exact fa_76_6 | exact fa_76_7 | exact fa_82_0 | exact fa_82_1 | exact fa_82_2 | exact fa_82_3 | exact fa_82_4 | exact fa_82_5 | exact fa_82_6 | exact fa_82_7 | exact fa_82_8 | exact fa_91_0 | exact fa_91_1 | exact fa_93_0 | exact fa_93_1 | exact fa_93_2 | exact fa_95_0 | exact fa_95_1 | exact fa_95_2 | exact fa_95_3 | exact fa_97_0 | exact fa_99_0 | exact fa_99_1) (by first | exact l1_21 | exact l1_24 | exact l1_28 | exact l1_3 | exact l1_35 | exact l1_4 | exact l1_42 | exact l1_52 | exact l1_58) rfl ?_
    exact ⟨rfl, x1.trans x2⟩
set_option maxHeartbeats 1000000 in
theorem in31_ok {n : GNode} {nv bv : Value} {bs : List Bool} {w : World} (hn : PlainIs w nv n) (hb : BoolsAre w bv bs) (hl : n.us.length ≤ 4294967299) (hbl : bs.length ≤ 4294967296)
    (hd : n.df < bs.length) (hu : ∀ r ∈ n.us, 0 ≤ r ∧ r < bs.length) :
    callD Tryd.prog 49 #[nv, bv] w fun r w' => w'.ownsRow w.heap.size 4 1 r bs.length ((aheadL n bs).map Value.bool) ∧ Ext w w' := by
  have hn0 := hn
  obtain ⟨m, sv, rfl, hs⟩ := hn
  apply F49_wp
  unfold F49_den
  refine bxK fun w1 h1 x1 => ?_
  refine bsl (by first | exact xe_23 | exact xe_24 | exact xe_28 | exact xe_35 | exact xe_58) [] rfl rfl (by simp) rfl fun v0 w2 ho2 x2 => ?_
  have x12 := x1.trans x2
  refine apO (by first | exact xe_23 | exact xe_24 | exact xe_28 | exact xe_35 | exact xe_58) ho2 (hb.ext x12) (by simp [oneC]) (by omega) (by unfold maxLen; omega) x2.size fun ov w3 ho3 hg3 => ?_
  have x3 : Ext w w3 := x12.grown hg3 fun k hk => Nat.le_trans x1.size (ho2.lt k hk).1
  have h3 := (h1.ext x2).grown hg3 (own_blk ho2 h1.lt)
  simp only [Nat.zero_add, List.nil_append] at ho3
  refine ⟨fun w' => w'.ownsRow w1.heap.size 4 1 ov bs.length ((killL n.df bs).map Value.bool) ∧ Ext w w' ∧ Blk w' w.heap.size (n.pcs m sv) 76, ?_, ?_⟩
  · refine ldA h3.boxed la_76 rfl ?_
    refine (def36_ok (hn0.ext x3)).mono fun r w4 ⟨hr, x4⟩ => ?_
    subst hr
    refine V_geq.2 (ifD_dec (fun hge => ?_) fun hlt => ?_)
    · have hge' : 0 ≤ n.df := hge
      refine stO (by first | exact xa_22 | exact xa_23 | exact xa_24 | exact xa_28 | exact xa_35 | exact xa_42 | exact xa_58) inf4 (x4.own ho3) hge' hd rfl fun w5 ho5 hg => ?_
      rw [map_set_b] at ho5
      refine ⟨?_, (x3.trans x4).grown hg fun k hk => Nat.le_trans x1.size (ho3.lt k hk).1, (h3.ext x4).grown hg (own_blk ho3 h1.lt)⟩
      unfold killL
      rw [if_pos hge']
      exact ho5
    · refine ⟨?_, x3.trans x4, h3.ext x4⟩
      unfold killL
      rw [if_neg (by simpa using hlt)]
      exact x4.own ho3
  rintro w4 ⟨ho4, x4, h4⟩ _
  obtain ⟨sa, sc, rfl⟩ := hs.shape
  refine ⟨fun v w' => ∃ j : Nat, v = i64 j ∧ j ≤ n.us.length ∧ Ext w w' ∧ Blk w' w.heap.size (n.pcs m (.slice sa n.us.length sc)) 76 ∧ w'.ownsRow w1.heap.size 4 1 ov bs.length (((n.us.take j).foldl (fun a r => a.set r.toNat true) (killL n.df bs)).map Value.bool),
    fun v _ => n.us.length - (RowKit.intOf v).toNat, ⟨0, rfl, by omega, x4, h4, by simpa using ho4⟩, ?_⟩
  rintro _ w5 ⟨j, rfl, hj, x5, h5, ho5⟩ _
  have hs5 := hs.ext x5
  refine ldB h5.boxed (by first | exact fa_108_0 | exact fa_108_1 | exact fa_110_0 | exact fa_110_1 | exact fa_112_0 | exact fa_112_1 | exact fa_112_2 | exact fa_112_3 | exact fa_112_4 | exact fa_114_0 | exact fa_114_1 | exact fa_114_2 | exact fa_116_0 | exact fa_116_1 | exact fa_116_2 | exact fa_26_0 | exact fa_26_1 | exact fa_26_2 | exact fa_37_0 | exact fa_37_1 | exact fa_44_0 | exact fa_44_1 | exact fa_44_2 | exact fa_54_0 | exact fa_61_0 | exact fa_61_1 | exact fa_68_0 | exact fa_68_1 | exact fa_68_2 | exact fa_68_3 | exact fa_70_0 | exact fa_70_1 | exact fa_70_2 | exact fa_76_0 | exact fa_76_1 | exact fa_76_2 | exact fa_76_3 | exact fa_76_6 | exact fa_76_7 | exact fa_82_0 | exact fa_82_1 | exact fa_82_2 | exact fa_82_3 | exact fa_82_4 | exact fa_82_5 | exact fa_82_6 | exact fa_82_7 | exact fa_82_8 | exact fa_91_0 | exact fa_91_1 | exact fa_93_0 | exact fa_93_1 | exact fa_93_2 | exact fa_95_0 | exact fa_95_1 | exact fa_95_2 | exact fa_95_3 | exact fa_97_0 | exact fa_99_0 | exact fa_99_1) (by first | exact l1_21 | exact l1_24 | exact l1_28 | exact l1_3 | exact l1_35 | exact l1_4 | exact l1_42 | exact l1_52 | exact l1_58) rfl (lnx (by first | exact xa_22 | exact xa_23 | exact xa_24 | exact xa_28 | exact xa_35 | exact xa_42 | exact xa_58) hs5 ?_)
  refine V_lss.2 (ifD_dec (fun hlt => ?_) fun hge => ?_)
  · have hlt' : j < n.us.length := by omega
    obtain ⟨u, hu'⟩ := ex_get hlt'
    obtain ⟨hu0, hu1⟩ := hu u (List.mem_of_getElem? hu')
    refine ldB h5.boxed (by first | exact fa_108_0 | exact fa_108_1 | exact fa_110_0 | exact fa_110_1 | exact fa_112_0 | exact fa_112_1 | exact fa_112_2 | exact fa_112_3 | exact fa_112_4 | exact fa_114_0 | exact fa_114_1 | exact fa_114_2 | exact fa_116_0 | exact fa_116_1 | exact fa_116_2 | exact fa_26_0 | exact fa_26_1 | exact fa_26_2 | exact fa_37_0 | exact fa_37_1 | exact fa_44_0 | exact fa_44_1 | exact fa_44_2 | exact fa_54_0 | exact fa_61_0 | exact fa_61_1 | exact fa_68_0 | exact fa_68_1 | exact fa_68_2 | exact fa_68_3 | exact fa_70_0 | exact fa_70_1 | exact fa_70_2 | exact fa_76_0 | exact fa_76_1 | exact fa_76_2 | exact fa_76_3 | exact fa_76_6 | exact fa_76_7 | exact fa_82_0 | exact fa_82_1 | exact fa_82_2 | exact fa_82_3 | exact fa_82_4 | exact fa_82_5 | exact fa_82_6 | exact fa_82_7 | exact fa_82_8 | exact fa_91_0 | exact fa_91_1 | exact fa_93_0 | exact fa_93_1 | exact fa_93_2 | exact fa_95_0 | exact fa_95_1 | exact fa_95_2 | exact fa_95_3 | exact fa_97_0 | exact fa_99_0 | exact fa_99_1) (by first | exact l1_21 | exact l1_24 | exact l1_28 | exact l1_3 | exact l1_35 | exact l1_4 | exact l1_42 | exact l1_52 | exact l1_58) rfl ?_
    refine ldx (by first | exact xa_22 | exact xa_23 | exact xa_24 | exact xa_28 | exact xa_35 | exact xa_42 | exact xa_58) (by first | exact l1_21 | exact l1_24 | exact l1_28 | exact l1_3 | exact l1_35 | exact l1_4 | exact l1_42 | exact l1_52 | exact l1_58) hs5 (by omega) (by omega) (getI hu') ?_
    refine stO (by first | exact xa_22 | exact xa_23 | exact xa_24 | exact xa_28 | exact xa_35 | exact xa_42 | exact xa_58) inf4 ho5 hu0 (by omega) rfl fun w6 ho6 hg => ?_
    refine V_add.2 ?_
    rw [wrap_id (by omega) (by omega), i64_succ]
    rw [map_set_b] at ho6
    refine ⟨⟨j + 1, rfl, by omega, x5.grown hg fun k hk => Nat.le_trans x1.size (ho5.lt k hk).1, h5.grown hg (own_blk ho5 h1.lt), ?_⟩, by simp only [intOf_i64]; omega⟩
    rw [List.take_add_one, hu']
    simpa using ho6
  · have hju : j = n.us.length := by omega
    subst hju
    rw [List.take_length] at ho5
    exact ⟨own_mono ho5 x1.size, x5⟩
end Go.Proofs.YtendijaeihljeaaDoor
namespace Go.Proofs.YtendijaeihljeaaDoor
open Go.Vc
set_option maxHeartbeats 1600000 in
theorem sweepP {p : GProg} {N R : Nat} {w0 : World} {b g0 : Nat} {cs : List Value} {gs : List Nat} {m0 : Mx} (hN : gs.length = N) (hN2 : N ≤ 250) (hR1 : R ≤ 40) (hc1 : cs[1]? = some (i64 R))
    {k g : Nat} (hkN : k < N) (hg : gs[k]? = some g) {av : Value} {A : List Bool} {B : Nat} (hA : A.length = R) (hgB : ∀ g ∈ gs, g < B)
    (hal : ∀ r, A[r]? = some true → Alive p k r) {Q : Value → World → Prop} {w : World} {f : Bool} {m : Mx} (hst : St w0 w b cs g0 gs R m) (hsw : Swp p N R m0 m f)
    (ha : w.ownsRow B 4 1 av R (A.map Value.bool))
    (hQ : ∀ (f' : Bool) (m' : Mx) w', St w0 w' b cs g0 gs R m' → Swp p N R m0 m' f' → (f = true → f' = true) → (f' = false → ∀ r, A[r]? = some true → m0 k r = true) → Ext w0 w' → (∀ B' e size n v xs, w.ownsRow B' e size n v xs → (∀ g ∈ gs, g < B') → w'.ownsRow B' e size n v xs) → Q (.bool f') w') :
    ∃ (I5 : NP 2) (μ5 : NF 2), I5 (.bool f) (Value.int IntKind.i64 0) w ∧
      ∀ (t5_3 : Value) (t10 : Value), ∀ w32 : World, I5 t5_3 t10 w32 → ∀ _f : Env,
      V Tryd.prog (Instr.fieldAt 44 (.pointer (some ⟨b, 0, none⟩)) 1) w32 fun t66 w33 =>
      V Tryd.prog (Instr.loadAt 3 t66) w33 fun t67 w34 =>
      V Tryd.prog (binOp .lss 3 t10 t67) w34 fun t68 w35 =>
      ifD t68 (
      V Tryd.prog (Instr.indexAt 28 av t10) w35 fun t73 w36 =>
      V Tryd.prog (Instr.loadAt 4 t73) w36 fun t74 w37 =>
      gd t74 true (fun K => K (.slice (some ⟨g0, 0, none⟩) N N) w37) w37 fun t76 w38 =>
      gd t74 true (fun K => K (i64 k) w38) w38 fun t77 w39 =>
      gd t74 true (fun K => V Tryd.prog (Instr.indexAt 58 t76 t77) w39 K) w39 fun t78 w40 =>
      gd t74 true (fun K => V Tryd.prog (Instr.loadAt 28 t78) w40 K) w40 fun t79 w41 =>
      gd t74 true (fun K => K t10 w41) w41 fun t80 w42 =>
      gd t74 true (fun K => V Tryd.prog (Instr.indexAt 28 t79 t80) w42 K) w42 fun t81 w43 =>
      gd t74 true (fun K => V Tryd.prog (Instr.loadAt 4 t81) w43 K) w43 fun t82 w44 =>
      gd t74 true (fun K => V Tryd.prog (Op.unary UnOp.not t82) w44 K) w44 fun t83 w45 =>
      pickD t74 t83 (Value.bool false) fun t84 =>
      ifD t84 (
      V Tryd.prog (Instr.indexAt 58 (.slice (some ⟨g0, 0, none⟩) N N) (i64 k)) w45 fun t87 w47 =>
      V Tryd.prog (Instr.loadAt 28 t87) w47 fun t88 w48 =>
      V Tryd.prog (Instr.indexAt 28 t88 t10) w48 fun t90 w49 =>
      U Tryd.prog (Instr.storeAt 4 t90 (Value.bool true)) w49 fun _ w50 =>
      V Tryd.prog (binOp .add 3 t10 (Value.int IntKind.i64 1)) w50 fun t70 w51 =>
      I5 (Value.bool true) t70 w51 ∧ μ5 (Value.bool true) t70 w51 < μ5 t5_3 t10 w32) (
      V Tryd.prog (binOp .add 3 t10 (Value.int IntKind.i64 1)) w45 fun t70_1 w52 =>
      I5 t5_3 t70_1 w52 ∧ μ5 t5_3 t70_1 w52 < μ5 t5_3 t10 w32)) (
      Q t5_3 w35) := by
  have hgm := List.mem_of_getElem? hg
  refine ⟨fun v1 v2 w' => ∃ (f' : Bool) (r : Nat) (m' : Mx), v1 = .bool f' ∧ v2 = i64 r ∧ r ≤ R ∧ St w0 w' b cs g0 gs R m' ∧ Swp p N R m0 m' f' ∧ (f = true → f' = true) ∧ (f' = false → ∀ j, j < r → A[j]? = some true → m0 k j = true) ∧
      w'.ownsRow B 4 1 av R (A.map Value.bool) ∧ (∀ B' e size n v xs, w.ownsRow B' e size n v xs → (∀ g ∈ gs, g < B') → w'.ownsRow B' e size n v xs), fun _ v2 _ => R - (RowKit.intOf v2).toNat,
    ⟨f, 0, m, rfl, rfl, Nat.zero_le _, hst, hsw, id, fun _ j hj => by omega, ha, fun _ _ _ _ _ _ h _ => h⟩, ?_⟩
  rintro _ _ w1 ⟨f', r, m', rfl, rfl, hr, hst', hsw', hff, hcl, ha', hkeep⟩ _
  refine ldB hst'.box (by first | exact fa_108_0 | exact fa_108_1 | exact fa_110_0 | exact fa_110_1 | exact fa_112_0 | exact fa_112_1 | exact fa_112_2 | exact fa_112_3 | exact fa_112_4 | exact fa_114_0 | exact fa_114_1 | exact fa_114_2 | exact fa_116_0 | exact fa_116_1 | exact fa_116_2 | exact fa_26_0 | exact fa_26_1 | exact fa_26_2 | exact fa_37_0 | exact fa_37_1 | exact fa_44_0 | exact fa_44_1 | exact fa_44_2 | exact fa_54_0 | exact fa_61_0 | exact fa_61_1 | exact fa_68_0 | exact fa_68_1 | exact fa_68_2 | exact fa_68_3 | exact fa_70_0 | exact fa_70_1 | exact fa_70_2 | exact fa_76_0 | exact fa_76_1 | exact fa_76_2 | exact fa_76_3 | exact fa_76_6 | exact fa_76_7 | exact fa_82_0 | exact fa_82_1 | exact fa_82_2 | exact fa_82_3 | exact fa_82_4 | exact fa_82_5 | exact fa_82_6 | exact fa_82_7 | exact fa_82_8 | exact fa_91_0 | exact fa_91_1 | exact fa_93_0 | exact fa_93_1 | exact fa_93_2 | exact fa_95_0 | exact fa_95_1 | exact fa_95_2 | exact fa_95_3 | exact fa_97_0 | exact fa_99_0 | exact fa_99_1) (by first | exact l1_21 | exact l1_24 | exact l1_28 | exact l1_3 | exact l1_35 | exact l1_4 | exact l1_42 | exact l1_52 | exact l1_58) hc1 ?_
  refine V_lss.2 (ifD_dec (fun hlt => ?_) fun hge => ?_)
  · have hr' : r < R := by omega
    obtain ⟨a, haa⟩ := ex_get (l := A) (j := r) (by omega)
    refine ldO' xa_28 l1_4 ha' (by omega) (by omega) (getB haa) ?_
    have hrow := hst'.rows k g hg
    have hslO : SliceIs w1 (.slice (some ⟨g0, 0, none⟩) N N) 1 N (gs.map (sl R)) := hst'.out.slice (by simpa using hN) (by unfold maxLen; omega)
    have hslR : SliceIs w1 (sl R g) 1 R ((rowL m' k R).map Value.bool) := hrow.slice (by simp [rowL_len]) (by unfold maxLen; omega)
    have hgk : (gs.map (sl R))[((k : Nat) : Int).toNat]? = some (sl R g) := by simp [hg]
    have hmk : ((rowL m' k R).map Value.bool)[((r : Nat) : Int).toNat]? = some (.bool (m' k r)) := by simp [rowL_get hr']
    have flag : ∀ {Z : Value → World → Prop}, Z (.bool (a && !m' k r)) w1 →
        (gd (.bool a) true (fun K => K (.slice (some ⟨g0, 0, none⟩) N N) w1) w1 fun t76 w38 =>
      gd (.bool a) true (fun K => K (i64 k) w38) w38 fun t77 w39 =>
      gd (.bool a) true (fun K => V Tryd.prog (Instr.indexAt 58 t76 t77) w39 K) w39 fun t78 w40 =>
      gd (.bool a) true (fun K => V Tryd.prog (Instr.loadAt 28 t78) w40 K) w40 fun t79 w41 =>
      gd (.bool a) true (fun K => K (i64 r) w41) w41 fun t80 w42 =>
      gd (.bool a) true (fun K => V Tryd.prog (Instr.indexAt 28 t79 t80) w42 K) w42 fun t81 w43 =>
      gd (.bool a) true (fun K => V Tryd.prog (Instr.loadAt 4 t81) w43 K) w43 fun t82 w44 =>
      gd (.bool a) true (fun K => V Tryd.prog (Op.unary UnOp.not t82) w44 K) w44 fun t83 w45 =>
      pickD (.bool a) t83 (Value.bool false) fun t84 => Z t84 w45) := by
      intro Z hZ
      cases a with
      | false => simp only [gd_ft, pickD_iff, Bool.false_eq_true, reduceIte]; simpa using hZ
      | true =>
        simp only [gd_t]
        refine ldx xa_58 l1_28 hslO (by omega) (by omega) hgk ?_
        refine ldx xa_28 l1_4 hslR (by omega) (by omega) hmk ?_
        simp only [V_not, pickD_iff, reduceIte]
        simpa using hZ
    refine flag ?_
    refine ifD.mk (fun ht => ?_) fun hf => ?_
    · have ha1 : a = true := by cases a with | true => rfl | false => cases ht
      have hm0 : m' k r = false := by cases hm : m' k r with | false => rfl | true => rw [hm, Bool.not_true, Bool.and_false] at ht; cases ht
      refine ldx xa_58 l1_28 hslO (by omega) (by omega) hgk ?_
      refine V.ok (r_ix_28 (by omega) (by omega)) ?_
      refine U.ok (r_store inf4 rfl (u := .bool (m' k r)) ?_ ?_) ?_
      · have := hrow.cell r
        rw [List.getElem?_map, rowL_get hr'] at this
        simpa using this
      · exact hrow.frozen _
      · refine V_add.2 ?_
        rw [wrap_id (by omega) (by omega), i64_succ]
        have hset := hst'.set hg r true
        have hk' : ∀ {B' e size n v xs}, w1.ownsRow B' e size v n xs → (∀ g ∈ gs, g < B') → (w1.setCell ⟨g, 0 + (r : Int).toNat * 1, none⟩ (.bool true)).ownsRow B' e size v n xs := by
          intro B' e size n v xs h hB
          refine h.kept (row := some g) ⟨rfl, rfl, rfl, by simp, fun i _ hi => heap_setCell_other _ _ _ _ (fun he => hi (by simp [he]))⟩ (own_ne h fun x hx => ?_)
          cases hx
          exact hB g hgm
        have hst2 := hsw'.step hkN hr' a (fun h => hal r (by rw [haa, h]))
        rw [ha1, hm0] at hst2
        simp only [Bool.not_false, Bool.and_self, Bool.or_true] at hst2
        refine ⟨⟨true, r + 1, updM m' k r true, rfl, rfl, by omega, by simpa using hset, hst2, fun _ => rfl, (fun h => by cases h), hk' ha' hgB, fun B' e size n v xs h hB => hk' (hkeep B' e size n v xs h hB) hB⟩, by simp only [intOf_i64]; omega⟩
    · refine V_add.2 ?_
      rw [wrap_id (by omega) (by omega), i64_succ]
      refine ⟨⟨f', r + 1, m', rfl, rfl, by omega, hst', hsw', hff, fun hf0 j hj hAj => ?_, ha', hkeep⟩, by simp only [intOf_i64]; omega⟩
      by_cases hjr : j = r
      · subst hjr
        rw [haa] at hAj
        cases hAj
        have : m' k j = true := by simpa using hf
        rw [← hsw'.no hf0]
        exact this
      · exact hcl hf0 j (by omega) hAj
  · refine hQ f' m' w1 hst' hsw' hff (fun hf r' hr' => hcl hf r' ?_ hr') hst'.x hkeep
    have := (List.getElem?_eq_some_iff.1 hr').1
    omega

set_option maxHeartbeats 1600000 in
theorem behindP_ok {p : GProg} {R : Nat} {pv : Value} {w : World} (hp : PProgIs w pv p.params p.regs p.nodes) (hargs : ∀ n ∈ p.nodes, n.args.length ≤ 4294967296) (hv : OkProg p) (hR : p.regs = R) :
    callD Tryd.prog 28 #[pv] w fun r w' => (∃ m, MatIs w' r p.nodes.length R m ∧ ∀ k r, k < p.nodes.length → r < R → (m k r = true ↔ Alive p k r)) ∧ Ext w w' := by
  obtain ⟨ns, cs, rfl, hs, hel⟩ := hp
  have hl1 := hv.l1; have hl2 := hv.l2; have hr1 := hv.r1; have hr2 := hv.r2
  have hat := fun {k : Nat} (hk : k < p.nodes.length) => hv.at hk
  generalize hN : p.nodes.length = N at *
  apply F28_wp
  unfold F28_den
  refine bx fun b w1 hb x1 => ?_
  have hb2 := hb
  have X2 := x1
  obtain ⟨na, nc, rfl⟩ := hs.shape
  refine ldB hb2 (by first | exact fa_108_0 | exact fa_108_1 | exact fa_110_0 | exact fa_110_1 | exact fa_112_0 | exact fa_112_1 | exact fa_112_2 | exact fa_112_3 | exact fa_112_4 | exact fa_114_0 | exact fa_114_1 | exact fa_114_2 | exact fa_116_0 | exact fa_116_1 | exact fa_116_2 | exact fa_26_0 | exact fa_26_1 | exact fa_26_2 | exact fa_37_0 | exact fa_37_1 | exact fa_44_0 | exact fa_44_1 | exact fa_44_2 | exact fa_54_0 | exact fa_61_0 | exact fa_61_1 | exact fa_68_0 | exact fa_68_1 | exact fa_68_2 | exact fa_68_3 | exact fa_70_0 | exact fa_70_1 | exact fa_70_2 | exact fa_76_0 | exact fa_76_1 | exact fa_76_2 | exact fa_76_3 | exact fa_76_6 | exact fa_76_7 | exact fa_82_0 | exact fa_82_1 | exact fa_82_2 | exact fa_82_3 | exact fa_82_4 | exact fa_82_5 | exact fa_82_6 | exact fa_82_7 | exact fa_82_8 | exact fa_91_0 | exact fa_91_1 | exact fa_93_0 | exact fa_93_1 | exact fa_93_2 | exact fa_95_0 | exact fa_95_1 | exact fa_95_2 | exact fa_95_3 | exact fa_97_0 | exact fa_99_0 | exact fa_99_1) (by first | exact l1_21 | exact l1_24 | exact l1_28 | exact l1_3 | exact l1_35 | exact l1_4 | exact l1_42 | exact l1_52 | exact l1_58) rfl (lnx (by first | exact xa_22 | exact xa_23 | exact xa_24 | exact xa_28 | exact xa_35 | exact xa_42 | exact xa_58) (hs.ext X2) ?_)
  refine mkB Tryd.underlying58 inf28 rfl (n := N) (by omega) (by omega) fun w3 ho x3 hsz3 => ?_
  have hbB : b < w1.heap.size := by
    have := hb2 0 (i64 p.params) rfl
    exact World.block_lt_of_cell? _ _ this
  have hlo : w.heap.size ≤ w1.heap.size := X2.size
  generalize w1.heap.size = g0 at *
  have X3 := X2.trans x3
  -- the rows are made
  refine ⟨fun v w' => ∃ gs : List Nat, v = i64 gs.length ∧ gs.length ≤ N ∧ Ext w w' ∧ Boxed w' b [i64 p.params, i64 p.regs, .slice na N nc] ∧ (∀ g ∈ gs, g0 < g) ∧ gs.Nodup ∧ (∀ g ∈ gs, g < w'.heap.size) ∧
      Blk w' g0 (gs.map (sl R) ++ List.replicate (N - gs.length) (.slice none 0 0)) 28 ∧ ∀ g ∈ gs, Blk w' g (List.replicate R (.bool false)) 4,
    fun v _ => N - (RowKit.intOf v).toNat, ⟨[], rfl, Nat.zero_le _, X3, hb2.ext x3, by simp, List.nodup_nil, by simp, by simpa using ho, by simp⟩, ?_⟩
  rintro _ w4 ⟨gs, rfl, hle, x4, hb4, hgg, hnd, hlt4, ho4, hrows4⟩ _
  refine V_ln_58.2 ?_
  refine V_lss.2 (ifD_dec (fun hlt => ?_) fun hge => ?_)
  · refine ldB hb4 (by first | exact fa_108_0 | exact fa_108_1 | exact fa_110_0 | exact fa_110_1 | exact fa_112_0 | exact fa_112_1 | exact fa_112_2 | exact fa_112_3 | exact fa_112_4 | exact fa_114_0 | exact fa_114_1 | exact fa_114_2 | exact fa_116_0 | exact fa_116_1 | exact fa_116_2 | exact fa_26_0 | exact fa_26_1 | exact fa_26_2 | exact fa_37_0 | exact fa_37_1 | exact fa_44_0 | exact fa_44_1 | exact fa_44_2 | exact fa_54_0 | exact fa_61_0 | exact fa_61_1 | exact fa_68_0 | exact fa_68_1 | exact fa_68_2 | exact fa_68_3 | exact fa_70_0 | exact fa_70_1 | exact fa_70_2 | exact fa_76_0 | exact fa_76_1 | exact fa_76_2 | exact fa_76_3 | exact fa_76_6 | exact fa_76_7 | exact fa_82_0 | exact fa_82_1 | exact fa_82_2 | exact fa_82_3 | exact fa_82_4 | exact fa_82_5 | exact fa_82_6 | exact fa_82_7 | exact fa_82_8 | exact fa_91_0 | exact fa_91_1 | exact fa_93_0 | exact fa_93_1 | exact fa_93_2 | exact fa_95_0 | exact fa_95_1 | exact fa_95_2 | exact fa_95_3 | exact fa_97_0 | exact fa_99_0 | exact fa_99_1) (by first | exact l1_21 | exact l1_24 | exact l1_28 | exact l1_3 | exact l1_35 | exact l1_4 | exact l1_42 | exact l1_52 | exact l1_58) rfl ?_
    refine mkBv hR Tryd.underlying28 inf4 rfl (n := R) (by omega) (by omega) fun w5 hrow x5 hsz5 => ?_
    refine stB xa_58 inf28 (ho4.ext x5) (by simp; omega) (by omega) (by omega) rfl ?_
    refine V_add.2 ?_
    rw [wrap_id (by omega) (by omega), i64_succ]
    simp only [Int.toNat_natCast]
    have hset := (ho4.ext x5).set gs.length (sl R w4.heap.size)
    rw [set_rows R _ gs N (by omega)] at hset
    have hg0 := ho4.lt
    refine ⟨⟨gs ++ [w4.heap.size], by simp, by simp; omega, (x4.trans x5).setCell hlo _, Boxed.other (g := g0) (hb4.ext x5) (by omega), ?_, ?_, ?_, hset, ?_⟩, by simp only [intOf_i64]; omega⟩
    · intro g hg
      rcases List.mem_append.1 hg with h | h
      · exact hgg g h
      · have : g = w4.heap.size := by simpa using h
        omega
    · refine List.nodup_append.2 ⟨hnd, by simp, ?_⟩
      intro a ha c hc
      have : c = w4.heap.size := by simpa using hc
      have := hlt4 a ha
      omega
    · intro g hg
      simp only [World.size_setCell]
      rcases List.mem_append.1 hg with h | h
      · have := hlt4 g h; omega
      · have : g = w4.heap.size := by simpa using h
        omega
    · intro g hg
      rcases List.mem_append.1 hg with h | h
      · exact ((hrows4 g h).ext x5).other (by have := hgg g h; omega)
      · have he : g = w4.heap.size := by simpa using h
        subst he
        exact hrow.other (by omega)
  have hgl : gs.length = N := by omega
  rw [hgl, Nat.sub_self] at ho4
  simp only [List.replicate_zero, List.append_nil] at ho4
  have hst0 : St w w4 b [i64 p.params, i64 p.regs, .slice na N nc] g0 gs R (fun _ _ => false) :=
    ⟨x4, hb4, hlo, hbB, hgg, hnd, ho4, fun k g hk => by rw [rowL_false]; exact hrows4 g (List.mem_of_getElem? hk)⟩
  clear hrows4 ho4 hlt4 hle hge hb4 x4
  have hslO : ∀ {w' m}, St w w' b [i64 p.params, i64 p.regs, .slice na N nc] g0 gs R m → SliceIs w' (.slice (some ⟨g0, 0, none⟩) N N) 1 N (gs.map (sl R)) := fun h => h.out.slice (by simpa using hgl) (by unfold maxLen; omega)
  have hslR : ∀ {w' m k g}, St w w' b [i64 p.params, i64 p.regs, .slice na N nc] g0 gs R m → gs[k]? = some g → SliceIs w' (sl R g) 1 R ((rowL m k R).map Value.bool) := fun h hk => (h.rows _ _ hk).slice (by simp [rowL_len]) (by unfold maxLen; omega)
  have hglt : ∀ {w' m}, St w w' b [i64 p.params, i64 p.regs, .slice na N nc] g0 gs R m → ∀ g ∈ gs, g < w'.heap.size := fun h g hg => by
    obtain ⟨k, hk⟩ := List.getElem?_of_mem hg
    exact (h.rows k g hk).lt
  -- round after round
  refine ⟨fun v w' => ∃ (f : Bool) (m : Mx), v = .bool f ∧ St w w' b [i64 p.params, i64 p.regs, .slice na N nc] g0 gs R m ∧ Snd p m ∧ (f = false → ∀ k < N, Done p R m k),
    fun v w' => 2 * cntM (readM gs w') R gs.length + (match v with | .bool true => 1 | _ => 0), ⟨true, _, rfl, hst0, (fun _ _ h => by cases h), (fun h => by cases h)⟩, ?_⟩
  rintro _ w5 ⟨f0, m0, rfl, hst, hsnd, hcl⟩ _
  refine ifD.mk (fun hf => ?_) fun hf => ?_
  rotate_left
  · refine ⟨⟨m0, ⟨g0, gs, rfl, hgl, hst.out, hst.rows⟩, fun k r hk hr => ⟨hsnd k r, fun h => ?_⟩⟩, hst.x⟩
    exact alive_of_done hN.symm (fun i n hn => hR ▸ hN ▸ hv.nodes i n hn) (hcl hf) h hk hr
  subst hf
  refine ldB hst.box (by first | exact fa_108_0 | exact fa_108_1 | exact fa_110_0 | exact fa_110_1 | exact fa_112_0 | exact fa_112_1 | exact fa_112_2 | exact fa_112_3 | exact fa_112_4 | exact fa_114_0 | exact fa_114_1 | exact fa_114_2 | exact fa_116_0 | exact fa_116_1 | exact fa_116_2 | exact fa_26_0 | exact fa_26_1 | exact fa_26_2 | exact fa_37_0 | exact fa_37_1 | exact fa_44_0 | exact fa_44_1 | exact fa_44_2 | exact fa_54_0 | exact fa_61_0 | exact fa_61_1 | exact fa_68_0 | exact fa_68_1 | exact fa_68_2 | exact fa_68_3 | exact fa_70_0 | exact fa_70_1 | exact fa_70_2 | exact fa_76_0 | exact fa_76_1 | exact fa_76_2 | exact fa_76_3 | exact fa_76_6 | exact fa_76_7 | exact fa_82_0 | exact fa_82_1 | exact fa_82_2 | exact fa_82_3 | exact fa_82_4 | exact fa_82_5 | exact fa_82_6 | exact fa_82_7 | exact fa_82_8 | exact fa_91_0 | exact fa_91_1 | exact fa_93_0 | exact fa_93_1 | exact fa_93_2 | exact fa_95_0 | exact fa_95_1 | exact fa_95_2 | exact fa_95_3 | exact fa_97_0 | exact fa_99_0 | exact fa_99_1) (by first | exact l1_21 | exact l1_24 | exact l1_28 | exact l1_3 | exact l1_35 | exact l1_4 | exact l1_42 | exact l1_52 | exact l1_58) rfl (lnx (by first | exact xa_22 | exact xa_23 | exact xa_24 | exact xa_28 | exact xa_35 | exact xa_42 | exact xa_58) (hs.ext hst.x) (V_sub.2 ?_))
  rw [wrap_id (by omega) (by omega)]
  refine ⟨fun v1 v2 w' => ∃ (f : Bool) (kk : Int) (m : Mx), v1 = .bool f ∧ v2 = i64 kk ∧ -1 ≤ kk ∧ kk < N ∧ St w w' b [i64 p.params, i64 p.regs, .slice na N nc] g0 gs R m ∧ Swp p N R m0 m f ∧ (f = false → ∀ k : Nat, kk < k → k < N → Done p R m0 k),
    fun _ v2 _ => (RowKit.intOf v2 + 1).toNat, ⟨false, _, m0, rfl, rfl, by omega, by omega, hst, ⟨fun _ _ h => h, hsnd, fun _ => rfl, (fun h => by cases h)⟩, fun _ k h1 h2 => by omega⟩, ?_⟩
  rintro _ _ w6 ⟨f, kk, m, rfl, rfl, hk1, hk2, hst6, hsw6, hcl6⟩ _
  refine V_geq.2 (ifD_dec (fun hge => ?_) fun hlt => ?_)
  rotate_left
  · -- the sweep is over
    have hkk : kk = -1 := by have : ¬ 0 ≤ kk := hlt; omega
    refine ⟨⟨f, m, rfl, hst6, hsw6.snd, fun hf k hk => ?_⟩, ?_⟩
    · rw [hsw6.no hf]; exact hcl6 hf k (by omega) hk
    · show 2 * cntM (readM gs w6) R gs.length + _ < 2 * cntM (readM gs w5) R gs.length + 1
      rw [hst6.cnt, hst.cnt]
      cases f with
      | false =>
        have := cntM_le hsw6.le R gs.length
        show 2 * _ + 0 < _
        omega
      | true =>
        obtain ⟨k, r, h1, h2, h3, h4⟩ := hsw6.yes rfl
        have := cntM_lt hsw6.le h2 h3 h4 gs.length (by omega)
        show 2 * _ + 1 < _
        omega
  have hge' : 0 ≤ kk := hge
  obtain ⟨k, rfl⟩ := Int.eq_ofNat_of_zero_le hge'
  have hk : k < N := by omega
  obtain ⟨g, hg⟩ := ex_get (l := gs) (j := k) (by omega)
  obtain ⟨hpk, hrk⟩ := hat hk
  obtain ⟨um, usv, hue, hui⟩ := hel k _ hpk
  refine ldB hst6.box (by first | exact fa_108_0 | exact fa_108_1 | exact fa_110_0 | exact fa_110_1 | exact fa_112_0 | exact fa_112_1 | exact fa_112_2 | exact fa_112_3 | exact fa_112_4 | exact fa_114_0 | exact fa_114_1 | exact fa_114_2 | exact fa_116_0 | exact fa_116_1 | exact fa_116_2 | exact fa_26_0 | exact fa_26_1 | exact fa_26_2 | exact fa_37_0 | exact fa_37_1 | exact fa_44_0 | exact fa_44_1 | exact fa_44_2 | exact fa_54_0 | exact fa_61_0 | exact fa_61_1 | exact fa_68_0 | exact fa_68_1 | exact fa_68_2 | exact fa_68_3 | exact fa_70_0 | exact fa_70_1 | exact fa_70_2 | exact fa_76_0 | exact fa_76_1 | exact fa_76_2 | exact fa_76_3 | exact fa_76_6 | exact fa_76_7 | exact fa_82_0 | exact fa_82_1 | exact fa_82_2 | exact fa_82_3 | exact fa_82_4 | exact fa_82_5 | exact fa_82_6 | exact fa_82_7 | exact fa_82_8 | exact fa_91_0 | exact fa_91_1 | exact fa_93_0 | exact fa_93_1 | exact fa_93_2 | exact fa_95_0 | exact fa_95_1 | exact fa_95_2 | exact fa_95_3 | exact fa_97_0 | exact fa_99_0 | exact fa_99_1) (by first | exact l1_21 | exact l1_24 | exact l1_28 | exact l1_3 | exact l1_35 | exact l1_4 | exact l1_42 | exact l1_52 | exact l1_58) rfl ?_
  refine ldxA xa_42 la_76 (hs.ext hst6.x) (by omega) (by omega) hue rfl ?_
  refine (nextP_ok (g := p.at' k) ⟨um, usv, rfl, hui.ext hst6.x⟩ (by omega) (by omega)).mono fun tl w7 ⟨htl, x7⟩ => ?_
  have hst7 := hst6.ext x7
  have hlen := nx_len (p.at' k) k
  refine ⟨fun v1 v2 w' => ∃ (f' : Bool) (j : Nat) (m' : Mx), v1 = .bool f' ∧ v2 = i64 j ∧ j ≤ ((p.at' k).nx k).length ∧ St w w' b [i64 p.params, i64 p.regs, .slice na N nc] g0 gs R m' ∧ Swp p N R m0 m' f' ∧ (f = true → f' = true) ∧
      (f' = false → ∀ (i : Nat) (to : Nat), i < j → ((p.at' k).nx k)[i]? = some (to : Int) → ∀ r < R, AheadP p (fun a b => m0 a b = true) to r → m0 k r = true) ∧ w'.ownsRow w6.heap.size 3 1 tl ((p.at' k).nx k).length (((p.at' k).nx k).map i64),
    fun _ v2 _ => ((p.at' k).nx k).length - (RowKit.intOf v2).toNat, ⟨f, 0, m, rfl, rfl, Nat.zero_le _, hst7, hsw6, id, fun _ i to hi => by omega, htl⟩, ?_⟩
  rintro _ _ w8 ⟨f', j, m', rfl, rfl, hj, hst8, hsw8, hff, hcl8, htl8⟩ _
  refine lnx (by first | exact xa_22 | exact xa_23 | exact xa_24 | exact xa_28 | exact xa_35 | exact xa_42 | exact xa_58) (SliceIs.of_own htl8) ?_
  refine V_lss.2 (ifD_dec (fun hjlt => ?_) fun hjge => ?_)
  rotate_left
  · refine V_sub.2 ?_
    rw [wrap_id (by omega) (by omega)]
    refine ⟨⟨f', (k : Int) - 1, m', rfl, rfl, by omega, by omega, hst8, hsw8, fun hf k' hk' hkN => ?_⟩, by simp only [intOf_i64]; omega⟩
    by_cases he : k' = k
    · subst he
      intro to hto r hr ha
      obtain ⟨i, hi⟩ := List.getElem?_of_mem hto
      have hi' := (List.getElem?_eq_some_iff.1 hi).1
      exact hcl8 hf i to (by omega) hi r hr ha
    · have hf0 : f = false := by cases f with | false => rfl | true => rw [hff rfl] at hf; cases hf
      exact hcl6 hf0 k' (by omega) hkN
  obtain ⟨to, hto⟩ := ex_get (l := (p.at' k).nx k) (j := j) (by omega)
  have htor := hrk.t to (List.mem_of_getElem? hto)
  obtain ⟨to, rfl⟩ := Int.eq_ofNat_of_zero_le htor.1
  have htoN : to < N := by omega
  obtain ⟨hpt, hrt⟩ := hat htoN
  obtain ⟨tm, tsv, hte, hti⟩ := hel to _ hpt
  obtain ⟨gt, hgt⟩ := ex_get (l := gs) (j := to) (by omega)
  have htlS : SliceIs w8 tl 1 ((p.at' k).nx k).length (((p.at' k).nx k).map i64) := SliceIs.of_own htl8
  refine drawD.mk' (fun w' => Ext w8 w') (Ext.refl _).drew ?_
  refine yfB (fun w' hw => hst8.box.ext hw) (by first | exact fa_108_0 | exact fa_108_1 | exact fa_110_0 | exact fa_110_1 | exact fa_112_0 | exact fa_112_1 | exact fa_112_2 | exact fa_112_3 | exact fa_112_4 | exact fa_114_0 | exact fa_114_1 | exact fa_114_2 | exact fa_116_0 | exact fa_116_1 | exact fa_116_2 | exact fa_26_0 | exact fa_26_1 | exact fa_26_2 | exact fa_37_0 | exact fa_37_1 | exact fa_44_0 | exact fa_44_1 | exact fa_44_2 | exact fa_54_0 | exact fa_61_0 | exact fa_61_1 | exact fa_68_0 | exact fa_68_1 | exact fa_68_2 | exact fa_68_3 | exact fa_70_0 | exact fa_70_1 | exact fa_70_2 | exact fa_76_0 | exact fa_76_1 | exact fa_76_2 | exact fa_76_3 | exact fa_76_6 | exact fa_76_7 | exact fa_82_0 | exact fa_82_1 | exact fa_82_2 | exact fa_82_3 | exact fa_82_4 | exact fa_82_5 | exact fa_82_6 | exact fa_82_7 | exact fa_82_8 | exact fa_91_0 | exact fa_91_1 | exact fa_93_0 | exact fa_93_1 | exact fa_93_2 | exact fa_95_0 | exact fa_95_1 | exact fa_95_2 | exact fa_95_3 | exact fa_97_0 | exact fa_99_0 | exact fa_99_1) (by first | exact l1_21 | exact l1_24 | exact l1_28 | exact l1_3 | exact l1_35 | exact l1_4 | exact l1_42 | exact l1_52 | exact l1_58) rfl ?_
  refine ySl xa_35 l1_3 htlS (fun _ h => h) (by omega) (by omega) (getI hto) ?_
  refine yldxA xa_42 la_76 (hs.ext hst8.x) (fun _ h => h) (by omega) (by omega) hte rfl ?_
  refine ySl xa_35 l1_3 htlS (fun _ h => h) (by omega) (by omega) (getI hto) ?_
  refine ySl xa_58 l1_28 (hslO hst8) (fun _ h => h) (by omega) (by omega) (by simp [hgt] : (gs.map (sl R))[((to : Nat) : Int).toNat]? = some (sl R gt)) ?_
  have hrl := rowL_len m' to R
  have hdf : (p.at' to).df < R := by rcases hrt.d with h | h <;> omega
  have hus : ∀ r ∈ (p.at' to).us, 0 ≤ r ∧ r < ((rowL m' to R).length : Int) := fun r hr => by have := hrt.u r hr; rw [hrl]; omega
  have hrow8 : BoolsAre w8.drew (sl R gt) (rowL m' to R) := by
    have := (hslR hst8 hgt).ext (Ext.refl _).drew
    unfold BoolsAre
    rw [hrl]; exact this
  refine (in31_ok (n := p.at' to) ⟨tm, tsv, rfl, hti.ext (hst8.x.trans (Ext.refl _).drew)⟩ hrow8 (by have := hargs _ (List.mem_of_getElem? hpt); have := us_len (p.at' to); omega) (by omega) (by rw [hrl]; exact hdf) hus).mono fun av w9 ⟨hav, x9⟩ => ?_
  have x9' : Ext w8 w9 := Ext.trans (Ext.refl _).drew x9
  refine ⟨x9', ?_⟩
  rw [hrl] at hav
  have hst9 := hst8.ext x9'
  have hag : ∀ r, r < R → (aheadL (p.at' to) (rowL m' to R))[r]? = some (decide ((r : Int) ∈ (p.at' to).us) || (decide ((r : Int) ≠ (p.at' to).df) && m' to r)) := fun r hr => by
    rw [aheadL_get (by rw [hrl]; exact hr) (fun x hx => (hus x hx).1)]
    congr 3
    rw [List.getD_eq_getElem?_getD, rowL_get hr]; rfl
  have hagT : ∀ r, r < R → ((aheadL (p.at' to) (rowL m' to R))[r]? = some true ↔ AheadP p (fun a b => m' a b = true) to r) := fun r hr => by
    rw [hag r hr]
    simp [AheadP]
  refine sweepP hgl hl2 (by omega) (by rw [hR]; rfl) hk hg (A := aheadL (p.at' to) (rowL m' to R)) (by rw [aheadL_len, hrl]) (hglt hst8) (fun r hr => ?_) hst9 hsw8 hav ?_
  · have hrR : r < R := by have := (List.getElem?_eq_some_iff.1 hr).1; rw [aheadL_len, hrl] at this; exact this
    rw [hagT r hrR] at hr
    rcases hr with h | ⟨h1, h2⟩
    · exact .use (List.mem_of_getElem? hto) h
    · exact .pass (List.mem_of_getElem? hto) h1 (hsw8.snd _ _ h2)
  · intro f'' m'' w10 hst10 hsw10 hff10 hcl10 _ hkeep
    refine V_add.2 ?_
    rw [wrap_id (by omega) (by omega), i64_succ]
    refine ⟨⟨f'', j + 1, m'', rfl, rfl, by omega, hst10, hsw10, fun h => hff10 (hff h), fun hf i to' hi hto' r hr ha => ?_, hkeep _ _ _ _ _ _ (x9'.own htl8) (fun g hg => hglt hst6 g hg)⟩, by simp only [intOf_i64]; omega⟩
    by_cases hij : i = j
    · subst hij
      rw [hto] at hto'
      have : (to : Int) = to' := by simpa using hto'
      have : to = to' := by omega
      subst this
      have hf' : f' = false := by cases f' with | false => rfl | true => rw [hff10 rfl] at hf; cases hf
      refine hcl10 hf r ?_
      rw [hagT r hr, hsw8.no hf']
      exact ha
    · have hf' : f' = false := by cases f' with | false => rfl | true => rw [hff10 rfl] at hf; cases hf
      exact hcl8 hf' i to' (by omega) hto' r hr ha
end Go.Proofs.YtendijaeihljeaaDoor
namespace Go.Proofs.YtendijaeihljeaaDoor
open Go.Vc
/-- All of some registers have places of their own. -/
def Apart (l : List Bool) (of : List Int) : Prop := ∀ (r s : Nat), s < r → l[r]? = some true → l[s]? = some true → of[r]? ≠ of[s]?
set_option maxHeartbeats 1000000 in
theorem apart_ok {l : List Bool} {of : List Int} {lv ofv : Value} {slots : Int} {w : World} (hl : BoolsAre w lv l) (ho : IntsAre w ofv of) (hlen : l.length ≤ of.length) (hb : l.length ≤ 1000) :
    callD Tryd.prog 30 #[lv, .agg #[ofv, i64 slots]] w fun r w' => (∃ ok : Bool, r = .bool ok ∧ (ok = true ↔ Apart l of)) ∧ Ext w w' := by
  apply F30_wp
  unfold F30_den
  obtain ⟨la, lc, rfl⟩ := hl.shape
  refine bx fun b w1 hb1 x1 => ?_
  refine ⟨fun v w' => ∃ i : Nat, v = i64 i ∧ i ≤ l.length ∧ Ext w1 w' ∧ ∀ r s, r < i → s < r → l[r]? = some true → l[s]? = some true → of[r]? ≠ of[s]?, fun v _ => l.length - (RowKit.intOf v).toNat, ⟨0, rfl, Nat.zero_le _, Ext.refl _, fun r s h => by omega⟩, ?_⟩
  rintro _ w2 ⟨i, rfl, hi, x2, hdone⟩ _
  refine V_ln_28.2 (V_lss.2 (ifD_dec (fun hlt => ?_) fun hge => ?_))
  · have hi' : i < l.length := by omega
    obtain ⟨a, ha⟩ := ex_get hi'
    obtain ⟨x, hx⟩ := ex_get (l := of) (j := i) (by omega)
    refine ⟨fun v w' => ∃ j : Nat, v = i64 j ∧ j ≤ i ∧ Ext w2 w' ∧ ∀ s, s < j → l[i]? = some true → l[s]? = some true → of[i]? ≠ of[s]?, fun v _ => i - (RowKit.intOf v).toNat, ⟨0, rfl, Nat.zero_le _, Ext.refl _, fun s h => by omega⟩, ?_⟩
    rintro _ w3 ⟨j, rfl, hj, x3, hin⟩ _
    refine V_lss.2 (ifD_dec (fun hjl => ?_) fun hjg => ?_)
    · have hj' : j < i := by omega
      obtain ⟨c, hc⟩ := ex_get (l := l) (j := j) (by omega)
      obtain ⟨y, hy⟩ := ex_get (l := of) (j := j) (by omega)
      have x13 := x2.trans x3
      have hl3 := hl.ext (x1.trans x13)
      have ho3 := ho.ext (x1.trans x13)
      have D3 : Ext w3 w3.drew := (Ext.refl _).drew
      have go : (l[i]? = some true → l[j]? = some true → of[i]? ≠ of[j]?) → V Tryd.prog (binOp .add 3 (i64 j) (Value.int IntKind.i64 1)) w3.drew fun t17 w8 => (∃ j : Nat, t17 = i64 j ∧ j ≤ i ∧ Ext w2 w8 ∧ ∀ s, s < j → l[i]? = some true → l[s]? = some true → of[i]? ≠ of[s]?) ∧ i - (RowKit.intOf t17).toNat < i - (RowKit.intOf (i64 (j : Int))).toNat := by
        intro h
        refine V_add.2 ?_
        rw [wrap_id (by omega) (by omega), i64_succ]
        refine ⟨⟨j + 1, rfl, by omega, x3.trans D3, fun s hs => ?_⟩, by simp only [intOf_i64]; omega⟩
        by_cases hsj : s = j
        · subst hsj; exact h
        · exact hin s (by omega)
      refine drawD.mk' (fun w' => Ext w3 w') D3 ?_
      refine ySl xa_28 l1_4 hl3 (fun _ h => h) (by omega) (by omega) (getB ha) ?_
      cases a with
      | false =>
        simp only [gdY_ft, pickD_iff, Bool.false_eq_true, reduceIte, ifD_false]
        exact go fun h => by rw [ha] at h; cases h
      | true =>
        simp only [gdY_t]
        refine ySl xa_28 l1_4 hl3 (fun _ h => h) (by omega) (by omega) (getB hc) ?_
        cases c with
        | false =>
          simp only [gdY_ft, pickD_iff, Bool.false_eq_true, reduceIte, ifD_false]
          exact go fun _ h => by rw [hc] at h; cases h
        | true =>
          simp only [gdY_t, pickD_iff, reduceIte]
          refine yfB (fun w' hw => (hb1.ext x13).ext hw) (by first | exact fa_108_0 | exact fa_108_1 | exact fa_110_0 | exact fa_110_1 | exact fa_112_0 | exact fa_112_1 | exact fa_112_2 | exact fa_112_3 | exact fa_112_4 | exact fa_114_0 | exact fa_114_1 | exact fa_114_2 | exact fa_116_0 | exact fa_116_1 | exact fa_116_2 | exact fa_26_0 | exact fa_26_1 | exact fa_26_2 | exact fa_37_0 | exact fa_37_1 | exact fa_44_0 | exact fa_44_1 | exact fa_44_2 | exact fa_54_0 | exact fa_61_0 | exact fa_61_1 | exact fa_68_0 | exact fa_68_1 | exact fa_68_2 | exact fa_68_3 | exact fa_70_0 | exact fa_70_1 | exact fa_70_2 | exact fa_76_0 | exact fa_76_1 | exact fa_76_2 | exact fa_76_3 | exact fa_76_6 | exact fa_76_7 | exact fa_82_0 | exact fa_82_1 | exact fa_82_2 | exact fa_82_3 | exact fa_82_4 | exact fa_82_5 | exact fa_82_6 | exact fa_82_7 | exact fa_82_8 | exact fa_91_0 | exact fa_91_1 | exact fa_93_0 | exact fa_93_1 | exact fa_93_2 | exact fa_95_0 | exact fa_95_1 | exact fa_95_2 | exact fa_95_3 | exact fa_97_0 | exact fa_99_0 | exact fa_99_1) (by first | exact l1_21 | exact l1_24 | exact l1_28 | exact l1_3 | exact l1_35 | exact l1_4 | exact l1_42 | exact l1_52 | exact l1_58) rfl ?_
          refine ySl xa_35 l1_3 ho3 (fun _ h => h) (by omega) (by omega) (getI hx) ?_
          refine yfB (fun w' hw => (hb1.ext x13).ext hw) (by first | exact fa_108_0 | exact fa_108_1 | exact fa_110_0 | exact fa_110_1 | exact fa_112_0 | exact fa_112_1 | exact fa_112_2 | exact fa_112_3 | exact fa_112_4 | exact fa_114_0 | exact fa_114_1 | exact fa_114_2 | exact fa_116_0 | exact fa_116_1 | exact fa_116_2 | exact fa_26_0 | exact fa_26_1 | exact fa_26_2 | exact fa_37_0 | exact fa_37_1 | exact fa_44_0 | exact fa_44_1 | exact fa_44_2 | exact fa_54_0 | exact fa_61_0 | exact fa_61_1 | exact fa_68_0 | exact fa_68_1 | exact fa_68_2 | exact fa_68_3 | exact fa_70_0 | exact fa_70_1 | exact fa_70_2 | exact fa_76_0 | exact fa_76_1 | exact fa_76_2 | exact fa_76_3 | exact fa_76_6 | exact fa_76_7 | exact fa_82_0 | exact fa_82_1 | exact fa_82_2 | exact fa_82_3 | exact fa_82_4 | exact fa_82_5 | exact fa_82_6 | exact fa_82_7 | exact fa_82_8 | exact fa_91_0 | exact fa_91_1 | exact fa_93_0 | exact fa_93_1 | exact fa_93_2 | exact fa_95_0 | exact fa_95_1 | exact fa_95_2 | exact fa_95_3 | exact fa_97_0 | exact fa_99_0 | exact fa_99_1) (by first | exact l1_21 | exact l1_24 | exact l1_28 | exact l1_3 | exact l1_35 | exact l1_4 | exact l1_42 | exact l1_52 | exact l1_58) rfl ?_
          refine ySl xa_35 l1_3 ho3 (fun _ h => h) (by omega) (by omega) (getI hy) ?_
          refine yieldS.ok (fun w' _ => r_eqlI) ?_
          refine ifD_dec (fun heq => ?_) fun hne => ?_
          · refine ⟨⟨false, rfl, fun h => (by cases h), fun h => absurd (by rw [hx, hy, heq]) (h i j hj' ha hc)⟩, (x1.trans x13).trans D3⟩
          · exact go fun _ _ h => hne (by rw [hx, hy] at h; exact Option.some.inj h)
    · have hji : j = i := by omega
      subst hji
      refine V_add.2 ?_
      rw [wrap_id (by omega) (by omega), i64_succ]
      refine ⟨⟨j + 1, rfl, by omega, x2.trans x3, fun r s hr hs => ?_⟩, by simp only [intOf_i64]; omega⟩
      by_cases hrj : r = j
      · subst hrj; exact hin s hs
      · exact hdone r s (by omega) hs
  · have hil : i = l.length := by omega
    refine ⟨⟨true, rfl, fun _ r s hs h1 h2 => ?_, fun _ => rfl⟩, x1.trans x2⟩
    exact hdone r s (by have := (List.getElem?_eq_some_iff.1 h1).1; omega) hs h1 h2
/-- What is alive, and another register. -/
def withL (l : List Bool) (d : Int) : List Bool := if 0 ≤ d then l.set d.toNat true else l
theorem withL_len (l : List Bool) (d : Int) : (withL l d).length = l.length := by unfold withL; split <;> simp
theorem with_ok {l : List Bool} {lv : Value} {d : Int} {w : World} (hl : BoolsAre w lv l) (hb : l.length ≤ 1000) (hd : d < l.length) :
    callD Tryd.prog 47 #[lv, i64 d] w fun r w' => w'.ownsRow w.heap.size 4 1 r l.length ((withL l d).map Value.bool) ∧ Ext w w' := by
  apply F47_wp
  unfold F47_den
  refine bsl (by first | exact xe_23 | exact xe_24 | exact xe_28 | exact xe_35 | exact xe_58) [] rfl rfl (by simp) rfl fun v0 w2 ho2 x2 => ?_
  refine apO (by first | exact xe_23 | exact xe_24 | exact xe_28 | exact xe_35 | exact xe_58) ho2 (hl.ext x2) (by simp [oneC]) (by omega) (by unfold maxLen; omega) x2.size fun ov w3 ho3 hg3 => ?_
  have x3 : Ext w w3 := x2.grown hg3 fun k hk => (ho2.lt k hk).1
  simp only [Nat.zero_add, List.nil_append] at ho3
  refine V_geq.2 (ifD_dec (fun hge => ?_) fun hlt => ?_)
  · have hge' : 0 ≤ d := hge
    refine stO (by first | exact xa_22 | exact xa_23 | exact xa_24 | exact xa_28 | exact xa_35 | exact xa_42 | exact xa_58) inf4 ho3 hge' hd rfl fun w5 ho5 hg => ?_
    rw [map_set_b] at ho5
    refine ⟨?_, x3.grown hg fun k hk => (ho3.lt k hk).1⟩
    unfold withL
    rw [if_pos hge']
    exact ho5
  · refine ⟨?_, x3⟩
    unfold withL
    rw [if_neg (by simpa using hlt)]
    exact ho3
end Go.Proofs.YtendijaeihljeaaDoor
namespace Go.Proofs.YtendijaeihljeaaDoor
open Go.Vc
/-- May register r have the place at, by what meets and what must stand in slots? -/
def MayP (m : Mx) (sl : List Bool) (of : List Int) (r : Nat) (at' : Int) : Prop := (sl[r]? = some true → 16 ≤ at') ∧ ∀ (o : Nat) (y : Int), of[o]? = some y → m r o = true → y ≠ at'
set_option maxHeartbeats 1000000 in
theorem may_ok {R : Nat} {m : Mx} {sl : List Bool} {of : List Int} {mv slv ov ofv : Value} {r : Nat} {at' : Int} {w : World} (hR : R ≤ 40) (hm : MatIs w mv R R m) (hs : BoolsAre w slv sl) (hsl : sl.length = R) (ho : IntsAre w ofv of) (hof : of.length = R) (hr : r < R) :
    callD Tryd.prog 27 #[.agg #[mv, slv, ov], i64 r, i64 at', ofv] w fun q w' => (∃ ok : Bool, q = .bool ok ∧ (ok = true ↔ MayP m sl of r at')) ∧ Ext w w' := by
  apply F27_wp
  unfold F27_den
  obtain ⟨cs, hcs, hrow⟩ := hm.row (by omega) hR
  obtain ⟨u, hu, hub⟩ := hrow r hr
  obtain ⟨oa, oc, rfl⟩ := ho.shape
  obtain ⟨s, hss⟩ := ex_get (l := sl) (j := r) (by omega)
  refine bx fun b w1 hb1 x1 => ?_
  refine ldB hb1 (by first | exact fa_108_0 | exact fa_108_1 | exact fa_110_0 | exact fa_110_1 | exact fa_112_0 | exact fa_112_1 | exact fa_112_2 | exact fa_112_3 | exact fa_112_4 | exact fa_114_0 | exact fa_114_1 | exact fa_114_2 | exact fa_116_0 | exact fa_116_1 | exact fa_116_2 | exact fa_26_0 | exact fa_26_1 | exact fa_26_2 | exact fa_37_0 | exact fa_37_1 | exact fa_44_0 | exact fa_44_1 | exact fa_44_2 | exact fa_54_0 | exact fa_61_0 | exact fa_61_1 | exact fa_68_0 | exact fa_68_1 | exact fa_68_2 | exact fa_68_3 | exact fa_70_0 | exact fa_70_1 | exact fa_70_2 | exact fa_76_0 | exact fa_76_1 | exact fa_76_2 | exact fa_76_3 | exact fa_76_6 | exact fa_76_7 | exact fa_82_0 | exact fa_82_1 | exact fa_82_2 | exact fa_82_3 | exact fa_82_4 | exact fa_82_5 | exact fa_82_6 | exact fa_82_7 | exact fa_82_8 | exact fa_91_0 | exact fa_91_1 | exact fa_93_0 | exact fa_93_1 | exact fa_93_2 | exact fa_95_0 | exact fa_95_1 | exact fa_95_2 | exact fa_95_3 | exact fa_97_0 | exact fa_99_0 | exact fa_99_1) (by first | exact l1_21 | exact l1_24 | exact l1_28 | exact l1_3 | exact l1_35 | exact l1_4 | exact l1_42 | exact l1_52 | exact l1_58) rfl ?_
  refine ldx xa_28 l1_4 (hs.ext x1) (by omega) (by omega) (getB hss) ?_
  have key : ∀ {X : Prop}, ((s = true ∧ at' < 16) → (∃ ok : Bool, Value.bool false = .bool ok ∧ (ok = true ↔ MayP m sl of r at')) ∧ Ext w w1) ∧ (¬ (s = true ∧ at' < 16) → X) → True := fun _ => trivial
  have no : ∀ {w'}, Ext w w' → ¬ MayP m sl of r at' → (∃ ok : Bool, Value.bool false = .bool ok ∧ (ok = true ↔ MayP m sl of r at')) ∧ Ext w w' := fun hx hn => ⟨⟨false, rfl, fun h => (by cases h), fun h => absurd h hn⟩, hx⟩
  have rest : (s = true → 16 ≤ at') → ∃ (I1 : NP 1) (μ1 : NF 1), I1 (Value.int IntKind.i64 0) w1 ∧
      ∀ (t22 : Value), ∀ w10 : World, I1 t22 w10 → ∀ _f : Env,
      V Tryd.prog (binOp .lss 3 t22 (i64 of.length)) w10 fun t23 w11 =>
      ifD t23 (
      V Tryd.prog (Instr.indexAt 35 (.slice oa of.length oc) t22) w11 fun t25 w12 =>
      V Tryd.prog (Instr.loadAt 3 t25) w12 fun t26 w13 =>
      V Tryd.prog (Instr.fieldAt 70 (.pointer (some ⟨b, 0, none⟩)) 0) w13 fun t27 w14 =>
      V Tryd.prog (Instr.loadAt 58 t27) w14 fun t28 w15 =>
      V Tryd.prog (Instr.indexAt 58 t28 (i64 r)) w15 fun t30 w16 =>
      V Tryd.prog (Instr.loadAt 28 t30) w16 fun t31 w17 =>
      V Tryd.prog (Instr.indexAt 28 t31 t22) w17 fun t33 w18 =>
      V Tryd.prog (Instr.loadAt 4 t33) w18 fun t34 w19 =>
      gd t34 true (fun K => K t26 w19) w19 fun t36 w20 =>
      gd t34 true (fun K => K (i64 at') w20) w20 fun t37 w21 =>
      gd t34 true (fun K => V Tryd.prog (do eqGuard .eql 3 (Operand.tmp 36) (Operand.tmp 37) t36 t37; binOp .eql 3 t36 t37) w21 K) w21 fun t38 w22 =>
      pickD t34 t38 (Value.bool false) fun t39 =>
      ifD t39 (
      (∃ ok : Bool, Value.bool false = .bool ok ∧ (ok = true ↔ MayP m sl of r at')) ∧ Ext w w22) (
      V Tryd.prog (binOp .add 3 t22 (Value.int IntKind.i64 1)) w22 fun t40 w24 =>
      I1 t40 w24 ∧ μ1 t40 w24 < μ1 t22 w10)) (
      (∃ ok : Bool, Value.bool true = .bool ok ∧ (ok = true ↔ MayP m sl of r at')) ∧ Ext w w11) := by
    intro hslot
    refine ⟨fun v w' => ∃ i : Nat, v = i64 i ∧ i ≤ of.length ∧ w1 = w' ∧ ∀ (o : Nat) (y : Int), o < i → of[o]? = some y → m r o = true → y ≠ at', fun v _ => of.length - (RowKit.intOf v).toNat, ⟨0, rfl, Nat.zero_le _, rfl, fun o y h => by omega⟩, ?_⟩
    rintro _ _ ⟨i, rfl, hi, rfl, hdone⟩ _
    refine V_lss.2 (ifD_dec (fun hlt => ?_) fun hge => ?_)
    · have hi' : i < of.length := by omega
      obtain ⟨y, hy⟩ := ex_get hi'
      refine ldx xa_35 l1_3 (ho.ext x1) (by omega) (by omega) (getI hy) ?_
      refine ldB hb1 (by first | exact fa_108_0 | exact fa_108_1 | exact fa_110_0 | exact fa_110_1 | exact fa_112_0 | exact fa_112_1 | exact fa_112_2 | exact fa_112_3 | exact fa_112_4 | exact fa_114_0 | exact fa_114_1 | exact fa_114_2 | exact fa_116_0 | exact fa_116_1 | exact fa_116_2 | exact fa_26_0 | exact fa_26_1 | exact fa_26_2 | exact fa_37_0 | exact fa_37_1 | exact fa_44_0 | exact fa_44_1 | exact fa_44_2 | exact fa_54_0 | exact fa_61_0 | exact fa_61_1 | exact fa_68_0 | exact fa_68_1 | exact fa_68_2 | exact fa_68_3 | exact fa_70_0 | exact fa_70_1 | exact fa_70_2 | exact fa_76_0 | exact fa_76_1 | exact fa_76_2 | exact fa_76_3 | exact fa_76_6 | exact fa_76_7 | exact fa_82_0 | exact fa_82_1 | exact fa_82_2 | exact fa_82_3 | exact fa_82_4 | exact fa_82_5 | exact fa_82_6 | exact fa_82_7 | exact fa_82_8 | exact fa_91_0 | exact fa_91_1 | exact fa_93_0 | exact fa_93_1 | exact fa_93_2 | exact fa_95_0 | exact fa_95_1 | exact fa_95_2 | exact fa_95_3 | exact fa_97_0 | exact fa_99_0 | exact fa_99_1) (by first | exact l1_21 | exact l1_24 | exact l1_28 | exact l1_3 | exact l1_35 | exact l1_4 | exact l1_42 | exact l1_52 | exact l1_58) rfl ?_
      refine ldx xa_58 l1_28 (hcs.ext x1) (by omega) (by omega) (by simpa using hu) ?_
      have hub' : SliceIs w u 1 R ((rowL m r R).map Value.bool) := by have := hub; unfold BoolsAre at this; rw [rowL_len] at this; exact this
      refine ldx xa_28 l1_4 (hub'.ext x1) (by omega) (by omega) (getB (rowL_get (by omega))) ?_
      have go : (m r i = true → y ≠ at') → V Tryd.prog (binOp .add 3 (i64 i) (Value.int IntKind.i64 1)) w1 fun t40 w24 => (∃ i : Nat, t40 = i64 i ∧ i ≤ of.length ∧ w1 = w24 ∧ ∀ (o : Nat) (y : Int), o < i → of[o]? = some y → m r o = true → y ≠ at') ∧ of.length - (RowKit.intOf t40).toNat < of.length - (RowKit.intOf (i64 (i : Int))).toNat := by
        intro h
        refine V_add.2 ?_
        rw [wrap_id (by omega) (by omega), i64_succ]
        refine ⟨⟨i + 1, rfl, by omega, rfl, fun o y' ho1 ho2 => ?_⟩, by simp only [intOf_i64]; omega⟩
        by_cases hoi : o = i
        · subst hoi
          rw [hy] at ho2
          cases ho2
          exact h
        · exact hdone o y' (by omega) ho2
      cases hmi : m r i with
      | false =>
        simp only [gd_ft, pickD_iff, Bool.false_eq_true, reduceIte, ifD_false]
        exact go fun h => by rw [hmi] at h; cases h
      | true =>
        simp only [gd_t]
        refine V_eqlI.2 ?_
        simp only [pickD_iff, reduceIte]
        refine ifD_dec (fun heq => ?_) fun hne => ?_
        · exact no x1 fun h => h.2 i y hy hmi heq
        · exact go fun _ h => hne h
    · have hil : i = of.length := by omega
      refine ⟨⟨true, rfl, fun _ => ⟨fun h => hslot (by rw [hss] at h; exact Option.some.inj h), fun o y h1 h2 => hdone o y (by have := (List.getElem?_eq_some_iff.1 h1).1; omega) h1 h2⟩, fun _ => rfl⟩, x1⟩
  clear key
  cases s with
  | false =>
    simp only [gd_ft, pickD_iff, Bool.false_eq_true, reduceIte, ifD_false]
    refine V_ln_35.2 ?_
    exact rest fun h => by cases h
  | true =>
    simp only [gd_t]
    refine V_lss.2 ?_
    simp only [pickD_iff, reduceIte]
    refine ifD_dec (fun hlt => ?_) fun hge => ?_
    · exact no x1 fun h => by have := h.1 hss; omega
    · refine V_ln_35.2 ?_
      exact rest fun _ => by omega
end Go.Proofs.YtendijaeihljeaaDoor
namespace Go.Vc
section
variable {P : Program} {w : World}
theorem thK {u x : TypeId} {v : Value} {K : Value → Value → World → Prop} (h : TA P u) (hK : K (.bool true) v w) :
    V P (Instr.typeAssert (.iface u v) x u true) w fun t1 w1 => V P (Instr.extract t1 1) w1 fun t2 w2 => V P (Instr.extract t1 0) w2 fun t3 w3 => K t2 t3 w3 := by
  obtain ⟨z, hz, _⟩ := h
  refine V.ok (hz w x u v) ?_
  rw [if_pos rfl]
  exact V.ok r_ext1 (V.ok r_ext0 hK)
theorem tmK {u t x : TypeId} {v : Value} {K : Value → Value → World → Prop} (h : TA P u) (hne : t ≠ u) (hK : ∀ z, K (.bool false) z w) :
    V P (Instr.typeAssert (.iface t v) x u true) w fun t1 w1 => V P (Instr.extract t1 1) w1 fun t2 w2 => V P (Instr.extract t1 0) w2 fun t3 w3 => K t2 t3 w3 := by
  obtain ⟨z, hz, _⟩ := h
  refine V.ok (hz w x t v) ?_
  rw [if_neg hne]
  exact V.ok r_ext1 (V.ok r_ext0 (hK _))
end
end Go.Vc
namespace Go.Proofs.YtendijaeihljeaaDoor
open Go.Vc
def GNode.pureB : GNode → Bool
  | .const _ _ | .move _ _ | .bin _ _ _ _ | .un _ _ _ | .choose _ _ _ _ | .tick | .goto _ | .branch _ _ => true
  | _ => false
def GNode.leavesB : GNode → Bool
  | .getField _ _ | .putField _ _ => true
  | g => g.pureB
set_option maxHeartbeats 1000000 in
theorem pure_ok {g : GNode} {v : Value} {w : World} (h : NodeIs w v g) : callD Tryd.prog 24 #[v] w fun r w' => r = .bool g.pureB ∧ w' = w := by
  obtain ⟨sv, rfl, hs⟩ := h
  apply F24_wp
  unfold F24_den
  cases g <;> (dsimp only [GNode.val]; (repeat (first | (with_reducible refine thK (by first | exact ta_108 | exact ta_110 | exact ta_112 | exact ta_114 | exact ta_116 | exact ta_50 | exact ta_54 | exact ta_61 | exact ta_68 | exact ta_91 | exact ta_93 | exact ta_95 | exact ta_97 | exact ta_99) ?_) | (with_reducible refine tmK (by first | exact ta_108 | exact ta_110 | exact ta_112 | exact ta_114 | exact ta_116 | exact ta_50 | exact ta_54 | exact ta_61 | exact ta_68 | exact ta_91 | exact ta_93 | exact ta_95 | exact ta_97 | exact ta_99) (by decide) fun _ => ?_))); simp only [pickD_iff, ifD_true, ifD_false, Bool.false_eq_true, reduceIte]; first | exact ⟨rfl, rfl⟩ | exact ⟨trivial, rfl⟩ | exact ⟨trivial, trivial⟩ | exact ⟨rfl, trivial⟩)
set_option maxHeartbeats 1000000 in
theorem leaves_ok {g : GNode} {v : Value} {w : World} (h : NodeIs w v g) : callD Tryd.prog 48 #[v] w fun r w' => r = .bool g.leavesB ∧ w' = w := by
  have h0 := h
  obtain ⟨sv, rfl, hs⟩ := h
  apply F48_wp
  unfold F48_den
  have hp := pure_ok h0
  cases g <;> (dsimp only [GNode.val] at hp ⊢; (repeat (first | (with_reducible refine thK (by first | exact ta_108 | exact ta_110 | exact ta_112 | exact ta_114 | exact ta_116 | exact ta_50 | exact ta_54 | exact ta_61 | exact ta_68 | exact ta_91 | exact ta_93 | exact ta_95 | exact ta_97 | exact ta_99) ?_) | (with_reducible refine tmK (by first | exact ta_108 | exact ta_110 | exact ta_112 | exact ta_114 | exact ta_116 | exact ta_50 | exact ta_54 | exact ta_61 | exact ta_68 | exact ta_91 | exact ta_93 | exact ta_95 | exact ta_97 | exact ta_99) (by decide) fun _ => ?_))); simp only [pickD_iff, ifD_true, ifD_false, Bool.false_eq_true, reduceIte]; first | exact ⟨rfl, rfl⟩ | exact ⟨trivial, rfl⟩ | exact ⟨trivial, trivial⟩ | exact ⟨rfl, trivial⟩ | exact hp)
end Go.Proofs.YtendijaeihljeaaDoor
namespace Go.Proofs.YtendijaeihljeaaDoor
open Go.Vc
/-- The rules, in the world: the box, the rows of what meets, the row of what must stand in slots. -/
structure Ru (w0 w : World) (ub g0 sg : Nat) (ov : Value) (gs : List Nat) (R : Nat) (m : Mx) (sb : List Bool) : Prop where
  x : Ext w0 w
  u : Blk w ub [.slice (some ⟨g0, 0, none⟩) R R, .slice (some ⟨sg, 0, none⟩) R R, ov] 70
  out : Blk w g0 (gs.map (sl R)) 28
  slot : Blk w sg (sb.map Value.bool) 4
  rows : ∀ (k g : Nat), gs[k]? = some g → Blk w g ((rowL m k R).map Value.bool) 4
  lo : w0.heap.size ≤ ub ∧ w0.heap.size ≤ g0 ∧ w0.heap.size ≤ sg ∧ ∀ g ∈ gs, w0.heap.size ≤ g
  ne : ub ≠ g0 ∧ ub ≠ sg ∧ g0 ≠ sg ∧ ∀ g ∈ gs, g ≠ ub ∧ g ≠ g0 ∧ g ≠ sg
  nd : gs.Nodup
theorem Ru.ext {w0 w w' : World} {ub g0 sg R : Nat} {ov : Value} {gs : List Nat} {m : Mx} {sb : List Bool} (h : Ru w0 w ub g0 sg ov gs R m sb) (hx : Ext w w') : Ru w0 w' ub g0 sg ov gs R m sb :=
  ⟨h.x.trans hx, h.u.ext hx, h.out.ext hx, h.slot.ext hx, fun k g hk => (h.rows k g hk).ext hx, h.lo, h.ne, h.nd⟩
theorem Ru.setRow {w0 w : World} {ub g0 sg R : Nat} {ov : Value} {gs : List Nat} {m : Mx} {sb : List Bool} (h : Ru w0 w ub g0 sg ov gs R m sb) {k g : Nat} (hk : gs[k]? = some g) (r : Nat) (v : Bool) :
    Ru w0 (w.setCell ⟨g, r, none⟩ (.bool v)) ub g0 sg ov gs R (updM m k r v) sb := by
  have hgm := List.mem_of_getElem? hk
  obtain ⟨n1, n2, n3⟩ := h.ne.2.2.2 g hgm
  refine ⟨h.x.setCell (h.lo.2.2.2 g hgm) _, h.u.other (Ne.symm n1), h.out.other (Ne.symm n2), h.slot.other (Ne.symm n3), fun k' g' hk' => ?_, h.lo, h.ne, h.nd⟩
  by_cases he : k' = k
  · subst he
    rw [hk] at hk'
    cases hk'
    rw [rowL_upd, ← map_set_b]
    exact (h.rows _ _ hk).set r _
  · rw [rowL_other he]
    exact (h.rows k' g' hk').other fun hgg => he (nd_inj h.nd hk' (hgg ▸ hk))
theorem Ru.setSlot {w0 w : World} {ub g0 sg R : Nat} {ov : Value} {gs : List Nat} {m : Mx} {sb : List Bool} (h : Ru w0 w ub g0 sg ov gs R m sb) (r : Nat) (v : Bool) :
    Ru w0 (w.setCell ⟨sg, r, none⟩ (.bool v)) ub g0 sg ov gs R m (sb.set r v) := by
  refine ⟨h.x.setCell h.lo.2.2.1 _, h.u.other h.ne.2.1, h.out.other h.ne.2.2.1, ?_, fun k' g' hk' => (h.rows k' g' hk').other ((h.ne.2.2.2 g' (List.mem_of_getElem? hk')).2.2), h.lo, h.ne, h.nd⟩
  rw [← map_set_b]
  exact h.slot.set r _
end Go.Proofs.YtendijaeihljeaaDoor
namespace Go.Vc
/-- All but some blocks stay. -/
structure Fr (S : Nat → Prop) (w w' : World) : Prop where
  os : w'.os = w.os
  tape : w'.tape = w.tape
  output : w'.output = w.output
  size : w.heap.size ≤ w'.heap.size
  block : ∀ i, i < w.heap.size → ¬ S i → w'.heap[i]? = w.heap[i]?
theorem Fr.refl (S : Nat → Prop) (w : World) : Fr S w w := ⟨rfl, rfl, rfl, Nat.le_refl _, fun _ _ _ => rfl⟩
theorem Fr.trans {S T : Nat → Prop} {a b c : World} (h : Fr S a b) (k : Fr T b c) (hT : ∀ i, i < a.heap.size → T i → S i) : Fr S a c :=
  ⟨k.os.trans h.os, k.tape.trans h.tape, k.output.trans h.output, Nat.le_trans h.size k.size, fun i hi hn => (k.block i (Nat.lt_of_lt_of_le hi h.size) fun ht => hn (hT i hi ht)).trans (h.block i hi hn)⟩
theorem Fr.or {S T : Nat → Prop} {a b c : World} (h : Fr S a b) (k : Fr T b c) : Fr (fun i => S i ∨ T i) a c :=
  ⟨k.os.trans h.os, k.tape.trans h.tape, k.output.trans h.output, Nat.le_trans h.size k.size, fun i hi hn => (k.block i (Nat.lt_of_lt_of_le hi h.size) fun ht => hn (.inr ht)).trans (h.block i hi fun hs => hn (.inl hs))⟩
theorem Fr.mono {S T : Nat → Prop} {a b : World} (h : Fr S a b) (hT : ∀ i, S i → T i) : Fr T a b := ⟨h.os, h.tape, h.output, h.size, fun i hi hn => h.block i hi fun hs => hn (hT i hs)⟩
theorem Fr.of_ext {S : Nat → Prop} {w w' : World} (h : Ext w w') : Fr S w w' := ⟨h.os, h.tape, h.output, h.size, fun i hi _ => h.block i hi (by simp)⟩
theorem Fr.of_grown {S : Nat → Prop} {w w' : World} {row : Option Nat} (h : w.grownBy w' row) (hr : ∀ k, row = some k → S k) : Fr S w w' := ⟨h.os, h.tape, h.output, h.size, fun i hi hn => h.block i hi fun he => hn (hr i he.symm)⟩
theorem Fr.of_set {S : Nat → Prop} {w : World} {b o : Nat} {v : Value} (hb : S b) : Fr S w (w.setCell ⟨b, o, none⟩ v) := ⟨rfl, rfl, rfl, by simp, fun i _ hn => heap_setCell_other _ _ _ _ (fun he => hn (by simp [he]; exact hb))⟩
theorem Fr.set {S : Nat → Prop} {w w' : World} (h : Fr S w w') {b o : Nat} {v : Value} (hb : S b) : Fr S w (w'.setCell ⟨b, o, none⟩ v) := h.trans (Fr.of_set (S := S) hb) fun _ _ h => h
theorem Fr.ext {S : Nat → Prop} {w0 w w' : World} (h : Fr S w w') (hx : Ext w0 w) (hS : ∀ i, S i → w0.heap.size ≤ i) : Ext w0 w' :=
  ⟨h.os.trans hx.os, h.tape.trans hx.tape, h.output.trans hx.output, Nat.le_trans hx.size h.size, fun i hi hn => (h.block i (Nat.lt_of_lt_of_le hi hx.size) fun hs => by have := hS i hs; omega).trans (hx.block i hi hn)⟩
theorem Fr.blk {S : Nat → Prop} {w w' : World} {g : Nat} {cs : List Value} {e : TypeId} (h : Fr S w w') (hb : Blk w g cs e) (hn : ¬ S g) : Blk w' g cs e := by
  unfold Blk
  rw [h.block g hb.lt hn]; exact hb
theorem Fr.own {S : Nat → Prop} {w w' : World} {B e sz n : Nat} {v : Value} {xs : List Value} (h : Fr S w w') (ho : w.ownsRow B e sz v n xs) (hn : ∀ k, v.ownBlock = some k → ¬ S k) : w'.ownsRow B e sz v n xs := by
  refine ⟨ho.1, ?_⟩
  rcases ho.2 with h1 | ⟨g, cap, cur, rfl, hb, hg, rest⟩
  · exact .inl h1
  · refine .inr ⟨g, cap, cur, rfl, hb, ?_, rest⟩
    rw [h.block g (Array.getElem?_eq_some_iff.1 hg).1 (hn g rfl)]
    exact hg
/-- An append onto what the call owns, and where it lies. -/
theorem apL {P : Program} {w : World} {K : Value → World → Prop} {t e by_ ty : Nat} (h : XE P t e by_) {B B' : Nat} {v : Value} {n : Nat} {xs : List Value} (ho : w.ownsRow B e 1 v n xs) {x : Value} {m : Nat} {news : List Value} (hs : w.ownsRow B' e 1 x m news) (hm : 0 < m) (h1 : news.all oneC = true)
    (hb : (n + m) * by_ ≤ 140737488355328) (h63 : n + m ≤ maxLen) (hB : B ≤ w.heap.size)
    (hk : ∀ g cap w', w'.ownsRow B e 1 (.slice (some ⟨g, 0, none⟩) (n + m) cap) (n + m) (xs ++ news) → w.grownBy w' v.ownBlock → (v.ownBlock = some g ∨ g = w.heap.size) → K (.slice (some ⟨g, 0, none⟩) (n + m) cap) w') :
    V P (Builtin.append_ #[t, t] ty #[v, x]) w K := by
  obtain ⟨z, ht, hi, hz⟩ := h
  obtain ⟨i, hi', hz', hn, hby⟩ := info_parts hi
  have hs0 := hs
  rcases hs.2 with ⟨_, h0⟩ | ⟨b, cap, cur, rfl, _⟩
  · omega
  · obtain ⟨g, cap, w', hr, h2, h3, h4, h5⟩ := run_append_lies (P := P) (w := w) t ty B e i z 1 by_ ht hi' hz' hn hby (by simpa using hz) (by omega) v n xs ho ⟨b, 0, none⟩ m cap news (by have := hs.1; simpa using this) (hs0.cells rfl) (fun u hu => by rw [oneC_eq]; exact List.all_eq_true.1 h1 u hu) hm h63 hb hB _ rfl
    exact V.ok hr (hk g cap w' h2 h3 h4)
end Go.Vc
namespace Go.Proofs.YtendijaeihljeaaDoor
open Go.Vc
set_option maxHeartbeats 1600000 in
theorem all_ok {w0 w : World} {ub g0 sg R B : Nat} {ov lv : Value} {gs : List Nat} {m : Mx} {sb l : List Bool} (hR : R ≤ 40) (hgl : gs.length = R) (hl : l.length = R) (hu : Ru w0 w ub g0 sg ov gs R m sb)
    (ha : w.ownsRow B 4 1 lv R (l.map Value.bool)) (hgB : ∀ k, lv.ownBlock = some k → ¬ k ∈ gs) :
    callD Tryd.prog 46 #[.pointer (some ⟨ub, 0, none⟩), lv] w fun r w' => (∃ m', Ru w0 w' ub g0 sg ov gs R m' sb ∧ ∀ a b, a < R → b < R → (m' a b = true ↔ m a b = true ∨ (a ≠ b ∧ l[a]? = some true ∧ l[b]? = some true))) ∧ Fr (fun i => i ∈ gs) w w' := by
  apply F46_wp
  unfold F46_den
  refine lnx (by first | exact xa_22 | exact xa_23 | exact xa_24 | exact xa_28 | exact xa_35 | exact xa_42 | exact xa_58) (SliceIs.of_own ha) ?_
  refine ⟨fun v w' => ∃ (i : Nat) (m1 : Mx), v = i64 i ∧ i ≤ R ∧ Ru w0 w' ub g0 sg ov gs R m1 sb ∧ Fr (fun i => i ∈ gs) w w' ∧ ∀ a b, a < R → b < R → (m1 a b = true ↔ m a b = true ∨ (a < i ∧ a ≠ b ∧ l[a]? = some true ∧ l[b]? = some true)), fun v _ => R - (RowKit.intOf v).toNat,
    ⟨0, m, rfl, Nat.zero_le _, hu, Fr.refl _ _, fun a b _ _ => by simp⟩, ?_⟩
  rintro _ w1 ⟨i, m1, rfl, hi, hu1, hk1, hm1⟩ _
  refine V_lss.2 (ifD_dec (fun hlt => ?_) fun hge => ?_)
  · have hi' : i < R := by omega
    have ha1 := hk1.own ha hgB
    obtain ⟨p, hp⟩ := ex_get (l := l) (j := i) (by omega)
    obtain ⟨g, hg⟩ := ex_get (l := gs) (j := i) (by omega)
    refine ldO' xa_28 l1_4 ha1 (by omega) (by omega) (getB hp) ?_
    refine lnx (by first | exact xa_22 | exact xa_23 | exact xa_24 | exact xa_28 | exact xa_35 | exact xa_42 | exact xa_58) (SliceIs.of_own ha1) ?_
    refine ⟨fun v w' => ∃ (j : Nat) (m2 : Mx), v = i64 j ∧ j ≤ R ∧ Ru w0 w' ub g0 sg ov gs R m2 sb ∧ Fr (fun i => i ∈ gs) w w' ∧ ∀ a b, a < R → b < R → (m2 a b = true ↔ m1 a b = true ∨ (a = i ∧ b < j ∧ a ≠ b ∧ l[a]? = some true ∧ l[b]? = some true)), fun v _ => R - (RowKit.intOf v).toNat,
      ⟨0, m1, rfl, Nat.zero_le _, hu1, hk1, fun a b _ _ => by simp⟩, ?_⟩
    rintro _ w2 ⟨j, m2, rfl, hj, hu2, hk2, hm2⟩ _
    refine V_lss.2 (ifD_dec (fun hjl => ?_) fun hjg => ?_)
    · have hj' : j < R := by omega
      have ha2 := hk2.own ha hgB
      obtain ⟨q, hq⟩ := ex_get (l := l) (j := j) (by omega)
      refine ldO' xa_28 l1_4 ha2 (by omega) (by omega) (getB hq) ?_
      have stay : ¬ (i ≠ j ∧ l[i]? = some true ∧ l[j]? = some true) → V Tryd.prog (binOp .add 3 (i64 j) (Value.int IntKind.i64 1)) w2 fun t40 w24 => (∃ (j : Nat) (m2 : Mx), t40 = i64 j ∧ j ≤ R ∧ Ru w0 w24 ub g0 sg ov gs R m2 sb ∧ Fr (fun i => i ∈ gs) w w24 ∧ ∀ a b, a < R → b < R → (m2 a b = true ↔ m1 a b = true ∨ (a = i ∧ b < j ∧ a ≠ b ∧ l[a]? = some true ∧ l[b]? = some true))) ∧ R - (RowKit.intOf t40).toNat < R - (RowKit.intOf (i64 (j : Int))).toNat := by
        intro hn
        refine V_add.2 ?_
        rw [wrap_id (by omega) (by omega), i64_succ]
        refine ⟨⟨j + 1, m2, rfl, by omega, hu2, hk2, fun a b h1 h2 => ?_⟩, by simp only [intOf_i64]; omega⟩
        rw [hm2 a b h1 h2]
        constructor
        · rintro (h | ⟨h3, h4, h5⟩)
          · exact .inl h
          · exact .inr ⟨h3, by omega, h5⟩
        · rintro (h | ⟨h3, h4, h5⟩)
          · exact .inl h
          · by_cases hbj : b = j
            · subst h3 hbj; exact absurd h5 hn
            · exact .inr ⟨h3, by omega, h5⟩
      cases p with
      | false =>
        simp only [gd_ft, pickD_iff, Bool.false_eq_true, reduceIte, ifD_false]
        exact stay fun h => by rw [hp] at h; cases h.2.1
      | true =>
        simp only [gd_t, pickD_iff, reduceIte]
        cases q with
        | false =>
          simp only [gd_ft, Bool.false_eq_true, reduceIte, ifD_false]
          exact stay fun h => by rw [hq] at h; cases h.2.2
        | true =>
          simp only [gd_t, reduceIte]
          refine V_neqI.2 ?_
          try simp only [pickD_iff, reduceIte]
          refine ifD_dec (fun hne => ?_) fun heq => ?_
          · refine ⟨.inl ⟨_, rfl⟩, ?_⟩
            refine ldB hu2.u.boxed (by first | exact fa_108_0 | exact fa_108_1 | exact fa_110_0 | exact fa_110_1 | exact fa_112_0 | exact fa_112_1 | exact fa_112_2 | exact fa_112_3 | exact fa_112_4 | exact fa_114_0 | exact fa_114_1 | exact fa_114_2 | exact fa_116_0 | exact fa_116_1 | exact fa_116_2 | exact fa_26_0 | exact fa_26_1 | exact fa_26_2 | exact fa_37_0 | exact fa_37_1 | exact fa_44_0 | exact fa_44_1 | exact fa_44_2 | exact fa_54_0 | exact fa_61_0 | exact fa_61_1 | exact fa_68_0 | exact fa_68_1 | exact fa_68_2 | exact fa_68_3 | exact fa_70_0 | exact fa_70_1 | exact fa_70_2 | exact fa_76_0 | exact fa_76_1 | exact fa_76_2 | exact fa_76_3 | exact fa_76_6 | exact fa_76_7 | exact fa_82_0 | exact fa_82_1 | exact fa_82_2 | exact fa_82_3 | exact fa_82_4 | exact fa_82_5 | exact fa_82_6 | exact fa_82_7 | exact fa_82_8 | exact fa_91_0 | exact fa_91_1 | exact fa_93_0 | exact fa_93_1 | exact fa_93_2 | exact fa_95_0 | exact fa_95_1 | exact fa_95_2 | exact fa_95_3 | exact fa_97_0 | exact fa_99_0 | exact fa_99_1) (by first | exact l1_21 | exact l1_24 | exact l1_28 | exact l1_3 | exact l1_35 | exact l1_4 | exact l1_42 | exact l1_52 | exact l1_58) rfl ?_
            refine ldx xa_58 l1_28 (hu2.out.slice (n := R) (by simpa using hgl) (by unfold maxLen; omega)) (by omega) (by omega) (by simp [hg] : (gs.map (sl R))[((i : Nat) : Int).toNat]? = some (sl R g)) ?_
            refine stB xa_28 inf4 (hu2.rows i g hg) (by simp [rowL_len]) (by omega) (by omega) rfl ?_
            refine V_add.2 ?_
            rw [wrap_id (by omega) (by omega), i64_succ]
            have hij : i ≠ j := fun h => hne (by rw [h])
            refine ⟨⟨j + 1, updM m2 i j true, rfl, by omega, hu2.setRow hg j true, hk2.set (List.mem_of_getElem? hg), fun a b h1 h2 => ?_⟩, by simp only [intOf_i64]; omega⟩
            have hm := hm2 a b h1 h2
            by_cases hab : a = i ∧ b = j
            · obtain ⟨rfl, rfl⟩ := hab
              simp [updM, hp, hq, hij]
            · have : updM m2 i j true a b = m2 a b := by unfold updM; rw [if_neg hab]
              rw [this, hm]
              constructor
              · rintro (h | ⟨h3, h4, h5⟩)
                · exact .inl h
                · exact .inr ⟨h3, by omega, h5⟩
              · rintro (h | ⟨h3, h4, h5⟩)
                · exact .inl h
                · exact .inr ⟨h3, by have : b ≠ j := fun h => hab ⟨h3, h⟩; omega, h5⟩
          · exact stay fun h => h.1 (by have : (i : Int) = j := by simpa using heq
                                        omega)
    · have hjR : j = R := by omega
      subst hjR
      refine V_add.2 ?_
      rw [wrap_id (by omega) (by omega), i64_succ]
      refine ⟨⟨i + 1, m2, rfl, by omega, hu2, hk2, fun a b h1 h2 => ?_⟩, by simp only [intOf_i64]; omega⟩
      rw [hm2 a b h1 h2, hm1 a b h1 h2]
      constructor
      · rintro ((h | ⟨h3, h4⟩) | ⟨h3, _, h5⟩)
        · exact .inl h
        · exact .inr ⟨by omega, h4⟩
        · exact .inr ⟨by omega, h5⟩
      · rintro (h | ⟨h3, h4⟩)
        · exact .inl (.inl h)
        · by_cases hai : a = i
          · exact .inr ⟨hai, h2, h4⟩
          · exact .inl (.inr ⟨by omega, h4⟩)
  · have hiR : i = R := by omega
    subst hiR
    refine ⟨⟨m1, hu1, fun a b h1 h2 => ?_⟩, hk1⟩
    rw [hm1 a b h1 h2]
    simp [h1]
end Go.Proofs.YtendijaeihljeaaDoor
namespace Go.Vc
section
variable {P : Program} {w : World} {K : Value → World → Prop} {k : IntKind} {t : TypeId} {a b : Int}
theorem r_and : (binOp .and t (.int k a) (.int k b)).run P w = .ok (.int k (k.wrap (BitVec.ofInt k.bits a &&& BitVec.ofInt k.bits b).toNat)) w := by simp [binOp, Op.intBits]
theorem r_or : (binOp .or t (.int k a) (.int k b)).run P w = .ok (.int k (k.wrap (BitVec.ofInt k.bits a ||| BitVec.ofInt k.bits b).toNat)) w := by simp [binOp, Op.intBits]
theorem r_xor : (binOp .xor t (.int k a) (.int k b)).run P w = .ok (.int k (k.wrap (BitVec.ofInt k.bits a ^^^ BitVec.ofInt k.bits b).toNat)) w := by simp [binOp, Op.intBits]
theorem r_andNot : (binOp .andNot t (.int k a) (.int k b)).run P w = .ok (.int k (k.wrap (BitVec.ofInt k.bits a &&& ~~~ BitVec.ofInt k.bits b).toNat)) w := by simp [binOp, Op.intBits]
theorem r_com : (Op.unary .xor (.int k a)).run P w = .ok (.int k (k.wrap (BitVec.ofInt k.bits (if k.signed then -1 else k.max) ^^^ BitVec.ofInt k.bits a).toNat)) w := by simp [Op.unary, Op.intBits]
theorem r_shl {k' : IntKind} (h : 0 ≤ b) : (binOp .shl t (.int k a) (.int k' b)).run P w = .ok (.int k (k.wrap (a * 2 ^ (min b.toNat k.bits)))) w := by
  have : ¬ b < 0 := by omega
  simp [binOp, Op.shift, this]
theorem r_shr {k' : IntKind} (h : 0 ≤ b) : (binOp .shr t (.int k a) (.int k' b)).run P w = .ok (.int k (a.fdiv (2 ^ (min b.toNat k.bits)))) w := by
  have : ¬ b < 0 := by omega
  simp [binOp, Op.shift, this]
theorem and31 (b : Int) : 0 ≤ IntKind.i32.wrap (BitVec.ofInt IntKind.i32.bits b &&& BitVec.ofInt IntKind.i32.bits 31).toNat := by
  have h : (BitVec.ofInt IntKind.i32.bits b &&& BitVec.ofInt IntKind.i32.bits 31).toNat ≤ 31 := by
    rw [BitVec.toNat_and]
    exact Nat.le_trans Nat.and_le_right (by decide)
  generalize (BitVec.ofInt IntKind.i32.bits b &&& BitVec.ofInt IntKind.i32.bits 31).toNat = n at h
  simp only [IntKind.wrap_i32]
  omega
end
end Go.Vc
namespace Go.Proofs.YtendijaeihljeaaDoor
open Go.Vc
def Pure1 (f : FuncId) : Prop := ∀ a : Int, ∃ z : Int, ∀ w, callD Tryd.prog f #[i32 a] w fun r w' => r = i32 z ∧ w' = w
def Pure2 (f : FuncId) : Prop := ∀ a b : Int, ∃ z : Int, ∀ w, callD Tryd.prog f #[i32 a, i32 b] w fun r w' => r = i32 z ∧ w' = w
theorem add_p : Pure2 55 := fun a b => ⟨_, fun w => F55_wp (by unfold F55_den; exact V.ok r_add ⟨rfl, rfl⟩)⟩
theorem sub_p : Pure2 56 := fun a b => ⟨_, fun w => F56_wp (by unfold F56_den; exact V.ok r_sub ⟨rfl, rfl⟩)⟩
theorem mul_p : Pure2 57 := fun a b => ⟨_, fun w => F57_wp (by unfold F57_den; exact V.ok r_mul ⟨rfl, rfl⟩)⟩
theorem and_p : Pure2 58 := fun a b => ⟨_, fun w => F58_wp (by unfold F58_den; exact V.ok r_and ⟨rfl, rfl⟩)⟩
theorem or_p : Pure2 59 := fun a b => ⟨_, fun w => F59_wp (by unfold F59_den; exact V.ok r_or ⟨rfl, rfl⟩)⟩
theorem xor_p : Pure2 60 := fun a b => ⟨_, fun w => F60_wp (by unfold F60_den; exact V.ok r_xor ⟨rfl, rfl⟩)⟩
theorem shl_p : Pure2 61 := fun a b => ⟨_, fun w => F61_wp (by unfold F61_den; exact V.ok r_and (V.ok (r_shl (and31 b)) ⟨rfl, rfl⟩))⟩
theorem sar_p : Pure2 63 := fun a b => ⟨_, fun w => F63_wp (by unfold F63_den; exact V.ok r_and (V.ok (r_shr (and31 b)) ⟨rfl, rfl⟩))⟩
theorem shr_p : Pure2 62 := fun a b => ⟨_, fun w => F62_wp (by
  unfold F62_den
  exact V.ok (r_convI Tryd.underlying21 Tryd.underlying126) (V.ok r_and (V.ok (r_shr (and31 b)) (V.ok (r_convI Tryd.underlying126 Tryd.underlying21) ⟨rfl, rfl⟩))))⟩
theorem some_p : Pure1 69 := fun a => by
  obtain ⟨z, hz⟩ := shr_p (IntKind.i32.wrap (BitVec.ofInt IntKind.i32.bits a ||| BitVec.ofInt IntKind.i32.bits (IntKind.i32.wrap (0 - a))).toNat) 31
  refine ⟨z, fun w => F69_wp ?_⟩
  unfold F69_den
  refine V.ok r_neg (V.ok r_or ?_)
  exact (hz w).mono fun _ _ h => h
theorem eq_p : Pure2 64 := fun a b => by
  obtain ⟨z, hz⟩ := some_p (IntKind.i32.wrap (BitVec.ofInt IntKind.i32.bits a ^^^ BitVec.ofInt IntKind.i32.bits b).toNat)
  refine ⟨IntKind.i32.wrap (1 - z), fun w => F64_wp ?_⟩
  unfold F64_den
  refine V.ok r_xor ((hz w).mono fun r w' ⟨h1, h2⟩ => ?_)
  subst h1; subst h2
  exact V.ok r_sub ⟨rfl, rfl⟩
theorem lt_p : Pure2 65 := fun a b => ⟨_, fun w => F65_wp (by
  unfold F65_den
  exact V.ok (r_convI Tryd.underlying21 Tryd.underlying2) (V.ok (r_convI Tryd.underlying21 Tryd.underlying2) (V.ok r_sub (V.ok (r_convI Tryd.underlying2 Tryd.underlying127) (V.ok (r_shr (by decide)) (V.ok (r_convI Tryd.underlying127 Tryd.underlying21) ⟨rfl, rfl⟩))))))⟩
theorem below_p : Pure2 66 := fun a b => ⟨_, fun w => F66_wp (by
  unfold F66_den
  exact V.ok (r_convI Tryd.underlying21 Tryd.underlying126) (V.ok (r_convI Tryd.underlying126 Tryd.underlying2) (V.ok (r_convI Tryd.underlying21 Tryd.underlying126) (V.ok (r_convI Tryd.underlying126 Tryd.underlying2) (V.ok r_sub
    (V.ok (r_convI Tryd.underlying2 Tryd.underlying127) (V.ok (r_shr (by decide)) (V.ok (r_convI Tryd.underlying127 Tryd.underlying21) ⟨rfl, rfl⟩))))))))⟩
theorem neg_p : Pure1 67 := fun a => ⟨_, fun w => F67_wp (by unfold F67_den; exact V.ok r_neg ⟨rfl, rfl⟩)⟩
theorem not_p : Pure1 68 := fun a => ⟨_, fun w => F68_wp (by unfold F68_den; exact V.ok r_com ⟨rfl, rfl⟩)⟩
theorem pickW_p (c a b : Int) : ∃ z : Int, ∀ w, callD Tryd.prog 44 #[i32 c, i32 a, i32 b] w fun r w' => r = i32 z ∧ w' = w := by
  obtain ⟨z, hz⟩ := some_p c
  refine ⟨IntKind.i32.wrap (BitVec.ofInt IntKind.i32.bits (IntKind.i32.wrap (BitVec.ofInt IntKind.i32.bits a &&& BitVec.ofInt IntKind.i32.bits (IntKind.i32.wrap (0 - z))).toNat) ||| BitVec.ofInt IntKind.i32.bits (IntKind.i32.wrap (BitVec.ofInt IntKind.i32.bits b &&& ~~~ BitVec.ofInt IntKind.i32.bits (IntKind.i32.wrap (0 - z))).toNat)).toNat, fun w => F44_wp ?_⟩
  unfold F44_den
  refine (hz w).mono fun r w' ⟨h1, h2⟩ => ?_
  subst h1; subst h2
  exact V.ok r_neg (V.ok r_and (V.ok r_andNot (V.ok r_or ⟨rfl, rfl⟩)))
theorem sum_p (op a b : Int) : ∃ z : Int, ∀ w, callD Tryd.prog 42 #[i64 op, i32 a, i32 b] w fun r w' => r = i32 z ∧ w' = w := by
  obtain ⟨z0, h0⟩ := add_p a b
  obtain ⟨z1, h1⟩ := sub_p a b
  obtain ⟨z2, h2⟩ := mul_p a b
  obtain ⟨z3, h3⟩ := and_p a b
  obtain ⟨z4, h4⟩ := or_p a b
  obtain ⟨z5, h5⟩ := xor_p a b
  obtain ⟨z6, h6⟩ := shl_p a b
  obtain ⟨z7, h7⟩ := shr_p a b
  obtain ⟨z8, h8⟩ := sar_p a b
  obtain ⟨z9, h9⟩ := eq_p a b
  obtain ⟨z10, h10⟩ := lt_p a b
  obtain ⟨zl, hl⟩ := below_p a b
  refine ⟨(if op = 6 then z0 else (if op = 7 then z1 else (if op = 8 then z2 else (if op = 9 then z3 else (if op = 10 then z4 else (if op = 11 then z5 else (if op = 12 then z6 else (if op = 13 then z7 else (if op = 14 then z8 else (if op = 19 then z9 else (if op = 20 then z10 else zl))))))))))), fun w => F42_wp ?_⟩
  unfold F42_den
  refine V_eqlI.2 (ifD_dec (fun h => ?_) fun h => ?_)
  · rw [if_pos h]; exact h0 w
  rw [if_neg h]
  refine V_eqlI.2 (ifD_dec (fun h => ?_) fun h => ?_)
  · rw [if_pos h]; exact h1 w
  rw [if_neg h]
  refine V_eqlI.2 (ifD_dec (fun h => ?_) fun h => ?_)
  · rw [if_pos h]; exact h2 w
  rw [if_neg h]
  refine V_eqlI.2 (ifD_dec (fun h => ?_) fun h => ?_)
  · rw [if_pos h]; exact h3 w
  rw [if_neg h]
  refine V_eqlI.2 (ifD_dec (fun h => ?_) fun h => ?_)
  · rw [if_pos h]; exact h4 w
  rw [if_neg h]
  refine V_eqlI.2 (ifD_dec (fun h => ?_) fun h => ?_)
  · rw [if_pos h]; exact h5 w
  rw [if_neg h]
  refine V_eqlI.2 (ifD_dec (fun h => ?_) fun h => ?_)
  · rw [if_pos h]; exact h6 w
  rw [if_neg h]
  refine V_eqlI.2 (ifD_dec (fun h => ?_) fun h => ?_)
  · rw [if_pos h]; exact h7 w
  rw [if_neg h]
  refine V_eqlI.2 (ifD_dec (fun h => ?_) fun h => ?_)
  · rw [if_pos h]; exact h8 w
  rw [if_neg h]
  refine V_eqlI.2 (ifD_dec (fun h => ?_) fun h => ?_)
  · rw [if_pos h]; exact h9 w
  rw [if_neg h]
  refine V_eqlI.2 (ifD_dec (fun h => ?_) fun h => ?_)
  · rw [if_pos h]; exact h10 w
  rw [if_neg h]
  exact hl w
theorem one_p (op a : Int) : ∃ z : Int, ∀ w, callD Tryd.prog 43 #[i64 op, i32 a] w fun r w' => r = i32 z ∧ w' = w := by
  obtain ⟨z0, h0⟩ := neg_p a
  obtain ⟨z1, h1⟩ := not_p a
  obtain ⟨zl, hl⟩ := eq_p a 0
  refine ⟨(if op = 15 then z0 else (if op = 16 then z1 else zl)), fun w => F43_wp ?_⟩
  unfold F43_den
  refine V_eqlI.2 (ifD_dec (fun h => ?_) fun h => ?_)
  · rw [if_pos h]; exact h0 w
  rw [if_neg h]
  refine V_eqlI.2 (ifD_dec (fun h => ?_) fun h => ?_)
  · rw [if_pos h]; exact h1 w
  rw [if_neg h]
  exact hl w
noncomputable def sumF (op a b : Int) : Int := Classical.choose (sum_p op a b)
noncomputable def oneF (op a : Int) : Int := Classical.choose (one_p op a)
noncomputable def pickWF (c a b : Int) : Int := Classical.choose (pickW_p c a b)
theorem sum_ok (op a b : Int) (w : World) : callD Tryd.prog 42 #[i64 op, i32 a, i32 b] w fun r w' => r = i32 (sumF op a b) ∧ w' = w := Classical.choose_spec (sum_p op a b) w
theorem one_ok (op a : Int) (w : World) : callD Tryd.prog 43 #[i64 op, i32 a] w fun r w' => r = i32 (oneF op a) ∧ w' = w := Classical.choose_spec (one_p op a) w
theorem pickW_ok (c a b : Int) (w : World) : callD Tryd.prog 44 #[i32 c, i32 a, i32 b] w fun r w' => r = i32 (pickWF c a b) ∧ w' = w := Classical.choose_spec (pickW_p c a b) w
end Go.Proofs.YtendijaeihljeaaDoor
namespace Go.Vc
theorem V.mono {P : Program} {s : Sem Value} {w : World} {K K' : Value → World → Prop} (h : V P s w K) (hk : ∀ v w', K v w' → K' v w') : V P s w K' := by
  obtain ⟨v, w', h1, h2⟩ := h
  exact ⟨v, w', h1, hk v w' h2⟩
end Go.Vc
namespace Go.Proofs.YtendijaeihljeaaDoor
open Go.Vc
def getR (l : List Int) (r : Int) : Int := (l[r.toNat]?).getD 0
/-- What a node makes of the registers, and where it goes. -/
noncomputable def doR (g : GNode) (l : List Int) (at' : Int) : List Int × Int :=
  match g with
  | .const d n => (l.set d.toNat n, at' + 1)
  | .move d s => (l.set d.toNat (getR l s), at' + 1)
  | .bin op d a b => (l.set d.toNat (sumF op (getR l a) (getR l b)), at' + 1)
  | .un op d a => (l.set d.toNat (oneF op (getR l a)), at' + 1)
  | .choose d c a b => (l.set d.toNat (pickWF (getR l c) (getR l a) (getR l b)), at' + 1)
  | .goto t => (l, t)
  | .branch c t => (l, if getR l c ≠ 0 then t else at' + 1)
  | _ => (l, at' + 1)
def DoPost (B : Nat) (rv : Value) (R : Nat) (q : List Int × Int) (w : World) (r : Value) (w' : World) : Prop := r = i64 q.2 ∧ w'.ownsRow B 21 1 rv R (q.1.map i32) ∧ Fr (fun i => rv.ownBlock = some i) w w'
theorem get32 {l : List Int} {r : Int} {R : Nat} (hl : l.length = R) (h0 : 0 ≤ r) (h1 : r < R) : (l.map i32)[r.toNat]? = some (i32 (getR l r)) := by
  obtain ⟨x, hx⟩ := ex_get (l := l) (j := r.toNat) (by omega)
  simp [getR, hx]
theorem do_put {w0 w2 : World} {S : World → Prop} {B R g cap : Nat} {l : List Int} {d z at' : Int} (ho : w2.ownsRow B 21 1 (.slice (some ⟨g, 0, none⟩) R cap) R (l.map i32)) (h0 : 0 ≤ d) (h1 : d < R) (hx : Ext w0 w2) (ha : 0 ≤ at') (ha2 : at' ≤ 1000) :
    yieldS Tryd.prog S (Instr.indexAt 23 (.slice (some ⟨g, 0, none⟩) R cap) (i64 d)) fun p => U Tryd.prog (Instr.storeAt 21 p (i32 z)) w2 fun _ w3 => V Tryd.prog (binOp .add 3 (i64 at') (Value.int IntKind.i64 1)) w3 fun t w4 =>
      DoPost B (.slice (some ⟨g, 0, none⟩) R cap) R (l.set d.toNat z, at' + 1) w0 t w4 := by
  refine yieldS.ok (fun w' _ => r_ix_23 h0 h1) ?_
  refine stY inf21 ho (by omega) rfl fun w3 ho3 hg3 => ?_
  refine V_add.2 ?_
  rw [wrap_id (by omega) (by omega)]
  refine ⟨rfl, ?_, (Fr.of_ext (S := fun _ => False) hx).or (Fr.of_grown (S := fun i => (Value.slice (some ⟨g, 0, none⟩) R cap).ownBlock = some i) hg3 fun k hk => hk) |>.mono fun i hi => hi.elim (fun h => h.elim) id⟩
  rw [List.map_set]
  exact ho3
set_option maxHeartbeats 4000000 in
theorem do_ok {g : GNode} {nv rv : Value} {l : List Int} {R B : Nat} {at' : Int} {w : World} (hn : NodeIs w nv g) (ho : w.ownsRow B 21 1 rv R (l.map i32)) (hl : l.length = R) (hu : ∀ r ∈ g.us, 0 ≤ r ∧ r < R) (hd : (0 ≤ g.df ∧ g.df < R) ∨ (g.df = -1 ∧ g.bareN = true)) (ha : 0 ≤ at') (ha2 : at' ≤ 1000) :
    callD Tryd.prog 25 #[nv, rv, i64 at'] w (DoPost B rv R (doR g l at') w) := by
  obtain ⟨sv, rfl, hs⟩ := hn
  obtain ⟨sa, sc, rfl⟩ := hs.shape
  apply F25_wp
  unfold F25_den
  have shape : 0 < R → ∃ g cap, rv = .slice (some ⟨g, 0, none⟩) R cap := fun h => by
    obtain ⟨g, cap, h1, _⟩ := World.ownsRow.form ho h
    exact ⟨g, cap, h1⟩
  have next : ∀ w', Ext w w' → V Tryd.prog (binOp .add 3 (i64 at') (Value.int IntKind.i64 1)) w' fun t w4 => DoPost B rv R (l, at' + 1) w t w4 := fun w' hx => by
    refine V_add.2 ?_
    rw [wrap_id (by omega) (by omega)]
    exact ⟨rfl, hx.own ho, Fr.of_ext hx⟩
  have D1 : ∀ {w1}, Ext w w1 → Ext w w1.drew := fun h => h.drew
  cases g with
  | const d n =>
    dsimp only [GNode.val]; (repeat (first | (with_reducible refine th (by first | exact ta_108 | exact ta_110 | exact ta_112 | exact ta_114 | exact ta_116 | exact ta_50 | exact ta_54 | exact ta_61 | exact ta_68 | exact ta_91 | exact ta_93 | exact ta_95 | exact ta_97 | exact ta_99) ?_) | ((with_reducible refine tm (by first | exact ta_108 | exact ta_110 | exact ta_112 | exact ta_114 | exact ta_116 | exact ta_50 | exact ta_54 | exact ta_61 | exact ta_68 | exact ta_91 | exact ta_93 | exact ta_95 | exact ta_97 | exact ta_99) (by decide) ?_); intro _ _ _)))
    refine asB (by first | exact sa_108 | exact sa_110 | exact sa_112 | exact sa_114 | exact sa_116 | exact sa_120 | exact sa_26 | exact sa_28 | exact sa_37 | exact sa_44 | exact sa_50 | exact sa_54 | exact sa_61 | exact sa_68 | exact sa_70 | exact sa_76 | exact sa_91 | exact sa_93 | exact sa_95 | exact sa_97 | exact sa_99) rfl rfl fun b w1 hb x1 => ?_; refine ldB hb (by first | exact fa_108_0 | exact fa_108_1 | exact fa_110_0 | exact fa_110_1 | exact fa_112_0 | exact fa_112_1 | exact fa_112_2 | exact fa_112_3 | exact fa_112_4 | exact fa_114_0 | exact fa_114_1 | exact fa_114_2 | exact fa_116_0 | exact fa_116_1 | exact fa_116_2 | exact fa_26_0 | exact fa_26_1 | exact fa_26_2 | exact fa_37_0 | exact fa_37_1 | exact fa_44_0 | exact fa_44_1 | exact fa_44_2 | exact fa_54_0 | exact fa_61_0 | exact fa_61_1 | exact fa_68_0 | exact fa_68_1 | exact fa_68_2 | exact fa_68_3 | exact fa_70_0 | exact fa_70_1 | exact fa_70_2 | exact fa_76_0 | exact fa_76_1 | exact fa_76_2 | exact fa_76_3 | exact fa_76_6 | exact fa_76_7 | exact fa_82_0 | exact fa_82_1 | exact fa_82_2 | exact fa_82_3 | exact fa_82_4 | exact fa_82_5 | exact fa_82_6 | exact fa_82_7 | exact fa_82_8 | exact fa_91_0 | exact fa_91_1 | exact fa_93_0 | exact fa_93_1 | exact fa_93_2 | exact fa_95_0 | exact fa_95_1 | exact fa_95_2 | exact fa_95_3 | exact fa_97_0 | exact fa_99_0 | exact fa_99_1) (by first | exact l1_21 | exact l1_24 | exact l1_28 | exact l1_3 | exact l1_35 | exact l1_4 | exact l1_42 | exact l1_52 | exact l1_58) rfl ?_; refine ldB hb (by first | exact fa_108_0 | exact fa_108_1 | exact fa_110_0 | exact fa_110_1 | exact fa_112_0 | exact fa_112_1 | exact fa_112_2 | exact fa_112_3 | exact fa_112_4 | exact fa_114_0 | exact fa_114_1 | exact fa_114_2 | exact fa_116_0 | exact fa_116_1 | exact fa_116_2 | exact fa_26_0 | exact fa_26_1 | exact fa_26_2 | exact fa_37_0 | exact fa_37_1 | exact fa_44_0 | exact fa_44_1 | exact fa_44_2 | exact fa_54_0 | exact fa_61_0 | exact fa_61_1 | exact fa_68_0 | exact fa_68_1 | exact fa_68_2 | exact fa_68_3 | exact fa_70_0 | exact fa_70_1 | exact fa_70_2 | exact fa_76_0 | exact fa_76_1 | exact fa_76_2 | exact fa_76_3 | exact fa_76_6 | exact fa_76_7 | exact fa_82_0 | exact fa_82_1 | exact fa_82_2 | exact fa_82_3 | exact fa_82_4 | exact fa_82_5 | exact fa_82_6 | exact fa_82_7 | exact fa_82_8 | exact fa_91_0 | exact fa_91_1 | exact fa_93_0 | exact fa_93_1 | exact fa_93_2 | exact fa_95_0 | exact fa_95_1 | exact fa_95_2 | exact fa_95_3 | exact fa_97_0 | exact fa_99_0 | exact fa_99_1) (by first | exact l1_21 | exact l1_24 | exact l1_28 | exact l1_3 | exact l1_35 | exact l1_4 | exact l1_42 | exact l1_52 | exact l1_58) rfl ?_
    have hd' : 0 ≤ d ∧ d < R := by rcases hd with h | ⟨_, h⟩; exact h; cases h
    refine stO (by first | exact xa_22 | exact xa_23 | exact xa_24 | exact xa_28 | exact xa_35 | exact xa_42 | exact xa_58) inf21 (x1.own ho) hd'.1 hd'.2 rfl fun w3 ho3 hg3 => ?_
    refine V_add.2 ?_
    rw [wrap_id (by omega) (by omega)]
    refine ⟨rfl, ?_, (Fr.of_ext (S := fun _ => False) x1).or (Fr.of_grown (S := fun i => rv.ownBlock = some i) hg3 fun k hk => hk) |>.mono fun i hi => hi.elim (fun h => h.elim) id⟩
    show w3.ownsRow B _ 1 rv R ((l.set d.toNat n).map i32)
    rw [List.map_set]
    exact ho3
  | move d a =>
    dsimp only [GNode.val]; (repeat (first | (with_reducible refine th (by first | exact ta_108 | exact ta_110 | exact ta_112 | exact ta_114 | exact ta_116 | exact ta_50 | exact ta_54 | exact ta_61 | exact ta_68 | exact ta_91 | exact ta_93 | exact ta_95 | exact ta_97 | exact ta_99) ?_) | ((with_reducible refine tm (by first | exact ta_108 | exact ta_110 | exact ta_112 | exact ta_114 | exact ta_116 | exact ta_50 | exact ta_54 | exact ta_61 | exact ta_68 | exact ta_91 | exact ta_93 | exact ta_95 | exact ta_97 | exact ta_99) (by decide) ?_); intro _ _ _)))
    refine asB (by first | exact sa_108 | exact sa_110 | exact sa_112 | exact sa_114 | exact sa_116 | exact sa_120 | exact sa_26 | exact sa_28 | exact sa_37 | exact sa_44 | exact sa_50 | exact sa_54 | exact sa_61 | exact sa_68 | exact sa_70 | exact sa_76 | exact sa_91 | exact sa_93 | exact sa_95 | exact sa_97 | exact sa_99) rfl rfl fun b w1 hb x1 => ?_
    have hd' : 0 ≤ d ∧ d < R := by rcases hd with h | ⟨_, h⟩; exact h; cases h
    have ha' := hu a (by simp [GNode.us])
    obtain ⟨gb, cap, rfl⟩ := shape (by omega)
    have ho1 := (D1 x1).own ho
    have hb1 := hb.ext (Ext.refl w1).drew
    refine drawD.mk' (fun w' => w' = w1.drew) rfl ?_
    refine yfB (fun w' hw => hw ▸ hb1) (by first | exact fa_108_0 | exact fa_108_1 | exact fa_110_0 | exact fa_110_1 | exact fa_112_0 | exact fa_112_1 | exact fa_112_2 | exact fa_112_3 | exact fa_112_4 | exact fa_114_0 | exact fa_114_1 | exact fa_114_2 | exact fa_116_0 | exact fa_116_1 | exact fa_116_2 | exact fa_26_0 | exact fa_26_1 | exact fa_26_2 | exact fa_37_0 | exact fa_37_1 | exact fa_44_0 | exact fa_44_1 | exact fa_44_2 | exact fa_54_0 | exact fa_61_0 | exact fa_61_1 | exact fa_68_0 | exact fa_68_1 | exact fa_68_2 | exact fa_68_3 | exact fa_70_0 | exact fa_70_1 | exact fa_70_2 | exact fa_76_0 | exact fa_76_1 | exact fa_76_2 | exact fa_76_3 | exact fa_76_6 | exact fa_76_7 | exact fa_82_0 | exact fa_82_1 | exact fa_82_2 | exact fa_82_3 | exact fa_82_4 | exact fa_82_5 | exact fa_82_6 | exact fa_82_7 | exact fa_82_8 | exact fa_91_0 | exact fa_91_1 | exact fa_93_0 | exact fa_93_1 | exact fa_93_2 | exact fa_95_0 | exact fa_95_1 | exact fa_95_2 | exact fa_95_3 | exact fa_97_0 | exact fa_99_0 | exact fa_99_1) (by first | exact l1_21 | exact l1_24 | exact l1_28 | exact l1_3 | exact l1_35 | exact l1_4 | exact l1_42 | exact l1_52 | exact l1_58) rfl ?_
    refine yfB (fun w' hw => hw ▸ hb1) (by first | exact fa_108_0 | exact fa_108_1 | exact fa_110_0 | exact fa_110_1 | exact fa_112_0 | exact fa_112_1 | exact fa_112_2 | exact fa_112_3 | exact fa_112_4 | exact fa_114_0 | exact fa_114_1 | exact fa_114_2 | exact fa_116_0 | exact fa_116_1 | exact fa_116_2 | exact fa_26_0 | exact fa_26_1 | exact fa_26_2 | exact fa_37_0 | exact fa_37_1 | exact fa_44_0 | exact fa_44_1 | exact fa_44_2 | exact fa_54_0 | exact fa_61_0 | exact fa_61_1 | exact fa_68_0 | exact fa_68_1 | exact fa_68_2 | exact fa_68_3 | exact fa_70_0 | exact fa_70_1 | exact fa_70_2 | exact fa_76_0 | exact fa_76_1 | exact fa_76_2 | exact fa_76_3 | exact fa_76_6 | exact fa_76_7 | exact fa_82_0 | exact fa_82_1 | exact fa_82_2 | exact fa_82_3 | exact fa_82_4 | exact fa_82_5 | exact fa_82_6 | exact fa_82_7 | exact fa_82_8 | exact fa_91_0 | exact fa_91_1 | exact fa_93_0 | exact fa_93_1 | exact fa_93_2 | exact fa_95_0 | exact fa_95_1 | exact fa_95_2 | exact fa_95_3 | exact fa_97_0 | exact fa_99_0 | exact fa_99_1) (by first | exact l1_21 | exact l1_24 | exact l1_28 | exact l1_3 | exact l1_35 | exact l1_4 | exact l1_42 | exact l1_52 | exact l1_58) rfl ?_
    refine ySl xa_23 l1_21 (SliceIs.of_own ho1) (fun w' hw => hw ▸ Ext.refl _) ha'.1 ha'.2 (get32 hl ha'.1 ha'.2) ?_
    exact do_put ho1 hd'.1 hd'.2 (D1 x1) ha ha2
  | bin op d a c =>
    dsimp only [GNode.val]; (repeat (first | (with_reducible refine th (by first | exact ta_108 | exact ta_110 | exact ta_112 | exact ta_114 | exact ta_116 | exact ta_50 | exact ta_54 | exact ta_61 | exact ta_68 | exact ta_91 | exact ta_93 | exact ta_95 | exact ta_97 | exact ta_99) ?_) | ((with_reducible refine tm (by first | exact ta_108 | exact ta_110 | exact ta_112 | exact ta_114 | exact ta_116 | exact ta_50 | exact ta_54 | exact ta_61 | exact ta_68 | exact ta_91 | exact ta_93 | exact ta_95 | exact ta_97 | exact ta_99) (by decide) ?_); intro _ _ _)))
    refine asB (by first | exact sa_108 | exact sa_110 | exact sa_112 | exact sa_114 | exact sa_116 | exact sa_120 | exact sa_26 | exact sa_28 | exact sa_37 | exact sa_44 | exact sa_50 | exact sa_54 | exact sa_61 | exact sa_68 | exact sa_70 | exact sa_76 | exact sa_91 | exact sa_93 | exact sa_95 | exact sa_97 | exact sa_99) rfl rfl fun b w1 hb x1 => ?_
    have hd' : 0 ≤ d ∧ d < R := by rcases hd with h | ⟨_, h⟩; exact h; cases h
    have ha' := hu a (by simp [GNode.us])
    have hc' := hu c (by simp [GNode.us])
    obtain ⟨gb, cap, rfl⟩ := shape (by omega)
    have ho1 := (D1 x1).own ho
    have hb1 := hb.ext (Ext.refl w1).drew
    refine drawD.mk' (fun w' => w' = w1.drew) rfl ?_
    refine yfB (fun w' hw => hw ▸ hb1) (by first | exact fa_108_0 | exact fa_108_1 | exact fa_110_0 | exact fa_110_1 | exact fa_112_0 | exact fa_112_1 | exact fa_112_2 | exact fa_112_3 | exact fa_112_4 | exact fa_114_0 | exact fa_114_1 | exact fa_114_2 | exact fa_116_0 | exact fa_116_1 | exact fa_116_2 | exact fa_26_0 | exact fa_26_1 | exact fa_26_2 | exact fa_37_0 | exact fa_37_1 | exact fa_44_0 | exact fa_44_1 | exact fa_44_2 | exact fa_54_0 | exact fa_61_0 | exact fa_61_1 | exact fa_68_0 | exact fa_68_1 | exact fa_68_2 | exact fa_68_3 | exact fa_70_0 | exact fa_70_1 | exact fa_70_2 | exact fa_76_0 | exact fa_76_1 | exact fa_76_2 | exact fa_76_3 | exact fa_76_6 | exact fa_76_7 | exact fa_82_0 | exact fa_82_1 | exact fa_82_2 | exact fa_82_3 | exact fa_82_4 | exact fa_82_5 | exact fa_82_6 | exact fa_82_7 | exact fa_82_8 | exact fa_91_0 | exact fa_91_1 | exact fa_93_0 | exact fa_93_1 | exact fa_93_2 | exact fa_95_0 | exact fa_95_1 | exact fa_95_2 | exact fa_95_3 | exact fa_97_0 | exact fa_99_0 | exact fa_99_1) (by first | exact l1_21 | exact l1_24 | exact l1_28 | exact l1_3 | exact l1_35 | exact l1_4 | exact l1_42 | exact l1_52 | exact l1_58) rfl ?_
    refine yfB (fun w' hw => hw ▸ hb1) (by first | exact fa_108_0 | exact fa_108_1 | exact fa_110_0 | exact fa_110_1 | exact fa_112_0 | exact fa_112_1 | exact fa_112_2 | exact fa_112_3 | exact fa_112_4 | exact fa_114_0 | exact fa_114_1 | exact fa_114_2 | exact fa_116_0 | exact fa_116_1 | exact fa_116_2 | exact fa_26_0 | exact fa_26_1 | exact fa_26_2 | exact fa_37_0 | exact fa_37_1 | exact fa_44_0 | exact fa_44_1 | exact fa_44_2 | exact fa_54_0 | exact fa_61_0 | exact fa_61_1 | exact fa_68_0 | exact fa_68_1 | exact fa_68_2 | exact fa_68_3 | exact fa_70_0 | exact fa_70_1 | exact fa_70_2 | exact fa_76_0 | exact fa_76_1 | exact fa_76_2 | exact fa_76_3 | exact fa_76_6 | exact fa_76_7 | exact fa_82_0 | exact fa_82_1 | exact fa_82_2 | exact fa_82_3 | exact fa_82_4 | exact fa_82_5 | exact fa_82_6 | exact fa_82_7 | exact fa_82_8 | exact fa_91_0 | exact fa_91_1 | exact fa_93_0 | exact fa_93_1 | exact fa_93_2 | exact fa_95_0 | exact fa_95_1 | exact fa_95_2 | exact fa_95_3 | exact fa_97_0 | exact fa_99_0 | exact fa_99_1) (by first | exact l1_21 | exact l1_24 | exact l1_28 | exact l1_3 | exact l1_35 | exact l1_4 | exact l1_42 | exact l1_52 | exact l1_58) rfl ?_
    refine yfB (fun w' hw => hw ▸ hb1) (by first | exact fa_108_0 | exact fa_108_1 | exact fa_110_0 | exact fa_110_1 | exact fa_112_0 | exact fa_112_1 | exact fa_112_2 | exact fa_112_3 | exact fa_112_4 | exact fa_114_0 | exact fa_114_1 | exact fa_114_2 | exact fa_116_0 | exact fa_116_1 | exact fa_116_2 | exact fa_26_0 | exact fa_26_1 | exact fa_26_2 | exact fa_37_0 | exact fa_37_1 | exact fa_44_0 | exact fa_44_1 | exact fa_44_2 | exact fa_54_0 | exact fa_61_0 | exact fa_61_1 | exact fa_68_0 | exact fa_68_1 | exact fa_68_2 | exact fa_68_3 | exact fa_70_0 | exact fa_70_1 | exact fa_70_2 | exact fa_76_0 | exact fa_76_1 | exact fa_76_2 | exact fa_76_3 | exact fa_76_6 | exact fa_76_7 | exact fa_82_0 | exact fa_82_1 | exact fa_82_2 | exact fa_82_3 | exact fa_82_4 | exact fa_82_5 | exact fa_82_6 | exact fa_82_7 | exact fa_82_8 | exact fa_91_0 | exact fa_91_1 | exact fa_93_0 | exact fa_93_1 | exact fa_93_2 | exact fa_95_0 | exact fa_95_1 | exact fa_95_2 | exact fa_95_3 | exact fa_97_0 | exact fa_99_0 | exact fa_99_1) (by first | exact l1_21 | exact l1_24 | exact l1_28 | exact l1_3 | exact l1_35 | exact l1_4 | exact l1_42 | exact l1_52 | exact l1_58) rfl ?_
    refine ySl xa_23 l1_21 (SliceIs.of_own ho1) (fun w' hw => hw ▸ Ext.refl _) ha'.1 ha'.2 (get32 hl ha'.1 ha'.2) ?_
    refine yfB (fun w' hw => hw ▸ hb1) (by first | exact fa_108_0 | exact fa_108_1 | exact fa_110_0 | exact fa_110_1 | exact fa_112_0 | exact fa_112_1 | exact fa_112_2 | exact fa_112_3 | exact fa_112_4 | exact fa_114_0 | exact fa_114_1 | exact fa_114_2 | exact fa_116_0 | exact fa_116_1 | exact fa_116_2 | exact fa_26_0 | exact fa_26_1 | exact fa_26_2 | exact fa_37_0 | exact fa_37_1 | exact fa_44_0 | exact fa_44_1 | exact fa_44_2 | exact fa_54_0 | exact fa_61_0 | exact fa_61_1 | exact fa_68_0 | exact fa_68_1 | exact fa_68_2 | exact fa_68_3 | exact fa_70_0 | exact fa_70_1 | exact fa_70_2 | exact fa_76_0 | exact fa_76_1 | exact fa_76_2 | exact fa_76_3 | exact fa_76_6 | exact fa_76_7 | exact fa_82_0 | exact fa_82_1 | exact fa_82_2 | exact fa_82_3 | exact fa_82_4 | exact fa_82_5 | exact fa_82_6 | exact fa_82_7 | exact fa_82_8 | exact fa_91_0 | exact fa_91_1 | exact fa_93_0 | exact fa_93_1 | exact fa_93_2 | exact fa_95_0 | exact fa_95_1 | exact fa_95_2 | exact fa_95_3 | exact fa_97_0 | exact fa_99_0 | exact fa_99_1) (by first | exact l1_21 | exact l1_24 | exact l1_28 | exact l1_3 | exact l1_35 | exact l1_4 | exact l1_42 | exact l1_52 | exact l1_58) rfl ?_
    refine ySl xa_23 l1_21 (SliceIs.of_own ho1) (fun w' hw => hw ▸ Ext.refl _) hc'.1 hc'.2 (get32 hl hc'.1 hc'.2) ?_
    refine (sum_ok _ _ _ _).mono fun r w' ⟨hr, hw⟩ => ?_
    subst hr; have hw := hw.symm; subst hw
    exact ⟨rfl, do_put ho1 hd'.1 hd'.2 (D1 x1) ha ha2⟩
  | un op d a =>
    dsimp only [GNode.val]; (repeat (first | (with_reducible refine th (by first | exact ta_108 | exact ta_110 | exact ta_112 | exact ta_114 | exact ta_116 | exact ta_50 | exact ta_54 | exact ta_61 | exact ta_68 | exact ta_91 | exact ta_93 | exact ta_95 | exact ta_97 | exact ta_99) ?_) | ((with_reducible refine tm (by first | exact ta_108 | exact ta_110 | exact ta_112 | exact ta_114 | exact ta_116 | exact ta_50 | exact ta_54 | exact ta_61 | exact ta_68 | exact ta_91 | exact ta_93 | exact ta_95 | exact ta_97 | exact ta_99) (by decide) ?_); intro _ _ _)))
    refine asB (by first | exact sa_108 | exact sa_110 | exact sa_112 | exact sa_114 | exact sa_116 | exact sa_120 | exact sa_26 | exact sa_28 | exact sa_37 | exact sa_44 | exact sa_50 | exact sa_54 | exact sa_61 | exact sa_68 | exact sa_70 | exact sa_76 | exact sa_91 | exact sa_93 | exact sa_95 | exact sa_97 | exact sa_99) rfl rfl fun b w1 hb x1 => ?_
    have hd' : 0 ≤ d ∧ d < R := by rcases hd with h | ⟨_, h⟩; exact h; cases h
    have ha' := hu a (by simp [GNode.us])
    obtain ⟨gb, cap, rfl⟩ := shape (by omega)
    have ho1 := (D1 x1).own ho
    have hb1 := hb.ext (Ext.refl w1).drew
    refine drawD.mk' (fun w' => w' = w1.drew) rfl ?_
    refine yfB (fun w' hw => hw ▸ hb1) (by first | exact fa_108_0 | exact fa_108_1 | exact fa_110_0 | exact fa_110_1 | exact fa_112_0 | exact fa_112_1 | exact fa_112_2 | exact fa_112_3 | exact fa_112_4 | exact fa_114_0 | exact fa_114_1 | exact fa_114_2 | exact fa_116_0 | exact fa_116_1 | exact fa_116_2 | exact fa_26_0 | exact fa_26_1 | exact fa_26_2 | exact fa_37_0 | exact fa_37_1 | exact fa_44_0 | exact fa_44_1 | exact fa_44_2 | exact fa_54_0 | exact fa_61_0 | exact fa_61_1 | exact fa_68_0 | exact fa_68_1 | exact fa_68_2 | exact fa_68_3 | exact fa_70_0 | exact fa_70_1 | exact fa_70_2 | exact fa_76_0 | exact fa_76_1 | exact fa_76_2 | exact fa_76_3 | exact fa_76_6 | exact fa_76_7 | exact fa_82_0 | exact fa_82_1 | exact fa_82_2 | exact fa_82_3 | exact fa_82_4 | exact fa_82_5 | exact fa_82_6 | exact fa_82_7 | exact fa_82_8 | exact fa_91_0 | exact fa_91_1 | exact fa_93_0 | exact fa_93_1 | exact fa_93_2 | exact fa_95_0 | exact fa_95_1 | exact fa_95_2 | exact fa_95_3 | exact fa_97_0 | exact fa_99_0 | exact fa_99_1) (by first | exact l1_21 | exact l1_24 | exact l1_28 | exact l1_3 | exact l1_35 | exact l1_4 | exact l1_42 | exact l1_52 | exact l1_58) rfl ?_
    refine yfB (fun w' hw => hw ▸ hb1) (by first | exact fa_108_0 | exact fa_108_1 | exact fa_110_0 | exact fa_110_1 | exact fa_112_0 | exact fa_112_1 | exact fa_112_2 | exact fa_112_3 | exact fa_112_4 | exact fa_114_0 | exact fa_114_1 | exact fa_114_2 | exact fa_116_0 | exact fa_116_1 | exact fa_116_2 | exact fa_26_0 | exact fa_26_1 | exact fa_26_2 | exact fa_37_0 | exact fa_37_1 | exact fa_44_0 | exact fa_44_1 | exact fa_44_2 | exact fa_54_0 | exact fa_61_0 | exact fa_61_1 | exact fa_68_0 | exact fa_68_1 | exact fa_68_2 | exact fa_68_3 | exact fa_70_0 | exact fa_70_1 | exact fa_70_2 | exact fa_76_0 | exact fa_76_1 | exact fa_76_2 | exact fa_76_3 | exact fa_76_6 | exact fa_76_7 | exact fa_82_0 | exact fa_82_1 | exact fa_82_2 | exact fa_82_3 | exact fa_82_4 | exact fa_82_5 | exact fa_82_6 | exact fa_82_7 | exact fa_82_8 | exact fa_91_0 | exact fa_91_1 | exact fa_93_0 | exact fa_93_1 | exact fa_93_2 | exact fa_95_0 | exact fa_95_1 | exact fa_95_2 | exact fa_95_3 | exact fa_97_0 | exact fa_99_0 | exact fa_99_1) (by first | exact l1_21 | exact l1_24 | exact l1_28 | exact l1_3 | exact l1_35 | exact l1_4 | exact l1_42 | exact l1_52 | exact l1_58) rfl ?_
    refine yfB (fun w' hw => hw ▸ hb1) (by first | exact fa_108_0 | exact fa_108_1 | exact fa_110_0 | exact fa_110_1 | exact fa_112_0 | exact fa_112_1 | exact fa_112_2 | exact fa_112_3 | exact fa_112_4 | exact fa_114_0 | exact fa_114_1 | exact fa_114_2 | exact fa_116_0 | exact fa_116_1 | exact fa_116_2 | exact fa_26_0 | exact fa_26_1 | exact fa_26_2 | exact fa_37_0 | exact fa_37_1 | exact fa_44_0 | exact fa_44_1 | exact fa_44_2 | exact fa_54_0 | exact fa_61_0 | exact fa_61_1 | exact fa_68_0 | exact fa_68_1 | exact fa_68_2 | exact fa_68_3 | exact fa_70_0 | exact fa_70_1 | exact fa_70_2 | exact fa_76_0 | exact fa_76_1 | exact fa_76_2 | exact fa_76_3 | exact fa_76_6 | exact fa_76_7 | exact fa_82_0 | exact fa_82_1 | exact fa_82_2 | exact fa_82_3 | exact fa_82_4 | exact fa_82_5 | exact fa_82_6 | exact fa_82_7 | exact fa_82_8 | exact fa_91_0 | exact fa_91_1 | exact fa_93_0 | exact fa_93_1 | exact fa_93_2 | exact fa_95_0 | exact fa_95_1 | exact fa_95_2 | exact fa_95_3 | exact fa_97_0 | exact fa_99_0 | exact fa_99_1) (by first | exact l1_21 | exact l1_24 | exact l1_28 | exact l1_3 | exact l1_35 | exact l1_4 | exact l1_42 | exact l1_52 | exact l1_58) rfl ?_
    refine ySl xa_23 l1_21 (SliceIs.of_own ho1) (fun w' hw => hw ▸ Ext.refl _) ha'.1 ha'.2 (get32 hl ha'.1 ha'.2) ?_
    refine (one_ok _ _ _).mono fun r w' ⟨hr, hw⟩ => ?_
    subst hr; have hw := hw.symm; subst hw
    exact ⟨rfl, do_put ho1 hd'.1 hd'.2 (D1 x1) ha ha2⟩
  | choose d c a e =>
    dsimp only [GNode.val]; (repeat (first | (with_reducible refine th (by first | exact ta_108 | exact ta_110 | exact ta_112 | exact ta_114 | exact ta_116 | exact ta_50 | exact ta_54 | exact ta_61 | exact ta_68 | exact ta_91 | exact ta_93 | exact ta_95 | exact ta_97 | exact ta_99) ?_) | ((with_reducible refine tm (by first | exact ta_108 | exact ta_110 | exact ta_112 | exact ta_114 | exact ta_116 | exact ta_50 | exact ta_54 | exact ta_61 | exact ta_68 | exact ta_91 | exact ta_93 | exact ta_95 | exact ta_97 | exact ta_99) (by decide) ?_); intro _ _ _)))
    refine asB (by first | exact sa_108 | exact sa_110 | exact sa_112 | exact sa_114 | exact sa_116 | exact sa_120 | exact sa_26 | exact sa_28 | exact sa_37 | exact sa_44 | exact sa_50 | exact sa_54 | exact sa_61 | exact sa_68 | exact sa_70 | exact sa_76 | exact sa_91 | exact sa_93 | exact sa_95 | exact sa_97 | exact sa_99) rfl rfl fun b w1 hb x1 => ?_
    have hd' : 0 ≤ d ∧ d < R := by rcases hd with h | ⟨_, h⟩; exact h; cases h
    have ha' := hu a (by simp [GNode.us])
    have hc' := hu c (by simp [GNode.us])
    have he' := hu e (by simp [GNode.us])
    obtain ⟨gb, cap, rfl⟩ := shape (by omega)
    have ho1 := (D1 x1).own ho
    have hb1 := hb.ext (Ext.refl w1).drew
    refine drawD.mk' (fun w' => w' = w1.drew) rfl ?_
    refine yfB (fun w' hw => hw ▸ hb1) (by first | exact fa_108_0 | exact fa_108_1 | exact fa_110_0 | exact fa_110_1 | exact fa_112_0 | exact fa_112_1 | exact fa_112_2 | exact fa_112_3 | exact fa_112_4 | exact fa_114_0 | exact fa_114_1 | exact fa_114_2 | exact fa_116_0 | exact fa_116_1 | exact fa_116_2 | exact fa_26_0 | exact fa_26_1 | exact fa_26_2 | exact fa_37_0 | exact fa_37_1 | exact fa_44_0 | exact fa_44_1 | exact fa_44_2 | exact fa_54_0 | exact fa_61_0 | exact fa_61_1 | exact fa_68_0 | exact fa_68_1 | exact fa_68_2 | exact fa_68_3 | exact fa_70_0 | exact fa_70_1 | exact fa_70_2 | exact fa_76_0 | exact fa_76_1 | exact fa_76_2 | exact fa_76_3 | exact fa_76_6 | exact fa_76_7 | exact fa_82_0 | exact fa_82_1 | exact fa_82_2 | exact fa_82_3 | exact fa_82_4 | exact fa_82_5 | exact fa_82_6 | exact fa_82_7 | exact fa_82_8 | exact fa_91_0 | exact fa_91_1 | exact fa_93_0 | exact fa_93_1 | exact fa_93_2 | exact fa_95_0 | exact fa_95_1 | exact fa_95_2 | exact fa_95_3 | exact fa_97_0 | exact fa_99_0 | exact fa_99_1) (by first | exact l1_21 | exact l1_24 | exact l1_28 | exact l1_3 | exact l1_35 | exact l1_4 | exact l1_42 | exact l1_52 | exact l1_58) rfl ?_
    refine yfB (fun w' hw => hw ▸ hb1) (by first | exact fa_108_0 | exact fa_108_1 | exact fa_110_0 | exact fa_110_1 | exact fa_112_0 | exact fa_112_1 | exact fa_112_2 | exact fa_112_3 | exact fa_112_4 | exact fa_114_0 | exact fa_114_1 | exact fa_114_2 | exact fa_116_0 | exact fa_116_1 | exact fa_116_2 | exact fa_26_0 | exact fa_26_1 | exact fa_26_2 | exact fa_37_0 | exact fa_37_1 | exact fa_44_0 | exact fa_44_1 | exact fa_44_2 | exact fa_54_0 | exact fa_61_0 | exact fa_61_1 | exact fa_68_0 | exact fa_68_1 | exact fa_68_2 | exact fa_68_3 | exact fa_70_0 | exact fa_70_1 | exact fa_70_2 | exact fa_76_0 | exact fa_76_1 | exact fa_76_2 | exact fa_76_3 | exact fa_76_6 | exact fa_76_7 | exact fa_82_0 | exact fa_82_1 | exact fa_82_2 | exact fa_82_3 | exact fa_82_4 | exact fa_82_5 | exact fa_82_6 | exact fa_82_7 | exact fa_82_8 | exact fa_91_0 | exact fa_91_1 | exact fa_93_0 | exact fa_93_1 | exact fa_93_2 | exact fa_95_0 | exact fa_95_1 | exact fa_95_2 | exact fa_95_3 | exact fa_97_0 | exact fa_99_0 | exact fa_99_1) (by first | exact l1_21 | exact l1_24 | exact l1_28 | exact l1_3 | exact l1_35 | exact l1_4 | exact l1_42 | exact l1_52 | exact l1_58) rfl ?_
    refine ySl xa_23 l1_21 (SliceIs.of_own ho1) (fun w' hw => hw ▸ Ext.refl _) hc'.1 hc'.2 (get32 hl hc'.1 hc'.2) ?_
    refine yfB (fun w' hw => hw ▸ hb1) (by first | exact fa_108_0 | exact fa_108_1 | exact fa_110_0 | exact fa_110_1 | exact fa_112_0 | exact fa_112_1 | exact fa_112_2 | exact fa_112_3 | exact fa_112_4 | exact fa_114_0 | exact fa_114_1 | exact fa_114_2 | exact fa_116_0 | exact fa_116_1 | exact fa_116_2 | exact fa_26_0 | exact fa_26_1 | exact fa_26_2 | exact fa_37_0 | exact fa_37_1 | exact fa_44_0 | exact fa_44_1 | exact fa_44_2 | exact fa_54_0 | exact fa_61_0 | exact fa_61_1 | exact fa_68_0 | exact fa_68_1 | exact fa_68_2 | exact fa_68_3 | exact fa_70_0 | exact fa_70_1 | exact fa_70_2 | exact fa_76_0 | exact fa_76_1 | exact fa_76_2 | exact fa_76_3 | exact fa_76_6 | exact fa_76_7 | exact fa_82_0 | exact fa_82_1 | exact fa_82_2 | exact fa_82_3 | exact fa_82_4 | exact fa_82_5 | exact fa_82_6 | exact fa_82_7 | exact fa_82_8 | exact fa_91_0 | exact fa_91_1 | exact fa_93_0 | exact fa_93_1 | exact fa_93_2 | exact fa_95_0 | exact fa_95_1 | exact fa_95_2 | exact fa_95_3 | exact fa_97_0 | exact fa_99_0 | exact fa_99_1) (by first | exact l1_21 | exact l1_24 | exact l1_28 | exact l1_3 | exact l1_35 | exact l1_4 | exact l1_42 | exact l1_52 | exact l1_58) rfl ?_
    refine ySl xa_23 l1_21 (SliceIs.of_own ho1) (fun w' hw => hw ▸ Ext.refl _) ha'.1 ha'.2 (get32 hl ha'.1 ha'.2) ?_
    refine yfB (fun w' hw => hw ▸ hb1) (by first | exact fa_108_0 | exact fa_108_1 | exact fa_110_0 | exact fa_110_1 | exact fa_112_0 | exact fa_112_1 | exact fa_112_2 | exact fa_112_3 | exact fa_112_4 | exact fa_114_0 | exact fa_114_1 | exact fa_114_2 | exact fa_116_0 | exact fa_116_1 | exact fa_116_2 | exact fa_26_0 | exact fa_26_1 | exact fa_26_2 | exact fa_37_0 | exact fa_37_1 | exact fa_44_0 | exact fa_44_1 | exact fa_44_2 | exact fa_54_0 | exact fa_61_0 | exact fa_61_1 | exact fa_68_0 | exact fa_68_1 | exact fa_68_2 | exact fa_68_3 | exact fa_70_0 | exact fa_70_1 | exact fa_70_2 | exact fa_76_0 | exact fa_76_1 | exact fa_76_2 | exact fa_76_3 | exact fa_76_6 | exact fa_76_7 | exact fa_82_0 | exact fa_82_1 | exact fa_82_2 | exact fa_82_3 | exact fa_82_4 | exact fa_82_5 | exact fa_82_6 | exact fa_82_7 | exact fa_82_8 | exact fa_91_0 | exact fa_91_1 | exact fa_93_0 | exact fa_93_1 | exact fa_93_2 | exact fa_95_0 | exact fa_95_1 | exact fa_95_2 | exact fa_95_3 | exact fa_97_0 | exact fa_99_0 | exact fa_99_1) (by first | exact l1_21 | exact l1_24 | exact l1_28 | exact l1_3 | exact l1_35 | exact l1_4 | exact l1_42 | exact l1_52 | exact l1_58) rfl ?_
    refine ySl xa_23 l1_21 (SliceIs.of_own ho1) (fun w' hw => hw ▸ Ext.refl _) he'.1 he'.2 (get32 hl he'.1 he'.2) ?_
    refine (pickW_ok _ _ _ _).mono fun r w' ⟨hr, hw⟩ => ?_
    subst hr; have hw := hw.symm; subst hw
    exact ⟨rfl, do_put ho1 hd'.1 hd'.2 (D1 x1) ha ha2⟩
  | goto t =>
    dsimp only [GNode.val]; (repeat (first | (with_reducible refine th (by first | exact ta_108 | exact ta_110 | exact ta_112 | exact ta_114 | exact ta_116 | exact ta_50 | exact ta_54 | exact ta_61 | exact ta_68 | exact ta_91 | exact ta_93 | exact ta_95 | exact ta_97 | exact ta_99) ?_) | ((with_reducible refine tm (by first | exact ta_108 | exact ta_110 | exact ta_112 | exact ta_114 | exact ta_116 | exact ta_50 | exact ta_54 | exact ta_61 | exact ta_68 | exact ta_91 | exact ta_93 | exact ta_95 | exact ta_97 | exact ta_99) (by decide) ?_); intro _ _ _)))
    refine asB (by first | exact sa_108 | exact sa_110 | exact sa_112 | exact sa_114 | exact sa_116 | exact sa_120 | exact sa_26 | exact sa_28 | exact sa_37 | exact sa_44 | exact sa_50 | exact sa_54 | exact sa_61 | exact sa_68 | exact sa_70 | exact sa_76 | exact sa_91 | exact sa_93 | exact sa_95 | exact sa_97 | exact sa_99) rfl rfl fun b w1 hb x1 => ?_; refine ldB hb (by first | exact fa_108_0 | exact fa_108_1 | exact fa_110_0 | exact fa_110_1 | exact fa_112_0 | exact fa_112_1 | exact fa_112_2 | exact fa_112_3 | exact fa_112_4 | exact fa_114_0 | exact fa_114_1 | exact fa_114_2 | exact fa_116_0 | exact fa_116_1 | exact fa_116_2 | exact fa_26_0 | exact fa_26_1 | exact fa_26_2 | exact fa_37_0 | exact fa_37_1 | exact fa_44_0 | exact fa_44_1 | exact fa_44_2 | exact fa_54_0 | exact fa_61_0 | exact fa_61_1 | exact fa_68_0 | exact fa_68_1 | exact fa_68_2 | exact fa_68_3 | exact fa_70_0 | exact fa_70_1 | exact fa_70_2 | exact fa_76_0 | exact fa_76_1 | exact fa_76_2 | exact fa_76_3 | exact fa_76_6 | exact fa_76_7 | exact fa_82_0 | exact fa_82_1 | exact fa_82_2 | exact fa_82_3 | exact fa_82_4 | exact fa_82_5 | exact fa_82_6 | exact fa_82_7 | exact fa_82_8 | exact fa_91_0 | exact fa_91_1 | exact fa_93_0 | exact fa_93_1 | exact fa_93_2 | exact fa_95_0 | exact fa_95_1 | exact fa_95_2 | exact fa_95_3 | exact fa_97_0 | exact fa_99_0 | exact fa_99_1) (by first | exact l1_21 | exact l1_24 | exact l1_28 | exact l1_3 | exact l1_35 | exact l1_4 | exact l1_42 | exact l1_52 | exact l1_58) rfl ?_
    exact ⟨rfl, x1.own ho, Fr.of_ext x1⟩
  | branch c t =>
    dsimp only [GNode.val]; (repeat (first | (with_reducible refine th (by first | exact ta_108 | exact ta_110 | exact ta_112 | exact ta_114 | exact ta_116 | exact ta_50 | exact ta_54 | exact ta_61 | exact ta_68 | exact ta_91 | exact ta_93 | exact ta_95 | exact ta_97 | exact ta_99) ?_) | ((with_reducible refine tm (by first | exact ta_108 | exact ta_110 | exact ta_112 | exact ta_114 | exact ta_116 | exact ta_50 | exact ta_54 | exact ta_61 | exact ta_68 | exact ta_91 | exact ta_93 | exact ta_95 | exact ta_97 | exact ta_99) (by decide) ?_); intro _ _ _)))
    refine asB (by first | exact sa_108 | exact sa_110 | exact sa_112 | exact sa_114 | exact sa_116 | exact sa_120 | exact sa_26 | exact sa_28 | exact sa_37 | exact sa_44 | exact sa_50 | exact sa_54 | exact sa_61 | exact sa_68 | exact sa_70 | exact sa_76 | exact sa_91 | exact sa_93 | exact sa_95 | exact sa_97 | exact sa_99) rfl rfl fun b w1 hb x1 => ?_; refine ldB hb (by first | exact fa_108_0 | exact fa_108_1 | exact fa_110_0 | exact fa_110_1 | exact fa_112_0 | exact fa_112_1 | exact fa_112_2 | exact fa_112_3 | exact fa_112_4 | exact fa_114_0 | exact fa_114_1 | exact fa_114_2 | exact fa_116_0 | exact fa_116_1 | exact fa_116_2 | exact fa_26_0 | exact fa_26_1 | exact fa_26_2 | exact fa_37_0 | exact fa_37_1 | exact fa_44_0 | exact fa_44_1 | exact fa_44_2 | exact fa_54_0 | exact fa_61_0 | exact fa_61_1 | exact fa_68_0 | exact fa_68_1 | exact fa_68_2 | exact fa_68_3 | exact fa_70_0 | exact fa_70_1 | exact fa_70_2 | exact fa_76_0 | exact fa_76_1 | exact fa_76_2 | exact fa_76_3 | exact fa_76_6 | exact fa_76_7 | exact fa_82_0 | exact fa_82_1 | exact fa_82_2 | exact fa_82_3 | exact fa_82_4 | exact fa_82_5 | exact fa_82_6 | exact fa_82_7 | exact fa_82_8 | exact fa_91_0 | exact fa_91_1 | exact fa_93_0 | exact fa_93_1 | exact fa_93_2 | exact fa_95_0 | exact fa_95_1 | exact fa_95_2 | exact fa_95_3 | exact fa_97_0 | exact fa_99_0 | exact fa_99_1) (by first | exact l1_21 | exact l1_24 | exact l1_28 | exact l1_3 | exact l1_35 | exact l1_4 | exact l1_42 | exact l1_52 | exact l1_58) rfl ?_
    have hc' := hu c (by simp [GNode.us])
    refine ldO' xa_23 l1_21 (x1.own ho) hc'.1 hc'.2 (get32 hl hc'.1 hc'.2) ?_
    refine V_neqI.2 (ifD_dec (fun h => ?_) fun h => ?_)
    · refine ldB hb (by first | exact fa_108_0 | exact fa_108_1 | exact fa_110_0 | exact fa_110_1 | exact fa_112_0 | exact fa_112_1 | exact fa_112_2 | exact fa_112_3 | exact fa_112_4 | exact fa_114_0 | exact fa_114_1 | exact fa_114_2 | exact fa_116_0 | exact fa_116_1 | exact fa_116_2 | exact fa_26_0 | exact fa_26_1 | exact fa_26_2 | exact fa_37_0 | exact fa_37_1 | exact fa_44_0 | exact fa_44_1 | exact fa_44_2 | exact fa_54_0 | exact fa_61_0 | exact fa_61_1 | exact fa_68_0 | exact fa_68_1 | exact fa_68_2 | exact fa_68_3 | exact fa_70_0 | exact fa_70_1 | exact fa_70_2 | exact fa_76_0 | exact fa_76_1 | exact fa_76_2 | exact fa_76_3 | exact fa_76_6 | exact fa_76_7 | exact fa_82_0 | exact fa_82_1 | exact fa_82_2 | exact fa_82_3 | exact fa_82_4 | exact fa_82_5 | exact fa_82_6 | exact fa_82_7 | exact fa_82_8 | exact fa_91_0 | exact fa_91_1 | exact fa_93_0 | exact fa_93_1 | exact fa_93_2 | exact fa_95_0 | exact fa_95_1 | exact fa_95_2 | exact fa_95_3 | exact fa_97_0 | exact fa_99_0 | exact fa_99_1) (by first | exact l1_21 | exact l1_24 | exact l1_28 | exact l1_3 | exact l1_35 | exact l1_4 | exact l1_42 | exact l1_52 | exact l1_58) rfl ?_
      refine ⟨?_, x1.own ho, Fr.of_ext x1⟩
      simp only [doR]
      rw [if_pos h]
    · refine (next w1 x1).mono fun r w' ⟨h1, h2, h3⟩ => ⟨?_, h2, h3⟩
      simp only [doR]
      rw [if_neg h]
      exact h1
  | tick | getField _ _ | putField _ _ | serve _ _ _ _ _ | call _ _ _ | callX _ _ _ | ret _ =>
    dsimp only [GNode.val]; (repeat (first | (with_reducible refine th (by first | exact ta_108 | exact ta_110 | exact ta_112 | exact ta_114 | exact ta_116 | exact ta_50 | exact ta_54 | exact ta_61 | exact ta_68 | exact ta_91 | exact ta_93 | exact ta_95 | exact ta_97 | exact ta_99) ?_) | ((with_reducible refine tm (by first | exact ta_108 | exact ta_110 | exact ta_112 | exact ta_114 | exact ta_116 | exact ta_50 | exact ta_54 | exact ta_61 | exact ta_68 | exact ta_91 | exact ta_93 | exact ta_95 | exact ta_97 | exact ta_99) (by decide) ?_); intro _ _ _)))
    exact next w (Ext.refl _)
end Go.Proofs.YtendijaeihljeaaDoor
namespace Go.Proofs.YtendijaeihljeaaDoor
open Go.Vc
def GNode.tickB : GNode → Bool
  | .tick => true
  | _ => false
/-- Where pure nodes lead, and how many Ticks. -/
noncomputable def evalR (p : GProg) : Nat → List Int → Nat → Int → Int × Int
  | 0, _, f, t => (f, t)
  | n + 1, l, f, t => if (p.at' f).pureB = true then evalR p n (doR (p.at' f) l f).1 (doR (p.at' f) l f).2.toNat (if (p.at' f).tickB then t + 1 else t) else (f, t)
theorem doR_len (g : GNode) (l : List Int) (a : Int) : (doR g l a).1.length = l.length := by cases g <;> simp [doR]
theorem doR_nx {g : GNode} {l : List Int} {a : Int} (hp : g.pureB = true) : (doR g l a).2 ∈ g.nx a := by
  cases g with
  | branch c t =>
    simp only [doR, GNode.nx]
    split <;> split <;> simp_all
  | goto t => simp [doR, GNode.nx]
  | getField _ _ | putField _ _ | serve _ _ _ _ _ | call _ _ _ | callX _ _ _ | ret _ => cases hp
  | _ => simp [doR, GNode.nx]
theorem set_same {l l' : List Int} {d z : Int} (hl : l.length = l'.length) {s : Nat} (hs : (s : Int) = d ∨ l[s]? = l'[s]?) : (l.set d.toNat z)[s]? = (l'.set d.toNat z)[s]? := by
  by_cases h : d.toNat = s
  · subst h
    by_cases hlt : d.toNat < l.length
    · rw [List.getElem?_set_self hlt, List.getElem?_set_self (by omega)]
    · rw [List.getElem?_eq_none (by simp; omega), List.getElem?_eq_none (by simp; omega)]
  · rw [List.getElem?_set_ne h, List.getElem?_set_ne h]
    rcases hs with hs | hs
    · omega
    · exact hs
theorem evalR_go {p : GProg} {n f : Nat} {l : List Int} {t : Int} (h : (p.at' f).pureB = true) : evalR p (n + 1) l f t = evalR p n (doR (p.at' f) l f).1 (doR (p.at' f) l f).2.toNat (if (p.at' f).tickB then t + 1 else t) := by rw [evalR, if_pos h]
theorem evalR_stop {p : GProg} {n f : Nat} {l : List Int} {t : Int} (h : ¬ (p.at' f).pureB = true) : evalR p (n + 1) l f t = ((f : Int), t) := by rw [evalR, if_neg h]
/-- Two lists of registers that hold the same where the node reads go the same way, and hold the same there and where both did. -/
theorem doR_same {g : GNode} {l l' : List Int} {a : Int} (hl : l.length = l'.length) (hu : ∀ r ∈ g.us, getR l r = getR l' r) (hp : g.pureB = true) :
    (doR g l a).2 = (doR g l' a).2 ∧ ∀ s : Nat, ((s : Int) = g.df ∨ l[s]? = l'[s]?) → (doR g l a).1[s]? = (doR g l' a).1[s]? := by
  cases g with
  | const d n =>
    refine ⟨rfl, fun s hs => ?_⟩
    simp only [doR]
    exact set_same hl hs
  | move d b =>
    have h1 := hu b (by simp [GNode.us])
    refine ⟨rfl, fun s hs => ?_⟩
    simp only [doR, h1]
    exact set_same hl hs
  | bin op d b c =>
    have h1 := hu b (by simp [GNode.us]); have h2 := hu c (by simp [GNode.us])
    refine ⟨rfl, fun s hs => ?_⟩
    simp only [doR, h1, h2]
    exact set_same hl hs
  | un op d b =>
    have h1 := hu b (by simp [GNode.us])
    refine ⟨rfl, fun s hs => ?_⟩
    simp only [doR, h1]
    exact set_same hl hs
  | choose d c b e =>
    have h1 := hu b (by simp [GNode.us]); have h2 := hu c (by simp [GNode.us]); have h3 := hu e (by simp [GNode.us])
    refine ⟨rfl, fun s hs => ?_⟩
    simp only [doR, h1, h2, h3]
    exact set_same hl hs
  | tick | goto _ =>
    refine ⟨rfl, fun s hs => ?_⟩
    rcases hs with hs | hs
    · simp [GNode.df] at hs
    · exact hs
  | branch c t =>
    have h1 := hu c (by simp [GNode.us])
    refine ⟨by simp only [doR, h1], fun s hs => ?_⟩
    rcases hs with hs | hs
    · simp [GNode.df] at hs
    · exact hs
  | getField _ _ | putField _ _ | serve _ _ _ _ _ | call _ _ _ | callX _ _ _ | ret _ => cases hp
theorem evalR_same {p : GProg} {R : Nat} (hv : OkProg p) (hR : p.regs = R) : ∀ (n : Nat) (l l' : List Int) (f : Nat) (t : Int), f < p.nodes.length → l.length = R → l'.length = R → (∀ r : Nat, r < R → AheadP p (Alive p) f r → l[r]? = l'[r]?) → evalR p n l f t = evalR p n l' f t
  | 0, _, _, _, _, _, _, _, _ => rfl
  | n + 1, l, l', f, t, hf, hl, hl', h => by
    obtain ⟨hat, hrt⟩ := hv.at hf
    unfold evalR
    by_cases hp : (p.at' f).pureB = true
    · rw [if_pos hp, if_pos hp]
      have hu : ∀ r ∈ (p.at' f).us, getR l r = getR l' r := fun r hr => by
        have hb := hrt.u r hr
        have := h r.toNat (by omega) (.inl (by rw [show ((r.toNat : Nat) : Int) = r by omega]; exact hr))
        simp only [getR, this]
      obtain ⟨e1, e2⟩ := doR_same (a := (f : Int)) (hl.trans hl'.symm) hu hp
      have hnx := doR_nx (l := l) (a := (f : Int)) hp
      have hb := hrt.t _ hnx
      rw [← e1]
      refine evalR_same hv hR n _ _ _ _ (by omega) (by rw [doR_len]; exact hl) (by rw [doR_len]; exact hl') fun r hr hal => e2 r ?_
      by_cases hd : (r : Int) = (p.at' f).df
      · exact .inl hd
      · refine .inr (h r hr (.inr ⟨hd, alive_iff.2 ⟨_, ?_, hal⟩⟩))
        rw [show (((doR (p.at' f) l f).2.toNat : Nat) : Int) = (doR (p.at' f) l f).2 by omega]
        exact hnx
    · rw [if_neg hp, if_neg hp]
theorem all_i32 (l : List Int) : (l.map i32).all oneC = true := by simp [oneC]
theorem clone_32 {v : Value} {l : List Int} {R : Nat} {w : World} (h : SliceIs w v 1 R (l.map i32)) (hl : R ≤ 4294967296) :
    callD Tryd.prog 22 #[v] w fun r w' => w'.ownsRow w.heap.size 21 1 r R (l.map i32) ∧ Ext w w' := by
  apply F22_wp
  unfold F22_den
  exact cloneD (R := fun r w' => w'.ownsRow w.heap.size 21 1 r R (l.map i32) ∧ Ext w w') xe_23 h (all_i32 l) (by omega) fun v' w' h1 h2 => ⟨h1, h2⟩
theorem tickK {g : GNode} {sv : Value} {w : World} {x : TypeId} {K : Value → World → Prop} (hK : ∀ w1, Ext w w1 → K (.bool g.tickB) w1) :
    V Tryd.prog (Instr.typeAssert (g.val sv) x 50 true) w fun t56 w31 => V Tryd.prog (Instr.extract t56 0) w31 fun t57 w32 => V Tryd.prog (Instr.extract t56 1) w32 fun t58 w33 => V Tryd.prog (Instr.alloc 50 true (.tuple #[])) w33 fun t15 w34 => U Tryd.prog (Instr.storeAt 50 t15 t57) w34 fun _ w35 => K t58 w35 := by
  cases g <;> (dsimp only [GNode.val]; refine V_ta_50.2 ?_; first | rw [if_pos rfl] | rw [if_neg (by decide)]) <;> exact V.ok r_ext0 (V.ok r_ext1 (asB (by first | exact sa_108 | exact sa_110 | exact sa_112 | exact sa_114 | exact sa_116 | exact sa_120 | exact sa_26 | exact sa_28 | exact sa_37 | exact sa_44 | exact sa_50 | exact sa_54 | exact sa_61 | exact sa_68 | exact sa_70 | exact sa_76 | exact sa_91 | exact sa_93 | exact sa_95 | exact sa_97 | exact sa_99) rfl rfl fun b w1 _ x1 => hK w1 x1))
set_option maxHeartbeats 4000000 in
theorem eval_ok {p : GProg} {R : Nat} {pv rv : Value} {l : List Int} {most : Nat} {w : World} (hp : ProgIs w pv p) (hv : OkProg p) (hR : p.regs = R) (hr : SliceIs w rv 1 R (l.map i32)) (hl : l.length = R) (hm : most ≤ 1000) :
    callD Tryd.prog 10 #[pv, rv, i64 0, i64 (most : Int)] w fun r w' => (∃ v, r = .tuple #[v, i64 (evalR p most l 0 0).1, i64 (evalR p most l 0 0).2]) ∧ Ext w w' := by
  have hp0 := hp
  obtain ⟨ns, rfl, hns, hargs⟩ := hp
  obtain ⟨vs, hs, hvs⟩ := hns
  have hl1 := hv.l1; have hl2 := hv.l2; have hr1 := hv.r1; have hr2 := hv.r2
  apply F10_wp
  unfold F10_den
  refine bx fun b w1 hb x1 => ?_
  refine ldA hb la_26 rfl ?_
  refine (check_ok (p := p) (hp0.ext x1) hv).mono fun r w2 ⟨hr', x2⟩ => ?_
  subst hr'
  have hb2 := hb.ext x2
  have X2 := x1.trans x2
  refine V_not.2 ?_
  simp only [gd_f, pickD_iff, reduceIte, Bool.false_eq_true, Bool.not_true]
  refine lnx (by first | exact xa_22 | exact xa_23 | exact xa_24 | exact xa_28 | exact xa_35 | exact xa_42 | exact xa_58) (hr.ext X2) ?_
  refine ldB hb2 (by first | exact fa_108_0 | exact fa_108_1 | exact fa_110_0 | exact fa_110_1 | exact fa_112_0 | exact fa_112_1 | exact fa_112_2 | exact fa_112_3 | exact fa_112_4 | exact fa_114_0 | exact fa_114_1 | exact fa_114_2 | exact fa_116_0 | exact fa_116_1 | exact fa_116_2 | exact fa_26_0 | exact fa_26_1 | exact fa_26_2 | exact fa_37_0 | exact fa_37_1 | exact fa_44_0 | exact fa_44_1 | exact fa_44_2 | exact fa_54_0 | exact fa_61_0 | exact fa_61_1 | exact fa_68_0 | exact fa_68_1 | exact fa_68_2 | exact fa_68_3 | exact fa_70_0 | exact fa_70_1 | exact fa_70_2 | exact fa_76_0 | exact fa_76_1 | exact fa_76_2 | exact fa_76_3 | exact fa_76_6 | exact fa_76_7 | exact fa_82_0 | exact fa_82_1 | exact fa_82_2 | exact fa_82_3 | exact fa_82_4 | exact fa_82_5 | exact fa_82_6 | exact fa_82_7 | exact fa_82_8 | exact fa_91_0 | exact fa_91_1 | exact fa_93_0 | exact fa_93_1 | exact fa_93_2 | exact fa_95_0 | exact fa_95_1 | exact fa_95_2 | exact fa_95_3 | exact fa_97_0 | exact fa_99_0 | exact fa_99_1) (by first | exact l1_21 | exact l1_24 | exact l1_28 | exact l1_3 | exact l1_35 | exact l1_4 | exact l1_42 | exact l1_52 | exact l1_58) rfl (V_neqI.2 ?_)
  rw [hR]
  simp only [ne_eq, not_true_eq_false, ifD_false, decide_false]
  refine (clone_32 (hr.ext X2) (by omega)).mono fun cv w3 ⟨hc, x3⟩ => ?_
  have X3 := X2.trans x3
  refine ⟨fun v1 v2 v3 w' => ∃ (f n : Nat) (l' : List Int) (t : Int), v1 = i64 f ∧ v2 = i64 t ∧ v3 = i64 n ∧ f < p.nodes.length ∧ n ≤ most ∧ l'.length = R ∧ w'.ownsRow w2.heap.size 21 1 cv R (l'.map i32) ∧ Ext w2 w' ∧ evalR p (most - n) l' f t = evalR p most l 0 0 ∧ 0 ≤ t ∧ t ≤ n,
    fun _ _ v _ => most - (RowKit.intOf v).toNat, ⟨0, 0, l, 0, rfl, rfl, rfl, by omega, Nat.zero_le _, hl, hc, x3, rfl, by omega, by omega⟩, ?_⟩
  rintro _ _ _ w4 ⟨f, n, l', t, rfl, rfl, rfl, hf, hn, hl', ho, x4, hev, ht0, ht1⟩ _
  obtain ⟨hat, hrt⟩ := hv.at hf
  obtain ⟨nv, hnv, hni⟩ := hvs f _ hat
  have X4 := X2.trans x4
  have hb4 := hb2.ext x4
  refine V_lss.2 ?_
  by_cases hnm : (n : Int) < (most : Int)
  · simp only [hnm, gd_t, pickD_iff, reduceIte, decide_true]
    refine ldB hb4 (by first | exact fa_108_0 | exact fa_108_1 | exact fa_110_0 | exact fa_110_1 | exact fa_112_0 | exact fa_112_1 | exact fa_112_2 | exact fa_112_3 | exact fa_112_4 | exact fa_114_0 | exact fa_114_1 | exact fa_114_2 | exact fa_116_0 | exact fa_116_1 | exact fa_116_2 | exact fa_26_0 | exact fa_26_1 | exact fa_26_2 | exact fa_37_0 | exact fa_37_1 | exact fa_44_0 | exact fa_44_1 | exact fa_44_2 | exact fa_54_0 | exact fa_61_0 | exact fa_61_1 | exact fa_68_0 | exact fa_68_1 | exact fa_68_2 | exact fa_68_3 | exact fa_70_0 | exact fa_70_1 | exact fa_70_2 | exact fa_76_0 | exact fa_76_1 | exact fa_76_2 | exact fa_76_3 | exact fa_76_6 | exact fa_76_7 | exact fa_82_0 | exact fa_82_1 | exact fa_82_2 | exact fa_82_3 | exact fa_82_4 | exact fa_82_5 | exact fa_82_6 | exact fa_82_7 | exact fa_82_8 | exact fa_91_0 | exact fa_91_1 | exact fa_93_0 | exact fa_93_1 | exact fa_93_2 | exact fa_95_0 | exact fa_95_1 | exact fa_95_2 | exact fa_95_3 | exact fa_97_0 | exact fa_99_0 | exact fa_99_1) (by first | exact l1_21 | exact l1_24 | exact l1_28 | exact l1_3 | exact l1_35 | exact l1_4 | exact l1_42 | exact l1_52 | exact l1_58) rfl (lnx (by first | exact xa_22 | exact xa_23 | exact xa_24 | exact xa_28 | exact xa_35 | exact xa_42 | exact xa_58) (hs.ext X4) ?_)
    refine in_ok.mono fun r w5 ⟨h1, h2⟩ => ?_
    subst h1; have h2 := h2.symm; subst h2
    have hin : (0 : Int) ≤ (f : Int) ∧ (f : Int) < (p.nodes.length : Int) := by omega
    simp only [hin, and_self, gd_t, pickD_iff, reduceIte, decide_true]
    refine ldB hb4 (by first | exact fa_108_0 | exact fa_108_1 | exact fa_110_0 | exact fa_110_1 | exact fa_112_0 | exact fa_112_1 | exact fa_112_2 | exact fa_112_3 | exact fa_112_4 | exact fa_114_0 | exact fa_114_1 | exact fa_114_2 | exact fa_116_0 | exact fa_116_1 | exact fa_116_2 | exact fa_26_0 | exact fa_26_1 | exact fa_26_2 | exact fa_37_0 | exact fa_37_1 | exact fa_44_0 | exact fa_44_1 | exact fa_44_2 | exact fa_54_0 | exact fa_61_0 | exact fa_61_1 | exact fa_68_0 | exact fa_68_1 | exact fa_68_2 | exact fa_68_3 | exact fa_70_0 | exact fa_70_1 | exact fa_70_2 | exact fa_76_0 | exact fa_76_1 | exact fa_76_2 | exact fa_76_3 | exact fa_76_6 | exact fa_76_7 | exact fa_82_0 | exact fa_82_1 | exact fa_82_2 | exact fa_82_3 | exact fa_82_4 | exact fa_82_5 | exact fa_82_6 | exact fa_82_7 | exact fa_82_8 | exact fa_91_0 | exact fa_91_1 | exact fa_93_0 | exact fa_93_1 | exact fa_93_2 | exact fa_95_0 | exact fa_95_1 | exact fa_95_2 | exact fa_95_3 | exact fa_97_0 | exact fa_99_0 | exact fa_99_1) (by first | exact l1_21 | exact l1_24 | exact l1_28 | exact l1_3 | exact l1_35 | exact l1_4 | exact l1_42 | exact l1_52 | exact l1_58) rfl ?_
    refine ldx xa_24 l1_52 (hs.ext X4) (by omega) (by omega) (by simpa using hnv) ?_
    refine (pure_ok (hni.ext X4)).mono fun r w5 ⟨h1, h2⟩ => ?_
    subst h1; have h2 := h2.symm; subst h2
    obtain ⟨k, hk⟩ : ∃ k, most - n = k + 1 := ⟨most - n - 1, by omega⟩
    by_cases hpu : (p.at' f).pureB = true
    · simp only [hpu, ifD_true]
      refine ldB hb4 (by first | exact fa_108_0 | exact fa_108_1 | exact fa_110_0 | exact fa_110_1 | exact fa_112_0 | exact fa_112_1 | exact fa_112_2 | exact fa_112_3 | exact fa_112_4 | exact fa_114_0 | exact fa_114_1 | exact fa_114_2 | exact fa_116_0 | exact fa_116_1 | exact fa_116_2 | exact fa_26_0 | exact fa_26_1 | exact fa_26_2 | exact fa_37_0 | exact fa_37_1 | exact fa_44_0 | exact fa_44_1 | exact fa_44_2 | exact fa_54_0 | exact fa_61_0 | exact fa_61_1 | exact fa_68_0 | exact fa_68_1 | exact fa_68_2 | exact fa_68_3 | exact fa_70_0 | exact fa_70_1 | exact fa_70_2 | exact fa_76_0 | exact fa_76_1 | exact fa_76_2 | exact fa_76_3 | exact fa_76_6 | exact fa_76_7 | exact fa_82_0 | exact fa_82_1 | exact fa_82_2 | exact fa_82_3 | exact fa_82_4 | exact fa_82_5 | exact fa_82_6 | exact fa_82_7 | exact fa_82_8 | exact fa_91_0 | exact fa_91_1 | exact fa_93_0 | exact fa_93_1 | exact fa_93_2 | exact fa_95_0 | exact fa_95_1 | exact fa_95_2 | exact fa_95_3 | exact fa_97_0 | exact fa_99_0 | exact fa_99_1) (by first | exact l1_21 | exact l1_24 | exact l1_28 | exact l1_3 | exact l1_35 | exact l1_4 | exact l1_42 | exact l1_52 | exact l1_58) rfl ?_
      refine ldx xa_24 l1_52 (hs.ext X4) (by omega) (by omega) (by simpa using hnv) ?_
      have hni4 := hni.ext X4
      obtain ⟨sv, rfl, hsv⟩ := hni4
      refine tickK fun w5 x5 => ?_
      have hni5 : NodeIs w5 ((p.at' f).val sv) (p.at' f) := ⟨sv, rfl, hsv.ext x5⟩
      rw [hk, evalR_go hpu] at hev
      have hnx := hrt.t _ (doR_nx (l := l') (a := (f : Int)) hpu)
      have go : ∀ (t' : Int) (w6 : World), Ext w5 w6 → (if (p.at' f).tickB then t + 1 else t) = t' → callD Tryd.prog 25 #[(p.at' f).val sv, cv, i64 (f : Int)] w6 fun t65 w37 => V Tryd.prog (binOp .add 3 (i64 (n : Int)) (Value.int IntKind.i64 1)) w37 fun t48 w38 =>
          (∃ (f n : Nat) (l' : List Int) (t : Int), t65 = i64 f ∧ i64 t' = i64 t ∧ t48 = i64 n ∧ f < p.nodes.length ∧ n ≤ most ∧ l'.length = R ∧ w38.ownsRow w2.heap.size 21 1 cv R (l'.map i32) ∧ Ext w2 w38 ∧ evalR p (most - n) l' f t = evalR p most l 0 0 ∧ 0 ≤ t ∧ t ≤ n) ∧ most - (RowKit.intOf t48).toNat < most - (RowKit.intOf (i64 (n : Int))).toNat := by
        intro t' w6 x6 ht'
        refine (do_ok (hni5.ext x6) ((x5.trans x6).own ho) hl' (fun r hr => by have := hrt.u r hr; omega) (by rcases hrt.d with h | h; exact .inl (by omega); exact .inr h) (by omega) (by omega)).mono fun r w7 ⟨h1, h2, h3⟩ => ?_
        subst h1
        refine V_add.2 ?_
        rw [wrap_id (by omega) (by omega), i64_succ]
        refine ⟨⟨(doR (p.at' f) l' f).2.toNat, n + 1, (doR (p.at' f) l' f).1, t', by rw [show (((doR (p.at' f) l' f).2.toNat : Nat) : Int) = (doR (p.at' f) l' f).2 by omega], rfl, rfl, by omega, by omega, by rw [doR_len]; exact hl', h2, h3.ext (x4.trans (x5.trans x6)) fun i hi => (ho.lt i hi).1, ?_, ?_, ?_⟩, by simp only [intOf_i64]; omega⟩
        · rw [show most - (n + 1) = k by omega, ← ht']; exact hev
        · rw [← ht']; split <;> omega
        · rw [← ht']; split <;> omega
      by_cases htk : (p.at' f).tickB = true
      · rw [htk]
        refine ifD_true.2 (V_add.2 ?_)
        rw [wrap_id (by omega) (by omega)]
        exact go (t + 1) w5 (Ext.refl _) (by rw [htk]; rfl)
      · rw [show (p.at' f).tickB = false by simpa using htk]
        refine ifD_false.2 ?_
        exact go t w5 (Ext.refl _) (by rw [if_neg htk])
    · simp only [hpu, ifD_false]
      rw [hk, evalR_stop hpu] at hev
      exact ⟨⟨cv, by rw [← hev]⟩, X4⟩
  · simp only [hnm, gd_ft, pickD_iff, ifD_false, reduceIte, Bool.false_eq_true, decide_false]
    rw [show most - n = 0 by omega, show evalR p 0 l' f t = ((f : Int), t) from rfl] at hev
    exact ⟨⟨cv, by rw [← hev]⟩, X4⟩
end Go.Proofs.YtendijaeihljeaaDoor
namespace Go.Vc
/-- copy, into a whole block. -/
theorem cpB {P : Program} {w : World} {K : Value → World → Prop} {t e by_ ty : Nat} (h : XE P t e by_) {g R c : Nat} {xs cs : List Value} {te : TypeId} {a : Option Addr} {n c' : Nat} (hb : Blk w g xs te) (hx : xs.length = R) (hcl : cs.length = n) (hs : 0 < n → SliceIs w (.slice a n c') 1 n cs) (h1 : cs.all oneC = true)
    (hk : ∀ v w', Blk w' g (cs.take (min n R) ++ xs.drop (min n R)) te → Fr (fun i => i = g) w w' → K v w') :
    V P (Builtin.copy_ #[t, t] ty #[.slice (some ⟨g, 0, none⟩) R c, .slice a n c']) w K := by
  obtain ⟨z, ht, hi, hz⟩ := h
  obtain ⟨i, hi', hz', hn, hby⟩ := info_parts hi
  have hsz : (P.info? e).map (·.size) = some 1 := by rw [hi']; simp [hn]
  by_cases h0 : min n R = 0
  · refine V.ok (run_copy_none (P := P) w t t ty e _ a R c n c' ht hsz h0) (hk _ _ ?_ (Fr.refl _ _))
    rw [h0]
    simpa using hb
  · have hlt : 0 < n := by omega
    rcases (hs hlt).2 with ⟨h2, _⟩ | ⟨b, off, cap, h2, _, _, hc⟩
    · cases h2; omega
    · cases h2
      have hr := run_copy_row (P := P) w t t ty e g 0 R c ⟨b, off, none⟩ n c' xs.toArray te (cs.take (min n R)) ht hsz hb (by show _ = min n R; rw [List.length_take]; omega) (fun j u hj => by
        rw [add_mk]
        rw [List.getElem?_take] at hj
        split at hj
        · exact hc j u hj
        · cases hj) (by simp; omega) (fun u hu => by rw [oneC_eq]; exact List.all_eq_true.1 h1 u (List.mem_of_mem_take hu))
      refine V.ok hr (hk _ _ ?_ ⟨rfl, rfl, rfl, by simp, fun i _ hi => setRow_other _ _ _ _ hi⟩)
      unfold Blk
      rw [setRow_heap w g _ _ te (0, 0) hb]
      have hm : min (min n R) cs.length = min n R := by omega
      simp [List.length_take, hm]
end Go.Vc
namespace Go.Proofs.YtendijaeihljeaaDoor
open Go.Vc
def Args32 (w : World) (sv : Value) (l : List Int) : Prop := (∃ a c, sv = .slice a l.length c) ∧ (0 < l.length → SliceIs w sv 1 l.length (l.map i32))
set_option maxHeartbeats 4000000 in
theorem dead_law {lv nv ov : Value} {n : Nat} {regs most : Int} {ns os : List Int} {w : World} (hl : RawsAre w lv n) (hb : BinsOk w) (hns : Args32 w nv ns) (hos : Args32 w ov os) (known : ∀ w, callD Tryd.prog 8 #[] w fun v w' => v = .bool true ∧ Ext w w') :
    callD Tryd.prog 3 #[lv, i64 regs, nv, ov, i64 most] w fun r w' => r = .bool true ∧ Ext w w' := by
  obtain ⟨⟨na1, nc1, rfl⟩, hns⟩ := hns
  obtain ⟨⟨oa1, oc1, rfl⟩, hos⟩ := hos
  apply F3_wp
  unfold F3_den
  refine (tame_ok hl hb).mono fun r w1 ⟨⟨p, nsv, vs, hr, hop, hok, hr1, hr2, hn41, hargs⟩, x1⟩ => ?_
  subst hr
  obtain ⟨R, hR⟩ : ∃ R : Nat, p.regs = R := ⟨p.regs.toNat, by omega⟩
  have hnl := hok.l1
  obtain ⟨na, nc, rfl⟩ := (SliceIs.of_own hop.1).shape
  have hprog : ProgIs w1 (.agg #[i64 p.params, i64 p.regs, .slice na p.nodes.length nc]) p := ⟨_, rfl, ⟨vs, SliceIs.of_own hop.1, fun i m hi => by
    obtain ⟨u, h1, h2⟩ := hop.2 i m hi
    exact ⟨u, h1, h2.is⟩⟩, fun m hm => by have := hargs m hm; omega⟩
  refine asK (by first | exact sa_108 | exact sa_110 | exact sa_112 | exact sa_114 | exact sa_116 | exact sa_120 | exact sa_26 | exact sa_28 | exact sa_37 | exact sa_44 | exact sa_50 | exact sa_54 | exact sa_61 | exact sa_68 | exact sa_70 | exact sa_76 | exact sa_91 | exact sa_93 | exact sa_95 | exact sa_97 | exact sa_99) rfl rfl fun w2 hpb x2 => ?_
  have X2 := x1.trans x2
  refine ldA hpb.boxed la_26 rfl ?_
  refine (Ahead_ok (hprog.ext x2) hok hR).mono fun av w3 ⟨⟨la, hla, hab, hal⟩, x3⟩ => ?_
  refine (known w3).mono fun r w4 ⟨hr, x4⟩ => ?_
  subst hr
  have x24 := x3.trans x4
  refine V_not.2 ?_
  simp only [gd_f, pickD_iff, reduceIte, Bool.false_eq_true, Bool.not_true]
  have hab4 : SliceIs w4 av 1 R (la.map Value.bool) := by have := hab.ext x4; unfold BoolsAre at this; rw [hla] at this; exact this
  refine lnx (by first | exact xa_22 | exact xa_23 | exact xa_24 | exact xa_28 | exact xa_35 | exact xa_42 | exact xa_58) hab4 ?_
  refine ldB (hpb.ext x24).boxed (by first | exact fa_108_0 | exact fa_108_1 | exact fa_110_0 | exact fa_110_1 | exact fa_112_0 | exact fa_112_1 | exact fa_112_2 | exact fa_112_3 | exact fa_112_4 | exact fa_114_0 | exact fa_114_1 | exact fa_114_2 | exact fa_116_0 | exact fa_116_1 | exact fa_116_2 | exact fa_26_0 | exact fa_26_1 | exact fa_26_2 | exact fa_37_0 | exact fa_37_1 | exact fa_44_0 | exact fa_44_1 | exact fa_44_2 | exact fa_54_0 | exact fa_61_0 | exact fa_61_1 | exact fa_68_0 | exact fa_68_1 | exact fa_68_2 | exact fa_68_3 | exact fa_70_0 | exact fa_70_1 | exact fa_70_2 | exact fa_76_0 | exact fa_76_1 | exact fa_76_2 | exact fa_76_3 | exact fa_76_6 | exact fa_76_7 | exact fa_82_0 | exact fa_82_1 | exact fa_82_2 | exact fa_82_3 | exact fa_82_4 | exact fa_82_5 | exact fa_82_6 | exact fa_82_7 | exact fa_82_8 | exact fa_91_0 | exact fa_91_1 | exact fa_93_0 | exact fa_93_1 | exact fa_93_2 | exact fa_95_0 | exact fa_95_1 | exact fa_95_2 | exact fa_95_3 | exact fa_97_0 | exact fa_99_0 | exact fa_99_1) (by first | exact l1_21 | exact l1_24 | exact l1_28 | exact l1_3 | exact l1_35 | exact l1_4 | exact l1_42 | exact l1_52 | exact l1_58) rfl (V_neqI.2 ?_)
  rw [hR]
  simp only [ne_eq, not_true_eq_false, ifD_false, decide_false]
  refine ldB (hpb.ext x24).boxed (by first | exact fa_108_0 | exact fa_108_1 | exact fa_110_0 | exact fa_110_1 | exact fa_112_0 | exact fa_112_1 | exact fa_112_2 | exact fa_112_3 | exact fa_112_4 | exact fa_114_0 | exact fa_114_1 | exact fa_114_2 | exact fa_116_0 | exact fa_116_1 | exact fa_116_2 | exact fa_26_0 | exact fa_26_1 | exact fa_26_2 | exact fa_37_0 | exact fa_37_1 | exact fa_44_0 | exact fa_44_1 | exact fa_44_2 | exact fa_54_0 | exact fa_61_0 | exact fa_61_1 | exact fa_68_0 | exact fa_68_1 | exact fa_68_2 | exact fa_68_3 | exact fa_70_0 | exact fa_70_1 | exact fa_70_2 | exact fa_76_0 | exact fa_76_1 | exact fa_76_2 | exact fa_76_3 | exact fa_76_6 | exact fa_76_7 | exact fa_82_0 | exact fa_82_1 | exact fa_82_2 | exact fa_82_3 | exact fa_82_4 | exact fa_82_5 | exact fa_82_6 | exact fa_82_7 | exact fa_82_8 | exact fa_91_0 | exact fa_91_1 | exact fa_93_0 | exact fa_93_1 | exact fa_93_2 | exact fa_95_0 | exact fa_95_1 | exact fa_95_2 | exact fa_95_3 | exact fa_97_0 | exact fa_99_0 | exact fa_99_1) (by first | exact l1_21 | exact l1_24 | exact l1_28 | exact l1_3 | exact l1_35 | exact l1_4 | exact l1_42 | exact l1_52 | exact l1_58) rfl ?_
  refine mkBv hR Tryd.underlying23 inf21 rfl (n := R) (by omega) (by omega) fun w5 hx5 x5 hsz5 => ?_
  have x25 := x24.trans x5
  refine cpB (cs := ns.map i32) xe_23 hx5 (by simp) (by simp) (fun h0 => (hns h0).ext (X2.trans x25)) (all_i32 _) fun v6 w6 hx6 f6 => ?_
  have x46 : Ext w4 w6 := f6.ext x5 fun i hi => by omega
  obtain ⟨xs, hxs, hxl⟩ : ∃ xs : List Int, (ns.map i32).take (min ns.length R) ++ (List.replicate R (i32 0)).drop (min ns.length R) = xs.map i32 ∧ xs.length = R := by
    refine ⟨ns.take (min ns.length R) ++ (List.replicate R 0).drop (min ns.length R), by simp, by simp; omega⟩
  have hx6' : Blk w6 w4.heap.size (xs.map i32) 21 := by rw [← hxs]; exact hx6
  have hxS6 : SliceIs w6 (.slice (some ⟨w4.heap.size, 0, none⟩) R R) 1 R (xs.map i32) := hx6'.slice (by simpa using hxl) (by unfold maxLen; omega)
  refine bsl (by first | exact xe_23 | exact xe_24 | exact xe_28 | exact xe_35 | exact xe_58) [] rfl rfl (by simp) rfl fun v7 w7 ho7 x7 => ?_
  refine apO (by first | exact xe_23 | exact xe_24 | exact xe_28 | exact xe_35 | exact xe_58) ho7 (hxS6.ext x7) (all_i32 _) (by omega) (by unfold maxLen; omega) x7.size fun yv w8 ho8 hg8 => ?_
  have x68 : Ext w6 w8 := x7.grown hg8 fun k hk => (ho7.lt k hk).1
  simp only [Nat.zero_add, List.nil_append] at ho8
  have x28 := (x24.trans x46).trans x68
  refine ⟨fun v w' => ∃ (i : Nat) (ys : List Int), v = i64 i ∧ i ≤ R ∧ ys.length = R ∧ Ext w6 w' ∧ w'.ownsRow w6.heap.size 21 1 yv R (ys.map i32) ∧ ∀ r, r < R → AheadP p (Alive p) 0 r → xs[r]? = ys[r]?,
    fun v _ => R - (RowKit.intOf v).toNat, ⟨0, xs, rfl, Nat.zero_le _, hxl, x68, ho8, fun r _ _ => rfl⟩, ?_⟩
  rintro _ w9 ⟨i, ys, rfl, hi, hyl, x9, ho9, hsame⟩ _
  have x29 := (x24.trans x46).trans x9
  refine ldB (hpb.ext x29).boxed (by first | exact fa_108_0 | exact fa_108_1 | exact fa_110_0 | exact fa_110_1 | exact fa_112_0 | exact fa_112_1 | exact fa_112_2 | exact fa_112_3 | exact fa_112_4 | exact fa_114_0 | exact fa_114_1 | exact fa_114_2 | exact fa_116_0 | exact fa_116_1 | exact fa_116_2 | exact fa_26_0 | exact fa_26_1 | exact fa_26_2 | exact fa_37_0 | exact fa_37_1 | exact fa_44_0 | exact fa_44_1 | exact fa_44_2 | exact fa_54_0 | exact fa_61_0 | exact fa_61_1 | exact fa_68_0 | exact fa_68_1 | exact fa_68_2 | exact fa_68_3 | exact fa_70_0 | exact fa_70_1 | exact fa_70_2 | exact fa_76_0 | exact fa_76_1 | exact fa_76_2 | exact fa_76_3 | exact fa_76_6 | exact fa_76_7 | exact fa_82_0 | exact fa_82_1 | exact fa_82_2 | exact fa_82_3 | exact fa_82_4 | exact fa_82_5 | exact fa_82_6 | exact fa_82_7 | exact fa_82_8 | exact fa_91_0 | exact fa_91_1 | exact fa_93_0 | exact fa_93_1 | exact fa_93_2 | exact fa_95_0 | exact fa_95_1 | exact fa_95_2 | exact fa_95_3 | exact fa_97_0 | exact fa_99_0 | exact fa_99_1) (by first | exact l1_21 | exact l1_24 | exact l1_28 | exact l1_3 | exact l1_35 | exact l1_4 | exact l1_42 | exact l1_52 | exact l1_58) rfl ?_
  rw [hR]
  refine V_lss.2 ?_
  have fin :
  callD Tryd.prog 9 #[i64 most, (Value.int IntKind.i64 150)] w9 fun t70 w38 =>
  V Tryd.prog (Instr.loadAt 26 (.pointer (some ⟨w1.heap.size, 0, none⟩))) w38 fun t72 w39 =>
  callD Tryd.prog 10 #[t72, (.slice (some ⟨w4.heap.size, 0, none⟩) R R), (Value.int IntKind.i64 0), t70] w39 fun t75 w40 =>
  V Tryd.prog (Instr.extract t75 0) w40 fun t76 w41 =>
  V Tryd.prog (Instr.extract t75 1) w41 fun t77 w42 =>
  V Tryd.prog (Instr.extract t75 2) w42 fun t78 w43 =>
  V Tryd.prog (Instr.loadAt 26 (.pointer (some ⟨w1.heap.size, 0, none⟩))) w43 fun t80 w44 =>
  callD Tryd.prog 10 #[t80, yv, (Value.int IntKind.i64 0), t70] w44 fun t83 w45 =>
  V Tryd.prog (Instr.extract t83 0) w45 fun t84 w46 =>
  V Tryd.prog (Instr.extract t83 1) w46 fun t85 w47 =>
  V Tryd.prog (Instr.extract t83 2) w47 fun t86 w48 =>
  V Tryd.prog (do eqGuard .eql 3 (Operand.tmp 87) (Operand.tmp 88) t77 t85; binOp .eql 3 t77 t85) w48 fun t89 w49 =>
  gd t89 true (fun K => K t78 w49) w49 fun t91 w50 =>
  gd t89 true (fun K => K t86 w50) w50 fun t92 w51 =>
  gd t89 true (fun K => V Tryd.prog (do eqGuard .eql 3 (Operand.tmp 91) (Operand.tmp 92) t91 t92; binOp .eql 3 t91 t92) w51 K) w51 fun t93 w52 =>
  pickD t89 t93 (Value.bool false) fun t94 =>
  t94 = .bool true ∧ Ext w w52 := by
    refine (pick_ok (by decide) (by decide)).mono fun r w10 ⟨⟨k, hr, hk0, hk1⟩, hw⟩ => ?_
    subst hr; have hw := hw.symm; subst hw
    obtain ⟨k, rfl⟩ : ∃ k' : Nat, k = k' := ⟨k.toNat, by omega⟩
    refine ldA (hpb.ext x29).boxed la_26 rfl ?_
    have hp9 := hprog.ext (x2.trans x29)
    refine (eval_ok hp9 hok hR (hxS6.ext x9) hxl (by omega)).mono fun r w10 ⟨⟨v1, hr⟩, x10⟩ => ?_
    subst hr
    refine V.ok r_ext30 (V.ok r_ext31 (V.ok r_ext32 ?_))
    refine ldA (hpb.ext (x29.trans x10)).boxed la_26 rfl ?_
    refine (eval_ok (hp9.ext x10) hok hR (SliceIs.of_own (x10.own ho9)) hyl (by omega)).mono fun r w11 ⟨⟨v2, hr⟩, x11⟩ => ?_
    subst hr
    refine V.ok r_ext30 (V.ok r_ext31 (V.ok r_ext32 ?_))
    rw [evalR_same hok hR k xs ys 0 0 (by omega) hxl hyl hsame]
    refine V_eqlI.2 ?_
    simp only [V_eqlI, gd_t, pickD_iff, reduceIte, decide_true]
    exact ⟨trivial, X2.trans (x29.trans (x10.trans x11))⟩
  by_cases hiR : (i : Int) < (R : Int)
  · simp only [hiR, gd_t, pickD_iff, reduceIte, decide_true]
    refine V_ln_23.2 (V_lss.2 ?_)
    by_cases hio : (i : Int) < (os.length : Int)
    · simp only [hio, ifD_true, decide_true]
      have hi' : i < R := by omega
      obtain ⟨a, haz⟩ := ex_get (l := la) (j := i) (by omega)
      refine ldx xa_28 l1_4 (hab4.ext (x46.trans x9)) (by omega) (by omega) (getB haz) ?_
      refine V_not.2 (ifD.mk (fun hna => ?_) fun hna => ?_)
      · obtain ⟨z, hz⟩ := ex_get (l := os) (j := i) (by omega)
        refine ldx xa_23 l1_21 ((hos (by omega)).ext (X2.trans x29)) (by omega) (by omega) (by simp [hz] : (os.map i32)[((i : Nat) : Int).toNat]? = some (i32 z)) ?_
        refine stO (by first | exact xa_22 | exact xa_23 | exact xa_24 | exact xa_28 | exact xa_35 | exact xa_42 | exact xa_58) inf21 ho9 (by omega) (by omega) rfl fun w10 ho10 hg10 => ?_
        refine V_add.2 ?_
        rw [wrap_id (by omega) (by omega), i64_succ]
        refine ⟨⟨i + 1, ys.set i z, rfl, by omega, by simp [hyl], x9.grown hg10 fun k hk => (ho9.lt k hk).1, by rw [List.map_set]; simpa using ho10, fun r hr halr => ?_⟩, by simp only [intOf_i64]; omega⟩
        by_cases hri : i = r
        · exfalso
          subst hri
          have := (hal i hr).2 halr
          rw [haz] at this
          cases this
          cases hna
        · rw [List.getElem?_set_ne hri]
          exact hsame r hr halr
      · refine V_add.2 ?_
        rw [wrap_id (by omega) (by omega), i64_succ]
        exact ⟨⟨i + 1, ys, rfl, by omega, hyl, x9, ho9, hsame⟩, by simp only [intOf_i64]; omega⟩
    · simp only [hio, ifD_false, decide_false]
      exact fin
  · simp only [hiR, gd_ft, pickD_iff, ifD_false, reduceIte, Bool.false_eq_true, decide_false]
    exact fin
end Go.Proofs.YtendijaeihljeaaDoor
