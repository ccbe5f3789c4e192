/- Package live: the contract of Behind, joined. -/
import Derived.Test.YtendijaeihljeaaDoorLive4
namespace Go.Vc
theorem mkBv {P : Program} {w : World} {K : Value → World → Prop} {t e by_ : Nat} {z : Value} {x : Int} {n : Nat} (hx : x = (n : Int)) (ht : P.underlying t = some (.slice e)) (hi : Inf P e z 1 by_) (hz : z.cells = #[z]) (hb : by_ * n ≤ 281474976710656) (h63 : n ≤ 9223372036854775807)
    (hk : ∀ w', Blk w' w.heap.size (List.replicate n z) e → Ext w w' → w'.heap.size = w.heap.size + 1 → K (.slice (some ⟨w.heap.size, 0, none⟩) n n) w') : V P (Instr.makeSlice t (.int .i64 x) (.int .i64 x)) w K := by
  subst hx
  exact mkB ht hi hz hb h63 hk
end Go.Vc
namespace Go.Proofs.YtendijaeihljeaaDoor
open Go.Vc

/-- The matrix of a [][]bool. -/
def MatIs (w : World) (v : Value) (N R : Nat) (m : Mx) : Prop := ∃ (g0 : Nat) (gs : List Nat), v = .slice (some ⟨g0, 0, none⟩) N N ∧ gs.length = N ∧ Blk w g0 (gs.map (sl R)) 28 ∧ ∀ (k g : Nat), gs[k]? = some g → Blk w g ((rowL m k R).map Value.bool) 4
theorem MatIs.ext {w w' : World} {v : Value} {N R : Nat} {m : Mx} (h : MatIs w v N R m) (hx : Ext w w') : MatIs w' v N R m := by
  obtain ⟨g0, gs, h1, h2, h3, h4⟩ := h
  exact ⟨g0, gs, h1, h2, h3.ext hx, fun k g hk => (h4 k g hk).ext hx⟩

theorem set_rows (R g : Nat) (gs : List Nat) (n : Nat) (h : gs.length < n) :
    ((gs.map (sl R)) ++ List.replicate (n - gs.length) (Value.slice none 0 0)).set gs.length (sl R g) = (gs ++ [g]).map (sl R) ++ List.replicate (n - (gs ++ [g]).length) (Value.slice none 0 0) := by
  obtain ⟨k, hk⟩ : ∃ k, n - gs.length = k + 1 := ⟨n - gs.length - 1, by omega⟩
  have hk2 : n - (gs ++ [g]).length = k := by simp; omega
  rw [hk, hk2, List.set_append_right _ _ (by simp)]
  simp [List.replicate_succ]

/-- A matrix all of whose blocks are new. -/
def MatIn (w0 w : World) (v : Value) (N R : Nat) (m : Mx) : Prop := ∃ (g0 : Nat) (gs : List Nat), v = .slice (some ⟨g0, 0, none⟩) N N ∧ gs.length = N ∧ Blk w g0 (gs.map (sl R)) 28 ∧ (∀ (k g : Nat), gs[k]? = some g → Blk w g ((rowL m k R).map Value.bool) 4) ∧ w0.heap.size ≤ g0 ∧ ∀ g ∈ gs, w0.heap.size ≤ g
theorem MatIn.is {w0 w : World} {v : Value} {N R : Nat} {m : Mx} (h : MatIn w0 w v N R m) : MatIs w v N R m := by
  obtain ⟨g0, gs, h1, h2, h3, h4, _⟩ := h
  exact ⟨g0, gs, h1, h2, h3, h4⟩
set_option maxHeartbeats 1600000 in
theorem behindO_ok {p : GProg} {R : Nat} {pv : Value} {w : World} (hp : ProgIs w pv p) (hv : OkProg p) (hR : p.regs = R) :
    callD Tryd.prog 21 #[pv] w fun r w' => (∃ m, MatIn w w' r p.nodes.length R m ∧ ∀ k r, k < p.nodes.length → r < R → (m k r = true ↔ Alive p k r)) ∧ Ext w w' := by
  have hp0 := hp
  obtain ⟨ns, rfl, hns, hargs⟩ := hp
  have hns0 := hns
  obtain ⟨vs, hs, hvs⟩ := hns
  have hl1 := hv.l1; have hl2 := hv.l2; have hr1 := hv.r1; have hr2 := hv.r2
  have hat := fun {k : Nat} (hk : k < p.nodes.length) => hv.at hk
  generalize hN : p.nodes.length = N at *
  apply F21_wp
  unfold F21_den
  refine bx fun b w1 hb x1 => ?_
  refine ldA hb la_26 rfl ?_
  refine (check_ok (p := p) (hp0.ext x1) hv).mono fun r w2 ⟨hr, x2⟩ => ?_
  subst hr
  refine V_not.2 (ifD_false.2 ?_)
  have hb2 := hb.ext x2
  have X2 := x1.trans x2
  refine ldB hb2 (by first | exact fa_108_0 | exact fa_108_1 | exact fa_110_0 | exact fa_110_1 | exact fa_112_0 | exact fa_112_1 | exact fa_112_2 | exact fa_112_3 | exact fa_112_4 | exact fa_114_0 | exact fa_114_1 | exact fa_114_2 | exact fa_116_0 | exact fa_116_1 | exact fa_116_2 | exact fa_26_0 | exact fa_26_1 | exact fa_26_2 | exact fa_37_0 | exact fa_37_1 | exact fa_44_0 | exact fa_44_1 | exact fa_44_2 | exact fa_54_0 | exact fa_61_0 | exact fa_61_1 | exact fa_68_0 | exact fa_68_1 | exact fa_68_2 | exact fa_68_3 | exact fa_70_0 | exact fa_70_1 | exact fa_70_2 | exact fa_76_0 | exact fa_76_1 | exact fa_76_2 | exact fa_76_3 | exact fa_76_6 | exact fa_76_7 | exact fa_82_0 | exact fa_82_1 | exact fa_82_2 | exact fa_82_3 | exact fa_82_4 | exact fa_82_5 | exact fa_82_6 | exact fa_82_7 | exact fa_82_8 | exact fa_91_0 | exact fa_91_1 | exact fa_93_0 | exact fa_93_1 | exact fa_93_2 | exact fa_95_0 | exact fa_95_1 | exact fa_95_2 | exact fa_95_3 | exact fa_97_0 | exact fa_99_0 | exact fa_99_1) (by first | exact l1_21 | exact l1_24 | exact l1_28 | exact l1_3 | exact l1_35 | exact l1_4 | exact l1_42 | exact l1_52 | exact l1_58) rfl (lnx (by first | exact xa_22 | exact xa_23 | exact xa_24 | exact xa_28 | exact xa_35 | exact xa_42 | exact xa_58) (hs.ext X2) ?_)
  refine mkB Tryd.underlying58 inf28 rfl (n := N) (by omega) (by omega) fun w3 ho x3 hsz3 => ?_
  refine V_ln_58.2 ?_
  have hbB : b < w2.heap.size := by
    have := hb2 0 (i64 p.params) rfl
    exact World.block_lt_of_cell? _ _ this
  have hlo : w.heap.size ≤ w2.heap.size := X2.size
  generalize w2.heap.size = g0 at *
  have X3 := X2.trans x3
  -- the rows are made
  refine ⟨fun v w' => ∃ gs : List Nat, v = i64 gs.length ∧ gs.length ≤ N ∧ Ext w w' ∧ Boxed w' b [i64 p.params, i64 p.regs, ns] ∧ (∀ g ∈ gs, g0 < g) ∧ gs.Nodup ∧ (∀ g ∈ gs, g < w'.heap.size) ∧
      Blk w' g0 (gs.map (sl R) ++ List.replicate (N - gs.length) (.slice none 0 0)) 28 ∧ ∀ g ∈ gs, Blk w' g (List.replicate R (.bool false)) 4,
    fun v _ => N - (RowKit.intOf v).toNat, ⟨[], rfl, Nat.zero_le _, X3, hb2.ext x3, by simp, List.nodup_nil, by simp, by simpa using ho, by simp⟩, ?_⟩
  rintro _ w4 ⟨gs, rfl, hle, x4, hb4, hgg, hnd, hlt4, ho4, hrows4⟩ _
  refine V_lss.2 (ifD_dec (fun hlt => ?_) fun hge => ?_)
  · refine ldB hb4 (by first | exact fa_108_0 | exact fa_108_1 | exact fa_110_0 | exact fa_110_1 | exact fa_112_0 | exact fa_112_1 | exact fa_112_2 | exact fa_112_3 | exact fa_112_4 | exact fa_114_0 | exact fa_114_1 | exact fa_114_2 | exact fa_116_0 | exact fa_116_1 | exact fa_116_2 | exact fa_26_0 | exact fa_26_1 | exact fa_26_2 | exact fa_37_0 | exact fa_37_1 | exact fa_44_0 | exact fa_44_1 | exact fa_44_2 | exact fa_54_0 | exact fa_61_0 | exact fa_61_1 | exact fa_68_0 | exact fa_68_1 | exact fa_68_2 | exact fa_68_3 | exact fa_70_0 | exact fa_70_1 | exact fa_70_2 | exact fa_76_0 | exact fa_76_1 | exact fa_76_2 | exact fa_76_3 | exact fa_76_6 | exact fa_76_7 | exact fa_82_0 | exact fa_82_1 | exact fa_82_2 | exact fa_82_3 | exact fa_82_4 | exact fa_82_5 | exact fa_82_6 | exact fa_82_7 | exact fa_82_8 | exact fa_91_0 | exact fa_91_1 | exact fa_93_0 | exact fa_93_1 | exact fa_93_2 | exact fa_95_0 | exact fa_95_1 | exact fa_95_2 | exact fa_95_3 | exact fa_97_0 | exact fa_99_0 | exact fa_99_1) (by first | exact l1_21 | exact l1_24 | exact l1_28 | exact l1_3 | exact l1_35 | exact l1_4 | exact l1_42 | exact l1_52 | exact l1_58) rfl ?_
    refine mkBv hR Tryd.underlying28 inf4 rfl (n := R) (by omega) (by omega) fun w5 hrow x5 hsz5 => ?_
    refine stB xa_58 inf28 (ho4.ext x5) (by simp; omega) (by omega) (by omega) rfl ?_
    refine V_add.2 ?_
    rw [wrap_id (by omega) (by omega), i64_succ]
    simp only [Int.toNat_natCast]
    have hset := (ho4.ext x5).set gs.length (sl R w4.heap.size)
    rw [set_rows R _ gs N (by omega)] at hset
    have hg0 := ho4.lt
    refine ⟨⟨gs ++ [w4.heap.size], by simp, by simp; omega, (x4.trans x5).setCell hlo _, Boxed.other (g := g0) (hb4.ext x5) (by omega), ?_, ?_, ?_, hset, ?_⟩, by simp only [intOf_i64]; omega⟩
    · intro g hg
      rcases List.mem_append.1 hg with h | h
      · exact hgg g h
      · have : g = w4.heap.size := by simpa using h
        omega
    · refine List.nodup_append.2 ⟨hnd, by simp, ?_⟩
      intro a ha c hc
      have : c = w4.heap.size := by simpa using hc
      have := hlt4 a ha
      omega
    · intro g hg
      simp only [World.size_setCell]
      rcases List.mem_append.1 hg with h | h
      · have := hlt4 g h; omega
      · have : g = w4.heap.size := by simpa using h
        omega
    · intro g hg
      rcases List.mem_append.1 hg with h | h
      · exact ((hrows4 g h).ext x5).other (by have := hgg g h; omega)
      · have he : g = w4.heap.size := by simpa using h
        subst he
        exact hrow.other (by omega)
  have hgl : gs.length = N := by omega
  rw [hgl, Nat.sub_self] at ho4
  simp only [List.replicate_zero, List.append_nil] at ho4
  have hst0 : St w w4 b [i64 p.params, i64 p.regs, ns] g0 gs R (fun _ _ => false) :=
    ⟨x4, hb4, hlo, hbB, hgg, hnd, ho4, fun k g hk => by rw [rowL_false]; exact hrows4 g (List.mem_of_getElem? hk)⟩
  clear hrows4 ho4 hlt4 hle hge hb4 x4
  have hslO : ∀ {w' m}, St w w' b [i64 p.params, i64 p.regs, ns] g0 gs R m → SliceIs w' (.slice (some ⟨g0, 0, none⟩) N N) 1 N (gs.map (sl R)) := fun h => h.out.slice (by simpa using hgl) (by unfold maxLen; omega)
  have hslR : ∀ {w' m k g}, St w w' b [i64 p.params, i64 p.regs, ns] g0 gs R m → gs[k]? = some g → SliceIs w' (sl R g) 1 R ((rowL m k R).map Value.bool) := fun h hk => (h.rows _ _ hk).slice (by simp [rowL_len]) (by unfold maxLen; omega)
  have hglt : ∀ {w' m}, St w w' b [i64 p.params, i64 p.regs, ns] g0 gs R m → ∀ g ∈ gs, g < w'.heap.size := fun h g hg => by
    obtain ⟨k, hk⟩ := List.getElem?_of_mem hg
    exact (h.rows k g hk).lt
  -- round after round
  refine ⟨fun v w' => ∃ (f : Bool) (m : Mx), v = .bool f ∧ St w w' b [i64 p.params, i64 p.regs, ns] g0 gs R m ∧ Snd p m ∧ (f = false → ∀ k < N, Done p R m k),
    fun v w' => 2 * cntM (readM gs w') R gs.length + (match v with | .bool true => 1 | _ => 0), ⟨true, _, rfl, hst0, (fun _ _ h => by cases h), (fun h => by cases h)⟩, ?_⟩
  rintro _ w5 ⟨f0, m0, rfl, hst, hsnd, hcl⟩ _
  refine ifD.mk (fun hf => ?_) fun hf => ?_
  rotate_left
  · refine ⟨⟨m0, ⟨g0, gs, rfl, hgl, hst.out, hst.rows, hst.lo, fun g hg => Nat.le_of_lt (Nat.lt_of_le_of_lt hst.lo (hst.gg g hg))⟩, fun k r hk hr => ⟨hsnd k r, fun h => ?_⟩⟩, hst.x⟩
    exact alive_of_done hN.symm (fun i n hn => hR ▸ hN ▸ hv.nodes i n hn) (hcl hf) h hk hr
  subst hf
  refine ldB hst.box (by first | exact fa_108_0 | exact fa_108_1 | exact fa_110_0 | exact fa_110_1 | exact fa_112_0 | exact fa_112_1 | exact fa_112_2 | exact fa_112_3 | exact fa_112_4 | exact fa_114_0 | exact fa_114_1 | exact fa_114_2 | exact fa_116_0 | exact fa_116_1 | exact fa_116_2 | exact fa_26_0 | exact fa_26_1 | exact fa_26_2 | exact fa_37_0 | exact fa_37_1 | exact fa_44_0 | exact fa_44_1 | exact fa_44_2 | exact fa_54_0 | exact fa_61_0 | exact fa_61_1 | exact fa_68_0 | exact fa_68_1 | exact fa_68_2 | exact fa_68_3 | exact fa_70_0 | exact fa_70_1 | exact fa_70_2 | exact fa_76_0 | exact fa_76_1 | exact fa_76_2 | exact fa_76_3 | exact fa_76_6 | exact fa_76_7 | exact fa_82_0 | exact fa_82_1 | exact fa_82_2 | exact fa_82_3 | exact fa_82_4 | exact fa_82_5 | exact fa_82_6 | exact fa_82_7 | exact fa_82_8 | exact fa_91_0 | exact fa_91_1 | exact fa_93_0 | exact fa_93_1 | exact fa_93_2 | exact fa_95_0 | exact fa_95_1 | exact fa_95_2 | exact fa_95_3 | exact fa_97_0 | exact fa_99_0 | exact fa_99_1) (by first | exact l1_21 | exact l1_24 | exact l1_28 | exact l1_3 | exact l1_35 | exact l1_4 | exact l1_42 | exact l1_52 | exact l1_58) rfl (lnx (by first | exact xa_22 | exact xa_23 | exact xa_24 | exact xa_28 | exact xa_35 | exact xa_42 | exact xa_58) (hs.ext hst.x) (V_sub.2 ?_))
  rw [wrap_id (by omega) (by omega)]
  refine ⟨fun v1 v2 w' => ∃ (f : Bool) (kk : Int) (m : Mx), v1 = .bool f ∧ v2 = i64 kk ∧ -1 ≤ kk ∧ kk < N ∧ St w w' b [i64 p.params, i64 p.regs, ns] g0 gs R m ∧ Swp p N R m0 m f ∧ (f = false → ∀ k : Nat, kk < k → k < N → Done p R m0 k),
    fun _ v2 _ => (RowKit.intOf v2 + 1).toNat, ⟨false, _, m0, rfl, rfl, by omega, by omega, hst, ⟨fun _ _ h => h, hsnd, fun _ => rfl, (fun h => by cases h)⟩, fun _ k h1 h2 => by omega⟩, ?_⟩
  rintro _ _ w6 ⟨f, kk, m, rfl, rfl, hk1, hk2, hst6, hsw6, hcl6⟩ _
  refine V_geq.2 (ifD_dec (fun hge => ?_) fun hlt => ?_)
  rotate_left
  · -- the sweep is over
    have hkk : kk = -1 := by have : ¬ 0 ≤ kk := hlt; omega
    refine ⟨⟨f, m, rfl, hst6, hsw6.snd, fun hf k hk => ?_⟩, ?_⟩
    · rw [hsw6.no hf]; exact hcl6 hf k (by omega) hk
    · show 2 * cntM (readM gs w6) R gs.length + _ < 2 * cntM (readM gs w5) R gs.length + 1
      rw [hst6.cnt, hst.cnt]
      cases f with
      | false =>
        have := cntM_le hsw6.le R gs.length
        show 2 * _ + 0 < _
        omega
      | true =>
        obtain ⟨k, r, h1, h2, h3, h4⟩ := hsw6.yes rfl
        have := cntM_lt hsw6.le h2 h3 h4 gs.length (by omega)
        show 2 * _ + 1 < _
        omega
  have hge' : 0 ≤ kk := hge
  obtain ⟨k, rfl⟩ := Int.eq_ofNat_of_zero_le hge'
  have hk : k < N := by omega
  obtain ⟨g, hg⟩ := ex_get (l := gs) (j := k) (by omega)
  obtain ⟨hpk, hrk⟩ := hat hk
  obtain ⟨u, hu, hnu⟩ := hvs k _ hpk
  refine ldB hst6.box (by first | exact fa_108_0 | exact fa_108_1 | exact fa_110_0 | exact fa_110_1 | exact fa_112_0 | exact fa_112_1 | exact fa_112_2 | exact fa_112_3 | exact fa_112_4 | exact fa_114_0 | exact fa_114_1 | exact fa_114_2 | exact fa_116_0 | exact fa_116_1 | exact fa_116_2 | exact fa_26_0 | exact fa_26_1 | exact fa_26_2 | exact fa_37_0 | exact fa_37_1 | exact fa_44_0 | exact fa_44_1 | exact fa_44_2 | exact fa_54_0 | exact fa_61_0 | exact fa_61_1 | exact fa_68_0 | exact fa_68_1 | exact fa_68_2 | exact fa_68_3 | exact fa_70_0 | exact fa_70_1 | exact fa_70_2 | exact fa_76_0 | exact fa_76_1 | exact fa_76_2 | exact fa_76_3 | exact fa_76_6 | exact fa_76_7 | exact fa_82_0 | exact fa_82_1 | exact fa_82_2 | exact fa_82_3 | exact fa_82_4 | exact fa_82_5 | exact fa_82_6 | exact fa_82_7 | exact fa_82_8 | exact fa_91_0 | exact fa_91_1 | exact fa_93_0 | exact fa_93_1 | exact fa_93_2 | exact fa_95_0 | exact fa_95_1 | exact fa_95_2 | exact fa_95_3 | exact fa_97_0 | exact fa_99_0 | exact fa_99_1) (by first | exact l1_21 | exact l1_24 | exact l1_28 | exact l1_3 | exact l1_35 | exact l1_4 | exact l1_42 | exact l1_52 | exact l1_58) rfl ?_
  refine ldx xa_24 l1_52 (hs.ext hst6.x) (by omega) (by omega) (by simpa using hu) ?_
  refine (next_ok (hnu.ext hst6.x) (by omega) (by omega)).mono fun tl w7 ⟨htl, x7⟩ => ?_
  refine lnx (by first | exact xa_22 | exact xa_23 | exact xa_24 | exact xa_28 | exact xa_35 | exact xa_42 | exact xa_58) (SliceIs.of_own htl) ?_
  have hst7 := hst6.ext x7
  have hlen := nx_len (p.at' k) k
  refine ⟨fun v1 v2 w' => ∃ (f' : Bool) (j : Nat) (m' : Mx), v1 = .bool f' ∧ v2 = i64 j ∧ j ≤ ((p.at' k).nx k).length ∧ St w w' b [i64 p.params, i64 p.regs, ns] g0 gs R m' ∧ Swp p N R m0 m' f' ∧ (f = true → f' = true) ∧
      (f' = false → ∀ (i : Nat) (to : Nat), i < j → ((p.at' k).nx k)[i]? = some (to : Int) → ∀ r < R, AheadP p (fun a b => m0 a b = true) to r → m0 k r = true) ∧ w'.ownsRow w6.heap.size 3 1 tl ((p.at' k).nx k).length (((p.at' k).nx k).map i64),
    fun _ v2 _ => ((p.at' k).nx k).length - (RowKit.intOf v2).toNat, ⟨f, 0, m, rfl, rfl, Nat.zero_le _, hst7, hsw6, id, fun _ i to hi => by omega, htl⟩, ?_⟩
  rintro _ _ w8 ⟨f', j, m', rfl, rfl, hj, hst8, hsw8, hff, hcl8, htl8⟩ _
  refine V_lss.2 (ifD_dec (fun hjlt => ?_) fun hjge => ?_)
  rotate_left
  · refine V_sub.2 ?_
    rw [wrap_id (by omega) (by omega)]
    refine ⟨⟨f', (k : Int) - 1, m', rfl, rfl, by omega, by omega, hst8, hsw8, fun hf k' hk' hkN => ?_⟩, by simp only [intOf_i64]; omega⟩
    by_cases he : k' = k
    · subst he
      intro to hto r hr ha
      obtain ⟨i, hi⟩ := List.getElem?_of_mem hto
      have hi' := (List.getElem?_eq_some_iff.1 hi).1
      exact hcl8 hf i to (by omega) hi r hr ha
    · have hf0 : f = false := by cases f with | false => rfl | true => rw [hff rfl] at hf; cases hf
      exact hcl6 hf0 k' (by omega) hkN
  obtain ⟨to, hto⟩ := ex_get (l := (p.at' k).nx k) (j := j) (by omega)
  have htor := hrk.t to (List.mem_of_getElem? hto)
  obtain ⟨to, rfl⟩ := Int.eq_ofNat_of_zero_le htor.1
  have htoN : to < N := by omega
  obtain ⟨hpt, hrt⟩ := hat htoN
  obtain ⟨ut, hut, hnut⟩ := hvs to _ hpt
  obtain ⟨gt, hgt⟩ := ex_get (l := gs) (j := to) (by omega)
  refine ldO' xa_35 l1_3 htl8 (by omega) (by omega) (getI hto) ?_
  refine drawD.mk' (fun w' => Ext w8 w') (Ext.refl _).drew ?_
  refine yfB (fun w' hw => hst8.box.ext hw) (by first | exact fa_108_0 | exact fa_108_1 | exact fa_110_0 | exact fa_110_1 | exact fa_112_0 | exact fa_112_1 | exact fa_112_2 | exact fa_112_3 | exact fa_112_4 | exact fa_114_0 | exact fa_114_1 | exact fa_114_2 | exact fa_116_0 | exact fa_116_1 | exact fa_116_2 | exact fa_26_0 | exact fa_26_1 | exact fa_26_2 | exact fa_37_0 | exact fa_37_1 | exact fa_44_0 | exact fa_44_1 | exact fa_44_2 | exact fa_54_0 | exact fa_61_0 | exact fa_61_1 | exact fa_68_0 | exact fa_68_1 | exact fa_68_2 | exact fa_68_3 | exact fa_70_0 | exact fa_70_1 | exact fa_70_2 | exact fa_76_0 | exact fa_76_1 | exact fa_76_2 | exact fa_76_3 | exact fa_76_6 | exact fa_76_7 | exact fa_82_0 | exact fa_82_1 | exact fa_82_2 | exact fa_82_3 | exact fa_82_4 | exact fa_82_5 | exact fa_82_6 | exact fa_82_7 | exact fa_82_8 | exact fa_91_0 | exact fa_91_1 | exact fa_93_0 | exact fa_93_1 | exact fa_93_2 | exact fa_95_0 | exact fa_95_1 | exact fa_95_2 | exact fa_95_3 | exact fa_97_0 | exact fa_99_0 | exact fa_99_1) (by first | exact l1_21 | exact l1_24 | exact l1_28 | exact l1_3 | exact l1_35 | exact l1_4 | exact l1_42 | exact l1_52 | exact l1_58) rfl ?_
  refine ySl xa_24 l1_52 (hs.ext hst8.x) (fun _ h => h) (by omega) (by omega) (by simpa using hut) ?_
  refine ySl xa_58 l1_28 (hslO hst8) (fun _ h => h) (by omega) (by omega) (by simp [hgt] : (gs.map (sl R))[((to : Nat) : Int).toNat]? = some (sl R gt)) ?_
  have hrl := rowL_len m' to R
  have hdf : (p.at' to).df < R := by rcases hrt.d with h | h <;> omega
  have hus : ∀ r ∈ (p.at' to).us, 0 ≤ r ∧ r < ((rowL m' to R).length : Int) := fun r hr => by have := hrt.u r hr; rw [hrl]; omega
  have hrow8 : BoolsAre w8.drew (sl R gt) (rowL m' to R) := by
    have := (hslR hst8 hgt).ext (Ext.refl _).drew
    unfold BoolsAre
    rw [hrl]; exact this
  refine (ahead_ok (hnut.ext (hst8.x.trans (Ext.refl _).drew)) hrow8 (hargs _ (List.mem_of_getElem? hpt)) (by omega) (by rw [hrl]; exact hdf) hus).mono fun av w9 ⟨hav, x9⟩ => ?_
  have x9' : Ext w8 w9 := Ext.trans (Ext.refl _).drew x9
  refine ⟨x9', ?_⟩
  rw [hrl] at hav
  refine yLen xa_28 (SliceIs.of_own hav) ?_
  have hst9 := hst8.ext x9'
  have hag : ∀ r, r < R → (aheadL (p.at' to) (rowL m' to R))[r]? = some (decide ((r : Int) ∈ (p.at' to).us) || (decide ((r : Int) ≠ (p.at' to).df) && m' to r)) := fun r hr => by
    rw [aheadL_get (by rw [hrl]; exact hr) (fun x hx => (hus x hx).1)]
    congr 3
    rw [List.getD_eq_getElem?_getD, rowL_get hr]; rfl
  have hagT : ∀ r, r < R → ((aheadL (p.at' to) (rowL m' to R))[r]? = some true ↔ AheadP p (fun a b => m' a b = true) to r) := fun r hr => by
    rw [hag r hr]
    simp [AheadP]
  refine sweep5 hgl hl2 (by omega) hk hg (A := aheadL (p.at' to) (rowL m' to R)) (by rw [aheadL_len, hrl]) (hglt hst8) (fun r hr => ?_) hst9 hsw8 hav ?_
  · have hrR : r < R := by have := (List.getElem?_eq_some_iff.1 hr).1; rw [aheadL_len, hrl] at this; exact this
    rw [hagT r hrR] at hr
    rcases hr with h | ⟨h1, h2⟩
    · exact .use (List.mem_of_getElem? hto) h
    · exact .pass (List.mem_of_getElem? hto) h1 (hsw8.snd _ _ h2)
  · intro f'' m'' w10 hst10 hsw10 hff10 hcl10 _ hkeep
    refine V_add.2 ?_
    rw [wrap_id (by omega) (by omega), i64_succ]
    refine ⟨⟨f'', j + 1, m'', rfl, rfl, by omega, hst10, hsw10, fun h => hff10 (hff h), fun hf i to' hi hto' r hr ha => ?_, hkeep _ _ _ _ _ _ (x9'.own htl8) (fun g hg => hglt hst6 g hg)⟩, by simp only [intOf_i64]; omega⟩
    by_cases hij : i = j
    · subst hij
      rw [hto] at hto'
      have : (to : Int) = to' := by simpa using hto'
      have : to = to' := by omega
      subst this
      have hf' : f' = false := by cases f' with | false => rfl | true => rw [hff10 rfl] at hf; cases hf
      refine hcl10 hf r ?_
      rw [hagT r hr, hsw8.no hf']
      exact ha
    · have hf' : f' = false := by cases f' with | false => rfl | true => rw [hff10 rfl] at hf; cases hf
      exact hcl8 hf' i to' (by omega) hto' r hr ha
theorem behind_ok {p : GProg} {R : Nat} {pv : Value} {w : World} (hp : ProgIs w pv p) (hv : OkProg p) (hR : p.regs = R) :
    callD Tryd.prog 21 #[pv] w fun r w' => (∃ m, MatIs w' r p.nodes.length R m ∧ ∀ k r, k < p.nodes.length → r < R → (m k r = true ↔ Alive p k r)) ∧ Ext w w' :=
  (behindO_ok hp hv hR).mono fun _ _ ⟨⟨m, h1, h2⟩, hx⟩ => ⟨⟨m, h1.is, h2⟩, hx⟩
end Go.Proofs.YtendijaeihljeaaDoor
