/- InterpSums: the trace; the stack. -/
import Derived.Test.YtbhnelajekgliaaIs1
namespace Go.Proofs.Ytbhnelajekgliaa
open Go.Vc Go.Ab
variable {p : Mch} {o a : Nat → Int} {w w' : World} {fl : Nat} {pc fuel status z : Int} {H : Nat → Prop} {st : List Int} {tn : Nat}
abbrev Kp (H : Nat → Prop) (w w' : World) : Prop := Fr (fun i => ¬ H i) w w'
theorem Kp.of_ext (hx : Ext w w') : Kp H w w' := Fr.of_ext hx
theorem Kp.trans {w1 : World} (f : Kp H w w1) (g : Kp H w1 w') : Kp H w w' := Fr.trans f g fun _ _ h => h
/-- An event. -/
theorem addE_ok (h : MS p o a H w fl pc fuel status z st tn) (hl : tn ≤ 100000) {k x y q : Int} : callD Try.prog 29 #[p.pt, i64 k, i64 x, i64 y, i64 q] w fun _ w' => MS p o a H w' fl pc fuel status z st (tn + 1) ∧ Kp H w w' := by
  obtain ⟨sv, tv, tc, h0, hs, ht, h1, sf, tf, stf, hh⟩ := h.ex
  apply F29_wp
  unfold F29_den
  refine ⟨.inl ⟨_, rfl⟩, ?_⟩
  refine ldFS (by first | exact fa_115_0 | exact fa_115_1 | exact fa_115_2 | exact fa_115_3 | exact fa_115_4 | exact fa_115_5 | exact fa_27_0 | exact fa_27_1 | exact fa_27_2 | exact fa_48_0 | exact fa_48_1 | exact fa_48_2 | exact fa_48_3 | exact fa_52_0 | exact fa_52_1 | exact fa_52_2 | exact fa_52_3 | exact fa_52_4 | exact fa_60_0 | exact fa_60_1 | exact fa_60_2 | exact fa_60_3 | exact fa_60_4 | exact fa_64_0 | exact fa_64_1 | exact fa_64_2 | exact fa_64_3 | exact fa_64_4 | exact fa_71_0 | exact fa_71_3 | exact fa_71_4 | exact fa_74_0 | exact fa_74_1 | exact fa_78_0 | exact fa_78_1 | exact fa_78_2 | exact fa_78_3 | exact fa_84_0 | exact fa_89_0 | exact fa_89_1 | exact fa_89_2 | exact fa_89_3 | exact fa_89_4 | exact fa_89_5) (by first | exact l1_21 | exact l1_22 | exact l1_23 | exact l1_24 | exact l1_3 | exact l1_31 | exact l1_4 | exact l1_49 | exact l1_5 | exact l1_50 | exact l1_55 | exact l1_56 | exact l1_57 | exact l1_58 | exact l1_61 | exact l1_62 | exact l1_72 | exact l1_82 | exact l1_87 | exact l1_9) h0.t rfl (lnx xa_82 (SliceIs.of_own ht) ?_)
  refine V_geq.2 ?_
  simp only [show ¬ ((tn : Int) ≥ 200000) by omega, ifD_false, decide_false]
  refine ⟨.inl ⟨_, rfl⟩, ?_⟩
  refine ldFS (by first | exact fa_115_0 | exact fa_115_1 | exact fa_115_2 | exact fa_115_3 | exact fa_115_4 | exact fa_115_5 | exact fa_27_0 | exact fa_27_1 | exact fa_27_2 | exact fa_48_0 | exact fa_48_1 | exact fa_48_2 | exact fa_48_3 | exact fa_52_0 | exact fa_52_1 | exact fa_52_2 | exact fa_52_3 | exact fa_52_4 | exact fa_60_0 | exact fa_60_1 | exact fa_60_2 | exact fa_60_3 | exact fa_60_4 | exact fa_64_0 | exact fa_64_1 | exact fa_64_2 | exact fa_64_3 | exact fa_64_4 | exact fa_71_0 | exact fa_71_3 | exact fa_71_4 | exact fa_74_0 | exact fa_74_1 | exact fa_78_0 | exact fa_78_1 | exact fa_78_2 | exact fa_78_3 | exact fa_84_0 | exact fa_89_0 | exact fa_89_1 | exact fa_89_2 | exact fa_89_3 | exact fa_89_4 | exact fa_89_5) (by first | exact l1_21 | exact l1_22 | exact l1_23 | exact l1_24 | exact l1_3 | exact l1_31 | exact l1_4 | exact l1_49 | exact l1_5 | exact l1_50 | exact l1_55 | exact l1_56 | exact l1_57 | exact l1_58 | exact l1_61 | exact l1_62 | exact l1_72 | exact l1_82 | exact l1_87 | exact l1_9) h0.t rfl ?_
  refine bld bd_95 [(0, i64 k), (1, i64 x), (2, i64 y), (3, i64 q)] rfl rfl ?_
  refine V.ok (v := .slice (some ⟨w.heap.size, 0, none⟩) 1 1) (w' := w.alloc (.cells ([i64 k, i64 x, i64 y, i64 q] : List Value).toArray 95)) (by kernel_rfl) ?_
  have hb1 : Blk (w.alloc (.cells ([i64 k, i64 x, i64 y, i64 q] : List Value).toArray 95)) w.heap.size [i64 k, i64 x, i64 y, i64 q] 95 := by unfold Blk; rw [heap_alloc_new]
  have x1 : Ext w (w.alloc (.cells ([i64 k, i64 x, i64 y, i64 q] : List Value).toArray 95)) := (Ext.refl _).alloc _
  generalize w.alloc (.cells ([i64 k, i64 x, i64 y, i64 q] : List Value).toArray 95) = w1 at hb1 x1 ⊢
  have ho1 : w1.ownsRow 0 95 4 (.slice (some ⟨w.heap.size, 0, none⟩) 1 1) 1 [i64 k, i64 x, i64 y, i64 q] := own_blk hb1 rfl (Nat.zero_le _) (by unfold maxLen; omega)
  have h01 := h0.ext x1
  refine apZ Try.underlying82 inf95 rfl (by omega) (x1.own ht) ho1 (by omega) (by rfl) (by omega) (by unfold maxLen; omega) h01.B fun g' cap' w2 ho2 hg2 hlies => ?_
  have f2 : Fr (fun i => tv.ownBlock = some i) w1 w2 := Fr.of_grown hg2 fun k hk => hk
  have h02 := h01.fr f2 fun i hi => tf i hi
  refine ⟨.inl ⟨_, rfl⟩, ?_⟩
  refine fdA (by first | exact fa_115_0 | exact fa_115_1 | exact fa_115_2 | exact fa_115_3 | exact fa_115_4 | exact fa_115_5 | exact fa_27_0 | exact fa_27_1 | exact fa_27_2 | exact fa_48_0 | exact fa_48_1 | exact fa_48_2 | exact fa_48_3 | exact fa_52_0 | exact fa_52_1 | exact fa_52_2 | exact fa_52_3 | exact fa_52_4 | exact fa_60_0 | exact fa_60_1 | exact fa_60_2 | exact fa_60_3 | exact fa_60_4 | exact fa_64_0 | exact fa_64_1 | exact fa_64_2 | exact fa_64_3 | exact fa_64_4 | exact fa_71_0 | exact fa_71_3 | exact fa_71_4 | exact fa_74_0 | exact fa_74_1 | exact fa_78_0 | exact fa_78_1 | exact fa_78_2 | exact fa_78_3 | exact fa_84_0 | exact fa_89_0 | exact fa_89_1 | exact fa_89_2 | exact fa_89_3 | exact fa_89_4 | exact fa_89_5) ?_
  refine stSet inf82 h02.t Nat.one_pos rfl ?_
  obtain ⟨h03, f3⟩ := h02.setT (tv' := .slice (some ⟨g', 0, none⟩) (tn + 1) cap')
  have s1 := x1.size
  have gD : Dj p g' := by
    rcases hlies with hl | hl
    · exact tf _ hl
    · exact h01.lt (by omega)
  have ho3 := f3.own ho2 fun i hi hs => by
    have : g' = i := by simpa [Value.ownBlock] using hi
    exact gD.2.2.2.2.1 (this.trans hs)
  have hs3 := f3.own (f2.own (x1.own hs) fun i hi ht => stf i hi ht) fun i hi hs => (sf i hi).2.2.2.2.1 hs
  have gs : ∀ i, sv.ownBlock = some i → g' ≠ i := fun i hi he => by
    subst he
    rcases hlies with hl | hl
    · exact stf _ hi hl
    · have := (hs.lt _ hi).2; omega
  have gh : ∀ i, H i → g' ≠ i := fun i hi he => by
    subst he
    rcases hlies with hl | hl
    · exact (hh _ hi).2.2.2 hl
    · have := (hh _ hi).1; omega
  have F : Kp H w _ := ((Kp.of_ext x1).trans (f2.mono fun i hi hH => (hh i hH).2.2.2 hi)).trans (f3.mono fun i hi hH => (hh i hH).2.1.2.2.2.2.1 hi)
  refine ⟨⟨sv, _, _, h03, hs3, ho3, by rw [List.all_append, h1]; rfl, sf, fun i hi => ?_, fun i hi ht => ?_, fun i hi => ⟨Nat.lt_of_lt_of_le (hh i hi).1 F.size, (hh i hi).2.1, (hh i hi).2.2.1, fun he => ?_⟩⟩, F⟩
  · have : g' = i := by simpa [Value.ownBlock] using hi
    exact this ▸ gD
  · have : g' = i := by simpa [Value.ownBlock] using ht
    exact gs i hi this
  · have : g' = i := by simpa [Value.ownBlock] using he
    exact gh i hi this
/-- A number more on the stack. -/
theorem push_ok (h : MS p o a H w fl pc fuel status z st tn) (hl : st.length ≤ 1000) {n : Int} : callD Try.prog 41 #[p.pf, i32 n] w fun _ w' => MS p o a H w' fl pc fuel status z (st ++ [n]) tn ∧ Kp H w w' := by
  obtain ⟨sv, tv, tc, h0, hs, ht, h1, sf, tf, stf, hh⟩ := h.ex
  apply F41_wp
  unfold F41_den
  refine ⟨.inl ⟨_, rfl⟩, ?_⟩
  refine ldFS (by first | exact fa_115_0 | exact fa_115_1 | exact fa_115_2 | exact fa_115_3 | exact fa_115_4 | exact fa_115_5 | exact fa_27_0 | exact fa_27_1 | exact fa_27_2 | exact fa_48_0 | exact fa_48_1 | exact fa_48_2 | exact fa_48_3 | exact fa_52_0 | exact fa_52_1 | exact fa_52_2 | exact fa_52_3 | exact fa_52_4 | exact fa_60_0 | exact fa_60_1 | exact fa_60_2 | exact fa_60_3 | exact fa_60_4 | exact fa_64_0 | exact fa_64_1 | exact fa_64_2 | exact fa_64_3 | exact fa_64_4 | exact fa_71_0 | exact fa_71_3 | exact fa_71_4 | exact fa_74_0 | exact fa_74_1 | exact fa_78_0 | exact fa_78_1 | exact fa_78_2 | exact fa_78_3 | exact fa_84_0 | exact fa_89_0 | exact fa_89_1 | exact fa_89_2 | exact fa_89_3 | exact fa_89_4 | exact fa_89_5) (by first | exact l1_21 | exact l1_22 | exact l1_23 | exact l1_24 | exact l1_3 | exact l1_31 | exact l1_4 | exact l1_49 | exact l1_5 | exact l1_50 | exact l1_55 | exact l1_56 | exact l1_57 | exact l1_58 | exact l1_61 | exact l1_62 | exact l1_72 | exact l1_82 | exact l1_87 | exact l1_9) h0.f rfl ?_
  refine bsl xe_22 [i32 n] rfl rfl (by simp) rfl fun v1 w1 ho1 x1 => ?_
  have h01 := h0.ext x1
  refine apL xe_22 (x1.own hs) ho1 (by decide) (by rfl) (by omega) (by unfold maxLen; omega) h01.B fun g' cap' w2 ho2 hg2 hlies => ?_
  have f2 : Fr (fun i => sv.ownBlock = some i) w1 w2 := Fr.of_grown hg2 fun k hk => hk
  have h02 := h01.fr f2 fun i hi => sf i hi
  refine ⟨.inl ⟨_, rfl⟩, ?_⟩
  refine fdA (by first | exact fa_115_0 | exact fa_115_1 | exact fa_115_2 | exact fa_115_3 | exact fa_115_4 | exact fa_115_5 | exact fa_27_0 | exact fa_27_1 | exact fa_27_2 | exact fa_48_0 | exact fa_48_1 | exact fa_48_2 | exact fa_48_3 | exact fa_52_0 | exact fa_52_1 | exact fa_52_2 | exact fa_52_3 | exact fa_52_4 | exact fa_60_0 | exact fa_60_1 | exact fa_60_2 | exact fa_60_3 | exact fa_60_4 | exact fa_64_0 | exact fa_64_1 | exact fa_64_2 | exact fa_64_3 | exact fa_64_4 | exact fa_71_0 | exact fa_71_3 | exact fa_71_4 | exact fa_74_0 | exact fa_74_1 | exact fa_78_0 | exact fa_78_1 | exact fa_78_2 | exact fa_78_3 | exact fa_84_0 | exact fa_89_0 | exact fa_89_1 | exact fa_89_2 | exact fa_89_3 | exact fa_89_4 | exact fa_89_5) ?_
  refine stSet inf22 h02.f (show 8 < 9 by decide) rfl ?_
  obtain ⟨h03, f3⟩ := h02.setF (j := 8) (u := .slice (some ⟨g', 0, none⟩) (st.length + 1) cap') (pc' := pc) (sv' := .slice (some ⟨g', 0, none⟩) (st.length + 1) cap') (by decide) rfl
  have s1 := x1.size
  have gD : Dj p g' := by
    rcases hlies with hl | hl
    · exact sf _ hl
    · exact h01.lt (by omega)
  have ho3 := f3.own ho2 fun i hi hs => by
    have : g' = i := by simpa [Value.ownBlock] using hi
    exact gD.2.2.1 (this.trans hs)
  have ht3 := f3.own (f2.own (x1.own ht) fun i hi hs => stf i hs hi) fun i hi hs => (tf i hi).2.2.1 hs
  have gt : ∀ i, tv.ownBlock = some i → g' ≠ i := fun i hi he => by
    subst he
    rcases hlies with hl | hl
    · exact stf _ hl hi
    · have := (ht.lt _ hi).2; omega
  have gh : ∀ i, H i → g' ≠ i := fun i hi he => by
    subst he
    rcases hlies with hl | hl
    · exact (hh _ hi).2.2.1 hl
    · have := (hh _ hi).1; omega
  have F : Kp H w _ := ((Kp.of_ext x1).trans (f2.mono fun i hi hH => (hh i hH).2.2.1 hi)).trans (f3.mono fun i hi hH => (hh i hH).2.1.2.2.1 hi)
  refine ⟨⟨_, tv, tc, h03, by simpa using ho3, ht3, h1, fun i hi => ?_, tf, fun i hi ht => ?_, fun i hi => ⟨Nat.lt_of_lt_of_le (hh i hi).1 F.size, (hh i hi).2.1, fun he => ?_, (hh i hi).2.2.2⟩⟩, F⟩
  · have : g' = i := by simpa [Value.ownBlock] using hi
    exact this ▸ gD
  · have : g' = i := by simpa [Value.ownBlock] using hi
    exact gt i ht this
  · have : g' = i := by simpa [Value.ownBlock] using he
    exact gh i hi this
/-- k numbers are taken from the stack. -/
theorem pop_ok (h : MS p o a H w fl pc fuel status z st tn) (hl : st.length ≤ 1000) {k : Nat} (hk0 : 0 < k) (hk : k ≤ st.length) : callD Try.prog 33 #[p.pf, i64 (k : Int)] w fun r w' => SliceIs w' r 1 k ((st.drop (st.length - k)).map i32) ∧ MS p o a H w' fl pc fuel status z (st.take (st.length - k)) tn ∧ Kp H w w' := by
  obtain ⟨sv, tv, tc, h0, hs, ht, h1, sf, tf, stf, hh⟩ := h.ex
  apply F33_wp
  unfold F33_den
  refine ⟨.inl ⟨_, rfl⟩, ?_⟩
  refine ldFS (by first | exact fa_115_0 | exact fa_115_1 | exact fa_115_2 | exact fa_115_3 | exact fa_115_4 | exact fa_115_5 | exact fa_27_0 | exact fa_27_1 | exact fa_27_2 | exact fa_48_0 | exact fa_48_1 | exact fa_48_2 | exact fa_48_3 | exact fa_52_0 | exact fa_52_1 | exact fa_52_2 | exact fa_52_3 | exact fa_52_4 | exact fa_60_0 | exact fa_60_1 | exact fa_60_2 | exact fa_60_3 | exact fa_60_4 | exact fa_64_0 | exact fa_64_1 | exact fa_64_2 | exact fa_64_3 | exact fa_64_4 | exact fa_71_0 | exact fa_71_3 | exact fa_71_4 | exact fa_74_0 | exact fa_74_1 | exact fa_78_0 | exact fa_78_1 | exact fa_78_2 | exact fa_78_3 | exact fa_84_0 | exact fa_89_0 | exact fa_89_1 | exact fa_89_2 | exact fa_89_3 | exact fa_89_4 | exact fa_89_5) (by first | exact l1_21 | exact l1_22 | exact l1_23 | exact l1_24 | exact l1_3 | exact l1_31 | exact l1_4 | exact l1_49 | exact l1_5 | exact l1_50 | exact l1_55 | exact l1_56 | exact l1_57 | exact l1_58 | exact l1_61 | exact l1_62 | exact l1_72 | exact l1_82 | exact l1_87 | exact l1_9) h0.f rfl (lnx xa_22 (SliceIs.of_own hs) ?_)
  refine V_sub.2 ?_
  rw [wrap_id (by omega) (by omega)]
  have ea : (st.length : Int) - (k : Int) = ((st.length - k : Nat) : Int) := by omega
  rw [ea]
  generalize hat : st.length - k = at'
  refine ⟨.inl ⟨_, rfl⟩, ?_⟩
  refine ldFS (by first | exact fa_115_0 | exact fa_115_1 | exact fa_115_2 | exact fa_115_3 | exact fa_115_4 | exact fa_115_5 | exact fa_27_0 | exact fa_27_1 | exact fa_27_2 | exact fa_48_0 | exact fa_48_1 | exact fa_48_2 | exact fa_48_3 | exact fa_52_0 | exact fa_52_1 | exact fa_52_2 | exact fa_52_3 | exact fa_52_4 | exact fa_60_0 | exact fa_60_1 | exact fa_60_2 | exact fa_60_3 | exact fa_60_4 | exact fa_64_0 | exact fa_64_1 | exact fa_64_2 | exact fa_64_3 | exact fa_64_4 | exact fa_71_0 | exact fa_71_3 | exact fa_71_4 | exact fa_74_0 | exact fa_74_1 | exact fa_78_0 | exact fa_78_1 | exact fa_78_2 | exact fa_78_3 | exact fa_84_0 | exact fa_89_0 | exact fa_89_1 | exact fa_89_2 | exact fa_89_3 | exact fa_89_4 | exact fa_89_5) (by first | exact l1_21 | exact l1_22 | exact l1_23 | exact l1_24 | exact l1_3 | exact l1_31 | exact l1_4 | exact l1_49 | exact l1_5 | exact l1_50 | exact l1_55 | exact l1_56 | exact l1_57 | exact l1_58 | exact l1_61 | exact l1_62 | exact l1_72 | exact l1_82 | exact l1_87 | exact l1_9) h0.f rfl ?_
  obtain ⟨v', hrun, hsl⟩ := r_sl Try.underlying22 inf21 (SliceIs.of_own hs) (lo := some (.int .i64 (at' : Int))) (hi' := none) (a := at') (b := st.length) (.inr rfl) (.inl ⟨rfl, rfl⟩) (by omega) (Nat.le_refl _)
  refine V.ok (hrun _) ?_
  have hsv : SliceIs w v' 1 k ((st.drop at').map i32) := by
    have := hsl w (SliceIs.of_own hs)
    rw [show st.length - at' = k by omega] at this
    rw [List.map_drop]
    have e2 : ((st.map i32).drop at').take k = (st.map i32).drop at' := List.take_of_length_le (by simp; omega)
    rwa [e2] at this
  refine callD.mono (R := fun r w' => w'.ownsRow w.heap.size 21 1 r k ((st.drop at').map i32) ∧ Ext w w') ?_ fun r w1 ⟨hr1, x1⟩ => ?_
  · apply F40_wp
    unfold F40_den
    exact cloneD (R := fun r w' => w'.ownsRow w.heap.size 21 1 r k ((st.drop at').map i32) ∧ Ext w w') xe_22 hsv (List.all_eq_true.2 fun v hv => by obtain ⟨x, _, rfl⟩ := List.mem_map.1 hv; rfl) (by omega) fun v' w' g1 g2 => ⟨g1, g2⟩
  have h01 := h0.ext x1
  refine ⟨.inl ⟨_, rfl⟩, ?_⟩
  refine ldFS (by first | exact fa_115_0 | exact fa_115_1 | exact fa_115_2 | exact fa_115_3 | exact fa_115_4 | exact fa_115_5 | exact fa_27_0 | exact fa_27_1 | exact fa_27_2 | exact fa_48_0 | exact fa_48_1 | exact fa_48_2 | exact fa_48_3 | exact fa_52_0 | exact fa_52_1 | exact fa_52_2 | exact fa_52_3 | exact fa_52_4 | exact fa_60_0 | exact fa_60_1 | exact fa_60_2 | exact fa_60_3 | exact fa_60_4 | exact fa_64_0 | exact fa_64_1 | exact fa_64_2 | exact fa_64_3 | exact fa_64_4 | exact fa_71_0 | exact fa_71_3 | exact fa_71_4 | exact fa_74_0 | exact fa_74_1 | exact fa_78_0 | exact fa_78_1 | exact fa_78_2 | exact fa_78_3 | exact fa_84_0 | exact fa_89_0 | exact fa_89_1 | exact fa_89_2 | exact fa_89_3 | exact fa_89_4 | exact fa_89_5) (by first | exact l1_21 | exact l1_22 | exact l1_23 | exact l1_24 | exact l1_3 | exact l1_31 | exact l1_4 | exact l1_49 | exact l1_5 | exact l1_50 | exact l1_55 | exact l1_56 | exact l1_57 | exact l1_58 | exact l1_61 | exact l1_62 | exact l1_72 | exact l1_82 | exact l1_87 | exact l1_9) h01.f rfl ?_
  have hs1 := x1.own hs
  obtain ⟨g, cap, rfl, hcap⟩ : ∃ g cap, sv = .slice (some ⟨g, 0, none⟩) st.length cap ∧ st.length ≤ cap := by
    rcases hs.2 with ⟨_, h0⟩ | ⟨g, cap, cur, e, _, _, h2, _⟩
    · omega
    · exact ⟨g, cap, e, h2⟩
  refine V.ok (r_slTo Try.underlying22 inf21 (by omega) hcap (by omega)) ?_
  refine ⟨.inl ⟨_, rfl⟩, ?_⟩
  refine fdA (by first | exact fa_115_0 | exact fa_115_1 | exact fa_115_2 | exact fa_115_3 | exact fa_115_4 | exact fa_115_5 | exact fa_27_0 | exact fa_27_1 | exact fa_27_2 | exact fa_48_0 | exact fa_48_1 | exact fa_48_2 | exact fa_48_3 | exact fa_52_0 | exact fa_52_1 | exact fa_52_2 | exact fa_52_3 | exact fa_52_4 | exact fa_60_0 | exact fa_60_1 | exact fa_60_2 | exact fa_60_3 | exact fa_60_4 | exact fa_64_0 | exact fa_64_1 | exact fa_64_2 | exact fa_64_3 | exact fa_64_4 | exact fa_71_0 | exact fa_71_3 | exact fa_71_4 | exact fa_74_0 | exact fa_74_1 | exact fa_78_0 | exact fa_78_1 | exact fa_78_2 | exact fa_78_3 | exact fa_84_0 | exact fa_89_0 | exact fa_89_1 | exact fa_89_2 | exact fa_89_3 | exact fa_89_4 | exact fa_89_5) ?_
  refine stSet inf22 h01.f (show 8 < 9 by decide) rfl ?_
  obtain ⟨h03, f3⟩ := h01.setF (j := 8) (u := .slice (some ⟨g, 0, none⟩) at' cap) (pc' := pc) (sv' := .slice (some ⟨g, 0, none⟩) at' cap) (by decide) rfl
  have gD : Dj p g := sf g rfl
  have hnew := own_take (a := at') hs1 (by omega)
  have hnew3 := f3.own hnew fun i hi hs => by
    have : g = i := by simpa [Value.ownBlock] using hi
    exact gD.2.2.1 (this.trans hs)
  have ht3 := f3.own (x1.own ht) fun i hi hs => (tf i hi).2.2.1 hs
  have F : Kp H w _ := (Kp.of_ext x1).trans (f3.mono fun i hi hH => (hh i hH).2.1.2.2.1 hi)
  have hfb := h0.f.lt
  refine ⟨?_, ⟨_, tv, tc, h03, ?_, ht3, h1, fun i hi => ?_, tf, fun i hi => ?_, fun i hi => ⟨Nat.lt_of_lt_of_le (hh i hi).1 F.size, (hh i hi).2.1, fun he => ?_, (hh i hi).2.2.2⟩⟩, F⟩
  · exact SliceIs.of_own (f3.own hr1 fun i hi hs => by have := (hr1.lt i hi).1; omega)
  · have e2 : (st.take at').length = at' := by simp; omega
    rw [e2]
    simpa [List.map_take] using hnew3
  · have : g = i := by simpa [Value.ownBlock] using hi
    exact this ▸ gD
  · have : g = i := by simpa [Value.ownBlock] using hi
    exact stf i (this ▸ rfl)
  · have : g = i := by simpa [Value.ownBlock] using he
    exact (hh i hi).2.2.1 (this ▸ rfl)
end Go.Proofs.Ytbhnelajekgliaa
