/- RoomFields, walked. -/
import Derived.Test.YtgjmpnngheohbaaDoorFl4
namespace Go.Proofs.YtgjmpnngheohbaaDoor
open Go.Vc Go.Ab
/-- Steps that came in. -/
def StepsAre (w : World) (v : Value) (n : Nat) : Prop := (∃ a c, v = .slice a n c) ∧ (0 < n → ∃ cs, SliceIs w v 7 n cs ∧ ∀ i, i < n → ∀ j, j < 4 → ∃ z : Int, cs[i * 7 + j]? = some (i64 z))
theorem pickF_ok {n m : Int} {w : World} (hm : 0 < m) (hm2 : m ≤ 1000000) : callD Tryd.prog 9 #[i64 n, i64 m] w fun r w' => (∃ k : Nat, r = i64 (k : Int) ∧ (k : Int) < m) ∧ w' = w := by
  apply F9_wp
  unfold F9_den
  refine rm hm fun c _ h1 h2 => ?_
  refine V_lss.2 (ifD_dec (fun hlt => ?_) fun hge => ?_)
  · refine V_add.2 ?_
    rw [wrap_id (by omega) (by omega)]
    exact ⟨⟨(c + m).toNat, by rw [Int.toNat_of_nonneg (by omega)], by omega⟩, rfl⟩
  · exact ⟨⟨c.toNat, by rw [Int.toNat_of_nonneg (by omega)], by omega⟩, rfl⟩
theorem infA4 : Go.Vc.Inf Tryd.prog 28 (.agg #[.int .i32 0, .int .i32 0, .int .i32 0, .int .i32 0]) 4 16 := by unfold Go.Vc.Inf; kernel_rfl
theorem i64_succF (j : Nat) : Value.int .i64 ((j : Int) + 1) = i64 ((j + 1 : Nat) : Int) := by simp
theorem intOf_i64F (n : Int) : RowKit.intOf (i64 n) = n := rfl
theorem FldR.fr {p : Flp} {S : Nat → Prop} {w w' : World} {z : Nat → Nat → Int} (h : FldR p w z) (f : Fr S w w') (h1 : ¬ S p.rb) (h2 : ¬ S p.fb) (h3 : ∀ a, a < 3 → ¬ S (p.g a)) : FldR p w' z :=
  ⟨h.box.of (f.block _ h.box.lt h1), h.rows.of (f.block _ h.rows.lt h2), fun a ha => (h.cells a ha).of (f.block _ (h.cells a ha).lt (h3 a ha)), h.apart, h.im⟩
theorem ex_get {α : Type} {l : List α} {j : Nat} (h : j < l.length) : ∃ u, l[j]? = some u := ⟨_, List.getElem?_eq_getElem h⟩
/-- What is wanted. -/
def wantC (z : Nat → Nat → Int) : List Value := flRow z 0 ++ flRow z 1 ++ flRow z 2
theorem wantC_get {z : Nat → Nat → Int} {a k : Nat} (ha : a < 3) (hk : k < 4) : (wantC z)[((a : Nat) : Int).toNat * 4 + ((k : Nat) : Int).toNat]? = some (i32 (z a k)) := by
  have h3 : a = 0 ∨ a = 1 ∨ a = 2 := by omega
  have h4 : k = 0 ∨ k = 1 ∨ k = 2 ∨ k = 3 := by omega
  rcases h3 with rfl | rfl | rfl <;> rcases h4 with rfl | rfl | rfl | rfl <;> rfl
theorem wantC_set {z : Nat → Nat → Int} {a k : Nat} {n : Int} (ha : a < 3) (hk : k < 4) : (wantC z).set (((a : Nat) : Int).toNat * 4 + ((k : Nat) : Int).toNat) (i32 n) = wantC (upZ z a k n) := by
  have h3 : a = 0 ∨ a = 1 ∨ a = 2 := by omega
  have h4 : k = 0 ∨ k = 1 ∨ k = 2 ∨ k = 3 := by omega
  rcases h3 with rfl | rfl | rfl <;> rcases h4 with rfl | rfl | rfl | rfl <;> simp [wantC, flRow, upZ]
set_option maxHeartbeats 8000000 in
theorem fields_law {lv : Value} {N : Nat} {w : World} (hlv : StepsAre w lv N) (known : ∀ w, callD Tryd.prog 6 #[] w fun v w' => v = .bool true ∧ Ext w w') :
    callD Tryd.prog 3 #[lv] w fun r w' => r = .bool true ∧ Ext w w' := by
  obtain ⟨⟨la, lc, rfl⟩, hlv⟩ := hlv
  apply F3_wp
  unfold F3_den
  obtain ⟨y0, hy0, hp0⟩ := preS_some 0 (by omega)
  obtain ⟨v, e, hr, h2, he⟩ := newS_inv hy0
  refine (run1_ok (args' := [i64 100]) hr (rel_empty w) (RL.cons (.int _ _) .nil)).mono fun r w1 ⟨β1, ev1, rv1⟩ => ?_
  obtain ⟨rv, e', rfl, hrv, he'⟩ := two_rv h2 rv1
  rw [he] at he'
  obtain rfl := RV.int_inv' he'
  refine V_ext0.2 (V_ext1.2 ?_)
  refine (known w1).mono fun r w2 ⟨hr, x2⟩ => ?_
  subst hr
  refine V_not.2 ?_
  simp only [V_neqI, ne_eq, not_true_eq_false, V_neqI, gd_f, pickD_iff, reduceIte, Bool.false_eq_true, Bool.not_true, decide_false]
  obtain ⟨ra, hra⟩ := RV.ptr_some (hp0 ▸ hrv)
  subst hra
  refine V.ok (r_eqPtrF Tryd.underlying23) ?_
  simp only [ifD_false]
  have x1 : Ext w w1 := ev1.ext
  have X2 := x1.trans x2
  refine alK inf29 fun w3 hwb x3 => ?_
  have X3 := X2.trans x3
  have hql := hwb.lt
  have hsz2 := x2.size
  have hsz1 := x1.size
  refine ⟨fun x w' => ∃ (i : Nat) (β : Beta) (y : Value × Go.Ab.St), x = i64 i ∧ i ≤ 3 ∧ preS i = some y ∧ Rel noG β y.2 w' ∧ RV β y.1 (.pointer (some ra)) ∧ Past β w.heap.size w2.heap.size ∧ Blk w' w2.heap.size (wantC fun _ _ => 0) 29 ∧ Ext w w',
    fun x _ => 3 - (RowKit.intOf x).toNat, ⟨0, β1, y0, rfl, by omega, hy0, (ev1.rel.ext (x2.trans x3)).rel, hrv, fun b r base lim hb => ?_, hwb, X3⟩, ?_⟩
  · have hlt := ev1.rel.rlt hb
    rcases ev1.new b r base lim hb with ⟨b0, base0, lim0, h0⟩ | h0
    · cases h0
    · exact ⟨h0, by omega⟩
  rintro _ w4 ⟨i, β, y, rfl, hi3, hy, hrel, hyv, hpast, hb4, X4⟩ _
  refine V_lss.2 ?_
  by_cases hi : (i : Int) < 3
  · simp only [hi, ifD_true, decide_true]
    obtain ⟨z, hz, _⟩ := preS_some (i + 1) (by omega)
    obtain ⟨y', hy', ha⟩ := preS_succ hz
    rw [hy] at hy'
    obtain rfl := Option.some.inj hy'
    obtain ⟨a, s1, v, k, e, hA, hB, h2, hk, he, hq⟩ := addS_inv ha
    have q4 : w2.heap.size < w4.heap.size := hb4.lt
    refine (run1_ok (args' := [i64 i, .slice none 0 0]) hA hrel (RL.cons (.int _ _) (RL.cons .snil .nil))).mono fun av w5 ⟨β5, ev5, rv5⟩ => ?_
    refine (run1_ok (args' := [.pointer (some ra), av]) hB ev5.rel (RL.cons (hyv.mono ev5.le) (RL.cons rv5 .nil))).mono fun r w6 ⟨β6, ev6, rv6⟩ => ?_
    obtain ⟨k', e', rfl, hk', he'⟩ := two_rv h2 rv6
    rw [hk] at hk'
    rw [he] at he'
    obtain rfl := RV.int_inv' hk'
    obtain rfl := RV.bool_inv' he'
    refine V_ext0.2 (V_ext1.2 (V_not.2 ?_))
    simp only [V_neqI, ne_eq, not_true_eq_false, V_neqI, gd_f, pickD_iff, ifD_false, reduceIte, Bool.false_eq_true, Bool.not_true, decide_false]
    refine V_add.2 ?_
    rw [wrap_id (by omega) (by omega), i64_succF]
    have s45 := ev5.sz
    have p5 := ev5.past hpast X4.size q4
    have p6 := ev6.past p5 (by have := X4.size; omega) (by omega)
    have f5 := ev5.fr hpast
    have f6 := ev6.fr p5
    refine ⟨⟨i + 1, β6, z, rfl, by omega, hz, ev6.rel, hq ▸ ((hyv.mono ev5.le).mono ev6.le), p6, f6.blk (f5.blk hb4 fun h => h.2 rfl) fun h => h.2 rfl, f6.ext (f5.ext X4 fun j hj => hj.1) fun j hj => hj.1⟩, by simp only [intOf_i64F]; omega⟩
  simp only [hi, ifD_false, decide_false]
  obtain rfl : i = 3 := by omega
  obtain ⟨p, hpe, hF, hgp, hq1, hq2⟩ := pre_fld hy hrel hyv hpast
  rw [hpe]
  refine ⟨fun x w' => ∃ (i : Nat) (z : Nat → Nat → Int), x = i64 i ∧ i ≤ 50 ∧ FldR p w' z ∧ Blk w' w2.heap.size (wantC z) 29 ∧ Ext w w', fun x _ => 50 - (RowKit.intOf x).toNat, ⟨0, _, rfl, by omega, hF, hb4, X4⟩, ?_⟩
  rintro _ w5 ⟨i, z, rfl, hi50, h5, hb5, X5⟩ _
  refine V_ln_22.2 (V_lss.2 ?_)
  have fin : callD Tryd.prog 11 #[rm' p, (Value.int IntKind.i64 3), (Value.int IntKind.i64 0)] w5 fun t127 w66 =>
  V Tryd.prog (Instr.extract t127 0) w66 fun t128 w67 =>
  V Tryd.prog (Instr.extract t127 1) w67 fun t129 w68 =>
  callD Tryd.prog 11 #[rm' p, (Value.int IntKind.i64 0), (Value.int IntKind.i64 4)] w68 fun t132 w69 =>
  V Tryd.prog (Instr.extract t132 0) w69 fun t133 w70 =>
  V Tryd.prog (Instr.extract t132 1) w70 fun t134 w71 =>
  callD Tryd.prog 11 #[rm' p, (Value.int IntKind.i64 0), (Value.int IntKind.i64 (-1))] w71 fun t137 w72 =>
  V Tryd.prog (Instr.extract t137 0) w72 fun t138 w73 =>
  V Tryd.prog (Instr.extract t137 1) w73 fun t139 w74 =>
  callD Tryd.prog 12 #[rm' p, (Value.int IntKind.i64 3)] w74 fun t142 w75 =>
  V Tryd.prog (Instr.extract t142 0) w75 fun t143 w76 =>
  V Tryd.prog (Instr.extract t142 1) w76 fun t144 w77 =>
  V Tryd.prog (Instr.alloc 36 true (.tuple #[])) w77 fun t22 w78 =>
  U Tryd.prog (Instr.storeAt 36 t22 t143) w78 fun _ w79 =>
  V Tryd.prog (Op.unary UnOp.not t129) w79 fun t146 w80 =>
  gd t146 true (fun K => K t134 w80) w80 fun t148 w81 =>
  gd t146 true (fun K => V Tryd.prog (Op.unary UnOp.not t148) w81 K) w81 fun t149 w82 =>
  pickD t146 t149 (Value.bool false) fun t150 =>
  gd t150 true (fun K => K t139 w82) w82 fun t152 w84 =>
  gd t150 true (fun K => V Tryd.prog (Op.unary UnOp.not t152) w84 K) w84 fun t153 w85 =>
  pickD t150 t153 (Value.bool false) fun t154 =>
  gd t154 true (fun K => K t144 w85) w85 fun t156 w87 =>
  gd t154 true (fun K => V Tryd.prog (Op.unary UnOp.not t156) w87 K) w87 fun t157 w88 =>
  pickD t154 t157 (Value.bool false) fun t158 =>
  gd t158 true (fun K => K (rm' p) w88) w88 fun t160 w90 =>
  gd t158 true (fun K => callD Tryd.prog 13 #[t160] w90 K) w90 fun t161 w91 =>
  gd t158 true (fun K => V Tryd.prog (do eqGuard .eql 3 (Operand.tmp 161) (Operand.const (Value.int IntKind.i64 3)) t161 (Value.int IntKind.i64 3); binOp .eql 3 t161 (Value.int IntKind.i64 3)) w91 K) w91 fun t162 w92 =>
  pickD t158 t162 (Value.bool false) fun t163 => t163 = .bool true ∧ Ext w w92 := by
    refine (field_no h5 (by omega)).mono fun r w' ⟨hr, hw⟩ => ?_
    subst hr; have hw := hw.symm; subst hw
    refine V_ext0.2 (V_ext1.2 ?_)
    refine (field_no h5 (by omega)).mono fun r w' ⟨hr, hw⟩ => ?_
    subst hr; have hw := hw.symm; subst hw
    refine V_ext0.2 (V_ext1.2 ?_)
    refine (field_no h5 (by omega)).mono fun r w' ⟨hr, hw⟩ => ?_
    subst hr; have hw := hw.symm; subst hw
    refine V_ext0.2 (V_ext1.2 ?_)
    refine (image_no h5 (by omega)).mono fun r w6 ⟨⟨cs, hr, hl, h1⟩, x6⟩ => ?_
    subst hr
    refine V_ext0.2 (V_ext1.2 ?_)
    refine asK (by first | exact sa_105 | exact sa_29 | exact sa_36 | exact sa_42 | exact sa_95) (show cs.toArray.size = 5 by simpa using hl) h1 fun w7 _ x7 => ?_
    refine V_not.2 ?_
    simp only [gd_t, V_not, pickD_iff, Bool.not_false, reduceIte, V_not, gd_t, pickD_iff, reduceIte, Bool.not_false]
    refine (count_ok (h5.ext (x6.trans x7))).mono fun r w' ⟨hr, hw⟩ => ?_
    subst hr; have hw := hw.symm; subst hw
    refine V_eqlI.2 ?_
    simp only [decide_true]
    exact ⟨trivial, X5.trans (x6.trans x7)⟩
  by_cases hiN : (i : Int) < (N : Int)
  case neg =>
    simp only [hiN, gd_ft, pickD_iff, ifD_false, reduceIte, Bool.false_eq_true, decide_false]
    exact fin
  by_cases hi5 : (i : Int) < 50
  case neg =>
    simp only [hiN, hi5, V_lss, gd_t, pickD_iff, ifD_false, reduceIte, decide_true, decide_false]
    exact fin
  simp only [hiN, hi5, V_lss, gd_t, pickD_iff, ifD_true, reduceIte, decide_true]
  clear fin
  obtain ⟨cs, hcs, hel⟩ := hlv (by omega)
  have hcs5 := hcs.ext X5
  obtain ⟨z1, hz1⟩ := hel i (by omega) 1 (by omega)
  obtain ⟨z2, hz2⟩ := hel i (by omega) 2 (by omega)
  obtain ⟨z3, hz3⟩ := hel i (by omega) 3 (by omega)
  refine ldxF' xa_22 (by first | exact fa_105_0 | exact fa_105_1 | exact fa_105_2 | exact fa_105_3 | exact fa_105_4 | exact fa_116_0 | exact fa_116_1 | exact fa_120_0 | exact fa_120_1 | exact fa_127_0 | exact fa_127_1 | exact fa_131_0 | exact fa_131_1 | exact fa_131_2 | exact fa_131_3 | exact fa_131_4 | exact fa_133_0 | exact fa_133_1 | exact fa_133_2 | exact fa_133_3 | exact fa_36_1 | exact fa_36_2 | exact fa_36_3 | exact fa_36_4 | exact fa_42_0 | exact fa_42_1 | exact fa_42_2 | exact fa_42_3 | exact fa_42_4 | exact fa_42_5 | exact fa_42_6 | exact fa_57_0 | exact fa_63_0 | exact fa_63_1 | exact fa_63_2 | exact fa_63_3 | exact fa_63_4 | exact fa_80_0 | exact fa_80_1 | exact fa_80_2 | exact fa_80_3 | exact fa_80_4 | exact fa_85_2 | exact fa_85_3 | exact fa_88_0 | exact fa_88_1 | exact fa_88_2 | exact fa_88_3 | exact fa_91_0 | exact fa_95_0 | exact fa_95_1 | exact fa_95_2 | exact fa_95_3 | exact fa_95_4 | exact fa_95_5) (by first | exact l1_114 | exact l1_21 | exact l1_23 | exact l1_3 | exact l1_32 | exact l1_33 | exact l1_34 | exact l1_39 | exact l1_4 | exact l1_40 | exact l1_5 | exact l1_50 | exact l1_55 | exact l1_59 | exact l1_60 | exact l1_61 | exact l1_76 | exact l1_86) hcs5 (by omega) (by omega) (by simpa using hz1) ?_
  refine (pickF_ok (by decide) (by decide)).mono fun r w' ⟨⟨a, hr, ha⟩, hw⟩ => ?_
  subst hr; have hw := hw.symm; subst hw
  have ha : a < 3 := by omega
  refine ldxF' xa_22 (by first | exact fa_105_0 | exact fa_105_1 | exact fa_105_2 | exact fa_105_3 | exact fa_105_4 | exact fa_116_0 | exact fa_116_1 | exact fa_120_0 | exact fa_120_1 | exact fa_127_0 | exact fa_127_1 | exact fa_131_0 | exact fa_131_1 | exact fa_131_2 | exact fa_131_3 | exact fa_131_4 | exact fa_133_0 | exact fa_133_1 | exact fa_133_2 | exact fa_133_3 | exact fa_36_1 | exact fa_36_2 | exact fa_36_3 | exact fa_36_4 | exact fa_42_0 | exact fa_42_1 | exact fa_42_2 | exact fa_42_3 | exact fa_42_4 | exact fa_42_5 | exact fa_42_6 | exact fa_57_0 | exact fa_63_0 | exact fa_63_1 | exact fa_63_2 | exact fa_63_3 | exact fa_63_4 | exact fa_80_0 | exact fa_80_1 | exact fa_80_2 | exact fa_80_3 | exact fa_80_4 | exact fa_85_2 | exact fa_85_3 | exact fa_88_0 | exact fa_88_1 | exact fa_88_2 | exact fa_88_3 | exact fa_91_0 | exact fa_95_0 | exact fa_95_1 | exact fa_95_2 | exact fa_95_3 | exact fa_95_4 | exact fa_95_5) (by first | exact l1_114 | exact l1_21 | exact l1_23 | exact l1_3 | exact l1_32 | exact l1_33 | exact l1_34 | exact l1_39 | exact l1_4 | exact l1_40 | exact l1_5 | exact l1_50 | exact l1_55 | exact l1_59 | exact l1_60 | exact l1_61 | exact l1_76 | exact l1_86) hcs5 (by omega) (by omega) (by simpa using hz2) ?_
  refine (pickF_ok (by decide) (by decide)).mono fun r w' ⟨⟨k, hr, hk⟩, hw⟩ => ?_
  subst hr; have hw := hw.symm; subst hw
  have hk : k < 4 := by omega
  refine ldxF' xa_22 (by first | exact fa_105_0 | exact fa_105_1 | exact fa_105_2 | exact fa_105_3 | exact fa_105_4 | exact fa_116_0 | exact fa_116_1 | exact fa_120_0 | exact fa_120_1 | exact fa_127_0 | exact fa_127_1 | exact fa_131_0 | exact fa_131_1 | exact fa_131_2 | exact fa_131_3 | exact fa_131_4 | exact fa_133_0 | exact fa_133_1 | exact fa_133_2 | exact fa_133_3 | exact fa_36_1 | exact fa_36_2 | exact fa_36_3 | exact fa_36_4 | exact fa_42_0 | exact fa_42_1 | exact fa_42_2 | exact fa_42_3 | exact fa_42_4 | exact fa_42_5 | exact fa_42_6 | exact fa_57_0 | exact fa_63_0 | exact fa_63_1 | exact fa_63_2 | exact fa_63_3 | exact fa_63_4 | exact fa_80_0 | exact fa_80_1 | exact fa_80_2 | exact fa_80_3 | exact fa_80_4 | exact fa_85_2 | exact fa_85_3 | exact fa_88_0 | exact fa_88_1 | exact fa_88_2 | exact fa_88_3 | exact fa_91_0 | exact fa_95_0 | exact fa_95_1 | exact fa_95_2 | exact fa_95_3 | exact fa_95_4 | exact fa_95_5) (by first | exact l1_114 | exact l1_21 | exact l1_23 | exact l1_3 | exact l1_32 | exact l1_33 | exact l1_34 | exact l1_39 | exact l1_4 | exact l1_40 | exact l1_5 | exact l1_50 | exact l1_55 | exact l1_59 | exact l1_60 | exact l1_61 | exact l1_76 | exact l1_86) hcs5 (by omega) (by omega) (by simpa using hz3) ?_
  refine V.ok (r_convI Tryd.underlying3 Tryd.underlying21) ?_
  refine (setField_ok h5 ha hk).mono fun r w6 ⟨hr, h6, f6⟩ => ?_
  subst hr
  refine V_not.2 (ifD_false.2 ?_)
  have X6 : Ext w w6 := f6.ext X5 fun j hj => hj ▸ (hgp a ha).1
  have hb6 := f6.blk hb5 fun he => (hgp a ha).2 he.symm
  have hcs6 := (hcs.ext X6).ext ((Ext.refl w6).drew)
  obtain ⟨b, off, cap, hsl, hcell⟩ := hcs6.addr (by omega)
  cases hsl
  refine drawD.mk' (fun w' => ∀ (j : Nat) u, cs[j]? = some u → w'.cell? ⟨b, off + j, none⟩ = some u) hcell ?_
  refine yieldS.ok (fun w' _ => r_ix_22 (by omega) (by omega)) ?_
  refine yieldS.ok (fun w' _ => (by first | exact r_fd_42_3)) ?_
  refine yieldS.ok (fun w' hw => r_ld_3 (by have := hw _ _ hz3; rw [← Nat.add_assoc] at this; simpa using this)) ?_
  refine yieldS.ok (fun w' _ => r_convI Tryd.underlying3 Tryd.underlying21) ?_
  refine yieldS.ok (fun w' _ => r_arrN Tryd.underlying29 infA4 (by omega) (by omega)) ?_
  refine yieldS.ok (fun w' _ => r_arr Tryd.underlying28 inf21 (by omega) (by omega)) ?_
  rw [Nat.zero_add]
  have hb6d := hb6.ext ((Ext.refl w6).drew)
  refine U.ok (r_store inf21 rfl (by rw [hb6d.cell]; exact wantC_get ha hk) (hb6d.frozen _)) ?_
  have hb7 := hb6d.set (((a : Nat) : Int).toNat * 4 + ((k : Nat) : Int).toNat) (i32 (IntKind.i32.wrap z3))
  rw [wantC_set ha hk] at hb7
  have f7 : Fr (fun j => j = w2.heap.size) w6.drew (w6.drew.setCell ⟨w2.heap.size, ((a : Nat) : Int).toNat * 4 + ((k : Nat) : Int).toNat, none⟩ (i32 (IntKind.i32.wrap z3))) := Fr.of_set rfl
  have h7 : FldR p (w6.drew.setCell ⟨w2.heap.size, ((a : Nat) : Int).toNat * 4 + ((k : Nat) : Int).toNat, none⟩ (i32 (IntKind.i32.wrap z3))) (upZ z a k (IntKind.i32.wrap z3)) := (h6.ext ((Ext.refl w6).drew)).fr f7 hq1 hq2 fun a ha => (hgp a ha).2
  have X7 : Ext w (w6.drew.setCell ⟨w2.heap.size, ((a : Nat) : Int).toNat * 4 + ((k : Nat) : Int).toNat, none⟩ (i32 (IntKind.i32.wrap z3))) := f7.ext X6.drew fun j hj => by omega
  have hc7 := (hcs.ext X7).there (by omega)
  generalize w6.drew.setCell ⟨w2.heap.size, ((a : Nat) : Int).toNat * 4 + ((k : Nat) : Int).toNat, none⟩ (i32 (IntKind.i32.wrap z3)) = w7 at hb7 h7 X7 hc7 ⊢
  obtain ⟨b', off', cap', hsl, hc7⟩ := hc7
  cases hsl
  refine ⟨hc7, ?_⟩
  generalize upZ z a k (IntKind.i32.wrap z3) = z' at hb7 h7
  refine ⟨fun x w' => ∃ j : Nat, x = i64 j ∧ j ≤ 3 ∧ w' = w7, fun x _ => 3 - (RowKit.intOf x).toNat, ⟨0, rfl, by omega, rfl⟩, ?_⟩
  rintro _ w' ⟨j, rfl, hj3, hw⟩ _
  have hw := hw.symm; subst hw
  refine V_lss.2 ?_
  by_cases hj : (j : Int) < 3
  · simp only [hj, ifD_true, decide_true]
    refine ⟨fun x w' => ∃ q : Nat, x = i64 q ∧ q ≤ 4 ∧ w' = w7, fun x _ => 4 - (RowKit.intOf x).toNat, ⟨0, rfl, by omega, rfl⟩, ?_⟩
    rintro _ w' ⟨q, rfl, hq4, hw⟩ _
    have hw := hw.symm; subst hw
    refine V_lss.2 ?_
    by_cases hq : (q : Int) < 4
    · simp only [hq, ifD_true, decide_true]
      refine (field_ok h7 (a := j) (k := q) (by omega) (by omega)).mono fun r w' ⟨hr, hw⟩ => ?_
      subst hr; have hw := hw.symm; subst hw
      refine V_ext0.2 (V_ext1.2 (V_not.2 ?_))
      simp only [Bool.not_true, gd_f]
      refine V.ok (r_arrN Tryd.underlying29 infA4 (by omega) (by omega)) ?_
      refine V.ok (r_arr Tryd.underlying28 inf21 (by omega) (by omega)) ?_
      rw [Nat.zero_add]
      refine V.ok (r_ld_21 (by rw [hb7.cell]; exact wantC_get (by omega) (by omega))) ?_
      simp only [V_neqI, ne_eq, not_true_eq_false, V_neqI, pickD_iff, ifD_false, reduceIte, Bool.false_eq_true, decide_false]
      refine V_add.2 ?_
      rw [wrap_id (by omega) (by omega), i64_succF]
      exact ⟨⟨q + 1, rfl, by omega, rfl⟩, by simp only [intOf_i64F]; omega⟩
    simp only [hq, ifD_false, decide_false]
    refine V_add.2 ?_
    rw [wrap_id (by omega) (by omega), i64_succF]
    exact ⟨⟨j + 1, rfl, by omega, rfl⟩, by simp only [intOf_i64F]; omega⟩
  simp only [hj, ifD_false, decide_false]
  refine V_add.2 ?_
  rw [wrap_id (by omega) (by omega), i64_succF]
  exact ⟨⟨i + 1, _, rfl, by omega, h7, hb7, X7⟩, by simp only [intOf_i64F]; omega⟩
end Go.Proofs.YtgjmpnngheohbaaDoor
