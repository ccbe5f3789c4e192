/- InterpSums, walked. -/
import Derived.Test.YtbhnelajekgliaaIs8
namespace Go.Proofs.Ytbhnelajekgliaa
open Go.Vc Go.Ab
def exitS (t0 t5 t6 : Value) (w8 : World) (R : Value → World → Prop) : Prop :=
  ∃ J3 : NP 1,
  (V Try.prog (Builtin.len_ #[22] 3 #[t0]) w8 fun t63 w35 =>
  V Try.prog (do eqGuard .eql 3 (Operand.tmp 63) (Operand.const (Value.int IntKind.i64 0)) t63 (Value.int IntKind.i64 0); binOp .eql 3 t63 (Value.int IntKind.i64 0)) w35 fun t64 w36 =>
  ifD t64 (
  V Try.prog (Instr.build 27 #[(0, (Value.int IntKind.i64 1))]) w36 fun t66 w37 =>
  V Try.prog (Instr.buildSlice 24 1 #[(0, t66)]) w37 fun t67 w38 =>
  V Try.prog (Builtin.append_ #[24, 24] 24 #[t5, t67]) w38 fun t68 w39 =>
  J3 t68 w39) (
  J3 t5 w36)) ∧
  ∀ (t5_1 : Value), ∀ w40 : World, J3 t5_1 w40 → ∀ _f : Env,
  V Try.prog (Instr.build 27 #[(0, (Value.int IntKind.i64 34))]) w40 fun t70 w41 =>
  V Try.prog (Instr.build 27 #[(0, (Value.int IntKind.i64 39))]) w41 fun t71 w42 =>
  V Try.prog (Instr.buildSlice 24 2 #[(0, t70), (1, t71)]) w42 fun t72 w43 =>
  V Try.prog (Builtin.append_ #[24, 24] 24 #[t5_1, t72]) w43 fun t73 w44 =>
  callD Try.prog 6 #[(Value.int IntKind.i64 200), t73] w44 fun t76 w45 =>
  V Try.prog (Instr.extract t76 0) w45 fun t77 w46 =>
  V Try.prog (Instr.extract t76 1) w46 fun t78 w47 =>
  callD Try.prog 7 #[] w47 fun t79 w48 =>
  V Try.prog (Op.unary UnOp.not t79) w48 fun t80 w49 =>
  gd t80 false (fun K => K t77 w49) w49 fun t82 w50 =>
  gd t80 false (fun K => V Try.prog (do eqGuard .eql 30 (Operand.tmp 82) (Operand.const (Value.pointer none)) t82 (Value.pointer none); binOp .eql 30 t82 (Value.pointer none)) w50 K) w50 fun t83 w51 =>
  pickD t80 (Value.bool true) t83 fun t84 =>
  gd t84 false (fun K => K t78 w51) w51 fun t86 w53 =>
  gd t84 false (fun K => V Try.prog (do eqGuard .eql 31 (Operand.tmp 86) (Operand.const (Value.pointer none)) t86 (Value.pointer none); binOp .eql 31 t86 (Value.pointer none)) w53 K) w53 fun t87 w54 =>
  pickD t84 (Value.bool true) t87 fun t88 =>
  ifD t88 (
  R (Value.bool false) w54) (
  callD Try.prog 8 #[t78, (Value.int IntKind.i64 0), (Value.int IntKind.i64 0)] w54 fun t91 w56 =>
  V Try.prog (Instr.extract t91 0) w56 fun t92 w57 =>
  V Try.prog (Instr.extract t91 1) w57 fun t93 w58 =>
  callD Try.prog 9 #[t77] w58 fun t95 w59 =>
  V Try.prog (do eqGuard .eql 3 (Operand.tmp 95) (Operand.const (Value.int IntKind.i64 36864)) t95 (Value.int IntKind.i64 36864); binOp .eql 3 t95 (Value.int IntKind.i64 36864)) w59 fun t96 w60 =>
  gd t96 true (fun K => K t93 w60) w60 fun t98 w61 =>
  pickD t96 t98 (Value.bool false) fun t99 =>
  gd t99 true (fun K => K t92 w61) w61 fun t101 w63 =>
  gd t99 true (fun K => K t6 w63) w63 fun t102 w64 =>
  gd t99 true (fun K => V Try.prog (do eqGuard .eql 21 (Operand.tmp 101) (Operand.tmp 102) t101 t102; binOp .eql 21 t101 t102) w64 K) w64 fun t103 w65 =>
  pickD t99 t103 (Value.bool false) fun t104 =>
  gd t104 true (fun K => K t77 w65) w65 fun t106 w67 =>
  gd t104 true (fun K => callD Try.prog 10 #[t106] w67 K) w67 fun t107 w68 =>
  gd t104 true (fun K => K t73 w68) w68 fun t108 w69 =>
  gd t104 true (fun K => V Try.prog (Builtin.len_ #[24] 3 #[t108]) w69 K) w69 fun t109 w70 =>
  gd t104 true (fun K => V Try.prog (binOp .sub 3 (Value.int IntKind.i64 200) t109) w70 K) w70 fun t110 w71 =>
  gd t104 true (fun K => V Try.prog (do eqGuard .eql 3 (Operand.tmp 107) (Operand.tmp 110) t107 t110; binOp .eql 3 t107 t110) w71 K) w71 fun t111 w72 =>
  pickD t104 t111 (Value.bool false) fun t112 =>
  R t112 w72)
def ArgsLike (w : World) (sv : Value) (l : List Int) : Prop := (∃ a c, sv = .slice a l.length c) ∧ (0 < l.length → SliceIs w sv 1 l.length (l.map i64))
/-- Words that came in. -/
def Args32 (w : World) (sv : Value) (l : List Int) : Prop := (∃ a c, sv = .slice a l.length c) ∧ (0 < l.length → SliceIs w sv 1 l.length (l.map i32))
theorem ex_get {α : Type} {l : List α} {j : Nat} (h : j < l.length) : ∃ u, l[j]? = some u := ⟨_, List.getElem?_eq_getElem h⟩
theorem pickS_ok {n m : Int} {w : World} (hm : 0 < m) (hm2 : m ≤ 1000000) : callD Try.prog 4 #[i64 n, i64 m] w fun r w' => (∃ k : Nat, r = i64 (k : Int) ∧ (k : Int) < m) ∧ w' = w := by
  apply F4_wp
  unfold F4_den
  refine rm hm fun c _ h1 h2 => ?_
  refine V_lss.2 (ifD_dec (fun hlt => ?_) fun hge => ?_)
  · refine V_add.2 ?_
    rw [wrap_id (by omega) (by omega)]
    exact ⟨⟨(c + m).toNat, by rw [Int.toNat_of_nonneg (by omega)], by omega⟩, rfl⟩
  · exact ⟨⟨c.toNat, by rw [Int.toNat_of_nonneg (by omega)], by omega⟩, rfl⟩
theorem status_ok {p : Mch} {o a : Nat → Int} {H : Nat → Prop} {w : World} {fl : Nat} {pc fuel status z : Int} {st : List Int} {tn : Nat} (h : MS p o a H w fl pc fuel status z st tn) : callD Try.prog 9 #[p.pm] w fun r w' => r = i64 status ∧ w' = w := by
  apply F9_wp
  unfold F9_den
  exact ⟨.inl ⟨_, rfl⟩, ldFS (by first | exact fa_115_0 | exact fa_115_1 | exact fa_115_2 | exact fa_115_3 | exact fa_115_4 | exact fa_115_5 | exact fa_27_0 | exact fa_27_1 | exact fa_27_2 | exact fa_48_0 | exact fa_48_1 | exact fa_48_2 | exact fa_48_3 | exact fa_52_0 | exact fa_52_1 | exact fa_52_2 | exact fa_52_3 | exact fa_52_4 | exact fa_60_0 | exact fa_60_1 | exact fa_60_2 | exact fa_60_3 | exact fa_60_4 | exact fa_64_0 | exact fa_64_1 | exact fa_64_2 | exact fa_64_3 | exact fa_64_4 | exact fa_71_0 | exact fa_71_3 | exact fa_71_4 | exact fa_74_0 | exact fa_74_1 | exact fa_78_0 | exact fa_78_1 | exact fa_78_2 | exact fa_78_3 | exact fa_84_0 | exact fa_89_0 | exact fa_89_1 | exact fa_89_2 | exact fa_89_3 | exact fa_89_4 | exact fa_89_5) (by first | exact l1_21 | exact l1_22 | exact l1_23 | exact l1_24 | exact l1_3 | exact l1_31 | exact l1_4 | exact l1_49 | exact l1_5 | exact l1_50 | exact l1_55 | exact l1_56 | exact l1_57 | exact l1_58 | exact l1_61 | exact l1_62 | exact l1_72 | exact l1_82 | exact l1_87 | exact l1_9) h.cells rfl ⟨rfl, rfl⟩⟩
theorem fuel_ok {p : Mch} {o a : Nat → Int} {H : Nat → Prop} {w : World} {fl : Nat} {pc fuel status z : Int} {st : List Int} {tn : Nat} (h : MS p o a H w fl pc fuel status z st tn) : callD Try.prog 10 #[p.pm] w fun r w' => r = i64 fuel ∧ w' = w := by
  apply F10_wp
  unfold F10_den
  exact ⟨.inl ⟨_, rfl⟩, ldFS (by first | exact fa_115_0 | exact fa_115_1 | exact fa_115_2 | exact fa_115_3 | exact fa_115_4 | exact fa_115_5 | exact fa_27_0 | exact fa_27_1 | exact fa_27_2 | exact fa_48_0 | exact fa_48_1 | exact fa_48_2 | exact fa_48_3 | exact fa_52_0 | exact fa_52_1 | exact fa_52_2 | exact fa_52_3 | exact fa_52_4 | exact fa_60_0 | exact fa_60_1 | exact fa_60_2 | exact fa_60_3 | exact fa_60_4 | exact fa_64_0 | exact fa_64_1 | exact fa_64_2 | exact fa_64_3 | exact fa_64_4 | exact fa_71_0 | exact fa_71_3 | exact fa_71_4 | exact fa_74_0 | exact fa_74_1 | exact fa_78_0 | exact fa_78_1 | exact fa_78_2 | exact fa_78_3 | exact fa_84_0 | exact fa_89_0 | exact fa_89_1 | exact fa_89_2 | exact fa_89_3 | exact fa_89_4 | exact fa_89_5) (by first | exact l1_21 | exact l1_22 | exact l1_23 | exact l1_24 | exact l1_3 | exact l1_31 | exact l1_4 | exact l1_49 | exact l1_5 | exact l1_50 | exact l1_55 | exact l1_56 | exact l1_57 | exact l1_58 | exact l1_61 | exact l1_62 | exact l1_72 | exact l1_82 | exact l1_87 | exact l1_9) h.cells rfl ⟨rfl, rfl⟩⟩
def opsT : List Value := [i64 6, i64 7, i64 8, i64 9, i64 10, i64 11, i64 12, i64 13, i64 14, i64 20]
theorem opsT_all {k : Nat} (h : k < 10) : ∃ op f, opsT[k]? = some (i64 op) ∧ OpF op f := by
  have hc : k = 0 ∨ k = 1 ∨ k = 2 ∨ k = 3 ∨ k = 4 ∨ k = 5 ∨ k = 6 ∨ k = 7 ∨ k = 8 ∨ k = 9 := by omega
  rcases hc with rfl | rfl | rfl | rfl | rfl | rfl | rfl | rfl | rfl | rfl
  · exact ⟨_, _, rfl, op6⟩
  · exact ⟨_, _, rfl, op7⟩
  · exact ⟨_, _, rfl, op8⟩
  · exact ⟨_, _, rfl, op9⟩
  · exact ⟨_, _, rfl, op10⟩
  · exact ⟨_, _, rfl, op11⟩
  · exact ⟨_, _, rfl, op12⟩
  · exact ⟨_, _, rfl, op13⟩
  · exact ⟨_, _, rfl, op14⟩
  · exact ⟨_, _, rfl, op20⟩
theorem cdC_app (a b : List (Int × Int)) : cdC (a ++ b) = cdC a ++ cdC b := by simp [cdC]
/-- An instruction more. -/
theorem app_ok {w0 w : World} {B : Nat} {cv : Value} {c : List (Int × Int)} {x y : Int} (hB : B = w0.heap.size) (hx0 : Ext w0 w) (ho : w.ownsRow B 27 3 cv c.length (cdC c)) (hl : c.length ≤ 1000) {K : Value → World → Prop} (hk : ∀ cv' w', w'.ownsRow B 27 3 cv' (c ++ [(x, y)]).length (cdC (c ++ [(x, y)])) → Ext w0 w' → K cv' w') :
    V Try.prog (Instr.buildSlice 24 1 #[(0, .agg #[i64 x, i64 y, i64 0])]) w fun t w1 => V Try.prog (Builtin.append_ #[24, 24] 24 #[cv, t]) w1 K := by
  subst hB
  refine V.ok (v := .slice (some ⟨w.heap.size, 0, none⟩) 1 1) (w' := w.alloc (.cells ([i64 x, i64 y, i64 0] : List Value).toArray 27)) (by kernel_rfl) ?_
  have hb1 : Blk (w.alloc (.cells ([i64 x, i64 y, i64 0] : List Value).toArray 27)) w.heap.size [i64 x, i64 y, i64 0] 27 := by unfold Blk; rw [heap_alloc_new]
  have x1 : Ext w (w.alloc (.cells ([i64 x, i64 y, i64 0] : List Value).toArray 27)) := (Ext.refl _).alloc _
  generalize w.alloc (.cells ([i64 x, i64 y, i64 0] : List Value).toArray 27) = w1 at hb1 x1 ⊢
  have ho1 : w1.ownsRow 0 27 3 (.slice (some ⟨w.heap.size, 0, none⟩) 1 1) 1 [i64 x, i64 y, i64 0] := own_blk hb1 rfl (Nat.zero_le _) (by unfold maxLen; omega)
  have X := hx0.trans x1
  refine apZ Try.underlying24 inf27 rfl (by omega) (x1.own ho) ho1 (by omega) (by rfl) (by omega) (by unfold maxLen; omega) X.size fun g' cap' w2 ho2 hg2 _ => ?_
  refine hk _ w2 ?_ (X.grown hg2 fun k hk => (ho.lt k hk).1)
  rw [cdC_app, List.length_append]
  exact ho2
theorem cdC_len (c : List (Int × Int)) : (cdC c).length = c.length * 3 := by
  induction c with
  | nil => rfl
  | cons a c ih =>
    show ([Value.int .i64 a.1, Value.int .i64 a.2, Value.int .i64 0] ++ cdC c).length = _
    rw [List.length_append, ih]
    simp
    omega
set_option maxHeartbeats 3200000 in
theorem exit_ok {la : Option Addr} {lc L : Nat} {cv t6 : Value} {c : List (Int × Int)} {w3 w4 : World} {R : Value → World → Prop} (hst : (L = 0 ∧ c = [] ∧ t6 = i32 0) ∨ (0 < L ∧ ∃ v, Prep c v ∧ c.length % 2 = 1 ∧ c.length ≤ 49 ∧ t6 = i32 v)) (ho : w4.ownsRow w3.heap.size 27 3 cv c.length (cdC c)) (x4 : Ext w3 w4)
    (known : ∀ w, callD Try.prog 7 #[] w fun v w' => v = .bool true ∧ Ext w w') (hR : ∀ w', Ext w3 w' → R (.bool true) w') : exitS (.slice la L lc) cv t6 w4 R := by
  unfold exitS
  refine ⟨fun v w' => ∃ c x, Prep c x ∧ c.length % 2 = 1 ∧ c.length ≤ 49 ∧ t6 = i32 x ∧ w'.ownsRow w3.heap.size 27 3 v c.length (cdC c) ∧ Ext w3 w', ?_, ?_⟩
  · refine V_ln_22.2 (V_eqlI.2 ?_)
    rcases hst with ⟨rfl, rfl, rfl⟩ | ⟨hL, v, hP, h1, h2, rfl⟩
    · simp only [show (((0 : Nat) : Int) = 0) from rfl, decide_true, ifD_true]
      refine bld bd_27 [(0, i64 1)] rfl rfl ?_
      exact app_ok (x := 1) (y := 0) rfl x4 ho (Nat.zero_le _) fun cv' w' h1 h2 => ⟨[(1, 0)], 0, .one (by unfold R32; omega), rfl, (by decide), rfl, h1, h2⟩
    · simp only [show ¬ ((L : Int) = 0) by omega, decide_false, ifD_false]
      exact ⟨c, v, hP, h1, h2, rfl, ho, x4⟩
  rintro cv' w5 ⟨c, x, hP, hod, hle, rfl, ho5, x5⟩ _
  refine bld bd_27 [(0, i64 34)] rfl rfl ?_
  refine bld bd_27 [(0, i64 39)] rfl rfl ?_
  refine V.ok (v := .slice (some ⟨w5.heap.size, 0, none⟩) 2 2) (w' := w5.alloc (.cells ([i64 34, i64 0, i64 0, i64 39, i64 0, i64 0] : List Value).toArray 27)) (by kernel_rfl) ?_
  have hb6 : Blk (w5.alloc (.cells ([i64 34, i64 0, i64 0, i64 39, i64 0, i64 0] : List Value).toArray 27)) w5.heap.size [i64 34, i64 0, i64 0, i64 39, i64 0, i64 0] 27 := by unfold Blk; rw [heap_alloc_new]
  have x6 : Ext w5 (w5.alloc (.cells ([i64 34, i64 0, i64 0, i64 39, i64 0, i64 0] : List Value).toArray 27)) := (Ext.refl _).alloc _
  generalize w5.alloc (.cells ([i64 34, i64 0, i64 0, i64 39, i64 0, i64 0] : List Value).toArray 27) = w6 at hb6 x6 ⊢
  have ho6 : w6.ownsRow 0 27 3 (.slice (some ⟨w5.heap.size, 0, none⟩) 2 2) 2 [i64 34, i64 0, i64 0, i64 39, i64 0, i64 0] := own_blk hb6 rfl (Nat.zero_le _) (by unfold maxLen; omega)
  have X6 := x5.trans x6
  refine apZ Try.underlying24 inf27 rfl (by omega) (x6.own ho5) ho6 (by omega) (by rfl) (by omega) (by unfold maxLen; omega) X6.size fun g' cap' w7 ho7 hg7 _ => ?_
  have X7 : Ext w3 w7 := X6.grown hg7 fun k hk => (ho5.lt k hk).1
  have hwc : cdC c ++ [i64 34, i64 0, i64 0, i64 39, i64 0, i64 0] = cdC (whole c) := by
    unfold whole
    rw [cdC_app]
    rfl
  rw [hwc] at ho7
  refine (runAll_ok hP (by omega) (by omega) ho7).mono fun r w8 ⟨⟨p, o, a, H, pc, tn, hr, h8⟩, x8⟩ => ?_
  subst hr
  refine V_ext0.2 (V_ext1.2 ?_)
  refine (known w8).mono fun r w9 ⟨hr, x9⟩ => ?_
  subst hr
  have h9 := h8.ext x9
  refine V_not.2 ?_
  simp only [gd_f, pickD_iff, reduceIte, Bool.false_eq_true, Bool.not_true]
  refine V.ok (r_eqPtr Try.underlying30) ?_
  simp only [gd_f, pickD_iff, reduceIte, Bool.false_eq_true]
  refine V.ok (r_eqPtr Try.underlying31) ?_
  simp only [ifD_false]
  obtain ⟨sv, tv, tc, h0, _⟩ := h9.ex
  refine (fieldE_ok h0).mono fun r w' ⟨hr, hw⟩ => ?_
  subst hr; have hw := hw.symm; subst hw
  refine V_ext0.2 (V_ext1.2 ?_)
  refine (status_ok h9).mono fun r w' ⟨hr, hw⟩ => ?_
  subst hr; have hw := hw.symm; subst hw
  simp only [V_eqlI, gd_t, pickD_iff, reduceIte, decide_true]
  refine (fuel_ok h9).mono fun r w' ⟨hr, hw⟩ => ?_
  subst hr; have hw := hw.symm; subst hw
  refine V_ln_24.2 (V_sub.2 ?_)
  rw [wrap_id (by omega) (by omega)]
  simp only [V_eqlI, decide_true]
  exact hR _ ((X7.trans x8).trans x9)
set_option maxHeartbeats 8000000 in
theorem sums_law {lv sv : Value} {l s : List Int} {w : World} (hl : Args32 w lv l ∧ ∀ x ∈ l, R32 x) (hs : ArgsLike w sv s) (known : ∀ w, callD Try.prog 7 #[] w fun v w' => v = .bool true ∧ Ext w w') :
    callD Try.prog 3 #[lv, sv] w fun r w' => r = .bool true ∧ Ext w w' := by
  obtain ⟨hl, hr⟩ := hl
  obtain ⟨⟨la, lc, rfl⟩, hl⟩ := hl
  obtain ⟨⟨sa, sc, rfl⟩, hs⟩ := hs
  apply F3_wp
  suffices key : ∀ R : Value → World → Prop, (∀ w', Ext w w' → R (.bool true) w') → F3_den (.slice la l.length lc) (.slice sa s.length sc) w R from key _ fun w' hx => ⟨rfl, hx⟩
  intro R hR
  unfold F3_den
  refine V.ok (w' := w) (v := .agg opsT.toArray) (by kernel_rfl) ?_
  refine asK (by first | exact sa_115 | exact sa_25 | exact sa_27 | exact sa_48 | exact sa_52 | exact sa_71 | exact sa_78) rfl (by rfl) fun w3 hops x3 => ?_
  refine ⟨fun t5 t6 t8 w' => ∃ (i : Nat) (c : List (Int × Int)), t8 = i64 i ∧ i ≤ l.length ∧ i ≤ 25 ∧ w'.ownsRow w3.heap.size 27 3 t5 c.length (cdC c) ∧ Ext w3 w' ∧ ((i = 0 ∧ c = [] ∧ t6 = i32 0) ∨ ∃ v, 0 < i ∧ Prep c v ∧ c.length + 1 = 2 * i ∧ t6 = i32 v), fun _ _ t8 _ => 25 - (RowKit.intOf t8).toNat, ⟨0, [], rfl, Nat.zero_le _, Nat.zero_le _, World.ownsRow_nil _ _ _ _, Ext.refl _, .inl ⟨rfl, rfl, rfl⟩⟩, ?_⟩
  rintro cv t6 _ w4 ⟨i, c, rfl, hil, hi25, ho4, x4, hst⟩ _
  refine V_ln_22.2 (V_lss.2 ?_)
  have fin : ¬ (i < l.length ∧ i < 25) → exitS (.slice la l.length lc) cv t6 w4 R := fun hn => exit_ok (by
    rcases hst with ⟨rfl, rfl, rfl⟩ | ⟨v, h1, h2, h3, rfl⟩
    · exact .inl ⟨by omega, rfl, rfl⟩
    · exact .inr ⟨by omega, v, h2, by omega, by omega, rfl⟩) ho4 x4 known fun w' hx => hR _ (x3.trans hx)
  by_cases hiN : (i : Int) < (l.length : Int)
  case neg =>
    simp only [hiN, V_eqlI, gd_ft, pickD_iff, ifD_false, reduceIte, Bool.false_eq_true, decide_false]
    exact fin (by omega)
  by_cases hi5 : (i : Int) < 25
  case neg =>
    simp only [hiN, hi5, V_lss, V_eqlI, gd_t, pickD_iff, ifD_false, reduceIte, decide_true, decide_false]
    exact fin (by omega)
  simp only [hiN, hi5, V_lss, V_eqlI, gd_t, pickD_iff, ifD_true, reduceIte, decide_true]
  obtain ⟨x, hx⟩ := ex_get (l := l) (j := i) (by omega)
  have hxr := hr x (List.mem_of_getElem? hx)
  have hxr' := hxr
  unfold R32 at hxr'
  have hll := (hl (by omega)).ext x3
  refine ldx xa_22 l1_21 (hll.ext x4) (by omega) (by omega) (by simp [hx] : (l.map i32)[((i : Nat) : Int).toNat]? = some (i32 x)) ?_
  refine V.ok (r_convI Try.underlying21 Try.underlying3) ?_
  rw [wrap_id (by omega) (by omega)]
  refine bld bd_27 [(0, i64 1), (1, i64 x)] rfl rfl ?_
  have hcl : c.length ≤ 60 := by
    rcases hst with ⟨rfl, rfl, rfl⟩ | ⟨v, h1, h2, h3, rfl⟩
    · simp
    · omega
  refine app_ok (x := 1) (y := x) rfl x4 ho4 (by omega) fun cv5 w5 ho5 x5 => ?_
  rcases hst with ⟨rfl, rfl, rfl⟩ | ⟨v, hi0, hP, hcn, rfl⟩
  · simp only [show (((0 : Nat) : Int) = 0) from rfl, decide_true, ifD_true]
    refine ldx xa_22 l1_21 (hll.ext x5) (by omega) (by omega) (by simp [hx] : (l.map i32)[((0 : Nat) : Int).toNat]? = some (i32 x)) ?_
    refine V_add.2 ?_
    rw [wrap_id (by omega) (by omega)]
    exact ⟨⟨1, [(1, x)], rfl, by omega, by omega, ho5, x5, .inr ⟨x, by omega, .one hxr, rfl, rfl⟩⟩, (show 25 - ((0 : Int) + 1).toNat < 25 - (0 : Int).toNat by decide)⟩
  simp only [show ¬ (((i : Nat) : Int) = 0) by omega, decide_false, ifD_false]
  refine ⟨fun v w' => ∃ op f, v = i64 op ∧ OpF op f ∧ w' = w5, ?_, ?_⟩
  · refine V_ln_23.2 (V_lss.2 (ifD_dec (fun hlt => ?_) fun hge => ⟨6, _, rfl, op6, rfl⟩))
    obtain ⟨q, hq⟩ := ex_get (l := s) (j := i) (by omega)
    have hss : SliceIs w5 (.slice sa s.length sc) 1 s.length (s.map i64) := ((show SliceIs w _ 1 s.length (s.map i64) from hs (by omega)).ext x3).ext x5
    refine ldx xa_23 l1_3 hss (by omega) (by omega) (by simp [hq] : (s.map i64)[((i : Nat) : Int).toNat]? = some (i64 q)) ?_
    refine (pickS_ok (by omega) (by omega)).mono fun r w' ⟨⟨k, hr, hk⟩, hw⟩ => ?_
    subst hr; have hw := hw.symm; subst hw
    obtain ⟨op, f, hop, hf⟩ := opsT_all (k := k) (by omega)
    refine V.ok (r_arr Try.underlying25 inf3 (by omega) (by omega)) ?_
    refine V.ok (r_ld_3 (v := i64 op) (by rw [(hops.ext x5).cell, Nat.zero_add, Int.toNat_natCast]; exact hop)) ?_
    exact ⟨op, f, rfl, hf, rfl⟩
  rintro _ w' ⟨op, f, rfl, hf, hw⟩ _
  have hw := hw.symm; subst hw
  refine bld bd_27 [(0, i64 op)] rfl rfl ?_
  refine app_ok (x := op) (y := 0) rfl x5 ho5 (by simp; omega) fun cv6 w6 ho6 x6 => ?_
  refine ldx xa_22 l1_21 (hll.ext x6) (by omega) (by omega) (by simp [hx] : (l.map i32)[((i : Nat) : Int).toNat]? = some (i32 x)) ?_
  refine ((hf.2 v x hP.r hxr).2.1 w6).mono fun r w' ⟨hr, hw⟩ => ?_
  subst hr; have hw := hw.symm; subst hw
  refine V_add.2 ?_
  rw [wrap_id (by omega) (by omega), i64_succ']
  have ec : c ++ [(1, x)] ++ [(op, 0)] = c ++ [(1, x), (op, 0)] := by simp
  rw [ec] at ho6
  exact ⟨⟨i + 1, _, rfl, by omega, by omega, ho6, x6, .inr ⟨f v x, by omega, .app hP hxr hf, by simp; omega, rfl⟩⟩, by simp only [intOf_i64']; omega⟩
end Go.Proofs.Ytbhnelajekgliaa
