/- Package twin: which answers are alike; the law's walk. -/
import Derived.Test.YtbigfaomhfmpkaaGreatDoorBytes
import Derived.Test.YtbigfaomhfmpkaaGreatDoorInsts
import Derived.Test.YtbigfaomhfmpkaaGreatDoorDens
namespace Go.Proofs.YtbigfaomhfmpkaaGreatDoor
open Go.Vc
/-- An answer, as a value lies in a world. -/
structure Ans where
  s : Int
  p : Option Addr
  k : Nat
  c : Nat
  xs : List Int
  q : Option Addr
  n : Nat
  m : Nat
def Ans.val (a : Ans) : Value := .agg #[.int .i64 a.s, .slice a.p a.k a.c, .slice a.q a.n a.m]
def Ans.cells (a : Ans) : List Value := [.int .i64 a.s, .slice a.p a.k a.c, .slice a.q a.n a.m]
def AnsIs (w : World) (a : Ans) : Prop := Lib.BytesIn w a.p a.k a.xs ∧ a.xs.length = a.k
theorem AnsIs.ext {w w' : World} {a : Ans} (h : AnsIs w a) (hx : Ext w w') : AnsIs w' a := ⟨bytesExt h.1 hx, h.2⟩
def alike (a b : Ans) : Bool := (decide (a.s = b.s) && ((strOfNums a.xs).toList == (strOfNums b.xs).toList)) && decide ((a.n : Int) = b.n)
theorem conv {w : World} {K : Value → World → Prop} {p : Option Addr} {k c : Nat} {xs : List Int} (h : Lib.BytesIn w p k xs) (hl : xs.length = k) (hk : K (.string (strOfNums xs)) w) : V Tryz.prog (convert 22 9 (.slice p k c)) w K :=
  V.ok (r_bytes h hl c _ _ _ Tryz.underlying22 Tryz.underlying5 Tryz.underlying9) hk
theorem eqS {w : World} {K : Value → World → Prop} {x y : Operand} {a b : ByteArray} (hk : K (.bool (a.toList == b.toList)) w) : V Tryz.prog (do eqGuard .eql 9 x y (.string a) (.string b); binOp .eql 9 (.string a) (.string b)) w K :=
  V.ok (r_eqStr Tryz.underlying9) hk
theorem equal_ok {w : World} {a b : Ans} (ha : AnsIs w a) (hb : AnsIs w b) : callD Tryz.prog 10 #[.slice a.p a.k a.c, .slice b.p b.k b.c] w fun r w' => r = .bool ((strOfNums a.xs).toList == (strOfNums b.xs).toList) ∧ w' = w := by
  apply F10_wp
  unfold F10_den
  exact conv ha.1 ha.2 (conv hb.1 hb.2 (eqS ⟨rfl, rfl⟩))
theorem alike_ok {w : World} {a b : Ans} (ha : AnsIs w a) (hb : AnsIs w b) : callD Tryz.prog 5 #[a.val, b.val] w fun r w' => r = .bool (alike a b) ∧ Ext w w' := by
  apply F5_wp
  unfold F5_den
  refine bx fun g w1 h1 x1 => ?_
  refine bx fun g' w2 h2 x2 => ?_
  have h1' := h1.ext x2
  refine ldB h1' (by first | exact fa_24_0 | exact fa_24_1 | exact fa_24_2) (by first | exact l1_22 | exact l1_3) rfl ?_
  refine ldB h2 (by first | exact fa_24_0 | exact fa_24_1 | exact fa_24_2) (by first | exact l1_22 | exact l1_3) rfl ?_
  refine V_eqlI.2 ?_
  have hx := x1.trans x2
  by_cases he : a.s = b.s
  · rw [decide_eq_true he]
    simp only [gd_t]
    refine ldB h1' (by first | exact fa_24_0 | exact fa_24_1 | exact fa_24_2) (by first | exact l1_22 | exact l1_3) rfl ?_
    refine ldB h2 (by first | exact fa_24_0 | exact fa_24_1 | exact fa_24_2) (by first | exact l1_22 | exact l1_3) rfl ?_
    refine (equal_ok (ha.ext hx) (hb.ext hx)).mono fun r w3 ⟨hr, hw⟩ => ?_
    subst hr hw
    simp only [pickD_iff, reduceIte]
    cases hq : ((strOfNums a.xs).toList == (strOfNums b.xs).toList) with
    | true =>
      simp only [gd_t]
      refine ldB h1' (by first | exact fa_24_0 | exact fa_24_1 | exact fa_24_2) (by first | exact l1_22 | exact l1_3) rfl ?_
      refine V_ln_22.2 ?_
      refine ldB h2 (by first | exact fa_24_0 | exact fa_24_1 | exact fa_24_2) (by first | exact l1_22 | exact l1_3) rfl ?_
      refine V_ln_22.2 ?_
      refine V_eqlI.2 ?_
      exact ⟨by simp [alike, he, hq], hx⟩
    | false =>
      simp only [gd_ft, gd_undef, pickD_iff, Bool.false_eq_true, reduceIte]
      exact ⟨by simp [alike, hq], hx⟩
  · rw [decide_eq_false he]
    simp only [gd_ft, gd_undef, pickD_iff, Bool.false_eq_true, reduceIte]
    exact ⟨by simp [alike, he], hx⟩
theorem alike_self (a : Ans) : alike a a = true := by simp [alike]
set_option maxHeartbeats 1000000 in
theorem law_ok {w : World} {a b : Ans} {near : Bool} (ha : AnsIs w a) (hb : AnsIs w b) (hn : a.n ≤ 281474976710656)
    (known : ∀ w, callD Tryz.prog 4 #[] w fun v w' => v = .bool true ∧ Ext w w') :
    callD Tryz.prog 3 #[a.val, b.val, .bool near] w fun r w' => r = .bool true ∧ Ext w w' := by
  apply F3_wp
  unfold F3_den
  refine bxK fun w1 h1 x1 => ?_
  refine bxK fun w2 h2 x2 => ?_
  have h1' : Blk w2 w.heap.size a.cells 24 := h1.ext x2
  have h2' : Blk w2 w1.heap.size b.cells 24 := h2
  have hlt : w.heap.size < w1.heap.size := h1.lt
  refine ⟨fun w' => ∃ b' : Ans, AnsIs w b' ∧ Blk w' w.heap.size a.cells 24 ∧ Blk w' w1.heap.size b'.cells 24 ∧ Ext w w', ifD.mk (fun hnear => ?_) (fun _ => ⟨b, hb, h1', h2', x1.trans x2⟩), ?_⟩
  · refine drawD.mk' (fun w' => Boxed w' w.heap.size a.cells) h1'.drew.boxed ?_
    refine yfB (fun _ hw => hw) (by first | exact fa_24_0 | exact fa_24_1 | exact fa_24_2) (by first | exact l1_22 | exact l1_3) rfl ?_
    refine yfB (fun _ hw => hw) (by first | exact fa_24_0 | exact fa_24_1 | exact fa_24_2) (by first | exact l1_22 | exact l1_3) rfl ?_
    refine yfB (fun _ hw => hw) (by first | exact fa_24_0 | exact fa_24_1 | exact fa_24_2) (by first | exact l1_22 | exact l1_3) rfl ?_
    refine yieldS.ok (fun w' _ => r_len Tryz.underlying22) ?_
    refine mkB Tryz.underlying22 inf5 rfl (n := a.n) (by omega) (by omega) fun w' hb' x' hs' => ?_
    have X : Ext w2 w' := (Ext.refl w2).drew.trans x'
    refine ⟨(h1'.ext X).boxed, ?_⟩
    refine yBld bd_24 [(0, .int .i64 a.s), (1, .slice a.p a.k a.c), (2, _)] rfl rfl ?_
    refine st3 inf24 (h2'.ext X) rfl rfl rfl ?_
    exact ⟨⟨a.s, a.p, a.k, a.c, a.xs, some ⟨w2.drew.heap.size, 0, none⟩, a.n, a.n⟩, ha, (h1'.ext X).other3 (by omega), (h2'.ext X).set3, ext3 ((x1.trans x2).trans X) (by omega)⟩
  · rintro w6 ⟨b', hb', k1, k2, x6⟩ _
    have c1 := k1.boxed
    have c2 := k2.boxed
    have key : callD Tryz.prog 4 #[] w6 fun t41 w28 =>
        gd t41 true (fun K => V Tryz.prog (Instr.loadAt 24 (.pointer (some ⟨w.heap.size, 0, none⟩))) w28 K) w28 fun t43 w29 =>
        gd t41 true (fun K => V Tryz.prog (Instr.loadAt 24 (.pointer (some ⟨w1.heap.size, 0, none⟩))) w29 K) w29 fun t44 w30 =>
        gd t41 true (fun K => callD Tryz.prog 5 #[t43, t44] w30 K) w30 fun t45 w31 =>
        gd t41 true (fun K => K (.bool (alike a b')) w31) w31 fun t46 w32 =>
        gd t41 true (fun K => V Tryz.prog (do eqGuard .eql 4 (Operand.tmp 45) (Operand.tmp 46) t45 t46; binOp .eql 4 t45 t46) w32 K) w32 fun t47 w33 =>
        pickD t41 t47 (Value.bool false) fun t48 =>
        gd t48 true (fun K => V Tryz.prog (Instr.loadAt 24 (.pointer (some ⟨w.heap.size, 0, none⟩))) w33 K) w33 fun t50 w35 =>
        gd t48 true (fun K => V Tryz.prog (Instr.loadAt 24 (.pointer (some ⟨w.heap.size, 0, none⟩))) w35 K) w35 fun t51 w36 =>
        gd t48 true (fun K => callD Tryz.prog 5 #[t50, t51] w36 K) w36 fun t52 w37 =>
        pickD t48 t52 (Value.bool false) fun t53 =>
        (fun r w' => r = .bool true ∧ Ext w w') t53 w37 := by
      refine (known w6).mono fun r w7 ⟨hr, x7⟩ => ?_
      subst hr
      simp only [gd_t]
      have X7 := x6.trans x7
      refine ldA (k1.ext x7).boxed la_24 rfl ?_
      refine ldA (k2.ext x7).boxed la_24 rfl ?_
      refine (alike_ok (a := a) (b := b') (ha.ext X7) (hb'.ext X7)).mono fun r w8 ⟨hr, x8⟩ => ?_
      subst hr
      refine V_eqb_4.2 ?_
      simp only [pickD_iff, reduceIte, beq_self_eq_true, gd_t]
      have x78 := x7.trans x8
      refine ldA (k1.ext x78).boxed la_24 rfl ?_
      refine ldA (k1.ext x78).boxed la_24 rfl ?_
      have X8 := X7.trans x8
      refine (alike_ok (a := a) (b := a) (ha.ext X8) (ha.ext X8)).mono fun r w9 ⟨hr, x9⟩ => ?_
      subst hr
      rw [alike_self]
      simp only [pickD_iff, reduceIte]
      exact ⟨by trivial, X8.trans x9⟩
    refine ldB c1 (by first | exact fa_24_0 | exact fa_24_1 | exact fa_24_2) (by first | exact l1_22 | exact l1_3) rfl ?_
    refine ldB c2 (by first | exact fa_24_0 | exact fa_24_1 | exact fa_24_2) (by first | exact l1_22 | exact l1_3) rfl ?_
    refine V_eqlI.2 ?_
    by_cases he : a.s = b'.s
    · rw [decide_eq_true he]
      simp only [gd_t]
      refine ldB c1 (by first | exact fa_24_0 | exact fa_24_1 | exact fa_24_2) (by first | exact l1_22 | exact l1_3) rfl ?_
      refine conv (ha.ext x6).1 ha.2 ?_
      refine ldB c2 (by first | exact fa_24_0 | exact fa_24_1 | exact fa_24_2) (by first | exact l1_22 | exact l1_3) rfl ?_
      refine conv (hb'.ext x6).1 hb'.2 ?_
      refine eqS ?_
      simp only [pickD_iff, reduceIte]
      cases hq : ((strOfNums a.xs).toList == (strOfNums b'.xs).toList) with
      | true =>
        simp only [gd_t]
        refine ldB c1 (by first | exact fa_24_0 | exact fa_24_1 | exact fa_24_2) (by first | exact l1_22 | exact l1_3) rfl ?_
        refine V_ln_22.2 ?_
        refine ldB c2 (by first | exact fa_24_0 | exact fa_24_1 | exact fa_24_2) (by first | exact l1_22 | exact l1_3) rfl ?_
        refine V_ln_22.2 ?_
        refine V_eqlI.2 ?_
        have hw : alike a b' = decide ((a.n : Int) = b'.n) := by simp [alike, he, hq]
        rw [hw] at key
        exact key
      | false =>
        simp only [gd_ft, gd_undef, pickD_iff, Bool.false_eq_true, reduceIte]
        have hw : alike a b' = false := by simp [alike, hq]
        rw [hw] at key
        exact key
    · rw [decide_eq_false he]
      simp only [gd_ft, gd_undef, pickD_iff, Bool.false_eq_true, reduceIte]
      have hw : alike a b' = false := by simp [alike, he]
      rw [hw] at key
      exact key
end Go.Proofs.YtbigfaomhfmpkaaGreatDoor
