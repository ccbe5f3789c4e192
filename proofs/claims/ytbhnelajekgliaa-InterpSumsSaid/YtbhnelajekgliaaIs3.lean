/- InterpSums: the ten operations. -/
import Derived.Test.YtbhnelajekgliaaIs2
namespace Go.Proofs.Ytbhnelajekgliaa
open Go.Vc
def c31 (b : Int) : Int := IntKind.i32.wrap (BitVec.ofInt IntKind.i32.bits b &&& BitVec.ofInt IntKind.i32.bits 31).toNat
theorem c31_r (b : Int) : 0 ≤ c31 b ∧ c31 b ≤ 31 := by
  have h : (BitVec.ofInt IntKind.i32.bits b &&& BitVec.ofInt IntKind.i32.bits 31).toNat ≤ 31 := by
    rw [BitVec.toNat_and]
    exact Nat.le_trans Nat.and_le_right (by decide)
  unfold c31
  generalize (BitVec.ofInt IntKind.i32.bits b &&& BitVec.ofInt IntKind.i32.bits 31).toNat = n at h
  simp only [IntKind.wrap_i32]
  omega
theorem c31_u (b : Int) : IntKind.u64.wrap (IntKind.i32.wrap (BitVec.ofInt IntKind.i32.bits b &&& BitVec.ofInt IntKind.i32.bits 31).toNat) = c31 b := by
  have h := c31_r b
  show IntKind.u64.wrap (c31 b) = c31 b
  generalize c31 b = c at h
  have e : IntKind.u64.wrap c = c % 18446744073709551616 := by simp [IntKind.wrap, IntKind.bits, IntKind.signed]
  rw [e]
  omega
def R32 (a : Int) : Prop := -2147483648 ≤ a ∧ a ≤ 2147483647
theorem wrap_r (n : Int) : R32 (IntKind.i32.wrap n) := by
  unfold R32
  simp only [IntKind.wrap_i32]
  omega
theorem fdiv_r {a : Int} {k : Nat} (ha : R32 a) : R32 (a.fdiv (2 ^ k)) := by
  have hp : (0 : Int) < 2 ^ k := by
    have : (0 : Int) < ((2 ^ k : Nat) : Int) := by exact_mod_cast Nat.two_pow_pos k
    simpa using this
  rw [Int.fdiv_eq_ediv_of_nonneg _ (Int.le_of_lt hp)]
  generalize (2 : Int) ^ k = d at hp
  unfold R32 at *
  refine ⟨?_, ?_⟩
  · rw [Int.le_ediv_iff_mul_le hp]
    have := Int.mul_le_mul_of_nonpos_left (show (-2147483648 : Int) ≤ 0 by decide) (show (1 : Int) ≤ d by omega)
    omega
  · have : a / d < 2147483648 := by
      rw [Int.ediv_lt_iff_lt_mul hp]
      have := Int.mul_le_mul_of_nonneg_left (show (1 : Int) ≤ d by omega) (show (0 : Int) ≤ 2147483648 by decide)
      omega
    omega
theorem lt_eq {a b : Int} (ha : R32 a) (hb : R32 b) : IntKind.i32.wrap ((IntKind.u64.wrap (IntKind.i64.wrap (IntKind.i64.wrap a - IntKind.i64.wrap b))).fdiv (2 ^ (min (63 : Int).toNat IntKind.u64.bits))) = if a < b then 1 else 0 := by
  unfold R32 at ha hb
  rw [wrap_id (n := a) (by omega) (by omega), wrap_id (n := b) (by omega) (by omega), wrap_id (by omega) (by omega)]
  have e : ∀ n : Int, IntKind.u64.wrap n = n % 18446744073709551616 := fun n => by simp [IntKind.wrap, IntKind.bits, IntKind.signed]
  have e2 : ((2 : Int) ^ (min (63 : Int).toNat IntKind.u64.bits)) = 9223372036854775808 := by decide
  rw [e, e2, Int.fdiv_eq_ediv_of_nonneg _ (by decide)]
  simp only [IntKind.wrap_i32]
  split <;> omega
/-- A number's operation, in both. -/
def OpF (op : Int) (f : Int → Int → Int) : Prop := (op ≥ 6 ∧ op ≤ 20 ∧ op ≠ 15 ∧ op ≠ 16 ∧ op ≠ 17 ∧ op ≠ 18 ∧ op ≠ 19) ∧ ∀ a b : Int, R32 a → R32 b → (∀ w, callD Try.prog 62 #[i64 op, i32 a, i32 b] w fun r w' => r = i32 (f a b) ∧ w' = w) ∧ (∀ w, callD Try.prog 5 #[i64 op, i32 a, i32 b] w fun r w' => r = i32 (f a b) ∧ w' = w) ∧ R32 (f a b)

theorem w6 {a b : Int} (ha : R32 a) (hb : R32 b) {w : World} : callD Try.prog 77 #[i32 a, i32 b] w fun r w' => r = i32 (IntKind.i32.wrap (a + b)) ∧ w' = w := by
  apply F77_wp
  unfold F77_den
  exact V.ok r_add ⟨rfl, rfl⟩
theorem d6 {a b : Int} (ha : R32 a) (hb : R32 b) {w : World} : callD Try.prog 5 #[i64 6, i32 a, i32 b] w fun r w' => r = i32 (IntKind.i32.wrap (a + b)) ∧ w' = w := by
  apply F5_wp
  unfold F5_den
  simp only [V_eqlI, Int.reduceEq, decide_true, decide_false, ifD_true, ifD_false]
  exact V.ok r_add ⟨rfl, rfl⟩
theorem op6 : OpF 6 fun a b => IntKind.i32.wrap (a + b) := by
  refine ⟨by decide, fun a b ha hb => ⟨fun w => ?_, fun w => d6 ha hb, ?_⟩⟩
  · apply F62_wp
    have key : ∀ {R : Value → World → Prop}, callD Try.prog 77 #[i32 a, i32 b] w R → F62_den (i64 6) (i32 a) (i32 b) w R := by
      intro R h
      unfold F62_den
      simp only [V_eqlI, Int.reduceEq, decide_true, decide_false, ifD_true, ifD_false]
      exact h
    exact key (w6 ha hb)
  · exact wrap_r _
theorem w7 {a b : Int} (ha : R32 a) (hb : R32 b) {w : World} : callD Try.prog 78 #[i32 a, i32 b] w fun r w' => r = i32 (IntKind.i32.wrap (a - b)) ∧ w' = w := by
  apply F78_wp
  unfold F78_den
  exact V.ok r_sub ⟨rfl, rfl⟩
theorem d7 {a b : Int} (ha : R32 a) (hb : R32 b) {w : World} : callD Try.prog 5 #[i64 7, i32 a, i32 b] w fun r w' => r = i32 (IntKind.i32.wrap (a - b)) ∧ w' = w := by
  apply F5_wp
  unfold F5_den
  simp only [V_eqlI, Int.reduceEq, decide_true, decide_false, ifD_true, ifD_false]
  exact V.ok r_sub ⟨rfl, rfl⟩
theorem op7 : OpF 7 fun a b => IntKind.i32.wrap (a - b) := by
  refine ⟨by decide, fun a b ha hb => ⟨fun w => ?_, fun w => d7 ha hb, ?_⟩⟩
  · apply F62_wp
    have key : ∀ {R : Value → World → Prop}, callD Try.prog 78 #[i32 a, i32 b] w R → F62_den (i64 7) (i32 a) (i32 b) w R := by
      intro R h
      unfold F62_den
      simp only [V_eqlI, Int.reduceEq, decide_true, decide_false, ifD_true, ifD_false]
      exact h
    exact key (w7 ha hb)
  · exact wrap_r _
theorem w8 {a b : Int} (ha : R32 a) (hb : R32 b) {w : World} : callD Try.prog 79 #[i32 a, i32 b] w fun r w' => r = i32 (IntKind.i32.wrap (a * b)) ∧ w' = w := by
  apply F79_wp
  unfold F79_den
  exact V.ok r_mul ⟨rfl, rfl⟩
theorem d8 {a b : Int} (ha : R32 a) (hb : R32 b) {w : World} : callD Try.prog 5 #[i64 8, i32 a, i32 b] w fun r w' => r = i32 (IntKind.i32.wrap (a * b)) ∧ w' = w := by
  apply F5_wp
  unfold F5_den
  simp only [V_eqlI, Int.reduceEq, decide_true, decide_false, ifD_true, ifD_false]
  exact V.ok r_mul ⟨rfl, rfl⟩
theorem op8 : OpF 8 fun a b => IntKind.i32.wrap (a * b) := by
  refine ⟨by decide, fun a b ha hb => ⟨fun w => ?_, fun w => d8 ha hb, ?_⟩⟩
  · apply F62_wp
    have key : ∀ {R : Value → World → Prop}, callD Try.prog 79 #[i32 a, i32 b] w R → F62_den (i64 8) (i32 a) (i32 b) w R := by
      intro R h
      unfold F62_den
      simp only [V_eqlI, Int.reduceEq, decide_true, decide_false, ifD_true, ifD_false]
      exact h
    exact key (w8 ha hb)
  · exact wrap_r _
theorem w9 {a b : Int} (ha : R32 a) (hb : R32 b) {w : World} : callD Try.prog 80 #[i32 a, i32 b] w fun r w' => r = i32 (IntKind.i32.wrap (BitVec.ofInt IntKind.i32.bits a &&& BitVec.ofInt IntKind.i32.bits b).toNat) ∧ w' = w := by
  apply F80_wp
  unfold F80_den
  exact V.ok r_and ⟨rfl, rfl⟩
theorem d9 {a b : Int} (ha : R32 a) (hb : R32 b) {w : World} : callD Try.prog 5 #[i64 9, i32 a, i32 b] w fun r w' => r = i32 (IntKind.i32.wrap (BitVec.ofInt IntKind.i32.bits a &&& BitVec.ofInt IntKind.i32.bits b).toNat) ∧ w' = w := by
  apply F5_wp
  unfold F5_den
  simp only [V_eqlI, Int.reduceEq, decide_true, decide_false, ifD_true, ifD_false]
  exact V.ok r_and ⟨rfl, rfl⟩
theorem op9 : OpF 9 fun a b => IntKind.i32.wrap (BitVec.ofInt IntKind.i32.bits a &&& BitVec.ofInt IntKind.i32.bits b).toNat := by
  refine ⟨by decide, fun a b ha hb => ⟨fun w => ?_, fun w => d9 ha hb, ?_⟩⟩
  · apply F62_wp
    have key : ∀ {R : Value → World → Prop}, callD Try.prog 80 #[i32 a, i32 b] w R → F62_den (i64 9) (i32 a) (i32 b) w R := by
      intro R h
      unfold F62_den
      simp only [V_eqlI, Int.reduceEq, decide_true, decide_false, ifD_true, ifD_false]
      exact h
    exact key (w9 ha hb)
  · exact wrap_r _
theorem w10 {a b : Int} (ha : R32 a) (hb : R32 b) {w : World} : callD Try.prog 81 #[i32 a, i32 b] w fun r w' => r = i32 (IntKind.i32.wrap (BitVec.ofInt IntKind.i32.bits a ||| BitVec.ofInt IntKind.i32.bits b).toNat) ∧ w' = w := by
  apply F81_wp
  unfold F81_den
  exact V.ok r_or ⟨rfl, rfl⟩
theorem d10 {a b : Int} (ha : R32 a) (hb : R32 b) {w : World} : callD Try.prog 5 #[i64 10, i32 a, i32 b] w fun r w' => r = i32 (IntKind.i32.wrap (BitVec.ofInt IntKind.i32.bits a ||| BitVec.ofInt IntKind.i32.bits b).toNat) ∧ w' = w := by
  apply F5_wp
  unfold F5_den
  simp only [V_eqlI, Int.reduceEq, decide_true, decide_false, ifD_true, ifD_false]
  exact V.ok r_or ⟨rfl, rfl⟩
theorem op10 : OpF 10 fun a b => IntKind.i32.wrap (BitVec.ofInt IntKind.i32.bits a ||| BitVec.ofInt IntKind.i32.bits b).toNat := by
  refine ⟨by decide, fun a b ha hb => ⟨fun w => ?_, fun w => d10 ha hb, ?_⟩⟩
  · apply F62_wp
    have key : ∀ {R : Value → World → Prop}, callD Try.prog 81 #[i32 a, i32 b] w R → F62_den (i64 10) (i32 a) (i32 b) w R := by
      intro R h
      unfold F62_den
      simp only [V_eqlI, Int.reduceEq, decide_true, decide_false, ifD_true, ifD_false]
      exact h
    exact key (w10 ha hb)
  · exact wrap_r _
theorem w11 {a b : Int} (ha : R32 a) (hb : R32 b) {w : World} : callD Try.prog 82 #[i32 a, i32 b] w fun r w' => r = i32 (IntKind.i32.wrap (BitVec.ofInt IntKind.i32.bits a ^^^ BitVec.ofInt IntKind.i32.bits b).toNat) ∧ w' = w := by
  apply F82_wp
  unfold F82_den
  exact V.ok r_xor ⟨rfl, rfl⟩
theorem d11 {a b : Int} (ha : R32 a) (hb : R32 b) {w : World} : callD Try.prog 5 #[i64 11, i32 a, i32 b] w fun r w' => r = i32 (IntKind.i32.wrap (BitVec.ofInt IntKind.i32.bits a ^^^ BitVec.ofInt IntKind.i32.bits b).toNat) ∧ w' = w := by
  apply F5_wp
  unfold F5_den
  simp only [V_eqlI, Int.reduceEq, decide_true, decide_false, ifD_true, ifD_false]
  exact V.ok r_xor ⟨rfl, rfl⟩
theorem op11 : OpF 11 fun a b => IntKind.i32.wrap (BitVec.ofInt IntKind.i32.bits a ^^^ BitVec.ofInt IntKind.i32.bits b).toNat := by
  refine ⟨by decide, fun a b ha hb => ⟨fun w => ?_, fun w => d11 ha hb, ?_⟩⟩
  · apply F62_wp
    have key : ∀ {R : Value → World → Prop}, callD Try.prog 82 #[i32 a, i32 b] w R → F62_den (i64 11) (i32 a) (i32 b) w R := by
      intro R h
      unfold F62_den
      simp only [V_eqlI, Int.reduceEq, decide_true, decide_false, ifD_true, ifD_false]
      exact h
    exact key (w11 ha hb)
  · exact wrap_r _
theorem w12 {a b : Int} (ha : R32 a) (hb : R32 b) {w : World} : callD Try.prog 83 #[i32 a, i32 b] w fun r w' => r = i32 (IntKind.i32.wrap (a * 2 ^ (min (c31 b).toNat IntKind.i32.bits))) ∧ w' = w := by
  apply F83_wp
  unfold F83_den
  exact V.ok r_and (V.ok (r_shl (c31_r b).1) ⟨rfl, rfl⟩)
theorem d12 {a b : Int} (ha : R32 a) (hb : R32 b) {w : World} : callD Try.prog 5 #[i64 12, i32 a, i32 b] w fun r w' => r = i32 (IntKind.i32.wrap (a * 2 ^ (min (c31 b).toNat IntKind.i32.bits))) ∧ w' = w := by
  apply F5_wp
  unfold F5_den
  simp only [V_eqlI, Int.reduceEq, decide_true, decide_false, ifD_true, ifD_false]
  refine V.ok r_and (V.ok (r_convI Try.underlying21 Try.underlying39) ?_)
  rw [c31_u b]
  exact V.ok (r_shl (c31_r b).1) ⟨rfl, rfl⟩
theorem op12 : OpF 12 fun a b => IntKind.i32.wrap (a * 2 ^ (min (c31 b).toNat IntKind.i32.bits)) := by
  refine ⟨by decide, fun a b ha hb => ⟨fun w => ?_, fun w => d12 ha hb, ?_⟩⟩
  · apply F62_wp
    have key : ∀ {R : Value → World → Prop}, callD Try.prog 83 #[i32 a, i32 b] w R → F62_den (i64 12) (i32 a) (i32 b) w R := by
      intro R h
      unfold F62_den
      simp only [V_eqlI, Int.reduceEq, decide_true, decide_false, ifD_true, ifD_false]
      exact h
    exact key (w12 ha hb)
  · exact wrap_r _
theorem w13 {a b : Int} (ha : R32 a) (hb : R32 b) {w : World} : callD Try.prog 84 #[i32 a, i32 b] w fun r w' => r = i32 (IntKind.i32.wrap ((IntKind.u32.wrap a).fdiv (2 ^ (min (c31 b).toNat IntKind.u32.bits)))) ∧ w' = w := by
  apply F84_wp
  unfold F84_den
  exact V.ok (r_convI Try.underlying21 Try.underlying40) (V.ok r_and (V.ok (r_shr (c31_r b).1) (V.ok (r_convI Try.underlying40 Try.underlying21) ⟨rfl, rfl⟩)))
theorem d13 {a b : Int} (ha : R32 a) (hb : R32 b) {w : World} : callD Try.prog 5 #[i64 13, i32 a, i32 b] w fun r w' => r = i32 (IntKind.i32.wrap ((IntKind.u32.wrap a).fdiv (2 ^ (min (c31 b).toNat IntKind.u32.bits)))) ∧ w' = w := by
  apply F5_wp
  unfold F5_den
  simp only [V_eqlI, Int.reduceEq, decide_true, decide_false, ifD_true, ifD_false]
  refine V.ok (r_convI Try.underlying21 Try.underlying40) (V.ok r_and (V.ok (r_convI Try.underlying21 Try.underlying39) ?_))
  rw [c31_u b]
  exact V.ok (r_shr (c31_r b).1) (V.ok (r_convI Try.underlying40 Try.underlying21) ⟨rfl, rfl⟩)
theorem op13 : OpF 13 fun a b => IntKind.i32.wrap ((IntKind.u32.wrap a).fdiv (2 ^ (min (c31 b).toNat IntKind.u32.bits))) := by
  refine ⟨by decide, fun a b ha hb => ⟨fun w => ?_, fun w => d13 ha hb, ?_⟩⟩
  · apply F62_wp
    have key : ∀ {R : Value → World → Prop}, callD Try.prog 84 #[i32 a, i32 b] w R → F62_den (i64 13) (i32 a) (i32 b) w R := by
      intro R h
      unfold F62_den
      simp only [V_eqlI, Int.reduceEq, decide_true, decide_false, ifD_true, ifD_false]
      exact h
    exact key (w13 ha hb)
  · exact wrap_r _
theorem w14 {a b : Int} (ha : R32 a) (hb : R32 b) {w : World} : callD Try.prog 85 #[i32 a, i32 b] w fun r w' => r = i32 (a.fdiv (2 ^ (min (c31 b).toNat IntKind.i32.bits))) ∧ w' = w := by
  apply F85_wp
  unfold F85_den
  exact V.ok r_and (V.ok (r_shr (c31_r b).1) ⟨rfl, rfl⟩)
theorem d14 {a b : Int} (ha : R32 a) (hb : R32 b) {w : World} : callD Try.prog 5 #[i64 14, i32 a, i32 b] w fun r w' => r = i32 (a.fdiv (2 ^ (min (c31 b).toNat IntKind.i32.bits))) ∧ w' = w := by
  apply F5_wp
  unfold F5_den
  simp only [V_eqlI, Int.reduceEq, decide_true, decide_false, ifD_true, ifD_false]
  refine V.ok r_and (V.ok (r_convI Try.underlying21 Try.underlying39) ?_)
  rw [c31_u b]
  exact V.ok (r_shr (c31_r b).1) ⟨rfl, rfl⟩
theorem op14 : OpF 14 fun a b => a.fdiv (2 ^ (min (c31 b).toNat IntKind.i32.bits)) := by
  refine ⟨by decide, fun a b ha hb => ⟨fun w => ?_, fun w => d14 ha hb, ?_⟩⟩
  · apply F62_wp
    have key : ∀ {R : Value → World → Prop}, callD Try.prog 85 #[i32 a, i32 b] w R → F62_den (i64 14) (i32 a) (i32 b) w R := by
      intro R h
      unfold F62_den
      simp only [V_eqlI, Int.reduceEq, decide_true, decide_false, ifD_true, ifD_false]
      exact h
    exact key (w14 ha hb)
  · exact fdiv_r ha
theorem w20 {a b : Int} (ha : R32 a) (hb : R32 b) {w : World} : callD Try.prog 86 #[i32 a, i32 b] w fun r w' => r = i32 (if a < b then 1 else 0) ∧ w' = w := by
  apply F86_wp
  unfold F86_den
  refine V.ok (r_convI Try.underlying21 Try.underlying2) (V.ok (r_convI Try.underlying21 Try.underlying2) (V.ok r_sub (V.ok (r_convI Try.underlying2 Try.underlying142) (V.ok (r_shr (by decide)) (V.ok (r_convI Try.underlying142 Try.underlying21) ⟨?_, rfl⟩)))))
  rw [lt_eq ha hb]
theorem d20 {a b : Int} (ha : R32 a) (hb : R32 b) {w : World} : callD Try.prog 5 #[i64 20, i32 a, i32 b] w fun r w' => r = i32 (if a < b then 1 else 0) ∧ w' = w := by
  apply F5_wp
  unfold F5_den
  simp only [V_eqlI, Int.reduceEq, decide_true, decide_false, ifD_true, ifD_false]
  refine V.ok r_lss ?_
  apply F11_wp
  unfold F11_den
  exact ifD_dec (fun h => ⟨by rw [if_pos h], rfl⟩) fun h => ⟨by rw [if_neg h], rfl⟩
theorem op20 : OpF 20 fun a b => if a < b then 1 else 0 := by
  refine ⟨by decide, fun a b ha hb => ⟨fun w => ?_, fun w => d20 ha hb, ?_⟩⟩
  · apply F62_wp
    have key : ∀ {R : Value → World → Prop}, callD Try.prog 86 #[i32 a, i32 b] w R → F62_den (i64 20) (i32 a) (i32 b) w R := by
      intro R h
      unfold F62_den
      simp only [V_eqlI, Int.reduceEq, decide_true, decide_false, ifD_true, ifD_false]
      exact h
    exact key (w20 ha hb)
  · show -2147483648 ≤ (if a < b then (1 : Int) else 0) ∧ (if a < b then (1 : Int) else 0) ≤ 2147483647
    split <;> omega
end Go.Proofs.Ytbhnelajekgliaa
