/- Numbers, texts, equality: what the evaluator makes of them is what the model makes. -/
import Derived.Test.YtmbeoehgpffneaaGreatDoorA2
import Derived.Laws.StructEq
import Derived.Laws.Concat
import Derived.Laws.IdiomStrings
import Derived.Laws.BytesString
namespace Go.Ab
noncomputable section

/-! ### Numbers -/
def modK : IntKind → Nat
  | .i8 | .u8 => 256
  | .i16 | .u16 => 65536
  | .i32 | .u32 => 4294967296
  | .i64 | .u64 => 18446744073709551616
def halfK : IntKind → Nat
  | .i8 => 128 | .u8 => 256
  | .i16 => 32768 | .u16 => 65536
  | .i32 => 2147483648 | .u32 => 4294967296
  | .i64 => 9223372036854775808 | .u64 => 18446744073709551616
/-- A number below the modulus, as the kind has it. -/
def backF (k : IntKind) (r : Nat) : Int := match Nat.blt r (halfK k) with | true => .ofNat r | false => .negSucc (modK k - r - 1)
def toU (k : IntKind) : Int → Nat
  | .ofNat m => m % modK k
  | .negSucc m => modK k - 1 - m % modK k
def wrapF (k : IntKind) (n : Int) : Int := backF k (toU k n)
theorem toU_eq (k : IntKind) (n : Int) : (toU k n : Int) = n % (modK k : Int) := by
  cases n with
  | ofNat m => simp [toU]
  | negSucc m => cases k <;> simp only [toU, modK] <;> omega
theorem toU_lt (k : IntKind) (n : Int) : toU k n < modK k := by
  cases n with
  | ofNat m => exact Nat.mod_lt _ (by cases k <;> decide)
  | negSucc m => cases k <;> simp only [toU, modK] <;> omega
theorem wrap_eq (k : IntKind) (n : Int) : k.wrap n = (if n % (modK k : Int) < (halfK k : Int) then n % (modK k : Int) else n % (modK k : Int) - (modK k : Int)) := by
  cases k <;> simp [IntKind.wrap, IntKind.bits, IntKind.signed, modK, halfK] <;> omega
theorem backF_eq (k : IntKind) {r : Nat} (h : r < modK k) : backF k r = (if (r : Int) < (halfK k : Int) then (r : Int) else (r : Int) - (modK k : Int)) := by
  unfold backF
  cases hb : Nat.blt r (halfK k) with
  | true => rw [Nat.blt_eq] at hb; simp only []; rw [if_pos (by omega)]; rfl
  | false =>
    have : ¬ r < halfK k := fun h' => by rw [← Nat.blt_eq, hb] at h'; cases h'
    simp only []
    rw [if_neg (by omega), Int.negSucc_eq]
    omega
theorem wrapF_eq (k : IntKind) (n : Int) : wrapF k n = k.wrap n := by
  unfold wrapF
  rw [backF_eq k (toU_lt k n), wrap_eq, toU_eq]
def ltI : Int → Int → Bool
  | .ofNat a, .ofNat b => Nat.blt a b
  | .negSucc a, .negSucc b => Nat.blt b a
  | .negSucc _, .ofNat _ => true
  | .ofNat _, .negSucc _ => false
theorem ltI_eq (a b : Int) : ltI a b = decide (a < b) := by
  cases a <;> cases b <;> simp only [ltI] <;> rw [Bool.eq_iff_iff] <;> simp only [Nat.blt_eq, decide_eq_true_eq, Int.ofNat_eq_natCast, Bool.false_eq_true, false_iff, true_iff] <;> omega
def leI (a b : Int) : Bool := match ltI b a with | true => false | false => true
theorem leI_eq (a b : Int) : leI a b = decide (a ≤ b) := by
  unfold leI
  rw [ltI_eq]
  by_cases h : a ≤ b
  · have : ¬ b < a := by omega
    simp [h, this]
  · have : b < a := by omega
    simp [h, this]
def eqI : Int → Int → Bool
  | .ofNat a, .ofNat b => Nat.beq a b
  | .negSucc a, .negSucc b => Nat.beq a b
  | _, _ => false
theorem eqI_eq (a b : Int) : eqI a b = (a == b) := by
  cases a <;> cases b <;> simp only [eqI] <;> rw [Bool.eq_iff_iff] <;> simp only [Nat.beq_eq, beq_iff_eq, Int.ofNat_eq_natCast, Bool.false_eq_true, false_iff] <;> omega
def notB : Bool → Bool
  | true => false
  | false => true
theorem notB_eq (b : Bool) : notB b = !b := by cases b <;> rfl
def kindEq : IntKind → IntKind → Bool
  | .i8, .i8 | .i16, .i16 | .i32, .i32 | .i64, .i64 | .u8, .u8 | .u16, .u16 | .u32, .u32 | .u64, .u64 => true
  | _, _ => false
theorem kindEq_eq {a b : IntKind} (h : kindEq a b = true) : a = b := by cases a <;> cases b <;> first | rfl | cases h
def bitsOp (op : BinOp) (k : IntKind) (a b : Int) : Option Int :=
  match op with
  | .and => some (backF k (Nat.land (toU k a) (toU k b)))
  | .or => some (backF k (Nat.lor (toU k a) (toU k b)))
  | .xor => some (backF k (Nat.xor (toU k a) (toU k b)))
  | .andNot => some (backF k (Nat.land (toU k a) (modK k - 1 - toU k b)))
  | _ => none
theorem ofInt_toNat (k : IntKind) (a : Int) : (BitVec.ofInt k.bits a).toNat = toU k a := by
  rw [BitVec.toNat_ofInt]
  have h1 := toU_eq k a
  have : (2 ^ k.bits : Nat) = modK k := by cases k <;> rfl
  have h2 : ((2 ^ k.bits : Nat) : Int) = (modK k : Int) := by rw [this]
  rw [show (2 ^ k.bits : Nat) = modK k from this]
  omega
theorem modK_pow (k : IntKind) : modK k = 2 ^ k.bits := by cases k <;> rfl
theorem backF_wrap (k : IntKind) {r : Nat} (h : r < modK k) : backF k r = k.wrap (r : Int) := by
  rw [backF_eq k h, wrap_eq]
  have : (r : Int) % (modK k : Int) = r := Int.emod_eq_of_lt (by omega) (by omega)
  rw [this]
theorem bitsOp_run {op : BinOp} {k : IntKind} {a b r : Int} {P : Program} {w : World} (h : bitsOp op k a b = some r) : (Op.intBits op k a b).run P w = .ok (.int k r) w := by
  have h1 := ofInt_toNat k a
  have h2 := ofInt_toNat k b
  have l1 := toU_lt k a
  have l2 := toU_lt k b
  cases op <;> simp only [bitsOp, Option.some.injEq, reduceCtorEq] at h <;> subst h <;> simp only [Op.intBits, Sem.run_pure]
  · rw [BitVec.toNat_and, h1, h2, ← backF_wrap k (Nat.lt_of_le_of_lt Nat.and_le_left l1)]; rfl
  · rw [BitVec.toNat_or, h1, h2]
    rw [← backF_wrap k (by rw [modK_pow] at l1 l2 ⊢; exact Nat.or_lt_two_pow l1 l2)]; rfl
  · rw [BitVec.toNat_xor, h1, h2]
    rw [← backF_wrap k (by rw [modK_pow] at l1 l2 ⊢; exact Nat.xor_lt_two_pow l1 l2)]; rfl
  · rw [BitVec.toNat_and, BitVec.toNat_not, h1, h2, ← modK_pow, ← backF_wrap k (Nat.lt_of_le_of_lt Nat.and_le_left l1)]; rfl
def shrI : Int → Nat → Int
  | .ofNat m, n => .ofNat (m / 2 ^ n)
  | .negSucc m, n => .negSucc (m / 2 ^ n)
theorem shrI_eq (a : Int) (n : Nat) : shrI a n = a.fdiv (2 ^ n) := by
  have hp : (2 : Int) ^ n = ((2 ^ n : Nat) : Int) := by simp
  have h0 : 0 < 2 ^ n := Nat.two_pow_pos n
  rw [hp, Int.fdiv_eq_ediv_of_nonneg _ (by omega)]
  cases a with
  | ofNat m => simp [shrI]
  | negSucc m =>
    simp only [shrI]
    rw [Int.negSucc_ediv m (by omega : (0 : Int) < ((2 ^ n : Nat) : Int))]
    simp only [Int.negSucc_eq]
    rfl
def minN (a b : Nat) : Nat := match Nat.ble a b with | true => a | false => b
theorem minN_eq (a b : Nat) : minN a b = min a b := by
  unfold minN
  cases h : Nat.ble a b with
  | true => rw [Nat.ble_eq] at h; exact (Nat.min_eq_left h).symm
  | false => have : ¬ a ≤ b := fun h' => by rw [← Nat.ble_eq, h] at h'; cases h'
             simp only []; omega
def toN : Int → Option Nat
  | .ofNat m => some m
  | .negSucc _ => none
theorem toN_eq {a : Int} {n : Nat} (h : toN a = some n) : a = n := by cases a <;> simp [toN] at h; subst h; rfl
/-- What two numbers of a kind make. -/
def arith (op : BinOp) (k : IntKind) (a b : Int) : Option Value :=
  match op with
  | .add => some (.int k (wrapF k (a + b)))
  | .sub => some (.int k (wrapF k (a - b)))
  | .mul => some (.int k (wrapF k (a * b)))
  | .quo => match eqI b 0 with | true => none | false => some (.int k (wrapF k (a.tdiv b)))
  | .rem => match eqI b 0 with | true => none | false => some (.int k (a.tmod b))
  | .eql => some (.bool (eqI a b))
  | .neq => some (.bool (notB (eqI a b)))
  | .lss => some (.bool (ltI a b))
  | .leq => some (.bool (leI a b))
  | .gtr => some (.bool (ltI b a))
  | .geq => some (.bool (leI b a))
  | .and | .or | .xor | .andNot => (bitsOp op k a b).map (.int k)
  | _ => none
def shiftF (op : BinOp) (k : IntKind) (a b : Int) : Option Value :=
  match toN b with
  | none => none
  | some y => match op with
    | .shl => some (.int k (wrapF k (a * (2 ^ minN y k.bits : Nat))))
    | .shr => some (.int k (shrI a (minN y k.bits)))
    | _ => none
theorem arith_run {op : BinOp} {k : IntKind} {a b : Int} {v : Value} {t : TypeId} {P : Program} {w : World} (h : arith op k a b = some v) : (binOp op t (.int k a) (.int k b)).run P w = .ok v w := by
  cases op with
  | add | sub | mul =>
    simp only [arith, Option.some.injEq] at h
    subst h
    simp [binOp, Op.intArith, wrapF_eq]
  | quo | rem =>
    simp only [arith] at h
    cases he : eqI b 0 with
    | true => rw [he] at h; cases h
    | false =>
      rw [he] at h
      simp only [Option.some.injEq] at h
      subst h
      rw [eqI_eq] at he
      have hb : b ≠ 0 := by simpa using he
      simp [binOp, Op.intDiv, hb, wrapF_eq]
  | eql | neq | lss | leq | gtr | geq =>
    simp only [arith, Option.some.injEq] at h
    subst h
    simp [binOp, Op.intCmp, eqI_eq, notB_eq, ltI_eq, leI_eq, bne]
  | and | or | xor | andNot =>
    simp only [arith, Option.map_eq_some_iff] at h
    obtain ⟨r, hr, rfl⟩ := h
    simp only [binOp, ne_eq, not_true_eq_false, if_false]
    exact bitsOp_run hr
  | shl | shr => cases h
theorem shiftF_run {op : BinOp} {k yk : IntKind} {a b : Int} {v : Value} {t : TypeId} {P : Program} {w : World} (h : shiftF op k a b = some v) : (binOp op t (.int k a) (.int yk b)).run P w = .ok v w := by
  unfold shiftF at h
  split at h
  · cases h
  · rename_i y hy
    have := toN_eq hy
    subst this
    cases op <;> simp only [Option.some.injEq, reduceCtorEq] at h <;> subst h
    · have hn : ¬ ((y : Int) < 0) := by omega
      simp [binOp, Op.shift, hn, wrapF_eq, minN_eq]
    · have hn : ¬ ((y : Int) < 0) := by omega
      simp [binOp, Op.shift, hn, shrI_eq, minN_eq]

/-! ### Texts -/
def u8 (b : UInt8) : Nat := b.toNat
def eqBs : List UInt8 → List UInt8 → Bool
  | [], [] => true
  | a :: x, b :: y => match Nat.beq (u8 a) (u8 b) with | true => eqBs x y | false => false
  | _, _ => false
theorem eqBs_eq : ∀ x y : List UInt8, eqBs x y = (x == y)
  | [], [] => rfl
  | [], _ :: _ => rfl
  | _ :: _, [] => rfl
  | a :: x, b :: y => by
    simp only [eqBs]
    rw [List.cons_beq_cons, ← eqBs_eq x y]
    cases h : Nat.beq (u8 a) (u8 b) with
    | true =>
      have : a = b := UInt8.toNat_inj.1 (Nat.eq_of_beq_eq_true h)
      subst this; simp
    | false =>
      have : a ≠ b := fun he => by subst he; simp at h
      simp [this]
def ltBs : List UInt8 → List UInt8 → Bool
  | _, [] => false
  | [], _ :: _ => true
  | a :: x, b :: y => match Nat.blt (u8 a) (u8 b) with | true => true | false => match Nat.beq (u8 a) (u8 b) with | true => ltBs x y | false => false
theorem ltBs_eq : ∀ x y : List UInt8, ltBs x y = Op.bytesLess x y
  | [], [] => rfl
  | [], _ :: _ => rfl
  | _ :: _, [] => rfl
  | a :: x, b :: y => by
    simp only [ltBs, Op.bytesLess]
    rw [← ltBs_eq x y]
    have h1 : Nat.blt (u8 a) (u8 b) = decide (a < b) := by
      rw [Bool.eq_iff_iff, Nat.blt_eq, decide_eq_true_eq]; exact Iff.rfl
    have h2 : Nat.beq (u8 a) (u8 b) = (a == b) := by
      rw [Bool.eq_iff_iff, Nat.beq_eq, beq_iff_eq]; exact UInt8.toNat_inj
    rw [h1, h2]
    cases decide (a < b) <;> cases (a == b) <;> simp
def strL (s : ByteArray) : List UInt8 := s.data.toList
def strSize (s : ByteArray) : Nat := (strL s).length
def strOp (op : BinOp) (x y : ByteArray) : Option Value :=
  match op with
  | .add => match Nat.ble (strSize x + strSize y) 1099511627776 with | true => some (.string ⟨⟨strL x ++ strL y⟩⟩) | false => none
  | .eql => some (.bool (eqBs (strL x) (strL y)))
  | .neq => some (.bool (notB (eqBs (strL x) (strL y))))
  | .lss => some (.bool (ltBs (strL x) (strL y)))
  | .leq => some (.bool (ltBs (strL x) (strL y) || eqBs (strL x) (strL y)))
  | .gtr => some (.bool (notB (ltBs (strL x) (strL y) || eqBs (strL x) (strL y))))
  | .geq => some (.bool (notB (ltBs (strL x) (strL y))))
  | _ => none
theorem strSize_eq (s : ByteArray) : strSize s = s.size := rfl
theorem strL_eq (s : ByteArray) : s.toList = strL s := ByteArray.toList_eq s
theorem strOp_run {op : BinOp} {x y : ByteArray} {v : Value} {P : Program} {w : World} (h : strOp op x y = some v) : (Op.stringOp op x y).run P w = .ok v w := by
  cases op with
  | add =>
    simp only [strOp] at h
    split at h
    · rename_i hb
      rw [Nat.ble_eq, strSize_eq, strSize_eq] at hb
      cases h
      rw [run_string_add_sum w x y (by omega)]
      obtain ⟨⟨a⟩⟩ := x
      obtain ⟨⟨b⟩⟩ := y
      exact congrArg (fun z => Result.ok (Value.string z) w) (ByteArray.mk_append_mk a b)
    · cases h
  | eql | neq | lss | leq | gtr | geq =>
    simp only [strOp, Option.some.injEq] at h
    subst h
    simp [Op.stringOp, strL_eq, eqBs_eq, ltBs_eq, notB_eq]
  | _ => cases h
end
end Go.Ab
