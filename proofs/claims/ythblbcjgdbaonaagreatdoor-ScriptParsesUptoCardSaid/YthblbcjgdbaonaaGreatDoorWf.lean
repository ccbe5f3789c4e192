/- What a word says (the program's side): bytes as digits, a number. -/
import Derived.Test.YthblbcjgdbaonaaGreatDoorWe
import Derived.Laws.BytesArg
import Derived.Test.YthblbcjgdbaonaaGreatDoorWb
import Derived.WalkKit
import Derived.ProofKit
import Derived.OpenShut
import Derived.WideKeyArgs
import Derived.ChangeArms
import Derived.FnData
namespace Go.Vc
section
variable {P : Program} {w : World} {K : Value → World → Prop}
theorem r_minK {t : TypeId} {ts : Array TypeId} {kd : IntKind} {a b : Int} : (Builtin.min_ ts t #[.int kd a, .int kd b]).run P w = .ok (.int kd (if a < b then a else b)) w ∨ (Builtin.min_ ts t #[.int kd a, .int kd b]).run P w = .ok (.int kd (if b < a then b else a)) w := by
  simp [Builtin.min_, Builtin.min2]
theorem mnK {t : TypeId} {ts : Array TypeId} {kd : IntKind} {a b : Int} (hk : ∀ c, (c = a ∨ c = b) → c ≤ a → c ≤ b → K (.int kd c) w) : V P (Builtin.min_ ts t #[.int kd a, .int kd b]) w K := by
  rcases r_minK (P := P) (kd := kd) (w := w) (t := t) (ts := ts) (a := a) (b := b) with h | h
  · exact V.ok h (hk _ (by split <;> simp) (by split <;> omega) (by split <;> omega))
  · exact V.ok h (hk _ (by split <;> simp) (by split <;> omega) (by split <;> omega))
theorem shl_run {k k' : IntKind} {t : TypeId} {a b : Int} (h : 0 ≤ b) : (binOp .shl t (.int k a) (.int k' b)).run P w = .ok (.int k (k.wrap (a * 2 ^ (min b.toNat k.bits)))) w := by
  have : ¬ b < 0 := by omega
  simp [binOp, Op.shift, this]
theorem or_run {k : IntKind} {t : TypeId} {a b : Int} : (binOp .or t (.int k a) (.int k b)).run P w = .ok (.int k (k.wrap (BitVec.ofInt k.bits a ||| BitVec.ofInt k.bits b).toNat)) w := by simp [binOp, Op.intBits]
theorem r_neqStr {s : TypeId} {x y : Operand} {a b : ByteArray} : (do eqGuard .neq s x y (.string a) (.string b); binOp .neq s (.string a) (.string b)).run P w = .ok (.bool (!(a.toList == b.toList))) w := by
  simp [eqGuard, binOp, Op.stringOp]
end
end Go.Vc
namespace Go.Tc
def hx (c : Nat) : Int := Lib.indexByte digs.data.toList (UInt8.ofNat (min c 127))
theorem hx_b (c : Nat) : -1 ≤ hx c ∧ hx c < 16 := by
  have : ∀ k : Fin 128, -1 ≤ Lib.indexByte digs.data.toList (UInt8.ofNat k.val) ∧ Lib.indexByte digs.data.toList (UInt8.ofNat k.val) < 16 := by decide +kernel
  exact this ⟨min c 127, by omega⟩
theorem hxOr : ∀ a b : Fin 16, IntKind.u8.wrap (IntKind.i64.wrap (BitVec.ofInt IntKind.i64.bits (IntKind.i64.wrap ((a.val : Int) * 2 ^ (min (4 : Int).toNat IntKind.i64.bits))) ||| BitVec.ofInt IntKind.i64.bits (b.val : Int)).toNat) = 16 * (a.val : Int) + b.val := by decide +kernel
def byN (s : ByteArray) : Nat → Nat → List Int → Int → List Int × Bool
  | 0, _, out, h => (out, !decide (s.size = 0) && decide (h < 0))
  | n + 1, p, out, h => if p < s.size then
      (if hx (Utf8.decode s p).1 < 0 then ([], false) else if h < 0 then byN s n (p + (Utf8.decode s p).2) out (hx (Utf8.decode s p).1) else byN s n (p + (Utf8.decode s p).2) (out ++ [16 * h + hx (Utf8.decode s p).1]) (-1))
    else (out, !decide (s.size = 0) && decide (h < 0))
def byF (s : ByteArray) : List Int × Bool := if s.toList == ({ data := #[45] } : ByteArray).toList then ([], true) else byN s s.size 0 [] (-1)
theorem byN_end {s : ByteArray} : ∀ {n p : Nat} {out : List Int} {h : Int}, ¬ p < s.size → byN s n p out h = (out, !decide (s.size = 0) && decide (h < 0))
  | 0, _, _, _, _ => rfl
  | n + 1, p, _, _, h => by rw [byN, if_neg h]
theorem byN_more {s : ByteArray} : ∀ {n m p : Nat} {out : List Int} {h : Int}, s.size ≤ p + n → s.size ≤ p + m → byN s n p out h = byN s m p out h
  | 0, m, p, _, _, h, _ => by rw [byN_end (n := m) (by omega)]; rfl
  | n + 1, 0, p, _, _, _, h => by rw [byN_end (n := n + 1) (by omega)]; rfl
  | n + 1, m + 1, p, out, h0, h1, h2 => by
    by_cases h : p < s.size
    · have := Go.Vc.decode_pos h
      rw [byN, byN, if_pos h, if_pos h]
      split
      · rfl
      · split <;> exact byN_more (by omega) (by omega)
    · rw [byN_end h, byN_end h]
theorem byN_step {s : ByteArray} {p : Nat} {out : List Int} {h0 : Int} (h : p < s.size) : byN s s.size p out h0 = if hx (Utf8.decode s p).1 < 0 then ([], false) else if h0 < 0 then byN s s.size (p + (Utf8.decode s p).2) out (hx (Utf8.decode s p).1) else byN s s.size (p + (Utf8.decode s p).2) (out ++ [16 * h0 + hx (Utf8.decode s p).1]) (-1) := by
  have := Go.Vc.decode_pos h
  rw [byN_more (n := s.size) (m := s.size + 1) (by omega) (by omega), byN, if_pos h]
def numN (s : ByteArray) : Nat → Nat → Int → Option Int
  | 0, _, k => some k
  | n + 1, p, k => if p < s.size then
      (if (Utf8.decode s p).1 < 48 ∨ 57 < (Utf8.decode s p).1 ∨ 7 < s.size then none else numN s n (p + (Utf8.decode s p).2) (10 * k + ((Utf8.decode s p).1 - 48)))
    else some k
def numF (s : ByteArray) : Int × Bool := match numN s s.size 0 0 with
  | none => (0, false)
  | some k => (k, !decide (s.size = 0) && ((s.toList == ({ data := #[48] } : ByteArray).toList) || !decide (s[0]? = some 48)))
theorem numN_end {s : ByteArray} : ∀ {n p : Nat} {k : Int}, ¬ p < s.size → numN s n p k = some k
  | 0, _, _, _ => rfl
  | n + 1, p, _, h => by rw [numN, if_neg h]
theorem numN_more {s : ByteArray} : ∀ {n m p : Nat} {k : Int}, s.size ≤ p + n → s.size ≤ p + m → numN s n p k = numN s m p k
  | 0, m, p, _, h, _ => by rw [numN_end (n := m) (by omega)]; rfl
  | n + 1, 0, p, _, _, h => by rw [numN_end (n := n + 1) (by omega)]; rfl
  | n + 1, m + 1, p, k, h1, h2 => by
    by_cases h : p < s.size
    · have := Go.Vc.decode_pos h
      rw [numN, numN, if_pos h, if_pos h]
      split
      · rfl
      · exact numN_more (by omega) (by omega)
    · rw [numN_end h, numN_end h]
theorem numN_step {s : ByteArray} {p : Nat} {k : Int} (h : p < s.size) : numN s s.size p k = if (Utf8.decode s p).1 < 48 ∨ 57 < (Utf8.decode s p).1 ∨ 7 < s.size then none else numN s s.size (p + (Utf8.decode s p).2) (10 * k + ((Utf8.decode s p).1 - 48)) := by
  have := Go.Vc.decode_pos h
  rw [numN_more (n := s.size) (m := s.size + 1) (by omega) (by omega), numN, if_pos h]
end Go.Tc
namespace Go.Proofs.YthblbcjgdbaonaaGreatDoor
open Go.Vc Go.Tc
variable {w : World} {K : Value → World → Prop}
theorem e_ib : ∀ args w, (callFunc 68 args).run Tryz.prog w = .ok (.enter 68 args) w := enters_of lays137.f137 (by kernel_rfl) rfl
theorem ib68 {c : Nat} (hk : K (i64 (hx c)) w) : callD Tryz.prog 68 #[.string { data := #[48, 49, 50, 51, 52, 53, 54, 55, 56, 57, 97, 98, 99, 100, 101, 102] }, .int .u8 ((min c 127 : Nat) : Int)] w K :=
  callD.mono (R := fun v w' => v = i64 (hx c) ∧ w' = w) ⟨e_ib, (sIndexByte _ _ w).mono fun e w' ⟨he, hw⟩ => ⟨_, he, rfl, hw⟩⟩ fun v w' ⟨hv, hw⟩ => by subst hv; subst hw; exact hk
set_option maxHeartbeats 1600000 in
theorem bytesOf45 {s : ByteArray} (hs : s.size ≤ 8000000) (hk : ∀ v w', w'.ownsRow w.heap.size 5 1 v (byF s).1.length ((byF s).1.map u8) → U8s (byF s).1 → Ext w w' → K (.tuple #[v, .bool (byF s).2]) w') : callD Tryz.prog 45 #[.string s] w K := by
  apply F45_wp
  suffices key : ∀ R : Value → World → Prop, (∀ v w', w'.ownsRow w.heap.size 5 1 v (byF s).1.length ((byF s).1.map u8) → U8s (byF s).1 → Ext w w' → R (.tuple #[v, .bool (byF s).2]) w') → F45_den (.string s) w R from key _ hk
  clear hk
  intro R hR
  unfold F45_den
  unfold byF at hR
  refine V.ok r_eqStr ?_
  cases he : s.toList == ({ data := #[45] } : ByteArray).toList with
  | true =>
    rw [he, if_pos rfl] at hR
    exact ifD_true.2 (hR nilS w (World.ownsRow_nil _ _ _ _) u8nil (Ext.refl _))
  | false =>
  rw [he, if_neg (by simp)] at hR
  refine ifD_false.2 (V.ok (run_range_string _ _ _ Tryz.underlying9) ?_)
  have xi : Ext w (w.iter s 0) := (Ext.refl _).alloc _
  have hit := iter_at (w := w) (s := s)
  have hgi : w.heap.size < (w.iter s 0).heap.size := (Array.getElem?_eq_some_iff.1 hit).1
  generalize w.iter s 0 = w2 at *
  refine ⟨fun v x w' => ∃ (p : Nat) (out : List Int) (h : Int), byN s s.size 0 [] (-1) = byN s s.size p out h ∧ x = i64 h ∧ (-1 ≤ h ∧ h < 16) ∧ out.length ≤ p ∧ U8s out ∧ w'.heap[w.heap.size]? = some (.stringIter s p) ∧ w'.ownsRow w.heap.size 5 1 v out.length (out.map u8) ∧ (∀ k, v.ownBlock = some k → k ≠ w.heap.size) ∧ Ext w w', fun _ _ w' => match w'.heap[w.heap.size]? with | some (.stringIter s p) => s.size - p | _ => 0, ⟨0, [], -1, rfl, rfl, ⟨by omega, by omega⟩, by simp, u8nil, hit, World.ownsRow_nil _ _ _ _, fun k hk => (by cases hk), xi⟩, ?_⟩
  rintro v _ w3 ⟨p, out, h, hF, rfl, hh, hol, hou, hit3, ho, hne, x3⟩ _
  by_cases hp : p < s.size
  · refine next_str hit3 hp fun w4 hit4 f4 => V_tup (v := .bool true) rfl (ifD_true.2 (V_tup (v := .int .i32 ((Utf8.decode s p).1 : Nat)) rfl ?_))
    have hst := byN_step (out := out) (h0 := h) hp
    have hdp := decode_pos hp
    have x4 : Ext w w4 := f4.ext x3 fun k hk => by have hk : k = w.heap.size := hk; omega
    have ho4 := f4.own ho fun k hk h => hne k hk h
    have s4 := x4.size
    have hmu : (match w3.heap[w.heap.size]? with | some (.stringIter s p) => s.size - p | _ => 0) = s.size - p := by rw [hit3]
    have fin : ∀ {v' w' out' h'}, byN s s.size p out h = byN s s.size (p + (Utf8.decode s p).2) out' h' → (-1 ≤ h' ∧ h' < 16) → out'.length ≤ p + 1 → U8s out' → w'.heap[w.heap.size]? = some (.stringIter s (p + (Utf8.decode s p).2)) → w'.ownsRow w.heap.size 5 1 v' out'.length (out'.map u8) → (∀ k, v'.ownBlock = some k → k ≠ w.heap.size) → Ext w w' →
        (∃ (p : Nat) (out : List Int) (h : Int), byN s s.size 0 [] (-1) = byN s s.size p out h ∧ i64 h' = i64 h ∧ (-1 ≤ h ∧ h < 16) ∧ out.length ≤ p ∧ U8s out ∧ w'.heap[w.heap.size]? = some (.stringIter s p) ∧ w'.ownsRow w.heap.size 5 1 v' out.length (out.map u8) ∧ (∀ k, v'.ownBlock = some k → k ≠ w.heap.size) ∧ Ext w w') ∧ (match w'.heap[w.heap.size]? with | some (.stringIter s p) => s.size - p | _ => 0) < (match w3.heap[w.heap.size]? with | some (.stringIter s p) => s.size - p | _ => 0) := by
      intro v' w' out' h' h1 h2 h3 h4 h5 h6 h7 h8
      refine ⟨⟨_, out', h', hF.trans h1, rfl, h2, by omega, h4, h5, h6, h7, h8⟩, ?_⟩
      rw [hmu, h5]
      show s.size - (p + (Utf8.decode s p).2) < s.size - p
      omega
    generalize (Utf8.decode s p).1 = c at *
    generalize (Utf8.decode s p).2 = wd at *
    refine mnK fun m hm h1 h2 => ?_
    have em : m = ((min c 127 : Nat) : Int) := by rcases hm with rfl | rfl <;> omega
    subst em
    refine V.ok (r_convI Tryz.underlying21 Tryz.underlying5) ?_
    rw [wrapU8 (by omega) (by omega)]
    refine ib68 (V_lss.2 (ifD_dec (fun hn => ?_) fun hn => ?_))
    · rw [if_pos hn] at hst
      rw [hF, hst] at hR
      exact hR nilS w4 (World.ownsRow_nil _ _ _ _) u8nil x4
    rw [if_neg hn] at hst
    have hb := hx_b c
    refine V_lss.2 (ifD_dec (fun hl => ?_) fun hl => ?_)
    · rw [if_pos hl] at hst
      exact fin hst hb (by omega) hou hit4 ho4 hne x4
    · rw [if_neg hl] at hst
      refine V.ok (shl_run (by decide)) (V.ok or_run (V.ok (r_convI Tryz.underlying3 Tryz.underlying5) ?_))
      obtain ⟨a, rfl⟩ : ∃ a : Nat, h = a := ⟨h.toNat, by omega⟩
      obtain ⟨b, hbb⟩ : ∃ b : Nat, hx c = b := ⟨(hx c).toNat, by omega⟩
      rw [hbb] at hst hb ⊢
      rw [hxOr ⟨a, by omega⟩ ⟨b, by omega⟩]
      refine bsl xe_23 [u8 (16 * (a : Int) + b)] rfl rfl (by simp) rfl fun x w5 hx x5 => ?_
      have ho5 := (Fr.of_ext (S := fun _ => False) x5).own ho4 fun _ _ h => h
      have s5 := x5.size
      have hgl := (Array.getElem?_eq_some_iff.1 hit4).1
      refine apAt xe_23 ho5 (SliceIs.of_own hx) rfl (by omega) (by unfold maxLen; omega) (by omega) fun v' w6 ho6 hg6 h5 => ?_
      refine fin (out' := out ++ [16 * (a : Int) + b]) hst ⟨by omega, by omega⟩ (by rw [List.length_append]; simp; omega) (fun y hy => ?_) ?_ (by rw [List.length_append, List.map_append]; exact ho6) (fun k hk => ?_) ((x4.trans x5).grown hg6 fun k hk => (ho5.lt k hk).1)
      · rcases List.mem_append.1 hy with hy | hy
        · exact hou y hy
        · rw [List.mem_singleton] at hy; subst hy; omega
      · rw [hg6.block _ (by omega) (fun h => hne _ h.symm rfl), x5.block _ hgl (by simp)]; exact hit4
      · rcases h5 with h5 | h5
        · exact hne k (by rw [← h5]; exact hk)
        · rw [h5] at hk; cases hk; omega
  · refine next_end hit3 hp (V_tup rfl (ifD_false.2 (V.ok r_neqStr ?_)))
    rw [byN_end hp] at hF
    rw [hF] at hR
    have hR := hR v w3 ho hou x3
    rw [emptyB]
    by_cases h0 : s.size = 0
    · rw [show decide (s.size = 0) = true from decide_eq_true h0] at hR ⊢
      simp only [evL, reduceIte, Bool.false_eq_true, Bool.not_true]
      exact hR
    · rw [show decide (s.size = 0) = false from decide_eq_false h0] at hR ⊢
      simp only [evL, reduceIte, Bool.not_false]
      exact hR
end Go.Proofs.YthblbcjgdbaonaaGreatDoor
namespace Go.Proofs.YthblbcjgdbaonaaGreatDoor
open Go.Vc Go.Tc
variable {w : World} {K : Value → World → Prop}
set_option maxHeartbeats 1600000 in
theorem number46 {s : ByteArray} (hk : ∀ w', Ext w w' → K (.tuple #[i64 (numF s).1, .bool (numF s).2]) w') : callD Tryz.prog 46 #[.string s] w K := by
  apply F46_wp
  suffices key : ∀ R : Value → World → Prop, (∀ w', Ext w w' → R (.tuple #[i64 (numF s).1, .bool (numF s).2]) w') → F46_den (.string s) w R from key _ hk
  clear hk
  intro R hR
  unfold F46_den
  unfold numF at hR
  refine V.ok (run_range_string _ _ _ Tryz.underlying9) ?_
  have xi : Ext w (w.iter s 0) := (Ext.refl _).alloc _
  have hit := iter_at (w := w) (s := s)
  have hgi : w.heap.size < (w.iter s 0).heap.size := (Array.getElem?_eq_some_iff.1 hit).1
  generalize w.iter s 0 = w2 at *
  refine ⟨fun v w' => ∃ (p k : Nat), numN s s.size 0 0 = numN s s.size p k ∧ v = i64 k ∧ k < 10 ^ p ∧ (0 < p → s.size ≤ 7) ∧ w'.heap[w.heap.size]? = some (.stringIter s p) ∧ Ext w w', fun _ w' => match w'.heap[w.heap.size]? with | some (.stringIter s p) => s.size - p | _ => 0, ⟨0, 0, rfl, rfl, by decide, fun h => absurd h (by decide), hit, xi⟩, ?_⟩
  rintro _ w3 ⟨p, k, hF, rfl, hk10, h7, hit3, x3⟩ _
  by_cases hp : p < s.size
  · refine next_str hit3 hp fun w4 hit4 f4 => V_tup (v := .bool true) rfl (ifD_true.2 (V_tup (v := .int .i32 ((Utf8.decode s p).1 : Nat)) rfl ?_))
    have hst := numN_step (k := k) hp
    have hdp := decode_pos hp
    have x4 : Ext w w4 := f4.ext x3 fun k hk => by have hk : k = w.heap.size := hk; omega
    have hmu : (match w3.heap[w.heap.size]? with | some (.stringIter s p) => s.size - p | _ => 0) = s.size - p := by rw [hit3]
    have no : numN s s.size p k = none → R (.tuple #[i64 0, .bool false]) w4 := fun h => by
      rw [hF, h] at hR; exact hR _ x4
    have fin : ∀ {k' : Nat}, numN s s.size p k = numN s s.size (p + (Utf8.decode s p).2) k' → k' < 10 ^ (p + (Utf8.decode s p).2) → s.size ≤ 7 →
        (∃ (p k : Nat), numN s s.size 0 0 = numN s s.size p k ∧ i64 k' = i64 k ∧ k < 10 ^ p ∧ (0 < p → s.size ≤ 7) ∧ w4.heap[w.heap.size]? = some (.stringIter s p) ∧ Ext w w4) ∧ (match w4.heap[w.heap.size]? with | some (.stringIter s p) => s.size - p | _ => 0) < (match w3.heap[w.heap.size]? with | some (.stringIter s p) => s.size - p | _ => 0) := by
      intro k' h1 h2 h3
      refine ⟨⟨_, k', hF.trans h1, rfl, h2, fun _ => h3, hit4, x4⟩, ?_⟩
      rw [hmu, hit4]
      show s.size - (p + (Utf8.decode s p).2) < s.size - p
      omega
    generalize (Utf8.decode s p).1 = c at *
    generalize (Utf8.decode s p).2 = wd at *
    refine V_lss.2 ?_
    by_cases c1 : (c : Int) < 48
    · simp only [c1, evL, reduceIte, decide_true]
      exact no (by rw [hst, if_pos (.inl (by omega))])
    simp only [c1, evL, reduceIte, Bool.false_eq_true, decide_false]
    by_cases c2 : (c : Int) > 57
    · simp only [c2, evL, reduceIte, decide_true]
      exact no (by rw [hst, if_pos (.inr (.inl (by omega)))])
    simp only [c2, evL, reduceIte, Bool.false_eq_true, decide_false]
    refine V.ok (lenStr Tryz.underlying9) (V_gtr.2 ?_)
    by_cases c3 : (s.size : Int) > 7
    · simp only [c3, evL, decide_true]
      exact no (by rw [hst, if_pos (.inr (.inr (by omega)))])
    simp only [c3, evL, decide_false]
    rw [if_neg (by omega)] at hst
    have hp6 : (10 : Nat) ^ p ≤ 10 ^ 6 := Nat.pow_le_pow_right (by decide) (by omega)
    have hpw : (10 : Nat) ^ (p + 1) ≤ 10 ^ (p + wd) := Nat.pow_le_pow_right (by decide) (by omega)
    rw [Nat.pow_succ] at hpw
    obtain ⟨d, rfl⟩ : ∃ d, c = 48 + d := ⟨c - 48, by omega⟩
    refine V_mul.2 (V_sub.2 (V.ok (r_convI Tryz.underlying21 Tryz.underlying3) (V_add.2 ?_)))
    rw [show IntKind.i32.wrap (((48 + d : Nat) : Int) - 48) = (d : Int) by rw [IntKind.wrap_i32]; omega, wrap_id (n := (d : Int)) (by omega) (by omega), wrap_id (n := 10 * (k : Int)) (by omega) (by omega), wrap_id (by omega) (by omega), show (10 * (k : Int) + d) = ((10 * k + d : Nat) : Int) by omega]
    refine fin ?_ ?_ (by omega)
    · rw [hst]; congr 1; omega
    · omega
  · refine next_end hit3 hp (V_tup rfl (ifD_false.2 ?_))
    rw [numN_end hp] at hF
    rw [hF] at hR
    simp only [] at hR
    have D1 : Ext w3 w3.drew := (Ext.refl _).drew
    refine drawD.mk' (fun w' => Ext w3.drew w') (Ext.refl _) ?_
    have hR := hR _ (x3.trans D1)
    refine yieldS.ok (fun w' _ => r_neqStr) ?_
    rw [emptyB]
    by_cases h0 : s.size = 0
    · rw [show decide (s.size = 0) = true from decide_eq_true h0] at hR ⊢
      simp only [evL, reduceIte, Bool.false_eq_true, Bool.not_true]
      exact hR
    · rw [show decide (s.size = 0) = false from decide_eq_false h0] at hR ⊢
      simp only [evL, reduceIte, Bool.not_false]
      refine yieldS.ok (fun w' _ => r_eqStr) ?_
      cases he : s.toList == ({ data := #[48] } : ByteArray).toList with
      | true =>
        rw [he] at hR
        simp only [evL, reduceIte]
        exact hR
      | false =>
        rw [he] at hR
        simp only [evL, reduceIte, Bool.false_eq_true]
        obtain ⟨c, hc⟩ : ∃ c, s[0]? = some c := ⟨_, getElem?_pos s 0 (by omega)⟩
        rw [hc] at hR
        refine yieldS.ok (fun w' _ => r_idxS (j := 0) Tryz.underlying9 hc) (yieldS.ok (fun w' _ => r_neqI) ?_)
        have e48 : decide (((c.toNat : Nat) : Int) ≠ 48) = !decide (some c = some (48 : UInt8)) := by
          by_cases h : c = 48
          · subst h; rfl
          · have h2 : ((c.toNat : Nat) : Int) ≠ 48 := fun h3 => h (UInt8.toNat_inj.1 (by show c.toNat = 48; omega))
            rw [decide_eq_true h2, decide_eq_false (fun h3 => h (Option.some.inj h3))]; rfl
        rw [e48]
        simp only [Bool.not_false, Bool.true_and, Bool.false_or] at hR
        exact hR
end Go.Proofs.YthblbcjgdbaonaaGreatDoor
namespace Go.Tc
def sEq (a b : ByteArray) : Bool := a.toList == b.toList
end Go.Tc
namespace Go.Proofs.YthblbcjgdbaonaaGreatDoor
open Go.Vc Go.Tc
variable {w : World} {K : Value → World → Prop}
def StrsIs (w : World) (v : Value) (ws : List ByteArray) : Prop := SliceIs w v 1 ws.length (ws.map .string)
def wd (ws : List ByteArray) (k : Nat) : ByteArray := ws.getD k ⟨#[]⟩
theorem ldW {v : Value} {ws : List ByteArray} {k : Nat} {i : Int} (h : StrsIs w v ws) (hi : i = k) (hk : k < ws.length) (hK : K (.string (wd ws k)) w) : V Tryz.prog (Instr.indexAt 53 v (.int .i64 i)) w fun p w1 => V Tryz.prog (Instr.loadAt 9 p) w1 K := by
  subst hi
  refine ldx xa_53 l1_9 h (by omega) (by omega) (u := .string (wd ws k)) ?_ hK
  rw [Int.toNat_natCast, List.getElem?_map, List.getElem?_eq_getElem hk]
  simp only [wd, List.getD_eq_getElem?_getD, List.getElem?_eq_getElem hk, Option.map_some, Option.getD_some]
theorem tstW {v : Value} {ws : List ByteArray} {c : ByteArray} {n : Nat} {x y x2 y2 : Operand} (h : StrsIs w v ws) (hpos : 0 < ws.length) (hK : K (.bool (sEq (wd ws 0) c && decide (ws.length = n))) w) :
    V Tryz.prog (Instr.indexAt 53 v (i64 0)) w fun t10 w3 => V Tryz.prog (Instr.loadAt 9 t10) w3 fun t11 w4 => V Tryz.prog (do eqGuard .eql 9 x y t11 (.string c); binOp .eql 9 t11 (.string c)) w4 fun t12 w5 =>
    gd t12 true (fun K => K v w5) w5 fun t14 w6 => gd t12 true (fun K => V Tryz.prog (Builtin.len_ #[53] 3 #[t14]) w6 K) w6 fun t15 w7 => gd t12 true (fun K => V Tryz.prog (do eqGuard .eql 3 x2 y2 t15 (i64 n); binOp .eql 3 t15 (i64 n)) w7 K) w7 fun t16 w8 => pickD t12 t16 (.bool false) fun t17 => K t17 w8 := by
  refine ldW (k := 0) h rfl hpos (V.ok r_eqStr ?_)
  unfold sEq at hK
  cases he : (wd ws 0).toList == c.toList with
  | true =>
    simp only [evL, reduceIte]
    refine lnx xa_53 h (V_eqlI.2 ?_)
    rw [he, Bool.true_and, show decide (ws.length = n) = decide ((ws.length : Int) = (n : Int)) from decide_eq_decide.2 (by omega)] at hK
    exact hK
  | false =>
    simp only [evL, reduceIte, Bool.false_eq_true]
    rw [he, Bool.false_and] at hK
    exact hK
def wIns : ByteArray := ⟨#[105, 110, 115, 116, 97, 108, 108]⟩
def wSel : ByteArray := ⟨#[115, 101, 108, 101, 99, 116]⟩
def wCom : ByteArray := ⟨#[99, 111, 109, 109, 97, 110, 100]⟩
def ev0 : Evt := ⟨0, [], ⟨#[]⟩, [], [], 0⟩
def evF (ws : List ByteArray) : Evt × Bool :=
  if sEq (wd ws 0) wIns && decide (ws.length = 2) then ({ ev0 with kind := 1, bytes := (byF (wd ws 1)).1 }, (byF (wd ws 1)).2)
  else if sEq (wd ws 0) wSel && decide (ws.length = 2) then ({ ev0 with kind := 2, name := wd ws 1 }, true)
  else if sEq (wd ws 0) sDes && decide (ws.length = 1) then ({ ev0 with kind := 3 }, true)
  else if sEq (wd ws 0) sRes && decide (ws.length = 1) then ({ ev0 with kind := 4 }, true)
  else if sEq (wd ws 0) wCom && decide (ws.length = 4) then ({ ev0 with kind := 5, pub := (byF (wd ws 1)).1, sec := (byF (wd ws 2)).1, fuel := (numF (wd ws 3)).1 }, ((byF (wd ws 1)).2 && (byF (wd ws 2)).2) && (numF (wd ws 3)).2)
  else (ev0, false)
set_option maxHeartbeats 3200000 in
theorem event25 {v : Value} {ws : List ByteArray} (h : StrsIs w v ws) (hpos : 0 < ws.length) (hsz : ∀ b ∈ ws, b.size ≤ 8000000) (hk : ∀ cs w', EvtStay 0 w.heap.size w' cs (evF ws).1 → Ext w w' → K (.tuple #[.agg cs.toArray, .bool (evF ws).2]) w') : callD Tryz.prog 25 #[v] w K := by
  apply F25_wp
  suffices key : ∀ R : Value → World → Prop, (∀ cs w', EvtStay 0 w.heap.size w' cs (evF ws).1 → Ext w w' → R (.tuple #[.agg cs.toArray, .bool (evF ws).2]) w') → F25_den v w R from key _ hk
  clear hk
  intro R hR
  unfold F25_den
  have wsz : ∀ k, (wd ws k).size ≤ 8000000 := fun k => by
    unfold wd
    rw [List.getD_eq_getElem?_getD]
    cases hx : ws[k]? with
    | none => exact Nat.zero_le _
    | some b => exact hsz b (List.mem_of_getElem? hx)
  refine alK inf29 fun w1 hB2 x1 => alK inf29 fun w2 hB4 x2 => ?_
  have hB2 : Blk w1 w.heap.size [i64 0, nilS, .string ByteArray.empty, nilS, nilS, i64 0] 29 := hB2
  have hB4 : Blk w2 w1.heap.size [i64 0, nilS, .string ByteArray.empty, nilS, nilS, i64 0] 29 := hB4
  have x02 := x1.trans x2
  have l2 := hB2.lt
  have l4 := hB4.lt
  have hB2 := hB2.ext x2
  generalize hg2 : w.heap.size = g2 at *
  generalize hg4 : w1.heap.size = g4 at *
  have h2 : StrsIs w2 v ws := SliceIs.ext h x02
  have fin : ∀ {w' : World} {cs : List Value} {b : Bool}, Ext w w' → Blk w' g4 cs 29 → Blk w' g2 [i64 0, nilS, .string ByteArray.empty, nilS, nilS, i64 0] 29 → (∀ w'', Fr (fun k => k ≤ g2) w' w'' → EvtIs w'' cs (evF ws).1) → b = (evF ws).2 → V Tryz.prog (Instr.loadAt 29 (.pointer (some ⟨g4, 0, none⟩))) w' fun t106 w19 => U Tryz.prog (Instr.storeAt 29 (.pointer (some ⟨g2, 0, none⟩)) t106) w19 fun _ w20 =>
      ∃ r1, (loadVar 29 (match (Value.pointer (some ⟨g2, 0, none⟩)) with | .pointer (some p) => p | _ => ⟨0, 0, none⟩)).run Tryz.prog w20 = .ok r1 w20 ∧ (∃ p, (Value.pointer (some ⟨g2, 0, none⟩)) = Value.pointer (some p)) ∧ R (.tuple #[r1, .bool b]) w20 := by
    intro w' cs b hx hb4 hb2 hS hb
    subst hb
    have hone := (hS w' (Fr.refl _ _)).one
    refine ldA hb4.boxed la_29 hone.2 ?_
    refine stA inf29 hb2 (l := cs) rfl hone.2 rfl hone.1 fun w7 hB7 hc => ?_
    exact ⟨_, r_var Tryz.underlying29 rfl inf29 hB7 hone.2, ⟨_, rfl⟩, hR cs w7 (fun w'' f => hS w'' (((chg_fr hc).mono fun k hk => by omega).trans (f.mono fun k hk => Nat.le_of_lt hk.2) fun _ _ h => h)) (hc.ext _ hx (by omega))⟩
  have fr4 : ∀ {w' : World} {o : Nat} {u : Value}, Fr (fun k => k = g4) w' (w'.setCell ⟨g4, o, none⟩ u) := Fr.of_set rfl
  have ne24 : g2 ≠ g4 := by omega
  have owns : ∀ {v' : Value} {l : List Int} {w' w'' : World} {B : Nat} {cs : List Value}, w'.ownsRow B 5 1 v' l.length (l.map u8) → Blk w' g4 cs 29 → Fr (fun k => k = g4) w' w'' → w''.ownsRow B 5 1 v' l.length (l.map u8) := fun ho hb f => f.own ho fun k hk h => own_neB hb ho (by decide) k hk h
  have owns2 : ∀ {v' : Value} {l : List Int} {w' w'' : World} {B : Nat}, w'.ownsRow B 5 1 v' l.length (l.map u8) → g2 < B → Fr (fun k => k ≤ g2) w' w'' → w''.ownsRow B 5 1 v' l.length (l.map u8) := fun ho hB f => f.own ho fun k hk h => by have := (ho.lt k hk).1; omega
  have x4 : ∀ {w' : World} {o : Nat} {u : Value}, Ext w w' → Ext w (w'.setCell ⟨g4, o, none⟩ u) := fun hx => fr4.ext hx fun k hk => by have hk : k = g4 := hk; omega
  refine tstW (c := wIns) (n := 2) h2 hpos ?_
  unfold evF at fin
  cases c1 : sEq (wd ws 0) wIns && decide (ws.length = 2) with
  | true =>
    rw [c1, if_pos rfl] at fin
    simp only [Bool.and_eq_true, decide_eq_true_eq] at c1
    refine ifD_true.2 ?_
    refine stF fa_29_0 inf3 hB4 rfl (by simp) rfl ?_
    have hB4a := hB4.set 0 (i64 1)
    have hB2a := hB2.other (j := 0) (u := i64 1) ne24
    have xa := x4 (o := 0) (u := i64 1) x02
    refine ldW (k := 1) (SliceIs.ext h xa) rfl (by omega) ?_
    refine bytesOf45 (wsz 1) fun bv w5 ho5 hb5 x5 => V_ext0.2 (V_ext1.2 ?_)
    have hB4b := hB4a.ext x5
    have hB2b := hB2a.ext x5
    refine stF fa_29_1 inf23 hB4b rfl (by simp) (own_oneM ho5) ?_
    have ho6 := owns ho5 hB4b (fr4 (o := 1) (u := bv))
    have hB2c := hB2b.other (j := 1) (u := bv) ne24
    exact fin (x4 (xa.trans x5)) (hB4b.set 1 bv) hB2c (fun w'' f => ⟨⟨bv, nilS, nilS, rfl, ArgsU8.own (owns2 ho6 (by simpa using hB2.lt) f), ArgsU8.nil _, ArgsU8.nil _⟩, hb5, u8nil, u8nil⟩) rfl
  | false =>
  rw [c1, if_neg (by simp)] at fin
  refine ifD_false.2 ?_
  refine tstW (c := wSel) (n := 2) h2 hpos ?_
  cases c2 : sEq (wd ws 0) wSel && decide (ws.length = 2) with
  | true =>
    rw [c2, if_pos rfl] at fin
    simp only [Bool.and_eq_true, decide_eq_true_eq] at c2
    refine ifD_true.2 ?_
    have D1 : Ext w2 w2.drew := (Ext.refl _).drew
    have xd := x02.trans D1
    refine drawD.mk' (fun w' => Ext w w') xd ?_
    have hu : (ws.map Value.string)[((1 : Int)).toNat]? = some (.string (wd ws 1)) := by
      show (ws.map Value.string)[1]? = _
      rw [List.getElem?_map, List.getElem?_eq_getElem (show 1 < ws.length by omega)]
      simp only [wd, List.getD_eq_getElem?_getD, List.getElem?_eq_getElem (show 1 < ws.length by omega), Option.map_some, Option.getD_some]
    refine ySl xa_53 l1_9 h (fun _ h => h) (by decide) (by omega) hu ?_
    refine yieldS.ok (fun w' _ => (fa_29_0).ex w' g4 0) ?_
    refine stFU inf3 (hB4.ext D1) rfl (by simp) rfl ⟨x4 xd, ?_⟩
    have hB4a := (hB4.ext D1).set 0 (i64 2)
    have hB2a := (hB2.ext D1).other (j := 0) (u := i64 2) ne24
    refine yieldS.ok (fun w' _ => (fa_29_2).ex w' g4 0) ?_
    refine stFU inf9 hB4a rfl (by simp) rfl ⟨x4 (x4 xd), ?_⟩
    exact fin (x4 (x4 xd)) (hB4a.set 2 (.string (wd ws 1))) (hB2a.other ne24) (fun w'' f => ⟨⟨nilS, nilS, nilS, rfl, ArgsU8.nil _, ArgsU8.nil _, ArgsU8.nil _⟩, u8nil, u8nil, u8nil⟩) rfl
  | false =>
  rw [c2, if_neg (by simp)] at fin
  refine ifD_false.2 ?_
  refine tstW (c := sDes) (n := 1) h2 hpos ?_
  cases c3 : sEq (wd ws 0) sDes && decide (ws.length = 1) with
  | true =>
    rw [c3, if_pos rfl] at fin
    refine ifD_true.2 ?_
    refine stF fa_29_0 inf3 hB4 rfl (by simp) rfl ?_
    exact fin (x4 x02) (hB4.set 0 (i64 3)) (hB2.other ne24) (fun w'' f => ⟨⟨nilS, nilS, nilS, rfl, ArgsU8.nil _, ArgsU8.nil _, ArgsU8.nil _⟩, u8nil, u8nil, u8nil⟩) rfl
  | false =>
  rw [c3, if_neg (by simp)] at fin
  refine ifD_false.2 ?_
  refine tstW (c := sRes) (n := 1) h2 hpos ?_
  cases c4 : sEq (wd ws 0) sRes && decide (ws.length = 1) with
  | true =>
    rw [c4, if_pos rfl] at fin
    refine ifD_true.2 ?_
    refine stF fa_29_0 inf3 hB4 rfl (by simp) rfl ?_
    exact fin (x4 x02) (hB4.set 0 (i64 4)) (hB2.other ne24) (fun w'' f => ⟨⟨nilS, nilS, nilS, rfl, ArgsU8.nil _, ArgsU8.nil _, ArgsU8.nil _⟩, u8nil, u8nil, u8nil⟩) rfl
  | false =>
  rw [c4, if_neg (by simp)] at fin
  refine ifD_false.2 ?_
  refine tstW (c := wCom) (n := 4) h2 hpos ?_
  cases c5 : sEq (wd ws 0) wCom && decide (ws.length = 4) with
  | true =>
    rw [c5, if_pos rfl] at fin
    simp only [Bool.and_eq_true, decide_eq_true_eq] at c5
    refine ifD_true.2 ?_
    refine stF fa_29_0 inf3 hB4 rfl (by simp) rfl ?_
    have hB4a := hB4.set 0 (i64 5)
    have hB2a := hB2.other (j := 0) (u := i64 5) ne24
    have xa := x4 (o := 0) (u := i64 5) x02
    refine ldW (k := 1) (SliceIs.ext h xa) rfl (by omega) ?_
    refine bytesOf45 (wsz 1) fun bv w5 ho5 hb5 x5 => V_ext0.2 (V_ext1.2 ?_)
    have hB4b := hB4a.ext x5
    have hB2b := hB2a.ext x5
    refine stF fa_29_3 inf23 hB4b rfl (by simp) (own_oneM ho5) ?_
    have ho6 := owns ho5 hB4b (fr4 (o := 3) (u := bv))
    have hB2c := hB2b.other (j := 3) (u := bv) ne24
    have hB4c := hB4b.set 3 bv
    have xc := x4 (o := 3) (u := bv) (xa.trans x5)
    refine ldW (k := 2) (SliceIs.ext h xc) rfl (by omega) ?_
    refine bytesOf45 (wsz 2) fun cv w7 ho7 hb7 x7 => V_ext0.2 (V_ext1.2 ?_)
    have hB4d := hB4c.ext x7
    have hB2d := hB2c.ext x7
    have ho6d := (Fr.of_ext (S := fun _ => False) x7).own ho6 fun _ _ h => h
    refine stF fa_29_4 inf23 hB4d rfl (by simp) (own_oneM ho7) ?_
    have ho8 := owns ho7 hB4d (fr4 (o := 4) (u := cv))
    have ho6e := owns ho6d hB4d (fr4 (o := 4) (u := cv))
    have hB2e := hB2d.other (j := 4) (u := cv) ne24
    have hB4e := hB4d.set 4 cv
    have xe := x4 (o := 4) (u := cv) (xc.trans x7)
    refine ldW (k := 3) (SliceIs.ext h xe) rfl (by omega) ?_
    refine number46 fun w9 x9 => V_ext0.2 (V_ext1.2 ?_)
    have hB4f := hB4e.ext x9
    have hB2f := hB2e.ext x9
    have ho6f := (Fr.of_ext (S := fun _ => False) x9).own ho6e fun _ _ h => h
    have ho8f := (Fr.of_ext (S := fun _ => False) x9).own ho8 fun _ _ h => h
    refine stF fa_29_5 inf3 hB4f rfl (by simp) rfl ?_
    have ho6g := owns ho6f hB4f (fr4 (o := 5) (u := i64 (numF (wd ws 3)).1))
    have ho8g := owns ho8f hB4f (fr4 (o := 5) (u := i64 (numF (wd ws 3)).1))
    have hB2g := hB2f.other (j := 5) (u := i64 (numF (wd ws 3)).1) ne24
    have done := fin (b := ((byF (wd ws 1)).2 && (byF (wd ws 2)).2) && (numF (wd ws 3)).2) (x4 (o := 5) (u := i64 (numF (wd ws 3)).1) (xe.trans x9)) (hB4f.set 5 (i64 (numF (wd ws 3)).1)) hB2g (fun w'' f => ⟨⟨nilS, bv, cv, rfl, ArgsU8.nil _, ArgsU8.own (owns2 ho6g (by simpa using hB2.lt) f), ArgsU8.own (owns2 ho8g (by simpa using hB2b.lt) f)⟩, u8nil, hb5, hb7⟩) rfl
    cases b1 : (byF (wd ws 1)).2 <;> cases b2 : (byF (wd ws 2)).2 <;> cases b3 : (numF (wd ws 3)).2 <;> (simp only [b1, b2, b3, Bool.and_true, Bool.and_false] at done ⊢; simp only [evL, reduceIte, Bool.false_eq_true]; exact done)
  | false =>
  rw [c5, if_neg (by simp)] at fin
  refine ifD_false.2 ?_
  exact fin x02 hB4 hB2 (fun w'' f => ⟨⟨nilS, nilS, nilS, rfl, ArgsU8.nil _, ArgsU8.nil _, ArgsU8.nil _⟩, u8nil, u8nil, u8nil⟩) rfl
end Go.Proofs.YthblbcjgdbaonaaGreatDoor
namespace Go.Tc
theorem wstep_len {acc : List ByteArray} {c : Nat} (h : 0 < acc.length) : 0 < (wstep acc c).length := by
  unfold wstep
  split
  · rw [List.length_append]; omega
  · rw [List.length_set]; exact h
theorem wstep_size {acc : List ByteArray} {c M : Nat} (h : ∀ b ∈ acc, b.size ≤ M) : ∀ b ∈ wstep acc c, b.size ≤ M + 4 := by
  unfold wstep
  split
  · intro b hb
    rcases List.mem_append.1 hb with hb | hb
    · have := h b hb; omega
    · rw [List.mem_singleton] at hb; subst hb; exact Nat.zero_le _
  · intro b hb
    rcases List.mem_or_eq_of_mem_set hb with hb | rfl
    · have := h b hb; omega
    · have e2 := encode_size (c : Int)
      rw [ByteArray.size_append]
      have : (acc.getD (acc.length - 1) ⟨#[]⟩).size ≤ M := by
        rw [List.getD_eq_getElem?_getD]
        cases hx : acc[acc.length - 1]? with
        | none => exact Nat.zero_le _
        | some b => exact h b (List.mem_of_getElem? hx)
      omega
theorem wordsN_facts {s : ByteArray} : ∀ {n p M : Nat} {acc : List ByteArray}, 0 < acc.length → (∀ b ∈ acc, b.size ≤ M) → 0 < (wordsN s n p acc).length ∧ ∀ b ∈ wordsN s n p acc, b.size ≤ M + 4 * n
  | 0, p, M, acc, h1, h2 => ⟨h1, fun b hb => by have := h2 b hb; omega⟩
  | n + 1, p, M, acc, h1, h2 => by
    rw [wordsN]
    split
    · obtain ⟨a, b⟩ := wordsN_facts (n := n) (p := p + (Utf8.decode s p).2) (wstep_len (c := (Utf8.decode s p).1) h1) (wstep_size (c := (Utf8.decode s p).1) h2)
      exact ⟨a, fun x hx => by have := b x hx; omega⟩
    · exact ⟨h1, fun b hb => by have := h2 b hb; omega⟩
theorem wordsF_facts (s : ByteArray) : 0 < (wordsF s).length ∧ ∀ b ∈ wordsF s, b.size ≤ 4 * s.size := by
  have := wordsN_facts (s := s) (n := s.size) (p := 0) (M := 0) (acc := [⟨#[]⟩]) (by simp) (fun b hb => by rw [List.mem_singleton] at hb; subst hb; exact Nat.zero_le _)
  exact ⟨this.1, fun b hb => by have := this.2 b hb; omega⟩
end Go.Tc
namespace Go.Proofs.YthblbcjgdbaonaaGreatDoor
open Go.Vc Go.Tc
variable {w : World} {K : Value → World → Prop}
def parseP (s : ByteArray) : Evt × Bool :=
  if (evF (wordsF s)).2 && (prE (evF (wordsF s)).1).2 && sEq (prE (evF (wordsF s)).1).1 s then ((evF (wordsF s)).1, true) else (ev0, false)
theorem evt0 : EvtIs w [i64 0, nilS, .string ⟨#[]⟩, nilS, nilS, i64 0] ev0 := ⟨⟨nilS, nilS, nilS, rfl, ArgsU8.nil _, ArgsU8.nil _, ArgsU8.nil _⟩, u8nil, u8nil, u8nil⟩
set_option maxHeartbeats 1600000 in
theorem parse13 {s : ByteArray} (hs : s.size ≤ 2000000) (hT : STabs w) (hk : ∀ cs w', EvtIs w' cs (parseP s).1 → Ext w w' → K (.tuple #[.agg cs.toArray, .bool (parseP s).2]) w') : callD Tryz.prog 13 #[.string s] w K := by
  apply F13_wp
  suffices key : ∀ R : Value → World → Prop, (∀ cs w', EvtIs w' cs (parseP s).1 → Ext w w' → R (.tuple #[.agg cs.toArray, .bool (parseP s).2]) w') → F13_den (.string s) w R from key _ hk
  clear hk
  intro R hR
  unfold F13_den
  refine alK inf29 fun w1 hB2 x1 => ?_
  have hB2 : Blk w1 w.heap.size [i64 0, nilS, .string ByteArray.empty, nilS, nilS, i64 0] 29 := hB2
  have l2 := hB2.lt
  generalize hg2 : w.heap.size = g2 at *
  obtain ⟨f1, f2⟩ := wordsF_facts s
  refine words26 hs fun v w2 ho2 x2 => ?_
  have ho2 : w2.ownsRow w1.heap.size 9 1 v (wordsF s).length ((wordsF s).map .string) := ho2
  refine event25 (SliceIs.of_own ho2) f1 (fun b hb => by have := f2 b hb; omega) fun cs w3 he x3 => V_ext0.2 (V_ext1.2 ?_)
  have s2 := x2.size
  have hone := he.now.one
  have he0 := he
  obtain ⟨⟨bv, pv, sv, rfl, _⟩, _⟩ := he.now
  refine asK sa_29 rfl hone.1 fun w4 hB4 x4 => ?_
  have hB4 : Blk w4 w3.heap.size [i64 (evF (wordsF s)).1.kind, bv, .string (evF (wordsF s)).1.name, pv, sv, i64 (evF (wordsF s)).1.fuel] 29 := hB4
  have x14 := (x2.trans x3).trans x4
  refine ldA hB4.boxed la_29 rfl ?_
  refine print7 (he.ext x4).now (hT.ext (x1.trans x14)) fun w5 x5 => V_ext0.2 (V_ext1.2 (V_not.2 ?_))
  have x15 := x14.trans x5
  have x05 := x1.trans x15
  have hB5 := hB4.ext x5
  have he5 := (he.ext x4).ext x5
  have hB25 := hB2.ext x15
  unfold parseP at hR
  have no : ((evF (wordsF s)).2 && (prE (evF (wordsF s)).1).2 && sEq (prE (evF (wordsF s)).1).1 s) = false → V Tryz.prog (Instr.build 29 #[]) w5 fun t30 w20 => U Tryz.prog (Instr.storeAt 29 (.pointer (some ⟨g2, 0, none⟩)) t30) w20 fun _ w21 =>
      ∃ r1, (loadVar 29 (match (Value.pointer (some ⟨g2, 0, none⟩)) with | .pointer (some p) => p | _ => ⟨0, 0, none⟩)).run Tryz.prog w21 = .ok r1 w21 ∧ (∃ p, (Value.pointer (some ⟨g2, 0, none⟩)) = Value.pointer (some p)) ∧ R (.tuple #[r1, .bool false]) w21 := by
    intro hb
    rw [hb, if_neg (by simp)] at hR
    refine bldA (v := .agg #[i64 0, nilS, .string ⟨#[]⟩, nilS, nilS, i64 0]) (fun w => by kernel_rfl) ?_
    refine stA inf29 hB25 (l := [i64 0, nilS, .string ⟨#[]⟩, nilS, nilS, i64 0]) rfl rfl rfl rfl fun w7 hB7 hc => ?_
    exact ⟨_, r_var Tryz.underlying29 rfl inf29 hB7 rfl, ⟨_, rfl⟩, hR _ w7 evt0 (hc.ext _ x05 (by omega))⟩
  cases b1 : (evF (wordsF s)).2 with
  | false =>
    simp only [evL, reduceIte, Bool.not_false]
    exact no (by rw [b1]; rfl)
  | true =>
  simp only [evL, reduceIte, Bool.false_eq_true, Bool.not_true]
  cases b2 : (prE (evF (wordsF s)).1).2 with
  | false =>
    simp only [evL, reduceIte, Bool.not_false]
    exact no (by rw [b1, b2]; rfl)
  | true =>
  simp only [evL, reduceIte, Bool.false_eq_true, Bool.not_true]
  refine V.ok r_neqStr ?_
  cases b3 : (prE (evF (wordsF s)).1).1.toList == s.toList with
  | false =>
    simp only [evL, Bool.not_false]
    exact no (by rw [b1, b2]; exact b3)
  | true =>
    simp only [evL, Bool.not_true]
    rw [b1, b2, show sEq (prE (evF (wordsF s)).1).1 s = true from b3, if_pos (show (true && true && true) = true from rfl)] at hR
    refine ldA hB5.boxed la_29 rfl ?_
    refine stA inf29 hB25 (l := [i64 (evF (wordsF s)).1.kind, bv, .string (evF (wordsF s)).1.name, pv, sv, i64 (evF (wordsF s)).1.fuel]) rfl rfl rfl hone.1 fun w7 hB7 hc => ?_
    exact ⟨_, r_var Tryz.underlying29 rfl inf29 hB7 rfl, ⟨_, rfl⟩, hR _ w7 (he5 w7 ((chg_fr hc).mono fun k hk => ⟨Nat.zero_le _, by omega⟩)) (hc.ext _ x05 (by omega))⟩
end Go.Proofs.YthblbcjgdbaonaaGreatDoor
namespace Go.Proofs.YthblbcjgdbaonaaGreatDoor
open Go.Vc Go.Tc
variable {w : World} {K : Value → World → Prop}
theorem heap91 (hk : ∀ g w', Ext w w' → K (.tuple #[.pointer (some ⟨g, 0, none⟩), i64 0]) w') : callD Tryz.prog 91 #[i64 200] w K := by
  apply F91_wp
  unfold F91_den
  refine V_lss.2 ?_
  simp only [show ¬ ((200 : Int) < 64) by decide, show ¬ ((200 : Int) > 4096) by decide, evL, Int.reduceNeg, reduceIte, Bool.false_eq_true, decide_false]
  refine bldA (v := .agg #[i64 (-1), i64 3, i64 0, .bool false, nilS]) (fun w => by kernel_rfl) (bldA (v := .agg #[i64 (-1), i64 4, i64 0, .bool false, nilS]) (fun w => by kernel_rfl) ?_)
  refine V.ok (v := .slice (some ⟨w.heap.size, 0, none⟩) 2 2) (w' := w.alloc (.cells #[i64 (-1), i64 3, i64 0, .bool false, nilS, i64 (-1), i64 4, i64 0, .bool false, nilS] 187)) (by kernel_rfl) ?_
  have x1 : Ext w (w.alloc (.cells #[i64 (-1), i64 3, i64 0, .bool false, nilS, i64 (-1), i64 4, i64 0, .bool false, nilS] 187)) := (Ext.refl _).alloc _
  generalize (w.alloc (.cells #[i64 (-1), i64 3, i64 0, .bool false, nilS, i64 (-1), i64 4, i64 0, .bool false, nilS] 187)) = w1 at x1 ⊢
  refine bldA (v := .agg #[i64 200, .slice (some ⟨w.heap.size, 0, none⟩) 2 2]) (fun w => by kernel_rfl) (bxK fun w2 _ x2 => hk _ _ (x1.trans x2))
theorem room60 (hk : ∀ g w', Ext w w' → K (.tuple #[.pointer (some ⟨g, 0, none⟩), i64 0]) w') : callD Tryz.prog 60 #[i64 200] w K := by
  apply F60_wp
  unfold F60_den
  refine heap91 fun g w1 x1 => V_ext0.2 (V_ext1.2 (V_neqI.2 ?_))
  simp only [evL, not_true_eq_false, ne_eq, decide_false]
  exact bldA (v := .agg #[.pointer (some ⟨g, 0, none⟩), nilS, nilS, nilS, nilS]) (fun w => by kernel_rfl) (bxK fun w2 _ x2 => hk _ _ (x1.trans x2))
theorem leak61 (hk : ∀ g w', Ext w w' → K (.pointer (some ⟨g, 0, none⟩)) w') : callD Tryz.prog 61 #[] w K := by
  apply F61_wp
  unfold F61_den
  exact bldA (v := .agg #[nilS]) (fun w => by kernel_rfl) (bxK fun w2 _ x2 => hk _ _ x2)
structure CardK (w : World) (B g : Nat) : Prop where
  lt : B ≤ g
  blk : ∃ a b c, Blk w g [a, b, i64 (-1), c] 127
theorem card42 (hk : ∀ g w', CardK w' w.heap.size g → Ext w w' → K (.tuple #[.pointer (some ⟨g, 0, none⟩), i64 0]) w') : callD Tryz.prog 42 #[i64 200, i64 0] w K := by
  apply F42_wp
  unfold F42_den
  refine room60 fun g w1 x1 => V_ext0.2 (V_ext1.2 (V_neqI.2 ?_))
  simp only [evL, Int.reduceEq, Int.reduceNeg, not_true_eq_false, ne_eq, decide_true, decide_false]
  refine leak61 fun q w2 x2 => ?_
  refine bldA (v := .agg #[.pointer (some ⟨g, 0, none⟩), .nilIface, i64 (-1), .pointer (some ⟨q, 0, none⟩)]) (fun w => by kernel_rfl) (bxK fun w3 hB x3 => ?_)
  have hB : Blk w3 w2.heap.size [.pointer (some ⟨g, 0, none⟩), .nilIface, i64 (-1), .pointer (some ⟨q, 0, none⟩)] 127 := hB
  refine bldA (v := .agg #[]) (fun w => by kernel_rfl) (mki mi_129 ⟨.inl ⟨_, rfl⟩, ?_⟩)
  have x02 := x1.trans x2
  have s2 := x02.size
  refine stF fa_127_1 inf125 hB rfl (by simp) rfl (hk _ _ ⟨s2, _, _, _, hB.set 1 _⟩ ?_)
  exact (Fr.of_set (S := fun k => k = w2.heap.size) rfl).ext (x02.trans x3) fun k hk => by have hk : k = w2.heap.size := hk; omega
theorem des64 {B g : Nat} (h : CardK w B g) (hk : ∀ w', CardK w' B g → Fr (fun k => k = g) w w' → K (.tuple #[]) w') : callD Tryz.prog 64 #[.pointer (some ⟨g, 0, none⟩)] w K := by
  apply F64_wp
  unfold F64_den
  obtain ⟨hlt, a, b, c, hB⟩ := h
  refine ⟨.inl ⟨_, rfl⟩, ldB hB.boxed fa_127_2 l1_3 rfl (V_neqI.2 ?_)⟩
  simp only [evL, Int.reduceNeg, not_true_eq_false, ne_eq, decide_false]
  exact ⟨.inl ⟨_, rfl⟩, stF fa_127_2 inf3 hB rfl (by simp) rfl (hk _ ⟨hlt, a, b, c, hB.set 2 (i64 (-1))⟩ (Fr.of_set rfl))⟩
theorem play44 {B g : Nat} {cs : List Value} {e : Evt} (h : CardK w B g) (he : EvtIs w cs e) (h3 : e.kind = 3) (_ : B ≤ w.heap.size) (hk : ∀ w', CardK w' B g → Fr (fun k => k = g ∨ w.heap.size ≤ k) w w' → K (.agg #[i64 27013, nilS, nilS]) w') :
    callD Tryz.prog 44 #[.pointer (some ⟨g, 0, none⟩), .agg cs.toArray] w K := by
  apply F44_wp
  unfold F44_den
  obtain ⟨⟨bv, pv, sv, rfl, _⟩, _⟩ := he
  refine bxK fun w1 hB1 x1 => alK inf27 fun w2 hB2 x2 => ?_
  have hB1 : Blk w1 w.heap.size [i64 e.kind, bv, .string e.name, pv, sv, i64 e.fuel] 29 := hB1
  have hB2 : Blk w2 w1.heap.size [i64 0, nilS, nilS] 27 := hB2
  have hB1 := hB1.ext x2
  rw [h3] at hB1
  obtain ⟨hlt, a, b, c, hB⟩ := h
  have hgl := hB.lt
  have x02 := x1.trans x2
  have s1 := x1.size
  have hc2 : CardK w2 B g := ⟨hlt, a, b, c, hB.ext x02⟩
  refine ldB hB1.boxed fa_29_0 l1_3 rfl (V_eqlI.2 ?_)
  simp only [evL, Int.reduceEq, Int.reduceNeg, decide_true, decide_false]
  refine ⟨.inl ⟨_, rfl⟩, ldB (hB.ext x02).boxed fa_127_2 l1_3 rfl (V_eqlI.2 ?_)⟩
  simp only [evL, Int.reduceNeg, decide_true]
  refine des64 hc2 fun w3 hc3 f3 => ?_
  refine bldA (v := .agg #[i64 27013, nilS, nilS]) (fun w => by kernel_rfl) ?_
  have hB23 : Blk w3 w1.heap.size [i64 0, nilS, nilS] 27 := f3.blk hB2 (by show ¬ w1.heap.size = g; omega)
  refine stA inf27 hB23 (l := [i64 27013, nilS, nilS]) rfl rfl rfl rfl fun w4 hB4 hc => ?_
  refine ⟨_, r_var Tryz.underlying27 rfl inf27 hB4 rfl, ⟨_, rfl⟩, hk w4 ?_ ?_⟩
  · obtain ⟨h1, a, b, c, h2⟩ := hc3
    exact ⟨h1, a, b, c, (chg_fr hc).blk h2 (by show ¬ g = w1.heap.size; omega)⟩
  · refine (((Fr.of_ext (S := fun k => k = g ∨ w.heap.size ≤ k) x02).trans f3 fun k hk h => .inl h)).trans (chg_fr hc) fun k hk h => ?_
    have h : k = w1.heap.size := h
    exact .inr (by omega)
end Go.Proofs.YthblbcjgdbaonaaGreatDoor
namespace Go.Proofs.YthblbcjgdbaonaaGreatDoor
open Go.Vc Go.Tc
variable {w : World} {K : Value → World → Prop}
theorem ArgsU8.any {w' : World} {v : Value} (h : ArgsU8 w v []) : ArgsU8 w' v [] := by
  rcases h with h | ⟨a, c, h1, _⟩
  · exact .inl h
  · exact .inr ⟨a, c, h1, fun h => absurd h (by decide)⟩
def sDesNl : ByteArray := ⟨#[100, 101, 115, 101, 108, 101, 99, 116, 10]⟩
def sAns : ByteArray := ⟨#[54, 57, 56, 53, 32, 45, 32, 45, 10]⟩
theorem q_count : Lib.countB sDesNl ⟨#[10]⟩ = 1 := by kernel_rfl
theorem q_split : (Lib.splitB ⟨#[10]⟩ 0 1 sDesNl).map Value.string = [.string sDes, .string ⟨#[]⟩] := by kernel_rfl
theorem q_parse : parseP sDes = ({ ev0 with kind := 3 }, true) := by kernel_rfl
theorem q_tell : tellS 27013 [] [] ++ ⟨#[10]⟩ = sAns := by kernel_rfl
theorem e_sp : ∀ args w, (callFunc 41 args).run Tryz.prog w = .ok (.enter 41 args) w := enters_of lays146.f146 (by kernel_rfl) rfl
theorem e_ws : ∀ args w, (callFunc 43 args).run Tryz.prog w = .ok (.enter 43 args) w := enters_of lays166.f166 (by kernel_rfl) rfl
set_option maxHeartbeats 3200000 in
theorem run24 (hT : STabs w) (hk : ∀ w', Ext w w' → K (.tuple #[.string sAns, i64 0, i64 0]) w') : callD Tryz.prog 24 #[i64 200, i64 0, .string sDesNl] w K := by
  apply F24_wp
  suffices key : ∀ R : Value → World → Prop, (∀ w', Ext w w' → R (.tuple #[.string sAns, i64 0, i64 0]) w') → F24_den (i64 200) (i64 0) (.string sDesNl) w R from key _ hk
  clear hk
  intro R hR
  unfold F24_den
  obtain ⟨m, hm⟩ := hT.ml
  refine callD.mono (R := fun v w' => v = .slice (some ⟨w.heap.size, 0, none⟩) 2 2 ∧ Blk w' w.heap.size [.string sDes, .string ⟨#[]⟩] 9 ∧ Ext w w') ⟨e_sp, (sSplit sDesNl ⟨#[10]⟩ m w (by decide) hm (by decide)).mono fun e w' ⟨he, hw⟩ => by
    rw [q_count] at he hw
    rw [q_split] at hw
    subst hw
    exact ⟨_, he, rfl, by unfold Blk; rw [heap_alloc_new], (Ext.refl _).alloc _⟩⟩ fun v w1 ⟨hv, hb1, x1⟩ => ?_
  subst hv
  have hs1 : SliceIs w1 (.slice (some ⟨w.heap.size, 0, none⟩) 2 2) 1 2 [.string sDes, .string ⟨#[]⟩] := hb1.slice rfl (by decide)
  refine ⟨fun v w' => v = .slice (some ⟨w.heap.size, 0, none⟩) 1 2 ∧ w' = w1, ?_, ?_⟩
  · refine V_ln_53.2 (V_sub.2 ?_)
    refine ldx xa_53 l1_9 hs1 (by decide) (by decide) (u := .string ⟨#[]⟩) rfl ?_
    refine V.ok (v := .bool true) (w' := w1) (by kernel_rfl) (ifD_true.2 (V_ln_53.2 (V_sub.2 ?_)))
    exact V.ok (v := .slice (some ⟨w.heap.size, 0, none⟩) 1 2) (w' := w1) (by kernel_rfl) ⟨rfl, rfl⟩
  rintro _ w' ⟨rfl, hw⟩ _
  rw [hw]
  clear hw w'
  refine V_ln_53.2 (V_gtr.2 ?_)
  simp only [show ¬ (((1 : Nat) : Int) > 400) by decide, evL, decide_false]
  refine V_ln_53.2 ?_
  refine ⟨fun t10 t39 w' => (t39 = i64 0 ∧ t10 = nilS ∧ w' = w1) ∨ (t39 = i64 1 ∧ ∃ a0 c0 a1 c1 a2 c2, w'.ownsRow w.heap.size 29 6 t10 1 [i64 3, .slice a0 0 c0, .string ⟨#[]⟩, .slice a1 0 c1, .slice a2 0 c2, i64 0] ∧ Ext w w' ∧ ∀ w' : World, ArgsU8 w' (.slice a0 0 c0) [] ∧ ArgsU8 w' (.slice a1 0 c1) [] ∧ ArgsU8 w' (.slice a2 0 c2) []), fun _ t39 _ => 2 - (RowKit.intOf t39).toNat, .inl ⟨rfl, rfl, rfl⟩, ?_⟩
  rintro t10 t39 w2 hI _
  rcases hI with ⟨rfl, rfl, hw⟩ | ⟨rfl, a0, c0, a1, c1, a2, c2, ho2, x2, hem⟩
  · rw [hw]
    clear hw w2
    refine V_lss.2 ?_
    simp only [show ((0 : Int) < ((1 : Nat) : Int)) by decide, evL, decide_true]
    have hs2 : SliceIs w1 (.slice (some ⟨w.heap.size, 0, none⟩) 1 2) 1 1 [.string sDes] := ⟨rfl, .inr ⟨_, 0, 2, rfl, by decide, by decide, fun j u hj => by
      match j, hj with
      | 0, hj => cases hj; rw [hb1.cell]; rfl
      | j + 1, hj => cases hj⟩⟩
    refine ldx xa_53 l1_9 hs2 (by decide) (by decide) (u := .string sDes) rfl ?_
    refine parse13 (by decide) (hT.ext x1) fun cs w3 he x3 => V_ext0.2 (V_ext1.2 ?_)
    rw [q_parse] at he ⊢
    obtain ⟨⟨bv, pv, sv, rfl, h1, h2, h3⟩, _⟩ := he
    have hem : ∀ w' : World, ArgsU8 w' bv [] ∧ ArgsU8 w' pv [] ∧ ArgsU8 w' sv [] := fun w' => ⟨h1.any, h2.any, h3.any⟩
    obtain ⟨a0, c0, rfl, _⟩ := h1.sl
    obtain ⟨a1, c1, rfl, _⟩ := h2.sl
    obtain ⟨a2, c2, rfl, _⟩ := h3.sl
    refine asK sa_29 rfl rfl fun w4 hb4 x4 => ?_
    refine V.ok (v := .bool true) (w' := w4) (by kernel_rfl) ?_
    simp only [evL, reduceIte, Bool.not_true]
    refine ldA hb4.boxed la_29 rfl ?_
    refine V.ok (v := .slice (some ⟨w4.heap.size, 0, none⟩) 1 1) (w' := w4.alloc (.cells #[i64 3, .slice a0 0 c0, .string ⟨#[]⟩, .slice a1 0 c1, .slice a2 0 c2, i64 0] 29)) (by kernel_rfl) ?_
    have hb5 : Blk (w4.alloc (.cells #[i64 3, .slice a0 0 c0, .string ⟨#[]⟩, .slice a1 0 c1, .slice a2 0 c2, i64 0] 29)) w4.heap.size [i64 3, .slice a0 0 c0, .string ⟨#[]⟩, .slice a1 0 c1, .slice a2 0 c2, i64 0] 29 := by unfold Blk; rw [heap_alloc_new]
    have x5 : Ext w4 (w4.alloc (.cells #[i64 3, .slice a0 0 c0, .string ⟨#[]⟩, .slice a1 0 c1, .slice a2 0 c2, i64 0] 29)) := (Ext.refl _).alloc _
    generalize w4.alloc (.cells #[i64 3, .slice a0 0 c0, .string ⟨#[]⟩, .slice a1 0 c1, .slice a2 0 c2, i64 0] 29) = w5 at hb5 x5 ⊢
    have X5 := ((x1.trans x3).trans x4).trans x5
    have hs5 : SliceIs w5 (.slice (some ⟨w4.heap.size, 0, none⟩) 1 1) 6 1 [i64 3, .slice a0 0 c0, .string ⟨#[]⟩, .slice a1 0 c1, .slice a2 0 c2, i64 0] := ⟨rfl, .inr ⟨_, 0, 1, rfl, by decide, by decide, fun j u hj => by rw [Nat.zero_add, hb5.cell]; exact hj⟩⟩
    refine apA Tryz.underlying80 inf29 rfl (by omega) (World.ownsRow_nil w5 w.heap.size _ _) hs5 rfl (by omega) (by unfold maxLen; omega) X5.size fun v6 w6 ho6 hg => ?_
    refine V_add.2 ?_
    exact ⟨.inr ⟨rfl, a0, c0, a1, c1, a2, c2, ho6, X5.grown hg fun k hk => (by cases hk), hem⟩, by decide⟩
  refine V_lss.2 ?_
  simp only [show ¬ ((1 : Int) < ((1 : Nat) : Int)) by decide, evL, decide_false]
  refine card42 fun g w3 hc3 x3 => V_ext0.2 (V_ext1.2 (V_neqI.2 ?_))
  simp only [evL, not_true_eq_false, ne_eq, decide_false]
  refine alK inf73 fun w4 hb4 x4 => ?_
  have X3 := x2.trans x3
  have X4 := X3.trans x4
  have s2 := x2.size
  have s3 := x3.size
  have lb4 := hb4.lt
  have lg : g < w3.heap.size := by obtain ⟨_, _, _, _, h⟩ := hc3; exact h.lt
  have hc4 : CardK w4 w2.heap.size g := by obtain ⟨h1, a, b, c, h2⟩ := hc3; exact ⟨h1, a, b, c, h2.ext x4⟩
  have hb4 : Blk w4 w3.heap.size [.pointer none, nilS] 73 := hb4
  have ho4 := (Fr.of_ext (S := fun _ => False) (x3.trans x4)).own ho2 fun _ _ h => h
  obtain ⟨ea, ec, rfl⟩ : ∃ a c, t10 = .slice a 1 c := (SliceIs.of_own ho2).shape
  refine V_ln_80.2 ?_
  have bel : ∀ {a b : World}, RowKit.Below w3.heap.size a b → Ext w a → Ext w b := fun hb hx => ⟨hb.os.trans hx.os, hb.tape.trans hx.tape, hb.output.trans hx.output, Nat.le_trans hx.size hb.size, fun i hi hn => (hb.block i (by omega)).trans (hx.block i hi hn)⟩
  refine ⟨fun x w' => (x = i64 0 ∧ w' = w4) ∨ (x = i64 1 ∧ Lib.IsBuilder 73 5 w3.heap.size w3.heap.size (Lib.byteCells sAns.data.toList) w' ∧ Ext w w' ∧ w3.heap.size ≤ w'.heap.size), fun x _ => 2 - (RowKit.intOf x).toNat, .inl ⟨rfl, rfl⟩, ?_⟩
  rintro x w5 hI _
  rcases hI with ⟨rfl, hw⟩ | ⟨rfl, hB5, X5, hs5⟩
  · rw [hw]
    clear hw w5
    refine V_lss.2 ?_
    simp only [show ((0 : Int) < ((1 : Nat) : Int)) by decide, evL, decide_true]
    refine ldxA xa_80 la_29 (SliceIs.of_own ho4) (by decide) (by decide) (l := [i64 3, .slice a0 0 c0, .string ⟨#[]⟩, .slice a1 0 c1, .slice a2 0 c2, i64 0]) rfl rfl ?_
    refine asK sa_29 rfl rfl fun w6 hb6 x6 => ?_
    refine ldA hb6.boxed la_29 rfl ?_
    have hc6 : CardK w6 w2.heap.size g := by obtain ⟨h1, a, b, c, h2⟩ := hc4; exact ⟨h1, a, b, c, h2.ext x6⟩
    have s6 := x6.size
    refine play44 (cs := [i64 3, .slice a0 0 c0, .string ⟨#[]⟩, .slice a1 0 c1, .slice a2 0 c2, i64 0]) (e := { ev0 with kind := 3 }) hc6 ⟨⟨_, _, _, rfl, (hem w6).1, (hem w6).2.1, (hem w6).2.2⟩, u8nil, u8nil, u8nil⟩ rfl (by omega) fun w7 hc7 f7 => ?_
    have X6 := X4.trans x6
    have X7 : Ext w w7 := f7.ext X6 fun k hk => by
      rcases hk with hk | hk
      · have := hc3.lt; omega
      · have := X6.size; omega
    have hb7 := f7.blk (hb4.ext x6) (by show ¬ (w3.heap.size = g ∨ w6.heap.size ≤ w3.heap.size); omega)
    refine tell11 (st := 27013) (by decide) (ArgsU8.nil _) (ArgsU8.nil _) u8nil u8nil (by decide) (by decide) fun w8 x8 => V.ok (r_cat (by decide +kernel)) ?_
    rw [q_tell]
    have X8 := X7.trans x8
    have hb8 := hb7.ext x8
    have l8 := hb8.lt
    refine callD.mono (R := fun v w' => Lib.IsBuilder 73 5 w3.heap.size w3.heap.size (Lib.byteCells sAns.data.toList) w' ∧ Ext w w' ∧ w3.heap.size ≤ w'.heap.size) ⟨e_ws, (sWriteString w3.heap.size w3.heap.size [] sAns w8 (.inl ⟨Nat.le_refl _, _, hb8, World.ownsRow_nil _ _ _ _, fun h => by cases h⟩) (by decide) (by omega)).mono fun e w' ⟨he, hb, hbel⟩ => ⟨_, he, .inr hb, bel hbel X8, by have := hbel.size; omega⟩⟩ fun v9 w9 ⟨hB9, X9, s9⟩ => ?_
    refine V_add.2 ?_
    exact ⟨.inr ⟨by rfl, hB9, X9, s9⟩, by decide⟩
  refine V_lss.2 ?_
  simp only [show ¬ ((1 : Int) < ((1 : Nat) : Int)) by decide, evL, decide_false]
  refine callD.mono (R := fun v w' => v = .string sAns ∧ Ext w w') ⟨e_st, (sString _ _ _ _ hB5 hs5).mono fun e w' ⟨he, hbel⟩ => ⟨_, he, rfl, bel hbel X5⟩⟩ fun v6 w6 ⟨hv6, X6⟩ => ?_
  subst hv6
  exact hR _ X6
theorem known10 (hT : STabs w) (hk : ∀ w', Ext w w' → K (.bool true) w') : callD Tryz.prog 10 #[] w K := by
  apply F10_wp
  unfold F10_den
  refine run24 hT fun w1 x1 => V_tup (v := .string sAns) rfl (V_tup (v := i64 0) rfl (V_tup (v := i64 0) rfl (V_eqlI.2 ?_)))
  simp only [evL, reduceIte, decide_true]
  exact V.ok (v := .bool true) (w' := w1) (by kernel_rfl) (hk _ x1)
end Go.Proofs.YthblbcjgdbaonaaGreatDoor
namespace Go.Proofs.YthblbcjgdbaonaaGreatDoor
open Go.Vc Go.Tc
variable {w : World} {K : Value → World → Prop}
end Go.Proofs.YthblbcjgdbaonaaGreatDoor
namespace Go.Tc
open Go.Vc
inductive NmL : List UInt8 → Prop
  | z : NmL []
  | a {b : UInt8} {l : List UInt8} (h : b.toNat < 128) (h2 : b.toNat ≠ 32) (hl : NmL l) : NmL (b :: l)
  | p {b : UInt8} {l : List UInt8} (h : 160 ≤ b.toNat) (h2 : b.toNat ≤ 191) (hl : NmL l) : NmL (195 :: b :: l)
theorem at_drop {s : ByteArray} {p : Nat} {b : UInt8} {l : List UInt8} (h : s.data.toList.drop p = b :: l) : ∃ hp : p < s.size, s[p]'hp = b := by
  have hl : p < s.data.toList.length := by
    rcases Nat.lt_or_ge p s.data.toList.length with h' | h'
    · exact h'
    · rw [List.drop_eq_nil_of_le h'] at h; cases h
  have hp : p < s.size := by rw [Array.length_toList] at hl; exact hl
  refine ⟨hp, ?_⟩
  have : s.data.toList[p]? = some b := by
    have := congrArg (fun l => l[0]?) h
    simpa using this
  rw [List.getElem?_eq_getElem hl] at this
  have := Option.some.inj this
  rw [← this]
  show s.data[p] = _
  rw [Array.getElem_toList]
theorem drop_succ {s : ByteArray} {p : Nat} {b : UInt8} {l : List UInt8} (h : s.data.toList.drop p = b :: l) : s.data.toList.drop (p + 1) = l := by
  rw [← List.drop_drop, h]; rfl
theorem get_at2 {s : ByteArray} {p : Nat} {b : UInt8} {l : List UInt8} (h : s.data.toList.drop p = b :: l) : s.get! p = b := by
  obtain ⟨hp, hb⟩ := at_drop h
  have := Go.get_at s p hp
  rw [Nat.add_zero] at this
  rw [this, hb]
theorem dec_a {s : ByteArray} {p : Nat} {b : UInt8} {l : List UInt8} (h : s.data.toList.drop p = b :: l) (hb : b.toNat < 128) : Utf8.decode s p = (b.toNat, 1) := by
  obtain ⟨hp, hb'⟩ := at_drop h
  rw [Go.decode_ascii s p hp (by rw [hb']; exact hb), hb']
theorem dec_p {s : ByteArray} {p : Nat} {b : UInt8} {l : List UInt8} (h : s.data.toList.drop p = 195 :: b :: l) (h1 : 160 ≤ b.toNat) (h2 : b.toNat ≤ 191) : Utf8.decode s p = (64 + b.toNat, 2) := by
  have g0 := get_at2 h
  have hd := drop_succ h
  have g1 := get_at2 hd
  obtain ⟨hp, _⟩ := at_drop hd
  simp only [Utf8.decode, Nat.add_zero, g0, g1]
  have e0 : (195 : UInt8).toNat = 195 := rfl
  rw [e0]
  have c1 : ((195 / 32 == 6) && (decide (p + 1 < s.size) && b.toNat / 64 == 2)) = true := by
    simp only [Bool.and_eq_true, decide_eq_true_eq, beq_iff_eq]
    exact ⟨by decide, hp, by omega⟩
  rw [if_neg (by decide), if_pos c1, if_pos (by omega)]
  congr 1
  omega
theorem enc_a {b : UInt8} (h : b.toNat < 128) : Utf8.encode (b.toNat : Int) = ⟨#[b]⟩ := by
  have hv : Utf8.valid (b.toNat : Int) = true := by
    simp only [Utf8.valid, Bool.or_eq_true, Bool.and_eq_true, decide_eq_true_eq]; omega
  simp only [Utf8.encode, hv, if_true, Int.toNat_natCast]
  rw [if_pos h]
  simp
theorem enc_p {b : UInt8} (h1 : 160 ≤ b.toNat) (h2 : b.toNat ≤ 191) : Utf8.encode ((64 + b.toNat : Nat) : Int) = ⟨#[195, b]⟩ := by
  have hv : Utf8.valid ((64 + b.toNat : Nat) : Int) = true := by
    simp only [Utf8.valid, Bool.or_eq_true, Bool.and_eq_true, decide_eq_true_eq]; omega
  simp only [Utf8.encode, hv, if_true, Int.toNat_natCast]
  rw [if_neg (by omega), if_pos (by omega), show 0xC0 + (64 + b.toNat) / 64 = 195 by omega, show 0x80 + (64 + b.toNat) % 64 = b.toNat by omega]
  simp
theorem wstep_word {acc : List ByteArray} {x : ByteArray} {c : Nat} (h : c ≠ 32) : wstep (acc ++ [x]) c = acc ++ [x ++ Utf8.encode c] := by
  rw [wstep, if_neg h]
  simp
theorem words_word {s : ByteArray} : ∀ {l : List UInt8}, NmL l → ∀ {rest : List UInt8} {p : Nat} {acc : List ByteArray} {x : ByteArray}, s.data.toList.drop p = l ++ rest → wordsN s s.size p (acc ++ [x]) = wordsN s s.size (p + l.length) (acc ++ [x ++ ⟨l.toArray⟩]) := by
  intro l hl
  induction hl with
  | z =>
    intro rest p acc x _
    rw [show x ++ (⟨([] : List UInt8).toArray⟩ : ByteArray) = x from ByteArray.ext (by simp)]
    rfl
  | @a b l h h2 hl ih =>
    intro rest p acc x hd
    rw [wordsN_step (at_drop hd).1, dec_a hd h, wstep_word h2, ih (drop_succ hd), enc_a h, ByteArray.append_assoc, show (⟨#[b]⟩ : ByteArray) ++ ⟨l.toArray⟩ = ⟨(b :: l).toArray⟩ from ba_app [b] l, List.length_cons, show p + 1 + l.length = p + (l.length + 1) by omega]
  | @p b l h h2 hl ih =>
    intro rest p acc x hd
    rw [wordsN_step (at_drop hd).1, dec_p hd h h2, wstep_word (by omega), ih (by rw [show p + 2 = p + 1 + 1 from rfl]; exact drop_succ (drop_succ hd)), enc_p h h2, ByteArray.append_assoc, show (⟨#[195, b]⟩ : ByteArray) ++ ⟨l.toArray⟩ = ⟨(195 :: b :: l).toArray⟩ from ba_app [195, b] l, List.length_cons, List.length_cons, show p + 2 + l.length = p + (l.length + 1 + 1) by omega]
theorem words_blank {s : ByteArray} {rest : List UInt8} {p : Nat} {acc : List ByteArray} (hd : s.data.toList.drop p = 32 :: rest) : wordsN s s.size p acc = wordsN s s.size (p + 1) (acc ++ [⟨#[]⟩]) := by
  rw [wordsN_step (at_drop hd).1, dec_a hd (by decide)]
  rfl
theorem words_end {s : ByteArray} {p : Nat} {acc : List ByteArray} (h : s.data.toList.drop p = []) : wordsN s s.size p acc = acc := by
  refine wordsN_end (fun hp => ?_)
  have : s.data.toList.length ≤ p := List.drop_eq_nil_iff.1 h
  rw [Array.length_toList] at this
  exact absurd hp (Nat.not_lt.2 this)
end Go.Tc
namespace Go.Proofs.YthblbcjgdbaonaaGreatDoor
open Go.Vc Go.Tc
theorem decode_big {s : ByteArray} {p : Nat} (h1 : ¬ (s.get! p).toNat < 128) (h2 : ¬ ((s.get! p).toNat / 32 == 6 && (decide (p + 1 < s.size) && (s.get! (p + 1)).toNat / 64 == 2)) = true) : 255 < (Utf8.decode s p).1 := by
  simp only [Utf8.decode, Nat.add_zero]
  rw [if_neg h1, if_neg h2]
  repeat' split
  all_goals simp_all [Utf8.runeError]
  all_goals omega
theorem nm_of_scan {s : ByteArray} : ∀ {n p : Nat}, s.size ≤ p + n → scanN s n p = true → NmL (s.data.toList.drop p)
  | 0, p, h, _ => by
    rw [List.drop_eq_nil_of_le (by rw [Array.length_toList]; exact h)]
    exact .z
  | n + 1, p, h, hs => by
    by_cases hp : p < s.size
    case neg =>
      rw [List.drop_eq_nil_of_le (by rw [Array.length_toList]; exact Nat.le_of_not_lt hp)]
      exact .z
    rw [scanN, if_pos hp, Bool.and_eq_true] at hs
    obtain ⟨hr, hs⟩ := hs
    have hd : ∀ {q} (hq : q < s.size), s.data.toList.drop q = s[q]'hq :: s.data.toList.drop (q + 1) := fun {q} hq => by
      have hl : q < s.data.toList.length := by rw [Array.length_toList]; exact hq
      rw [List.drop_eq_getElem_cons hl]
      rw [Array.getElem_toList]
      rfl
    have g0 := get_at2 (hd hp)
    have rn := rnB_cases hr
    have hpos := decode_pos hp
    by_cases h0 : (s.get! p).toNat < 128
    · have e := dec_a (hd hp) (by rw [← g0]; exact h0)
      rw [e] at hs rn
      rw [hd hp]
      simp only at rn
      refine .a (by rw [← g0]; exact h0) (by omega) (nm_of_scan (n := n) (by omega) hs)
    · by_cases h1 : ((s.get! p).toNat / 32 == 6 && (decide (p + 1 < s.size) && (s.get! (p + 1)).toNat / 64 == 2)) = true
      · have h1' := h1
        simp only [Bool.and_eq_true, decide_eq_true_eq, beq_iff_eq] at h1'
        obtain ⟨a1, hp1, a2⟩ := h1'
        have e : Utf8.decode s p = if (s.get! p).toNat % 32 * 64 + (s.get! (p + 1)).toNat % 64 ≥ 128 then ((s.get! p).toNat % 32 * 64 + (s.get! (p + 1)).toNat % 64, 2) else (Utf8.runeError, 1) := by
          simp only [Utf8.decode, Nat.add_zero]
          rw [if_neg h0, if_pos h1]
        by_cases h2 : (s.get! p).toNat % 32 * 64 + (s.get! (p + 1)).toNat % 64 ≥ 128
        · rw [if_pos h2] at e
          rw [e] at hs rn
          simp only at rn
          have g1 := get_at2 (hd hp1)
          have e0 : s[p]'hp = 195 := UInt8.toNat_inj.1 (by show _ = 195; rw [← g0]; omega)
          rw [hd hp, e0, hd hp1]
          exact .p (by rw [← g1]; omega) (by rw [← g1]; omega) (nm_of_scan (n := n) (by omega) hs)
        · rw [if_neg h2] at e
          rw [e] at rn
          simp [Utf8.runeError] at rn
      · have := decode_big h0 h1
        omega
theorem nm_word {s : ByteArray} (h : nmB' s = true) : NmL s.data.toList := by
  simp only [nmB', Bool.and_eq_true] at h
  exact nm_of_scan (n := s.size) (p := 0) (by omega) h.2.2
theorem dig_b : ∀ k : Fin 16, (dig k.val).toNat < 128 ∧ (dig k.val).toNat ≠ 32 ∧ hx (dig k.val).toNat = (k.val : Int) ∧ dig k.val ≠ 45 := by decide +kernel
theorem dig_n {k : Nat} (h : k < 16) : (dig k).toNat < 128 ∧ (dig k).toNat ≠ 32 ∧ hx (dig k).toNat = (k : Int) := by
  have := dig_b ⟨k, h⟩
  exact ⟨this.1, this.2.1, this.2.2.1⟩
theorem hexI_cons (b : Int) (l : List Int) : hexI (b :: l) = dig (b.toNat / 16) :: dig (b.toNat % 16) :: hexI l := rfl
theorem hexI_nm : ∀ {l : List Int}, U8s l → NmL (hexI l)
  | [], _ => .z
  | b :: l, h => by
    have hb := h b (by simp)
    have d1 := dig_b ⟨b.toNat / 16, by omega⟩
    have d2 := dig_b ⟨b.toNat % 16, by omega⟩
    exact .a d1.1 d1.2.1 (.a d2.1 d2.2.1 (hexI_nm fun x hx => h x (by simp [hx])))
theorem byN_hex {s : ByteArray} : ∀ {l : List Int} {p : Nat} {out : List Int}, U8s l → s.data.toList.drop p = hexI l → byN s s.size p out (-1) = (out ++ l, !decide (s.size = 0))
  | [], p, out, _, hd => by
    have : s.data.toList.length ≤ p := List.drop_eq_nil_iff.1 hd
    rw [Array.length_toList] at this
    rw [byN_end (Nat.not_lt.2 this)]
    simp
  | b :: l, p, out, h, hd => by
    have hb := h b (by simp)
    obtain ⟨n, rfl⟩ : ∃ n : Nat, b = n := ⟨b.toNat, by omega⟩
    have d1 := dig_n (k := n / 16) (by omega)
    have d2 := dig_n (k := n % 16) (by omega)
    rw [hexI_cons, Int.toNat_natCast] at hd
    rw [byN_step (at_drop hd).1, dec_a hd d1.1, if_neg (by rw [d1.2.2]; omega), if_pos (by decide), d1.2.2]
    have hd2 := drop_succ hd
    rw [byN_step (at_drop hd2).1, dec_a hd2 d2.1, if_neg (by rw [d2.2.2]; omega), if_neg (by omega), d2.2.2, byN_hex (fun x hx => h x (by simp [hx])) (drop_succ hd2), List.append_assoc, show 16 * ((n / 16 : Nat) : Int) + ((n % 16 : Nat) : Int) = (n : Int) by omega]
    rfl
theorem byF_hex {l : List Int} (h : U8s l) : byF (hexS l) = (l, true) := by
  unfold hexS
  by_cases h0 : l = []
  · subst h0
    rw [if_pos rfl]
    unfold byF
    rw [if_pos (by simp)]
  · rw [if_neg h0]
    obtain ⟨b, l', rfl⟩ := List.exists_cons_of_ne_nil h0
    have hb := h b (by simp)
    have d1 := dig_b ⟨b.toNat / 16, by omega⟩
    unfold byF
    have hne : ((⟨(hexI (b :: l')).toArray⟩ : ByteArray).toList == ({ data := #[45] } : ByteArray).toList) = false := by
      rw [ByteArray.toList_eq, ByteArray.toList_eq, hexI_cons]
      simp
    rw [hne, if_neg (by simp), byN_hex h rfl]
    rw [List.nil_append]
    have : (⟨(hexI (b :: l')).toArray⟩ : ByteArray).size = 2 * (l'.length + 1) := by
      show (hexI (b :: l')).toArray.size = _
      rw [List.size_toArray, hexI_len]; rfl
    rw [this]
    simp
end Go.Proofs.YthblbcjgdbaonaaGreatDoor
namespace Go.Proofs.YthblbcjgdbaonaaGreatDoor
open Go.Vc Go.Tc
def valD (l : List UInt8) (k : Int) : Int := l.foldl (fun k b => 10 * k + ((b.toNat : Nat) - 48 : Int)) k
theorem num_run {s : ByteArray} (h7 : s.size ≤ 7) : ∀ {l : List UInt8} {p : Nat} {k : Int}, (∀ b ∈ l, 48 ≤ b.toNat ∧ b.toNat ≤ 57) → s.data.toList.drop p = l → numN s s.size p k = some (valD l k)
  | [], p, k, _, hd => by
    have : s.data.toList.length ≤ p := List.drop_eq_nil_iff.1 hd
    rw [Array.length_toList] at this
    exact numN_end (Nat.not_lt.2 this)
  | b :: l, p, k, h, hd => by
    have hb := h b (by simp)
    rw [numN_step (at_drop hd).1, dec_a hd (by omega), if_neg (by omega), num_run h7 (fun x hx => h x (by simp [hx])) (drop_succ hd)]
    rfl
theorem dd_lt {u : Nat} (h : u < 10) : Lib.decDigits u = [UInt8.ofNat (48 + u)] := by rw [Lib.decDigits, dif_pos h]
theorem dd_b {u : Nat} (h : u < 10) : (UInt8.ofNat (48 + u)).toNat = 48 + u := by
  rw [UInt8.toNat_ofNat']; omega
theorem dd_facts : ∀ (u : Nat), (∀ b ∈ Lib.decDigits u, 48 ≤ b.toNat ∧ b.toNat ≤ 57) ∧ valD (Lib.decDigits u) 0 = u ∧ (1 ≤ u → ∃ b l, Lib.decDigits u = b :: l ∧ b.toNat ≠ 48) := by
  intro u
  induction u using Nat.strongRecOn with
  | ind u ih =>
  by_cases h : u < 10
  · rw [dd_lt h]
    have e := dd_b h
    refine ⟨fun b hb => ?_, ?_, fun h1 => ⟨_, _, rfl, by omega⟩⟩
    · rw [List.mem_singleton] at hb; subst hb; omega
    · simp only [valD, List.foldl_cons, List.foldl_nil, e]; omega
  · have e := dd_b (u := u % 10) (by omega)
    obtain ⟨h1, h2, h3⟩ := ih (u / 10) (by omega)
    rw [decDigits_step h]
    refine ⟨fun b hb => ?_, ?_, fun _ => ?_⟩
    · rcases List.mem_append.1 hb with hb | hb
      · exact h1 b hb
      · rw [List.mem_singleton] at hb; subst hb; omega
    · unfold valD at h2 ⊢
      rw [List.foldl_append, h2]
      simp only [List.foldl_cons, List.foldl_nil, e]; omega
    · obtain ⟨b, l, hb, hn⟩ := h3 (by omega)
      exact ⟨b, l ++ [UInt8.ofNat (48 + u % 10)], by rw [hb]; rfl, hn⟩
theorem itoa_nat {n : Int} (h0 : 0 ≤ n) : Lib.itoa n = Lib.decDigits n.toNat := by rw [Lib.itoa, if_neg (by omega)]
theorem num_itoa {n : Int} (h0 : 0 ≤ n) (h1 : n ≤ 9999999) : numF ⟨(Lib.itoa n).toArray⟩ = (n, true) := by
  have hl := itoa_len h0 h1
  rw [itoa_nat h0] at hl ⊢
  obtain ⟨f1, f2, f3⟩ := dd_facts n.toNat
  have hsz : (⟨(Lib.decDigits n.toNat).toArray⟩ : ByteArray).size = (Lib.decDigits n.toNat).length := by show (Lib.decDigits n.toNat).toArray.size = _; rw [List.size_toArray]
  unfold numF
  rw [num_run (by rw [hsz]; exact hl) f1 (p := 0) rfl, f2, Int.toNat_of_nonneg h0]
  show (n, _) = (n, true)
  congr 1
  by_cases hz : n.toNat = 0
  · rw [hz]; decide +kernel
  · obtain ⟨b, l, hb, hn⟩ := f3 (by omega)
    rw [hsz, hb]
    have : ¬ ((⟨(b :: l).toArray⟩ : ByteArray)[0]? = some 48) := fun h => by
      have h2 : (⟨(b :: l).toArray⟩ : ByteArray)[0]? = some b := by rfl
      rw [h2] at h
      cases h
      exact hn rfl
    rw [decide_eq_false this]
    simp
theorem itoa_nm {n : Int} (h0 : 0 ≤ n) : NmL (Lib.itoa n) := by
  rw [itoa_nat h0]
  have := (dd_facts n.toNat).1
  generalize Lib.decDigits n.toNat = l at this
  induction l with
  | nil => exact .z
  | cons b l ih =>
    have hb := this b (by simp)
    exact .a (by omega) (by omega) (ih fun x hx => this x (by simp [hx]))
def canon (e : Evt) : Evt :=
  if e.kind = 1 then { ev0 with kind := 1, bytes := e.bytes }
  else if e.kind = 2 then { ev0 with kind := 2, name := e.name }
  else if e.kind = 5 then { ev0 with kind := 5, pub := e.pub, sec := e.sec, fuel := e.fuel }
  else { ev0 with kind := e.kind }
theorem prE_canon (e : Evt) : prE (canon e) = prE e := by
  unfold canon
  by_cases h1 : e.kind = 1
  · rw [if_pos h1]; simp [prE, h1]
  rw [if_neg h1]
  by_cases h2 : e.kind = 2
  · rw [if_pos h2]; simp [prE, h2]
  rw [if_neg h2]
  by_cases h5 : e.kind = 5
  · rw [if_pos h5]; simp [prE, h5, comOk]
  rw [if_neg h5]
  simp [prE, h1, h2, h5]
theorem nm_const {l : List UInt8} (h : (l.all fun b => decide (b.toNat < 128) && decide (b.toNat ≠ 32)) = true) : NmL l := by
  induction l with
  | nil => exact .z
  | cons b l ih =>
    simp only [List.all_cons, Bool.and_eq_true, decide_eq_true_eq] at h
    exact .a h.1.1 h.1.2 (ih h.2)
theorem ba_cat (a b : ByteArray) : (a ++ b).data.toList = a.data.toList ++ b.data.toList := by simp
theorem hexS_list {l : List Int} (h : U8s l) : NmL (hexS l).data.toList := by
  unfold hexS
  split
  · exact nm_const (by decide)
  · exact hexI_nm h
theorem empty_cat (a : ByteArray) : (⟨#[]⟩ : ByteArray) ++ a = a := ByteArray.ext (by simp)
theorem drop_len {s : ByteArray} {a b : List UInt8} {p : Nat} (h : s.data.toList.drop p = a ++ b) : s.data.toList.drop (p + a.length) = b := by
  rw [← List.drop_drop, h, List.drop_left]
theorem words_last {s : ByteArray} {a : List UInt8} {p : Nat} {acc : List ByteArray} (ha : NmL a) (h : s.data.toList.drop p = a) : wordsN s s.size p (acc ++ [⟨#[]⟩]) = acc ++ [⟨a.toArray⟩] := by
  have h' : s.data.toList.drop p = a ++ [] := by rw [List.append_nil]; exact h
  rw [words_word ha h', words_end (drop_len h'), empty_cat]
theorem words_more {s : ByteArray} {a b : List UInt8} {p : Nat} {acc : List ByteArray} (ha : NmL a) (h : s.data.toList.drop p = a ++ 32 :: b) : wordsN s s.size p (acc ++ [⟨#[]⟩]) = wordsN s s.size (p + a.length + 1) ((acc ++ [⟨a.toArray⟩]) ++ [⟨#[]⟩]) := by
  rw [words_word ha h, words_blank (drop_len h), empty_cat]
theorem words2 {s : ByteArray} {a b : List UInt8} (ha : NmL a) (hb : NmL b) (h : s.data.toList = a ++ 32 :: b) : wordsF s = [⟨a.toArray⟩, ⟨b.toArray⟩] := by
  have h0 : s.data.toList.drop 0 = a ++ 32 :: b := h
  have h1 : s.data.toList.drop (0 + a.length + 1) = b := drop_succ (drop_len h0)
  exact (words_more (acc := []) ha h0).trans (words_last hb h1)
theorem words4 {s : ByteArray} {a b c d : List UInt8} (ha : NmL a) (hb : NmL b) (hc : NmL c) (hd : NmL d) (h : s.data.toList = a ++ 32 :: (b ++ 32 :: (c ++ 32 :: d))) : wordsF s = [⟨a.toArray⟩, ⟨b.toArray⟩, ⟨c.toArray⟩, ⟨d.toArray⟩] := by
  have h0 : s.data.toList.drop 0 = a ++ 32 :: (b ++ 32 :: (c ++ 32 :: d)) := h
  have h1 := drop_succ (drop_len h0)
  have h2 := drop_succ (drop_len h1)
  have h3 := drop_succ (drop_len h2)
  exact (((words_more (acc := []) ha h0).trans (words_more hb h1)).trans (words_more hc h2)).trans (words_last hd h3)
theorem to_mk (s : ByteArray) : (⟨s.data.toList.toArray⟩ : ByteArray) = s := ByteArray.ext (by simp)
theorem sEq_refl (s : ByteArray) : sEq s s = true := beq_self_eq_true _
theorem ev_des : evF (wordsF sDes) = (⟨3, [], ⟨#[]⟩, [], [], 0⟩, true) := by kernel_rfl
theorem ev_res : evF (wordsF sRes) = (⟨4, [], ⟨#[]⟩, [], [], 0⟩, true) := by kernel_rfl
theorem ev_ins (x : ByteArray) : evF [wIns, x] = ({ ev0 with kind := 1, bytes := (byF x).1 }, (byF x).2) := by
  unfold evF
  rw [if_pos (by rw [show sEq (wd [wIns, x] 0) wIns = true from sEq_refl _]; rfl)]
  rfl
theorem ev_sel (x : ByteArray) : evF [wSel, x] = ({ ev0 with kind := 2, name := x }, true) := by
  unfold evF
  rw [if_neg (by rw [show sEq (wd [wSel, x] 0) wIns = false from (by decide +kernel : sEq wSel wIns = false)]; simp), if_pos (by rw [show sEq (wd [wSel, x] 0) wSel = true from sEq_refl _]; rfl)]
  rfl
theorem ev_com (x y z : ByteArray) : evF [wCom, x, y, z] = ({ ev0 with kind := 5, pub := (byF x).1, sec := (byF y).1, fuel := (numF z).1 }, ((byF x).2 && (byF y).2) && (numF z).2) := by
  unfold evF
  rw [if_neg (by rw [show sEq (wd [wCom, x, y, z] 0) wIns = false from (by decide +kernel : sEq wCom wIns = false)]; simp), if_neg (by rw [show sEq (wd [wCom, x, y, z] 0) wSel = false from (by decide +kernel : sEq wCom wSel = false)]; simp),
    if_neg (by rw [show sEq (wd [wCom, x, y, z] 0) sDes = false from (by decide +kernel : sEq wCom sDes = false)]; simp), if_neg (by rw [show sEq (wd [wCom, x, y, z] 0) sRes = false from (by decide +kernel : sEq wCom sRes = false)]; simp), if_pos (by rw [show sEq (wd [wCom, x, y, z] 0) wCom = true from sEq_refl _]; rfl)]
  rfl
theorem parse_print {e : Evt} (hb : U8s e.bytes) (hp : U8s e.pub) (hs : U8s e.sec) (h : (prE e).2 = true) : parseP (prE e).1 = (canon e, true) := by
  have key : evF (wordsF (prE e).1) = (canon e, true) → parseP (prE e).1 = (canon e, true) := fun h2 => by
    unfold parseP
    rw [h2]
    simp only [prE_canon, h, sEq_refl, Bool.and_self, if_true]
  refine key ?_
  unfold canon
  by_cases h1 : e.kind = 1
  · have hpr : prE e = if e.bytes.length ≤ 8192 then (sIns ++ hexS e.bytes, true) else (sNo, false) := by simp [prE, h1]
    rw [hpr] at h ⊢
    by_cases hl : e.bytes.length ≤ 8192
    case neg => rw [if_neg hl] at h; cases h
    rw [if_pos hl, if_pos h1, words2 (s := sIns ++ hexS e.bytes) (a := wIns.data.toList) (b := (hexS e.bytes).data.toList) (nm_const (by decide)) (hexS_list hb) (by rw [ba_cat]; rfl), to_mk, to_mk, ev_ins, byF_hex hb]
  rw [if_neg h1]
  by_cases h2 : e.kind = 2
  · have hpr : prE e = if nmB' e.name then (sSel ++ e.name, true) else (sNo, false) := by simp [prE, h2]
    rw [hpr] at h ⊢
    by_cases hl : nmB' e.name = true
    case neg => rw [if_neg hl] at h; cases h
    rw [if_pos hl, if_pos h2, words2 (s := sSel ++ e.name) (a := wSel.data.toList) (b := e.name.data.toList) (nm_const (by decide)) (nm_word hl) (by rw [ba_cat]; rfl), to_mk, to_mk, ev_sel]
  rw [if_neg h2]
  by_cases h5 : e.kind = 5
  · have hpr : prE e = if comOk e then (sCom ++ hexS e.pub ++ sBl ++ hexS e.sec ++ sBl ++ ⟨(Lib.itoa e.fuel).toArray⟩, true) else (sNo, false) := by simp [prE, h5]
    rw [hpr] at h ⊢
    by_cases hl : comOk e = true
    case neg => rw [if_neg hl] at h; cases h
    rw [if_pos hl, if_pos h5]
    simp only [comOk, Bool.and_eq_true, decide_eq_true_eq] at hl
    rw [words4 (s := sCom ++ hexS e.pub ++ sBl ++ hexS e.sec ++ sBl ++ ⟨(Lib.itoa e.fuel).toArray⟩) (a := wCom.data.toList) (b := (hexS e.pub).data.toList) (c := (hexS e.sec).data.toList) (d := Lib.itoa e.fuel) (nm_const (by decide)) (hexS_list hp) (hexS_list hs) (itoa_nm hl.2.1)
      (by rw [ba_cat, ba_cat, ba_cat, ba_cat, ba_cat]; simp only [List.append_assoc]; rfl), to_mk, to_mk, to_mk, ev_com, byF_hex hp, byF_hex hs, num_itoa hl.2.1 hl.2.2]
    rfl
  rw [if_neg h5]
  by_cases h3 : e.kind = 3
  · have hpr : prE e = (sDes, true) := by simp [prE, h3]
    rw [hpr, h3]
    exact ev_des
  by_cases h4 : e.kind = 4
  · have hpr : prE e = (sRes, true) := by simp [prE, h4]
    rw [hpr, h4]
    exact ev_res
  have hpr : prE e = (sNo, false) := by simp [prE, h1, h2, h3, h4, h5]
  rw [hpr] at h
  cases h
end Go.Proofs.YthblbcjgdbaonaaGreatDoor
namespace Go.Proofs.YthblbcjgdbaonaaGreatDoor
open Go.Vc Go.Tc
variable {w : World} {K : Value → World → Prop}
theorem r_strU {v : Value} {l : List Int} (h : ArgsU8 w v l) : (convert 23 9 v).run Tryz.prog w = .ok (.string (strOfNums l)) w := by
  rcases h with ⟨rfl, rfl⟩ | ⟨ad, c, rfl, h⟩
  · exact r_str Tryz.underlying23 Tryz.underlying5 Tryz.underlying9 (SliceIs.nil _ _)
  · by_cases h0 : 0 < l.length
    · exact r_str Tryz.underlying23 Tryz.underlying5 Tryz.underlying9 (h h0)
    · have : l = [] := List.eq_nil_of_length_eq_zero (by omega)
      subst this
      show (convert 23 9 (.slice (some ad) 0 c)).run Tryz.prog w = _
      rw [run_convert_bytes_string w 23 9 5 _ 0 c Tryz.underlying23 Tryz.underlying5 Tryz.underlying9]
      simp [Conv.bytesToString, loadCells]
      rfl
end Go.Proofs.YthblbcjgdbaonaaGreatDoor
namespace Go.Tc
def partsL : List UInt8 → List ByteArray → ByteArray → List ByteArray
  | [], acc, c => acc ++ [c]
  | b :: l, acc, c => if b = 32 then partsL l (acc ++ [c]) ⟨#[]⟩ else partsL l acc (c ++ ⟨#[b]⟩)
def partsF (s : ByteArray) : List ByteArray := partsL s.data.toList [] ⟨#[]⟩
def hexv (b : UInt8) : Int := if 48 ≤ b.toNat ∧ b.toNat ≤ 57 then (b.toNat : Int) - 48 else if 97 ≤ b.toNat ∧ b.toNat ≤ 102 then (b.toNat : Int) - 97 + 10 else -1
def unL : List UInt8 → List Int → Option (List Int)
  | a :: b :: l, out => if hexv a < 0 ∨ hexv b < 0 then none else unL l (out ++ [16 * hexv a + hexv b])
  | _, out => some out
def unF (s : ByteArray) : List Int × Bool :=
  if s.toList == ({ data := #[45] } : ByteArray).toList then ([], true) else if s.size = 0 ∨ s.size % 2 ≠ 0 then ([], false) else match unL s.data.toList [] with | none => ([], false) | some l => (l, true)
theorem hexv_b (b : UInt8) : -1 ≤ hexv b ∧ hexv b < 16 := by
  unfold hexv
  split
  · omega
  · split <;> omega
theorem drop_at {s : ByteArray} {p : Nat} (hp : p < s.size) : ∃ b, s[p]? = some b ∧ s.data.toList.drop p = b :: s.data.toList.drop (p + 1) := by
  have hl : p < s.data.toList.length := by rw [Array.length_toList]; exact hp
  refine ⟨s[p]'hp, by simp [hp], ?_⟩
  rw [List.drop_eq_getElem_cons hl, Array.getElem_toList]
  rfl
theorem drop_none {s : ByteArray} {p : Nat} (hp : ¬ p < s.size) : s.data.toList.drop p = [] := by
  refine List.drop_eq_nil_of_le ?_
  rw [Array.length_toList]
  exact Nat.le_of_not_lt hp
end Go.Tc
namespace Go.Proofs.YthblbcjgdbaonaaGreatDoor
open Go.Vc Go.Tc
variable {w : World} {K : Value → World → Prop}
theorem cutS {s : ByteArray} {p : Nat} {b : UInt8} (hp : p < s.size) (hb : s[p]? = some b) : (Instr.sliceAt 9 (.string s) (some (i64 p)) (some (i64 (p + 1 : Nat))) none).run Tryz.prog w = .ok (.string ⟨#[b]⟩) w := by
  rw [run_sliceAt_string (h := Tryz.underlying9), run_slice_string (h := Tryz.underlying9) (h0 := by omega) (h1 := by omega) (h2 := by omega)]
  refine congrArg (fun x => Result.ok (Value.string x) w) ?_
  rw [Int.toNat_natCast, Int.toNat_natCast]
  obtain ⟨c, hc, hd⟩ := drop_at hp
  rw [hb] at hc
  cases hc
  apply ByteArray.ext
  apply Array.ext'
  rw [ByteArray.data_extract, Array.toList_extract, List.extract_eq_take_drop, hd, show p + 1 - p = 1 by omega]
  rfl
set_option maxHeartbeats 1600000 in
theorem parts27 {s : ByteArray} (hs : s.size ≤ 2000000) (hk : ∀ v w', w'.ownsRow w.heap.size 9 1 v (partsF s).length ((partsF s).map .string) → Ext w w' → K v w') : callD Tryz.prog 27 #[.string s] w K := by
  apply F27_wp
  unfold F27_den
  refine ⟨fun v x y w' => ∃ (p : Nat) (acc : List ByteArray) (c : ByteArray), partsF s = partsL (s.data.toList.drop p) acc c ∧ x = .string c ∧ y = i64 p ∧ p ≤ s.size ∧ acc.length ≤ p ∧ c.size ≤ p ∧ w'.ownsRow w.heap.size 9 1 v acc.length (acc.map .string) ∧ Ext w w', fun _ _ y _ => s.size - (RowKit.intOf y).toNat, ⟨0, [], ⟨#[]⟩, rfl, rfl, rfl, Nat.zero_le _, Nat.le_refl _, Nat.le_refl _, World.ownsRow_nil _ _ _ _, Ext.refl _⟩, ?_⟩
  rintro v _ _ w1 ⟨p, acc, c, hF, rfl, rfl, hp, hal, hcs, ho, x1⟩ _
  have s1 := x1.size
  have add : ∀ {K : Value → World → Prop} {w2 : World}, Ext w w2 → w2.ownsRow w.heap.size 9 1 v acc.length (acc.map .string) → (∀ v' w', w'.ownsRow w.heap.size 9 1 v' (acc ++ [c]).length ((acc ++ [c]).map .string) → Ext w w' → K v' w') → V Tryz.prog (Instr.buildSlice 53 1 #[(0, .string c)]) w2 fun x w3 => V Tryz.prog (Builtin.append_ #[53, 53] 53 #[v, x]) w3 K := by
    intro K w2 x2 ho2 hK
    have s2 := x2.size
    refine bsl xe_53 [.string c] rfl rfl (by simp) rfl fun x w5 hx x5 => ?_
    have ho5 := (Fr.of_ext (S := fun _ => False) x5).own ho2 fun _ _ h => h
    have s5 := x5.size
    refine apAt xe_53 ho5 (SliceIs.of_own hx) rfl (by omega) (by unfold maxLen; omega) (by omega) fun v' w6 ho6 hg6 h5 => ?_
    exact hK v' w6 (by rw [List.length_append, List.map_append]; exact ho6) ((x2.trans x5).grown hg6 fun k hk => (ho5.lt k hk).1)
  refine V.ok (lenStr Tryz.underlying9) (V_lss.2 (ifD_dec (fun h => ?_) fun h => ?_))
  · have hp' : p < s.size := by omega
    obtain ⟨b, hb, hd⟩ := drop_at hp'
    rw [hd, partsL] at hF
    refine V.ok (r_idxS Tryz.underlying9 hb) (V_eqlI.2 (ifD_dec (fun hc => ?_) fun hc => ?_))
    · have hb32 : b = 32 := UInt8.toNat_inj.1 (by show _ = 32; omega)
      rw [if_pos hb32] at hF
      refine add x1 ho fun v' w' ho' x' => V_add.2 ?_
      rw [wrap_id (by omega) (by omega), i64_succ]
      exact ⟨⟨p + 1, _, _, hF, rfl, rfl, by omega, by rw [List.length_append]; simp; omega, Nat.zero_le _, ho', x'⟩, by simp only [intOf_i64]; omega⟩
    · rw [if_neg (fun h => hc (by rw [h]; rfl))] at hF
      refine V_add.2 ?_
      rw [wrap_id (by omega) (by omega), i64_succ]
      refine V.ok (cutS hp' hb) (V.ok (r_cat ?_) (V_add.2 ?_))
      · show c.size + 1 ≤ _
        omega
      rw [wrap_id (by omega) (by omega), i64_succ]
      exact ⟨⟨p + 1, _, _, hF, rfl, rfl, by omega, by omega, by rw [ByteArray.size_append]; show c.size + 1 ≤ _; omega, ho, x1⟩, by simp only [intOf_i64]; omega⟩
  · rw [drop_none (by omega), partsL] at hF
    rw [hF] at hk
    exact add x1 ho hk
theorem digit47 {b : UInt8} (hk : K (i64 (hexv b)) w) : callD Tryz.prog 47 #[.int .u8 b.toNat] w K := by
  apply F47_wp
  unfold F47_den
  unfold hexv at hk
  have h256 := b.toNat_lt
  refine V_geq.2 ?_
  by_cases c1 : 48 ≤ b.toNat ∧ b.toNat ≤ 57
  · rw [if_pos c1] at hk
    have a1 : (b.toNat : Int) ≥ 48 := by omega
    have a2 : (b.toNat : Int) ≤ 57 := by omega
    simp only [a1, a2, evL, Int.reduceNeg, reduceIte, decide_true]
    refine V_sub.2 (V.ok (r_convI Tryz.underlying5 Tryz.underlying3) ?_)
    rw [wrapU8 (by omega) (by omega), wrap_id (by omega) (by omega)]
    exact hk
  rw [if_neg c1] at hk
  by_cases c2 : 97 ≤ b.toNat ∧ b.toNat ≤ 102
  · rw [if_pos c2] at hk
    have a1 : (b.toNat : Int) ≥ 48 := by omega
    have a2 : ¬ (b.toNat : Int) ≤ 57 := by omega
    have a3 : (b.toNat : Int) ≥ 97 := by omega
    have a4 : (b.toNat : Int) ≤ 102 := by omega
    simp only [a1, a2, a3, a4, evL, Int.reduceNeg, reduceIte, decide_true, decide_false]
    refine V_sub.2 (V.ok (r_convI Tryz.underlying5 Tryz.underlying3) (V_add.2 ?_))
    rw [wrapU8 (by omega) (by omega), wrap_id (n := (b.toNat : Int) - 97) (by omega) (by omega), wrap_id (by omega) (by omega)]
    exact hk
  rw [if_neg c2] at hk
  by_cases a1 : (b.toNat : Int) ≥ 48
  · have a2 : ¬ (b.toNat : Int) ≤ 57 := by omega
    by_cases a3 : (b.toNat : Int) ≥ 97
    · have a4 : ¬ (b.toNat : Int) ≤ 102 := by omega
      simp only [a1, a2, a3, a4, evL, Int.reduceNeg, reduceIte, decide_true, decide_false]
      exact hk
    · simp only [a1, a2, a3, evL, Int.reduceNeg, reduceIte, Bool.false_eq_true, decide_true, decide_false]
      exact hk
  · have a3 : ¬ (b.toNat : Int) ≥ 97 := by omega
    simp only [a1, a3, evL, Int.reduceNeg, reduceIte, Bool.false_eq_true, decide_false]
    exact hk
end Go.Proofs.YthblbcjgdbaonaaGreatDoor
namespace Go.Proofs.YthblbcjgdbaonaaGreatDoor
open Go.Vc Go.Tc
variable {w : World} {K : Value → World → Prop}
set_option maxHeartbeats 1600000 in
theorem unhex28 {s : ByteArray} (hs : s.size ≤ 8000000) (hk : ∀ v w', w'.ownsRow w.heap.size 5 1 v (unF s).1.length ((unF s).1.map u8) → U8s (unF s).1 → Ext w w' → K (.tuple #[v, .bool (unF s).2]) w') : callD Tryz.prog 28 #[.string s] w K := by
  apply F28_wp
  suffices key : ∀ R : Value → World → Prop, (∀ v w', w'.ownsRow w.heap.size 5 1 v (unF s).1.length ((unF s).1.map u8) → U8s (unF s).1 → Ext w w' → R (.tuple #[v, .bool (unF s).2]) w') → F28_den (.string s) w R from key _ hk
  clear hk
  intro R hR
  unfold F28_den
  unfold unF at hR
  refine V.ok r_eqStr ?_
  cases he : s.toList == ({ data := #[45] } : ByteArray).toList with
  | true =>
    rw [he, if_pos rfl] at hR
    exact ifD_true.2 (hR nilS w (World.ownsRow_nil _ _ _ _) u8nil (Ext.refl _))
  | false =>
  rw [he, if_neg (by simp)] at hR
  refine ifD_false.2 (V.ok (lenStr Tryz.underlying9) (V_eqlI.2 ?_))
  by_cases h0 : s.size = 0
  · rw [if_pos (.inl h0)] at hR
    have a1 : (s.size : Int) = 0 := by omega
    simp only [a1, evL, reduceIte, decide_true]
    exact hR nilS w (World.ownsRow_nil _ _ _ _) u8nil (Ext.refl _)
  have a1 : ¬ (s.size : Int) = 0 := by omega
  simp only [a1, evL, reduceIte, Bool.false_eq_true, decide_false]
  refine V.ok (lenStr Tryz.underlying9) (V.ok (r_rem (by omega)) (V_neqI.2 ?_))
  rw [show (s.size : Int).tmod 2 = ((s.size % 2 : Nat) : Int) from rfl]
  by_cases h2 : s.size % 2 ≠ 0
  · rw [if_pos (.inr h2)] at hR
    have a2 : ((s.size % 2 : Nat) : Int) ≠ 0 := by omega
    simp only [a2, evL, not_false_eq_true, ne_eq, decide_true]
    exact hR nilS w (World.ownsRow_nil _ _ _ _) u8nil (Ext.refl _)
  rw [if_neg (by omega)] at hR
  have a2 : ((s.size % 2 : Nat) : Int) = 0 := by omega
  simp only [a2, evL, not_true_eq_false, ne_eq, decide_false]
  refine ⟨fun v y w' => ∃ (p : Nat) (out : List Int), unL s.data.toList [] = unL (s.data.toList.drop p) out ∧ y = i64 p ∧ p ≤ s.size ∧ p % 2 = 0 ∧ out.length ≤ p ∧ U8s out ∧ w'.ownsRow w.heap.size 5 1 v out.length (out.map u8) ∧ Ext w w', fun _ y _ => s.size - (RowKit.intOf y).toNat, ⟨0, [], rfl, rfl, Nat.zero_le _, rfl, Nat.le_refl _, u8nil, World.ownsRow_nil _ _ _ _, Ext.refl _⟩, ?_⟩
  rintro v _ w1 ⟨p, out, hF, rfl, hp, hev, hol, hou, ho, x1⟩ _
  have s1 := x1.size
  refine V.ok (lenStr Tryz.underlying9) (V_lss.2 (ifD_dec (fun h => ?_) fun h => ?_))
  · have hp' : p < s.size := by omega
    have hp2 : p + 1 < s.size := by omega
    obtain ⟨a, ha, hd⟩ := drop_at hp'
    obtain ⟨b, hb, hd2⟩ := drop_at hp2
    rw [hd, hd2, unL] at hF
    have ra := hexv_b a
    have rb := hexv_b b
    refine V.ok (r_idxS Tryz.underlying9 ha) (digit47 (V_add.2 ?_))
    rw [wrap_id (by omega) (by omega), i64_succ]
    refine V.ok (r_idxS Tryz.underlying9 hb) (digit47 (V_lss.2 ?_))
    have no : (hexv a < 0 ∨ hexv b < 0) → R (.tuple #[nilS, .bool false]) w1 := fun hn => by
      rw [if_pos hn] at hF
      rw [hF] at hR
      exact hR nilS w1 (World.ownsRow_nil _ _ _ _) u8nil x1
    by_cases ca : hexv a < 0
    · simp only [ca, evL, reduceIte, decide_true]
      exact no (.inl ca)
    by_cases cb : hexv b < 0
    · simp only [ca, cb, evL, reduceIte, Bool.false_eq_true, decide_true, decide_false]
      exact no (.inr cb)
    simp only [ca, cb, evL, reduceIte, Bool.false_eq_true, decide_false]
    rw [if_neg (by omega)] at hF
    refine V_mul.2 (V_add.2 (V.ok (r_convI Tryz.underlying3 Tryz.underlying5) ?_))
    rw [wrap_id (n := 16 * hexv a) (by omega) (by omega), wrap_id (by omega) (by omega), wrapU8 (by omega) (by omega)]
    refine bsl xe_23 [u8 (16 * hexv a + hexv b)] rfl rfl (by simp) rfl fun x w5 hx x5 => ?_
    have ho5 := (Fr.of_ext (S := fun _ => False) x5).own ho fun _ _ h => h
    have s5 := x5.size
    refine apAt xe_23 ho5 (SliceIs.of_own hx) rfl (by omega) (by unfold maxLen; omega) (by omega) fun v' w6 ho6 hg6 h5 => V_add.2 ?_
    rw [wrap_id (by omega) (by omega), show (p : Int) + 2 = ((p + 2 : Nat) : Int) by omega]
    refine ⟨⟨p + 2, _, hF, rfl, by omega, by omega, by rw [List.length_append]; simp; omega, fun y hy => ?_, by rw [List.length_append, List.map_append]; exact ho6, (x1.trans x5).grown hg6 fun k hk => (ho5.lt k hk).1⟩, by simp only [intOf_i64]; omega⟩
    rcases List.mem_append.1 hy with hy | hy
    · exact hou y hy
    · rw [List.mem_singleton] at hy; subst hy; omega
  · rw [drop_none (by omega), show unL [] out = some out from rfl] at hF
    rw [hF] at hR
    exact hR v w1 ho hou x1
end Go.Proofs.YthblbcjgdbaonaaGreatDoor
namespace Go.Vc
theorem yFd {P : Program} {S : World → Prop} {L : Value → Prop} {s f o ft b : Nat} {cs : List Value} {u : Value} (hb : ∀ w', S w' → Boxed w' b cs) (h : FA P s f o) (hl : L1 P ft) (hc : cs[o]? = some u) (hk : L u) : yieldS P S (Instr.fieldAt s (.pointer (some ⟨b, 0, none⟩)) f) fun q => yieldS P S (Instr.loadAt ft q) L := by
  obtain ⟨d, hd, ha⟩ := hl
  exact yieldS.ok (fun w' _ => h.ex w' b 0) (yieldS.ok (fun w' hw => r_load hd ha (hb w' hw o u hc)) hk)
end Go.Vc
namespace Go.Tc
def numR : List UInt8 → Int → Option Int
  | [], k => some k
  | b :: l, k => if b.toNat < 48 ∨ 57 < b.toNat then none else numR l (10 * k + ((b.toNat : Int) - 48))
end Go.Tc
namespace Go.Proofs.YthblbcjgdbaonaaGreatDoor
open Go.Vc Go.Tc
variable {w : World} {K : Value → World → Prop}
theorem tstR {v : Value} {ws : List ByteArray} {c : ByteArray} {n : Nat} {x y x2 y2 : Operand} (h : StrsIs w v ws) (hn : 0 < n) (hK : K (.bool (decide (ws.length = n) && sEq (wd ws 0) c)) w) :
    V Tryz.prog (Builtin.len_ #[53] 3 #[v]) w fun t15 w4 => V Tryz.prog (do eqGuard .eql 3 x y t15 (i64 n); binOp .eql 3 t15 (i64 n)) w4 fun t16 w5 =>
    gd t16 true (fun K => K v w5) w5 fun t18 w6 => gd t16 true (fun K => V Tryz.prog (Instr.indexAt 53 t18 (i64 0)) w6 K) w6 fun t19 w7 => gd t16 true (fun K => V Tryz.prog (Instr.loadAt 9 t19) w7 K) w7 fun t20 w8 => gd t16 true (fun K => V Tryz.prog (do eqGuard .eql 9 x2 y2 t20 (.string c); binOp .eql 9 t20 (.string c)) w8 K) w8 fun t21 w9 => pickD t16 t21 (.bool false) fun t22 => K t22 w9 := by
  refine lnx xa_53 h (V_eqlI.2 ?_)
  rw [show decide ((ws.length : Int) = (n : Int)) = decide (ws.length = n) from decide_eq_decide.2 (by omega)]
  unfold sEq at hK
  by_cases hl : ws.length = n
  · rw [decide_eq_true hl, Bool.true_and] at hK
    rw [decide_eq_true hl]
    simp only [evL, reduceIte]
    refine ldW (k := 0) h rfl (by omega) (V.ok r_eqStr ?_)
    exact hK
  · rw [decide_eq_false hl, Bool.false_and] at hK
    rw [decide_eq_false hl]
    simp only [evL, reduceIte, Bool.false_eq_true]
    exact hK
def comR (ws : List ByteArray) : Evt × Bool := match (if 7 < (wd ws 3).size then none else numR (wd ws 3).data.toList 0) with
  | none => (ev0, false)
  | some k => ({ ev0 with kind := 5, pub := (unF (wd ws 1)).1, sec := (unF (wd ws 2)).1, fuel := k }, (unF (wd ws 1)).2 && (unF (wd ws 2)).2)
def evR (s : ByteArray) : Evt × Bool :=
  if decide ((partsF s).length = 2) && sEq (wd (partsF s) 0) wIns then ({ ev0 with kind := 1, bytes := (unF (wd (partsF s) 1)).1 }, (unF (wd (partsF s) 1)).2)
  else if decide ((partsF s).length = 2) && sEq (wd (partsF s) 0) wSel then ({ ev0 with kind := 2, name := wd (partsF s) 1 }, true)
  else if sEq s sDes then ({ ev0 with kind := 3 }, true)
  else if sEq s sRes then ({ ev0 with kind := 4 }, true)
  else if decide ((partsF s).length = 4) && sEq (wd (partsF s) 0) wCom then comR (partsF s)
  else (ev0, true)
def refP (s : ByteArray) : Evt × Bool :=
  if (evR s).2 && (prE (evR s).1).2 && sEq (prE (evR s).1).1 s then ((evR s).1, true) else (ev0, false)
theorem partsL_size : ∀ {l : List UInt8} {acc : List ByteArray} {c : ByteArray} {M : Nat}, (∀ b ∈ acc, b.size ≤ M) → c.size + l.length ≤ M → ∀ b ∈ partsL l acc c, b.size ≤ M
  | [], acc, c, M, h1, h2 => fun b hb => by
    rw [partsL] at hb
    rcases List.mem_append.1 hb with hb | hb
    · exact h1 b hb
    · rw [List.mem_singleton] at hb; subst hb; simp at h2; omega
  | x :: l, acc, c, M, h1, h2 => by
    rw [partsL]
    simp only [List.length_cons] at h2
    split
    · refine partsL_size (fun b hb => ?_) (by show 0 + _ ≤ _; omega)
      rcases List.mem_append.1 hb with hb | hb
      · exact h1 b hb
      · rw [List.mem_singleton] at hb; subst hb; omega
    · exact partsL_size h1 (by rw [ByteArray.size_append]; show c.size + 1 + _ ≤ _; omega)
theorem partsF_size (s : ByteArray) : ∀ b ∈ partsF s, b.size ≤ s.size := partsL_size (fun b hb => by simp at hb) (by rw [Array.length_toList]; show 0 + s.size ≤ _; omega)
set_option maxHeartbeats 6400000 in
theorem parse14 {s : ByteArray} (hs : s.size ≤ 2000000) (hT : STabs w) (hk : ∀ cs w', EvtIs w' cs (refP s).1 → Ext w w' → K (.tuple #[.agg cs.toArray, .bool (refP s).2]) w') : callD Tryz.prog 14 #[.string s] w K := by
  apply F14_wp
  suffices key : ∀ R : Value → World → Prop, (∀ cs w', EvtIs w' cs (refP s).1 → Ext w w' → R (.tuple #[.agg cs.toArray, .bool (refP s).2]) w') → F14_den (.string s) w R from key _ hk
  clear hk
  intro R hR
  unfold F14_den
  refine alK inf29 fun w1 hB2 x1 => ?_
  have hB2 : Blk w1 w.heap.size [i64 0, nilS, .string ByteArray.empty, nilS, nilS, i64 0] 29 := hB2
  have l2 := hB2.lt
  generalize hg2 : w.heap.size = g2 at *
  have pz := partsF_size s
  refine parts27 hs fun v w2 ho2 x2 => ?_
  have h2 : StrsIs w2 v (partsF s) := SliceIs.of_own ho2
  clear ho2
  have s2 := x2.size
  have hB22 := hB2.ext x2
  have x02 := x1.trans x2
  refine alK inf29 fun w3 hB4 x3 => ?_
  have hB4 : Blk w3 w2.heap.size [i64 0, nilS, .string ByteArray.empty, nilS, nilS, i64 0] 29 := hB4
  have l4 := hB4.lt
  generalize hg4 : w2.heap.size = g4 at *
  have hev : evR s = if decide ((partsF s).length = 2) && sEq (wd (partsF s) 0) wIns then ({ ev0 with kind := 1, bytes := (unF (wd (partsF s) 1)).1 }, (unF (wd (partsF s) 1)).2)
    else if decide ((partsF s).length = 2) && sEq (wd (partsF s) 0) wSel then ({ ev0 with kind := 2, name := wd (partsF s) 1 }, true)
    else if sEq s sDes then ({ ev0 with kind := 3 }, true)
    else if sEq s sRes then ({ ev0 with kind := 4 }, true)
    else if decide ((partsF s).length = 4) && sEq (wd (partsF s) 0) wCom then comR (partsF s)
    else (ev0, true) := rfl
  generalize partsF s = ws at *
  have wsz : ∀ k, (wd ws k).size ≤ 8000000 := fun k => by
    unfold wd
    rw [List.getD_eq_getElem?_getD]
    cases hx : ws[k]? with
    | none => exact Nat.zero_le _
    | some b => have := pz b (List.mem_of_getElem? hx); show b.size ≤ _; omega
  have zero : ∀ {w' : World}, Ext w2 w' → (refP s) = (ev0, false) → V Tryz.prog (Instr.build 29 #[]) w' fun t30 w20 => U Tryz.prog (Instr.storeAt 29 (.pointer (some ⟨g2, 0, none⟩)) t30) w20 fun _ w21 =>
      ∃ r1, (loadVar 29 (match (Value.pointer (some ⟨g2, 0, none⟩)) with | .pointer (some p) => p | _ => ⟨0, 0, none⟩)).run Tryz.prog w21 = .ok r1 w21 ∧ (∃ p, (Value.pointer (some ⟨g2, 0, none⟩)) = Value.pointer (some p)) ∧ R (.tuple #[r1, .bool false]) w21 := by
    intro w' hx hb
    rw [hb] at hR
    refine bldA (v := .agg #[i64 0, nilS, .string ⟨#[]⟩, nilS, nilS, i64 0]) (fun w => by kernel_rfl) ?_
    refine stA inf29 (hB22.ext hx) (l := [i64 0, nilS, .string ⟨#[]⟩, nilS, nilS, i64 0]) rfl rfl rfl rfl fun w7 hB7 hc => ?_
    exact ⟨_, r_var Tryz.underlying29 rfl inf29 hB7 rfl, ⟨_, rfl⟩, hR _ w7 evt0 (hc.ext _ (x02.trans hx) (by omega))⟩
  refine ⟨fun x y w' => ∃ a b, x = .bool a ∧ y = .bool b ∧ (evR s).2 = (a && b) ∧ Ext w2 w' ∧ ∃ cs, Blk w' g4 cs 29 ∧ ∀ w'', Fr (fun k => k ≤ g4) w' w'' → EvtIs w'' cs (evR s).1, ?_, ?_⟩
  case refine_2 =>
    rintro _ _ w4 ⟨a, b, rfl, rfl, hab, x4, cs, hB, hS⟩ _
    have he := hS w4 (Fr.refl _ _)
    have hone := he.one
    refine ldA hB.boxed la_29 hone.2 ?_
    refine print8 he (hT.ext (x02.trans x4)) fun w5 x5 => V_ext0.2 (V_ext1.2 (V_not.2 ?_))
    have x45 := x4.trans x5
    unfold refP at hR zero
    cases a with
    | false =>
      simp only [evL, reduceIte, Bool.not_false]
      exact zero x45 (by rw [hab]; rfl)
    | true =>
    cases b with
    | false =>
      simp only [evL, reduceIte, Bool.false_eq_true, Bool.not_true, Bool.not_false]
      exact zero x45 (by rw [hab]; rfl)
    | true =>
    have b1 : (evR s).2 = true := hab
    cases b2 : (prE (evR s).1).2 with
    | false =>
      simp only [evL, reduceIte, Bool.false_eq_true, Bool.not_true, Bool.not_false]
      exact zero x45 (by rw [b1, b2]; rfl)
    | true =>
    simp only [evL, reduceIte, Bool.false_eq_true, Bool.not_true]
    refine V.ok r_neqStr ?_
    cases b3 : (prE (evR s).1).1.toList == s.toList with
    | false =>
      simp only [evL, Bool.not_false]
      exact zero x45 (by rw [b1, b2, show sEq (prE (evR s).1).1 s = false from b3]; rfl)
    | true =>
      simp only [evL, Bool.not_true]
      rw [b1, b2, show sEq (prE (evR s).1).1 s = true from b3, if_pos (show (true && true && true) = true from rfl)] at hR
      refine ldA (hB.ext x5).boxed la_29 hone.2 ?_
      refine stA inf29 (hB22.ext x45) (l := cs) rfl hone.2 rfl hone.1 fun w7 hB7 hc => ?_
      exact ⟨_, r_var Tryz.underlying29 rfl inf29 hB7 hone.2, ⟨_, rfl⟩, hR _ w7 (hS w7 ((Fr.of_ext x5).trans ((chg_fr hc).mono fun k hk => by omega) fun _ _ h => h)) (hc.ext _ (x02.trans x45) (by omega))⟩
  have h23 : StrsIs w3 v ws := SliceIs.ext h2 x3
  have fr4 : ∀ {w' : World} {o : Nat} {u : Value}, Fr (fun k => k = g4) w' (w'.setCell ⟨g4, o, none⟩ u) := Fr.of_set rfl
  have x4 : ∀ {w' : World} {o : Nat} {u : Value}, Ext w2 w' → Ext w2 (w'.setCell ⟨g4, o, none⟩ u) := fun hx => fr4.ext hx fun k hk => by have hk : k = g4 := hk; omega
  have owns : ∀ {v' : Value} {l : List Int} {w' w'' : World} {B : Nat} {cs : List Value}, w'.ownsRow B 5 1 v' l.length (l.map u8) → Blk w' g4 cs 29 → Fr (fun k => k = g4) w' w'' → w''.ownsRow B 5 1 v' l.length (l.map u8) := fun ho hb f => f.own ho fun k hk h => own_neB hb ho (by decide) k hk h
  have owns2 : ∀ {v' : Value} {l : List Int} {w' w'' : World} {B : Nat}, w'.ownsRow B 5 1 v' l.length (l.map u8) → g4 < B → Fr (fun k => k ≤ g4) w' w'' → w''.ownsRow B 5 1 v' l.length (l.map u8) := fun ho hB f => f.own ho fun k hk h => by have := (ho.lt k hk).1; omega
  refine tstR (c := wIns) (n := 2) h23 (by decide) ?_
  cases c1 : decide (ws.length = 2) && sEq (wd ws 0) wIns with
  | true =>
    rw [c1, if_pos rfl] at hev
    rw [hev]
    simp only [Bool.and_eq_true, decide_eq_true_eq] at c1
    refine ifD_true.2 ?_
    refine stF fa_29_0 inf3 hB4 rfl (by simp) rfl ?_
    have hB4a := hB4.set 0 (i64 1)
    have xa := x4 (o := 0) (u := i64 1) x3
    refine ldW (k := 1) (SliceIs.ext h2 xa) rfl (by omega) ?_
    refine unhex28 (wsz 1) fun bv w5 ho5 hb5 x5 => V_ext0.2 (V_ext1.2 ?_)
    have hB4b := hB4a.ext x5
    refine stF fa_29_1 inf23 hB4b rfl (by simp) (own_oneM ho5) ?_
    have ho6 := owns ho5 hB4b (fr4 (o := 1) (u := bv))
    exact ⟨_, true, rfl, rfl, (Bool.and_true _).symm, x4 (xa.trans x5), _, hB4b.set 1 bv, fun w'' f => ⟨⟨bv, nilS, nilS, rfl, ArgsU8.own (owns2 ho6 (by simpa using hB4.lt) f), ArgsU8.nil _, ArgsU8.nil _⟩, hb5, u8nil, u8nil⟩⟩
  | false =>
  rw [c1, if_neg (by simp)] at hev
  refine ifD_false.2 ?_
  refine tstR (c := wSel) (n := 2) h23 (by decide) ?_
  cases c2 : decide (ws.length = 2) && sEq (wd ws 0) wSel with
  | true =>
    rw [c2, if_pos rfl] at hev
    rw [hev]
    simp only [Bool.and_eq_true, decide_eq_true_eq] at c2
    refine ifD_true.2 ?_
    refine stF fa_29_0 inf3 hB4 rfl (by simp) rfl ?_
    have hB4a := hB4.set 0 (i64 2)
    have xa := x4 (o := 0) (u := i64 2) x3
    refine ldW (k := 1) (SliceIs.ext h2 xa) rfl (by omega) ?_
    refine stF fa_29_2 inf9 hB4a rfl (by simp) rfl ?_
    exact ⟨_, true, rfl, rfl, (Bool.and_true _).symm, x4 xa, _, hB4a.set 2 (.string (wd ws 1)), fun w'' f => ⟨⟨nilS, nilS, nilS, rfl, ArgsU8.nil _, ArgsU8.nil _, ArgsU8.nil _⟩, u8nil, u8nil, u8nil⟩⟩
  | false =>
  rw [c2, if_neg (by simp)] at hev
  refine ifD_false.2 (V.ok r_eqStr ?_)
  cases c3 : sEq s sDes with
  | true =>
    rw [c3, if_pos rfl] at hev
    rw [hev]
    rw [show (s.toList == ({ data := #[100, 101, 115, 101, 108, 101, 99, 116] } : ByteArray).toList) = true from c3]
    refine ifD_true.2 ?_
    refine stF fa_29_0 inf3 hB4 rfl (by simp) rfl ?_
    exact ⟨_, true, rfl, rfl, (Bool.and_true _).symm, x4 x3, _, hB4.set 0 (i64 3), fun w'' f => ⟨⟨nilS, nilS, nilS, rfl, ArgsU8.nil _, ArgsU8.nil _, ArgsU8.nil _⟩, u8nil, u8nil, u8nil⟩⟩
  | false =>
  rw [c3, if_neg (by simp)] at hev
  rw [show (s.toList == ({ data := #[100, 101, 115, 101, 108, 101, 99, 116] } : ByteArray).toList) = false from c3]
  refine ifD_false.2 (V.ok r_eqStr ?_)
  cases c4 : sEq s sRes with
  | true =>
    rw [c4, if_pos rfl] at hev
    rw [hev]
    rw [show (s.toList == ({ data := #[114, 101, 115, 101, 116] } : ByteArray).toList) = true from c4]
    refine ifD_true.2 ?_
    refine stF fa_29_0 inf3 hB4 rfl (by simp) rfl ?_
    exact ⟨_, true, rfl, rfl, (Bool.and_true _).symm, x4 x3, _, hB4.set 0 (i64 4), fun w'' f => ⟨⟨nilS, nilS, nilS, rfl, ArgsU8.nil _, ArgsU8.nil _, ArgsU8.nil _⟩, u8nil, u8nil, u8nil⟩⟩
  | false =>
  rw [c4, if_neg (by simp)] at hev
  rw [show (s.toList == ({ data := #[114, 101, 115, 101, 116] } : ByteArray).toList) = false from c4]
  refine ifD_false.2 ?_
  refine tstR (c := wCom) (n := 4) h23 (by decide) ?_
  cases c5 : decide (ws.length = 4) && sEq (wd ws 0) wCom with
  | true =>
    rw [c5, if_pos rfl] at hev
    simp only [Bool.and_eq_true, decide_eq_true_eq] at c5
    refine ifD_true.2 ?_
    refine stF fa_29_0 inf3 hB4 rfl (by simp) rfl ?_
    have hB4a := hB4.set 0 (i64 5)
    have xa := x4 (o := 0) (u := i64 5) x3
    refine ldW (k := 1) (SliceIs.ext h2 xa) rfl (by omega) ?_
    refine unhex28 (wsz 1) fun bv w5 ho5 hb5 x5 => V_ext0.2 (V_ext1.2 ?_)
    have hB4b := hB4a.ext x5
    refine stF fa_29_3 inf23 hB4b rfl (by simp) (own_oneM ho5) ?_
    have ho6 := owns ho5 hB4b (fr4 (o := 3) (u := bv))
    have hB4c := hB4b.set 3 bv
    have xc := x4 (o := 3) (u := bv) (xa.trans x5)
    refine ldW (k := 2) (SliceIs.ext h2 xc) rfl (by omega) ?_
    refine unhex28 (wsz 2) fun cv w7 ho7 hb7 x7 => V_ext0.2 (V_ext1.2 ?_)
    have hB4d := hB4c.ext x7
    have ho6d := (Fr.of_ext (S := fun _ => False) x7).own ho6 fun _ _ h => h
    refine stF fa_29_4 inf23 hB4d rfl (by simp) (own_oneM ho7) ?_
    have ho8 := owns ho7 hB4d (fr4 (o := 4) (u := cv))
    have ho6e := owns ho6d hB4d (fr4 (o := 4) (u := cv))
    have hB4e := hB4d.set 4 cv
    have xe := x4 (o := 4) (u := cv) (xc.trans x7)
    refine ldW (k := 3) (SliceIs.ext h2 xe) rfl (by omega) (V.ok (lenStr Tryz.underlying9) (V_gtr.2 ?_))
    have l5 := x5.size
    have lg5 : g4 < (w3.setCell ⟨g4, 0, none⟩ (i64 1)).heap.size := by simpa using hB4.lt
    unfold comR at hev
    have no : (if 7 < (wd ws 3).size then none else numR (wd ws 3).data.toList 0) = none → refP s = (ev0, false) := fun h => by
      rw [h] at hev
      unfold refP
      rw [hev]
      rfl
    refine ifD_dec (fun h7 => ?_) fun h7 => ?_
    · exact zero xe (no (by rw [if_pos (by omega)]))
    rw [if_neg (by omega)] at hev no
    refine ⟨fun x w' => ∃ (p k : Nat), x = i64 p ∧ p ≤ (wd ws 3).size ∧ numR (wd ws 3).data.toList 0 = numR ((wd ws 3).data.toList.drop p) k ∧ k < 10 ^ p ∧ Blk w' g4 [i64 5, nilS, .string ByteArray.empty, bv, cv, i64 k] 29 ∧ (∀ w'', Fr (fun k => k ≤ g4) w' w'' → ArgsU8 w'' bv (unF (wd ws 1)).1 ∧ ArgsU8 w'' cv (unF (wd ws 2)).1) ∧ Ext w2 w', fun x _ => (wd ws 3).size - (RowKit.intOf x).toNat, ⟨0, 0, rfl, Nat.zero_le _, rfl, by decide, hB4e, fun w'' f => ⟨ArgsU8.own (owns2 ho6e hB4a.lt f), ArgsU8.own (owns2 ho8 hB4c.lt f)⟩, xe⟩, ?_⟩
    rintro _ w9 ⟨p, k, rfl, hp, hF, hk10, hB9, hA, x9⟩ _
    refine ldW (k := 3) (SliceIs.ext h2 x9) rfl (by omega) (V.ok (lenStr Tryz.underlying9) (V_lss.2 (ifD_dec (fun hl => ?_) fun hl => ?_)))
    · have hp' : p < (wd ws 3).size := by omega
      obtain ⟨b, hb, hd⟩ := drop_at hp'
      rw [hd, numR] at hF
      have h256 := b.toNat_lt
      refine ldW (k := 3) (SliceIs.ext h2 x9) rfl (by omega) (V.ok (r_idxS Tryz.underlying9 hb) (V_lss.2 ?_))
      by_cases d1 : (b.toNat : Int) < 48
      · simp only [d1, evL, reduceIte, decide_true]
        exact zero x9 (no (by rw [hF, if_pos (.inl (by omega))]))
      simp only [d1, evL, reduceIte, Bool.false_eq_true, decide_false]
      refine ldW (k := 3) (SliceIs.ext h2 x9) rfl (by omega) (V.ok (r_idxS Tryz.underlying9 hb) (V_gtr.2 ?_))
      by_cases d2 : (b.toNat : Int) > 57
      · simp only [d2, evL, decide_true]
        exact zero x9 (no (by rw [hF, if_pos (.inr (by omega))]))
      simp only [d2, evL, decide_false]
      rw [if_neg (by omega)] at hF
      obtain ⟨d, hd'⟩ : ∃ d, b.toNat = 48 + d := ⟨b.toNat - 48, by omega⟩
      have hp6 : (10 : Nat) ^ p ≤ 10 ^ 6 := Nat.pow_le_pow_right (by decide) (by omega)
      have D1 : Ext w9 w9.drew := (Ext.refl _).drew
      have x9d := x9.trans D1
      refine drawD.mk' (fun w' => Ext w9.drew w') (Ext.refl _) ?_
      refine yFd (fun w' hw => ((hB9.ext D1).ext hw).boxed) fa_29_5 l1_3 rfl ?_
      refine yieldS.ok (fun w' _ => r_mul) ?_
      have hu : (ws.map Value.string)[((3 : Int)).toNat]? = some (.string (wd ws 3)) := by
        show (ws.map Value.string)[3]? = _
        rw [List.getElem?_map, List.getElem?_eq_getElem (show 3 < ws.length by omega)]
        simp only [wd, List.getD_eq_getElem?_getD, List.getElem?_eq_getElem (show 3 < ws.length by omega), Option.map_some, Option.getD_some]
      refine ySl xa_53 l1_9 h2 (fun w' hw => x9d.trans hw) (by decide) (by omega) hu ?_
      refine yieldS.ok (fun w' _ => r_idxS Tryz.underlying9 hb) (yieldS.ok (fun w' _ => r_sub) (yieldS.ok (fun w' _ => r_convI Tryz.underlying5 Tryz.underlying3) (yieldS.ok (fun w' _ => r_add) ?_)))
      refine yieldS.ok (fun w' _ => (fa_29_5).ex w' g4 0) ?_
      rw [hd', show IntKind.u8.wrap (((48 + d : Nat) : Int) - 48) = (d : Int) by rw [wrapU8 (by omega) (by omega)]; omega, wrap_id (n := (d : Int)) (by omega) (by omega), wrap_id (n := 10 * (k : Int)) (by omega) (by omega), wrap_id (by omega) (by omega), show (10 * (k : Int) + d) = ((10 * k + d : Nat) : Int) by omega]
      refine stFU inf3 (hB9.ext D1) rfl (by simp) rfl (V_add.2 ?_)
      rw [wrap_id (by omega) (by omega), i64_succ]
      refine ⟨⟨p + 1, 10 * k + d, rfl, by omega, ?_, by rw [Nat.pow_succ]; omega, (hB9.ext D1).set 5 _, fun w'' f => hA w'' ((Fr.of_ext D1).trans ((fr4.mono fun k hk => by omega).trans f fun _ _ h => h) fun _ _ h => h), x4 x9d⟩, by simp only [intOf_i64]; omega⟩
      rw [hF, hd', show (10 * (k : Int) + (((48 + d : Nat) : Int) - 48)) = ((10 * k + d : Nat) : Int) by omega]
    · rw [drop_none (by omega), show numR [] (k : Int) = some (k : Int) from rfl] at hF
      rw [hF] at hev
      rw [hev]
      refine ⟨_, _, rfl, rfl, rfl, x9, _, hB9, fun w'' f => ?_⟩
      obtain ⟨a1, a2⟩ := hA w'' f
      exact ⟨⟨nilS, bv, cv, rfl, ArgsU8.nil _, a1, a2⟩, u8nil, hb5, hb7⟩
  | false =>
  rw [c5, if_neg (by simp)] at hev
  rw [hev]
  refine ifD_false.2 ?_
  exact ⟨_, true, rfl, rfl, (Bool.and_true _).symm, x3, _, hB4, fun w'' f => ⟨⟨nilS, nilS, nilS, rfl, ArgsU8.nil _, ArgsU8.nil _, ArgsU8.nil _⟩, u8nil, u8nil, u8nil⟩⟩
end Go.Proofs.YthblbcjgdbaonaaGreatDoor
namespace Go.Proofs.YthblbcjgdbaonaaGreatDoor
open Go.Vc Go.Tc
variable {w : World} {K : Value → World → Prop}
theorem same15 {cs ds : List Value} {e : Evt} (h1 : EvtIs w cs e) (h2 : EvtIs w ds e) (hk : ∀ w', Ext w w' → K (.bool true) w') : callD Tryz.prog 15 #[.agg cs.toArray, .agg ds.toArray] w K := by
  apply F15_wp
  unfold F15_den
  obtain ⟨⟨bv, pv, sv, rfl, hb, hp, hs⟩, _⟩ := h1
  obtain ⟨⟨bv', pv', sv', rfl, hb', hp', hs'⟩, _⟩ := h2
  refine bxK fun w1 hB1 x1 => bxK fun w2 hB2 x2 => ?_
  have hB1 : Blk w1 w.heap.size [i64 e.kind, bv, .string e.name, pv, sv, i64 e.fuel] 29 := hB1
  have hB2 : Blk w2 w1.heap.size [i64 e.kind, bv', .string e.name, pv', sv', i64 e.fuel] 29 := hB2
  have x02 := x1.trans x2
  have b1 := (hB1.ext x2).boxed
  have b2 := hB2.boxed
  refine ldB b1 fa_29_0 l1_3 rfl (ldB b2 fa_29_0 l1_3 rfl (V_eqlI.2 ?_))
  simp only [evL, reduceIte, decide_true]
  refine ldB b1 fa_29_1 l1_23 rfl (V.ok (r_strU (hb.ext x02)) (ldB b2 fa_29_1 l1_23 rfl (V.ok (r_strU (hb'.ext x02)) (V.ok r_eqStr ?_))))
  rw [beq_self_eq_true]
  simp only [evL, reduceIte]
  refine ldB b1 fa_29_2 l1_9 rfl (ldB b2 fa_29_2 l1_9 rfl (V.ok r_eqStr ?_))
  rw [beq_self_eq_true]
  simp only [evL, reduceIte]
  refine ldB b1 fa_29_3 l1_23 rfl (V.ok (r_strU (hp.ext x02)) (ldB b2 fa_29_3 l1_23 rfl (V.ok (r_strU (hp'.ext x02)) (V.ok r_eqStr ?_))))
  rw [beq_self_eq_true]
  simp only [evL, reduceIte]
  refine ldB b1 fa_29_4 l1_23 rfl (V.ok (r_strU (hs.ext x02)) (ldB b2 fa_29_4 l1_23 rfl (V.ok (r_strU (hs'.ext x02)) (V.ok r_eqStr ?_))))
  rw [beq_self_eq_true]
  simp only [evL, reduceIte]
  refine ldB b1 fa_29_5 l1_3 rfl (ldB b2 fa_29_5 l1_3 rfl (V_eqlI.2 ?_))
  simp only [decide_true]
  exact hk _ x02
theorem hexv_dig : ∀ k : Fin 16, hexv (dig k.val) = (k.val : Int) ∧ (dig k.val) ≠ 32 := by decide +kernel
theorem unL_hex : ∀ {l : List Int} {out : List Int}, U8s l → unL (hexI l) out = some (out ++ l)
  | [], out, _ => by rw [List.append_nil]; rfl
  | b :: l, out, h => by
    have hb := h b (by simp)
    obtain ⟨n, rfl⟩ : ∃ n : Nat, b = n := ⟨b.toNat, by omega⟩
    have d1 := (hexv_dig ⟨n / 16, by omega⟩).1
    have d2 := (hexv_dig ⟨n % 16, by omega⟩).1
    simp only at d1 d2
    rw [hexI_cons, Int.toNat_natCast, unL, d1, d2, if_neg (by omega), unL_hex (fun x hx => h x (by simp [hx])), List.append_assoc, show 16 * ((n / 16 : Nat) : Int) + ((n % 16 : Nat) : Int) = (n : Int) by omega]
    rfl
theorem unF_hex {l : List Int} (h : U8s l) : unF (hexS l) = (l, true) := by
  unfold hexS
  by_cases h0 : l = []
  · subst h0
    rw [if_pos rfl]
    unfold unF
    rw [if_pos (by simp)]
  · rw [if_neg h0]
    obtain ⟨b, l', rfl⟩ := List.exists_cons_of_ne_nil h0
    have hb := h b (by simp)
    have d1 := dig_b ⟨b.toNat / 16, by omega⟩
    unfold unF
    have hne : ((⟨(hexI (b :: l')).toArray⟩ : ByteArray).toList == ({ data := #[45] } : ByteArray).toList) = false := by
      rw [ByteArray.toList_eq, ByteArray.toList_eq, hexI_cons]
      simp
    have hsz : (⟨(hexI (b :: l')).toArray⟩ : ByteArray).size = 2 * (l'.length + 1) := by
      show (hexI (b :: l')).toArray.size = _
      rw [List.size_toArray, hexI_len]; rfl
    rw [hne, if_neg (by simp), hsz, if_neg (by omega)]
    rw [show (⟨(hexI (b :: l')).toArray⟩ : ByteArray).data.toList = hexI (b :: l') from by simp, unL_hex h, List.nil_append]
theorem numR_val : ∀ {l : List UInt8} {k : Int}, (∀ b ∈ l, 48 ≤ b.toNat ∧ b.toNat ≤ 57) → numR l k = some (valD l k)
  | [], k, _ => rfl
  | b :: l, k, h => by
    have hb := h b (by simp)
    rw [numR, if_neg (by omega), numR_val fun x hx => h x (by simp [hx])]
    rfl
def NoB (l : List UInt8) : Prop := ∀ b ∈ l, b ≠ 32
theorem parts_word {l rest : List UInt8} (h : NoB l) : ∀ {acc : List ByteArray} {c : ByteArray}, partsL (l ++ rest) acc c = partsL rest acc (c ++ ⟨l.toArray⟩) := by
  induction l with
  | nil =>
    intro acc c
    rw [show c ++ (⟨([] : List UInt8).toArray⟩ : ByteArray) = c from ByteArray.ext (by simp)]
    rfl
  | cons b l ih =>
    intro acc c
    rw [List.cons_append, partsL, if_neg (h b (by simp)), ih (fun x hx => h x (by simp [hx])), ByteArray.append_assoc, show (⟨#[b]⟩ : ByteArray) ++ ⟨l.toArray⟩ = ⟨(b :: l).toArray⟩ from ba_app [b] l]
theorem parts_last {a : List UInt8} {acc : List ByteArray} (h : NoB a) : partsL a acc ⟨#[]⟩ = acc ++ [⟨a.toArray⟩] := by
  have := parts_word (l := a) (rest := []) h (acc := acc) (c := ⟨#[]⟩)
  rw [List.append_nil] at this
  rw [this, partsL, empty_cat]
theorem parts_more {a b : List UInt8} {acc : List ByteArray} (h : NoB a) : partsL (a ++ 32 :: b) acc ⟨#[]⟩ = partsL b (acc ++ [⟨a.toArray⟩]) ⟨#[]⟩ := by
  rw [parts_word h, partsL, if_pos rfl, empty_cat]
theorem parts2 {s : ByteArray} {a b : List UInt8} (ha : NoB a) (hb : NoB b) (h : s.data.toList = a ++ 32 :: b) : partsF s = [⟨a.toArray⟩, ⟨b.toArray⟩] := by
  unfold partsF; rw [h, parts_more ha, parts_last hb]; rfl
theorem parts4 {s : ByteArray} {a b c d : List UInt8} (ha : NoB a) (hb : NoB b) (hc : NoB c) (hd : NoB d) (h : s.data.toList = a ++ 32 :: (b ++ 32 :: (c ++ 32 :: d))) : partsF s = [⟨a.toArray⟩, ⟨b.toArray⟩, ⟨c.toArray⟩, ⟨d.toArray⟩] := by
  unfold partsF; rw [h, parts_more ha, parts_more hb, parts_more hc, parts_last hd]; rfl
theorem noB_of {l : List UInt8} (h : NmL l) : NoB l := by
  induction h with
  | z => intro b hb; cases hb
  | a h h2 hl ih =>
    intro x hx
    rcases List.mem_cons.1 hx with rfl | hx
    · intro he; rw [he] at h2; exact h2 rfl
    · exact ih x hx
  | p h h2 hl ih =>
    intro x hx
    rcases List.mem_cons.1 hx with rfl | hx
    · decide
    · rcases List.mem_cons.1 hx with rfl | hx
      · intro he; rw [he] at h; revert h; decide
      · exact ih x hx
end Go.Proofs.YthblbcjgdbaonaaGreatDoor
namespace Go.Proofs.YthblbcjgdbaonaaGreatDoor
open Go.Vc Go.Tc
theorem byN_u8 {s : ByteArray} : ∀ {n p : Nat} {out : List Int} {h : Int}, U8s out → -1 ≤ h → h < 16 → U8s (byN s n p out h).1
  | 0, _, _, _, ho, _, _ => ho
  | n + 1, p, out, h, ho, h0, h1 => by
    rw [byN]
    have hb := hx_b (Utf8.decode s p).1
    split
    · split
      · exact u8nil
      · split
        · exact byN_u8 ho hb.1 hb.2
        · refine byN_u8 (fun y hy => ?_) (by omega) (by omega)
          rcases List.mem_append.1 hy with hy | hy
          · exact ho y hy
          · rw [List.mem_singleton] at hy; subst hy; omega
    · exact ho
theorem byF_u8 (s : ByteArray) : U8s (byF s).1 := by
  unfold byF
  split
  · exact u8nil
  · exact byN_u8 u8nil (by omega) (by omega)
theorem unL_u8 : ∀ {l : List UInt8} {out r : List Int}, U8s out → unL l out = some r → U8s r
  | [], out, r, ho, h => by cases h; exact ho
  | [_], out, r, ho, h => by cases h; exact ho
  | a :: b :: l, out, r, ho, h => by
    rw [unL] at h
    have ha := hexv_b a
    have hb := hexv_b b
    split at h
    · cases h
    · refine unL_u8 (fun y hy => ?_) h
      rcases List.mem_append.1 hy with hy | hy
      · exact ho y hy
      · rw [List.mem_singleton] at hy; subst hy; omega
theorem unF_u8 (s : ByteArray) : U8s (unF s).1 := by
  unfold unF
  split
  · exact u8nil
  · split
    · exact u8nil
    · cases h : unL s.data.toList [] with
      | none => exact u8nil
      | some l => exact unL_u8 u8nil h
theorem evF_u8 (ws : List ByteArray) : U8s (evF ws).1.bytes ∧ U8s (evF ws).1.pub ∧ U8s (evF ws).1.sec := by
  unfold evF
  (repeat' split) <;> exact ⟨by first | exact u8nil | exact byF_u8 _, by first | exact u8nil | exact byF_u8 _, by first | exact u8nil | exact byF_u8 _⟩
theorem comR_u8 (ws : List ByteArray) : U8s (comR ws).1.bytes ∧ U8s (comR ws).1.pub ∧ U8s (comR ws).1.sec := by
  unfold comR
  cases (if 7 < (wd ws 3).size then none else numR (wd ws 3).data.toList 0) with
  | none => exact ⟨u8nil, u8nil, u8nil⟩
  | some k => exact ⟨u8nil, unF_u8 _, unF_u8 _⟩
theorem evR_u8 (s : ByteArray) : U8s (evR s).1.bytes ∧ U8s (evR s).1.pub ∧ U8s (evR s).1.sec := by
  unfold evR
  (repeat' split) <;> first | exact comR_u8 _ | exact ⟨by first | exact u8nil | exact unF_u8 _, u8nil, u8nil⟩
theorem numR_itoa {n : Int} (h0 : 0 ≤ n) : numR (Lib.itoa n) 0 = some n := by
  rw [itoa_nat h0]
  obtain ⟨f1, f2, _⟩ := dd_facts n.toNat
  rw [numR_val f1, f2, Int.toNat_of_nonneg h0]
theorem er_des : evR sDes = (⟨3, [], ⟨#[]⟩, [], [], 0⟩, true) := by kernel_rfl
theorem er_res : evR sRes = (⟨4, [], ⟨#[]⟩, [], [], 0⟩, true) := by kernel_rfl
theorem evR_print {e : Evt} (hb : U8s e.bytes) (hp : U8s e.pub) (hs : U8s e.sec) (h : (prE e).2 = true) : evR (prE e).1 = (canon e, true) := by
  unfold canon
  by_cases h1 : e.kind = 1
  · have hpr : prE e = if e.bytes.length ≤ 8192 then (sIns ++ hexS e.bytes, true) else (sNo, false) := by simp [prE, h1]
    rw [hpr] at h ⊢
    by_cases hl : e.bytes.length ≤ 8192
    case neg => rw [if_neg hl] at h; cases h
    rw [if_pos hl, if_pos h1]
    have hw := parts2 (s := sIns ++ hexS e.bytes) (a := wIns.data.toList) (b := (hexS e.bytes).data.toList) (noB_of (nm_const (by decide))) (noB_of (hexS_list hb)) (by rw [ba_cat]; rfl)
    rw [to_mk, to_mk] at hw
    unfold evR
    rw [hw, if_pos (by rw [show sEq (wd [wIns, hexS e.bytes] 0) wIns = true from sEq_refl _]; rfl), show wd [wIns, hexS e.bytes] 1 = hexS e.bytes from rfl, unF_hex hb]
  rw [if_neg h1]
  by_cases h2 : e.kind = 2
  · have hpr : prE e = if nmB' e.name then (sSel ++ e.name, true) else (sNo, false) := by simp [prE, h2]
    rw [hpr] at h ⊢
    by_cases hl : nmB' e.name = true
    case neg => rw [if_neg hl] at h; cases h
    rw [if_pos hl, if_pos h2]
    have hw := parts2 (s := sSel ++ e.name) (a := wSel.data.toList) (b := e.name.data.toList) (noB_of (nm_const (by decide))) (noB_of (nm_word hl)) (by rw [ba_cat]; rfl)
    rw [to_mk, to_mk] at hw
    unfold evR
    rw [hw, if_neg (by rw [show sEq (wd [wSel, e.name] 0) wIns = false from (by decide +kernel : sEq wSel wIns = false)]; simp), if_pos (by rw [show sEq (wd [wSel, e.name] 0) wSel = true from sEq_refl _]; rfl)]
    rfl
  rw [if_neg h2]
  by_cases h5 : e.kind = 5
  · have hpr : prE e = if comOk e then (sCom ++ hexS e.pub ++ sBl ++ hexS e.sec ++ sBl ++ ⟨(Lib.itoa e.fuel).toArray⟩, true) else (sNo, false) := by simp [prE, h5]
    rw [hpr] at h ⊢
    by_cases hl : comOk e = true
    case neg => rw [if_neg hl] at h; cases h
    rw [if_pos hl, if_pos h5]
    simp only [comOk, Bool.and_eq_true, decide_eq_true_eq] at hl
    have hlist : (sCom ++ hexS e.pub ++ sBl ++ hexS e.sec ++ sBl ++ ⟨(Lib.itoa e.fuel).toArray⟩).data.toList = wCom.data.toList ++ 32 :: ((hexS e.pub).data.toList ++ 32 :: ((hexS e.sec).data.toList ++ 32 :: Lib.itoa e.fuel)) := by
      rw [ba_cat, ba_cat, ba_cat, ba_cat, ba_cat]; simp only [List.append_assoc]; rfl
    have hw := parts4 (noB_of (nm_const (l := wCom.data.toList) (by decide))) (noB_of (hexS_list hp)) (noB_of (hexS_list hs)) (noB_of (itoa_nm hl.2.1)) hlist
    rw [to_mk, to_mk, to_mk] at hw
    have n1 : sEq (sCom ++ hexS e.pub ++ sBl ++ hexS e.sec ++ sBl ++ ⟨(Lib.itoa e.fuel).toArray⟩) sDes = false := by
      unfold sEq; rw [ByteArray.toList_eq, ByteArray.toList_eq, hlist]; rfl
    have n2 : sEq (sCom ++ hexS e.pub ++ sBl ++ hexS e.sec ++ sBl ++ ⟨(Lib.itoa e.fuel).toArray⟩) sRes = false := by
      unfold sEq; rw [ByteArray.toList_eq, ByteArray.toList_eq, hlist]; rfl
    have h7 := itoa_len hl.2.1 hl.2.2
    have hsz : (⟨(Lib.itoa e.fuel).toArray⟩ : ByteArray).size = (Lib.itoa e.fuel).length := by show (Lib.itoa e.fuel).toArray.size = _; rw [List.size_toArray]
    unfold evR
    rw [hw, n1, n2, if_neg (by simp), if_neg (by simp), if_neg (by simp), if_neg (by simp), if_pos (by rw [show sEq (wd [wCom, hexS e.pub, hexS e.sec, ⟨(Lib.itoa e.fuel).toArray⟩] 0) wCom = true from sEq_refl _]; rfl)]
    unfold comR
    rw [show wd [wCom, hexS e.pub, hexS e.sec, (⟨(Lib.itoa e.fuel).toArray⟩ : ByteArray)] 3 = ⟨(Lib.itoa e.fuel).toArray⟩ from rfl, show wd [wCom, hexS e.pub, hexS e.sec, (⟨(Lib.itoa e.fuel).toArray⟩ : ByteArray)] 1 = hexS e.pub from rfl, show wd [wCom, hexS e.pub, hexS e.sec, (⟨(Lib.itoa e.fuel).toArray⟩ : ByteArray)] 2 = hexS e.sec from rfl, if_neg (by omega), numR_itoa hl.2.1, unF_hex hp, unF_hex hs]
    rfl
  rw [if_neg h5]
  by_cases h3 : e.kind = 3
  · have hpr : prE e = (sDes, true) := by simp [prE, h3]
    rw [hpr, h3]
    exact er_des
  by_cases h4 : e.kind = 4
  · have hpr : prE e = (sRes, true) := by simp [prE, h4]
    rw [hpr, h4]
    exact er_res
  have hpr : prE e = (sNo, false) := by simp [prE, h1, h2, h3, h4, h5]
  rw [hpr] at h
  cases h
theorem ref_print {e : Evt} (hb : U8s e.bytes) (hp : U8s e.pub) (hs : U8s e.sec) (h : (prE e).2 = true) : refP (prE e).1 = (canon e, true) := by
  unfold refP
  rw [evR_print hb hp hs h]
  simp only [prE_canon, h, sEq_refl, Bool.and_self, if_true]
theorem sEq_eq {a b : ByteArray} (h : sEq a b = true) : a = b := by
  unfold sEq at h
  have h := eq_of_beq h
  rw [ByteArray.toList_eq, ByteArray.toList_eq] at h
  exact ByteArray.ext (Array.ext' h)
theorem parsers (s : ByteArray) : refP s = parseP s := by
  by_cases c1 : ((evF (wordsF s)).2 && (prE (evF (wordsF s)).1).2 && sEq (prE (evF (wordsF s)).1).1 s) = true
  · simp only [Bool.and_eq_true] at c1
    obtain ⟨u1, u2, u3⟩ := evF_u8 (wordsF s)
    have e := sEq_eq c1.2
    rw [← e, ref_print u1 u2 u3 c1.1.2, parse_print u1 u2 u3 c1.1.2]
  by_cases c2 : ((evR s).2 && (prE (evR s).1).2 && sEq (prE (evR s).1).1 s) = true
  · simp only [Bool.and_eq_true] at c2
    obtain ⟨u1, u2, u3⟩ := evR_u8 s
    have e := sEq_eq c2.2
    rw [← e, ref_print u1 u2 u3 c2.1.2, parse_print u1 u2 u3 c2.1.2]
  unfold refP parseP
  rw [if_neg c1, if_neg c2]
end Go.Proofs.YthblbcjgdbaonaaGreatDoor
namespace Go.Proofs.YthblbcjgdbaonaaGreatDoor
open Go.Vc Go.Tc
variable {w : World} {K : Value → World → Prop}
theorem prE_size1 {e : Evt} : (prE e).1.size ≤ 900000 := by
  unfold prE
  by_cases h1 : e.kind = 1
  · rw [if_pos h1]
    by_cases hl : e.bytes.length ≤ 8192
    · rw [if_pos hl]
      have := hexS_size e.bytes
      rw [ByteArray.size_append]
      show 8 + _ ≤ _
      omega
    · rw [if_neg hl]; decide
  rw [if_neg h1]
  by_cases h2 : e.kind = 2
  · rw [if_pos h2]
    by_cases hl : nmB' e.name = true
    · rw [if_pos hl]
      have := nm_le hl
      rw [ByteArray.size_append]
      show 7 + _ ≤ _
      omega
    · rw [if_neg hl]; decide
  rw [if_neg h2]
  by_cases h3 : e.kind = 3
  · rw [if_pos h3]; decide
  rw [if_neg h3]
  by_cases h4 : e.kind = 4
  · rw [if_pos h4]; decide
  rw [if_neg h4]
  by_cases h5 : e.kind = 5
  · rw [if_pos h5]
    by_cases hl : comOk e = true
    · rw [if_pos hl]
      simp only [comOk, Bool.and_eq_true, decide_eq_true_eq] at hl
      have z1 := hexS_size e.pub
      have z2 := hexS_size e.sec
      have z3 := itoa_len hl.2.1 hl.2.2
      rw [ByteArray.size_append, ByteArray.size_append, ByteArray.size_append, ByteArray.size_append, ByteArray.size_append]
      show 8 + _ + 1 + _ + 1 + (Lib.itoa e.fuel).toArray.size ≤ _
      rw [List.size_toArray]
      omega
    · rw [if_neg hl]; decide
  rw [if_neg h5]
  decide
theorem cutTo {s : ByteArray} {h : Int} (h0 : 0 ≤ h) (h2 : h ≤ s.size) : (Instr.sliceAt 9 (.string s) none (some (i64 h)) none).run Tryz.prog w = .ok (.string (s.extract 0 h.toNat)) w := by
  rw [run_sliceAt_string (h := Tryz.underlying9), run_slice_string_h _ _ _ Tryz.underlying9 _ _ h0 h2]
theorem cutFrom {s : ByteArray} {h : Int} (h0 : 0 ≤ h) (h2 : h ≤ s.size) : (Instr.sliceAt 9 (.string s) (some (i64 h)) none none).run Tryz.prog w = .ok (.string (s.extract h.toNat s.size)) w := by
  rw [run_sliceAt_string (h := Tryz.underlying9), run_slice_string_l _ _ _ Tryz.underlying9 _ _ h0 h2]
def muts : Value := .agg #[.string ⟨#[32]⟩, .string ⟨#[48]⟩, .string ⟨#[45]⟩, .string ⟨#[103]⟩, .string ⟨#[]⟩, .string ⟨#[195, 169]⟩, .string ⟨#[65]⟩]
theorem mut7 : (Instr.build 37 #[(0, (Value.string { data := #[32] })), (1, (Value.string { data := #[48] })), (2, (Value.string { data := #[45] })), (3, (Value.string { data := #[103] })), (4, (Value.string { data := #[] })), (5, (Value.string { data := #[195, 169] })), (6, (Value.string { data := #[65] }))]).run Tryz.prog w = .ok muts w := by kernel_rfl
theorem mut_at {b : Int} (h0 : 0 ≤ b) (h1 : b < 7) : ∃ c : ByteArray, c.size ≤ 2 ∧ ∀ w : World, (Instr.index 37 muts (i64 b)).run Tryz.prog w = .ok (.string c) w := by
  have : b = 0 ∨ b = 1 ∨ b = 2 ∨ b = 3 ∨ b = 4 ∨ b = 5 ∨ b = 6 := by omega
  rcases this with rfl | rfl | rfl | rfl | rfl | rfl | rfl
  · exact ⟨⟨#[32]⟩, by decide, fun w => by kernel_rfl⟩
  · exact ⟨⟨#[48]⟩, by decide, fun w => by kernel_rfl⟩
  · exact ⟨⟨#[45]⟩, by decide, fun w => by kernel_rfl⟩
  · exact ⟨⟨#[103]⟩, by decide, fun w => by kernel_rfl⟩
  · exact ⟨⟨#[]⟩, by decide, fun w => by kernel_rfl⟩
  · exact ⟨⟨#[195, 169]⟩, by decide, fun w => by kernel_rfl⟩
  · exact ⟨⟨#[65]⟩, by decide, fun w => by kernel_rfl⟩
set_option maxHeartbeats 3200000 in
theorem parses4 {cs : List Value} {how at_ by_ : Int} {t : ByteArray} {near : Bool} (x : RawIs w cs) (hh : -9223372036854775808 ≤ how ∧ how ≤ 9223372036854775807) (ht : t.size ≤ 2000000) (hT : STabs w) :
    callD Tryz.prog 4 #[.agg cs.toArray, i64 how, .string t, .bool near, i64 at_, i64 by_] w fun r w' => r = .bool true ∧ Ext w w' := by
  apply F4_wp
  suffices key : ∀ R : Value → World → Prop, (∀ w', Ext w w' → R (.bool true) w') → F4_den (.agg cs.toArray) (i64 how) (.string t) (.bool near) (i64 at_) (i64 by_) w R from key _ fun _ hx => ⟨rfl, hx⟩
  intro R hR
  unfold F4_den
  have hcl : cs.length = 9 := by rw [x.c]; rfl
  refine bxK fun w1 hB1 x1 => ?_
  have hB1 : Blk w1 w.heap.size cs 25 := by
    rw [x.c] at hB1 ⊢
    exact hB1
  refine ldA hB1.boxed la_25 hcl ?_
  refine event6 x x1 (hT.ext x1).bo (hT.ext x1).t3 hh fun cs2 e w3 he x3 => ?_
  have x03 := x1.trans x3
  refine print8 he (hT.ext x03) fun w5 x5 => V_ext0.2 (V_ext1.2 ?_)
  have x05 := x03.trans x5
  have hz := prE_size1 (e := e)
  refine ⟨fun v w' => ∃ z : ByteArray, v = .string z ∧ z.size ≤ 2000000 ∧ Ext w w', ?_, ?_⟩
  case refine_2 =>
    rintro _ w6 ⟨z, rfl, hzs, x6⟩ _
    refine parse13 hzs (hT.ext x6) fun cs8 w7 he8 x7 => V_ext0.2 (V_ext1.2 ?_)
    have x07 := x6.trans x7
    refine alK inf29 fun w8 hB8 x8 => ?_
    have hB8 : Blk w8 w7.heap.size [i64 0, nilS, .string ByteArray.empty, nilS, nilS, i64 0] 29 := hB8
    have hone8 := he8.one
    have he80 := he8
    refine stA inf29 hB8 (l := cs8) rfl hone8.2 rfl hone8.1 fun w9 hB9 hc9 => ?_
    have x79 : Ext w7 w9 := hc9.ext _ x8 (Nat.le_refl _)
    have x09 := x07.trans x79
    refine parse14 hzs (hT.ext x09) fun csA wA heA xA => V_ext0.2 (V_ext1.2 ?_)
    have x0A := x09.trans xA
    refine alK inf29 fun wB hBB xB => ?_
    have hBB : Blk wB wA.heap.size [i64 0, nilS, .string ByteArray.empty, nilS, nilS, i64 0] 29 := hBB
    have honeA := heA.one
    refine stA inf29 hBB (l := csA) rfl honeA.2 rfl honeA.1 fun wC hBC hcC => ?_
    have xAC : Ext wA wC := hcC.ext _ xB (Nat.le_refl _)
    have x0C := x0A.trans xAC
    refine known10 (hT.ext x0C) fun wD xD => ?_
    have x0D := x0C.trans xD
    rw [parsers] at heA ⊢
    refine gd_t.2 (gd_t.2 (gd_t.2 ?_))
    refine V.ok (v := .bool true) (w' := wD) (by cases (parseP z).2 <;> kernel_rfl) ?_
    simp only [evL, reduceIte]
    refine ldA (hB9.ext ((xA.trans xAC).trans xD)).boxed la_29 hone8.2 (ldA (hBC.ext xD).boxed la_29 honeA.2 ?_)
    refine same15 (e := (parseP z).1) (he80.ext (((x79.trans xA).trans xAC).trans xD)) (heA.ext (xAC.trans xD)) fun wE xE => ?_
    exact hR _ (x0D.trans xE)
  cases near with
  | true =>
    simp only [evL, reduceIte]
    exact ⟨t, rfl, ht, x05⟩
  | false =>
  cases hok : (prE e).2 with
  | false =>
    simp only [evL, reduceIte, Bool.false_eq_true, Bool.not_false]
    exact ⟨t, rfl, ht, x05⟩
  | true =>
  simp only [evL, reduceIte, Bool.false_eq_true, Bool.not_true]
  refine V.ok (r_rem (by decide)) (V_gtr.2 ?_)
  by_cases c1 : by_.tmod 3 > 0
  case neg =>
    simp only [c1, evL, reduceIte, Bool.false_eq_true, decide_false]
    exact ⟨(prE e).1, rfl, by omega, x05⟩
  simp only [c1, evL, reduceIte, decide_true]
  refine V.ok (lenStr Tryz.underlying9) (V_gtr.2 ?_)
  by_cases c2 : ((prE e).1.size : Int) > 0
  case neg =>
    simp only [c2, evL, decide_false]
    exact ⟨(prE e).1, rfl, by omega, x05⟩
  simp only [c2, evL, decide_true]
  refine V.ok (lenStr Tryz.underlying9) (pick10 (by omega) (by omega) fun a a0 a1 => ?_)
  have D1 : Ext w5 w5.drew := (Ext.refl _).drew
  refine drawD.mk' (fun w' => Ext w5.drew w') (Ext.refl _) ?_
  refine yieldS.ok (fun w' _ => cutTo (by omega) (by omega)) ?_
  refine yieldS.ok (fun w' _ => mut7) ?_
  refine yieldS.ok (fun w' _ => r_quo (by decide)) ?_
  refine pick10 (by decide) (by decide) fun b b0 b1 => ⟨Ext.refl _, ?_⟩
  obtain ⟨c, hc2, hc⟩ := mut_at b0 b1
  refine yieldS.ok (fun w' _ => hc w') ?_
  have z1 : ((prE e).1.extract 0 a.toNat).size = a.toNat := by rw [ByteArray.size_extract]; omega
  refine yieldS.ok (fun w' _ => r_cat (by omega)) ?_
  refine pick10 (by decide) (by decide) fun d d0 d1 => ⟨Ext.refl _, ?_⟩
  refine yieldS.ok (fun w' _ => r_add) ?_
  rw [wrap_id (by omega) (by omega)]
  refine yieldS.ok (fun w' _ => cutFrom (by omega) (by omega)) ?_
  have z2 : ((prE e).1.extract (a + d).toNat (prE e).1.size).size ≤ (prE e).1.size := by rw [ByteArray.size_extract]; omega
  have z3 : (((prE e).1.extract 0 a.toNat) ++ c).size ≤ 900002 := by rw [ByteArray.size_append]; omega
  refine yieldS.ok (fun w' _ => r_cat (by omega)) ?_
  exact ⟨_, rfl, by rw [ByteArray.size_append]; omega, x05.trans D1⟩
end Go.Proofs.YthblbcjgdbaonaaGreatDoor
namespace Go.Vc
open Go.ChangeShapes Go.WideShapes Go.ChangeAt Go.RowKit
variable {H : Type} {enc : TypeId × Value → H} {P : Program}
theorem post_of_ext {f : Func} {s : ChangeSpec} {apart fresh handsOn again : Bool} {W W' : World} {args : Array Value} {v : Value} {ds gs : List (DataW H)} {pa pv : List MemPlace}
    (hW : DataW.Whole enc P f.params.toList s.vars apart W args.toList ds gs (pa ++ pv)) (hx : Ext W W')
    (hr : ∀ b sp hd, DataW.TrodAll enc P W' b sp hd f.resultTypes.toList (v.resultList f.resultTypes.size) (s.fn H (ds ++ gs)).results [])
    (ha : ∀ sp : Nat → Bool, (∀ p ∈ pa ++ pv, sp p.block = true) → DataW.TrodAll enc P W' 0 sp true f.params.toList args.toList (s.fn H (ds ++ gs)).args pa)
    (hv : ∀ sp : Nat → Bool, (∀ p ∈ pa ++ pv, sp p.block = true) → DataW.TrodVars enc P W' sp s.vars (s.fn H (ds ++ gs)).vars pv)
    (hok : ∀ (j : Nat) (t : TypeId) (r : Value), f.resultTypes[j]? = some t → (v.resultList f.resultTypes.size)[j]? = some r → Value.okWide P W' .any 0 t r) :
    s.post enc P f apart fresh handsOn again W args v W' := by
  have hlt := hW.lt
  have hall : ∀ p ∈ pa ++ pv, (fun b => decide (b < W.heap.size)) p.block = true := fun p hp => decide_eq_true (hlt p hp)
  have hk := hx.below.frame (· ∈ pa ++ pv)
  refine ⟨ds, gs, pa ++ pv, [], pa, pv, hW, hr _ _ _, ha _ hall, hv _ hall, World.keptBut_mono (fun p hp => ⟨hp, .inr (by simpa using hp)⟩) hk, fun _ => ?_⟩
  obtain ⟨_, _, _, _, _, hz, hn⟩ := hW
  have h2 := trodAll_append (ha (fun _ => true) fun _ _ => rfl) (hr 0 (fun _ => true) true)
  refine ⟨hok, _, _, pa ++ pv, ⟨pa, pv, (by simpa using h2), hv _ fun _ _ => rfl, rfl, fun b off hp => ?_, hn⟩, fun p hp _ => hp⟩
  rw [hx.below.frozen (hlt _ hp)]
  exact hz b off hp
end Go.Vc
namespace Go.Vc
open Go.ChangeShapes Go.WideShapes Go.ChangeAt Go.RowKit
variable {H : Type} {enc : TypeId × Value → H} {P : Program}
theorem args_stay (hl : laidOutB P = true) {W W' : World} (hx : Ext W W') {sp : Nat → Bool} : ∀ {ts : List TypeId} {vs : List Value} {ds : List (DataW H)} {p : List MemPlace}, (ts.all fun t => P.readableRec t && decide (t < P.types.size)) = true →
    DataW.TrodAll enc P W 0 (fun _ => true) true ts vs ds p → (∀ x ∈ p, x.block < W.heap.size) → (∀ x ∈ p, sp x.block = true) → DataW.TrodAll enc P W' 0 sp true ts vs ds p
  | [], vs, ds, p, _, h, _, _ => by
    obtain ⟨rfl, rfl, rfl⟩ := trodAll_nil h
    exact trodAll_mk0
  | t :: ts, vs, ds, p, hr, h, hlt, hs => by
    simp only [List.all_cons, Bool.and_eq_true, decide_eq_true_eq] at hr
    obtain ⟨v, vs', d, ds', p1, p2, rfl, rfl, rfl, h1, h2⟩ := trodAll_cons h
    exact trodAll_cons_mk (WideElems.Trod_stays hl hr.1.1 hr.1.2 h1 (fun x hx' => hx.below.same (hlt x (by simp [hx']))) fun x hx' => hs x (by simp [hx']))
      (args_stay hl hx (by simpa using hr.2) h2 (fun x hx' => hlt x (by simp [hx'])) fun x hx' => hs x (by simp [hx']))
end Go.Vc
namespace Go.Vc
open Go.ChangeShapes
theorem laid_elem {P : Program} {W : World} {x : String} {ds : List (DataW Unit)} {g t e m : Nat} (hg : P.globalNamed x = some g) (ht : (P.globals[g]?).map (·.type) = some t) (hu : P.underlying t = some (.array m e)) {i : Nat} (hi : i < m) :
    ∀ {laid : List (String × DataW Unit)} {ps : List MemPlace}, DataW.LaidVars P W laid ps → (x, .agg ds) ∈ laid → ∃ (fuel : Nat) (q : List MemPlace) (cs : List Value) (d : DataW Unit), ds[i]? = some d ∧ DataW.trod (fun _ => ()) P W 0 (fun _ => true) false fuel e ((cs.drop (i * P.cellsOf e)).take (P.cellsOf e)) = some (d, q) ∧ ∀ j : Nat, W.cell? ⟨g, j, none⟩ = cs[j]?
  | [], _, _, hm => by cases hm
  | (n', d') :: r, ps, h, hm => by
    obtain ⟨g', t', cs, fuel, p, q, h1, h2, h3, h4, h5, _⟩ := h
    rcases List.mem_cons.1 hm with e1 | e1
    · cases e1
      obtain rfl := Option.some.inj (hg.symm.trans h1)
      obtain rfl := Option.some.inj (ht.symm.trans h2)
      obtain ⟨xs, m', _, ex, _, hxl, hel⟩ := DataW.trod_array hu h4
      have hE := hel i hi
      rw [List.getElem?_eq_getElem (by omega)] at hE
      refine ⟨m', (xs[i]'(by omega)).2, cs.toList, (xs[i]'(by omega)).1, ?_, hE, fun j => by rw [World.var?_cell hg h3 j, ← Array.getElem?_toList]⟩
      have : ds = xs.map (·.1) := by have := congrArg Prod.fst ex; simpa using this
      rw [this, List.getElem?_map, List.getElem?_eq_getElem (by omega)]; rfl
    · exact laid_elem hg ht hu hi h5 e1
theorem laid_int {P : Program} {W : World} {x : String} {ds : List (DataW Unit)} {g t e m : Nat} {k : IntKind} {laid : List (String × DataW Unit)} {ps : List MemPlace} (hg : P.globalNamed x = some g) (ht : (P.globals[g]?).map (·.type) = some t) (hu : P.underlying t = some (.array m e)) (he : P.underlying e = some (.int k)) (c1 : P.cellsOf e = 1)
    (h : DataW.LaidVars P W laid ps) (hm : (x, .agg ds) ∈ laid) {i : Nat} (hi : i < m) : ∃ z, ds[i]? = some (.lit (.int k z)) ∧ W.cell? ⟨g, i, none⟩ = some (.int k z) := by
  obtain ⟨fuel, q, cs, d, h1, h2, h3⟩ := laid_elem hg ht hu hi h hm
  rw [c1, Nat.mul_one] at h2
  obtain ⟨z, e1, e2, _⟩ := DataW.trod_int he h2
  cases e2
  refine ⟨z, h1, ?_⟩
  rw [h3 i]
  have h0 : ((cs.drop i).take 1)[0]? = some (.int k z) := by rw [e1]; rfl
  simpa using h0
theorem laid_fld {P : Program} {W : World} {x : String} {ds : List (DataW Unit)} {g t e m c f o u : Nat} {fs : Array Field} {k : IntKind} {laid : List (String × DataW Unit)} {ps : List MemPlace} (hg : P.globalNamed x = some g) (ht : (P.globals[g]?).map (·.type) = some t) (hu : P.underlying t = some (.array m e)) (he : P.underlying e = some (.struct fs)) (hc : P.cellsOf e = c)
    (hf : (fs[f]?).map (fun y => (y.type, y.offset)) = some (u, o)) (hk : P.underlying u = some (.int k)) (c1 : P.cellsOf u = 1) (ho : o < c)
    (h : DataW.LaidVars P W laid ps) (hm : (x, .agg ds) ∈ laid) {i : Nat} (hi : i < m) : ∃ l z, ds[i]? = some (.agg l) ∧ l[f]? = some (.lit (.int k z)) ∧ W.cell? ⟨g, i * c + o, none⟩ = some (.int k z) := by
  obtain ⟨fuel, q, cs, d, h1, h2, h3⟩ := laid_elem hg ht hu hi h hm
  rw [hc] at h2
  obtain ⟨xs, n, _, ex, _, hxl, hel⟩ := DataW.trod_struct he h2
  obtain ⟨fd, hfd, hfe⟩ := Option.map_eq_some_iff.1 hf
  have h4 := hel f fd hfd
  have hlt : f < fs.size := (Array.getElem?_eq_some_iff.1 hfd).1
  simp only [Prod.mk.injEq] at hfe
  obtain ⟨rfl, rfl⟩ := hfe
  rw [c1, List.getElem?_eq_getElem (by omega)] at h4
  obtain ⟨z, e1, e2, _⟩ := DataW.trod_int hk h4
  have e3 : d = .agg (xs.map (·.1)) := congrArg Prod.fst ex
  refine ⟨_, z, by rw [h1, e3], by rw [List.getElem?_map, List.getElem?_eq_getElem (by omega)]; simp [e2], ?_⟩
  rw [h3]
  have h0 : ((((cs.drop (i * c)).take c).drop fd.offset).take 1)[0]? = some (.int k z) := by rw [e1]; rfl
  simpa [List.getElem?_take, List.getElem?_drop, ho] using h0
end Go.Vc
