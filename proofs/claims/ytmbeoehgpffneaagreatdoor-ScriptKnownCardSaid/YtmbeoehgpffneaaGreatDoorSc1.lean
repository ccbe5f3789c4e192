/- Script: hex by its contract (a strings.Builder off the shelf). -/
import Derived.Test.YtmbeoehgpffneaaGreatDoorShelf
import Derived.Test.YtmbeoehgpffneaaGreatDoorInsts
import Derived.Test.YtmbeoehgpffneaaGreatDoorDens
import Derived.Test.YtmbeoehgpffneaaGreatDoorA26
import Derived.Test.YtmbeoehgpffneaaGreatDoorGen
import Derived.Test.YtmbeoehgpffneaaGreatDoorFl1
namespace Go.Proofs.YtmbeoehgpffneaaGreatDoor
open Go.Vc Go.RowKit
abbrev u8 (b : Int) : Value := .int .u8 b
def digs : ByteArray := { data := #[48, 49, 50, 51, 52, 53, 54, 55, 56, 57, 97, 98, 99, 100, 101, 102] }
def dig (k : Nat) : UInt8 := if k < 10 then UInt8.ofNat (48 + k) else UInt8.ofNat (87 + k)
theorem r_dig {w : World} {k : Nat} (h : k < 16) : (Instr.index 9 (.string { data := #[48, 49, 50, 51, 52, 53, 54, 55, 56, 57, 97, 98, 99, 100, 101, 102] }) (.int .u8 (k : Int))).run Tryz.prog w = .ok (.int .u8 ((dig k).toNat : Int)) w := by
  have hc : k = 0 ∨ k = 1 ∨ k = 2 ∨ k = 3 ∨ k = 4 ∨ k = 5 ∨ k = 6 ∨ k = 7 ∨ k = 8 ∨ k = 9 ∨ k = 10 ∨ k = 11 ∨ k = 12 ∨ k = 13 ∨ k = 14 ∨ k = 15 := by omega
  rcases hc with rfl | rfl | rfl | rfl | rfl | rfl | rfl | rfl | rfl | rfl | rfl | rfl | rfl | rfl | rfl | rfl <;> (show _ = _; kernel_rfl)
theorem and15 : ∀ n : Fin 256, IntKind.u8.wrap (BitVec.ofInt IntKind.u8.bits (n.val : Int) &&& BitVec.ofInt IntKind.u8.bits 15).toNat = ((n.val % 16 : Nat) : Int) := by decide +kernel
theorem shr4 : ∀ n : Fin 256, ((n.val : Int).fdiv (2 ^ (min (4 : Int).toNat IntKind.u8.bits))) = ((n.val / 16 : Nat) : Int) := by decide +kernel
def hexL (l : List Nat) : List UInt8 := l.flatMap fun b => [dig (b / 16), dig (b % 16)]
theorem hexL_snoc (l : List Nat) (b : Nat) : hexL (l ++ [b]) = hexL l ++ [dig (b / 16)] ++ [dig (b % 16)] := by simp [hexL]
theorem hexL_len (l : List Nat) : (hexL l).length = 2 * l.length := by
  induction l with
  | nil => rfl
  | cons a l ih =>
    show ([dig (a / 16), dig (a % 16)] ++ hexL l).length = _
    rw [List.length_append, ih]
    simp
    omega
def hexB (l : List Nat) : ByteArray := if l = [] then { data := #[45] } else ⟨(hexL l).toArray⟩
theorem byteCells_snoc (l : List UInt8) (b : UInt8) : Lib.byteCells l ++ [.int .u8 (b.toNat : Int)] = Lib.byteCells (l ++ [b]) := by simp [Lib.byteCells]
theorem below_ext {w w1 w' : World} (h : Below w.heap.size w1 w') (hx : Ext w w1) : Ext w w' :=
  ⟨h.os.trans hx.os, h.tape.trans hx.tape, h.output.trans hx.output, Nat.le_trans hx.size h.size, fun i hi hn => (h.block i hi).trans (hx.block i hi hn)⟩
theorem intOf_i64 (n : Int) : RowKit.intOf (i64 n) = n := rfl
theorem r_shr {P : Program} {w : World} {k k' : IntKind} {t : TypeId} {a b : Int} (h : 0 ≤ b) : (binOp .shr t (.int k a) (.int k' b)).run P w = .ok (.int k (a.fdiv (2 ^ (min b.toNat k.bits)))) w := by
  have : ¬ b < 0 := by omega
  simp [binOp, Op.shift, this]
theorem r_and {P : Program} {w : World} {k : IntKind} {t : TypeId} {a b : Int} : (binOp .and t (.int k a) (.int k b)).run P w = .ok (.int k (k.wrap (BitVec.ofInt k.bits a &&& BitVec.ofInt k.bits b).toNat)) w := by simp [binOp, Op.intBits]
theorem e_wb : ∀ args w, (callFunc 32 args).run Tryz.prog w = .ok (.enter 32 args) w := enters_of lays167.f167 (by kernel_rfl) rfl
theorem e_st : ∀ args w, (callFunc 13 args).run Tryz.prog w = .ok (.enter 13 args) w := enters_of lays169.f169 (by kernel_rfl) rfl
set_option maxHeartbeats 1600000 in
theorem hex_ok {w : World} {v : Value} {l : List Nat} (hv : (v = .slice none 0 0 ∧ l = []) ∨ ∃ b o c, v = .slice (some ⟨b, o, none⟩) l.length c ∧ Seg w b o (l.map fun b : Nat => u8 (b : Int))) (hb : ∀ b ∈ l, b < 256) (hl : l.length ≤ 10000) : callD Tryz.prog 17 #[v] w fun r w' => r = .string (hexB l) ∧ Ext w w' := by
  have hv' : ∃ a c, v = .slice a l.length c ∧ (0 < l.length → ∃ b o, a = some ⟨b, o, none⟩ ∧ Seg w b o (l.map fun b : Nat => u8 (b : Int))) := by
    rcases hv with ⟨rfl, rfl⟩ | ⟨b, o, c, rfl, h⟩
    · exact ⟨none, 0, rfl, fun h => absurd h (Nat.lt_irrefl 0)⟩
    · exact ⟨_, _, rfl, fun _ => ⟨b, o, rfl, h⟩⟩
  obtain ⟨va, vc, rfl, hs⟩ := hv'
  apply F17_wp
  suffices key : ∀ R : Value → World → Prop, (∀ w', Ext w w' → R (.string (hexB l)) w') → F17_den (.slice va l.length vc) w R from key _ fun w' hx => ⟨rfl, hx⟩
  intro R hR
  unfold F17_den
  refine V_ln_25.2 (V_eqlI.2 (ifD_dec (fun h0 => ?_) fun hn0 => ?_))
  · have : l = [] := List.eq_nil_of_length_eq_zero (by omega)
    subst this
    exact hR _ (Ext.refl _)
  have hpos : 0 < l.length := by omega
  obtain ⟨vb, vo, rfl, hss⟩ := hs hpos
  refine alK inf44 fun w1 hbk x1 => ?_
  refine V_ln_25.2 ?_
  refine ⟨fun x w' => ∃ i : Nat, x = i64 i ∧ i ≤ l.length ∧ Lib.IsBuilder 44 5 w.heap.size w.heap.size (Lib.byteCells (hexL (l.take i))) w' ∧ Ext w w', fun x _ => l.length - (RowKit.intOf x).toNat, ⟨0, rfl, Nat.zero_le _, .inl ⟨Nat.le_refl _, _, hbk, World.ownsRow_nil _ _ _ _, fun h => by cases h⟩, x1⟩, ?_⟩
  rintro _ w2 ⟨i, rfl, hi, hB2, x2⟩ _
  refine V_lss.2 (ifD_dec (fun hlt => ?_) fun hge => ?_)
  · obtain ⟨b, hbi⟩ : ∃ b, l[i]? = some b := ⟨_, List.getElem?_eq_getElem (by omega)⟩
    have hb256 := hb b (List.mem_of_getElem? hbi)
    have ht : l.take (i + 1) = l.take i ++ [b] := by rw [List.take_add_one, hbi]; rfl
    have htl : (hexL (l.take i)).length ≤ 20000 := by rw [hexL_len]; simp; omega
    refine ldS xa_25 l1_5 (hss.ext x2) (by omega) (by omega) (by simp [hbi] : (l.map fun b : Nat => u8 (b : Int))[((i : Nat) : Int).toNat]? = some (u8 (b : Int))) ?_
    refine V.ok (r_shr (by decide)) ?_
    rw [show ((b : Int).fdiv (2 ^ (min (4 : Int).toNat IntKind.u8.bits))) = ((b / 16 : Nat) : Int) from shr4 ⟨b, hb256⟩]
    refine V.ok (r_dig (by omega)) ?_
    refine callD.mono (R := fun v w' => v = .nilIface ∧ Lib.IsBuilder 44 5 w.heap.size w.heap.size (Lib.byteCells (hexL (l.take i) ++ [dig (b / 16)])) w' ∧ Ext w w') ⟨e_wb, (sWriteByte _ _ _ _ _ hB2 (by rw [Lib.byteCells_length]; omega) x2.size).mono fun e w' ⟨he, hb, hbel⟩ => ⟨_, he, rfl, .inr (by rw [← byteCells_snoc]; exact hb), below_ext hbel x2⟩⟩ fun v3 w3 ⟨_, hB3, x3⟩ => ?_
    refine V.ok r_and ?_
    rw [show IntKind.u8.wrap (BitVec.ofInt IntKind.u8.bits (b : Int) &&& BitVec.ofInt IntKind.u8.bits 15).toNat = ((b % 16 : Nat) : Int) from and15 ⟨b, hb256⟩]
    refine V.ok (r_dig (by omega)) ?_
    refine callD.mono (R := fun v w' => v = .nilIface ∧ Lib.IsBuilder 44 5 w.heap.size w.heap.size (Lib.byteCells (hexL (l.take (i + 1)))) w' ∧ Ext w w') ⟨e_wb, (sWriteByte _ _ _ _ _ hB3 (by rw [Lib.byteCells_length]; simp; omega) x3.size).mono fun e w' ⟨he, hb, hbel⟩ => ⟨_, he, rfl, .inr (by rw [ht, hexL_snoc, ← byteCells_snoc]; exact hb), below_ext hbel x3⟩⟩ fun v4 w4 ⟨_, hB4, x4⟩ => ?_
    refine V_add.2 ?_
    rw [wrap_id (by omega) (by omega), show Value.int .i64 ((i : Int) + 1) = i64 ((i + 1 : Nat) : Int) by simp]
    exact ⟨⟨i + 1, rfl, by omega, hB4, x4⟩, by simp only [intOf_i64]; omega⟩
  obtain rfl : i = l.length := by omega
  rw [List.take_length] at hB2
  refine callD.mono (R := fun v w' => v = .string (hexB l) ∧ Ext w w') ⟨e_st, (sString _ _ _ _ hB2 x2.size).mono fun e w' ⟨he, hbel⟩ => ⟨_, he, ?_, below_ext hbel x2⟩⟩ fun v3 w3 ⟨hv3, x3⟩ => ?_
  · unfold hexB
    rw [if_neg (fun h => by subst h; exact absurd hpos (Nat.lt_irrefl 0))]
  · subst hv3
    exact hR _ x3
end Go.Proofs.YtmbeoehgpffneaaGreatDoor
