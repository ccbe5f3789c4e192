/- Script: strings.Split as an oracle; the table. -/
import Derived.Test.YtmbeoehgpffneaaGreatDoorSc2
namespace Go.Proofs.YtmbeoehgpffneaaGreatDoor
open Go.Vc Go.Ab
noncomputable section
/-- strings.Split, at a separator that is not empty. -/
def splitO : Orc := fun args s => match args with
  | [.string a, .string b] => match rd s 2 0 with
    | some (.int .i64 _) => match Nat.blt a.size 1000000 && Nat.blt 0 b.size && Nat.beq (Lib.splitB b 0 (Lib.countB a b) a).length (Lib.countB a b + 1) with
      | true => some (.slice (some ⟨s.n, 0, none⟩) (Lib.countB a b + 1) 1, s.push (obOf ((Lib.splitB b 0 (Lib.countB a b) a).map Value.string)))
      | false => none
    | _ => none
  | _ => none
theorem rl_str {β : Beta} : ∀ l : List ByteArray, RL β (l.map Value.string) (l.map Value.string)
  | [] => .nil
  | a :: l => RL.cons (.string a) (rl_str l)
theorem split_orc : OrcOk1 Tryz.prog GM 9 splitO := fun β s w args args' v s' hc hr hl => by
  unfold splitO at hc
  split at hc <;> try (cases hc; done)
  rename_i a b
  split at hc <;> try (cases hc; done)
  rename_i m hrd
  split at hc <;> cases hc
  rename_i hchk
  simp only [Bool.and_eq_true] at hchk
  have hlen := Nat.eq_of_beq_eq_true hchk.2
  have h1 : a.size < 1000000 := by simpa [Nat.blt_eq] using hchk.1.1
  have h2 : 0 < b.size := by simpa [Nat.blt_eq] using hchk.1.2
  obtain ⟨lim, hg⟩ := hr.glob 2 rfl
  obtain ⟨v', hcell, hrv⟩ := hr.rd hg hrd
  obtain rfl := RV.int_inv' hrv
  obtain ⟨x, l1, e1, hx, hl1⟩ := hl.inv
  obtain ⟨y, l2, rfl, hy, hl2⟩ := hl1.inv
  have := hl2.inv_nil
  subst this
  cases hx
  cases hy
  have : args' = #[.string a, .string b] := Array.toList_inj.1 e1
  subst this
  refine ⟨e_sp, (sSplit a b m w (by omega) hcell (by omega)).mono fun e w' ⟨he, hw⟩ => ⟨_, he, ?_⟩⟩
  subst hw
  have ev := Rel.push hr (w' := w.alloc (.cells ((Lib.splitB b 0 (Lib.countB a b) a).map Value.string).toArray 9)) (obj := .cells ((Lib.splitB b 0 (Lib.countB a b) a).map Value.string).toArray 9 (0, 0)) (lim := ((Lib.splitB b 0 (Lib.countB a b) a).map Value.string).toArray.size) rfl ⟨rfl, rfl, rfl⟩ (obOf_new (rl_str _) rfl (.inl rfl))
  exact ⟨_, ev, .slc (base := 0) (upB_same _ _ _) (Nat.le_refl _) (.inr ⟨rfl, by simp [hlen]⟩)⟩
/-- The table. -/
def tabS : FuncId → Option Orc := orcOr (orc1 51 (orcP indexA)) (orcOr (orc1 17 hexO) (orc1 9 splitO))
theorem tabS_ok : OrcOk Tryz.prog GM tabS := orcOr_ok (orc1_ok index_orc) (orcOr_ok (orc1_ok hex_orc) (orc1_ok split_orc))
def runS (m : Int) (f : FuncId) (args : List Value) : Option (Value × Go.Ab.St) := callQ tabS Tryz.prog GM 100000 100 f args (st1 2 [.int .i64 m])
end
end Go.Proofs.YtmbeoehgpffneaaGreatDoor
