/- Script: the library's calls, and hex, as a table for the evaluator. -/
import Derived.Test.YtmbeoehgpffneaaGreatDoorSc1
namespace Go.Ab
noncomputable section
open Go.Vc (callD Ext Seg)
def natsOf : List Value → Option (List Nat)
  | [] => some []
  | v :: l => match v with
    | .int .u8 (.ofNat k) => match Nat.blt k 256 with
      | true => match natsOf l with | some m => some (k :: m) | none => none
      | false => none
    | _ => none
theorem natsOf_eq : ∀ {l : List Value} {m : List Nat}, natsOf l = some m → l = m.map (fun b : Nat => Value.int .u8 (b : Int)) ∧ ∀ b ∈ m, b < 256
  | [], m, h => by
    cases h
    exact ⟨rfl, fun b hb => by cases hb⟩
  | v :: l, m, h => by
    unfold natsOf at h
    split at h <;> try (cases h; done)
    rename_i k
    split at h <;> try (cases h; done)
    rename_i hk
    split at h <;> try (cases h; done)
    rename_i m' hm
    cases h
    obtain ⟨e, hb⟩ := natsOf_eq hm
    have hk' : k < 256 := by simpa [Nat.blt_eq] using hk
    refine ⟨by rw [e]; rfl, fun b hb' => ?_⟩
    rcases List.mem_cons.1 hb' with rfl | hb'
    · exact hk'
    · exact hb b hb'
end
end Go.Ab
namespace Go.Proofs.YtmbeoehgpffneaaGreatDoor
open Go.Vc Go.Ab
noncomputable section
abbrev GM : Nat → Bool := G1 2
/-- strings.IndexByte. -/
def indexA (args : List Value) : Option Value := match args with
  | [.string s, .int .u8 c] => some (.int .i64 (Lib.indexByte s.data.toList c.toNat.toUInt8))
  | _ => none
theorem e_ib : ∀ args w, (callFunc 51 args).run Tryz.prog w = .ok (.enter 51 args) w := enters_of lays137.f137 (by kernel_rfl) rfl
theorem e_sp : ∀ args w, (callFunc 9 args).run Tryz.prog w = .ok (.enter 9 args) w := enters_of lays146.f146 (by kernel_rfl) rfl
theorem index_orc : OrcOk1 Tryz.prog GM 51 (orcP indexA) := orcP_ok fun β args args' v hv hl w => by
  unfold indexA at hv
  split at hv <;> cases hv
  rename_i s c
  obtain ⟨x, l1, e1, hx, hl1⟩ := hl.inv
  obtain ⟨y, l2, rfl, hy, hl2⟩ := hl1.inv
  have := hl2.inv_nil
  subst this
  cases hx
  cases hy
  have : args' = #[.string s, .int .u8 c] := Array.toList_inj.1 e1
  subst this
  exact ⟨e_ib, (sIndexByte s c w).mono fun e w' ⟨he, hw⟩ => ⟨_, he, .int _ _, by rw [hw]; exact Ext.refl _⟩⟩
/-- hex. -/
def hexO : Orc := fun args s => match args with
  | [.slice none 0 0] => some (.string (hexB []), s)
  | [.slice (some ⟨b, o, none⟩) len 1] => match objL s b with
    | some cells => match natsOf ((cells.drop o).take len) with
      | some l => match Nat.beq l.length len && Nat.blt 0 len && Nat.blt len 10000 with
        | true => some (.string (hexB l), s)
        | false => none
      | none => none
    | none => none
  | _ => none
theorem hex_orc : OrcOk1 Tryz.prog GM 17 hexO := fun β s w args args' v s' hc hr hl => by
  unfold hexO at hc
  split at hc
  · cases hc
    obtain ⟨x, l1, e1, hx, hl1⟩ := hl.inv
    have := hl1.inv_nil
    subst this
    cases hx
    have : args' = #[.slice none 0 0] := Array.toList_inj.1 e1
    subst this
    exact Go.Ab.callD.mono' (hex_ok (l := []) (.inl ⟨rfl, rfl⟩) (fun b hb => by cases hb) (Nat.zero_le _)) fun v' w' ⟨h1, h2⟩ => ⟨β, hr.ext h2, by rw [h1]; exact .string _⟩
  · rename_i b o len
    split at hc <;> try (cases hc; done)
    rename_i cells hcells
    split at hc <;> try (cases hc; done)
    rename_i l hl'
    split at hc <;> cases hc
    rename_i hchk
    simp only [Bool.and_eq_true] at hchk
    have hlen : l.length = len := Nat.eq_of_beq_eq_true hchk.1.1
    have hpos : 0 < len := by simpa [Nat.blt_eq] using hchk.1.2
    have hmax : len < 10000 := by simpa [Nat.blt_eq] using hchk.2
    obtain ⟨x, l1, e1, hx, hl1⟩ := hl.inv
    have := hl1.inv_nil
    subst this
    obtain ⟨r, base, lim, cap, hb, rfl, _, _⟩ := RV.slice_inv (hr.gone hcells) hx hpos
    obtain ⟨l', hseg, hrl⟩ := hr.seg hb hcells
    obtain ⟨ecells, hb256⟩ := natsOf_eq hl'
    have hle : o + len ≤ cells.length := by
      have h1 := congrArg List.length ecells
      simp at h1
      omega
    have hsub := hseg.sub (i := o) (n := len) (by rw [← hrl.1]; exact hle)
    have hcs : (l'.drop o).take len = l.map fun b : Nat => Value.int .u8 (b : Int) := by
      apply List.ext_getElem?
      intro j
      by_cases hj : j < len
      · have hu : ((cells.drop o).take len)[j]? = (l.map fun b : Nat => Value.int .u8 (b : Int))[j]? := by rw [ecells]
        rw [List.getElem?_take, if_pos hj, List.getElem?_drop] at hu
        rw [List.getElem?_take, if_pos hj, List.getElem?_drop]
        obtain ⟨u, hu'⟩ : ∃ u, l[j]? = some u := ⟨_, List.getElem?_eq_getElem (by omega)⟩
        rw [List.getElem?_map, hu'] at hu ⊢
        obtain ⟨v', h1, h2⟩ := hrl.get (show cells[o + j]? = some (.int .u8 (u : Int)) from hu)
        rw [h1, RV.int_inv' h2]
        rfl
      · rw [List.getElem?_take, if_neg hj, List.getElem?_eq_none (by simp; omega)]
    rw [hcs] at hsub
    have : args' = #[.slice (some ⟨r, base + o, none⟩) len cap] := Array.toList_inj.1 e1
    subst this
    exact Go.Ab.callD.mono' (hex_ok (l := l) (.inr ⟨r, base + o, cap, by rw [hlen], hsub⟩) hb256 (by omega)) fun v' w' ⟨h1, h2⟩ => ⟨β, hr.ext h2, by rw [h1]; exact .string _⟩
  · cases hc
end
end Go.Proofs.YtmbeoehgpffneaaGreatDoor
