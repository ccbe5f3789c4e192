/- Script: ScriptKnown, run. -/
import Derived.Test.YtmbeoehgpffneaaGreatDoorSc5
namespace Go.Proofs.YtmbeoehgpffneaaGreatDoor
open Go.Vc Go.Ab
noncomputable section
theorem holds_of_cell {w : World} {v : Value} (h : w.cell? ⟨2, 0, none⟩ = some v) : HoldsAt w 2 [v] := by
  unfold World.cell? at h
  simp only at h
  split at h
  · rename_i c e fz hh
    exact ⟨c, e, fz, hh, fun i u hi => by
      cases i with
      | zero => simp at hi; subst hi; exact h
      | succ i => simp at hi⟩
  · cases h
theorem r_eqStr {P : Program} {w : World} {s : TypeId} {x y : Operand} {a b : ByteArray} :
    (do eqGuard .eql s x y (.string a) (.string b); binOp .eql s (.string a) (.string b)).run P w = .ok (.bool (a.toList == b.toList)) w := by
  simp [eqGuard, binOp, Op.stringOp]
set_option maxHeartbeats 1600000 in
/-- A text of too many lines. -/
theorem runLong_ok {m : Int} {w : World} {t : ByteArray} (h : HM m w) (hs : t.size < 1000000) (hc : 401 ≤ Lib.countB t ⟨#[10]⟩) : callD Tryz.prog 4 #[i64 200, i64 0, .string t] w fun r w' => r = .tuple #[.string ⟨#[]⟩, i64 0, i64 6] ∧ Ext w w' := by
  have hle := Lib.countB_le ⟨#[10]⟩ (show 1 ≤ (⟨#[10]⟩ : ByteArray).size by decide) t.size t (Nat.le_refl _)
  have hlen := Lib.splitB_all ⟨#[10]⟩ (show 1 ≤ (⟨#[10]⟩ : ByteArray).size by decide) 0 _ t rfl
  have hsp := sSplit t ⟨#[10]⟩ m w (by omega) h.cell (by decide)
  generalize hn : Lib.countB t ⟨#[10]⟩ = n at hc hle hlen hsp
  generalize hL : Lib.splitB ⟨#[10]⟩ 0 n t = L at hlen hsp
  apply F4_wp
  suffices key : ∀ R : Value → World → Prop, (∀ w', Ext w w' → R (.tuple #[.string ⟨#[]⟩, i64 0, i64 6]) w') → F4_den (i64 200) (i64 0) (.string t) w R from key _ fun w' hx => ⟨rfl, hx⟩
  intro R hR
  unfold F4_den
  refine callD.mono (R := fun v w' => v = .slice (some ⟨w.heap.size, 0, none⟩) (n + 1) (n + 1) ∧ Blk w' w.heap.size (L.map Value.string) 9 ∧ Ext w w') ⟨e_sp, hsp.mono fun e w' ⟨he, hw⟩ => by
    subst hw
    exact ⟨_, he, rfl, by unfold Blk; rw [heap_alloc_new], (Ext.refl _).alloc _⟩⟩ fun v w1 ⟨hv, hb1, x1⟩ => ?_
  subst hv
  refine ⟨fun v w' => (∃ k : Nat, 401 ≤ k ∧ v = .slice (some ⟨w.heap.size, 0, none⟩) k (n + 1)) ∧ w' = w1, ?_, ?_⟩
  · refine V_ln_36.2 (V_sub.2 ?_)
    rw [wrap_id (by omega) (by omega), show (((n + 1 : Nat) : Int) - 1) = ((n : Nat) : Int) by omega]
    obtain ⟨x, hx⟩ : ∃ x, L[n]? = some x := ⟨_, List.getElem?_eq_getElem (by omega)⟩
    refine ldS xa_36 l1_9 hb1.seg (by omega) (by omega) (u := .string x) (by rw [Int.toNat_natCast, List.getElem?_map, hx]; rfl) ?_
    refine V.ok r_eqStr ?_
    generalize (x.toList == _) = q
    cases q with
    | false => exact ifD_false.2 ⟨⟨n + 1, by omega, rfl⟩, rfl⟩
    | true =>
      refine ifD_true.2 (V_ln_36.2 (V_sub.2 ?_))
      rw [wrap_id (by omega) (by omega), show (((n + 1 : Nat) : Int) - 1) = ((n : Nat) : Int) by omega]
      refine V.ok (r_hi (k := n) Tryz.underlying36 inf9 (by omega)) ?_
      exact ⟨⟨n, hc, by rw [if_neg (by omega)]; simp [add_mk]⟩, rfl⟩
  rintro _ w' ⟨⟨k, hk, rfl⟩, hw⟩ _
  have hw := hw.symm; subst hw
  refine V_ln_36.2 (V_gtr.2 ?_)
  simp only [show ((k : Int) > 400) by omega, V_lss, V_leq, V_gtr, V_geq, V_eqlI, V_neqI, V_not, gd_t, gd_f, gd_tf, gd_ft, gd_undef, gdY_t, gdY_f, gdY_tf, gdY_ft, gdY_undef, pickD_iff, ifD_true, ifD_false, reduceIte, Bool.false_eq_true, Bool.not_true, Bool.not_false, decide_true, decide_false]
  exact hR _ x1
/-- Run, of chapter 27's example, and of too many lines. -/
def runO : Orc := fun args s => match args with
  | [.int .i64 a, .int .i64 b, .string t] => match rd s 2 0 with
    | some (.int .i64 _) => match eqI a 200 && eqI b 0 with
      | true => match Nat.ble 401 t.size with
        | true => match Nat.blt t.size 1000000 && Nat.ble 401 (Lib.countB t ⟨#[10]⟩) with
          | true => some (.tuple #[.string ⟨#[]⟩, .int .i64 0, .int .i64 6], s)
          | false => none
        | false => match (t.data.toList == sDesNl.data.toList) with
          | true => some (.tuple #[.string sAnsNl, .int .i64 0, .int .i64 0], s)
          | false => none
      | false => none
    | _ => none
  | _ => none
theorem rv_three {β : Beta} {a : ByteArray} {x y : Int} : RV β (.tuple #[.string a, .int .i64 x, .int .i64 y]) (.tuple #[.string a, .int .i64 x, .int .i64 y]) :=
  .tuple rfl fun i u u' h3 h4 => (RL.cons (.string _) (RL.cons (.int _ _) (RL.cons (.int _ _) .nil)) : RL β [.string a, .int .i64 x, .int .i64 y] [.string a, .int .i64 x, .int .i64 y]).2 i u u' (by simpa using h3) (by simpa using h4)
theorem run_orc : OrcOk1 Tryz.prog GM 4 runO := fun β s w args args' v s' hc hr hl => by
  unfold runO at hc
  split at hc <;> try (cases hc; done)
  rename_i a b t
  split at hc <;> try (cases hc; done)
  rename_i m hrd
  split at hc <;> try (cases hc; done)
  rename_i hab
  simp only [Bool.and_eq_true] at hab
  have ha : a = 200 := by have := hab.1; rw [eqI_eq] at this; simpa using this
  have hb : b = 0 := by have := hab.2; rw [eqI_eq] at this; simpa using this
  subst ha hb
  obtain ⟨lim, hg⟩ := hr.glob 2 rfl
  obtain ⟨v', hcell, hrv⟩ := hr.rd hg hrd
  obtain rfl := RV.int_inv' hrv
  obtain ⟨x, l1, e1, hx, hl1⟩ := hl.inv
  obtain ⟨y, l2, rfl, hy, hl2⟩ := hl1.inv
  obtain ⟨z, l3, rfl, hz, hl3⟩ := hl2.inv
  have := hl3.inv_nil
  subst this
  cases hx
  cases hy
  cases hz
  have : args' = #[.int .i64 200, .int .i64 0, .string t] := Array.toList_inj.1 e1
  subst this
  split at hc
  · split at hc <;> cases hc
    rename_i hchk
    simp only [Bool.and_eq_true] at hchk
    have h1 : t.size < 1000000 := by simpa [Nat.blt_eq] using hchk.1
    have h2 : 401 ≤ Lib.countB t ⟨#[10]⟩ := Nat.le_of_ble_eq_true hchk.2
    exact callD.mono' (runLong_ok (holds_of_cell hcell) h1 h2) fun v' w' ⟨h1, h2⟩ => ⟨β, hr.ext h2, by rw [h1]; exact rv_three⟩
  · split at hc <;> cases hc
    rename_i hchk
    have ht : t = sDesNl := by
      have := eq_of_beq hchk
      obtain ⟨⟨l⟩⟩ := t
      simp only at this
      subst this
      rfl
    subst ht
    exact callD.mono' (runK_ok (holds_of_cell hcell)) fun v' w' ⟨h1, h2⟩ => ⟨β, hr.ext h2, by rw [h1]; exact rv_three⟩
def tabR : FuncId → Option Orc := orcOr (orc1 4 runO) tabS
theorem tabR_ok : OrcOk Tryz.prog GM tabR := orcOr_ok (orc1_ok run_orc) tabS_ok
end
end Go.Proofs.YtmbeoehgpffneaaGreatDoor
