/- ScriptParses: the card, out of the run and of the row's closed facts. Began as the skeleton that the seat's proof-skeleton prints. -/
import Derived.Test.YthblbcjgdbaonaaGreatDoorScriptParsesR
import Derived.Test.YthblbcjgdbaonaaGreatDoorScriptParsesQ
namespace Go.Proofs.YthblbcjgdbaonaaGreatDoor.scriptParses
open Go.ChangeShapes Go.WideShapes Go.ChangeAt Go.RowKit Go.Vc
set_option linter.unusedVariables false
theorem closed : joinedFacts Tryz.prog 4 Tryz.f4 Rows.scriptParsesSpec Rows.scriptParsesUptoRow = true := by
  have h1 := k1; have h3 := k3; have h4 := k4; have h9 := k9; have h10 := k10; have h11 := k11; have h12 := k12; have h14 := k14; have h16 := k16; have h17 := k17
  rw [Bool.and_eq_true] at h1 h3 h10 h11 h12 h14 h16 h17
  rw [Bool.and_eq_true, Bool.and_eq_true, Bool.and_eq_true] at h4
  rw [Bool.and_eq_true, Bool.and_eq_true] at h9
  unfold joinedFacts
  rw [h1.1, h1.2, k2, h3.1, h3.2, h4.1.1.1, h4.1.1.2, h4.1.2, h4.2, k5, k6, k7, k8, h9.1.1, h9.1.2, h9.2, h10.1, h10.2, h11.1, h11.2, h12.1, h12.2, k13, h14.1, h14.2, k15, h16.1, h16.2, h17.2, k18, k19]
  simp only [Bool.true_and, Bool.and_true]
  rw [if_pos (show Rows.scriptParsesUptoRow.domain.isEmpty = true from rfl)]
  rfl
theorem notInst : Tryz.f4.isInstance Tryz.prog Rows.scriptParsesUptoRow.origin Rows.scriptParsesUptoRow.targs := of_decide_eq_true (by kernel_rfl)
theorem notWrap : Tryz.f4.isWrapper Tryz.prog Rows.scriptParsesUptoRow.wrapper Rows.scriptParsesUptoRow.mainSum := by unfold Func.isWrapper; first | (rw [if_pos (by decide +kernel)]; kernel_rfl) | (rw [if_neg (by decide +kernel)]; exact ⟨rfl, rfl⟩)
theorem fnNamed : Tryz.pinned.checked.prog.funcNamed Rows.scriptParsesUptoRow.func = some 4 := by kernel_rfl
set_option maxRecDepth 100000 in
theorem over : Rows.scriptParsesUptoRow.holds Tryz.pinned (Rows.OpenSpec.upto Rows.scriptParsesSpec) :=
  OpenClaim.holds_of_cond 4 Tryz.f4 rfl rfl rfl rfl rfl rfl rfl ⟨rfl, rfl, rfl, rfl, rfl⟩ rfl rfl rfl rfl rfl fnNamed Tryz.func4 closed notInst notWrap (fun os started H enc _ F => by rw [OpenClaim.pre_eq_preRow]; exact lifted os started H enc F)
theorem byText : Rows.scriptParsesUptoRow.wfByText (Rows.OpenSpec.upto Rows.scriptParsesSpec) = true := by kernel_rfl
theorem looksNone : true = Tryz.pinned.checked.prog.looks [] := by kernel_rfl

theorem noStand : (Tryz.f4.params.toList.all fun u => !Tryz.prog.wantsStandIn u) = true := by kernel_rfl
/-- ████ THE STATEMENT ████ -/
theorem proved : Rows.ScriptParsesUptoCardSaid :=
  Claim7.holds_tied_plain_at .later [] [.data, .data, .data, .data, .data, .pinned] true (true, "01682e66d1ad346459c9fd38ccb17fb6a8c19723e6197352676ece369a2cc37d") true over (fun _ h => by cases h) byText (fun _ h => by cases h) scriptParsesUpto_row_tie rfl ⟨rfl, rfl⟩ (by kernel_rfl) rfl
    (fun f fn hf hfn => by
      obtain rfl : f = 4 := Option.some.inj (fnNamed.symm.trans hf) |>.symm
      obtain rfl : fn = Tryz.f4 := (Option.some.inj (Tryz.func4.symm.trans hfn)).symm
      exact ⟨looksNone, fun j t ht => by
        have hm : t ∈ Tryz.f4.params.toList := by simpa using Array.mem_of_getElem? ht
        exact (show Tryz.prog.wantsStandIn t = false by simpa using List.all_eq_true.1 noStand t hm)⟩)
    goesNone
end Go.Proofs.YthblbcjgdbaonaaGreatDoor.scriptParses
