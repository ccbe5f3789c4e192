/- BuildFits: the card, out of the run and of the row's closed facts. Began as the skeleton that the seat's proof-skeleton prints. -/
import Derived.Test.YtjcmcfidblhnnaaGreatDoorBuildFitsR
namespace Go.Proofs.YtjcmcfidblhnnaaGreatDoor.buildFits
open Go.ChangeShapes Go.WideShapes Go.ChangeAt Go.RowKit Go.Vc
set_option linter.unusedVariables false
theorem closed : joinedFacts Tryz.prog 6 Tryz.f6 Rows.buildFitsSpec Rows.buildFitsRow = true := by
  have h1 := k1; have h3 := k3; have h4 := k4; have h9 := k9; have h10 := k10; have h11 := k11; have h12 := k12; have h14 := k14; have h16 := k16; have h17 := k17
  rw [Bool.and_eq_true] at h1 h3 h10 h11 h12 h14 h16 h17
  rw [Bool.and_eq_true, Bool.and_eq_true, Bool.and_eq_true] at h4
  rw [Bool.and_eq_true, Bool.and_eq_true] at h9
  unfold joinedFacts
  rw [h1.1, h1.2, k2, h3.1, h3.2, h4.1.1.1, h4.1.1.2, h4.1.2, h4.2, k5, k6, k7, k8, h9.1.1, h9.1.2, h9.2, h10.1, h10.2, h11.1, h11.2, h12.1, h12.2, k13, h14.1, h14.2, k15, h16.1, h16.2, h17.2, k18, k19]
  simp only [Bool.true_and, Bool.and_true]
  rw [if_pos (show Rows.buildFitsRow.domain.isEmpty = true from rfl)]
  rfl
theorem aPz : Tryz.f6.isInstance Tryz.prog Rows.buildFitsRow.origin Rows.buildFitsRow.targs := of_decide_eq_true (by kernel_rfl)
theorem aPy : Tryz.f6.isWrapper Tryz.prog Rows.buildFitsRow.wrapper Rows.buildFitsRow.mainSum := by unfold Func.isWrapper; first | (rw [if_pos (by decide +kernel)]; kernel_rfl) | (rw [if_neg (by decide +kernel)]; exact ⟨rfl, rfl⟩)
theorem WY : Tryz.pinned.checked.prog.funcNamed Rows.buildFitsRow.func = some 6 := by kernel_rfl
theorem over : Rows.buildFitsRow.holds Tryz.pinned (OpenSpec.ofChange Rows.buildFitsSpec) :=
  OpenClaim.holds_of_wide 6 Tryz.f6 rfl rfl rfl rfl rfl rfl rfl ⟨rfl, rfl, rfl, rfl, rfl⟩ rfl rfl rfl rfl rfl WY Tryz.func6 closed aPz aPy (fun os started H enc _ => lifted os started H enc)
theorem bDs : Rows.buildFitsRow.wfByText (OpenSpec.ofChange Rows.buildFitsSpec) = true := by kernel_rfl
theorem aCj : true = Tryz.pinned.checked.prog.looks [] := by kernel_rfl
theorem aHv : false = Rows.buildFitsRow.goesBy Tryz.pinned.checked.prog := by kernel_rfl

theorem aQa : (Tryz.f6.params.toList.all fun u => !Tryz.prog.wantsStandIn u) = true := by kernel_rfl
/-- ████ THE STATEMENT ████ -/
theorem proved : Rows.BuildFitsCardSaid :=
  Claim7.holds_tied_plain_at .later [] [.data, .data, .pinned] true (true, "981c8e5249562039613e21ade6d0f645a980c125ed075cf058fde45f43bd153d") true over (fun _ h => by cases h) bDs (fun _ h => by cases h) buildFits_row_tie rfl ⟨rfl, rfl⟩ (by kernel_rfl) rfl
    (fun f fn hf hfn => by
      obtain rfl : f = 6 := Option.some.inj (WY.symm.trans hf) |>.symm
      obtain rfl : fn = Tryz.f6 := (Option.some.inj (Tryz.func6.symm.trans hfn)).symm
      exact ⟨aCj, fun j t ht => by
        have hm : t ∈ Tryz.f6.params.toList := by simpa using Array.mem_of_getElem? ht
        exact (show Tryz.prog.wantsStandIn t = false by simpa using List.all_eq_true.1 aQa t hm)⟩)
    aHv
end Go.Proofs.YtjcmcfidblhnnaaGreatDoor.buildFits
