/- LiftMeans: the card, out of the run and of the row's closed facts. Began as the skeleton that the seat's proof-skeleton prints. -/
import Derived.Test.YtgkkecladbmjkaaGreatDoorLiftMeansR
namespace Go.Proofs.YtgkkecladbmjkaaGreatDoor.liftMeans
open Go.ChangeShapes Go.WideShapes Go.ChangeAt Go.RowKit Go.Vc
set_option linter.unusedVariables false
theorem closed : joinedFacts Tryz.prog 7 Tryz.f7 Rows.liftMeansSpec Rows.liftMeansRow = true := by
  have h1 := k1; have h3 := k3; have h4 := k4; have h9 := k9; have h10 := k10; have h11 := k11; have h12 := k12; have h14 := k14; have h16 := k16; have h17 := k17
  rw [Bool.and_eq_true] at h1 h3 h10 h11 h12 h14 h16 h17
  rw [Bool.and_eq_true, Bool.and_eq_true, Bool.and_eq_true] at h4
  rw [Bool.and_eq_true, Bool.and_eq_true] at h9
  unfold joinedFacts
  rw [h1.1, h1.2, k2, h3.1, h3.2, h4.1.1.1, h4.1.1.2, h4.1.2, h4.2, k5, k6, k7, k8, h9.1.1, h9.1.2, h9.2, h10.1, h10.2, h11.1, h11.2, h12.1, h12.2, k13, h14.1, h14.2, k15, h16.1, h16.2, h17.2, k18, k19]
  simp only [Bool.true_and, Bool.and_true]
  rw [if_pos (show Rows.liftMeansRow.domain.isEmpty = true from rfl)]
  rfl
theorem aBx : Tryz.f7.isInstance Tryz.prog Rows.liftMeansRow.origin Rows.liftMeansRow.targs := of_decide_eq_true (by kernel_rfl)
theorem aBw : Tryz.f7.isWrapper Tryz.prog Rows.liftMeansRow.wrapper Rows.liftMeansRow.mainSum := by unfold Func.isWrapper; first | (rw [if_pos (by decide +kernel)]; kernel_rfl) | (rw [if_neg (by decide +kernel)]; exact ⟨rfl, rfl⟩)
theorem QD : Tryz.pinned.checked.prog.funcNamed Rows.liftMeansRow.func = some 7 := by kernel_rfl
theorem over : Rows.liftMeansRow.holds Tryz.pinned (OpenSpec.ofChange Rows.liftMeansSpec) :=
  OpenClaim.holds_of_wide 7 Tryz.f7 rfl rfl rfl rfl rfl rfl rfl ⟨rfl, rfl, rfl, rfl, rfl⟩ rfl rfl rfl rfl rfl QD Tryz.func7 closed aBx aBw (fun os started H enc _ => lifted os started H enc)
theorem aMy : Rows.liftMeansRow.wfByText (OpenSpec.ofChange Rows.liftMeansSpec) = true := by kernel_rfl
theorem TK : true = Tryz.pinned.checked.prog.looks [] := by kernel_rfl
theorem YH : false = Rows.liftMeansRow.goesBy Tryz.pinned.checked.prog := by kernel_rfl

theorem aBy : (Tryz.f7.params.toList.all fun u => !Tryz.prog.wantsStandIn u) = true := by kernel_rfl
/-- ████ THE STATEMENT ████ -/
theorem proved : Rows.LiftMeansCardSaid :=
  Claim7.holds_tied_plain_at .later [] [.data, .pinned] true (true, "1b2bcc09d7af05ffd6e54d335f29d9ebc7b6ab55976fa95ff07bf7303874c3e9") true over (fun _ h => by cases h) aMy (fun _ h => by cases h) liftMeans_row_tie rfl ⟨rfl, rfl⟩ (by kernel_rfl) rfl
    (fun f fn hf hfn => by
      obtain rfl : f = 7 := Option.some.inj (QD.symm.trans hf) |>.symm
      obtain rfl : fn = Tryz.f7 := (Option.some.inj (Tryz.func7.symm.trans hfn)).symm
      exact ⟨TK, fun j t ht => by
        have hm : t ∈ Tryz.f7.params.toList := by simpa using Array.mem_of_getElem? ht
        exact (show Tryz.prog.wantsStandIn t = false by simpa using List.all_eq_true.1 aBy t hm)⟩)
    YH
end Go.Proofs.YtgkkecladbmjkaaGreatDoor.liftMeans
