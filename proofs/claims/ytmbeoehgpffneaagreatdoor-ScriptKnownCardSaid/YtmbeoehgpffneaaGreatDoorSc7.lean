/- Script: ScriptKnown, run. -/
import Derived.Test.YtmbeoehgpffneaaGreatDoorSc6
namespace Go.Proofs.YtmbeoehgpffneaaGreatDoor
open Go.Vc Go.Ab
noncomputable section
set_option maxRecDepth 1000000 in
theorem whole (m : Int) : okTrue (callQ tabR Tryz.prog GM 100000 100 3 [] (stM m)) = true := by kernel_rfl
theorem script_ok {m : Int} {w : World} (h : HM m w) : callD Tryz.prog 3 #[] w fun v w' => v = .bool true ∧ Ext w w' := by
  have hk := whole m
  generalize hr : callQ tabR Tryz.prog GM 100000 100 3 [] (stM m) = r at hk
  unfold okTrue at hk
  split at hk <;> try (cases hk; done)
  exact callD.mono' (callQ_ok mixedS tabR_ok 100000 100 _ _ w _ [] #[] _ _ hr h.rel .nil) fun v' w' ⟨β', h1, h2⟩ => ⟨RV.bool_inv h2, ev_ext0 h1 rfl (Nat.lt_succ_self 2)⟩
end
end Go.Proofs.YtmbeoehgpffneaaGreatDoor
