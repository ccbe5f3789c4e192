/- The example that TwinAlike calls first: the closed call, evaluated by the kernel, answers true in any world. -/
import Derived.Test.YtbigfaomhfmpkaaGreatDoorRows
import Derived.Test.YtbigfaomhfmpkaaGreatDoorA22
namespace Go.Proofs.YtbigfaomhfmpkaaGreatDoor.twinAlike
open Go.Vc
theorem mixed : Tryz.prog.follows .mixedOrders = true := by kernel_rfl
set_option maxRecDepth 1000000 in
theorem knownRuns : Go.Ab.okTrue (Go.Ab.callE Tryz.prog Go.Ab.noG 100000 100 4 [] ⟨0, .e⟩) = true := by kernel_rfl
theorem knownOk (W : World) : callD Tryz.prog 4 #[] W fun v w' => v = .bool true ∧ Ext W w' := Go.Ab.closed_true mixed knownRuns W
end Go.Proofs.YtbigfaomhfmpkaaGreatDoor.twinAlike
