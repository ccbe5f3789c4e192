/- The example that InterpCalls calls first: the closed call, evaluated by the kernel, answers true in any world. -/
import Derived.Test.YtodgkhbfpdfdiaaRows
import Derived.Test.YtodgkhbfpdfdiaaA22
namespace Go.Proofs.Ytodgkhbfpdfdiaa.interpCalls
open Go.Vc
theorem mixed : Try.prog.follows .mixedOrders = true := by kernel_rfl
set_option maxRecDepth 1000000 in
theorem knownRuns : Go.Ab.okTrue (Go.Ab.callE Try.prog Go.Ab.noG 100000 100 7 [] ⟨0, .e⟩) = true := by kernel_rfl
theorem knownOk (W : World) : callD Try.prog 7 #[] W fun v w' => v = .bool true ∧ Ext W w' := Go.Ab.closed_true mixed knownRuns W
end Go.Proofs.Ytodgkhbfpdfdiaa.interpCalls
