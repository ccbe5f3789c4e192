/- The example that PlaceKnown calls first: the closed call, evaluated by the kernel, answers true in any world. -/
import Derived.Test.YtmhplplopdgfbaaRows
import Derived.Test.YtmhplplopdgfbaaA22
namespace Go.Proofs.Ytmhplplopdgfbaa.placeKnown
open Go.Vc
theorem mixed : Try.prog.follows .mixedOrders = true := by kernel_rfl
set_option maxRecDepth 1000000 in
theorem knownRuns : Go.Ab.okTrue (Go.Ab.callE Try.prog Go.Ab.noG 100000 100 17 [] ⟨0, .e⟩) = true := by kernel_rfl
theorem knownOk (W : World) : callD Try.prog 17 #[] W fun v w' => v = .bool true ∧ Ext W w' := Go.Ab.closed_true mixed knownRuns W
end Go.Proofs.Ytmhplplopdgfbaa.placeKnown
