/- BuildKnown: pieces of the run. -/
import Derived.Test.YtjjomjphdbadlaaGreatDoorRows
import Derived.Test.YtjjomjphdbadlaaGreatDoorBuildKnownS0
namespace Go.Proofs.YtjjomjphdbadlaaGreatDoor.buildKnown
open Go.Ab
set_option maxRecDepth 1000000 in
theorem c_p1 : chunkB Tryz.prog noG (callM [m0] T Tryz.prog noG 100000 100) 100000 [.go 7] c_1 c_2 = true := by kernel_rfl
end Go.Proofs.YtjjomjphdbadlaaGreatDoor.buildKnown
