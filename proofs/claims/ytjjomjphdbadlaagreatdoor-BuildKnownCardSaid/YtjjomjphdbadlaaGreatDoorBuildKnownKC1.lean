/- BuildKnown: pieces of the run of its example. -/
import Derived.Test.YtjjomjphdbadlaaGreatDoorRows
import Derived.Test.YtjjomjphdbadlaaGreatDoorBuildKnownKS0
namespace Go.Proofs.YtjjomjphdbadlaaGreatDoor.buildKnown.k
open Go.Ab
set_option maxRecDepth 1000000 in
theorem m0_p1 : lastM Tryz.prog noG (callM [] T Tryz.prog noG 100000 100) 100000 119 [.go 68] m0_1 m0.v m0.s' = true := by kernel_rfl
end Go.Proofs.YtjjomjphdbadlaaGreatDoor.buildKnown.k
