/- BuildKnown: pieces of the run. -/
import Derived.Test.YtjjomjphdbadlaaGreatDoorRows
import Derived.Test.YtjjomjphdbadlaaGreatDoorBuildKnownS0
namespace Go.Proofs.YtjjomjphdbadlaaGreatDoor.buildKnown
open Go.Ab
set_option maxRecDepth 1000000 in
theorem c_p0 : chunkB Tryz.prog noG (callM [] T Tryz.prog noG 100000 100) 100000 [.go 13, .openR, .op 1, .enter, .go 32, .openR, .op 4, .enter, .go 5] c_0 c_1 = true := by kernel_rfl
end Go.Proofs.YtjjomjphdbadlaaGreatDoor.buildKnown
