/- BuildKnown: pieces of the run. -/
import Derived.Test.YtjjomjphdbadlaaGreatDoorRows
import Derived.Test.YtjjomjphdbadlaaGreatDoorBuildKnownS0
namespace Go.Proofs.YtjjomjphdbadlaaGreatDoor.buildKnown
open Go.Ab
set_option maxRecDepth 1000000 in
theorem c_p2 : lastB Tryz.prog noG (callM [] T Tryz.prog noG 100000 100) 100000 [.go 3, .ret, .op 6, .close, .go 18, .ret, .op 7, .close, .go 2] c_2 = true := by kernel_rfl
end Go.Proofs.YtjjomjphdbadlaaGreatDoor.buildKnown
