/- CardKnown: pieces of the run of its example. -/
import Derived.Test.YtddbpleocbpjdaaGreatDoorRows
import Derived.Test.YtddbpleocbpjdaaGreatDoorCardKnownKS0
namespace Go.Proofs.YtddbpleocbpjdaaGreatDoor.cardKnown.k
open Go.Ab
set_option maxRecDepth 1000000 in
theorem c_p0 : lastB Tryz.prog noG (callM [] T Tryz.prog noG 100000 100) 100000 [.go 6] c_0 = true := by kernel_rfl
end Go.Proofs.YtddbpleocbpjdaaGreatDoor.cardKnown.k
