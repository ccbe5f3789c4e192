/- NativeKnown: pieces of the run of its example. -/
import Derived.Test.YtddbpleocbpjdaaGreatDoorRows
import Derived.Test.YtddbpleocbpjdaaGreatDoorNativeKnownKS0
namespace Go.Proofs.YtddbpleocbpjdaaGreatDoor.nativeKnown.k
open Go.Ab
set_option maxRecDepth 1000000 in
theorem c_p7 : chunkB Tryz.prog noG (callM [] T Tryz.prog noG 100000 100) 100000 [.go 99] c_7 c_8 = true := by kernel_rfl
set_option maxRecDepth 1000000 in
theorem c_p8 : chunkB Tryz.prog noG (callM [] T Tryz.prog noG 100000 100) 100000 [.go 99] c_8 c_9 = true := by kernel_rfl
set_option maxRecDepth 1000000 in
theorem c_p9 : lastB Tryz.prog noG (callM [] T Tryz.prog noG 100000 100) 100000 [.go 55, .ret, .close, .go 2, .ret, .op 5, .close, .go 2] c_9 = true := by kernel_rfl
end Go.Proofs.YtddbpleocbpjdaaGreatDoor.nativeKnown.k
