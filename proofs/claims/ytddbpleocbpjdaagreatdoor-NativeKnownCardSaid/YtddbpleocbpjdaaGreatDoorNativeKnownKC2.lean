/- NativeKnown: pieces of the run of its example. -/
import Derived.Test.YtddbpleocbpjdaaGreatDoorRows
import Derived.Test.YtddbpleocbpjdaaGreatDoorNativeKnownKS0
namespace Go.Proofs.YtddbpleocbpjdaaGreatDoor.nativeKnown.k
open Go.Ab
set_option maxRecDepth 1000000 in
theorem c_p2 : chunkB Tryz.prog noG (callM [] T Tryz.prog noG 100000 100) 100000 [.go 99] c_2 c_3 = true := by kernel_rfl
set_option maxRecDepth 1000000 in
theorem c_p3 : chunkB Tryz.prog noG (callM [] T Tryz.prog noG 100000 100) 100000 [.go 99] c_3 c_4 = true := by kernel_rfl
set_option maxRecDepth 1000000 in
theorem c_p4 : chunkB Tryz.prog noG (callM [] T Tryz.prog noG 100000 100) 100000 [.go 99] c_4 c_5 = true := by kernel_rfl
set_option maxRecDepth 1000000 in
theorem c_p5 : chunkB Tryz.prog noG (callM [] T Tryz.prog noG 100000 100) 100000 [.go 99] c_5 c_6 = true := by kernel_rfl
set_option maxRecDepth 1000000 in
theorem c_p6 : chunkB Tryz.prog noG (callM [] T Tryz.prog noG 100000 100) 100000 [.go 99] c_6 c_7 = true := by kernel_rfl
end Go.Proofs.YtddbpleocbpjdaaGreatDoor.nativeKnown.k
