/- NativeKnown: pieces of the run. -/
import Derived.Test.YtddbpleocbpjdaaGreatDoorRows
import Derived.Test.YtddbpleocbpjdaaGreatDoorNativeKnownS1
namespace Go.Proofs.YtddbpleocbpjdaaGreatDoor.nativeKnown
open Go.Ab
set_option maxRecDepth 1000000 in
theorem m0_p1 : chunkL Tryz.prog noG (callM [] T Tryz.prog noG 100000 100) 100000 448 [.go 17] m0_1 m0_2 = true := by kernel_rfl
set_option maxRecDepth 1000000 in
theorem m0_p2 : chunkL Tryz.prog noG (callM [] T Tryz.prog noG 100000 100) 100000 448 [.go 23] m0_2 m0_3 = true := by kernel_rfl
set_option maxRecDepth 1000000 in
theorem m0_p3 : chunkL Tryz.prog noG (callM [] T Tryz.prog noG 100000 100) 100000 448 [.go 543] m0_3 m0_4 = true := by kernel_rfl
set_option maxRecDepth 1000000 in
theorem m0_p4 : chunkL Tryz.prog noG (callM [] T Tryz.prog noG 100000 100) 100000 448 [.go 596] m0_4 m0_5 = true := by kernel_rfl
set_option maxRecDepth 1000000 in
theorem m0_p5 : chunkL Tryz.prog noG (callM [] T Tryz.prog noG 100000 100) 100000 448 [.go 598] m0_5 m0_6 = true := by kernel_rfl
end Go.Proofs.YtddbpleocbpjdaaGreatDoor.nativeKnown
