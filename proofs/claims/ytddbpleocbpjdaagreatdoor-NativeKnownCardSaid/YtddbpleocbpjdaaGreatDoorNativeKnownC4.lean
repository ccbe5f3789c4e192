/- NativeKnown: pieces of the run. -/
import Derived.Test.YtddbpleocbpjdaaGreatDoorRows
import Derived.Test.YtddbpleocbpjdaaGreatDoorNativeKnownS1
namespace Go.Proofs.YtddbpleocbpjdaaGreatDoor.nativeKnown
open Go.Ab
set_option maxRecDepth 1000000 in
theorem m3_p2 : chunkL Tryz.prog noG (callM [] T Tryz.prog noG 100000 100) 100000 7610 [.go 94] m3_2 m3_3 = true := by kernel_rfl
set_option maxRecDepth 1000000 in
theorem m3_p3 : chunkL Tryz.prog noG (callM [] T Tryz.prog noG 100000 100) 100000 7610 [.go 596] m3_3 m3_4 = true := by kernel_rfl
set_option maxRecDepth 1000000 in
theorem m3_p4 : chunkL Tryz.prog noG (callM [] T Tryz.prog noG 100000 100) 100000 7610 [.go 593] m3_4 m3_5 = true := by kernel_rfl
set_option maxRecDepth 1000000 in
theorem m3_p5 : chunkL Tryz.prog noG (callM [] T Tryz.prog noG 100000 100) 100000 7610 [.go 585] m3_5 m3_6 = true := by kernel_rfl
set_option maxRecDepth 1000000 in
theorem m3_p6 : chunkL Tryz.prog noG (callM [] T Tryz.prog noG 100000 100) 100000 7610 [.go 540] m3_6 m3_7 = true := by kernel_rfl
end Go.Proofs.YtddbpleocbpjdaaGreatDoor.nativeKnown
