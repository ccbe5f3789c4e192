/- NativeKnown: pieces of the run. -/
import Derived.Test.YtddbpleocbpjdaaGreatDoorRows
import Derived.Test.YtddbpleocbpjdaaGreatDoorNativeKnownS1
namespace Go.Proofs.YtddbpleocbpjdaaGreatDoor.nativeKnown
open Go.Ab
set_option maxRecDepth 1000000 in
theorem m0_p6 : chunkL Tryz.prog noG (callM [] T Tryz.prog noG 100000 100) 100000 448 [.go 598] m0_6 m0_7 = true := by kernel_rfl
set_option maxRecDepth 1000000 in
theorem m0_p7 : chunkL Tryz.prog noG (callM [] T Tryz.prog noG 100000 100) 100000 448 [.go 604] m0_7 m0_8 = true := by kernel_rfl
set_option maxRecDepth 1000000 in
theorem m0_p8 : lastM Tryz.prog noG (callM [] T Tryz.prog noG 100000 100) 100000 448 [.go 201, .ret, .op 2, .close, .go 483] m0_8 m0.v m0.s' = true := by kernel_rfl
set_option maxRecDepth 1000000 in
theorem m3_p0 : chunkL Tryz.prog noG (callM [] T Tryz.prog noG 100000 100) 100000 7610 [.go 4, .openR, .op 6, .enter, .go 8, .openR, .op 1, .enter, .go 250] m3_0 m3_1 = true := by kernel_rfl
set_option maxRecDepth 1000000 in
theorem m3_p1 : chunkL Tryz.prog noG (callM [] T Tryz.prog noG 100000 100) 100000 7610 [.go 20] m3_1 m3_2 = true := by kernel_rfl
end Go.Proofs.YtddbpleocbpjdaaGreatDoor.nativeKnown
