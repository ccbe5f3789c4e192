/- NativeKnown: pieces of the run. -/
import Derived.Test.YtddbpleocbpjdaaGreatDoorRows
import Derived.Test.YtddbpleocbpjdaaGreatDoorNativeKnownS1
namespace Go.Proofs.YtddbpleocbpjdaaGreatDoor.nativeKnown
open Go.Ab
set_option maxRecDepth 1000000 in
theorem m3_p7 : chunkL Tryz.prog noG (callM [] T Tryz.prog noG 100000 100) 100000 7610 [.go 488, .ret, .op 2, .close, .go 300] m3_7 m3_8 = true := by kernel_rfl
set_option maxRecDepth 1000000 in
theorem m3_p8 : lastM Tryz.prog noG (callM [] T Tryz.prog noG 100000 100) 100000 7610 [.go 1, .ret, .op 10, .close, .go 180] m3_8 m3.v m3.s' = true := by kernel_rfl
set_option maxRecDepth 1000000 in
theorem m2_p0 : chunkL Tryz.prog noG (callM [] T Tryz.prog noG 100000 100) 100000 7213 [.go 8, .openR, .op 1, .enter, .go 250] m2_0 m2_1 = true := by kernel_rfl
set_option maxRecDepth 1000000 in
theorem m2_p1 : chunkL Tryz.prog noG (callM [] T Tryz.prog noG 100000 100) 100000 7213 [.go 20] m2_1 m2_2 = true := by kernel_rfl
set_option maxRecDepth 1000000 in
theorem m2_p2 : chunkL Tryz.prog noG (callM [] T Tryz.prog noG 100000 100) 100000 7213 [.go 94] m2_2 m2_3 = true := by kernel_rfl
end Go.Proofs.YtddbpleocbpjdaaGreatDoor.nativeKnown
