/- NativeKnown: pieces of the run of its example. -/
import Derived.Test.YtddbpleocbpjdaaGreatDoorRows
import Derived.Test.YtddbpleocbpjdaaGreatDoorNativeKnownKS0
namespace Go.Proofs.YtddbpleocbpjdaaGreatDoor.nativeKnown.k
open Go.Ab
set_option maxRecDepth 1000000 in
theorem m1_p0 : chunkL Tryz.prog noG (callM [] T Tryz.prog noG 100000 100) 100000 300 [.go 4, .openR, .op 6, .enter, .go 8, .openR, .op 1, .enter, .go 270] m1_0 m1_1 = true := by kernel_rfl
set_option maxRecDepth 1000000 in
theorem m1_p1 : chunkL Tryz.prog noG (callM [] T Tryz.prog noG 100000 100) 100000 300 [.go 337] m1_1 m1_2 = true := by kernel_rfl
set_option maxRecDepth 1000000 in
theorem m1_p2 : chunkL Tryz.prog noG (callM [] T Tryz.prog noG 100000 100) 100000 300 [.go 493] m1_2 m1_3 = true := by kernel_rfl
set_option maxRecDepth 1000000 in
theorem m1_p3 : lastM Tryz.prog noG (callM [] T Tryz.prog noG 100000 100) 100000 300 [.go 218, .ret, .op 2, .close, .go 301, .ret, .op 10, .close, .go 75] m1_3 m1.v m1.s' = true := by kernel_rfl
set_option maxRecDepth 1000000 in
theorem m0_p0 : chunkL Tryz.prog noG (callM [] T Tryz.prog noG 100000 100) 100000 139 [.go 8, .openR, .op 1, .enter, .go 282] m0_0 m0_1 = true := by kernel_rfl
end Go.Proofs.YtddbpleocbpjdaaGreatDoor.nativeKnown.k
