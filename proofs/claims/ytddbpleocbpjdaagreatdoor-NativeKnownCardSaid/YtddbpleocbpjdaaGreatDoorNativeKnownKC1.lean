/- NativeKnown: pieces of the run of its example. -/
import Derived.Test.YtddbpleocbpjdaaGreatDoorRows
import Derived.Test.YtddbpleocbpjdaaGreatDoorNativeKnownKS0
namespace Go.Proofs.YtddbpleocbpjdaaGreatDoor.nativeKnown.k
open Go.Ab
set_option maxRecDepth 1000000 in
theorem m0_p1 : chunkL Tryz.prog noG (callM [] T Tryz.prog noG 100000 100) 100000 139 [.go 434] m0_1 m0_2 = true := by kernel_rfl
set_option maxRecDepth 1000000 in
theorem m0_p2 : chunkL Tryz.prog noG (callM [] T Tryz.prog noG 100000 100) 100000 139 [.go 507] m0_2 m0_3 = true := by kernel_rfl
set_option maxRecDepth 1000000 in
theorem m0_p3 : lastM Tryz.prog noG (callM [] T Tryz.prog noG 100000 100) 100000 139 [.go 95, .ret, .op 2, .close, .go 483] m0_3 m0.v m0.s' = true := by kernel_rfl
set_option maxRecDepth 1000000 in
theorem c_p0 : chunkB Tryz.prog noG (callM [] T Tryz.prog noG 100000 100) 100000 [.go 3, .openR, .op 2, .enter, .go 7, .openR, .op 2, .enter, .go 20, .openR, .op 6, .enter, .go 32, .openR, .op 4, .enter, .go 5] c_0 c_1 = true := by kernel_rfl
set_option maxRecDepth 1000000 in
theorem c_p1 : chunkB Tryz.prog noG (callM [m1, m0] T Tryz.prog noG 100000 100) 100000 [.go 10, .ret, .op 6, .close, .go 18, .ret, .op 7, .close, .go 18, .ret, .op 5, .close, .go 15, .openR, .op 1, .enter, .go 30] c_1 c_2 = true := by kernel_rfl
end Go.Proofs.YtddbpleocbpjdaaGreatDoor.nativeKnown.k
