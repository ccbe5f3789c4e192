/- NativeKnown: pieces of the run. -/
import Derived.Test.YtddbpleocbpjdaaGreatDoorRows
import Derived.Test.YtddbpleocbpjdaaGreatDoorNativeKnownS1
namespace Go.Proofs.YtddbpleocbpjdaaGreatDoor.nativeKnown
open Go.Ab
set_option maxRecDepth 1000000 in
theorem m1_p5 : chunkL Tryz.prog noG (callM [] T Tryz.prog noG 100000 100) 100000 892 [.go 597] m1_5 m1_6 = true := by kernel_rfl
set_option maxRecDepth 1000000 in
theorem m1_p6 : chunkL Tryz.prog noG (callM [] T Tryz.prog noG 100000 100) 100000 892 [.go 597] m1_6 m1_7 = true := by kernel_rfl
set_option maxRecDepth 1000000 in
theorem m1_p7 : chunkL Tryz.prog noG (callM [] T Tryz.prog noG 100000 100) 100000 892 [.go 603] m1_7 m1_8 = true := by kernel_rfl
set_option maxRecDepth 1000000 in
theorem m1_p8 : lastM Tryz.prog noG (callM [] T Tryz.prog noG 100000 100) 100000 892 [.go 206, .ret, .op 2, .close, .go 301, .ret, .op 10, .close, .go 195] m1_8 m1.v m1.s' = true := by kernel_rfl
set_option maxRecDepth 1000000 in
theorem m0_p0 : chunkL Tryz.prog noG (callM [] T Tryz.prog noG 100000 100) 100000 448 [.go 8, .openR, .op 1, .enter, .go 250] m0_0 m0_1 = true := by kernel_rfl
end Go.Proofs.YtddbpleocbpjdaaGreatDoor.nativeKnown
