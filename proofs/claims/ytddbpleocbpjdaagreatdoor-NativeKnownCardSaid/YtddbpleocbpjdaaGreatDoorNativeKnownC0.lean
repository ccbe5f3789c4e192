/- NativeKnown: pieces of the run. -/
import Derived.Test.YtddbpleocbpjdaaGreatDoorRows
import Derived.Test.YtddbpleocbpjdaaGreatDoorNativeKnownS1
namespace Go.Proofs.YtddbpleocbpjdaaGreatDoor.nativeKnown
open Go.Ab
set_option maxRecDepth 1000000 in
theorem m1_p0 : chunkL Tryz.prog noG (callM [] T Tryz.prog noG 100000 100) 100000 892 [.go 4, .openR, .op 6, .enter, .go 8, .openR, .op 1, .enter, .go 250] m1_0 m1_1 = true := by kernel_rfl
set_option maxRecDepth 1000000 in
theorem m1_p1 : chunkL Tryz.prog noG (callM [] T Tryz.prog noG 100000 100) 100000 892 [.go 17] m1_1 m1_2 = true := by kernel_rfl
set_option maxRecDepth 1000000 in
theorem m1_p2 : chunkL Tryz.prog noG (callM [] T Tryz.prog noG 100000 100) 100000 892 [.go 23] m1_2 m1_3 = true := by kernel_rfl
set_option maxRecDepth 1000000 in
theorem m1_p3 : chunkL Tryz.prog noG (callM [] T Tryz.prog noG 100000 100) 100000 892 [.go 542] m1_3 m1_4 = true := by kernel_rfl
set_option maxRecDepth 1000000 in
theorem m1_p4 : chunkL Tryz.prog noG (callM [] T Tryz.prog noG 100000 100) 100000 892 [.go 595] m1_4 m1_5 = true := by kernel_rfl
end Go.Proofs.YtddbpleocbpjdaaGreatDoor.nativeKnown
