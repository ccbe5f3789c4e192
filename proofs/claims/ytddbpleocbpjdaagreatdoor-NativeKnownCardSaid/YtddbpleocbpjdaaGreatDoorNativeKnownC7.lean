/- NativeKnown: pieces of the run. -/
import Derived.Test.YtddbpleocbpjdaaGreatDoorRows
import Derived.Test.YtddbpleocbpjdaaGreatDoorNativeKnownS1
namespace Go.Proofs.YtddbpleocbpjdaaGreatDoor.nativeKnown
open Go.Ab
set_option maxRecDepth 1000000 in
theorem m2_p8 : lastM Tryz.prog noG (callM [] T Tryz.prog noG 100000 100) 100000 7213 [.go 70] m2_8 m2.v m2.s' = true := by kernel_rfl
set_option maxRecDepth 1000000 in
theorem m5_p0 : chunkL Tryz.prog noG (callM [] T Tryz.prog noG 100000 100) 100000 12961 [.go 4, .openR, .op 6, .enter, .go 8, .openR, .op 1, .enter, .go 290] m5_0 m5_1 = true := by kernel_rfl
set_option maxRecDepth 1000000 in
theorem m5_p1 : chunkL Tryz.prog noG (callM [] T Tryz.prog noG 100000 100) 100000 12961 [.go 538] m5_1 m5_2 = true := by kernel_rfl
set_option maxRecDepth 1000000 in
theorem m5_p2 : chunkL Tryz.prog noG (callM [] T Tryz.prog noG 100000 100) 100000 12961 [.go 595] m5_2 m5_3 = true := by kernel_rfl
set_option maxRecDepth 1000000 in
theorem m5_p3 : chunkL Tryz.prog noG (callM [] T Tryz.prog noG 100000 100) 100000 12961 [.go 423, .ret, .op 2, .close, .go 301, .ret, .op 10, .close, .go 79] m5_3 m5_4 = true := by kernel_rfl
end Go.Proofs.YtddbpleocbpjdaaGreatDoor.nativeKnown
