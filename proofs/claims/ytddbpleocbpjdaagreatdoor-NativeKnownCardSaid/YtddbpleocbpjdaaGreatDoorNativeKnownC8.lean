/- NativeKnown: pieces of the run. -/
import Derived.Test.YtddbpleocbpjdaaGreatDoorRows
import Derived.Test.YtddbpleocbpjdaaGreatDoorNativeKnownS1
namespace Go.Proofs.YtddbpleocbpjdaaGreatDoor.nativeKnown
open Go.Ab
set_option maxRecDepth 1000000 in
theorem m5_p4 : lastM Tryz.prog noG (callM [] T Tryz.prog noG 100000 100) 100000 12961 [.go 26] m5_4 m5.v m5.s' = true := by kernel_rfl
set_option maxRecDepth 1000000 in
theorem m4_p0 : chunkL Tryz.prog noG (callM [] T Tryz.prog noG 100000 100) 100000 12751 [.go 8, .openR, .op 1, .enter, .go 290] m4_0 m4_1 = true := by kernel_rfl
set_option maxRecDepth 1000000 in
theorem m4_p1 : chunkL Tryz.prog noG (callM [] T Tryz.prog noG 100000 100) 100000 12751 [.go 538] m4_1 m4_2 = true := by kernel_rfl
set_option maxRecDepth 1000000 in
theorem m4_p2 : chunkL Tryz.prog noG (callM [] T Tryz.prog noG 100000 100) 100000 12751 [.go 595] m4_2 m4_3 = true := by kernel_rfl
set_option maxRecDepth 1000000 in
theorem m4_p3 : lastM Tryz.prog noG (callM [] T Tryz.prog noG 100000 100) 100000 12751 [.go 423, .ret, .op 2, .close, .go 483] m4_3 m4.v m4.s' = true := by kernel_rfl
end Go.Proofs.YtddbpleocbpjdaaGreatDoor.nativeKnown
