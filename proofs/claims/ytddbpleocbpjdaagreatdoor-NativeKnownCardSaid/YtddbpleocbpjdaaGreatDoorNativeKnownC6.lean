/- NativeKnown: pieces of the run. -/
import Derived.Test.YtddbpleocbpjdaaGreatDoorRows
import Derived.Test.YtddbpleocbpjdaaGreatDoorNativeKnownS1
namespace Go.Proofs.YtddbpleocbpjdaaGreatDoor.nativeKnown
open Go.Ab
set_option maxRecDepth 1000000 in
theorem m2_p3 : chunkL Tryz.prog noG (callM [] T Tryz.prog noG 100000 100) 100000 7213 [.go 596] m2_3 m2_4 = true := by kernel_rfl
set_option maxRecDepth 1000000 in
theorem m2_p4 : chunkL Tryz.prog noG (callM [] T Tryz.prog noG 100000 100) 100000 7213 [.go 593] m2_4 m2_5 = true := by kernel_rfl
set_option maxRecDepth 1000000 in
theorem m2_p5 : chunkL Tryz.prog noG (callM [] T Tryz.prog noG 100000 100) 100000 7213 [.go 585] m2_5 m2_6 = true := by kernel_rfl
set_option maxRecDepth 1000000 in
theorem m2_p6 : chunkL Tryz.prog noG (callM [] T Tryz.prog noG 100000 100) 100000 7213 [.go 540] m2_6 m2_7 = true := by kernel_rfl
set_option maxRecDepth 1000000 in
theorem m2_p7 : chunkL Tryz.prog noG (callM [] T Tryz.prog noG 100000 100) 100000 7213 [.go 488, .ret, .op 2, .close, .go 427] m2_7 m2_8 = true := by kernel_rfl
end Go.Proofs.YtddbpleocbpjdaaGreatDoor.nativeKnown
