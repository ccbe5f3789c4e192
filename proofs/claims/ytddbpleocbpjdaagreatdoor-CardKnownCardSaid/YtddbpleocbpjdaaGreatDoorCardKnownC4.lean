/- CardKnown: pieces of the run. -/
import Derived.Test.YtddbpleocbpjdaaGreatDoorRows
import Derived.Test.YtddbpleocbpjdaaGreatDoorCardKnownS0
namespace Go.Proofs.YtddbpleocbpjdaaGreatDoor.cardKnown
open Go.Ab
set_option maxRecDepth 1000000 in
theorem m1_p3 : chunkL Tryz.prog noG (callM [] T Tryz.prog noG 100000 100) 100000 1602 [.go 595] m1_3 m1_4 = true := by kernel_rfl
set_option maxRecDepth 1000000 in
theorem m1_p4 : chunkL Tryz.prog noG (callM [] T Tryz.prog noG 100000 100) 100000 1602 [.go 594] m1_4 m1_5 = true := by kernel_rfl
set_option maxRecDepth 1000000 in
theorem m1_p5 : chunkL Tryz.prog noG (callM [] T Tryz.prog noG 100000 100) 100000 1602 [.go 579] m1_5 m1_6 = true := by kernel_rfl
end Go.Proofs.YtddbpleocbpjdaaGreatDoor.cardKnown
