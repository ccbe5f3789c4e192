/- CardKnown: pieces of the run. -/
import Derived.Test.YtddbpleocbpjdaaGreatDoorRows
import Derived.Test.YtddbpleocbpjdaaGreatDoorCardKnownS0
namespace Go.Proofs.YtddbpleocbpjdaaGreatDoor.cardKnown
open Go.Ab
set_option maxRecDepth 1000000 in
theorem m1_p0 : chunkL Tryz.prog noG (callM [] T Tryz.prog noG 100000 100) 100000 1602 [.go 8, .openR, .op 1, .enter, .go 250] m1_0 m1_1 = true := by kernel_rfl
set_option maxRecDepth 1000000 in
theorem m1_p1 : chunkL Tryz.prog noG (callM [] T Tryz.prog noG 100000 100) 100000 1602 [.go 20] m1_1 m1_2 = true := by kernel_rfl
set_option maxRecDepth 1000000 in
theorem m1_p2 : chunkL Tryz.prog noG (callM [] T Tryz.prog noG 100000 100) 100000 1602 [.go 100] m1_2 m1_3 = true := by kernel_rfl
end Go.Proofs.YtddbpleocbpjdaaGreatDoor.cardKnown
