/- CardKnown: pieces of the run. -/
import Derived.Test.YtddbpleocbpjdaaGreatDoorRows
import Derived.Test.YtddbpleocbpjdaaGreatDoorCardKnownS0
namespace Go.Proofs.YtddbpleocbpjdaaGreatDoor.cardKnown
open Go.Ab
set_option maxRecDepth 1000000 in
theorem m0_p0 : chunkL Tryz.prog noG (callM [] T Tryz.prog noG 100000 100) 100000 1156 [.go 32, .openR, .op 4, .enter, .go 5] m0_0 m0_1 = true := by kernel_rfl
set_option maxRecDepth 1000000 in
theorem m0_p1 : chunkL Tryz.prog noG (callM [m2, m1] T Tryz.prog noG 100000 100) 100000 1156 [.go 7, .openR, .op 2, .enter, .go 385] m0_1 m0_2 = true := by kernel_rfl
set_option maxRecDepth 1000000 in
theorem m0_p2 : chunkL Tryz.prog noG (callM [] T Tryz.prog noG 100000 100) 100000 1156 [.go 814] m0_2 m0_3 = true := by kernel_rfl
end Go.Proofs.YtddbpleocbpjdaaGreatDoor.cardKnown
