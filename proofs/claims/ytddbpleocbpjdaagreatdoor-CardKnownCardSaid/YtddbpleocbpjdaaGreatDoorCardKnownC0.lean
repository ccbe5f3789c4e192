/- CardKnown: pieces of the run. -/
import Derived.Test.YtddbpleocbpjdaaGreatDoorRows
import Derived.Test.YtddbpleocbpjdaaGreatDoorCardKnownS0
namespace Go.Proofs.YtddbpleocbpjdaaGreatDoor.cardKnown
open Go.Ab
set_option maxRecDepth 1000000 in
theorem m2_p0 : chunkL Tryz.prog noG (callM [] T Tryz.prog noG 100000 100) 100000 2004 [.go 4, .openR, .op 6, .enter, .go 8, .openR, .op 1, .enter, .go 250] m2_0 m2_1 = true := by kernel_rfl
set_option maxRecDepth 1000000 in
theorem m2_p1 : chunkL Tryz.prog noG (callM [] T Tryz.prog noG 100000 100) 100000 2004 [.go 20] m2_1 m2_2 = true := by kernel_rfl
set_option maxRecDepth 1000000 in
theorem m2_p2 : chunkL Tryz.prog noG (callM [] T Tryz.prog noG 100000 100) 100000 2004 [.go 97] m2_2 m2_3 = true := by kernel_rfl
end Go.Proofs.YtddbpleocbpjdaaGreatDoor.cardKnown
