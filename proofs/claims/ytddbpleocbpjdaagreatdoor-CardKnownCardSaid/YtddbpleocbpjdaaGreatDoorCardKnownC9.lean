/- CardKnown: pieces of the run. -/
import Derived.Test.YtddbpleocbpjdaaGreatDoorRows
import Derived.Test.YtddbpleocbpjdaaGreatDoorCardKnownS0
namespace Go.Proofs.YtddbpleocbpjdaaGreatDoor.cardKnown
open Go.Ab
set_option maxRecDepth 1000000 in
theorem m4_p1 : lastM Tryz.prog noG (callM [] T Tryz.prog noG 100000 100) 100000 8106 [.go 64] m4_1 m4.v m4.s' = true := by kernel_rfl
set_option maxRecDepth 1000000 in
theorem c_p0 : chunkB Tryz.prog noG (callM [] T Tryz.prog noG 100000 100) 100000 [.go 33] c_0 c_1 = true := by kernel_rfl
set_option maxRecDepth 1000000 in
theorem c_p1 : chunkB Tryz.prog noG (callM [] T Tryz.prog noG 100000 100) 100000 [.go 45, .openR, .op 3, .enter, .go 11, .openR, .op 3, .enter, .go 3] c_1 c_2 = true := by kernel_rfl
end Go.Proofs.YtddbpleocbpjdaaGreatDoor.cardKnown
