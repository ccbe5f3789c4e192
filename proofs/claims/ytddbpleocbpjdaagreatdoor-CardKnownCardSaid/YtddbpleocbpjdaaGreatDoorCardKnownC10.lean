/- CardKnown: pieces of the run. -/
import Derived.Test.YtddbpleocbpjdaaGreatDoorRows
import Derived.Test.YtddbpleocbpjdaaGreatDoorCardKnownS0
namespace Go.Proofs.YtddbpleocbpjdaaGreatDoor.cardKnown
open Go.Ab
set_option maxRecDepth 1000000 in
theorem c_p2 : chunkB Tryz.prog noG (callM [] T Tryz.prog noG 100000 100) 100000 [.go 21, .openR, .op 4, .enter, .go 3] c_2 c_3 = true := by kernel_rfl
set_option maxRecDepth 1000000 in
theorem c_p3 : chunkB Tryz.prog noG (callM [m0] T Tryz.prog noG 100000 100) 100000 [.go 10, .ret, .op 2, .close, .go 6, .ret, .op 1, .close, .go 3, .ret, .op 2, .close, .go 7, .openR, .op 4, .enter, .go 24, .openR, .op 2, .enter, .go 22, .openR, .op 1] c_3 c_4 = true := by kernel_rfl
set_option maxRecDepth 1000000 in
theorem c_p4 : chunkB Tryz.prog noG (callM [m3] T Tryz.prog noG 100000 100) 100000 [.op 4, .close, .go 9, .ret, .op 1, .close, .ret, .op 2, .close, .go 1, .openR, .op 4, .enter, .go 24, .openR, .op 2, .enter, .go 22, .openR, .op 1] c_4 c_5 = true := by kernel_rfl
end Go.Proofs.YtddbpleocbpjdaaGreatDoor.cardKnown
