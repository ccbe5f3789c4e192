/- CardKnown: pieces of the run. -/
import Derived.Test.YtddbpleocbpjdaaGreatDoorRows
import Derived.Test.YtddbpleocbpjdaaGreatDoorCardKnownS0
namespace Go.Proofs.YtddbpleocbpjdaaGreatDoor.cardKnown
open Go.Ab
set_option maxRecDepth 1000000 in
theorem c_p5 : chunkB Tryz.prog noG (callM [m4] T Tryz.prog noG 100000 100) 100000 [.op 4, .close, .go 9, .ret, .op 1, .close, .ret, .op 2, .close, .go 16] c_5 c_6 = true := by kernel_rfl
set_option maxRecDepth 1000000 in
theorem c_p6 : lastB Tryz.prog noG (callM [] T Tryz.prog noG 100000 100) 100000 [.go 10] c_6 = true := by kernel_rfl
end Go.Proofs.YtddbpleocbpjdaaGreatDoor.cardKnown
