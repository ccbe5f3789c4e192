/- CardKnown: pieces of the run. -/
import Derived.Test.YtddbpleocbpjdaaGreatDoorRows
import Derived.Test.YtddbpleocbpjdaaGreatDoorCardKnownS0
namespace Go.Proofs.YtddbpleocbpjdaaGreatDoor.cardKnown
open Go.Ab
set_option maxRecDepth 1000000 in
theorem m0_p3 : chunkL Tryz.prog noG (callM [] T Tryz.prog noG 100000 100) 100000 1156 [.go 384] m0_3 m0_4 = true := by kernel_rfl
set_option maxRecDepth 1000000 in
theorem m0_p4 : chunkL Tryz.prog noG (callM [] T Tryz.prog noG 100000 100) 100000 1156 [.go 605] m0_4 m0_5 = true := by kernel_rfl
set_option maxRecDepth 1000000 in
theorem m0_p5 : lastM Tryz.prog noG (callM [] T Tryz.prog noG 100000 100) 100000 1156 [.go 513, .ret, .op 7, .close, .go 2, .ret, .op 6, .close, .go 18] m0_5 m0.v m0.s' = true := by kernel_rfl
end Go.Proofs.YtddbpleocbpjdaaGreatDoor.cardKnown
