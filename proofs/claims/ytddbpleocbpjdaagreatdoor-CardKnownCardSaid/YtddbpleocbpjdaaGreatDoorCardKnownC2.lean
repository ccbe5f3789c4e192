/- CardKnown: pieces of the run. -/
import Derived.Test.YtddbpleocbpjdaaGreatDoorRows
import Derived.Test.YtddbpleocbpjdaaGreatDoorCardKnownS0
namespace Go.Proofs.YtddbpleocbpjdaaGreatDoor.cardKnown
open Go.Ab
set_option maxRecDepth 1000000 in
theorem m2_p6 : chunkL Tryz.prog noG (callM [] T Tryz.prog noG 100000 100) 100000 2004 [.go 541] m2_6 m2_7 = true := by kernel_rfl
set_option maxRecDepth 1000000 in
theorem m2_p7 : chunkL Tryz.prog noG (callM [] T Tryz.prog noG 100000 100) 100000 2004 [.go 487, .ret, .op 2, .close, .go 301, .ret, .op 10, .close, .go 2] m2_7 m2_8 = true := by kernel_rfl
set_option maxRecDepth 1000000 in
theorem m2_p8 : lastM Tryz.prog noG (callM [] T Tryz.prog noG 100000 100) 100000 2004 [.go 178] m2_8 m2.v m2.s' = true := by kernel_rfl
end Go.Proofs.YtddbpleocbpjdaaGreatDoor.cardKnown
