/- CardKnown: pieces of the run. -/
import Derived.Test.YtddbpleocbpjdaaGreatDoorRows
import Derived.Test.YtddbpleocbpjdaaGreatDoorCardKnownS0
namespace Go.Proofs.YtddbpleocbpjdaaGreatDoor.cardKnown
open Go.Ab
set_option maxRecDepth 1000000 in
theorem m1_p6 : chunkL Tryz.prog noG (callM [] T Tryz.prog noG 100000 100) 100000 1602 [.go 542] m1_6 m1_7 = true := by kernel_rfl
set_option maxRecDepth 1000000 in
theorem m1_p7 : chunkL Tryz.prog noG (callM [] T Tryz.prog noG 100000 100) 100000 1602 [.go 486, .ret, .op 2, .close, .go 431] m1_7 m1_8 = true := by kernel_rfl
set_option maxRecDepth 1000000 in
theorem m1_p8 : lastM Tryz.prog noG (callM [] T Tryz.prog noG 100000 100) 100000 1602 [.go 94] m1_8 m1.v m1.s' = true := by kernel_rfl
end Go.Proofs.YtddbpleocbpjdaaGreatDoor.cardKnown
