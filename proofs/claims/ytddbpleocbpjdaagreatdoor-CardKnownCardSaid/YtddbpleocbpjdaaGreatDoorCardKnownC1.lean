/- CardKnown: pieces of the run. -/
import Derived.Test.YtddbpleocbpjdaaGreatDoorRows
import Derived.Test.YtddbpleocbpjdaaGreatDoorCardKnownS0
namespace Go.Proofs.YtddbpleocbpjdaaGreatDoor.cardKnown
open Go.Ab
set_option maxRecDepth 1000000 in
theorem m2_p3 : chunkL Tryz.prog noG (callM [] T Tryz.prog noG 100000 100) 100000 2004 [.go 596] m2_3 m2_4 = true := by kernel_rfl
set_option maxRecDepth 1000000 in
theorem m2_p4 : chunkL Tryz.prog noG (callM [] T Tryz.prog noG 100000 100) 100000 2004 [.go 592] m2_4 m2_5 = true := by kernel_rfl
set_option maxRecDepth 1000000 in
theorem m2_p5 : chunkL Tryz.prog noG (callM [] T Tryz.prog noG 100000 100) 100000 2004 [.go 583] m2_5 m2_6 = true := by kernel_rfl
end Go.Proofs.YtddbpleocbpjdaaGreatDoor.cardKnown
