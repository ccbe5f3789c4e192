/- CardKnown: pieces of the run. -/
import Derived.Test.YtddbpleocbpjdaaGreatDoorRows
import Derived.Test.YtddbpleocbpjdaaGreatDoorCardKnownS0
namespace Go.Proofs.YtddbpleocbpjdaaGreatDoor.cardKnown
open Go.Ab
set_option maxRecDepth 1000000 in
theorem m3_p0 : chunkL Tryz.prog noG (callM [] T Tryz.prog noG 100000 100) 100000 6407 [.go 147] m3_0 m3_1 = true := by kernel_rfl
set_option maxRecDepth 1000000 in
theorem m3_p1 : lastM Tryz.prog noG (callM [] T Tryz.prog noG 100000 100) 100000 6407 [.go 100] m3_1 m3.v m3.s' = true := by kernel_rfl
set_option maxRecDepth 1000000 in
theorem m4_p0 : chunkL Tryz.prog noG (callM [] T Tryz.prog noG 100000 100) 100000 8106 [.go 147] m4_0 m4_1 = true := by kernel_rfl
end Go.Proofs.YtddbpleocbpjdaaGreatDoor.cardKnown
