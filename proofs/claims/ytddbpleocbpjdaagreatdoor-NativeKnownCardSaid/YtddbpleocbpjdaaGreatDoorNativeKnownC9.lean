/- NativeKnown: pieces of the run. -/
import Derived.Test.YtddbpleocbpjdaaGreatDoorRows
import Derived.Test.YtddbpleocbpjdaaGreatDoorNativeKnownS1
namespace Go.Proofs.YtddbpleocbpjdaaGreatDoor.nativeKnown
open Go.Ab
set_option maxRecDepth 1000000 in
theorem c_p0 : chunkB Tryz.prog noG (callM [] T Tryz.prog noG 100000 100) 100000 [.go 5, .openR, .op 6, .enter, .go 7, .openR, .op 2, .enter, .go 20, .openR, .op 6, .enter, .go 32, .openR, .op 4, .enter, .go 5] c_0 c_1 = true := by kernel_rfl
set_option maxRecDepth 1000000 in
theorem c_p1 : chunkB Tryz.prog noG (callM [m1, m0] T Tryz.prog noG 100000 100) 100000 [.go 7, .openR, .op 2, .enter, .go 419] c_1 c_2 = true := by kernel_rfl
set_option maxRecDepth 1000000 in
theorem c_p2 : chunkB Tryz.prog noG (callM [] T Tryz.prog noG 100000 100) 100000 [.go 831] c_2 c_3 = true := by kernel_rfl
set_option maxRecDepth 1000000 in
theorem c_p3 : chunkB Tryz.prog noG (callM [] T Tryz.prog noG 100000 100) 100000 [.go 373] c_3 c_4 = true := by kernel_rfl
set_option maxRecDepth 1000000 in
theorem c_p4 : chunkB Tryz.prog noG (callM [] T Tryz.prog noG 100000 100) 100000 [.go 688] c_4 c_5 = true := by kernel_rfl
end Go.Proofs.YtddbpleocbpjdaaGreatDoor.nativeKnown
