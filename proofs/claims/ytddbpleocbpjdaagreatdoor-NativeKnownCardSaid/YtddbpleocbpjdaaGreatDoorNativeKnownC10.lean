/- NativeKnown: pieces of the run. -/
import Derived.Test.YtddbpleocbpjdaaGreatDoorRows
import Derived.Test.YtddbpleocbpjdaaGreatDoorNativeKnownS1
namespace Go.Proofs.YtddbpleocbpjdaaGreatDoor.nativeKnown
open Go.Ab
set_option maxRecDepth 1000000 in
theorem c_p5 : chunkB Tryz.prog noG (callM [] T Tryz.prog noG 100000 100) 100000 [.go 529] c_5 c_6 = true := by kernel_rfl
set_option maxRecDepth 1000000 in
theorem c_p6 : chunkB Tryz.prog noG (callM [] T Tryz.prog noG 100000 100) 100000 [.go 1, .ret, .op 7, .close, .go 2, .ret, .op 6, .close, .go 18, .ret, .op 7, .close, .go 18, .ret, .op 5, .close, .go 15, .openR, .op 1, .enter, .go 120] c_6 c_7 = true := by kernel_rfl
set_option maxRecDepth 1000000 in
theorem c_p7 : chunkB Tryz.prog noG (callM [] T Tryz.prog noG 100000 100) 100000 [.go 135] c_7 c_8 = true := by kernel_rfl
set_option maxRecDepth 1000000 in
theorem c_p8 : chunkB Tryz.prog noG (callM [] T Tryz.prog noG 100000 100) 100000 [.go 19, .ret, .close, .go 2, .ret, .op 5, .close, .go 1, .openR, .op 6, .enter, .go 7, .openR, .op 2, .enter, .go 20, .openR, .op 6, .enter, .go 32, .openR, .op 4, .enter, .go 5] c_8 c_9 = true := by kernel_rfl
set_option maxRecDepth 1000000 in
theorem c_p9 : chunkB Tryz.prog noG (callM [m3, m2] T Tryz.prog noG 100000 100) 100000 [.go 7, .openR, .op 2, .enter, .go 408] c_9 c_10 = true := by kernel_rfl
end Go.Proofs.YtddbpleocbpjdaaGreatDoor.nativeKnown
