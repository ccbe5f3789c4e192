/- NativeKnown: pieces of the run. -/
import Derived.Test.YtddbpleocbpjdaaGreatDoorRows
import Derived.Test.YtddbpleocbpjdaaGreatDoorNativeKnownS1
namespace Go.Proofs.YtddbpleocbpjdaaGreatDoor.nativeKnown
open Go.Ab
set_option maxRecDepth 1000000 in
theorem c_p15 : chunkB Tryz.prog noG (callM [] T Tryz.prog noG 100000 100) 100000 [.go 37, .ret, .close, .go 2, .ret, .op 5, .close, .go 1, .openR, .op 3, .enter, .go 7, .openR, .op 2, .enter, .go 20, .openR, .op 6, .enter, .go 32, .openR, .op 4, .enter, .go 5] c_15 c_16 = true := by kernel_rfl
set_option maxRecDepth 1000000 in
theorem c_p16 : chunkB Tryz.prog noG (callM [m5, m4] T Tryz.prog noG 100000 100) 100000 [.go 10, .ret, .op 6, .close, .go 18, .ret, .op 7, .close, .go 18, .ret, .op 5, .close, .go 6] c_16 c_17 = true := by kernel_rfl
set_option maxRecDepth 1000000 in
theorem c_p17 : chunkB Tryz.prog noG (callM [] T Tryz.prog noG 100000 100) 100000 [.go 9, .openR, .op 1, .enter, .go 138] c_17 c_18 = true := by kernel_rfl
set_option maxRecDepth 1000000 in
theorem c_p18 : chunkB Tryz.prog noG (callM [] T Tryz.prog noG 100000 100) 100000 [.go 135] c_18 c_19 = true := by kernel_rfl
set_option maxRecDepth 1000000 in
theorem c_p19 : chunkB Tryz.prog noG (callM [] T Tryz.prog noG 100000 100) 100000 [.go 135] c_19 c_20 = true := by kernel_rfl
end Go.Proofs.YtddbpleocbpjdaaGreatDoor.nativeKnown
