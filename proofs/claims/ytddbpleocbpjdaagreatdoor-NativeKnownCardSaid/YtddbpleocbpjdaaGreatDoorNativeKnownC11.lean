/- NativeKnown: pieces of the run. -/
import Derived.Test.YtddbpleocbpjdaaGreatDoorRows
import Derived.Test.YtddbpleocbpjdaaGreatDoorNativeKnownS1
namespace Go.Proofs.YtddbpleocbpjdaaGreatDoor.nativeKnown
open Go.Ab
set_option maxRecDepth 1000000 in
theorem c_p10 : chunkB Tryz.prog noG (callM [] T Tryz.prog noG 100000 100) 100000 [.go 791] c_10 c_11 = true := by kernel_rfl
set_option maxRecDepth 1000000 in
theorem c_p11 : chunkB Tryz.prog noG (callM [] T Tryz.prog noG 100000 100) 100000 [.go 365] c_11 c_12 = true := by kernel_rfl
set_option maxRecDepth 1000000 in
theorem c_p12 : chunkB Tryz.prog noG (callM [] T Tryz.prog noG 100000 100) 100000 [.go 672] c_12 c_13 = true := by kernel_rfl
set_option maxRecDepth 1000000 in
theorem c_p13 : chunkB Tryz.prog noG (callM [] T Tryz.prog noG 100000 100) 100000 [.go 465, .ret, .op 7, .close, .go 2, .ret, .op 6, .close, .go 18, .ret, .op 7, .close, .go 18, .ret, .op 5, .close, .go 8] c_13 c_14 = true := by kernel_rfl
set_option maxRecDepth 1000000 in
theorem c_p14 : chunkB Tryz.prog noG (callM [] T Tryz.prog noG 100000 100) 100000 [.go 7, .openR, .op 1, .enter, .go 138] c_14 c_15 = true := by kernel_rfl
end Go.Proofs.YtddbpleocbpjdaaGreatDoor.nativeKnown
