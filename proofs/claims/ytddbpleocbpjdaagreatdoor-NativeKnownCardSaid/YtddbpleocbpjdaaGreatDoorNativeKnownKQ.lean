/- NativeKnown: its example, in pieces that the kernel evaluates, answers true in any world. -/
import Derived.Test.YtddbpleocbpjdaaGreatDoorNativeKnownKC0
import Derived.Test.YtddbpleocbpjdaaGreatDoorNativeKnownKC1
import Derived.Test.YtddbpleocbpjdaaGreatDoorNativeKnownKC2
import Derived.Test.YtddbpleocbpjdaaGreatDoorNativeKnownKC3
namespace Go.Proofs.YtddbpleocbpjdaaGreatDoor.nativeKnown.k
open Go.Vc Go.Ab
theorem mixed : Tryz.prog.follows .mixedOrders = true := by kernel_rfl
theorem knows : Known Tryz.prog T := known_none
set_option maxRecDepth 1000000 in
theorem m1_ok : MmOk Tryz.prog noG m1 := memo_ok (by kernel_rfl) fun β0 w0 => chunkL_ok rfl mixed (callM_ok mixed (show MmsOk _ _ [] from trivial) knows 100000 100) (fun _ h => by cases h) m1_p0 (chunkL_ok rfl mixed (callM_ok mixed (show MmsOk _ _ [] from trivial) knows 100000 100) (fun _ h => by cases h) m1_p1 (chunkL_ok rfl mixed (callM_ok mixed (show MmsOk _ _ [] from trivial) knows 100000 100) (fun _ h => by cases h) m1_p2 (lastM_ok rfl mixed (callM_ok mixed (show MmsOk _ _ [] from trivial) knows 100000 100) (fun _ h => by cases h) m1_p3)))
set_option maxRecDepth 1000000 in
theorem m0_ok : MmOk Tryz.prog noG m0 := memo_ok (by kernel_rfl) fun β0 w0 => chunkL_ok rfl mixed (callM_ok mixed (show MmsOk _ _ [] from trivial) knows 100000 100) (fun _ h => by cases h) m0_p0 (chunkL_ok rfl mixed (callM_ok mixed (show MmsOk _ _ [] from trivial) knows 100000 100) (fun _ h => by cases h) m0_p1 (chunkL_ok rfl mixed (callM_ok mixed (show MmsOk _ _ [] from trivial) knows 100000 100) (fun _ h => by cases h) m0_p2 (lastM_ok rfl mixed (callM_ok mixed (show MmsOk _ _ [] from trivial) knows 100000 100) (fun _ h => by cases h) m0_p3)))
set_option maxRecDepth 1000000 in
theorem ok (W : World) : callD Tryz.prog 7 #[] W fun v w' => v = .bool true ∧ Ext W w' :=
  callD.mono' (pieces_true (G := noG) (β0 := fun _ => .fresh) (s0 := ⟨0, .e⟩) (f := 7) (by kernel_rfl) (rel_empty W) (chunk_ok mixed (callM_ok mixed (show MmsOk _ _ [] from trivial) knows 100000 100) (fun _ h => by cases h) c_p0 (chunk_ok mixed (callM_ok mixed (show MmsOk _ _ [m1, m0] from ⟨m1_ok, m0_ok, trivial⟩) knows 100000 100) (fun _ h => by cases h) c_p1 (chunk_ok mixed (callM_ok mixed (show MmsOk _ _ [] from trivial) knows 100000 100) (fun _ h => by cases h) c_p2 (chunk_ok mixed (callM_ok mixed (show MmsOk _ _ [] from trivial) knows 100000 100) (fun _ h => by cases h) c_p3 (chunk_ok mixed (callM_ok mixed (show MmsOk _ _ [] from trivial) knows 100000 100) (fun _ h => by cases h) c_p4 (chunk_ok mixed (callM_ok mixed (show MmsOk _ _ [] from trivial) knows 100000 100) (fun _ h => by cases h) c_p5 (chunk_ok mixed (callM_ok mixed (show MmsOk _ _ [] from trivial) knows 100000 100) (fun _ h => by cases h) c_p6 (chunk_ok mixed (callM_ok mixed (show MmsOk _ _ [] from trivial) knows 100000 100) (fun _ h => by cases h) c_p7 (chunk_ok mixed (callM_ok mixed (show MmsOk _ _ [] from trivial) knows 100000 100) (fun _ h => by cases h) c_p8 (last_ok mixed (callM_ok mixed (show MmsOk _ _ [] from trivial) knows 100000 100) c_p9))))))))))) fun _ _ ⟨h, _, _, hw⟩ => ⟨h, hw.ext⟩
end Go.Proofs.YtddbpleocbpjdaaGreatDoor.nativeKnown.k
