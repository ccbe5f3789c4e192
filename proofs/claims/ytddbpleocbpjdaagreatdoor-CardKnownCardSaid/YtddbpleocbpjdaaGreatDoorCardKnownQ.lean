/- CardKnown: the closed call, in pieces that the kernel evaluates, answers true in any world. -/
import Derived.Test.YtddbpleocbpjdaaGreatDoorCardKnownC0
import Derived.Test.YtddbpleocbpjdaaGreatDoorCardKnownC1
import Derived.Test.YtddbpleocbpjdaaGreatDoorCardKnownC2
import Derived.Test.YtddbpleocbpjdaaGreatDoorCardKnownC3
import Derived.Test.YtddbpleocbpjdaaGreatDoorCardKnownC4
import Derived.Test.YtddbpleocbpjdaaGreatDoorCardKnownC5
import Derived.Test.YtddbpleocbpjdaaGreatDoorCardKnownC6
import Derived.Test.YtddbpleocbpjdaaGreatDoorCardKnownC7
import Derived.Test.YtddbpleocbpjdaaGreatDoorCardKnownC8
import Derived.Test.YtddbpleocbpjdaaGreatDoorCardKnownC9
import Derived.Test.YtddbpleocbpjdaaGreatDoorCardKnownC10
import Derived.Test.YtddbpleocbpjdaaGreatDoorCardKnownC11
import Derived.Test.YtddbpleocbpjdaaGreatDoorCardKnownKQ
namespace Go.Proofs.YtddbpleocbpjdaaGreatDoor.cardKnown
open Go.Vc Go.Ab
theorem mixed : Tryz.prog.follows .mixedOrders = true := by kernel_rfl
theorem knows : Known Tryz.prog T := known_one Go.Proofs.YtddbpleocbpjdaaGreatDoor.cardKnown.k.ok
set_option maxRecDepth 1000000 in
theorem m2_ok : MmOk Tryz.prog noG m2 := memo_ok (by kernel_rfl) fun β0 w0 => chunkL_ok rfl mixed (callM_ok mixed (show MmsOk _ _ [] from trivial) knows 100000 100) (fun _ h => by cases h) m2_p0 (chunkL_ok rfl mixed (callM_ok mixed (show MmsOk _ _ [] from trivial) knows 100000 100) (fun _ h => by cases h) m2_p1 (chunkL_ok rfl mixed (callM_ok mixed (show MmsOk _ _ [] from trivial) knows 100000 100) (fun _ h => by cases h) m2_p2 (chunkL_ok rfl mixed (callM_ok mixed (show MmsOk _ _ [] from trivial) knows 100000 100) (fun _ h => by cases h) m2_p3 (chunkL_ok rfl mixed (callM_ok mixed (show MmsOk _ _ [] from trivial) knows 100000 100) (fun _ h => by cases h) m2_p4 (chunkL_ok rfl mixed (callM_ok mixed (show MmsOk _ _ [] from trivial) knows 100000 100) (fun _ h => by cases h) m2_p5 (chunkL_ok rfl mixed (callM_ok mixed (show MmsOk _ _ [] from trivial) knows 100000 100) (fun _ h => by cases h) m2_p6 (chunkL_ok rfl mixed (callM_ok mixed (show MmsOk _ _ [] from trivial) knows 100000 100) (fun _ h => by cases h) m2_p7 (lastM_ok rfl mixed (callM_ok mixed (show MmsOk _ _ [] from trivial) knows 100000 100) (fun _ h => by cases h) m2_p8))))))))
set_option maxRecDepth 1000000 in
theorem m1_ok : MmOk Tryz.prog noG m1 := memo_ok (by kernel_rfl) fun β0 w0 => chunkL_ok rfl mixed (callM_ok mixed (show MmsOk _ _ [] from trivial) knows 100000 100) (fun _ h => by cases h) m1_p0 (chunkL_ok rfl mixed (callM_ok mixed (show MmsOk _ _ [] from trivial) knows 100000 100) (fun _ h => by cases h) m1_p1 (chunkL_ok rfl mixed (callM_ok mixed (show MmsOk _ _ [] from trivial) knows 100000 100) (fun _ h => by cases h) m1_p2 (chunkL_ok rfl mixed (callM_ok mixed (show MmsOk _ _ [] from trivial) knows 100000 100) (fun _ h => by cases h) m1_p3 (chunkL_ok rfl mixed (callM_ok mixed (show MmsOk _ _ [] from trivial) knows 100000 100) (fun _ h => by cases h) m1_p4 (chunkL_ok rfl mixed (callM_ok mixed (show MmsOk _ _ [] from trivial) knows 100000 100) (fun _ h => by cases h) m1_p5 (chunkL_ok rfl mixed (callM_ok mixed (show MmsOk _ _ [] from trivial) knows 100000 100) (fun _ h => by cases h) m1_p6 (chunkL_ok rfl mixed (callM_ok mixed (show MmsOk _ _ [] from trivial) knows 100000 100) (fun _ h => by cases h) m1_p7 (lastM_ok rfl mixed (callM_ok mixed (show MmsOk _ _ [] from trivial) knows 100000 100) (fun _ h => by cases h) m1_p8))))))))
set_option maxRecDepth 1000000 in
theorem m0_ok : MmOk Tryz.prog noG m0 := memo_ok (by kernel_rfl) fun β0 w0 => chunkL_ok rfl mixed (callM_ok mixed (show MmsOk _ _ [] from trivial) knows 100000 100) (fun _ h => by cases h) m0_p0 (chunkL_ok rfl mixed (callM_ok mixed (show MmsOk _ _ [m2, m1] from ⟨m2_ok, m1_ok, trivial⟩) knows 100000 100) (fun _ h => by cases h) m0_p1 (chunkL_ok rfl mixed (callM_ok mixed (show MmsOk _ _ [] from trivial) knows 100000 100) (fun _ h => by cases h) m0_p2 (chunkL_ok rfl mixed (callM_ok mixed (show MmsOk _ _ [] from trivial) knows 100000 100) (fun _ h => by cases h) m0_p3 (chunkL_ok rfl mixed (callM_ok mixed (show MmsOk _ _ [] from trivial) knows 100000 100) (fun _ h => by cases h) m0_p4 (lastM_ok rfl mixed (callM_ok mixed (show MmsOk _ _ [] from trivial) knows 100000 100) (fun _ h => by cases h) m0_p5)))))
set_option maxRecDepth 1000000 in
theorem m3_ok : MmOk Tryz.prog noG m3 := memo_ok (by kernel_rfl) fun β0 w0 => chunkL_ok rfl mixed (callM_ok mixed (show MmsOk _ _ [] from trivial) knows 100000 100) (fun _ h => by cases h) m3_p0 (lastM_ok rfl mixed (callM_ok mixed (show MmsOk _ _ [] from trivial) knows 100000 100) (fun _ h => by cases h) m3_p1)
set_option maxRecDepth 1000000 in
theorem m4_ok : MmOk Tryz.prog noG m4 := memo_ok (by kernel_rfl) fun β0 w0 => chunkL_ok rfl mixed (callM_ok mixed (show MmsOk _ _ [] from trivial) knows 100000 100) (fun _ h => by cases h) m4_p0 (lastM_ok rfl mixed (callM_ok mixed (show MmsOk _ _ [] from trivial) knows 100000 100) (fun _ h => by cases h) m4_p1)
set_option maxRecDepth 1000000 in
theorem ok (W : World) : callD Tryz.prog 4 #[] W fun v w' => v = .bool true ∧ Ext W w' :=
  callD.mono' (pieces_true (G := noG) (β0 := fun _ => .fresh) (s0 := ⟨0, .e⟩) (f := 4) (by kernel_rfl) (rel_empty W) (chunk_ok mixed (callM_ok mixed (show MmsOk _ _ [] from trivial) knows 100000 100) (fun _ h => by cases h) c_p0 (chunk_ok mixed (callM_ok mixed (show MmsOk _ _ [] from trivial) knows 100000 100) (fun _ h => by cases h) c_p1 (chunk_ok mixed (callM_ok mixed (show MmsOk _ _ [] from trivial) knows 100000 100) (fun _ h => by cases h) c_p2 (chunk_ok mixed (callM_ok mixed (show MmsOk _ _ [m0] from ⟨m0_ok, trivial⟩) knows 100000 100) (fun _ h => by cases h) c_p3 (chunk_ok mixed (callM_ok mixed (show MmsOk _ _ [m3] from ⟨m3_ok, trivial⟩) knows 100000 100) (fun _ h => by cases h) c_p4 (chunk_ok mixed (callM_ok mixed (show MmsOk _ _ [m4] from ⟨m4_ok, trivial⟩) knows 100000 100) (fun _ h => by cases h) c_p5 (last_ok mixed (callM_ok mixed (show MmsOk _ _ [] from trivial) knows 100000 100) c_p6)))))))) fun _ _ ⟨h, _, _, hw⟩ => ⟨h, hw.ext⟩
end Go.Proofs.YtddbpleocbpjdaaGreatDoor.cardKnown
