/- BuildKnown: the closed call, in pieces that the kernel evaluates, answers true in any world. -/
import Derived.Test.YtjjomjphdbadlaaGreatDoorBuildKnownC0
import Derived.Test.YtjjomjphdbadlaaGreatDoorBuildKnownC1
import Derived.Test.YtjjomjphdbadlaaGreatDoorBuildKnownC2
import Derived.Test.YtjjomjphdbadlaaGreatDoorBuildKnownC3
import Derived.Test.YtjjomjphdbadlaaGreatDoorBuildKnownC4
import Derived.Test.YtjjomjphdbadlaaGreatDoorBuildKnownKQ
namespace Go.Proofs.YtjjomjphdbadlaaGreatDoor.buildKnown
open Go.Vc Go.Ab
theorem mixed : Tryz.prog.follows .mixedOrders = true := by kernel_rfl
theorem knows : Known Tryz.prog T := known_one Go.Proofs.YtjjomjphdbadlaaGreatDoor.buildKnown.k.ok
theorem m0_ok : MmOk Tryz.prog noG m0 := memo_ok (by kernel_rfl) fun β0 w0 => chunkL_ok rfl mixed (callM_ok mixed (show MmsOk _ _ [] from trivial) knows 100000 100) (fun _ h => by cases h) m0_p0 (lastM_ok rfl mixed (callM_ok mixed (show MmsOk _ _ [] from trivial) knows 100000 100) (fun _ h => by cases h) m0_p1)
theorem ok (W : World) : callD Tryz.prog 3 #[] W fun v w' => v = .bool true ∧ Ext W w' :=
  callD.mono' (pieces_true (G := noG) (β0 := fun _ => .fresh) (s0 := ⟨0, .e⟩) (f := 3) (by kernel_rfl) (rel_empty W) (chunk_ok mixed (callM_ok mixed (show MmsOk _ _ [] from trivial) knows 100000 100) (fun _ h => by cases h) c_p0 (chunk_ok mixed (callM_ok mixed (show MmsOk _ _ [m0] from ⟨m0_ok, trivial⟩) knows 100000 100) (fun _ h => by cases h) c_p1 (last_ok mixed (callM_ok mixed (show MmsOk _ _ [] from trivial) knows 100000 100) c_p2)))) fun _ _ ⟨h, _, _, hw⟩ => ⟨h, hw.ext⟩
end Go.Proofs.YtjjomjphdbadlaaGreatDoor.buildKnown
