/- CardKnown: its example, in pieces that the kernel evaluates, answers true in any world. -/
import Derived.Test.YtddbpleocbpjdaaGreatDoorCardKnownKC0
namespace Go.Proofs.YtddbpleocbpjdaaGreatDoor.cardKnown.k
open Go.Vc Go.Ab
theorem mixed : Tryz.prog.follows .mixedOrders = true := by kernel_rfl
theorem knows : Known Tryz.prog T := known_none
theorem ok (W : World) : callD Tryz.prog 18 #[] W fun v w' => v = .bool true ∧ Ext W w' :=
  callD.mono' (pieces_true (G := noG) (β0 := fun _ => .fresh) (s0 := ⟨0, .e⟩) (f := 18) (by kernel_rfl) (rel_empty W) (last_ok mixed (callM_ok mixed (show MmsOk _ _ [] from trivial) knows 100000 100) c_p0)) fun _ _ ⟨h, _, _, hw⟩ => ⟨h, hw.ext⟩
end Go.Proofs.YtddbpleocbpjdaaGreatDoor.cardKnown.k
