/- CardKnown: what is between the pieces of the run of its example, printed by a program. -/
import Derived.Test.YtddbpleocbpjdaaGreatDoorA25
namespace Go.Proofs.YtddbpleocbpjdaaGreatDoor.cardKnown.k
noncomputable section
open Go.Ab
def T (_ : Nat) : Bool := false
def c_0 : Sg := ⟨[], 18, none, [.c []], .e, ⟨0, .e⟩⟩
end
end Go.Proofs.YtddbpleocbpjdaaGreatDoor.cardKnown.k
