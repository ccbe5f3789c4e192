/- A closed call that evaluates to true returns true, in any world, and leaves all as it was. -/
import Derived.Test.YtmhplplopdgfbaaA20
import Derived.Test.YtmhplplopdgfbaaLaws
import Derived.KernelRfl
namespace Go.Ab
open Go.Vc (callD Ext)
def okTrue (r : Option (Value × St)) : Bool :=
  match r with
  | some (.bool true, _) => true
  | _ => false
def noG : Nat → Bool := fun _ => false
theorem rel_empty (w : World) : Rel noG (fun _ => .fresh) ⟨0, .e⟩ w :=
  ⟨fun _ _ => rfl, (fun b r base lim h => by cases h), (fun b b' r base lim base' lim' h => by cases h), (fun g h => by cases h), (fun g h => by cases h), (fun b h => by cases h)⟩
theorem Ev.ext {G : Nat → Bool} {β' : Beta} {s s' : St} {w w' : World} (h : Ev G (fun _ => .fresh) s w β' s' w') : Ext w w' :=
  ⟨h.oth.1, h.oth.2.1, h.oth.2.2, h.sz, fun k hk _ => h.out k hk fun b base lim hb => by cases hb⟩
theorem closed_true {P : Program} (hm : P.follows .mixedOrders = true) {fuel n f : Nat} (h : okTrue (callE P noG fuel n f [] ⟨0, .e⟩) = true) (w : World) :
    callD P f #[] w fun v w' => v = .bool true ∧ Ext w w' := by
  generalize hr : callE P noG fuel n f [] ⟨0, .e⟩ = r at h
  unfold okTrue at h
  split at h <;> try (cases h; done)
  exact callD.mono' (callE_sound hm fuel n _ _ w f [] #[] _ _ hr (rel_empty w) .nil) fun v' w' ⟨β', h1, h2⟩ => ⟨RV.bool_inv h2, h1.ext⟩
end Go.Ab
