/- The row's last step, from 'Ext': what was there is as it was; new blocks may be anything. -/
import Derived.Test.YtmbeoehgpffneaaGreatDoorLaws2
import Derived.WalkKit
import Derived.ProofKit
import Derived.OpenShut
namespace Go.Vc
open Go.ChangeShapes Go.WideShapes Go.ChangeAt Go.RowKit
variable {H : Type} {enc : TypeId × Value → H} {P : Program}

theorem post_of_ext {f : Func} {s : ChangeSpec} {apart fresh handsOn again : Bool} {W W' : World} {args : Array Value} {v : Value} {ds gs : List (DataW H)} {pa pv : List MemPlace}
    (hW : DataW.Whole enc P f.params.toList s.vars apart W args.toList ds gs (pa ++ pv)) (hx : Ext W W')
    (hr : ∀ b sp hd, DataW.TrodAll enc P W' b sp hd f.resultTypes.toList (v.resultList f.resultTypes.size) (s.fn H (ds ++ gs)).results [])
    (ha : ∀ sp : Nat → Bool, (∀ p ∈ pa ++ pv, sp p.block = true) → DataW.TrodAll enc P W' 0 sp true f.params.toList args.toList (s.fn H (ds ++ gs)).args pa)
    (hv : ∀ sp : Nat → Bool, (∀ p ∈ pa ++ pv, sp p.block = true) → DataW.TrodVars enc P W' sp s.vars (s.fn H (ds ++ gs)).vars pv)
    (hok : ∀ (j : Nat) (t : TypeId) (r : Value), f.resultTypes[j]? = some t → (v.resultList f.resultTypes.size)[j]? = some r → Value.okWide P W' .any 0 t r) :
    s.post enc P f apart fresh handsOn again W args v W' := by
  have hlt := hW.lt
  have hall : ∀ p ∈ pa ++ pv, (fun b => decide (b < W.heap.size)) p.block = true := fun p hp => decide_eq_true (hlt p hp)
  have hk := hx.below.frame (· ∈ pa ++ pv)
  refine ⟨ds, gs, pa ++ pv, [], pa, pv, hW, hr _ _ _, ha _ hall, hv _ hall, World.keptBut_mono (fun p hp => ⟨hp, .inr (by simpa using hp)⟩) hk, fun _ => ?_⟩
  obtain ⟨_, _, _, _, _, hz, hn⟩ := hW
  have h2 := trodAll_append (ha (fun _ => true) fun _ _ => rfl) (hr 0 (fun _ => true) true)
  refine ⟨hok, _, _, pa ++ pv, ⟨pa, pv, (by simpa using h2), hv _ fun _ _ => rfl, rfl, fun b off hp => ?_, hn⟩, fun p hp _ => hp⟩
  rw [hx.below.frozen (hlt _ hp)]
  exact hz b off hp
end Go.Vc
