/- Two rows that are the same. -/
import Derived.Test.YtcnilchopponmaaDoorNd5
namespace Go.Proofs.YtcnilchopponmaaDoor
open Go.Vc
theorem same_ok {l : List Bool} {a b : Value} {w : World} (ha : BoolsAre w a l) (hb : BoolsAre w b l) (hl : l.length ≤ 1000) : callD Tryd.prog 11 #[a, b] w fun r w' => r = .bool true ∧ Ext w w' := by
  apply F11_wp
  unfold F11_den
  obtain ⟨aa, ac, rfl⟩ := ha.shape
  obtain ⟨ba, bc, rfl⟩ := hb.shape
  refine V_ln_30.2 (V_ln_30.2 (V_neqI.2 (ifD_dec (fun h => absurd rfl h) fun _ => ?_)))
  refine ⟨fun v w' => ∃ i : Nat, v = i64 i ∧ i ≤ l.length ∧ Ext w w', fun v _ => l.length - (RowKit.intOf v).toNat, ⟨0, rfl, Nat.zero_le _, Ext.refl _⟩, ?_⟩
  rintro _ w1 ⟨i, rfl, hi, x1⟩ _
  refine V_ln_30.2 (V_lss.2 (ifD_dec (fun hlt => ?_) fun hge => ?_))
  · obtain ⟨u, hu⟩ := ex_get (l := l) (j := i) (by omega)
    refine drawD.mk' (fun w' => Ext w1 w') (Ext.refl _).drew ?_
    refine ySl xa_30 l1_4 (ha.ext x1) (fun _ h => h) (by omega) (by omega) (getB hu) ?_
    refine ySl xa_30 l1_4 (hb.ext x1) (fun _ h => h) (by omega) (by omega) (getB hu) ?_
    refine yieldS.ok (fun w' _ => r_neqBool Tryd.underlying4) ?_
    refine ifD.mk (fun h => by simp at h) fun _ => ?_
    refine V_add.2 ?_
    rw [wrap_id (by omega) (by omega), i64_succ]
    exact ⟨⟨i + 1, rfl, by omega, x1.trans (Ext.refl _).drew⟩, by simp only [intOf_i64]; omega⟩
  · exact ⟨rfl, x1⟩
end Go.Proofs.YtcnilchopponmaaDoor
