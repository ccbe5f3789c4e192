/- Pick by its contract: the remainder by 12, from 0 up. -/
import Derived.Test.YtodgkhbfpdfdiaaA23
import Derived.Test.YtodgkhbfpdfdiaaInsts
import Derived.Test.YtodgkhbfpdfdiaaDens
namespace Go.Proofs.Ytodgkhbfpdfdiaa
open Go.Vc
def pick12 (n : Int) : Int := if n.tmod 12 < 0 then n.tmod 12 + 12 else n.tmod 12
theorem tmod12 (n : Int) : -12 < n.tmod 12 ∧ n.tmod 12 < 12 := by
  refine ⟨?_, ?_⟩
  · have := Int.lt_tmod_of_pos n (by decide : (0 : Int) < 12)
    simpa using this
  · exact Int.tmod_lt_of_pos n (by decide)
theorem pick12_range (n : Int) : 0 ≤ pick12 n ∧ pick12 n < 12 := by
  have := tmod12 n
  unfold pick12
  split <;> omega
theorem Pick12_ok (n : Int) (w : World) : callD Try.prog 5 #[.int .i64 n, .int .i64 12] w fun v w' => v = .int .i64 (pick12 n) ∧ Ext w w' := by
  have h12 := tmod12 n
  apply F5_wp
  unfold F5_den
  have hr : (binOp .rem 3 (.int .i64 n) (.int .i64 12)).run Try.prog w = .ok (.int .i64 (n.tmod 12)) w := by simp [binOp, Op.intDiv]
  refine ⟨⟨_, _, hr, ?_⟩⟩
  refine V_lss.2 (ifD_dec (fun hlt => ?_) fun hge => ?_)
  · refine V_add.2 ?_
    rw [wrap_id (by omega) (by omega)]
    exact ⟨by unfold pick12; rw [if_pos hlt], Ext.refl _⟩
  · exact ⟨by unfold pick12; rw [if_neg hge], Ext.refl _⟩
end Go.Proofs.Ytodgkhbfpdfdiaa
