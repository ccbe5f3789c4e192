/- InterpCalls: the statement: for every number the law's run, evaluated by the kernel at each of the twelve numbers that Pick may give, answers true in any world. Began as the skeleton that the seat's proof-skeleton prints. -/
import Derived.Test.YtodgkhbfpdfdiaaRows
import Derived.Test.YtodgkhbfpdfdiaaInterpCallsQ
import Derived.Test.YtodgkhbfpdfdiaaInterpCallsR0
import Derived.Test.YtodgkhbfpdfdiaaInterpCallsR3
import Derived.Test.YtodgkhbfpdfdiaaInterpCallsR6
import Derived.Test.YtodgkhbfpdfdiaaInterpCallsR9
import Derived.Test.YtodgkhbfpdfdiaaPost
namespace Go.Proofs.Ytodgkhbfpdfdiaa.interpCalls
open Go.ChangeShapes Go.WideShapes Go.ChangeAt Go.RowKit Go.Vc
set_option linter.unusedVariables false
theorem own : ownKnob Try.prog.godebug = none := by kernel_rfl
/-- What is left behind the call of Pick holds its number alone. -/
theorem pre_same (p : Int → Int) (n : Int) : Go.Ab.pre Try.prog Go.Ab.noG (Go.Ab.callS p 5 12) 100000 2 (Try.f3.body.getD .skip) (Go.Ab.envOf 0 [.int .i64 n] .e) ⟨0, .e⟩
    = Go.Ab.pre Try.prog Go.Ab.noG (Go.Ab.callS (fun _ => p n) 5 12) 100000 2 (Try.f3.body.getD .skip) (Go.Ab.envOf 0 [.int .i64 n] .e) ⟨0, .e⟩ := by kernel_rfl
theorem bodyIs : Try.f3.body = some (Try.f3.body.getD .skip) := by kernel_rfl
theorem first_same (p : Int → Int) (n : Int) : Go.Ab.step2 Try.prog Go.Ab.noG 100000 2 (Go.Ab.callS p 5 12) (Go.Ab.callT (fun f => Nat.beq f 7) Try.prog Go.Ab.noG 100000 100) 3 [.int .i64 n] ⟨0, .e⟩
    = Go.Ab.step2 Try.prog Go.Ab.noG 100000 2 (Go.Ab.callS (fun _ => p n) 5 12) (Go.Ab.callT (fun f => Nat.beq f 7) Try.prog Go.Ab.noG 100000 100) 3 [.int .i64 n] ⟨0, .e⟩ := by
  unfold Go.Ab.step2
  rw [Try.func3]
  simp only []
  rw [bodyIs]
  simp only []
  rw [pre_same]
theorem runs (n m : Int) (h0 : 0 ≤ m) (h1 : m < 12) : Go.Ab.okTrue (Go.Ab.step2 Try.prog Go.Ab.noG 100000 2 (Go.Ab.callS (fun _ => m) 5 12) (Go.Ab.callT (fun f => Nat.beq f 7) Try.prog Go.Ab.noG 100000 100) 3 [.int .i64 n] ⟨0, .e⟩) = true := by
  have : m = 0 ∨ m = 1 ∨ m = 2 ∨ m = 3 ∨ m = 4 ∨ m = 5 ∨ m = 6 ∨ m = 7 ∨ m = 8 ∨ m = 9 ∨ m = 10 ∨ m = 11 := by omega
  rcases this with rfl | rfl | rfl | rfl | rfl | rfl | rfl | rfl | rfl | rfl | rfl | rfl
  · exact run0 n
  · exact run1 n
  · exact run2 n
  · exact run3 n
  · exact run4 n
  · exact run5 n
  · exact run6 n
  · exact run7 n
  · exact run8 n
  · exact run9 n
  · exact run10 n
  · exact run11 n
theorem ok (n : Int) (W : World) : callD Try.prog 3 #[.int .i64 n] W fun v W' => v = .bool true ∧ Ext W W' := by
  have hr := pick12_range n
  have h := runs n (pick12 n) hr.1 hr.2
  rw [← first_same pick12 n] at h
  exact Go.Ab.two_true mixed (Go.Ab.callS_ok fun a w => Pick12_ok a w) (Go.Ab.callT_ok mixed (Go.Ab.known_one knownOk) 100000 100) h W

set_option maxRecDepth 100000 in
theorem lifted (os : Os) (started : os.Started) (H : Type) (enc : TypeId × Value → H) :
    ReturnsInHanded {} Try.checked os 3 .any (Rows.interpCallsSpec.pre6 enc Try.prog Try.f3 Rows.interpCallsRow.domain false) (Rows.interpCallsSpec.post enc Try.prog Try.f3 false true false false) := by
  refine returnsInHanded_of_change (C := Try.checked) own started (by kernel_rfl) Try.func3
    (ChangeSpec.witness6 (enc := enc) (C := Try.checked) false ⟨#[], #[.int .i64 0], []⟩ 8 (by kernel_rfl) (by kernel_rfl) (by kernel_rfl) (by kernel_rfl)) ?_
  intro W base args ds gs before hval0 hW hcnd _
  have hval : ∀ (j : Nat) t v, Try.f3.params[j]? = some t → args[j]? = some v → Value.okWide Try.prog W .any base t v := hval0
  have hW' := hW
  obtain ⟨p, q, hA0, hV, rfl, hfz, hnd⟩ := hW
  have hA : DataW.TrodAll enc Try.prog W 0 (fun _ => true) true Try.f3.params.toList args.toList ds p := hA0
  rw [Try.params3] at hA hval
  obtain ⟨v0, vs0, d0, ds0, p0, q0, hargs, rfl, rfl, h0, r0⟩ := trodAll_cons hA
  obtain ⟨rfl, rfl, rfl⟩ := trodAll_nil r0
  obtain rfl : args = #[v0] := by cases args; simp_all
  obtain ⟨rfl, rfl⟩ := trodVars_none hV
  obtain ⟨a0, rfl, rfl, rfl, w0⟩ := open_int Try.underlying3 (hval 0 3 v0 rfl rfl) h0
  clear hA0 hval0
  simp only [List.append_nil] at hW'
  refine (ok a0 W).ex.2.mono fun e W' ⟨v, he, hv, hx⟩ => ?_
  subst he
  subst hv
  exact ⟨_, rfl, post_of_ext (pa := []) (pv := []) hW' hx (fun _ _ _ => (trodAll_cons_mk (shut_bool Try.underlying4 _) trodAll_mk0)) (fun sp _ => (trodAll_cons_mk (shut_int Try.underlying3 w0) trodAll_mk0)) (fun _ _ => rfl)
    (ok_one (by kernel_rfl) rfl (okWide_bool_mk Try.underlying4 _))⟩

theorem over : Rows.interpCallsRow.holds Try.pinned (OpenSpec.ofChange Rows.interpCallsSpec) :=
  OpenClaim.holds_of_wide 3 Try.f3 rfl rfl rfl rfl rfl rfl rfl ⟨rfl, rfl, rfl, rfl, rfl⟩ rfl rfl rfl rfl rfl (by kernel_rfl) Try.func3 (by kernel_rfl)
    (of_decide_eq_true (by kernel_rfl)) (by unfold Func.isWrapper; first | (rw [if_pos (by decide +kernel)]; kernel_rfl) | (rw [if_neg (by decide +kernel)]; exact ⟨rfl, rfl⟩))
    (fun os started H enc _ => lifted os started H enc)

/-- ████ THE STATEMENT ████ -/
theorem proved : Rows.InterpCallsSaid :=
  over
end Go.Proofs.Ytodgkhbfpdfdiaa.interpCalls
