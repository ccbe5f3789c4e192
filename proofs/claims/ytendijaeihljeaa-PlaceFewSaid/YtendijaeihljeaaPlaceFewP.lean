/- PlaceFew: the statement: of any numbers the law's call answers true in any world. Began as the skeleton that the seat's proof-skeleton prints. -/
import Derived.Test.YtendijaeihljeaaRows
import Derived.Test.YtendijaeihljeaaA21
import Derived.Test.YtendijaeihljeaaA22
import Derived.Test.YtendijaeihljeaaArgs
import Derived.Test.YtendijaeihljeaaFw
import Derived.Deep.Slices
import Derived.Test.YtendijaeihljeaaPost
namespace Go.Proofs.Ytendijaeihljeaa.placeFew
open Go.ChangeShapes Go.WideShapes Go.ChangeAt Go.RowKit Go.Vc
set_option linter.unusedVariables false
theorem own : ownKnob Try.prog.godebug = none := by kernel_rfl
theorem mixed : Try.prog.follows .mixedOrders = true := by kernel_rfl
set_option maxRecDepth 1000000 in
theorem knownRuns : Go.Ab.okTrue (Go.Ab.callE Try.prog Go.Ab.noG 100000 100 6 [] ⟨0, .e⟩) = true := by kernel_rfl
theorem knownOk (W : World) : callD Try.prog 6 #[] W fun v w' => v = .bool true ∧ Ext W w' := Go.Ab.closed_true mixed knownRuns W
theorem c3 : Try.prog.cellsOf 3 = 1 := by kernel_rfl
theorem k1b : laidOutB Try.prog = true := by kernel_rfl
theorem k1r : (Try.f3.params.toList.all fun t => Try.prog.readableRec t && decide (t < Try.prog.types.size)) = true := by kernel_rfl
/-- The arguments of a raw node that came in. -/
theorem openArgs {H : Type} {enc : TypeId × Value → H} {W : World} {n : Nat} {c : Value} {y : DataW H × List MemPlace} (h : DataW.trod enc Try.prog W 0 (fun _ => true) true n 22 [c] = some y) : ∃ l, ArgsLike W c l := by
  rcases open_ints Try.underlying22 Try.underlying3 c3 h with ⟨hcs, _⟩ | ⟨a, len, cap, zs, hcs, _, hl, hm, hz, _, hcell, _⟩
  · cases hcs
    exact ⟨[], ⟨none, 0, rfl⟩, fun h => absurd h (Nat.lt_irrefl 0)⟩
  · cases hcs
    simp only [if_true] at hz
    have htl : (zs.take len).length = len := by simp; omega
    refine ⟨zs.take len, ⟨some a, cap, by rw [htl]⟩, fun h0 => ?_⟩
    obtain ⟨b, o, s⟩ := a
    obtain rfl : s = none := by simpa [Addr.add] using World.cell?_spot (hcell 0 (by omega))
    unfold IntsAre
    rw [htl]
    refine ⟨by simp; omega, .inr ⟨b, o, cap, rfl, hl, hm, fun j u hj => ?_⟩⟩
    rw [List.getElem?_map, List.getElem?_take] at hj
    split at hj
    · rename_i hjl
      have hjz : j < zs.length := by omega
      rw [List.getElem?_eq_getElem hjz] at hj
      simp at hj
      subst hj
      have := hcell j hjz
      rw [add_mk] at this
      rw [this]
      simp [List.getD, hjz]
    · cases hj

set_option maxRecDepth 100000 in
theorem lifted (os : Os) (started : os.Started) (H : Type) (enc : TypeId × Value → H) :
    ReturnsInHanded {} Try.checked os 3 .any (Rows.placeFewSpec.pre6 enc Try.prog Try.f3 Rows.placeFewRow.domain false) (Rows.placeFewSpec.post enc Try.prog Try.f3 false true false false) := by
  refine returnsInHanded_of_change (C := Try.checked) own started (by kernel_rfl) Try.func3
    (ChangeSpec.witness6 (enc := enc) (C := Try.checked) false ⟨#[], #[.slice none 0 0], []⟩ 8 (by kernel_rfl) (by kernel_rfl) (by kernel_rfl) (by kernel_rfl)) ?_
  intro W base args ds gs before hval0 hW hcnd _
  have hval : ∀ (j : Nat) t v, Try.f3.params[j]? = some t → args[j]? = some v → Value.okWide Try.prog W .any base t v := hval0
  have hW' := hW
  obtain ⟨p, q, hA0, hV, rfl, hfz, hnd⟩ := hW
  have hA : DataW.TrodAll enc Try.prog W 0 (fun _ => true) true Try.f3.params.toList args.toList ds p := hA0
  have hA1 := hA
  rw [Try.params3] at hA hval
  obtain ⟨v0, vs0, d0, ds0, p0, q0, hargs, rfl, rfl, h0, r0⟩ := trodAll_cons hA
  obtain ⟨rfl, rfl, rfl⟩ := trodAll_nil r0
  obtain rfl : args = #[v0] := by cases args; simp_all
  obtain ⟨rfl, rfl⟩ := trodVars_none hV
  obtain ⟨a0, len0, cap0, rfl⟩ := okWide_slice Try.underlying22 (hval 0 22 v0 rfl rfl)
  obtain ⟨l0, hof0⟩ : ∃ l, ArgsLike W (.slice a0 len0 cap0) l := by obtain ⟨_, hf⟩ := h0; exact openArgs hf
  simp only [List.append_nil] at hW'
  refine (few_law hof0 knownOk).ex.2.mono fun e W' ⟨v, he, hv, hx⟩ => ?_
  subst he
  subst hv
  exact ⟨_, rfl, post_of_ext (ds := [d0]) (gs := []) (pv := []) (by simpa using hW') hx (fun _ _ _ => (trodAll_cons_mk (shut_bool Try.underlying4 _) trodAll_mk0)) (fun sp hsp => args_stay k1b hx k1r hA1 (fun x hx' => hW'.lt x (by simpa using hx')) (fun x hx' => hsp x (by simpa using hx'))) (fun _ _ => rfl)
    (ok_one (by kernel_rfl) rfl (okWide_bool_mk Try.underlying4 _))⟩

theorem over : Rows.placeFewRow.holds Try.pinned (OpenSpec.ofChange Rows.placeFewSpec) :=
  OpenClaim.holds_of_wide 3 Try.f3 rfl rfl rfl rfl rfl rfl rfl ⟨rfl, rfl, rfl, rfl, rfl⟩ rfl rfl rfl rfl rfl (by kernel_rfl) Try.func3 (by kernel_rfl)
    (of_decide_eq_true (by kernel_rfl)) (by unfold Func.isWrapper; first | (rw [if_pos (by decide +kernel)]; kernel_rfl) | (rw [if_neg (by decide +kernel)]; exact ⟨rfl, rfl⟩))
    (fun os started H enc _ => lifted os started H enc)

/-- ████ THE STATEMENT ████ -/
theorem proved : Rows.PlaceFewSaid :=
  over
end Go.Proofs.Ytendijaeihljeaa.placeFew
