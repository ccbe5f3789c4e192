/- InterpSums: the statement: of any numbers the law's call answers true in any world. Began as the skeleton that the seat's proof-skeleton prints. -/
import Derived.Test.YtbhnelajekgliaaRows
import Derived.Test.YtbhnelajekgliaaA21
import Derived.Test.YtbhnelajekgliaaA22
import Derived.Test.YtbhnelajekgliaaArgs
import Derived.Test.YtbhnelajekgliaaIs9
import Derived.Deep.Slices
import Derived.Test.YtbhnelajekgliaaPost
namespace Go.Proofs.Ytbhnelajekgliaa.interpSums
open Go.ChangeShapes Go.WideShapes Go.ChangeAt Go.RowKit Go.Vc
set_option linter.unusedVariables false
theorem own : ownKnob Try.prog.godebug = none := by kernel_rfl
theorem mixed : Try.prog.follows .mixedOrders = true := by kernel_rfl
set_option maxRecDepth 1000000 in
theorem knownRuns : Go.Ab.okTrue (Go.Ab.callE Try.prog Go.Ab.noG 100000 100 7 [] ⟨0, .e⟩) = true := by kernel_rfl
theorem knownOk (W : World) : callD Try.prog 7 #[] W fun v w' => v = .bool true ∧ Ext W w' := Go.Ab.closed_true mixed knownRuns W
theorem c3 : Try.prog.cellsOf 3 = 1 := by kernel_rfl
theorem k1b : laidOutB Try.prog = true := by kernel_rfl
theorem k1r : (Try.f3.params.toList.all fun t => Try.prog.readableRec t && decide (t < Try.prog.types.size)) = true := by kernel_rfl
/-- The arguments of a raw node that came in. -/
theorem openArgs {H : Type} {enc : TypeId × Value → H} {W : World} {n : Nat} {c : Value} {y : DataW H × List MemPlace} (h : DataW.trod enc Try.prog W 0 (fun _ => true) true n 23 [c] = some y) : ∃ l, ArgsLike W c l := by
  rcases open_ints Try.underlying23 Try.underlying3 c3 h with ⟨hcs, _⟩ | ⟨a, len, cap, zs, hcs, _, hl, hm, hz, _, hcell, _⟩
  · cases hcs
    exact ⟨[], ⟨none, 0, rfl⟩, fun h => absurd h (Nat.lt_irrefl 0)⟩
  · cases hcs
    simp only [if_true] at hz
    have htl : (zs.take len).length = len := by simp; omega
    refine ⟨zs.take len, ⟨some a, cap, by rw [htl]⟩, fun h0 => ?_⟩
    obtain ⟨b, o, s⟩ := a
    obtain rfl : s = none := by simpa [Addr.add] using World.cell?_spot (hcell 0 (by omega))
    try unfold IntsAre
    rw [htl]
    refine ⟨by simp; omega, .inr ⟨b, o, cap, rfl, hl, hm, fun j u hj => ?_⟩⟩
    rw [List.getElem?_map, List.getElem?_take] at hj
    split at hj
    · rename_i hjl
      have hjz : j < zs.length := by omega
      rw [List.getElem?_eq_getElem hjz] at hj
      simp at hj
      subst hj
      have := hcell j hjz
      rw [add_mk] at this
      rw [this]
      simp [List.getD, hjz]
    · cases hj

theorem c5j : Try.prog.cellsOf 21 = 1 := by kernel_rfl
/-- The words that came in. -/
theorem openArgs32 {H : Type} {enc : TypeId × Value → H} {W : World} {n : Nat} {c : Value} {y : DataW H × List MemPlace} (h : DataW.trod enc Try.prog W 0 (fun _ => true) true n 22 [c] = some y) : ∃ l, Args32 W c l ∧ ∀ x ∈ l, R32 x := by
  rcases open_ints Try.underlying22 Try.underlying21 c5j h with ⟨hcs, _⟩ | ⟨a, len, cap, zs, hcs, _, hl, hm, hz, _, hcell, hwf⟩
  · cases hcs
    exact ⟨[], ⟨⟨none, 0, rfl⟩, fun h => absurd h (Nat.lt_irrefl 0)⟩, fun x hx => by cases hx⟩
  · cases hcs
    simp only [if_true] at hz
    have htl : (zs.take len).length = len := by simp; omega
    refine ⟨zs.take len, ⟨⟨some a, cap, by rw [htl]⟩, fun h0 => ?_⟩, fun x hx => ?_⟩
    rotate_left
    · have := hwf x (List.mem_of_mem_take hx)
      simp only [Lit.wf, Bool.and_eq_true, decide_eq_true_eq] at this
      have e3 : IntKind.min .i32 = -2147483648 := by decide
      have e4 : IntKind.max .i32 = 2147483647 := by decide
      unfold R32
      omega
    obtain ⟨b, o, s⟩ := a
    obtain rfl : s = none := by simpa [Addr.add] using World.cell?_spot (hcell 0 (by omega))
    rw [htl]
    refine ⟨by simp; omega, .inr ⟨b, o, cap, rfl, hl, hm, fun j u hj => ?_⟩⟩
    rw [List.getElem?_map, List.getElem?_take] at hj
    split at hj
    · rename_i hjl
      have hjz : j < zs.length := by omega
      rw [List.getElem?_eq_getElem hjz] at hj
      simp at hj
      subst hj
      have := hcell j hjz
      rw [add_mk] at this
      rw [this]
      simp [List.getD, hjz]
    · cases hj


set_option maxRecDepth 100000 in
theorem lifted (os : Os) (started : os.Started) (H : Type) (enc : TypeId × Value → H) :
    ReturnsInHanded {} Try.checked os 3 .any (Rows.interpSumsSpec.pre6 enc Try.prog Try.f3 Rows.interpSumsRow.domain false) (Rows.interpSumsSpec.post enc Try.prog Try.f3 false true false false) := by
  refine returnsInHanded_of_change (C := Try.checked) own started (by kernel_rfl) Try.func3
    (ChangeSpec.witness6 (enc := enc) (C := Try.checked) false ⟨#[], #[.slice none 0 0, .slice none 0 0], []⟩ 8 (by kernel_rfl) (by kernel_rfl) (by kernel_rfl) (by kernel_rfl)) ?_
  intro W base args ds gs before hval0 hW hcnd _
  have hval : ∀ (j : Nat) t v, Try.f3.params[j]? = some t → args[j]? = some v → Value.okWide Try.prog W .any base t v := hval0
  have hW' := hW
  obtain ⟨p, q, hA0, hV, rfl, hfz, hnd⟩ := hW
  have hA : DataW.TrodAll enc Try.prog W 0 (fun _ => true) true Try.f3.params.toList args.toList ds p := hA0
  have hA1 := hA
  rw [Try.params3] at hA hval
  obtain ⟨v0, vs0, d0, ds0, p0, q0, hargs, rfl, rfl, h0, r0⟩ := trodAll_cons hA
  obtain ⟨v1, vs1, d1, ds1, p1, q1, rfl, rfl, rfl, h1, r1⟩ := trodAll_cons r0
  obtain ⟨rfl, rfl, rfl⟩ := trodAll_nil r1
  obtain rfl : args = #[v0, v1] := by cases args; simp_all
  obtain ⟨rfl, rfl⟩ := trodVars_none hV
  obtain ⟨a0, len0, cap0, rfl⟩ := okWide_slice Try.underlying22 (hval 0 22 v0 rfl rfl)
  obtain ⟨l0, hof0⟩ : ∃ l, Args32 W (.slice a0 len0 cap0) l ∧ ∀ x ∈ l, R32 x := by obtain ⟨_, hf⟩ := h0; exact openArgs32 hf
  obtain ⟨a1, len1, cap1, rfl⟩ := okWide_slice Try.underlying23 (hval 1 23 v1 rfl rfl)
  obtain ⟨l1, hof1⟩ : ∃ l, ArgsLike W (.slice a1 len1 cap1) l := by obtain ⟨_, hf⟩ := h1; exact openArgs hf
  simp only [List.append_nil] at hW'
  refine (sums_law hof0 hof1 knownOk).ex.2.mono fun e W' ⟨v, he, hv, hx⟩ => ?_
  subst he
  subst hv
  exact ⟨_, rfl, post_of_ext (ds := [d0, d1]) (gs := []) (pv := []) (by simpa using hW') hx (fun _ _ _ => (trodAll_cons_mk (shut_bool Try.underlying4 _) trodAll_mk0)) (fun sp hsp => args_stay k1b hx k1r hA1 (fun x hx' => hW'.lt x (by simpa using hx')) (fun x hx' => hsp x (by simpa using hx'))) (fun _ _ => rfl)
    (ok_one (by kernel_rfl) rfl (okWide_bool_mk Try.underlying4 _))⟩

theorem over : Rows.interpSumsRow.holds Try.pinned (OpenSpec.ofChange Rows.interpSumsSpec) :=
  OpenClaim.holds_of_wide 3 Try.f3 rfl rfl rfl rfl rfl rfl rfl ⟨rfl, rfl, rfl, rfl, rfl⟩ rfl rfl rfl rfl rfl (by kernel_rfl) Try.func3 (by kernel_rfl)
    (of_decide_eq_true (by kernel_rfl)) (by unfold Func.isWrapper; first | (rw [if_pos (by decide +kernel)]; kernel_rfl) | (rw [if_neg (by decide +kernel)]; exact ⟨rfl, rfl⟩))
    (fun os started H enc _ => lifted os started H enc)

/-- ████ THE STATEMENT ████ -/
theorem proved : Rows.InterpSumsSaid :=
  over
end Go.Proofs.Ytbhnelajekgliaa.interpSums
