/- RoomKnown: the card: the closed call, evaluated by the kernel, answers true in any world that holds the listed variables. Began as the skeleton that the seat's proof-skeleton prints. -/
import Derived.Test.YtmhplplopdgfbaaDoorRows
import Derived.Test.YtmhplplopdgfbaaDoorCards
import Derived.Test.YtmhplplopdgfbaaDoorTie
import Derived.Test.YtmhplplopdgfbaaDoorA21
import Derived.Test.YtmhplplopdgfbaaDoorPost
import Derived.Lay
import Derived.LaidOnce
import Derived.SevenTiedAt
import Derived.MakeChecks
namespace Go.Proofs.YtmhplplopdgfbaaDoor.roomKnown
open Go.ChangeShapes Go.WideShapes Go.ChangeAt Go.RowKit Go.Vc
set_option linter.unusedVariables false
theorem own : ownKnob Tryd.prog.godebug = none := by kernel_rfl
theorem mixed : Tryd.prog.follows .mixedOrders = true := by kernel_rfl
def zs : List Int := [6, 7, 8, 9, 10, 11, 12, 13, 14, 19, 20, 21]
set_option maxRecDepth 1000000 in
theorem runs : Go.Ab.okTrue (Go.Ab.callE Tryd.prog (Go.Ab.G1 0) 100000 100 3 [] (Go.Ab.st1 0 (zs.map fun z => .int .i64 z))) = true := by kernel_rfl
theorem laidAt (W : World) (hL : laidMetH Tryd.prog Rows.roomKnownRow.laid W) : Go.Ab.HoldsAt W 0 (zs.map fun z => .int .i64 z) := by
  rw [MakeChecks.laidMetH_plain _ _ _ (by kernel_rfl)] at hL
  exact Go.Ab.holds_of_laid (x := "taciturn/taciturnhand.bins") (t := 175) (e := 3) (m := 12) (rest := Rows.roomKnownRow.laid.tail) (by kernel_rfl) (by kernel_rfl) (by kernel_rfl) (by kernel_rfl) (by kernel_rfl) (by kernel_rfl) hL
theorem ok (W : World) (hL : laidMetH Tryd.prog Rows.roomKnownRow.laid W) : callD Tryd.prog 3 #[] W fun v w' => v = .bool true ∧ Ext W w' :=
  Go.Ab.closed_true1 mixed (by kernel_rfl) runs W (laidAt W hL)

set_option maxRecDepth 100000 in
theorem lifted (os : Os) (started : os.Started) (H : Type) (enc : TypeId × Value → H) :
    ReturnsInHanded {} Tryd.checked os 3 .any (fun w args => (Rows.roomKnownSpec.pre enc Tryd.prog Tryd.f3 Rows.roomKnownRow.domain false w args ∧ laidMetH Tryd.prog Rows.roomKnownRow.laid w) ∧ sizedMet enc Tryd.prog Tryd.f3 (OpenSpec.ofChange Rows.roomKnownSpec) false w args)
      (Rows.roomKnownSpec.post enc Tryd.prog Tryd.f3 false true false false) := by
  refine returnsInHanded_of_change_and (C := Tryd.checked) (X := fun w _ => laidMetH Tryd.prog Rows.roomKnownRow.laid w) (fun _ _ _ hh h => h.of_heap hh) own started (by kernel_rfl) Tryd.func3
    (ChangeSpec.witness_shaped (enc := enc) (C := Tryd.checked) (os := os) (X := fun w _ => laidMetH Tryd.prog Rows.roomKnownRow.laid w) false (World.laidAll Tryd.prog os Rows.roomKnownRow.laid) #[] 8 (World.laidAll_os _ _ _)
      (World.shaped_of_ZipB (by kernel_rfl) (by kernel_rfl)) (by kernel_rfl) (by kernel_rfl) (by kernel_rfl)
      (by rw [MakeChecks.laidMetH_plain _ _ _ (by kernel_rfl)]; exact laidMet_laidAll _ (by kernel_rfl) (by kernel_rfl))) ?_
  intro W base args ds gs before hval0 hW hcnd _ hL _
  have hval : ∀ (j : Nat) t v, Tryd.f3.params[j]? = some t → args[j]? = some v → Value.okWide Tryd.prog W .any base t v := hval0
  have hW' := hW
  obtain ⟨p, q, hA0, hV, rfl, hfz, hnd⟩ := hW
  have hA : DataW.TrodAll enc Tryd.prog W 0 (fun _ => true) true Tryd.f3.params.toList args.toList ds p := hA0
  rw [Tryd.params3] at hA hval
  obtain ⟨rfl, rfl, rfl⟩ := trodAll_none hA
  obtain ⟨rfl, rfl⟩ := trodVars_none hV
  clear hA0 hval0
  simp only [List.append_nil] at hW'
  refine (ok W hL).ex.2.mono fun e W' ⟨v, he, hv, hx⟩ => ?_
  subst he
  subst hv
  exact ⟨_, rfl, post_of_ext (pa := []) (pv := []) hW' hx (fun _ _ _ => (trodAll_cons_mk (shut_bool Tryd.underlying4 _) trodAll_mk0)) (fun sp _ => rfl) (fun _ _ => rfl)
    (ok_one (by kernel_rfl) rfl (okWide_bool_mk Tryd.underlying4 _))⟩

theorem over : Rows.roomKnownRow.holds Tryd.pinned (OpenSpec.ofChange Rows.roomKnownSpec) :=
  OpenClaim.holds_of_wide 3 Tryd.f3 rfl rfl rfl rfl rfl rfl rfl ⟨rfl, rfl, rfl, rfl, rfl⟩ rfl rfl rfl rfl rfl (by kernel_rfl) Tryd.func3 (by kernel_rfl)
    (of_decide_eq_true (by kernel_rfl)) (by unfold Func.isWrapper; first | (rw [if_pos (by decide +kernel)]; kernel_rfl) | (rw [if_neg (by decide +kernel)]; exact ⟨rfl, rfl⟩))
    (fun os started H enc _ => lifted os started H enc)

/-- ████ THE STATEMENT ████ -/
theorem proved : Rows.RoomKnownCardSaid :=
  Claim7.holds_tied_plain_at .later [] [.data] true (true, "7b70739ba252f79629b9bf3cae9be746513f1530a4ab7039593bb945655c4886") true over (fun _ h => by cases h) (by kernel_rfl) (fun _ h => by cases h) roomKnown_row_tie rfl ⟨rfl, rfl⟩ (by kernel_rfl) rfl
    (fun f fn hf hfn => by
      obtain rfl : f = 3 := Option.some.inj ((show Tryd.prog.funcNamed Rows.roomKnownRow.func = some 3 by kernel_rfl).symm.trans hf) |>.symm
      obtain rfl : fn = Tryd.f3 := (Option.some.inj (Tryd.func3.symm.trans hfn)).symm
      exact ⟨by kernel_rfl, fun j t ht => by
        rw [Tryd.params3] at ht
        simp at ht⟩)
    (by kernel_rfl)
end Go.Proofs.YtmhplplopdgfbaaDoor.roomKnown
