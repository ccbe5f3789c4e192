/- TwinKnown: the card: the closed call, evaluated by the kernel, answers true in any world that holds the listed variables. Began as the skeleton that the seat's proof-skeleton prints. -/
import Derived.Test.YtmhplplopdgfbaaGreatDoorRows
import Derived.Test.YtmhplplopdgfbaaGreatDoorCards
import Derived.Test.YtmhplplopdgfbaaGreatDoorTie
import Derived.Test.YtmhplplopdgfbaaGreatDoorA21
import Derived.Test.YtmhplplopdgfbaaGreatDoorPost
import Derived.Lay
import Derived.LaidOnce
import Derived.SevenTiedAt
import Derived.MakeChecks
namespace Go.Proofs.YtmhplplopdgfbaaGreatDoor.twinKnown
open Go.ChangeShapes Go.WideShapes Go.ChangeAt Go.RowKit Go.Vc
set_option linter.unusedVariables false
theorem own : ownKnob Tryz.prog.godebug = none := by kernel_rfl
theorem mixed : Tryz.prog.follows .mixedOrders = true := by kernel_rfl
set_option maxRecDepth 1000000 in
theorem runs : Go.Ab.okTrue (Go.Ab.callE Tryz.prog Go.Ab.noG 100000 100 6 [] ⟨0, .e⟩) = true := by kernel_rfl
theorem ok (W : World) : callD Tryz.prog 6 #[] W fun v w' => v = .bool true ∧ Ext W w' := Go.Ab.closed_true mixed runs W

set_option maxRecDepth 100000 in
theorem lifted (os : Os) (started : os.Started) (H : Type) (enc : TypeId × Value → H) :
    ReturnsInHanded {} Tryz.checked os 6 .any (fun w args => (Rows.twinKnownSpec.pre enc Tryz.prog Tryz.f6 Rows.twinKnownRow.domain false w args ∧ laidMetH Tryz.prog Rows.twinKnownRow.laid w) ∧ sizedMet enc Tryz.prog Tryz.f6 (OpenSpec.ofChange Rows.twinKnownSpec) false w args)
      (Rows.twinKnownSpec.post enc Tryz.prog Tryz.f6 false true false false) := by
  refine returnsInHanded_of_change_and (C := Tryz.checked) (X := fun w _ => laidMetH Tryz.prog Rows.twinKnownRow.laid w) (fun _ _ _ hh h => h.of_heap hh) own started (by kernel_rfl) Tryz.func6
    (ChangeSpec.witness_shaped (enc := enc) (C := Tryz.checked) (os := os) (X := fun w _ => laidMetH Tryz.prog Rows.twinKnownRow.laid w) false (World.laidAll Tryz.prog os Rows.twinKnownRow.laid) #[] 8 (World.laidAll_os _ _ _)
      (World.shaped_of_ZipB (by kernel_rfl) (by kernel_rfl)) (by kernel_rfl) (by kernel_rfl) (by kernel_rfl)
      (by rw [MakeChecks.laidMetH_plain _ _ _ (by kernel_rfl)]; exact laidMet_laidAll _ (by kernel_rfl) (by kernel_rfl))) ?_
  intro W base args ds gs before hval0 hW hcnd _ hL _
  have hval : ∀ (j : Nat) t v, Tryz.f6.params[j]? = some t → args[j]? = some v → Value.okWide Tryz.prog W .any base t v := hval0
  have hW' := hW
  obtain ⟨p, q, hA0, hV, rfl, hfz, hnd⟩ := hW
  have hA : DataW.TrodAll enc Tryz.prog W 0 (fun _ => true) true Tryz.f6.params.toList args.toList ds p := hA0
  rw [Tryz.params6] at hA hval
  obtain ⟨rfl, rfl, rfl⟩ := trodAll_none hA
  obtain ⟨rfl, rfl⟩ := trodVars_none hV
  clear hA0 hval0
  simp only [List.append_nil] at hW'
  refine (ok W).ex.2.mono fun e W' ⟨v, he, hv, hx⟩ => ?_
  subst he
  subst hv
  exact ⟨_, rfl, post_of_ext (pa := []) (pv := []) hW' hx (fun _ _ _ => (trodAll_cons_mk (shut_bool Tryz.underlying4 _) trodAll_mk0)) (fun sp _ => rfl) (fun _ _ => rfl)
    (ok_one (by kernel_rfl) rfl (okWide_bool_mk Tryz.underlying4 _))⟩

/-! The row's closed facts, one by one: together they are more than one check of the kernel's holds. -/
theorem k1 : (Rows.twinKnownRow.wf (OpenSpec.ofChange Rows.twinKnownSpec) && laidOutB Tryz.prog) = true := by kernel_rfl
theorem k2 : mapsRowed Tryz.prog = true := by kernel_rfl
theorem k3 : (Tryz.f6.params.all (Tryz.prog.readableRec ·) && namedTie Tryz.prog Rows.twinKnownRow.named Rows.twinKnownSpec.vars) = true := by kernel_rfl
theorem k4 : ((Rows.twinKnownRow.stops == []) && (Tryz.prog.stops == []) && (Rows.twinKnownRow.knobs == []) && (Tryz.prog.stopKnobs == [])) = true := by kernel_rfl
theorem k5 : (Rows.twinKnownRow.inPlace == Tryz.prog.inPlace 6) = true := by kernel_rfl
theorem k6 : (Rows.twinKnownRow.unfollowed == Tryz.prog.unfollowed 6) = true := by kernel_rfl
theorem k7 : (Rows.twinKnownRow.recurses == Tryz.prog.recurses 6) = true := by kernel_rfl
theorem k8 : (Rows.twinKnownRow.named == Tryz.prog.varsNamed 6) = true := by kernel_rfl
theorem k9 : ((Rows.twinKnownRow.maps == (Tryz.f6.params.toList ++ Rows.twinKnownSpec.plain.varTypes Tryz.prog).any (Tryz.prog.mapsRec ·)) && (Rows.twinKnownRow.ifaces == (Tryz.f6.params.toList ++ Rows.twinKnownSpec.plain.varTypes Tryz.prog).any (Tryz.prog.ifacesRec ·)) && (Rows.twinKnownRow.mapsOut == Tryz.prog.mapsAmong Tryz.f6.resultTypes.toList)) = true := by kernel_rfl
theorem k10 : ((Rows.twinKnownRow.loops == (Tryz.f6.params.toList ++ Rows.twinKnownSpec.plain.varTypes Tryz.prog).any (Tryz.prog.loopsFrom ·)) && (Rows.twinKnownRow.wideKeys == (Tryz.f6.params.toList ++ Rows.twinKnownSpec.plain.varTypes Tryz.prog ++ Tryz.f6.resultTypes.toList).any (Tryz.prog.wideKeysFrom ·))) = true := by kernel_rfl
theorem k11 : (Rows.twinKnownSpec.vars.all (Tryz.prog.varReadable ·) && Tryz.f6.resultTypes.all (fun t => Tryz.prog.readableRec t && decide (t < Tryz.prog.types.size))) = true := by kernel_rfl
theorem k12 : ((Rows.twinKnownRow.ifacesOut == Tryz.f6.resultTypes.toList.any (Tryz.prog.ifacesRec ·)) && (Rows.twinKnownRow.loopsOut == Tryz.f6.resultTypes.toList.any (Tryz.prog.loopsFrom ·))) = true := by kernel_rfl
theorem k13 : (Rows.twinKnownRow.plainKeys == Tryz.prog.plainKeys) = true := by kernel_rfl
theorem k14 : (Rows.twinKnownRow.shortTexts.isNone && Tryz.prog.stopsHeard) = true := by kernel_rfl
theorem k15 : Tryz.prog.mayEnter = true := by kernel_rfl
theorem k16 : ((Rows.twinKnownRow.lifted == Tryz.prog.liftsFinal) && (Tryz.prog.make == some Rows.twinKnownRow.make)) = true := by kernel_rfl
theorem k17 : ((Rows.twinKnownRow.kinds == (if Rows.twinKnownRow.domain.isEmpty then [] else Tryz.f6.params.toList.map fun t => match Tryz.prog.underlying t with | some (.int k) => some k | _ => none)) && (Rows.twinKnownRow.pinned == Rows.twinKnownRow.pinnedBy)) = true := by kernel_rfl
theorem k18 : (Rows.twinKnownRow.veiled == (Tryz.f6.params.toList ++ Rows.twinKnownSpec.plain.varTypes Tryz.prog ++ Tryz.f6.resultTypes.toList).any (Tryz.prog.veiledRec ·)) = true := by kernel_rfl
theorem k19 : Rows.twinKnownRow.veiledFits Tryz.prog Tryz.f6.params.toList (Tryz.f6.params.toList ++ Rows.twinKnownSpec.plain.varTypes Tryz.prog ++ Tryz.f6.resultTypes.toList) = true := by kernel_rfl
end Go.Proofs.YtmhplplopdgfbaaGreatDoor.twinKnown
