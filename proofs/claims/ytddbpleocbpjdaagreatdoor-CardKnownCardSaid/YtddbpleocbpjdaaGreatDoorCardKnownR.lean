/- CardKnown: the card: the closed call, which answers true (by its own text), as the row wants it. Began as the skeleton that the seat's proof-skeleton prints. -/
import Derived.Test.YtddbpleocbpjdaaGreatDoorRows
import Derived.Test.YtddbpleocbpjdaaGreatDoorCards
import Derived.Test.YtddbpleocbpjdaaGreatDoorTie
import Derived.Test.YtddbpleocbpjdaaGreatDoorCardKnownQ
import Derived.Test.YtddbpleocbpjdaaGreatDoorPost
import Derived.Lay
import Derived.LaidOnce
import Derived.SevenTiedAt
import Derived.MakeChecks
namespace Go.Proofs.YtddbpleocbpjdaaGreatDoor.cardKnown
open Go.ChangeShapes Go.WideShapes Go.ChangeAt Go.RowKit Go.Vc
set_option linter.unusedVariables false
theorem own : ownKnob Tryz.prog.godebug = none := by kernel_rfl
set_option maxRecDepth 100000 in
theorem lifted (os : Os) (started : os.Started) (H : Type) (enc : TypeId × Value → H) :
    ReturnsInHanded {} Tryz.checked os 4 .any (fun w args => (Rows.cardKnownSpec.pre enc Tryz.prog Tryz.f4 Rows.cardKnownRow.domain false w args ∧ laidMetH Tryz.prog Rows.cardKnownRow.laid w) ∧ sizedMet enc Tryz.prog Tryz.f4 (OpenSpec.ofChange Rows.cardKnownSpec) false w args)
      (Rows.cardKnownSpec.post enc Tryz.prog Tryz.f4 false true false false) := by
  refine returnsInHanded_of_change_and (C := Tryz.checked) (X := fun w _ => laidMetH Tryz.prog Rows.cardKnownRow.laid w) (fun _ _ _ hh h => h.of_heap hh) own started (by kernel_rfl) Tryz.func4
    (ChangeSpec.witness_shaped (enc := enc) (C := Tryz.checked) (os := os) (X := fun w _ => laidMetH Tryz.prog Rows.cardKnownRow.laid w) false (World.laidAll Tryz.prog os Rows.cardKnownRow.laid) #[] 8 (World.laidAll_os _ _ _)
      (World.shaped_of_ZipB (by kernel_rfl) (by kernel_rfl)) (by kernel_rfl) (by kernel_rfl) (by kernel_rfl)
      (by rw [MakeChecks.laidMetH_plain _ _ _ (by kernel_rfl)]; exact laidMet_laidAll _ (by kernel_rfl) (by kernel_rfl))) ?_
  intro W base args ds gs before hval0 hW hcnd _ hL _
  have hval : ∀ (j : Nat) t v, Tryz.f4.params[j]? = some t → args[j]? = some v → Value.okWide Tryz.prog W .any base t v := hval0
  have hW' := hW
  obtain ⟨p, q, hA0, hV, rfl, hfz, hnd⟩ := hW
  have hA : DataW.TrodAll enc Tryz.prog W 0 (fun _ => true) true Tryz.f4.params.toList args.toList ds p := hA0
  rw [Tryz.params4] at hA hval
  obtain ⟨rfl, rfl, rfl⟩ := trodAll_none hA
  obtain ⟨rfl, rfl⟩ := trodVars_none hV
  clear hA0 hval0
  simp only [List.append_nil] at hW'
  refine (ok W).ex.2.mono fun e W' ⟨v, he, hv, hx⟩ => ?_
  subst he
  subst hv
  exact ⟨_, rfl, post_of_ext (pa := []) (pv := []) hW' hx (fun _ _ _ => (trodAll_cons_mk (shut_bool Tryz.underlying4 _) trodAll_mk0)) (fun sp _ => rfl) (fun _ _ => rfl)
    (ok_one (by kernel_rfl) rfl (okWide_bool_mk Tryz.underlying4 _))⟩

/-! The row's closed facts, one by one: together they are more than one check of the kernel's holds. -/
theorem k1 : (Rows.cardKnownRow.wf (OpenSpec.ofChange Rows.cardKnownSpec) && laidOutB Tryz.prog) = true := by kernel_rfl
theorem k2 : mapsRowed Tryz.prog = true := by kernel_rfl
theorem k3 : (Tryz.f4.params.all (Tryz.prog.readableRec ·) && namedTie Tryz.prog Rows.cardKnownRow.named Rows.cardKnownSpec.vars) = true := by kernel_rfl
theorem k4 : ((Rows.cardKnownRow.stops == []) && (Tryz.prog.stops == []) && (Rows.cardKnownRow.knobs == []) && (Tryz.prog.stopKnobs == [])) = true := by kernel_rfl
theorem k5 : (Rows.cardKnownRow.inPlace == Tryz.prog.inPlace 4) = true := by kernel_rfl
theorem k6 : (Rows.cardKnownRow.unfollowed == Tryz.prog.unfollowed 4) = true := by kernel_rfl
theorem k7 : (Rows.cardKnownRow.recurses == Tryz.prog.recurses 4) = true := by kernel_rfl
theorem k8 : (Rows.cardKnownRow.named == Tryz.prog.varsNamed 4) = true := by kernel_rfl
theorem k9 : ((Rows.cardKnownRow.maps == (Tryz.f4.params.toList ++ Rows.cardKnownSpec.plain.varTypes Tryz.prog).any (Tryz.prog.mapsRec ·)) && (Rows.cardKnownRow.ifaces == (Tryz.f4.params.toList ++ Rows.cardKnownSpec.plain.varTypes Tryz.prog).any (Tryz.prog.ifacesRec ·)) && (Rows.cardKnownRow.mapsOut == Tryz.prog.mapsAmong Tryz.f4.resultTypes.toList)) = true := by kernel_rfl
theorem k10 : ((Rows.cardKnownRow.loops == (Tryz.f4.params.toList ++ Rows.cardKnownSpec.plain.varTypes Tryz.prog).any (Tryz.prog.loopsFrom ·)) && (Rows.cardKnownRow.wideKeys == (Tryz.f4.params.toList ++ Rows.cardKnownSpec.plain.varTypes Tryz.prog ++ Tryz.f4.resultTypes.toList).any (Tryz.prog.wideKeysFrom ·))) = true := by kernel_rfl
theorem k11 : (Rows.cardKnownSpec.vars.all (Tryz.prog.varReadable ·) && Tryz.f4.resultTypes.all (fun t => Tryz.prog.readableRec t && decide (t < Tryz.prog.types.size))) = true := by kernel_rfl
theorem k12 : ((Rows.cardKnownRow.ifacesOut == Tryz.f4.resultTypes.toList.any (Tryz.prog.ifacesRec ·)) && (Rows.cardKnownRow.loopsOut == Tryz.f4.resultTypes.toList.any (Tryz.prog.loopsFrom ·))) = true := by kernel_rfl
theorem k13 : (Rows.cardKnownRow.plainKeys == Tryz.prog.plainKeys) = true := by kernel_rfl
theorem k14 : (Rows.cardKnownRow.shortTexts.isNone && Tryz.prog.stopsHeard) = true := by kernel_rfl
theorem k15 : Tryz.prog.mayEnter = true := by kernel_rfl
theorem k16 : ((Rows.cardKnownRow.lifted == Tryz.prog.liftsFinal) && (Tryz.prog.make == some Rows.cardKnownRow.make)) = true := by kernel_rfl
theorem k17 : ((Rows.cardKnownRow.kinds == (if Rows.cardKnownRow.domain.isEmpty then [] else Tryz.f4.params.toList.map fun t => match Tryz.prog.underlying t with | some (.int k) => some k | _ => none)) && (Rows.cardKnownRow.pinned == Rows.cardKnownRow.pinnedBy)) = true := by kernel_rfl
theorem k18 : (Rows.cardKnownRow.veiled == (Tryz.f4.params.toList ++ Rows.cardKnownSpec.plain.varTypes Tryz.prog ++ Tryz.f4.resultTypes.toList).any (Tryz.prog.veiledRec ·)) = true := by kernel_rfl
theorem k19 : Rows.cardKnownRow.veiledFits Tryz.prog Tryz.f4.params.toList (Tryz.f4.params.toList ++ Rows.cardKnownSpec.plain.varTypes Tryz.prog ++ Tryz.f4.resultTypes.toList) = true := by kernel_rfl
end Go.Proofs.YtddbpleocbpjdaaGreatDoor.cardKnown
