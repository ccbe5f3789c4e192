/- PlaceLifts: the law, lifted over what came in; the row's closed facts. Began as the skeleton that the seat's proof-skeleton prints. -/
import Derived.Test.YtcdbikfnlggbnaaGreatDoorKh
import Derived.Test.YtcdbikfnlggbnaaGreatDoorPlaceLiftsO
namespace Go.Proofs.YtcdbikfnlggbnaaGreatDoor.placeLifts
open Go.ChangeShapes Go.WideShapes Go.ChangeAt Go.RowKit Go.Vc
set_option linter.unusedVariables false
set_option maxRecDepth 100000 in
theorem lifted (os : Os) (started : os.Started) (H : Type) (enc : TypeId × Value → H) :
    ReturnsInHanded {} Tryz.checked os 7 .any (fun w args => (Rows.placeLiftsSpec.pre enc Tryz.prog Tryz.f7 Rows.placeLiftsRow.domain false w args ∧ laidMetH Tryz.prog Rows.placeLiftsRow.laid w) ∧ sizedMet enc Tryz.prog Tryz.f7 (OpenSpec.ofChange Rows.placeLiftsSpec) false w args)
      (Rows.placeLiftsSpec.post enc Tryz.prog Tryz.f7 false true false false) := by
  refine returnsInHanded_of_change_and (C := Tryz.checked) (X := fun w _ => laidMetH Tryz.prog Rows.placeLiftsRow.laid w) (fun _ _ _ hh h => h.of_heap hh) own started (by kernel_rfl) Tryz.func7
    (ChangeSpec.witness_shaped (enc := enc) (C := Tryz.checked) (os := os) (X := fun w _ => laidMetH Tryz.prog Rows.placeLiftsRow.laid w) false (World.laidAll Tryz.prog os Rows.placeLiftsRow.laid) #[.slice none 0 0] 8 (World.laidAll_os _ _ _)
      (World.shaped_of_ZipB (by kernel_rfl) (by kernel_rfl)) (by kernel_rfl) (by kernel_rfl) (by kernel_rfl)
      (by rw [MakeChecks.laidMetH_plain _ _ _ (by kernel_rfl)]; exact laidMet_laidAll _ (by kernel_rfl) (by kernel_rfl))) ?_
  intro W base args ds gs before hval0 hW hcnd hZ hL hS
  have hval : ∀ (j : Nat) t v, Tryz.f7.params[j]? = some t → args[j]? = some v → Value.okWide Tryz.prog W .any base t v := hval0
  have hW' := hW
  obtain ⟨p, q, hA0, hV, rfl, hfz, hnd⟩ := hW
  have hA : DataW.TrodAll enc Tryz.prog W 0 (fun _ => true) true Tryz.f7.params.toList args.toList ds p := hA0
  have hA1 := hA
  rw [Tryz.params7] at hA hval
  obtain ⟨v0, vs0, d0, ds0, p0, q0, hargs, rfl, rfl, h0, r0⟩ := trodAll_cons hA
  obtain ⟨rfl, rfl, rfl⟩ := trodAll_nil r0
  obtain rfl : args = #[v0] := by cases args; simp_all
  obtain ⟨rfl, rfl⟩ := trodVars_none hV
  obtain ⟨rl0, hr0, hw0⟩ := openRaws (hval 0 22 v0 rfl rfl) h0
  have rn0 : rl0.length ≤ 5000000000000 := by
    have := hw0 reachBytes fun n hn => of_decide_eq_true (List.all_eq_true.1 hZ n (DataW.weights_mem_each (j := 0) (t := 22) (d := d0) (by rw [Tryz.params7]; rfl) rfl n hn))
    have e : reachBytes = 140737488351232 := rfl
    omega
  simp only [List.append_nil] at hW'
  refine (places7 hr0 (binsOk W hL) (tabsOk W hL) rn0 (fun _ => known20)).ex.2.mono fun e W' ⟨v, he, hv, hx⟩ => ?_
  subst he
  subst hv
  exact ⟨_, rfl, post_of_ext (ds := [d0]) (gs := []) (pv := []) (by simpa using hW') hx (fun _ _ _ => (trodAll_cons_mk (shut_bool Tryz.underlying4 _) trodAll_mk0)) (fun sp hsp => args_stay k1b hx k1r hA1 (fun x hx' => hW'.lt x (by simpa using hx')) (fun x hx' => hsp x (by simpa using hx'))) (fun _ _ => rfl)
    (ok_one (by kernel_rfl) rfl (okWide_bool_mk Tryz.underlying4 _))⟩

/-! The row's closed facts, one by one: together they are more than one check of the kernel's holds. -/
theorem k1 : (Rows.placeLiftsRow.wf (OpenSpec.ofChange Rows.placeLiftsSpec) && laidOutB Tryz.prog) = true := by kernel_rfl
theorem k2 : mapsRowed Tryz.prog = true := by kernel_rfl
theorem k3 : (Tryz.f7.params.all (Tryz.prog.readableRec ·) && namedTie Tryz.prog Rows.placeLiftsRow.named Rows.placeLiftsSpec.vars) = true := by kernel_rfl
theorem k4 : ((Rows.placeLiftsRow.stops == []) && (Tryz.prog.stops == []) && (Rows.placeLiftsRow.knobs == []) && (Tryz.prog.stopKnobs == [])) = true := by kernel_rfl
theorem k5 : (Rows.placeLiftsRow.inPlace == Tryz.prog.inPlace 7) = true := by kernel_rfl
theorem k6 : (Rows.placeLiftsRow.unfollowed == Tryz.prog.unfollowed 7) = true := by kernel_rfl
theorem k7 : (Rows.placeLiftsRow.recurses == Tryz.prog.recurses 7) = true := by kernel_rfl
theorem k8 : (Rows.placeLiftsRow.named == Tryz.prog.varsNamed 7) = true := by kernel_rfl
theorem k9 : ((Rows.placeLiftsRow.maps == (Tryz.f7.params.toList ++ Rows.placeLiftsSpec.plain.varTypes Tryz.prog).any (Tryz.prog.mapsRec ·)) && (Rows.placeLiftsRow.ifaces == (Tryz.f7.params.toList ++ Rows.placeLiftsSpec.plain.varTypes Tryz.prog).any (Tryz.prog.ifacesRec ·)) && (Rows.placeLiftsRow.mapsOut == Tryz.prog.mapsAmong Tryz.f7.resultTypes.toList)) = true := by kernel_rfl
theorem k10 : ((Rows.placeLiftsRow.loops == (Tryz.f7.params.toList ++ Rows.placeLiftsSpec.plain.varTypes Tryz.prog).any (Tryz.prog.loopsFrom ·)) && (Rows.placeLiftsRow.wideKeys == (Tryz.f7.params.toList ++ Rows.placeLiftsSpec.plain.varTypes Tryz.prog ++ Tryz.f7.resultTypes.toList).any (Tryz.prog.wideKeysFrom ·))) = true := by kernel_rfl
theorem k11 : (Rows.placeLiftsSpec.vars.all (Tryz.prog.varReadable ·) && Tryz.f7.resultTypes.all (fun t => Tryz.prog.readableRec t && decide (t < Tryz.prog.types.size))) = true := by kernel_rfl
theorem k12 : ((Rows.placeLiftsRow.ifacesOut == Tryz.f7.resultTypes.toList.any (Tryz.prog.ifacesRec ·)) && (Rows.placeLiftsRow.loopsOut == Tryz.f7.resultTypes.toList.any (Tryz.prog.loopsFrom ·))) = true := by kernel_rfl
theorem k13 : (Rows.placeLiftsRow.plainKeys == Tryz.prog.plainKeys) = true := by kernel_rfl
theorem k14 : (Rows.placeLiftsRow.shortTexts.isNone && Tryz.prog.stopsHeard) = true := by kernel_rfl
theorem k15 : Tryz.prog.mayEnter = true := by kernel_rfl
theorem k16 : ((Rows.placeLiftsRow.lifted == Tryz.prog.liftsFinal) && (Tryz.prog.make == some Rows.placeLiftsRow.make)) = true := by kernel_rfl
theorem k17 : ((Rows.placeLiftsRow.kinds == (if Rows.placeLiftsRow.domain.isEmpty then [] else Tryz.f7.params.toList.map fun t => match Tryz.prog.underlying t with | some (.int k) => some k | _ => none)) && (Rows.placeLiftsRow.pinned == Rows.placeLiftsRow.pinnedBy)) = true := by kernel_rfl
theorem k18 : (Rows.placeLiftsRow.veiled == (Tryz.f7.params.toList ++ Rows.placeLiftsSpec.plain.varTypes Tryz.prog ++ Tryz.f7.resultTypes.toList).any (Tryz.prog.veiledRec ·)) = true := by kernel_rfl
theorem k19 : Rows.placeLiftsRow.veiledFits Tryz.prog Tryz.f7.params.toList (Tryz.f7.params.toList ++ Rows.placeLiftsSpec.plain.varTypes Tryz.prog ++ Tryz.f7.resultTypes.toList) = true := by kernel_rfl
end Go.Proofs.YtcdbikfnlggbnaaGreatDoor.placeLifts
