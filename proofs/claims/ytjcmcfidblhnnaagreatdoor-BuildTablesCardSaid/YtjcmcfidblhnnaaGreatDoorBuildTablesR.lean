/- BuildTables: the law, lifted over what came in; the row's closed facts. Began as the skeleton that the seat's proof-skeleton prints. -/
import Derived.Test.YtjcmcfidblhnnaaGreatDoorTi
import Derived.Test.YtjcmcfidblhnnaaGreatDoorBuildTablesO
namespace Go.Proofs.YtjcmcfidblhnnaaGreatDoor.buildTables
open Go.ChangeShapes Go.WideShapes Go.ChangeAt Go.RowKit Go.Vc
set_option linter.unusedVariables false
set_option maxRecDepth 100000 in
theorem lifted (os : Os) (started : os.Started) (H : Type) (enc : TypeId × Value → H) :
    ReturnsInHanded {} Tryz.checked os 4 .any (fun w args => (Rows.buildTablesSpec.pre enc Tryz.prog Tryz.f4 Rows.buildTablesRow.domain false w args ∧ laidMetH Tryz.prog Rows.buildTablesRow.laid w) ∧ sizedMet enc Tryz.prog Tryz.f4 (OpenSpec.ofChange Rows.buildTablesSpec) false w args)
      (Rows.buildTablesSpec.post enc Tryz.prog Tryz.f4 false true false false) := by
  refine returnsInHanded_of_change_and (C := Tryz.checked) (X := fun w _ => laidMetH Tryz.prog Rows.buildTablesRow.laid w) (fun _ _ _ hh h => h.of_heap hh) own started (by kernel_rfl) Tryz.func4
    (ChangeSpec.witness_shaped (enc := enc) (C := Tryz.checked) (os := os) (X := fun w _ => laidMetH Tryz.prog Rows.buildTablesRow.laid w) false (World.laidAll Tryz.prog os Rows.buildTablesRow.laid) #[.slice none 0 0] 8 (World.laidAll_os _ _ _)
      (World.shaped_of_ZipB (by kernel_rfl) (by kernel_rfl)) (by kernel_rfl) (by kernel_rfl) (by kernel_rfl)
      (by rw [MakeChecks.laidMetH_plain _ _ _ (by kernel_rfl)]; exact laidMet_laidAll _ (by kernel_rfl) (by kernel_rfl))) ?_
  intro W base args ds gs before hval0 hW hcnd hZ hL hS
  have hval : ∀ (j : Nat) t v, Tryz.f4.params[j]? = some t → args[j]? = some v → Value.okWide Tryz.prog W .any base t v := hval0
  have hW' := hW
  obtain ⟨p, q, hA0, hV, rfl, hfz, hnd⟩ := hW
  have hA : DataW.TrodAll enc Tryz.prog W 0 (fun _ => true) true Tryz.f4.params.toList args.toList ds p := hA0
  have hA1 := hA
  rw [Tryz.params4] at hA hval
  obtain ⟨v0, vs0, d0, ds0, p0, q0, hargs, rfl, rfl, h0, r0⟩ := trodAll_cons hA
  obtain ⟨rfl, rfl, rfl⟩ := trodAll_nil r0
  obtain rfl : args = #[v0] := by cases args; simp_all
  obtain ⟨rfl, rfl⟩ := trodVars_none hV
  obtain ⟨rl0, hr0, hw0⟩ := aHf (hval 0 22 v0 rfl rfl) h0
  have rn0 : rl0.length ≤ 5000000000000 := by
    have := hw0 reachBytes fun n hn => of_decide_eq_true (List.all_eq_true.1 hZ n (DataW.weights_mem_each (j := 0) (t := 22) (d := d0) (by rw [Tryz.params4]; rfl) rfl n hn))
    have e : reachBytes = 140737488351232 := rfl
    omega
  simp only [List.append_nil] at hW'
  refine (aQd hr0 (bFp W hL) (bCo W hL) rn0 ).ex.2.mono fun e W' ⟨v, he, hv, hx⟩ => ?_
  subst he
  subst hv
  exact ⟨_, rfl, MG (ds := [d0]) (gs := []) (pv := []) (by simpa using hW') hx (fun _ _ _ => (trodAll_cons_mk (shut_bool Tryz.underlying4 _) trodAll_mk0)) (fun sp hsp => IG k1b hx k1r hA1 (fun x hx' => hW'.lt x (by simpa using hx')) (fun x hx' => hsp x (by simpa using hx'))) (fun _ _ => rfl)
    (ok_one (by kernel_rfl) rfl (okWide_bool_mk Tryz.underlying4 _))⟩

/-! The row's closed facts, one by one: together they are more than one check of the kernel's holds. -/
theorem k1 : (Rows.buildTablesRow.wf (OpenSpec.ofChange Rows.buildTablesSpec) && laidOutB Tryz.prog) = true := by kernel_rfl
theorem k2 : mapsRowed Tryz.prog = true := by kernel_rfl
theorem k3 : (Tryz.f4.params.all (Tryz.prog.readableRec ·) && namedTie Tryz.prog Rows.buildTablesRow.named Rows.buildTablesSpec.vars) = true := by kernel_rfl
theorem k4 : ((Rows.buildTablesRow.stops == []) && (Tryz.prog.stops == []) && (Rows.buildTablesRow.knobs == []) && (Tryz.prog.stopKnobs == [])) = true := by kernel_rfl
theorem k5 : (Rows.buildTablesRow.inPlace == Tryz.prog.inPlace 4) = true := by kernel_rfl
theorem k6 : (Rows.buildTablesRow.unfollowed == Tryz.prog.unfollowed 4) = true := by kernel_rfl
theorem k7 : (Rows.buildTablesRow.recurses == Tryz.prog.recurses 4) = true := by kernel_rfl
theorem k8 : (Rows.buildTablesRow.named == Tryz.prog.varsNamed 4) = true := by kernel_rfl
theorem k9 : ((Rows.buildTablesRow.maps == (Tryz.f4.params.toList ++ Rows.buildTablesSpec.plain.varTypes Tryz.prog).any (Tryz.prog.mapsRec ·)) && (Rows.buildTablesRow.ifaces == (Tryz.f4.params.toList ++ Rows.buildTablesSpec.plain.varTypes Tryz.prog).any (Tryz.prog.ifacesRec ·)) && (Rows.buildTablesRow.mapsOut == Tryz.prog.mapsAmong Tryz.f4.resultTypes.toList)) = true := by kernel_rfl
theorem k10 : ((Rows.buildTablesRow.loops == (Tryz.f4.params.toList ++ Rows.buildTablesSpec.plain.varTypes Tryz.prog).any (Tryz.prog.loopsFrom ·)) && (Rows.buildTablesRow.wideKeys == (Tryz.f4.params.toList ++ Rows.buildTablesSpec.plain.varTypes Tryz.prog ++ Tryz.f4.resultTypes.toList).any (Tryz.prog.wideKeysFrom ·))) = true := by kernel_rfl
theorem k11 : (Rows.buildTablesSpec.vars.all (Tryz.prog.varReadable ·) && Tryz.f4.resultTypes.all (fun t => Tryz.prog.readableRec t && decide (t < Tryz.prog.types.size))) = true := by kernel_rfl
theorem k12 : ((Rows.buildTablesRow.ifacesOut == Tryz.f4.resultTypes.toList.any (Tryz.prog.ifacesRec ·)) && (Rows.buildTablesRow.loopsOut == Tryz.f4.resultTypes.toList.any (Tryz.prog.loopsFrom ·))) = true := by kernel_rfl
theorem k13 : (Rows.buildTablesRow.plainKeys == Tryz.prog.plainKeys) = true := by kernel_rfl
theorem k14 : (Rows.buildTablesRow.shortTexts.isNone && Tryz.prog.stopsHeard) = true := by kernel_rfl
theorem k15 : Tryz.prog.mayEnter = true := by kernel_rfl
theorem k16 : ((Rows.buildTablesRow.lifted == Tryz.prog.liftsFinal) && (Tryz.prog.make == some Rows.buildTablesRow.make)) = true := by kernel_rfl
theorem k17 : ((Rows.buildTablesRow.kinds == (if Rows.buildTablesRow.domain.isEmpty then [] else Tryz.f4.params.toList.map fun t => match Tryz.prog.underlying t with | some (.int k) => some k | _ => none)) && (Rows.buildTablesRow.pinned == Rows.buildTablesRow.pinnedBy)) = true := by kernel_rfl
theorem k18 : (Rows.buildTablesRow.veiled == (Tryz.f4.params.toList ++ Rows.buildTablesSpec.plain.varTypes Tryz.prog ++ Tryz.f4.resultTypes.toList).any (Tryz.prog.veiledRec ·)) = true := by kernel_rfl
theorem k19 : Rows.buildTablesRow.veiledFits Tryz.prog Tryz.f4.params.toList (Tryz.f4.params.toList ++ Rows.buildTablesSpec.plain.varTypes Tryz.prog ++ Tryz.f4.resultTypes.toList) = true := by kernel_rfl
end Go.Proofs.YtjcmcfidblhnnaaGreatDoor.buildTables
