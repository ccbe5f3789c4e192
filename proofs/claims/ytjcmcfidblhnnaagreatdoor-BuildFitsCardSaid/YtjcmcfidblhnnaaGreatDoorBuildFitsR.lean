/- BuildFits: the law, lifted over what came in; the row's closed facts. Began as the skeleton that the seat's proof-skeleton prints. -/
import Derived.Test.YtjcmcfidblhnnaaGreatDoorFi
import Derived.Test.YtjcmcfidblhnnaaGreatDoorBuildFitsO
namespace Go.Proofs.YtjcmcfidblhnnaaGreatDoor.buildFits
open Go.ChangeShapes Go.WideShapes Go.ChangeAt Go.RowKit Go.Vc
set_option linter.unusedVariables false
set_option maxRecDepth 100000 in
theorem lifted (os : Os) (started : os.Started) (H : Type) (enc : TypeId × Value → H) :
    ReturnsInHanded {} Tryz.checked os 6 .any (fun w args => (Rows.buildFitsSpec.pre enc Tryz.prog Tryz.f6 Rows.buildFitsRow.domain false w args ∧ laidMetH Tryz.prog Rows.buildFitsRow.laid w) ∧ sizedMet enc Tryz.prog Tryz.f6 (OpenSpec.ofChange Rows.buildFitsSpec) false w args)
      (Rows.buildFitsSpec.post enc Tryz.prog Tryz.f6 false true false false) := by
  refine returnsInHanded_of_change_and (C := Tryz.checked) (X := fun w _ => laidMetH Tryz.prog Rows.buildFitsRow.laid w) (fun _ _ _ hh h => h.of_heap hh) own started (by kernel_rfl) Tryz.func6
    (ChangeSpec.witness_shaped (enc := enc) (C := Tryz.checked) (os := os) (X := fun w _ => laidMetH Tryz.prog Rows.buildFitsRow.laid w) false (World.laidAll Tryz.prog os Rows.buildFitsRow.laid) #[.int .i64 0, .slice none 0 0, .int .i64 0, .int .i64 0, .int .i64 0, .int .i64 0, .int .i64 0] 8 (World.laidAll_os _ _ _)
      (World.shaped_of_ZipB (by kernel_rfl) (by kernel_rfl)) (by kernel_rfl) (by kernel_rfl) (by kernel_rfl)
      (by rw [MakeChecks.laidMetH_plain _ _ _ (by kernel_rfl)]; exact laidMet_laidAll _ (by kernel_rfl) (by kernel_rfl))) ?_
  intro W base args ds gs before hval0 hW hcnd hZ hL hS
  have hval : ∀ (j : Nat) t v, Tryz.f6.params[j]? = some t → args[j]? = some v → Value.okWide Tryz.prog W .any base t v := hval0
  have hW' := hW
  obtain ⟨p, q, hA0, hV, rfl, hfz, hnd⟩ := hW
  have hA : DataW.TrodAll enc Tryz.prog W 0 (fun _ => true) true Tryz.f6.params.toList args.toList ds p := hA0
  have hA1 := hA
  rw [Tryz.params6] at hA hval
  obtain ⟨v0, vs0, d0, ds0, p0, q0, hargs, rfl, rfl, h0, r0⟩ := trodAll_cons hA
  obtain ⟨v1, vs1, d1, ds1, p1, q1, rfl, rfl, rfl, h1, r1⟩ := trodAll_cons r0
  obtain ⟨v2, vs2, d2, ds2, p2, q2, rfl, rfl, rfl, h2, r2⟩ := trodAll_cons r1
  obtain ⟨v3, vs3, d3, ds3, p3, q3, rfl, rfl, rfl, h3, r3⟩ := trodAll_cons r2
  obtain ⟨v4, vs4, d4, ds4, p4, q4, rfl, rfl, rfl, h4, r4⟩ := trodAll_cons r3
  obtain ⟨v5, vs5, d5, ds5, p5, q5, rfl, rfl, rfl, h5, r5⟩ := trodAll_cons r4
  obtain ⟨v6, vs6, d6, ds6, p6, q6, rfl, rfl, rfl, h6, r6⟩ := trodAll_cons r5
  obtain ⟨rfl, rfl, rfl⟩ := trodAll_nil r6
  obtain rfl : args = #[v0, v1, v2, v3, v4, v5, v6] := by cases args; simp_all
  obtain ⟨rfl, rfl⟩ := trodVars_none hV
  obtain ⟨n0, rfl, -, -, -⟩ := open_int Tryz.underlying3 (hval 0 3 v0 rfl rfl) h0
  obtain ⟨rl1, hr1, hw1⟩ := aFz (hval 1 22 v1 rfl rfl) h1
  have rn1 : rl1.length ≤ 5000000000000 := by
    have := hw1 reachBytes fun n hn => of_decide_eq_true (List.all_eq_true.1 hZ n (DataW.weights_mem_each (j := 1) (t := 22) (d := d1) (by rw [Tryz.params6]; rfl) rfl n hn))
    have e : reachBytes = 140737488351232 := rfl
    omega
  obtain ⟨n2, rfl, -, -, -⟩ := open_int Tryz.underlying3 (hval 2 3 v2 rfl rfl) h2
  obtain ⟨n3, rfl, -, -, -⟩ := open_int Tryz.underlying3 (hval 3 3 v3 rfl rfl) h3
  obtain ⟨n4, rfl, -, -, -⟩ := open_int Tryz.underlying3 (hval 4 3 v4 rfl rfl) h4
  obtain ⟨n5, rfl, -, -, -⟩ := open_int Tryz.underlying3 (hval 5 3 v5 rfl rfl) h5
  obtain ⟨n6, rfl, -, -, -⟩ := open_int Tryz.underlying3 (hval 6 3 v6 rfl rfl) h6
  simp only [List.append_nil] at hW'
  refine (bJr hr1 (bDu W hL) (bAy W hL) rn1 ).ex.2.mono fun e W' ⟨v, he, hv, hx⟩ => ?_
  subst he
  subst hv
  exact ⟨_, rfl, LO (ds := [d0, d1, d2, d3, d4, d5, d6]) (gs := []) (pv := []) (by simpa using hW') hx (fun _ _ _ => (trodAll_cons_mk (shut_bool Tryz.underlying4 _) trodAll_mk0)) (fun sp hsp => IB k1b hx k1r hA1 (fun x hx' => hW'.lt x (by simpa using hx')) (fun x hx' => hsp x (by simpa using hx'))) (fun _ _ => rfl)
    (ok_one (by kernel_rfl) rfl (okWide_bool_mk Tryz.underlying4 _))⟩

/-! The row's closed facts, one by one: together they are more than one check of the kernel's holds. -/
theorem k1 : (Rows.buildFitsRow.wf (OpenSpec.ofChange Rows.buildFitsSpec) && laidOutB Tryz.prog) = true := by kernel_rfl
theorem k2 : mapsRowed Tryz.prog = true := by kernel_rfl
theorem k3 : (Tryz.f6.params.all (Tryz.prog.readableRec ·) && namedTie Tryz.prog Rows.buildFitsRow.named Rows.buildFitsSpec.vars) = true := by kernel_rfl
theorem k4 : ((Rows.buildFitsRow.stops == []) && (Tryz.prog.stops == []) && (Rows.buildFitsRow.knobs == []) && (Tryz.prog.stopKnobs == [])) = true := by kernel_rfl
theorem k5 : (Rows.buildFitsRow.inPlace == Tryz.prog.inPlace 6) = true := by kernel_rfl
theorem k6 : (Rows.buildFitsRow.unfollowed == Tryz.prog.unfollowed 6) = true := by kernel_rfl
theorem k7 : (Rows.buildFitsRow.recurses == Tryz.prog.recurses 6) = true := by kernel_rfl
theorem k8 : (Rows.buildFitsRow.named == Tryz.prog.varsNamed 6) = true := by kernel_rfl
theorem k9 : ((Rows.buildFitsRow.maps == (Tryz.f6.params.toList ++ Rows.buildFitsSpec.plain.varTypes Tryz.prog).any (Tryz.prog.mapsRec ·)) && (Rows.buildFitsRow.ifaces == (Tryz.f6.params.toList ++ Rows.buildFitsSpec.plain.varTypes Tryz.prog).any (Tryz.prog.ifacesRec ·)) && (Rows.buildFitsRow.mapsOut == Tryz.prog.mapsAmong Tryz.f6.resultTypes.toList)) = true := by kernel_rfl
theorem k10 : ((Rows.buildFitsRow.loops == (Tryz.f6.params.toList ++ Rows.buildFitsSpec.plain.varTypes Tryz.prog).any (Tryz.prog.loopsFrom ·)) && (Rows.buildFitsRow.wideKeys == (Tryz.f6.params.toList ++ Rows.buildFitsSpec.plain.varTypes Tryz.prog ++ Tryz.f6.resultTypes.toList).any (Tryz.prog.wideKeysFrom ·))) = true := by kernel_rfl
theorem k11 : (Rows.buildFitsSpec.vars.all (Tryz.prog.varReadable ·) && Tryz.f6.resultTypes.all (fun t => Tryz.prog.readableRec t && decide (t < Tryz.prog.types.size))) = true := by kernel_rfl
theorem k12 : ((Rows.buildFitsRow.ifacesOut == Tryz.f6.resultTypes.toList.any (Tryz.prog.ifacesRec ·)) && (Rows.buildFitsRow.loopsOut == Tryz.f6.resultTypes.toList.any (Tryz.prog.loopsFrom ·))) = true := by kernel_rfl
theorem k13 : (Rows.buildFitsRow.plainKeys == Tryz.prog.plainKeys) = true := by kernel_rfl
theorem k14 : (Rows.buildFitsRow.shortTexts.isNone && Tryz.prog.stopsHeard) = true := by kernel_rfl
theorem k15 : Tryz.prog.mayEnter = true := by kernel_rfl
theorem k16 : ((Rows.buildFitsRow.lifted == Tryz.prog.liftsFinal) && (Tryz.prog.make == some Rows.buildFitsRow.make)) = true := by kernel_rfl
theorem k17 : ((Rows.buildFitsRow.kinds == (if Rows.buildFitsRow.domain.isEmpty then [] else Tryz.f6.params.toList.map fun t => match Tryz.prog.underlying t with | some (.int k) => some k | _ => none)) && (Rows.buildFitsRow.pinned == Rows.buildFitsRow.pinnedBy)) = true := by kernel_rfl
theorem k18 : (Rows.buildFitsRow.veiled == (Tryz.f6.params.toList ++ Rows.buildFitsSpec.plain.varTypes Tryz.prog ++ Tryz.f6.resultTypes.toList).any (Tryz.prog.veiledRec ·)) = true := by kernel_rfl
theorem k19 : Rows.buildFitsRow.veiledFits Tryz.prog Tryz.f6.params.toList (Tryz.f6.params.toList ++ Rows.buildFitsSpec.plain.varTypes Tryz.prog ++ Tryz.f6.resultTypes.toList) = true := by kernel_rfl
end Go.Proofs.YtjcmcfidblhnnaaGreatDoor.buildFits
