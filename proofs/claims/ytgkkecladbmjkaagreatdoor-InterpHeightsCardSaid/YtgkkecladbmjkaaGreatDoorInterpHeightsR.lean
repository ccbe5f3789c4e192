/- InterpHeights: the law, lifted over what came in; the row's closed facts. Began as the skeleton that the seat's proof-skeleton prints. -/
import Derived.Test.YtgkkecladbmjkaaGreatDoorInterpHeightsO
namespace Go.Proofs.YtgkkecladbmjkaaGreatDoor.interpHeights
open Go.ChangeShapes Go.WideShapes Go.ChangeAt Go.RowKit Go.Vc
set_option linter.unusedVariables false
set_option maxRecDepth 100000 in
theorem lifted (os : Os) (started : os.Started) (H : Type) (enc : TypeId × Value → H) :
    ReturnsInHanded {} Tryz.checked os 3 .any (fun w args => (Rows.interpHeightsSpec.pre enc Tryz.prog Tryz.f3 Rows.interpHeightsRow.domain false w args ∧ laidMetH Tryz.prog Rows.interpHeightsRow.laid w) ∧ sizedMet enc Tryz.prog Tryz.f3 (OpenSpec.ofChange Rows.interpHeightsSpec) false w args)
      (Rows.interpHeightsSpec.post enc Tryz.prog Tryz.f3 false true false false) := by
  refine returnsInHanded_of_change_and (C := Tryz.checked) (X := fun w _ => laidMetH Tryz.prog Rows.interpHeightsRow.laid w) (fun _ _ _ hh h => h.of_heap hh) own started (by kernel_rfl) Tryz.func3
    (ChangeSpec.witness_shaped (enc := enc) (C := Tryz.checked) (os := os) (X := fun w _ => laidMetH Tryz.prog Rows.interpHeightsRow.laid w) false (World.laidAll Tryz.prog os Rows.interpHeightsRow.laid) #[.slice none 0 0, .slice none 0 0, .slice none 0 0, .int .i64 0, .int .i64 0] 8 (World.laidAll_os _ _ _)
      (World.shaped_of_ZipB (by kernel_rfl) (by kernel_rfl)) (by kernel_rfl) (by kernel_rfl) (by kernel_rfl)
      (by rw [MakeChecks.laidMetH_plain _ _ _ (by kernel_rfl)]; exact laidMet_laidAll _ (by kernel_rfl) (by kernel_rfl))) ?_
  intro W base args ds gs before hval0 hW hcnd hZ hL hS
  have hval : ∀ (j : Nat) t v, Tryz.f3.params[j]? = some t → args[j]? = some v → Value.okWide Tryz.prog W .any base t v := hval0
  have hW' := hW
  obtain ⟨p, q, hA0, hV, rfl, hfz, hnd⟩ := hW
  have hA : DataW.TrodAll enc Tryz.prog W 0 (fun _ => true) true Tryz.f3.params.toList args.toList ds p := hA0
  have hA1 := hA
  rw [Tryz.params3] at hA hval
  obtain ⟨v0, vs0, d0, ds0, p0, q0, hargs, rfl, rfl, h0, r0⟩ := trodAll_cons hA
  obtain ⟨v1, vs1, d1, ds1, p1, q1, rfl, rfl, rfl, h1, r1⟩ := trodAll_cons r0
  obtain ⟨v2, vs2, d2, ds2, p2, q2, rfl, rfl, rfl, h2, r2⟩ := trodAll_cons r1
  obtain ⟨v3, vs3, d3, ds3, p3, q3, rfl, rfl, rfl, h3, r3⟩ := trodAll_cons r2
  obtain ⟨v4, vs4, d4, ds4, p4, q4, rfl, rfl, rfl, h4, r4⟩ := trodAll_cons r3
  obtain ⟨rfl, rfl, rfl⟩ := trodAll_nil r4
  obtain rfl : args = #[v0, v1, v2, v3, v4] := by cases args; simp_all
  obtain ⟨rfl, rfl⟩ := trodVars_none hV
  obtain ⟨sa0, sl0, sc0, rfl⟩ := okWide_slice Tryz.underlying22 (hval 0 22 v0 rfl rfl)
  obtain ⟨rl0, hr0⟩ := RL (v := .slice sa0 sl0 sc0) h0.choose_spec fun n hn => of_decide_eq_true (List.all_eq_true.1 hZ n (DataW.weights_mem_each (j := 0) (t := 22) (d := d0) (by rw [Tryz.params3]; rfl) rfl n hn))
  obtain ⟨sa1, sl1, sc1, rfl⟩ := okWide_slice Tryz.underlying23 (hval 1 23 v1 rfl rfl)
  obtain ⟨bl1, hb1, hu1, -⟩ := zT (v := .slice sa1 sl1 sc1) h1.choose_spec
  obtain ⟨sa2, sl2, sc2, rfl⟩ := okWide_slice Tryz.underlying23 (hval 2 23 v2 rfl rfl)
  obtain ⟨bl2, hb2, hu2, -⟩ := zT (v := .slice sa2 sl2 sc2) h2.choose_spec
  obtain ⟨n3, rfl, -, -, -⟩ := open_int Tryz.underlying3 (hval 3 3 v3 rfl rfl) h3
  obtain ⟨n4, rfl, -, -, -⟩ := open_int Tryz.underlying3 (hval 4 3 v4 rfl rfl) h4
  simp only [List.append_nil] at hW'
  refine (WA hr0 (aPd W hL) (aMe W hL) hb1 hb2 hu1 hu2 aNw).ex.2.mono fun e W' ⟨v, he, hv, hx⟩ => ?_
  subst he
  subst hv
  exact ⟨_, rfl, EE (ds := [d0, d1, d2, d3, d4]) (gs := []) (pv := []) (by simpa using hW') hx (fun _ _ _ => (trodAll_cons_mk (shut_bool Tryz.underlying4 _) trodAll_mk0)) (fun sp hsp => AQ k1b hx k1r hA1 (fun x hx' => hW'.lt x (by simpa using hx')) (fun x hx' => hsp x (by simpa using hx'))) (fun _ _ => rfl)
    (ok_one (by kernel_rfl) rfl (okWide_bool_mk Tryz.underlying4 _))⟩

/-! The row's closed facts, one by one: together they are more than one check of the kernel's holds. -/
theorem k1 : (Rows.interpHeightsRow.wf (OpenSpec.ofChange Rows.interpHeightsSpec) && laidOutB Tryz.prog) = true := by kernel_rfl
theorem k2 : mapsRowed Tryz.prog = true := by kernel_rfl
theorem k3 : (Tryz.f3.params.all (Tryz.prog.readableRec ·) && namedTie Tryz.prog Rows.interpHeightsRow.named Rows.interpHeightsSpec.vars) = true := by kernel_rfl
theorem k4 : ((Rows.interpHeightsRow.stops == []) && (Tryz.prog.stops == []) && (Rows.interpHeightsRow.knobs == []) && (Tryz.prog.stopKnobs == [])) = true := by kernel_rfl
theorem k5 : (Rows.interpHeightsRow.inPlace == Tryz.prog.inPlace 3) = true := by kernel_rfl
theorem k6 : (Rows.interpHeightsRow.unfollowed == Tryz.prog.unfollowed 3) = true := by kernel_rfl
theorem k7 : (Rows.interpHeightsRow.recurses == Tryz.prog.recurses 3) = true := by kernel_rfl
theorem k8 : (Rows.interpHeightsRow.named == Tryz.prog.varsNamed 3) = true := by kernel_rfl
theorem k9 : ((Rows.interpHeightsRow.maps == (Tryz.f3.params.toList ++ Rows.interpHeightsSpec.plain.varTypes Tryz.prog).any (Tryz.prog.mapsRec ·)) && (Rows.interpHeightsRow.ifaces == (Tryz.f3.params.toList ++ Rows.interpHeightsSpec.plain.varTypes Tryz.prog).any (Tryz.prog.ifacesRec ·)) && (Rows.interpHeightsRow.mapsOut == Tryz.prog.mapsAmong Tryz.f3.resultTypes.toList)) = true := by kernel_rfl
theorem k10 : ((Rows.interpHeightsRow.loops == (Tryz.f3.params.toList ++ Rows.interpHeightsSpec.plain.varTypes Tryz.prog).any (Tryz.prog.loopsFrom ·)) && (Rows.interpHeightsRow.wideKeys == (Tryz.f3.params.toList ++ Rows.interpHeightsSpec.plain.varTypes Tryz.prog ++ Tryz.f3.resultTypes.toList).any (Tryz.prog.wideKeysFrom ·))) = true := by kernel_rfl
theorem k11 : (Rows.interpHeightsSpec.vars.all (Tryz.prog.varReadable ·) && Tryz.f3.resultTypes.all (fun t => Tryz.prog.readableRec t && decide (t < Tryz.prog.types.size))) = true := by kernel_rfl
theorem k12 : ((Rows.interpHeightsRow.ifacesOut == Tryz.f3.resultTypes.toList.any (Tryz.prog.ifacesRec ·)) && (Rows.interpHeightsRow.loopsOut == Tryz.f3.resultTypes.toList.any (Tryz.prog.loopsFrom ·))) = true := by kernel_rfl
theorem k13 : (Rows.interpHeightsRow.plainKeys == Tryz.prog.plainKeys) = true := by kernel_rfl
theorem k14 : (Rows.interpHeightsRow.shortTexts.isNone && Tryz.prog.stopsHeard) = true := by kernel_rfl
theorem k15 : Tryz.prog.mayEnter = true := by kernel_rfl
theorem k16 : ((Rows.interpHeightsRow.lifted == Tryz.prog.liftsFinal) && (Tryz.prog.make == some Rows.interpHeightsRow.make)) = true := by kernel_rfl
theorem k17 : ((Rows.interpHeightsRow.kinds == (if Rows.interpHeightsRow.domain.isEmpty then [] else Tryz.f3.params.toList.map fun t => match Tryz.prog.underlying t with | some (.int k) => some k | _ => none)) && (Rows.interpHeightsRow.pinned == Rows.interpHeightsRow.pinnedBy)) = true := by kernel_rfl
theorem k18 : (Rows.interpHeightsRow.veiled == (Tryz.f3.params.toList ++ Rows.interpHeightsSpec.plain.varTypes Tryz.prog ++ Tryz.f3.resultTypes.toList).any (Tryz.prog.veiledRec ·)) = true := by kernel_rfl
theorem k19 : Rows.interpHeightsRow.veiledFits Tryz.prog Tryz.f3.params.toList (Tryz.f3.params.toList ++ Rows.interpHeightsSpec.plain.varTypes Tryz.prog ++ Tryz.f3.resultTypes.toList) = true := by kernel_rfl
end Go.Proofs.YtgkkecladbmjkaaGreatDoor.interpHeights
