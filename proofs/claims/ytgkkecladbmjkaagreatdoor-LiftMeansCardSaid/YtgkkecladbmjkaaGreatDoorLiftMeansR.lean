/- LiftMeans: the law, lifted over what came in; the row's closed facts. Began as the skeleton that the seat's proof-skeleton prints. -/
import Derived.Test.YtgkkecladbmjkaaGreatDoorLiftMeansO
namespace Go.Proofs.YtgkkecladbmjkaaGreatDoor.liftMeans
open Go.ChangeShapes Go.WideShapes Go.ChangeAt Go.RowKit Go.Vc
set_option linter.unusedVariables false
set_option maxRecDepth 100000 in
theorem lifted (os : Os) (started : os.Started) (H : Type) (enc : TypeId × Value → H) :
    ReturnsInHanded {} Tryz.checked os 7 .any (fun w args => (Rows.liftMeansSpec.pre enc Tryz.prog Tryz.f7 Rows.liftMeansRow.domain false w args ∧ laidMetH Tryz.prog Rows.liftMeansRow.laid w) ∧ sizedMet enc Tryz.prog Tryz.f7 (OpenSpec.ofChange Rows.liftMeansSpec) false w args)
      (Rows.liftMeansSpec.post enc Tryz.prog Tryz.f7 false true false false) := by
  refine returnsInHanded_of_change_and (C := Tryz.checked) (X := fun w _ => laidMetH Tryz.prog Rows.liftMeansRow.laid w) (fun _ _ _ hh h => h.of_heap hh) own started (by kernel_rfl) Tryz.func7
    (ChangeSpec.witness_shaped (enc := enc) (C := Tryz.checked) (os := os) (X := fun w _ => laidMetH Tryz.prog Rows.liftMeansRow.laid w) false (World.laidAll Tryz.prog os Rows.liftMeansRow.laid) #[.slice none 0 0, .slice none 0 0, .int .i32 0] 8 (World.laidAll_os _ _ _)
      (World.shaped_of_ZipB (by kernel_rfl) (by kernel_rfl)) (by kernel_rfl) (by kernel_rfl) (by kernel_rfl)
      (by rw [MakeChecks.laidMetH_plain _ _ _ (by kernel_rfl)]; exact laidMet_laidAll _ (by kernel_rfl) (by kernel_rfl))) ?_
  intro W base args ds gs before hval0 hW hcnd hZ hL hS
  have hval : ∀ (j : Nat) t v, Tryz.f7.params[j]? = some t → args[j]? = some v → Value.okWide Tryz.prog W .any base t v := hval0
  have hW' := hW
  obtain ⟨p, q, hA0, hV, rfl, hfz, hnd⟩ := hW
  have hA : DataW.TrodAll enc Tryz.prog W 0 (fun _ => true) true Tryz.f7.params.toList args.toList ds p := hA0
  have hA1 := hA
  rw [Tryz.params7] at hA hval
  obtain ⟨v0, vs0, d0, ds0, p0, q0, hargs, rfl, rfl, h0, r0⟩ := trodAll_cons hA
  obtain ⟨v1, vs1, d1, ds1, p1, q1, rfl, rfl, rfl, h1, r1⟩ := trodAll_cons r0
  obtain ⟨v2, vs2, d2, ds2, p2, q2, rfl, rfl, rfl, h2, r2⟩ := trodAll_cons r1
  obtain ⟨rfl, rfl, rfl⟩ := trodAll_nil r2
  obtain rfl : args = #[v0, v1, v2] := by cases args; simp_all
  obtain ⟨rfl, rfl⟩ := trodVars_none hV
  obtain ⟨sa0, sl0, sc0, rfl⟩ := okWide_slice Tryz.underlying37 (hval 0 37 v0 rfl rfl)
  obtain ⟨l0, hl0, hw0⟩ := aJa (v := .slice sa0 sl0 sc0) Tryz.underlying37 Tryz.underlying21 (by kernel_rfl) h0.choose_spec
  obtain ⟨sa1, sl1, sc1, rfl⟩ := okWide_slice Tryz.underlying42 (hval 1 42 v1 rfl rfl)
  obtain ⟨l1, hl1, _⟩ := aJa (v := .slice sa1 sl1 sc1) Tryz.underlying42 Tryz.underlying3 (by kernel_rfl) h1.choose_spec
  obtain ⟨n2, rfl, -, -, w2⟩ := open_int Tryz.underlying21 (hval 2 21 v2 rfl rfl) h2
  simp only [List.append_nil] at hW'
  refine (aLh hl0 (fun b hb => aPu (hw0 b hb)) hl1 (aPu w2) (aKd W hL)).ex.2.mono fun e W' ⟨v, he, hv, hx⟩ => ?_
  subst he
  subst hv
  exact ⟨_, rfl, FH (ds := [d0, d1, d2]) (gs := []) (pv := []) (by simpa using hW') hx (fun _ _ _ => (trodAll_cons_mk (shut_bool Tryz.underlying4 _) trodAll_mk0)) (fun sp hsp => BW k1b hx k1r hA1 (fun x hx' => hW'.lt x (by simpa using hx')) (fun x hx' => hsp x (by simpa using hx'))) (fun _ _ => rfl)
    (ok_one (by kernel_rfl) rfl (okWide_bool_mk Tryz.underlying4 _))⟩

/-! The row's closed facts, one by one: together they are more than one check of the kernel's holds. -/
theorem k1 : (Rows.liftMeansRow.wf (OpenSpec.ofChange Rows.liftMeansSpec) && laidOutB Tryz.prog) = true := by kernel_rfl
theorem k2 : mapsRowed Tryz.prog = true := by kernel_rfl
theorem k3 : (Tryz.f7.params.all (Tryz.prog.readableRec ·) && namedTie Tryz.prog Rows.liftMeansRow.named Rows.liftMeansSpec.vars) = true := by kernel_rfl
theorem k4 : ((Rows.liftMeansRow.stops == []) && (Tryz.prog.stops == []) && (Rows.liftMeansRow.knobs == []) && (Tryz.prog.stopKnobs == [])) = true := by kernel_rfl
theorem k5 : (Rows.liftMeansRow.inPlace == Tryz.prog.inPlace 7) = true := by kernel_rfl
theorem k6 : (Rows.liftMeansRow.unfollowed == Tryz.prog.unfollowed 7) = true := by kernel_rfl
theorem k7 : (Rows.liftMeansRow.recurses == Tryz.prog.recurses 7) = true := by kernel_rfl
theorem k8 : (Rows.liftMeansRow.named == Tryz.prog.varsNamed 7) = true := by kernel_rfl
theorem k9 : ((Rows.liftMeansRow.maps == (Tryz.f7.params.toList ++ Rows.liftMeansSpec.plain.varTypes Tryz.prog).any (Tryz.prog.mapsRec ·)) && (Rows.liftMeansRow.ifaces == (Tryz.f7.params.toList ++ Rows.liftMeansSpec.plain.varTypes Tryz.prog).any (Tryz.prog.ifacesRec ·)) && (Rows.liftMeansRow.mapsOut == Tryz.prog.mapsAmong Tryz.f7.resultTypes.toList)) = true := by kernel_rfl
theorem k10 : ((Rows.liftMeansRow.loops == (Tryz.f7.params.toList ++ Rows.liftMeansSpec.plain.varTypes Tryz.prog).any (Tryz.prog.loopsFrom ·)) && (Rows.liftMeansRow.wideKeys == (Tryz.f7.params.toList ++ Rows.liftMeansSpec.plain.varTypes Tryz.prog ++ Tryz.f7.resultTypes.toList).any (Tryz.prog.wideKeysFrom ·))) = true := by kernel_rfl
theorem k11 : (Rows.liftMeansSpec.vars.all (Tryz.prog.varReadable ·) && Tryz.f7.resultTypes.all (fun t => Tryz.prog.readableRec t && decide (t < Tryz.prog.types.size))) = true := by kernel_rfl
theorem k12 : ((Rows.liftMeansRow.ifacesOut == Tryz.f7.resultTypes.toList.any (Tryz.prog.ifacesRec ·)) && (Rows.liftMeansRow.loopsOut == Tryz.f7.resultTypes.toList.any (Tryz.prog.loopsFrom ·))) = true := by kernel_rfl
theorem k13 : (Rows.liftMeansRow.plainKeys == Tryz.prog.plainKeys) = true := by kernel_rfl
theorem k14 : (Rows.liftMeansRow.shortTexts.isNone && Tryz.prog.stopsHeard) = true := by kernel_rfl
theorem k15 : Tryz.prog.mayEnter = true := by kernel_rfl
theorem k16 : ((Rows.liftMeansRow.lifted == Tryz.prog.liftsFinal) && (Tryz.prog.make == some Rows.liftMeansRow.make)) = true := by kernel_rfl
theorem k17 : ((Rows.liftMeansRow.kinds == (if Rows.liftMeansRow.domain.isEmpty then [] else Tryz.f7.params.toList.map fun t => match Tryz.prog.underlying t with | some (.int k) => some k | _ => none)) && (Rows.liftMeansRow.pinned == Rows.liftMeansRow.pinnedBy)) = true := by kernel_rfl
theorem k18 : (Rows.liftMeansRow.veiled == (Tryz.f7.params.toList ++ Rows.liftMeansSpec.plain.varTypes Tryz.prog ++ Tryz.f7.resultTypes.toList).any (Tryz.prog.veiledRec ·)) = true := by kernel_rfl
theorem k19 : Rows.liftMeansRow.veiledFits Tryz.prog Tryz.f7.params.toList (Tryz.f7.params.toList ++ Rows.liftMeansSpec.plain.varTypes Tryz.prog ++ Tryz.f7.resultTypes.toList) = true := by kernel_rfl
end Go.Proofs.YtgkkecladbmjkaaGreatDoor.liftMeans
