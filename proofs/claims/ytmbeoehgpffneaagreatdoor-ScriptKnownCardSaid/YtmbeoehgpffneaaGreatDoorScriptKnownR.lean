/- ScriptKnown: the card: the closed call, evaluated by the kernel, answers true in any world that holds the listed variables. Began as the skeleton that the seat's proof-skeleton prints. -/
import Derived.Test.YtmbeoehgpffneaaGreatDoorRows
import Derived.Test.YtmbeoehgpffneaaGreatDoorCards
import Derived.Test.YtmbeoehgpffneaaGreatDoorTie
import Derived.Test.YtmbeoehgpffneaaGreatDoorSc7
import Derived.HandedShaped
import Derived.Shelf.Vars
import Derived.Test.YtmbeoehgpffneaaGreatDoorPost
import Derived.Lay
import Derived.LaidOnce
import Derived.SevenTiedAt
import Derived.MakeChecks
namespace Go.Proofs.YtmbeoehgpffneaaGreatDoor.scriptKnown
open Go.ChangeShapes Go.WideShapes Go.ChangeAt Go.RowKit Go.Vc
set_option linter.unusedVariables false
theorem own : ownKnob Tryz.prog.godebug = none := by kernel_rfl
theorem mixed : Tryz.prog.follows .mixedOrders = true := by kernel_rfl
/-- The wrap for a row that lists variables, the world's shape kept. -/
theorem handedShapedAnd {H : Type} {enc : TypeId × Value → H} {a : Assume} {C : Checked} {os : Os} {f : FuncId} {fn : Func} {s : ChangeSpec} {conds : List PathCond} {apart fresh handsOn again : Bool} {X : World → Array Value → Prop}
    (hX : ∀ (w w' : World) (args : Array Value), w.heap = w'.heap → X w args → X w' args)
    (own : ownKnob C.prog.godebug = none) (started : os.Started) (noInit : C.prog.inits.idxOf? f = none) (hfn : C.prog.funcs[f]? = some fn)
    (witness : ∃ (w : World) (tape : Tape) (i : Input), w.os = os ∧ (w.forCall tape i).Shaped C.prog ∧ i.vars = [] ∧ Input.okWide C.prog (w.forCall tape i) .any w.heap.size f i ∧
      ((s.pre enc C.prog fn conds apart (w.forCall tape i).memory i.args ∧ X (w.forCall tape i).memory i.args) ∧ sizedMet enc C.prog fn (OpenSpec.ofChange s) apart (w.forCall tape i).memory i.args) ∧ a.holds C.prog (lone (Frame.enter C.prog f i.args .normal) [] (w.forCall tape i)))
    (contract : ∀ (W : World) (base : Nat) (args : Array Value) (ds gs : List (DataW H)) (before : List MemPlace),
      (∀ (j : Nat) t v, fn.params[j]? = some t → args[j]? = some v → Value.okWide C.prog W .any base t v) →
      DataW.Whole enc C.prog fn.params.toList s.vars apart W args.toList ds gs before →
      conds.all (PathCond.test C.prog ⟨fn.params.toList, ds, s.plain.varTypes C.prog, gs⟩) = true →
      (DataW.weightsEach C.prog (fn.params.toList ++ s.plain.varTypes C.prog) (ds ++ gs)).all (· ≤ reachBytes) = true → X W args → W.ShapedOpen C.prog →
      a.holds C.prog (lone (Frame.enter C.prog f args .normal) [] W) →
      Calls C.prog f args W fun e W' => ∃ v, e = .returned v ∧ s.post enc C.prog fn apart fresh handsOn again W args v W') :
    ReturnsInHanded a C os f .any (fun w args => (s.pre enc C.prog fn conds apart w args ∧ X w args) ∧ sizedMet enc C.prog fn (OpenSpec.ofChange s) apart w args) (s.post enc C.prog fn apart fresh handsOn again) := by
  refine returnsInHanded_of_calls own started noInit witness ?_
  intro w tape i _ hsh _ hok hpre hholds
  obtain ⟨_, _, _, fn', hfn', _, _, _, _, hval⟩ := hok
  have e : fn' = fn := Option.some.inj (hfn'.symm.trans hfn)
  subst e
  obtain ⟨⟨⟨ds, gs, before, hw, hc⟩, hx⟩, hz⟩ := hpre
  have hw' := DataW.Whole.of_heap (w' := w.forCall tape i) (by rfl) hw
  refine (contract (w.forCall tape i) w.heap.size i.args ds gs before hval hw' hc (hz.weights hw) (hX _ _ _ (by rfl) hx) hsh hholds).mono fun e W' ⟨v, he, hp⟩ => ?_
  subst he
  exact ChangeSpec.post_blind hp
theorem lenCell {W : World} (h : W.ShapedOpen Tryz.prog) : ∃ m, W.cell? ⟨2, 0, none⟩ = some (.int .i64 m) :=
  cell_of_shapedOpen_int (t := 3) (zero := #[.int .i64 0]) h (by decide +kernel) (by kernel_rfl) rfl (by kernel_rfl) (by kernel_rfl) Tryz.underlying3
theorem ok {W : World} (h : W.ShapedOpen Tryz.prog) : callD Tryz.prog 3 #[] W fun v w' => v = .bool true ∧ Ext W w' := by
  obtain ⟨m, hm⟩ := lenCell h
  exact script_ok (holds_of_cell hm)

set_option maxRecDepth 100000 in
theorem lifted (os : Os) (started : os.Started) (H : Type) (enc : TypeId × Value → H) :
    ReturnsInHanded {} Tryz.checked os 3 .any (fun w args => (Rows.scriptKnownSpec.pre enc Tryz.prog Tryz.f3 Rows.scriptKnownRow.domain false w args ∧ laidMetH Tryz.prog Rows.scriptKnownRow.laid w) ∧ sizedMet enc Tryz.prog Tryz.f3 (OpenSpec.ofChange Rows.scriptKnownSpec) false w args)
      (Rows.scriptKnownSpec.post enc Tryz.prog Tryz.f3 false true false false) := by
  refine handedShapedAnd (C := Tryz.checked) (X := fun w _ => laidMetH Tryz.prog Rows.scriptKnownRow.laid w) (fun _ _ _ hh h => h.of_heap hh) own started (by kernel_rfl) Tryz.func3
    (ChangeSpec.witness_shaped (enc := enc) (C := Tryz.checked) (os := os) (X := fun w _ => laidMetH Tryz.prog Rows.scriptKnownRow.laid w) false (World.laidAll Tryz.prog os Rows.scriptKnownRow.laid) #[] 8 (World.laidAll_os _ _ _)
      (World.shaped_of_ZipB (by kernel_rfl) (by kernel_rfl)) (by kernel_rfl) (by kernel_rfl) (by kernel_rfl)
      (by rw [MakeChecks.laidMetH_plain _ _ _ (by kernel_rfl)]; exact laidMet_laidAll _ (by kernel_rfl) (by kernel_rfl))) ?_
  intro W base args ds gs before hval0 hW hcnd _ hL hsh _
  have hval : ∀ (j : Nat) t v, Tryz.f3.params[j]? = some t → args[j]? = some v → Value.okWide Tryz.prog W .any base t v := hval0
  have hW' := hW
  obtain ⟨p, q, hA0, hV, rfl, hfz, hnd⟩ := hW
  have hA : DataW.TrodAll enc Tryz.prog W 0 (fun _ => true) true Tryz.f3.params.toList args.toList ds p := hA0
  rw [Tryz.params3] at hA hval
  obtain ⟨rfl, rfl, rfl⟩ := trodAll_none hA
  obtain ⟨rfl, rfl⟩ := trodVars_none hV
  clear hA0 hval0
  simp only [List.append_nil] at hW'
  refine (ok hsh).ex.2.mono fun e W' ⟨v, he, hv, hx⟩ => ?_
  subst he
  subst hv
  exact ⟨_, rfl, post_of_ext (pa := []) (pv := []) hW' hx (fun _ _ _ => (trodAll_cons_mk (shut_bool Tryz.underlying4 _) trodAll_mk0)) (fun sp _ => rfl) (fun _ _ => rfl)
    (ok_one (by kernel_rfl) rfl (okWide_bool_mk Tryz.underlying4 _))⟩

/-! The row's closed facts, one by one: together they are more than one check of the kernel's holds. -/
theorem k1 : (Rows.scriptKnownRow.wf (OpenSpec.ofChange Rows.scriptKnownSpec) && laidOutB Tryz.prog) = true := by kernel_rfl
theorem k2 : mapsRowed Tryz.prog = true := by kernel_rfl
theorem k3 : (Tryz.f3.params.all (Tryz.prog.readableRec ·) && namedTie Tryz.prog Rows.scriptKnownRow.named Rows.scriptKnownSpec.vars) = true := by kernel_rfl
theorem k4 : ((Rows.scriptKnownRow.stops == []) && (Tryz.prog.stops == []) && (Rows.scriptKnownRow.knobs == []) && (Tryz.prog.stopKnobs == [])) = true := by kernel_rfl
theorem k5 : (Rows.scriptKnownRow.inPlace == Tryz.prog.inPlace 3) = true := by kernel_rfl
theorem k6 : (Rows.scriptKnownRow.unfollowed == Tryz.prog.unfollowed 3) = true := by kernel_rfl
theorem k7 : (Rows.scriptKnownRow.recurses == Tryz.prog.recurses 3) = true := by kernel_rfl
theorem k8 : (Rows.scriptKnownRow.named == Tryz.prog.varsNamed 3) = true := by kernel_rfl
theorem k9 : ((Rows.scriptKnownRow.maps == (Tryz.f3.params.toList ++ Rows.scriptKnownSpec.plain.varTypes Tryz.prog).any (Tryz.prog.mapsRec ·)) && (Rows.scriptKnownRow.ifaces == (Tryz.f3.params.toList ++ Rows.scriptKnownSpec.plain.varTypes Tryz.prog).any (Tryz.prog.ifacesRec ·)) && (Rows.scriptKnownRow.mapsOut == Tryz.prog.mapsAmong Tryz.f3.resultTypes.toList)) = true := by kernel_rfl
theorem k10 : ((Rows.scriptKnownRow.loops == (Tryz.f3.params.toList ++ Rows.scriptKnownSpec.plain.varTypes Tryz.prog).any (Tryz.prog.loopsFrom ·)) && (Rows.scriptKnownRow.wideKeys == (Tryz.f3.params.toList ++ Rows.scriptKnownSpec.plain.varTypes Tryz.prog ++ Tryz.f3.resultTypes.toList).any (Tryz.prog.wideKeysFrom ·))) = true := by kernel_rfl
theorem k11 : (Rows.scriptKnownSpec.vars.all (Tryz.prog.varReadable ·) && Tryz.f3.resultTypes.all (fun t => Tryz.prog.readableRec t && decide (t < Tryz.prog.types.size))) = true := by kernel_rfl
theorem k12 : ((Rows.scriptKnownRow.ifacesOut == Tryz.f3.resultTypes.toList.any (Tryz.prog.ifacesRec ·)) && (Rows.scriptKnownRow.loopsOut == Tryz.f3.resultTypes.toList.any (Tryz.prog.loopsFrom ·))) = true := by kernel_rfl
theorem k13 : (Rows.scriptKnownRow.plainKeys == Tryz.prog.plainKeys) = true := by kernel_rfl
theorem k14 : (Rows.scriptKnownRow.shortTexts.isNone && Tryz.prog.stopsHeard) = true := by kernel_rfl
theorem k15 : Tryz.prog.mayEnter = true := by kernel_rfl
theorem k16 : ((Rows.scriptKnownRow.lifted == Tryz.prog.liftsFinal) && (Tryz.prog.make == some Rows.scriptKnownRow.make)) = true := by kernel_rfl
theorem k17 : ((Rows.scriptKnownRow.kinds == (if Rows.scriptKnownRow.domain.isEmpty then [] else Tryz.f3.params.toList.map fun t => match Tryz.prog.underlying t with | some (.int k) => some k | _ => none)) && (Rows.scriptKnownRow.pinned == Rows.scriptKnownRow.pinnedBy)) = true := by kernel_rfl
theorem k18 : (Rows.scriptKnownRow.veiled == (Tryz.f3.params.toList ++ Rows.scriptKnownSpec.plain.varTypes Tryz.prog ++ Tryz.f3.resultTypes.toList).any (Tryz.prog.veiledRec ·)) = true := by kernel_rfl
theorem k19 : Rows.scriptKnownRow.veiledFits Tryz.prog Tryz.f3.params.toList (Tryz.f3.params.toList ++ Rows.scriptKnownSpec.plain.varTypes Tryz.prog ++ Tryz.f3.resultTypes.toList) = true := by kernel_rfl
end Go.Proofs.YtmbeoehgpffneaaGreatDoor.scriptKnown
