/- TwinAlike: the card: the closed call, which answers true (by its own text), as the row wants it. Began as the skeleton that the seat's proof-skeleton prints. -/
import Derived.Test.YtbigfaomhfmpkaaGreatDoorRows
import Derived.Test.YtbigfaomhfmpkaaGreatDoorCards
import Derived.Test.YtbigfaomhfmpkaaGreatDoorTie
import Derived.Test.YtbigfaomhfmpkaaGreatDoorTwinAlikeQ
import Derived.Test.YtbigfaomhfmpkaaGreatDoorArgs
import Derived.Test.YtbigfaomhfmpkaaGreatDoorAlikeC
import Derived.Lib.SmallJoins
import Derived.SizedLaws
import Derived.Lay
import Derived.LaidOnce
import Derived.SevenTiedAt
import Derived.MakeChecks
namespace Go.Proofs.YtbigfaomhfmpkaaGreatDoor.twinAlike
open Go.ChangeShapes Go.WideShapes Go.ChangeAt Go.RowKit Go.Vc
set_option linter.unusedVariables false
theorem own : ownKnob Tryz.prog.godebug = none := by kernel_rfl
theorem k1b : laidOutB Tryz.prog = true := by kernel_rfl
theorem k1r : (Tryz.f3.params.toList.all fun t => Tryz.prog.readableRec t && decide (t < Tryz.prog.types.size)) = true := by kernel_rfl
set_option maxRecDepth 100000 in
/-- An answer that came in. -/
theorem openAns {H : Type} {enc : TypeId × Value → H} {W : World} {r : Reach} {b0 : Nat} {v : Value} {d : DataW H} {p : List MemPlace} (hv : Value.okWide Tryz.prog W r b0 24 v) (h : DataW.Trod enc Tryz.prog W 0 (fun _ => true) true 24 v d p) :
    ∃ a : Ans, v = a.val ∧ AnsIs W a ∧ ∀ B, (∀ n ∈ d.weights Tryz.prog 24, n ≤ B) → a.n ≤ B := by
  obtain ⟨u0, u1, u2, y0, y1, y2, n, rfl, rfl, _, g0, g1, g2⟩ := Go.Joins.open_agg3 Tryz.underlying24 (by kernel_rfl) (by kernel_rfl) hv h
  obtain ⟨s, e0, _, _⟩ := DataW.trod_int Tryz.underlying3 g0
  cases e0
  have sl : ∀ {u y}, DataW.trod enc Tryz.prog W 0 (fun _ => true) true n 22 [u] = some y → ∃ (a0 : Option Addr) (len cap : Nat), u = .slice a0 len cap ∧ (len = 0 ∨ ∃ el sp, y.1 = .slice el sp ∧ len ≤ el.length + sp.length) ∧ ∃ xs, Lib.BytesIn W a0 len xs ∧ xs.length = len := by
    intro u y hy
    rcases open_ints Tryz.underlying22 Tryz.underlying5 (by kernel_rfl) hy with ⟨hcs, _⟩ | ⟨a, len, cap, zs, hcs, _, hl, hm, hz, hy', hcell, _⟩
    · cases hcs
      exact ⟨none, 0, 0, rfl, .inl rfl, [], Lib.BytesIn.nil _ _ _, rfl⟩
    · cases hcs
      simp only [if_true] at hz
      exact ⟨some a, len, cap, rfl, .inr ⟨_, _, by rw [hy'], by simp [lits]; omega⟩, zs.take len, Lib.BytesIn.of_cells fun i hi => by rw [hcell i (by omega)]; simp [List.getD, hi], by simp; omega⟩
  obtain ⟨p1, k1, c1, rfl, _, xs, hb, hl⟩ := sl g1
  obtain ⟨p2, k2, c2, rfl, hk2, _⟩ := sl g2
  refine ⟨⟨s, p1, k1, c1, xs, p2, k2, c2⟩, rfl, ⟨hb, hl⟩, fun B hB => ?_⟩
  rcases hk2 with h0 | ⟨el, sp, he, hle⟩
  · show k2 ≤ B
    omega
  · have h5 : Tryz.prog.bytesOf 5 = 1 := by kernel_rfl
    have := hB ((el.length + sp.length) * Tryz.prog.bytesOf 5) (by
      simp only [DataW.weights, Tryz.underlying24]
      rw [he]
      exact DataW.weights_mem_each (j := 2) rfl rfl _ (by simp [DataW.weights, Tryz.underlying22]))
    rw [h5, Nat.mul_one] at this
    exact Nat.le_trans hle this
set_option maxRecDepth 100000 in
theorem lifted (os : Os) (started : os.Started) (H : Type) (enc : TypeId × Value → H) :
    ReturnsInHanded {} Tryz.checked os 3 .any (fun w args => (Rows.twinAlikeSpec.pre enc Tryz.prog Tryz.f3 Rows.twinAlikeRow.domain false w args ∧ laidMetH Tryz.prog Rows.twinAlikeRow.laid w) ∧ sizedMet enc Tryz.prog Tryz.f3 (OpenSpec.ofChange Rows.twinAlikeSpec) false w args)
      (Rows.twinAlikeSpec.post enc Tryz.prog Tryz.f3 false true false false) := by
  refine returnsInHanded_of_change_and (C := Tryz.checked) (X := fun w _ => laidMetH Tryz.prog Rows.twinAlikeRow.laid w) (fun _ _ _ hh h => h.of_heap hh) own started (by kernel_rfl) Tryz.func3
    (ChangeSpec.witness_shaped (enc := enc) (C := Tryz.checked) (os := os) (X := fun w _ => laidMetH Tryz.prog Rows.twinAlikeRow.laid w) false (World.laidAll Tryz.prog os Rows.twinAlikeRow.laid) #[.agg #[.int .i64 0, .slice none 0 0, .slice none 0 0], .agg #[.int .i64 0, .slice none 0 0, .slice none 0 0], .bool false] 8 (World.laidAll_os _ _ _)
      (World.shaped_of_ZipB (by kernel_rfl) (by kernel_rfl)) (by kernel_rfl) (by kernel_rfl) (by kernel_rfl)
      (by rw [MakeChecks.laidMetH_plain _ _ _ (by kernel_rfl)]; exact laidMet_laidAll _ (by kernel_rfl) (by kernel_rfl))) ?_
  intro W base args ds gs before hval0 hW hcnd hZ hL hS
  have hval : ∀ (j : Nat) t v, Tryz.f3.params[j]? = some t → args[j]? = some v → Value.okWide Tryz.prog W .any base t v := hval0
  have hW' := hW
  obtain ⟨p, q, hA0, hV, rfl, hfz, hnd⟩ := hW
  have hA : DataW.TrodAll enc Tryz.prog W 0 (fun _ => true) true Tryz.f3.params.toList args.toList ds p := hA0
  have hA1 := hA
  rw [Tryz.params3] at hA hval
  obtain ⟨v0, vs0, d0, ds0, p0, q0, hargs, rfl, rfl, h0, r0⟩ := trodAll_cons hA
  obtain ⟨v1, vs1, d1, ds1, p1, q1, rfl, rfl, rfl, h1, r1⟩ := trodAll_cons r0
  obtain ⟨v2, vs2, d2, ds2, p2, q2, rfl, rfl, rfl, h2, r2⟩ := trodAll_cons r1
  obtain ⟨rfl, rfl, rfl⟩ := trodAll_nil r2
  obtain rfl : args = #[v0, v1, v2] := by cases args; simp_all
  obtain ⟨rfl, rfl⟩ := trodVars_none hV
  obtain ⟨near, rfl, -, -⟩ := open_bool Tryz.underlying4 (hval 2 4 v2 rfl rfl) h2
  obtain ⟨a, rfl, ha, hna⟩ := openAns (hval 0 24 v0 rfl rfl) h0
  obtain ⟨b, rfl, hb, _⟩ := openAns (hval 1 24 v1 rfl rfl) h1
  simp only [List.append_nil] at hW'
  have hlim : a.n ≤ 281474976710656 := Nat.le_trans (hna reachBytes fun n hn => of_decide_eq_true (List.all_eq_true.1 hZ n (DataW.weights_mem_each (j := 0) (t := 24) (d := d0) (by rw [Tryz.params3]; rfl) rfl n hn))) (by decide)
  refine (law_ok ha hb hlim knownOk).ex.2.mono fun e W' ⟨v, he, hv, hx⟩ => ?_
  subst he
  subst hv
  exact ⟨_, rfl, post_of_ext (ds := [d0, d1, d2]) (gs := []) (pv := []) (by simpa using hW') hx (fun _ _ _ => (trodAll_cons_mk (shut_bool Tryz.underlying4 _) trodAll_mk0)) (fun sp hsp => args_stay k1b hx k1r hA1 (fun x hx' => hW'.lt x (by simpa using hx')) (fun x hx' => hsp x (by simpa using hx'))) (fun _ _ => rfl)
    (ok_one (by kernel_rfl) rfl (okWide_bool_mk Tryz.underlying4 _))⟩

/-! The row's closed facts, one by one: together they are more than one check of the kernel's holds. -/
theorem k1 : (Rows.twinAlikeRow.wf (OpenSpec.ofChange Rows.twinAlikeSpec) && laidOutB Tryz.prog) = true := by kernel_rfl
theorem k2 : mapsRowed Tryz.prog = true := by kernel_rfl
theorem k3 : (Tryz.f3.params.all (Tryz.prog.readableRec ·) && namedTie Tryz.prog Rows.twinAlikeRow.named Rows.twinAlikeSpec.vars) = true := by kernel_rfl
theorem k4 : ((Rows.twinAlikeRow.stops == []) && (Tryz.prog.stops == []) && (Rows.twinAlikeRow.knobs == []) && (Tryz.prog.stopKnobs == [])) = true := by kernel_rfl
theorem k5 : (Rows.twinAlikeRow.inPlace == Tryz.prog.inPlace 3) = true := by kernel_rfl
theorem k6 : (Rows.twinAlikeRow.unfollowed == Tryz.prog.unfollowed 3) = true := by kernel_rfl
theorem k7 : (Rows.twinAlikeRow.recurses == Tryz.prog.recurses 3) = true := by kernel_rfl
theorem k8 : (Rows.twinAlikeRow.named == Tryz.prog.varsNamed 3) = true := by kernel_rfl
theorem k9 : ((Rows.twinAlikeRow.maps == (Tryz.f3.params.toList ++ Rows.twinAlikeSpec.plain.varTypes Tryz.prog).any (Tryz.prog.mapsRec ·)) && (Rows.twinAlikeRow.ifaces == (Tryz.f3.params.toList ++ Rows.twinAlikeSpec.plain.varTypes Tryz.prog).any (Tryz.prog.ifacesRec ·)) && (Rows.twinAlikeRow.mapsOut == Tryz.prog.mapsAmong Tryz.f3.resultTypes.toList)) = true := by kernel_rfl
theorem k10 : ((Rows.twinAlikeRow.loops == (Tryz.f3.params.toList ++ Rows.twinAlikeSpec.plain.varTypes Tryz.prog).any (Tryz.prog.loopsFrom ·)) && (Rows.twinAlikeRow.wideKeys == (Tryz.f3.params.toList ++ Rows.twinAlikeSpec.plain.varTypes Tryz.prog ++ Tryz.f3.resultTypes.toList).any (Tryz.prog.wideKeysFrom ·))) = true := by kernel_rfl
theorem k11 : (Rows.twinAlikeSpec.vars.all (Tryz.prog.varReadable ·) && Tryz.f3.resultTypes.all (fun t => Tryz.prog.readableRec t && decide (t < Tryz.prog.types.size))) = true := by kernel_rfl
theorem k12 : ((Rows.twinAlikeRow.ifacesOut == Tryz.f3.resultTypes.toList.any (Tryz.prog.ifacesRec ·)) && (Rows.twinAlikeRow.loopsOut == Tryz.f3.resultTypes.toList.any (Tryz.prog.loopsFrom ·))) = true := by kernel_rfl
theorem k13 : (Rows.twinAlikeRow.plainKeys == Tryz.prog.plainKeys) = true := by kernel_rfl
theorem k14 : (Rows.twinAlikeRow.shortTexts.isNone && Tryz.prog.stopsHeard) = true := by kernel_rfl
theorem k15 : Tryz.prog.mayEnter = true := by kernel_rfl
theorem k16 : ((Rows.twinAlikeRow.lifted == Tryz.prog.liftsFinal) && (Tryz.prog.make == some Rows.twinAlikeRow.make)) = true := by kernel_rfl
theorem k17 : ((Rows.twinAlikeRow.kinds == (if Rows.twinAlikeRow.domain.isEmpty then [] else Tryz.f3.params.toList.map fun t => match Tryz.prog.underlying t with | some (.int k) => some k | _ => none)) && (Rows.twinAlikeRow.pinned == Rows.twinAlikeRow.pinnedBy)) = true := by kernel_rfl
theorem k18 : (Rows.twinAlikeRow.veiled == (Tryz.f3.params.toList ++ Rows.twinAlikeSpec.plain.varTypes Tryz.prog ++ Tryz.f3.resultTypes.toList).any (Tryz.prog.veiledRec ·)) = true := by kernel_rfl
theorem k19 : Rows.twinAlikeRow.veiledFits Tryz.prog Tryz.f3.params.toList (Tryz.f3.params.toList ++ Rows.twinAlikeSpec.plain.varTypes Tryz.prog ++ Tryz.f3.resultTypes.toList) = true := by kernel_rfl
end Go.Proofs.YtbigfaomhfmpkaaGreatDoor.twinAlike
