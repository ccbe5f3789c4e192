/- RoomFields: the card: of any arguments the law's call answers true, in any world that holds the listed variables. Began as the skeleton that the seat's proof-skeleton prints. -/
import Derived.Test.YtgjmpnngheohbaaDoorRows
import Derived.Test.YtgjmpnngheohbaaDoorCards
import Derived.Test.YtgjmpnngheohbaaDoorTie
import Derived.Test.YtgjmpnngheohbaaDoorA21
import Derived.Test.YtgjmpnngheohbaaDoorA22
import Derived.Test.YtgjmpnngheohbaaDoorArgs
import Derived.Test.YtgjmpnngheohbaaDoorFl5
import Derived.Lay
import Derived.LaidOnce
import Derived.Deep.Slices
import Derived.SevenTiedAt
import Derived.MakeChecks
namespace Go.Proofs.YtgjmpnngheohbaaDoor.roomFields
open Go.ChangeShapes Go.WideShapes Go.ChangeAt Go.RowKit Go.Vc
set_option linter.unusedVariables false
theorem own : ownKnob Tryd.prog.godebug = none := by kernel_rfl
theorem mixed : Tryd.prog.follows .mixedOrders = true := by kernel_rfl
set_option maxRecDepth 1000000 in
theorem knownRuns : Go.Ab.okTrue (Go.Ab.callE Tryd.prog Go.Ab.noG 100000 100 6 [] ⟨0, .e⟩) = true := by kernel_rfl
theorem knownOk (W : World) : callD Tryd.prog 6 #[] W fun v w' => v = .bool true ∧ Ext W w' := Go.Ab.closed_true mixed knownRuns W
theorem k1b : laidOutB Tryd.prog = true := by kernel_rfl
theorem k1r : (Tryd.f3.params.toList.all fun t => Tryd.prog.readableRec t && decide (t < Tryd.prog.types.size)) = true := by kernel_rfl

theorem c3 : Tryd.prog.cellsOf 3 = 1 := by kernel_rfl
theorem c7 : Tryd.prog.cellsOf 42 = 7 := by kernel_rfl
set_option maxRecDepth 100000 in
theorem openSteps {H : Type} {enc : TypeId × Value → H} {W : World} {r : Reach} {b0 : Nat} {v : Value} {d : DataW H} {p : List MemPlace} (hv : Value.okWide Tryd.prog W r b0 22 v) (h : DataW.Trod enc Tryd.prog W 0 (fun _ => true) true 22 v d p) :
    ∃ n, StepsAre W v n := by
  obtain ⟨a0, len, cap, rfl⟩ := okWide_slice Tryd.underlying22 hv
  obtain ⟨fuel, hf⟩ := h
  rcases Go.Deep.open_slice Tryd.underlying22 hf with ⟨hcs, _⟩ | ⟨a, len', cap', m, nn, D, Pl, hcs, _, hl, hm, hmm, _, hx⟩
  · simp [Value.cells] at hcs
    obtain ⟨rfl, rfl, rfl⟩ := hcs
    exact ⟨0, ⟨none, 0, rfl⟩, fun h => absurd h (Nat.lt_irrefl 0)⟩
  · simp [Value.cells] at hcs
    obtain ⟨rfl, rfl, rfl⟩ := hcs
    simp only [if_true] at hmm
    subst hmm
    rw [c7] at hx
    refine ⟨len, ⟨_, _, rfl⟩, fun hpos => ?_⟩
    obtain ⟨b, o, s⟩ := a
    have hs : s = none := by
      obtain ⟨cs', h1, _⟩ := hx 0 (by omega)
      obtain ⟨_, hlen, hcell⟩ := World.cells?_some h1
      obtain ⟨u, hu⟩ := ex_get (l := cs') (j := 0) (by omega)
      have := hcell 0 (by omega)
      rw [hu] at this
      simpa [Addr.add] using World.cell?_spot this
    subst hs
    have each : ∀ i, i < len → (∀ j, j < 7 → (W.cell? ⟨b, o + (i * 7 + j), none⟩).isSome = true) ∧ ∀ j, j < 4 → ∃ z : Int, W.cell? ⟨b, o + (i * 7 + j), none⟩ = some (i64 z) := by
      intro i hi
      obtain ⟨cs', h1, h2⟩ := hx i (by omega)
      obtain ⟨_, hlen, hcell⟩ := World.cells?_some h1
      match cs', hlen with
      | [u0, u1, u2, u3, u4, u5, u6], _ =>
        obtain ⟨xs, n', _, _, _, hlx, hfs⟩ := DataW.trod_struct Tryd.underlying42 h2
        match xs, (show xs.length = 7 from hlx) with
        | [y0, y1, y2, y3, y4, y5, y6], _ =>
        have f0 : DataW.trod enc Tryd.prog W 0 (fun _ => true) true n' 3 (([u0, u1, u2, u3, u4, u5, u6].drop 0).take (Tryd.prog.cellsOf 3)) = some y0 := hfs 0 _ rfl
        obtain ⟨z0, e0, _, _⟩ := DataW.trod_int Tryd.underlying3 f0
        have f1 : DataW.trod enc Tryd.prog W 0 (fun _ => true) true n' 3 (([u0, u1, u2, u3, u4, u5, u6].drop 1).take (Tryd.prog.cellsOf 3)) = some y1 := hfs 1 _ rfl
        obtain ⟨z1, e1, _, _⟩ := DataW.trod_int Tryd.underlying3 f1
        have f2 : DataW.trod enc Tryd.prog W 0 (fun _ => true) true n' 3 (([u0, u1, u2, u3, u4, u5, u6].drop 2).take (Tryd.prog.cellsOf 3)) = some y2 := hfs 2 _ rfl
        obtain ⟨z2, e2, _, _⟩ := DataW.trod_int Tryd.underlying3 f2
        have f3 : DataW.trod enc Tryd.prog W 0 (fun _ => true) true n' 3 (([u0, u1, u2, u3, u4, u5, u6].drop 3).take (Tryd.prog.cellsOf 3)) = some y3 := hfs 3 _ rfl
        obtain ⟨z3, e3, _, _⟩ := DataW.trod_int Tryd.underlying3 f3
        simp only [c3] at e0 e1 e2 e3
        simp at e0 e1 e2 e3
        subst e0 e1 e2 e3
        have cell : ∀ j, j < 7 → W.cell? ⟨b, o + (i * 7 + j), none⟩ = [i64 z0, i64 z1, i64 z2, i64 z3, u4, u5, u6][j]? := fun j hj => by
          have := hcell j hj
          rw [add_mk, add_mk] at this
          rw [← Nat.add_assoc, this]
        refine ⟨fun j hj => ?_, fun j hj => ?_⟩
        · rw [cell j hj]
          obtain ⟨u, hu⟩ := ex_get (l := [i64 z0, i64 z1, i64 z2, i64 z3, u4, u5, u6]) (j := j) hj
          rw [hu]; rfl
        · have h4 : j = 0 ∨ j = 1 ∨ j = 2 ∨ j = 3 := by omega
          rcases h4 with rfl | rfl | rfl | rfl
          · exact ⟨z0, cell 0 (by omega)⟩
          · exact ⟨z1, cell 1 (by omega)⟩
          · exact ⟨z2, cell 2 (by omega)⟩
          · exact ⟨z3, cell 3 (by omega)⟩
    refine ⟨(List.range (len * 7)).map fun j => (W.cell? ⟨b, o + j, none⟩).getD undef, ⟨by simp, .inr ⟨b, o, _, rfl, hl, hm, fun j u hj => ?_⟩⟩, fun i hi j hj => ?_⟩
    · have hjl : j < len * 7 := by have := (List.getElem?_eq_some_iff.1 hj).1; simpa using this
      have h2 := (each (j / 7) (by omega)).1 (j % 7) (Nat.mod_lt _ (by decide))
      rw [show j / 7 * 7 + j % 7 = j by omega] at h2
      rw [List.getElem?_map, List.getElem?_range hjl] at hj
      obtain ⟨u', hu'⟩ := Option.isSome_iff_exists.1 h2
      simp only [Option.map_some, hu', Option.getD_some, Option.some.injEq] at hj
      rw [hu', hj]
    · obtain ⟨z, hz⟩ := (each i hi).2 j hj
      refine ⟨z, ?_⟩
      rw [List.getElem?_map, List.getElem?_range (by omega)]
      simp [hz]
set_option maxRecDepth 100000 in
theorem lifted (os : Os) (started : os.Started) (H : Type) (enc : TypeId × Value → H) :
    ReturnsInHanded {} Tryd.checked os 3 .any (fun w args => (Rows.roomFieldsSpec.pre enc Tryd.prog Tryd.f3 Rows.roomFieldsRow.domain false w args ∧ laidMetH Tryd.prog Rows.roomFieldsRow.laid w) ∧ sizedMet enc Tryd.prog Tryd.f3 (OpenSpec.ofChange Rows.roomFieldsSpec) false w args)
      (Rows.roomFieldsSpec.post enc Tryd.prog Tryd.f3 false true false false) := by
  refine returnsInHanded_of_change_and (C := Tryd.checked) (X := fun w _ => laidMetH Tryd.prog Rows.roomFieldsRow.laid w) (fun _ _ _ hh h => h.of_heap hh) own started (by kernel_rfl) Tryd.func3
    (ChangeSpec.witness_shaped (enc := enc) (C := Tryd.checked) (os := os) (X := fun w _ => laidMetH Tryd.prog Rows.roomFieldsRow.laid w) false (World.laidAll Tryd.prog os Rows.roomFieldsRow.laid) #[.slice none 0 0] 8 (World.laidAll_os _ _ _)
      (World.shaped_of_ZipB (by kernel_rfl) (by kernel_rfl)) (by kernel_rfl) (by kernel_rfl) (by kernel_rfl)
      (by rw [MakeChecks.laidMetH_plain _ _ _ (by kernel_rfl)]; exact laidMet_laidAll _ (by kernel_rfl) (by kernel_rfl))) ?_
  intro W base args ds gs before hval0 hW hcnd _ hL _
  have hval : ∀ (j : Nat) t v, Tryd.f3.params[j]? = some t → args[j]? = some v → Value.okWide Tryd.prog W .any base t v := hval0
  have hW' := hW
  obtain ⟨p, q, hA0, hV, rfl, hfz, hnd⟩ := hW
  have hA : DataW.TrodAll enc Tryd.prog W 0 (fun _ => true) true Tryd.f3.params.toList args.toList ds p := hA0
  have hA1 := hA
  rw [Tryd.params3] at hA hval
  obtain ⟨v0, vs0, d0, ds0, p0, q0, hargs, rfl, rfl, h0, r0⟩ := trodAll_cons hA
  obtain ⟨rfl, rfl, rfl⟩ := trodAll_nil r0
  obtain rfl : args = #[v0] := by cases args; simp_all
  obtain ⟨rfl, rfl⟩ := trodVars_none hV
  obtain ⟨N0, hof0⟩ := openSteps (hval 0 22 v0 rfl rfl) h0
  simp only [List.append_nil] at hW'
  refine (fields_law hof0 knownOk).ex.2.mono fun e W' ⟨v, he, hv, hx⟩ => ?_
  subst he
  subst hv
  exact ⟨_, rfl, post_of_ext (ds := [d0]) (gs := []) (pv := []) (by simpa using hW') hx (fun _ _ _ => (trodAll_cons_mk (shut_bool Tryd.underlying4 _) trodAll_mk0)) (fun sp hsp => args_stay k1b hx k1r hA1 (fun x hx' => hW'.lt x (by simpa using hx')) (fun x hx' => hsp x (by simpa using hx'))) (fun _ _ => rfl)
    (ok_one (by kernel_rfl) rfl (okWide_bool_mk Tryd.underlying4 _))⟩

theorem over : Rows.roomFieldsRow.holds Tryd.pinned (OpenSpec.ofChange Rows.roomFieldsSpec) :=
  OpenClaim.holds_of_wide 3 Tryd.f3 rfl rfl rfl rfl rfl rfl rfl ⟨rfl, rfl, rfl, rfl, rfl⟩ rfl rfl rfl rfl rfl (by kernel_rfl) Tryd.func3 (by kernel_rfl)
    (of_decide_eq_true (by kernel_rfl)) (by unfold Func.isWrapper; first | (rw [if_pos (by decide +kernel)]; kernel_rfl) | (rw [if_neg (by decide +kernel)]; exact ⟨rfl, rfl⟩))
    (fun os started H enc _ => lifted os started H enc)

theorem noStand : (Tryd.f3.params.toList.all fun u => !Tryd.prog.wantsStandIn u) = true := by kernel_rfl
/-- ████ THE STATEMENT ████ -/
theorem proved : Rows.RoomFieldsCardSaid :=
  Claim7.holds_tied_plain_at .later [] [.data] true (true, "97195ce3dd36974d16044ece3e8b9183227c00931cc9869e26a5654a38c07f2d") false over (fun _ h => by cases h) (by kernel_rfl) (fun _ h => by cases h) roomFields_row_tie rfl ⟨rfl, rfl⟩ (by kernel_rfl) rfl
    (fun f fn hf hfn => by
      obtain rfl : f = 3 := Option.some.inj ((show Tryd.prog.funcNamed Rows.roomFieldsRow.func = some 3 by kernel_rfl).symm.trans hf) |>.symm
      obtain rfl : fn = Tryd.f3 := (Option.some.inj (Tryd.func3.symm.trans hfn)).symm
      exact ⟨by kernel_rfl, fun j t ht => by
        have hm : t ∈ Tryd.f3.params.toList := by simpa using Array.mem_of_getElem? ht
        exact (show Tryd.prog.wantsStandIn t = false by simpa using List.all_eq_true.1 noStand t hm)⟩)
    (by kernel_rfl)
end Go.Proofs.YtgjmpnngheohbaaDoor.roomFields
