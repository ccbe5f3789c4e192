/- RoomServes: the card: of any arguments the law's call answers true, in any world that holds the listed variables. Began as the skeleton that the seat's proof-skeleton prints. -/
import Derived.Test.YtgjmpnngheohbaaDoorRows
import Derived.Test.YtgjmpnngheohbaaDoorCards
import Derived.Test.YtgjmpnngheohbaaDoorTie
import Derived.Test.YtgjmpnngheohbaaDoorA21
import Derived.Test.YtgjmpnngheohbaaDoorA22
import Derived.Test.YtgjmpnngheohbaaDoorArgs
import Derived.Test.YtgjmpnngheohbaaDoorJg
import Derived.Lay
import Derived.LaidOnce
import Derived.Deep.Slices
import Derived.SevenTiedAt
import Derived.MakeChecks
namespace Go.Proofs.YtgjmpnngheohbaaDoor.roomServes
open Go.ChangeShapes Go.WideShapes Go.ChangeAt Go.RowKit Go.Vc
set_option linter.unusedVariables false
theorem own : ownKnob Tryd.prog.godebug = none := by kernel_rfl
theorem mixed : Tryd.prog.follows .mixedOrders = true := by kernel_rfl
set_option maxRecDepth 1000000 in
theorem knownRuns : Go.Ab.okTrue (Go.Ab.callE Tryd.prog Go.Ab.noG 100000 100 6 [] ⟨0, .e⟩) = true := by kernel_rfl
theorem knownOk (W : World) : callD Tryd.prog 6 #[] W fun v w' => v = .bool true ∧ Ext W w' := Go.Ab.closed_true mixed knownRuns W
theorem k1b : laidOutB Tryd.prog = true := by kernel_rfl
theorem k1r : (Tryd.f4.params.toList.all fun t => Tryd.prog.readableRec t && decide (t < Tryd.prog.types.size)) = true := by kernel_rfl
theorem c5 : Tryd.prog.cellsOf 5 = 1 := by kernel_rfl
/-- A slice of bytes that came in. -/
theorem openArgsB {H : Type} {enc : TypeId × Value → H} {W : World} {n : Nat} {c : Value} {y : DataW H × List MemPlace} (h : DataW.trod enc Tryd.prog W 0 (fun _ => true) true n 40 [c] = some y) : ∃ l, ArgsU8 W c l ∧ okB l := by
  rcases open_ints Tryd.underlying40 Tryd.underlying5 c5 h with ⟨hcs, _⟩ | ⟨a, len, cap, zs, hcs, _, hl, hm, hz, _, hcell, hwf⟩
  · cases hcs
    exact ⟨[], .inl ⟨rfl, rfl⟩, fun x hx => by cases hx⟩
  · cases hcs
    simp only [if_true] at hz
    have htl : (zs.take len).length = len := by simp; omega
    refine ⟨zs.take len, .inr ⟨a, cap, by rw [htl], fun h0 => ?_⟩, fun x hx => ?_⟩
    rotate_left
    · have := hwf x (List.mem_of_mem_take hx)
      simp only [Lit.wf, Bool.and_eq_true, decide_eq_true_eq] at this
      have e1 : IntKind.min .u8 = 0 := by decide
      have e2 : IntKind.max .u8 = 255 := by decide
      have e3 : IntKind.min .i32 = -2147483648 := by decide
      have e4 : IntKind.max .i32 = 2147483647 := by decide
      omega
    obtain ⟨b, o, s⟩ := a
    obtain rfl : s = none := by simpa [Addr.add] using World.cell?_spot (hcell 0 (by omega))
    unfold BytesAre
    rw [htl]
    refine ⟨by simp; omega, .inr ⟨b, o, cap, rfl, hl, hm, fun j u hj => ?_⟩⟩
    rw [List.getElem?_map, List.getElem?_take] at hj
    split at hj
    · rename_i hjl
      have hjz : j < zs.length := by omega
      rw [List.getElem?_eq_getElem hjz] at hj
      simp at hj
      subst hj
      have := hcell j hjz
      rw [add_mk] at this
      rw [this]
      simp [List.getD, hjz]
    · cases hj
theorem c5j : Tryd.prog.cellsOf 21 = 1 := by kernel_rfl
/-- A slice of words that came in. -/
theorem openArgs32 {H : Type} {enc : TypeId × Value → H} {W : World} {n : Nat} {c : Value} {y : DataW H × List MemPlace} (h : DataW.trod enc Tryd.prog W 0 (fun _ => true) true n 39 [c] = some y) : ∃ l, Args32 W c l ∧ in32 l := by
  rcases open_ints Tryd.underlying39 Tryd.underlying21 c5j h with ⟨hcs, _⟩ | ⟨a, len, cap, zs, hcs, _, hl, hm, hz, _, hcell, hwf⟩
  · cases hcs
    exact ⟨[], .inl ⟨rfl, rfl⟩, fun x hx => by cases hx⟩
  · cases hcs
    simp only [if_true] at hz
    have htl : (zs.take len).length = len := by simp; omega
    refine ⟨zs.take len, .inr ⟨a, cap, by rw [htl], fun h0 => ?_⟩, fun x hx => ?_⟩
    rotate_left
    · have := hwf x (List.mem_of_mem_take hx)
      simp only [Lit.wf, Bool.and_eq_true, decide_eq_true_eq] at this
      have e1 : IntKind.min .u8 = 0 := by decide
      have e2 : IntKind.max .u8 = 255 := by decide
      have e3 : IntKind.min .i32 = -2147483648 := by decide
      have e4 : IntKind.max .i32 = 2147483647 := by decide
      omega
    obtain ⟨b, o, s⟩ := a
    obtain rfl : s = none := by simpa [Addr.add] using World.cell?_spot (hcell 0 (by omega))
    rw [htl]
    refine ⟨by simp; omega, .inr ⟨b, o, cap, rfl, hl, hm, fun j u hj => ?_⟩⟩
    rw [List.getElem?_map, List.getElem?_take] at hj
    split at hj
    · rename_i hjl
      have hjz : j < zs.length := by omega
      rw [List.getElem?_eq_getElem hjz] at hj
      simp at hj
      subst hj
      have := hcell j hjz
      rw [add_mk] at this
      rw [this]
      simp [List.getD, hjz]
    · cases hj

theorem c3 : Tryd.prog.cellsOf 3 = 1 := by kernel_rfl
theorem c35 : Tryd.prog.cellsOf 39 = 1 := by kernel_rfl
theorem c22 : Tryd.prog.cellsOf 40 = 1 := by kernel_rfl
theorem c7 : Tryd.prog.cellsOf 42 = 7 := by kernel_rfl
set_option maxRecDepth 100000 in
theorem openSteps {H : Type} {enc : TypeId × Value → H} {W : World} {r : Reach} {b0 : Nat} {v : Value} {d : DataW H} {p : List MemPlace} (hv : Value.okWide Tryd.prog W r b0 22 v) (h : DataW.Trod enc Tryd.prog W 0 (fun _ => true) true 22 v d p) :
    ∃ n, StepsArr W v n := by
  obtain ⟨a0, len, cap, rfl⟩ := okWide_slice Tryd.underlying22 hv
  obtain ⟨fuel, hf⟩ := h
  rcases Go.Deep.open_slice Tryd.underlying22 hf with ⟨hcs, _⟩ | ⟨a, len', cap', m, nn, D, Pl, hcs, _, hl, hm, hmm, _, hx⟩
  · simp [Value.cells] at hcs
    obtain ⟨rfl, rfl, rfl⟩ := hcs
    exact ⟨0, ⟨none, 0, rfl⟩, fun h => absurd h (Nat.lt_irrefl 0)⟩
  · simp [Value.cells] at hcs
    obtain ⟨rfl, rfl, rfl⟩ := hcs
    simp only [if_true] at hmm
    subst hmm
    rw [c7] at hx
    refine ⟨len, ⟨_, _, rfl⟩, fun hpos => ?_⟩
    obtain ⟨b, o, s⟩ := a
    have hs : s = none := by
      obtain ⟨cs', h1, _⟩ := hx 0 (by omega)
      obtain ⟨_, hlen, hcell⟩ := World.cells?_some h1
      obtain ⟨u, hu⟩ := ex_get (l := cs') (j := 0) (by omega)
      have := hcell 0 (by omega)
      rw [hu] at this
      simpa [Addr.add] using World.cell?_spot this
    subst hs
    have each : ∀ i, i < len → ∃ (z0 z1 z2 z3 : Int) (c4 c5 c6 : Value) (xs l5 l6 : List Int), (∀ j, j < 7 → W.cell? ⟨b, o + (i * 7 + j), none⟩ = [i64 z0, i64 z1, i64 z2, i64 z3, c4, c5, c6][j]?) ∧ (ArgsU8 W c5 l5 ∧ okB l5) ∧ (ArgsU8 W c6 l6 ∧ okB l6) ∧ Args32 W c4 xs ∧ in32 xs := by
      intro i hi
      obtain ⟨cs', h1, h2⟩ := hx i (by omega)
      obtain ⟨_, hlen, hcell⟩ := World.cells?_some h1
      match cs', hlen with
      | [u0, u1, u2, u3, u4, u5, u6], _ =>
        obtain ⟨xs, n', _, _, _, hlx, hfs⟩ := DataW.trod_struct Tryd.underlying42 h2
        match xs, (show xs.length = 7 from hlx) with
        | [y0, y1, y2, y3, y4, y5, y6], _ =>
        have f0 : DataW.trod enc Tryd.prog W 0 (fun _ => true) true n' 3 (([u0, u1, u2, u3, u4, u5, u6].drop 0).take (Tryd.prog.cellsOf 3)) = some y0 := hfs 0 _ rfl
        obtain ⟨z0, e0, _, _⟩ := DataW.trod_int Tryd.underlying3 f0
        have f1 : DataW.trod enc Tryd.prog W 0 (fun _ => true) true n' 3 (([u0, u1, u2, u3, u4, u5, u6].drop 1).take (Tryd.prog.cellsOf 3)) = some y1 := hfs 1 _ rfl
        obtain ⟨z1, e1, _, _⟩ := DataW.trod_int Tryd.underlying3 f1
        have f2 : DataW.trod enc Tryd.prog W 0 (fun _ => true) true n' 3 (([u0, u1, u2, u3, u4, u5, u6].drop 2).take (Tryd.prog.cellsOf 3)) = some y2 := hfs 2 _ rfl
        obtain ⟨z2, e2, _, _⟩ := DataW.trod_int Tryd.underlying3 f2
        have f3 : DataW.trod enc Tryd.prog W 0 (fun _ => true) true n' 3 (([u0, u1, u2, u3, u4, u5, u6].drop 3).take (Tryd.prog.cellsOf 3)) = some y3 := hfs 3 _ rfl
        obtain ⟨z3, e3, _, _⟩ := DataW.trod_int Tryd.underlying3 f3
        simp only [c3] at e0 e1 e2 e3
        simp at e0 e1 e2 e3
        subst e0 e1 e2 e3
        have f4 : DataW.trod enc Tryd.prog W 0 (fun _ => true) true n' 39 (([i64 z0, i64 z1, i64 z2, i64 z3, u4, u5, u6].drop 4).take (Tryd.prog.cellsOf 39)) = some y4 := hfs 4 _ rfl
        have f5 : DataW.trod enc Tryd.prog W 0 (fun _ => true) true n' 40 (([i64 z0, i64 z1, i64 z2, i64 z3, u4, u5, u6].drop 5).take (Tryd.prog.cellsOf 40)) = some y5 := hfs 5 _ rfl
        have f6 : DataW.trod enc Tryd.prog W 0 (fun _ => true) true n' 40 (([i64 z0, i64 z1, i64 z2, i64 z3, u4, u5, u6].drop 6).take (Tryd.prog.cellsOf 40)) = some y6 := hfs 6 _ rfl
        rw [c35] at f4
        rw [c22] at f5 f6
        obtain ⟨xs4, h4⟩ := openArgs32 f4
        obtain ⟨xs5, h5⟩ := openArgsB f5
        obtain ⟨xs6, h6⟩ := openArgsB f6
        have cell : ∀ j, j < 7 → W.cell? ⟨b, o + (i * 7 + j), none⟩ = [i64 z0, i64 z1, i64 z2, i64 z3, u4, u5, u6][j]? := fun j hj => by
          have := hcell j hj
          rw [add_mk, add_mk] at this
          rw [← Nat.add_assoc, this]
        exact ⟨z0, z1, z2, z3, u4, u5, u6, xs4, xs5, xs6, cell, h5, h6, h4⟩
    refine ⟨(List.range (len * 7)).map fun j => (W.cell? ⟨b, o + j, none⟩).getD undef, ⟨by simp, .inr ⟨b, o, _, rfl, hl, hm, fun j u hj => ?_⟩⟩, fun i hi => ?_⟩
    · have hjl : j < len * 7 := by have := (List.getElem?_eq_some_iff.1 hj).1; simpa using this
      obtain ⟨z0, z1, z2, z3, c4, c5, c6, xs, l5, l6, hcell, _⟩ := each (j / 7) (by omega)
      have h2 := hcell (j % 7) (Nat.mod_lt _ (by decide))
      obtain ⟨u', hu'⟩ := ex_get (l := [i64 z0, i64 z1, i64 z2, i64 z3, c4, c5, c6]) (j := j % 7) (Nat.mod_lt _ (by decide))
      rw [show j / 7 * 7 + j % 7 = j by omega, hu'] at h2
      rw [List.getElem?_map, List.getElem?_range hjl] at hj
      simp only [Option.map_some, h2, Option.getD_some, Option.some.injEq] at hj
      rw [h2, hj]
    · obtain ⟨z0, z1, z2, z3, c4, c5, c6, xs, l5, l6, hcell, h5, h6, h4⟩ := each i hi
      refine ⟨z0, z1, z2, z3, c4, c5, c6, xs, l5, l6, ?_, h5, h6, h4⟩
      apply List.ext_getElem?
      intro j
      rw [List.getElem?_take]
      by_cases hj : j < 7
      · rw [if_pos hj, List.getElem?_drop, List.getElem?_map, List.getElem?_range (by omega), Option.map_some, hcell j hj]
        obtain ⟨u', hu'⟩ := ex_get (l := [i64 z0, i64 z1, i64 z2, i64 z3, c4, c5, c6]) (j := j) hj
        rw [hu']; rfl
      · rw [if_neg hj, List.getElem?_eq_none (by simp; omega)]
set_option maxRecDepth 100000 in
theorem lifted (os : Os) (started : os.Started) (H : Type) (enc : TypeId × Value → H) :
    ReturnsInHanded {} Tryd.checked os 4 .any (fun w args => (Rows.roomServesSpec.pre enc Tryd.prog Tryd.f4 Rows.roomServesRow.domain false w args ∧ laidMetH Tryd.prog Rows.roomServesRow.laid w) ∧ sizedMet enc Tryd.prog Tryd.f4 (OpenSpec.ofChange Rows.roomServesSpec) false w args)
      (Rows.roomServesSpec.post enc Tryd.prog Tryd.f4 false true false false) := by
  refine returnsInHanded_of_change_and (C := Tryd.checked) (X := fun w _ => laidMetH Tryd.prog Rows.roomServesRow.laid w) (fun _ _ _ hh h => h.of_heap hh) own started (by kernel_rfl) Tryd.func4
    (ChangeSpec.witness_shaped (enc := enc) (C := Tryd.checked) (os := os) (X := fun w _ => laidMetH Tryd.prog Rows.roomServesRow.laid w) false (World.laidAll Tryd.prog os Rows.roomServesRow.laid) #[.int .i64 0, .slice none 0 0] 8 (World.laidAll_os _ _ _)
      (World.shaped_of_ZipB (by kernel_rfl) (by kernel_rfl)) (by kernel_rfl) (by kernel_rfl) (by kernel_rfl)
      (by rw [MakeChecks.laidMetH_plain _ _ _ (by kernel_rfl)]; exact laidMet_laidAll _ (by kernel_rfl) (by kernel_rfl))) ?_
  intro W base args ds gs before hval0 hW hcnd _ hL _
  have hval : ∀ (j : Nat) t v, Tryd.f4.params[j]? = some t → args[j]? = some v → Value.okWide Tryd.prog W .any base t v := hval0
  have hW' := hW
  obtain ⟨p, q, hA0, hV, rfl, hfz, hnd⟩ := hW
  have hA : DataW.TrodAll enc Tryd.prog W 0 (fun _ => true) true Tryd.f4.params.toList args.toList ds p := hA0
  have hA1 := hA
  rw [Tryd.params4] at hA hval
  obtain ⟨v0, vs0, d0, ds0, p0, q0, hargs, rfl, rfl, h0, r0⟩ := trodAll_cons hA
  obtain ⟨v1, vs1, d1, ds1, p1, q1, rfl, rfl, rfl, h1, r1⟩ := trodAll_cons r0
  obtain ⟨rfl, rfl, rfl⟩ := trodAll_nil r1
  obtain rfl : args = #[v0, v1] := by cases args; simp_all
  obtain ⟨rfl, rfl⟩ := trodVars_none hV
  obtain ⟨n0, rfl, -, -, -⟩ := open_int Tryd.underlying3 (hval 0 3 v0 rfl rfl) h0
  obtain ⟨N1, hof1⟩ := openSteps (hval 1 22 v1 rfl rfl) h1
  simp only [List.append_nil] at hW'
  refine (serves_law hof1 knownOk).ex.2.mono fun e W' ⟨v, he, hv, hx⟩ => ?_
  subst he
  subst hv
  exact ⟨_, rfl, post_of_ext (ds := [d0, d1]) (gs := []) (pv := []) (by simpa using hW') hx (fun _ _ _ => (trodAll_cons_mk (shut_bool Tryd.underlying4 _) trodAll_mk0)) (fun sp hsp => args_stay k1b hx k1r hA1 (fun x hx' => hW'.lt x (by simpa using hx')) (fun x hx' => hsp x (by simpa using hx'))) (fun _ _ => rfl)
    (ok_one (by kernel_rfl) rfl (okWide_bool_mk Tryd.underlying4 _))⟩

theorem over : Rows.roomServesRow.holds Tryd.pinned (OpenSpec.ofChange Rows.roomServesSpec) :=
  OpenClaim.holds_of_wide 4 Tryd.f4 rfl rfl rfl rfl rfl rfl rfl ⟨rfl, rfl, rfl, rfl, rfl⟩ rfl rfl rfl rfl rfl (by kernel_rfl) Tryd.func4 (by kernel_rfl)
    (of_decide_eq_true (by kernel_rfl)) (by unfold Func.isWrapper; first | (rw [if_pos (by decide +kernel)]; kernel_rfl) | (rw [if_neg (by decide +kernel)]; exact ⟨rfl, rfl⟩))
    (fun os started H enc _ => lifted os started H enc)

theorem noStand : (Tryd.f4.params.toList.all fun u => !Tryd.prog.wantsStandIn u) = true := by kernel_rfl
/-- ████ THE STATEMENT ████ -/
theorem proved : Rows.RoomServesCardSaid :=
  Claim7.holds_tied_plain_at .later [] [.data] true (true, "97195ce3dd36974d16044ece3e8b9183227c00931cc9869e26a5654a38c07f2d") false over (fun _ h => by cases h) (by kernel_rfl) (fun _ h => by cases h) roomServes_row_tie rfl ⟨rfl, rfl⟩ (by kernel_rfl) rfl
    (fun f fn hf hfn => by
      obtain rfl : f = 4 := Option.some.inj ((show Tryd.prog.funcNamed Rows.roomServesRow.func = some 4 by kernel_rfl).symm.trans hf) |>.symm
      obtain rfl : fn = Tryd.f4 := (Option.some.inj (Tryd.func4.symm.trans hfn)).symm
      exact ⟨by kernel_rfl, fun j t ht => by
        have hm : t ∈ Tryd.f4.params.toList := by simpa using Array.mem_of_getElem? ht
        exact (show Tryd.prog.wantsStandIn t = false by simpa using List.all_eq_true.1 noStand t hm)⟩)
    (by kernel_rfl)
end Go.Proofs.YtgjmpnngheohbaaDoor.roomServes
