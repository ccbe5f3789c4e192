/- RoomWalls: the statement: of any numbers the law's call answers true in any world. Began as the skeleton that the seat's proof-skeleton prints. -/
import Derived.Test.YtgjmpnngheohbaaRows
import Derived.Test.YtgjmpnngheohbaaA21
import Derived.Test.YtgjmpnngheohbaaA22
import Derived.Test.YtgjmpnngheohbaaArgs
import Derived.Test.YtgjmpnngheohbaaRw
import Derived.Deep.Slices
import Derived.Test.YtgjmpnngheohbaaPost
namespace Go.Proofs.Ytgjmpnngheohbaa.roomWalls
open Go.ChangeShapes Go.WideShapes Go.ChangeAt Go.RowKit Go.Vc
set_option linter.unusedVariables false
theorem own : ownKnob Try.prog.godebug = none := by kernel_rfl
theorem mixed : Try.prog.follows .mixedOrders = true := by kernel_rfl
set_option maxRecDepth 1000000 in
theorem knownRuns : Go.Ab.okTrue (Go.Ab.callE Try.prog Go.Ab.noG 100000 100 8 [] ⟨0, .e⟩) = true := by kernel_rfl
theorem knownOk (W : World) : callD Try.prog 8 #[] W fun v w' => v = .bool true ∧ Ext W w' := Go.Ab.closed_true mixed knownRuns W
theorem k1b : laidOutB Try.prog = true := by kernel_rfl
theorem k1r : (Try.f5.params.toList.all fun t => Try.prog.readableRec t && decide (t < Try.prog.types.size)) = true := by kernel_rfl
theorem c5 : Try.prog.cellsOf 5 = 1 := by kernel_rfl
/-- A slice of bytes that came in. -/
theorem openArgsB {H : Type} {enc : TypeId × Value → H} {W : World} {n : Nat} {c : Value} {y : DataW H × List MemPlace} (h : DataW.trod enc Try.prog W 0 (fun _ => true) true n 22 [c] = some y) : ∃ l, ArgsU8 W c l := by
  rcases open_ints Try.underlying22 Try.underlying5 c5 h with ⟨hcs, _⟩ | ⟨a, len, cap, zs, hcs, _, hl, hm, hz, _, hcell, _⟩
  · cases hcs
    exact ⟨[], .inl ⟨rfl, rfl⟩⟩
  · cases hcs
    simp only [if_true] at hz
    have htl : (zs.take len).length = len := by simp; omega
    refine ⟨zs.take len, .inr ⟨a, cap, by rw [htl], fun h0 => ?_⟩⟩
    obtain ⟨b, o, s⟩ := a
    obtain rfl : s = none := by simpa [Addr.add] using World.cell?_spot (hcell 0 (by omega))
    unfold BytesAre
    rw [htl]
    refine ⟨by simp; omega, .inr ⟨b, o, cap, rfl, hl, hm, fun j u hj => ?_⟩⟩
    rw [List.getElem?_map, List.getElem?_take] at hj
    split at hj
    · rename_i hjl
      have hjz : j < zs.length := by omega
      rw [List.getElem?_eq_getElem hjz] at hj
      simp at hj
      subst hj
      have := hcell j hjz
      rw [add_mk] at this
      rw [this]
      simp [List.getD, hjz]
    · cases hj
theorem c5j : Try.prog.cellsOf 21 = 1 := by kernel_rfl
/-- A slice of words that came in. -/
theorem openArgs32 {H : Type} {enc : TypeId × Value → H} {W : World} {n : Nat} {c : Value} {y : DataW H × List MemPlace} (h : DataW.trod enc Try.prog W 0 (fun _ => true) true n 35 [c] = some y) : ∃ l, Args32 W c l := by
  rcases open_ints Try.underlying35 Try.underlying21 c5j h with ⟨hcs, _⟩ | ⟨a, len, cap, zs, hcs, _, hl, hm, hz, _, hcell, _⟩
  · cases hcs
    exact ⟨[], .inl ⟨rfl, rfl⟩⟩
  · cases hcs
    simp only [if_true] at hz
    have htl : (zs.take len).length = len := by simp; omega
    refine ⟨zs.take len, .inr ⟨a, cap, by rw [htl], fun h0 => ?_⟩⟩
    obtain ⟨b, o, s⟩ := a
    obtain rfl : s = none := by simpa [Addr.add] using World.cell?_spot (hcell 0 (by omega))
    rw [htl]
    refine ⟨by simp; omega, .inr ⟨b, o, cap, rfl, hl, hm, fun j u hj => ?_⟩⟩
    rw [List.getElem?_map, List.getElem?_take] at hj
    split at hj
    · rename_i hjl
      have hjz : j < zs.length := by omega
      rw [List.getElem?_eq_getElem hjz] at hj
      simp at hj
      subst hj
      have := hcell j hjz
      rw [add_mk] at this
      rw [this]
      simp [List.getD, hjz]
    · cases hj

theorem c3 : Try.prog.cellsOf 3 = 1 := by kernel_rfl
theorem c35 : Try.prog.cellsOf 35 = 1 := by kernel_rfl
theorem c22 : Try.prog.cellsOf 22 = 1 := by kernel_rfl
theorem c7 : Try.prog.cellsOf 44 = 7 := by kernel_rfl
set_option maxRecDepth 100000 in
theorem openSteps {H : Type} {enc : TypeId × Value → H} {W : World} {r : Reach} {b0 : Nat} {v : Value} {d : DataW H} {p : List MemPlace} (hv : Value.okWide Try.prog W r b0 41 v) (h : DataW.Trod enc Try.prog W 0 (fun _ => true) true 41 v d p) :
    ∃ n, StepsArr W v n := by
  obtain ⟨a0, len, cap, rfl⟩ := okWide_slice Try.underlying41 hv
  obtain ⟨fuel, hf⟩ := h
  rcases Go.Deep.open_slice Try.underlying41 hf with ⟨hcs, _⟩ | ⟨a, len', cap', m, nn, D, Pl, hcs, _, hl, hm, hmm, _, hx⟩
  · simp [Value.cells] at hcs
    obtain ⟨rfl, rfl, rfl⟩ := hcs
    exact ⟨0, ⟨none, 0, rfl⟩, fun h => absurd h (Nat.lt_irrefl 0)⟩
  · simp [Value.cells] at hcs
    obtain ⟨rfl, rfl, rfl⟩ := hcs
    simp only [if_true] at hmm
    subst hmm
    rw [c7] at hx
    refine ⟨len, ⟨_, _, rfl⟩, fun hpos => ?_⟩
    obtain ⟨b, o, s⟩ := a
    have hs : s = none := by
      obtain ⟨cs', h1, _⟩ := hx 0 (by omega)
      obtain ⟨_, hlen, hcell⟩ := World.cells?_some h1
      obtain ⟨u, hu⟩ := ex_get (l := cs') (j := 0) (by omega)
      have := hcell 0 (by omega)
      rw [hu] at this
      simpa [Addr.add] using World.cell?_spot this
    subst hs
    have each : ∀ i, i < len → ∃ (z0 z1 z2 z3 : Int) (c4 c5 c6 : Value) (xs : List Int), (∀ j, j < 7 → W.cell? ⟨b, o + (i * 7 + j), none⟩ = [i64 z0, i64 z1, i64 z2, i64 z3, c4, c5, c6][j]?) ∧ oneC c5 = true ∧ oneC c6 = true ∧ Args32 W c4 xs := by
      intro i hi
      obtain ⟨cs', h1, h2⟩ := hx i (by omega)
      obtain ⟨_, hlen, hcell⟩ := World.cells?_some h1
      match cs', hlen with
      | [u0, u1, u2, u3, u4, u5, u6], _ =>
        obtain ⟨xs, n', _, _, _, hlx, hfs⟩ := DataW.trod_struct Try.underlying44 h2
        match xs, (show xs.length = 7 from hlx) with
        | [y0, y1, y2, y3, y4, y5, y6], _ =>
        have f0 : DataW.trod enc Try.prog W 0 (fun _ => true) true n' 3 (([u0, u1, u2, u3, u4, u5, u6].drop 0).take (Try.prog.cellsOf 3)) = some y0 := hfs 0 _ rfl
        obtain ⟨z0, e0, _, _⟩ := DataW.trod_int Try.underlying3 f0
        have f1 : DataW.trod enc Try.prog W 0 (fun _ => true) true n' 3 (([u0, u1, u2, u3, u4, u5, u6].drop 1).take (Try.prog.cellsOf 3)) = some y1 := hfs 1 _ rfl
        obtain ⟨z1, e1, _, _⟩ := DataW.trod_int Try.underlying3 f1
        have f2 : DataW.trod enc Try.prog W 0 (fun _ => true) true n' 3 (([u0, u1, u2, u3, u4, u5, u6].drop 2).take (Try.prog.cellsOf 3)) = some y2 := hfs 2 _ rfl
        obtain ⟨z2, e2, _, _⟩ := DataW.trod_int Try.underlying3 f2
        have f3 : DataW.trod enc Try.prog W 0 (fun _ => true) true n' 3 (([u0, u1, u2, u3, u4, u5, u6].drop 3).take (Try.prog.cellsOf 3)) = some y3 := hfs 3 _ rfl
        obtain ⟨z3, e3, _, _⟩ := DataW.trod_int Try.underlying3 f3
        simp only [c3] at e0 e1 e2 e3
        simp at e0 e1 e2 e3
        subst e0 e1 e2 e3
        have f4 : DataW.trod enc Try.prog W 0 (fun _ => true) true n' 35 (([i64 z0, i64 z1, i64 z2, i64 z3, u4, u5, u6].drop 4).take (Try.prog.cellsOf 35)) = some y4 := hfs 4 _ rfl
        have f5 : DataW.trod enc Try.prog W 0 (fun _ => true) true n' 22 (([i64 z0, i64 z1, i64 z2, i64 z3, u4, u5, u6].drop 5).take (Try.prog.cellsOf 22)) = some y5 := hfs 5 _ rfl
        have f6 : DataW.trod enc Try.prog W 0 (fun _ => true) true n' 22 (([i64 z0, i64 z1, i64 z2, i64 z3, u4, u5, u6].drop 6).take (Try.prog.cellsOf 22)) = some y6 := hfs 6 _ rfl
        rw [c35] at f4
        rw [c22] at f5 f6
        obtain ⟨xs4, h4⟩ := openArgs32 f4
        obtain ⟨xs5, h5⟩ := openArgsB f5
        obtain ⟨xs6, h6⟩ := openArgsB f6
        have one8 : ∀ {c l}, ArgsU8 W c l → oneC c = true := fun h => by
          rcases h with ⟨rfl, _⟩ | ⟨_, _, rfl, _⟩ <;> rfl
        have cell : ∀ j, j < 7 → W.cell? ⟨b, o + (i * 7 + j), none⟩ = [i64 z0, i64 z1, i64 z2, i64 z3, u4, u5, u6][j]? := fun j hj => by
          have := hcell j hj
          rw [add_mk, add_mk] at this
          rw [← Nat.add_assoc, this]
        exact ⟨z0, z1, z2, z3, u4, u5, u6, xs4, cell, one8 h5, one8 h6, h4⟩
    refine ⟨(List.range (len * 7)).map fun j => (W.cell? ⟨b, o + j, none⟩).getD undef, ⟨by simp, .inr ⟨b, o, _, rfl, hl, hm, fun j u hj => ?_⟩⟩, fun i hi => ?_⟩
    · have hjl : j < len * 7 := by have := (List.getElem?_eq_some_iff.1 hj).1; simpa using this
      obtain ⟨z0, z1, z2, z3, c4, c5, c6, xs, hcell, _⟩ := each (j / 7) (by omega)
      have h2 := hcell (j % 7) (Nat.mod_lt _ (by decide))
      obtain ⟨u', hu'⟩ := ex_get (l := [i64 z0, i64 z1, i64 z2, i64 z3, c4, c5, c6]) (j := j % 7) (Nat.mod_lt _ (by decide))
      rw [show j / 7 * 7 + j % 7 = j by omega, hu'] at h2
      rw [List.getElem?_map, List.getElem?_range hjl] at hj
      simp only [Option.map_some, h2, Option.getD_some, Option.some.injEq] at hj
      rw [h2, hj]
    · obtain ⟨z0, z1, z2, z3, c4, c5, c6, xs, hcell, h5, h6, h4⟩ := each i hi
      refine ⟨z0, z1, z2, z3, c4, c5, c6, xs, ?_, h5, h6, h4⟩
      apply List.ext_getElem?
      intro j
      rw [List.getElem?_take]
      by_cases hj : j < 7
      · rw [if_pos hj, List.getElem?_drop, List.getElem?_map, List.getElem?_range (by omega), Option.map_some, hcell j hj]
        obtain ⟨u', hu'⟩ := ex_get (l := [i64 z0, i64 z1, i64 z2, i64 z3, c4, c5, c6]) (j := j) hj
        rw [hu']; rfl
      · rw [if_neg hj, List.getElem?_eq_none (by simp; omega)]
set_option maxRecDepth 100000 in
theorem lifted (os : Os) (started : os.Started) (H : Type) (enc : TypeId × Value → H) :
    ReturnsInHanded {} Try.checked os 5 .any (Rows.roomWallsSpec.pre6 enc Try.prog Try.f5 Rows.roomWallsRow.domain false) (Rows.roomWallsSpec.post enc Try.prog Try.f5 false true false false) := by
  refine returnsInHanded_of_change (C := Try.checked) own started (by kernel_rfl) Try.func5
    (ChangeSpec.witness6 (enc := enc) (C := Try.checked) false ⟨#[], #[.slice none 0 0], []⟩ 8 (by kernel_rfl) (by kernel_rfl) (by kernel_rfl) (by kernel_rfl)) ?_
  intro W base args ds gs before hval0 hW hcnd _
  have hval : ∀ (j : Nat) t v, Try.f5.params[j]? = some t → args[j]? = some v → Value.okWide Try.prog W .any base t v := hval0
  have hW' := hW
  obtain ⟨p, q, hA0, hV, rfl, hfz, hnd⟩ := hW
  have hA : DataW.TrodAll enc Try.prog W 0 (fun _ => true) true Try.f5.params.toList args.toList ds p := hA0
  have hA1 := hA
  rw [Try.params5] at hA hval
  obtain ⟨v0, vs0, d0, ds0, p0, q0, hargs, rfl, rfl, h0, r0⟩ := trodAll_cons hA
  obtain ⟨rfl, rfl, rfl⟩ := trodAll_nil r0
  obtain rfl : args = #[v0] := by cases args; simp_all
  obtain ⟨rfl, rfl⟩ := trodVars_none hV
  obtain ⟨N0, hof0⟩ := openSteps (hval 0 41 v0 rfl rfl) h0
  simp only [List.append_nil] at hW'
  refine (walls_law hof0 knownOk).ex.2.mono fun e W' ⟨v, he, hv, hx⟩ => ?_
  subst he
  subst hv
  exact ⟨_, rfl, post_of_ext (ds := [d0]) (gs := []) (pv := []) (by simpa using hW') hx (fun _ _ _ => (trodAll_cons_mk (shut_bool Try.underlying4 _) trodAll_mk0)) (fun sp hsp => args_stay k1b hx k1r hA1 (fun x hx' => hW'.lt x (by simpa using hx')) (fun x hx' => hsp x (by simpa using hx'))) (fun _ _ => rfl)
    (ok_one (by kernel_rfl) rfl (okWide_bool_mk Try.underlying4 _))⟩

theorem over : Rows.roomWallsRow.holds Try.pinned (OpenSpec.ofChange Rows.roomWallsSpec) :=
  OpenClaim.holds_of_wide 5 Try.f5 rfl rfl rfl rfl rfl rfl rfl ⟨rfl, rfl, rfl, rfl, rfl⟩ rfl rfl rfl rfl rfl (by kernel_rfl) Try.func5 (by kernel_rfl)
    (of_decide_eq_true (by kernel_rfl)) (by unfold Func.isWrapper; first | (rw [if_pos (by decide +kernel)]; kernel_rfl) | (rw [if_neg (by decide +kernel)]; exact ⟨rfl, rfl⟩))
    (fun os started H enc _ => lifted os started H enc)

/-- ████ THE STATEMENT ████ -/
theorem proved : Rows.RoomWallsSaid :=
  over
end Go.Proofs.Ytgjmpnngheohbaa.roomWalls
