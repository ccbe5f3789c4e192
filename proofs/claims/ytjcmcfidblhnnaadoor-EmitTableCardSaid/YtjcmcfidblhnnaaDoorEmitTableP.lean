/- EmitTable: the card: of any raw nodes the law's call answers true, in any world that holds the listed variables. Began as the skeleton that the seat's proof-skeleton prints. -/
import Derived.Test.YtjcmcfidblhnnaaDoorRows
import Derived.Test.YtjcmcfidblhnnaaDoorCards
import Derived.Test.YtjcmcfidblhnnaaDoorTie
import Derived.Test.YtjcmcfidblhnnaaDoorEe
import Derived.Lay
import Derived.LaidOnce
import Derived.Deep.Slices
import Derived.SevenTiedAt
import Derived.MakeChecks
namespace Go.Proofs.YtjcmcfidblhnnaaDoor.emitTable
open Go.ChangeShapes Go.WideShapes Go.ChangeAt Go.RowKit Go.Vc
set_option linter.unusedVariables false
theorem own : ownKnob Tryd.prog.godebug = none := by kernel_rfl
theorem binsOk (W : World) (hL : laidMetH Tryd.prog Rows.emitTableRow.laid W) : BinsOk W := fun j hj => by
  rw [MakeChecks.laidMetH_plain _ _ _ (by kernel_rfl)] at hL
  obtain ⟨ps, h, _⟩ := hL
  obtain ⟨z, _, hz⟩ := laid_int (x := "taciturn/taciturnhand.bins") (g := 0) (t := 126) (e := 3) (m := 12) (k := .i64) (by kernel_rfl) (by kernel_rfl) (by kernel_rfl) (by kernel_rfl) (by kernel_rfl) h (List.mem_of_getElem? (i := 0) rfl) hj
  exact ⟨z, hz⟩
theorem c3 : Tryd.prog.cellsOf 3 = 1 := by kernel_rfl
theorem c31 : Tryd.prog.cellsOf 27 = 1 := by kernel_rfl
theorem c81 : Tryd.prog.cellsOf 106 = 9 := by kernel_rfl
theorem k1b : laidOutB Tryd.prog = true := by kernel_rfl
theorem k1r : (Tryd.f3.params.toList.all fun t => Tryd.prog.readableRec t && decide (t < Tryd.prog.types.size)) = true := by kernel_rfl
/-- The arguments of a raw node that came in. -/
theorem openArgs {H : Type} {enc : TypeId × Value → H} {W : World} {n : Nat} {c : Value} {y : DataW H × List MemPlace} (h : DataW.trod enc Tryd.prog W 0 (fun _ => true) true n 27 [c] = some y) : ∃ l, ArgsLike W c l := by
  rcases open_ints Tryd.underlying27 Tryd.underlying3 c3 h with ⟨hcs, _⟩ | ⟨a, len, cap, zs, hcs, _, hl, hm, hz, _, hcell, _⟩
  · cases hcs
    exact ⟨[], ⟨none, 0, rfl⟩, fun h => absurd h (Nat.lt_irrefl 0)⟩
  · cases hcs
    simp only [if_true] at hz
    have htl : (zs.take len).length = len := by simp; omega
    refine ⟨zs.take len, ⟨some a, cap, by rw [htl]⟩, fun h0 => ?_⟩
    obtain ⟨b, o, s⟩ := a
    obtain rfl : s = none := by simpa [Addr.add] using World.cell?_spot (hcell 0 (by omega))
    unfold IntsAre
    rw [htl]
    refine ⟨by simp; omega, .inr ⟨b, o, cap, rfl, hl, hm, fun j u hj => ?_⟩⟩
    rw [List.getElem?_map, List.getElem?_take] at hj
    split at hj
    · rename_i hjl
      have hjz : j < zs.length := by omega
      rw [List.getElem?_eq_getElem hjz] at hj
      simp at hj
      subst hj
      have := hcell j hjz
      rw [add_mk] at this
      rw [this]
      simp [List.getD, hjz]
    · cases hj
set_option maxRecDepth 100000 in
theorem openRaws {H : Type} {enc : TypeId × Value → H} {W : World} {r : Reach} {b0 : Nat} {v : Value} {d : DataW H} {p : List MemPlace} (hv : Value.okWide Tryd.prog W r b0 22 v) (h : DataW.Trod enc Tryd.prog W 0 (fun _ => true) true 22 v d p) :
    ∃ n, RawsAre W v n := by
  obtain ⟨a0, len, cap, rfl⟩ := okWide_slice Tryd.underlying22 hv
  obtain ⟨fuel, hf⟩ := h
  rcases Go.Deep.open_slice Tryd.underlying22 hf with ⟨hcs, _⟩ | ⟨a, len', cap', m, nn, D, Pl, hcs, _, hl, hm, hmm, _, hx⟩
  · simp [Value.cells] at hcs
    obtain ⟨rfl, rfl, rfl⟩ := hcs
    exact ⟨0, ⟨none, 0, rfl⟩, fun h => absurd h (Nat.lt_irrefl 0)⟩
  · simp [Value.cells] at hcs
    obtain ⟨rfl, rfl, rfl⟩ := hcs
    simp only [if_true] at hmm
    subst hmm
    rw [c81] at hx
    refine ⟨len, ⟨_, _, rfl⟩, fun hpos => ?_⟩
    obtain ⟨b, o, s⟩ := a
    have hs : s = none := by
      obtain ⟨cs', h1, _⟩ := hx 0 (by omega)
      obtain ⟨_, hlen, hcell⟩ := World.cells?_some h1
      obtain ⟨u, hu⟩ := ex_get (l := cs') (j := 0) (by omega)
      have := hcell 0 (by omega)
      rw [hu] at this
      simpa [Addr.add] using World.cell?_spot this
    subst hs
    have each : ∀ i, i < len → ∃ k d o' m' a' b' c' t sv l, (∀ j, j < 9 → W.cell? ⟨b, o + (i * 9 + j), none⟩ = (rawCells k d o' m' a' b' c' t sv)[j]?) ∧ ArgsLike W sv l := by
      intro i hi
      obtain ⟨cs', h1, h2⟩ := hx i (by omega)
      obtain ⟨_, hlen, hcell⟩ := World.cells?_some h1
      match cs', hlen with
      | [u0, u1, u2, u3, u4, u5, u6, u7, u8], _ =>
        obtain ⟨xs, n', _, _, _, hlx, hfs⟩ := DataW.trod_struct Tryd.underlying106 h2
        match xs, (show xs.length = 9 from hlx) with
        | [y0, y1, y2, y3, y4, y5, y6, y7, y8], _ =>
        have f0 : DataW.trod enc Tryd.prog W 0 (fun _ => true) true n' 3 (([u0, u1, u2, u3, u4, u5, u6, u7, u8].drop 0).take (Tryd.prog.cellsOf 3)) = some y0 := hfs 0 _ rfl
        obtain ⟨z0, e0, _, _⟩ := DataW.trod_int Tryd.underlying3 f0
        have f1 : DataW.trod enc Tryd.prog W 0 (fun _ => true) true n' 3 (([u0, u1, u2, u3, u4, u5, u6, u7, u8].drop 1).take (Tryd.prog.cellsOf 3)) = some y1 := hfs 1 _ rfl
        obtain ⟨z1, e1, _, _⟩ := DataW.trod_int Tryd.underlying3 f1
        have f2 : DataW.trod enc Tryd.prog W 0 (fun _ => true) true n' 3 (([u0, u1, u2, u3, u4, u5, u6, u7, u8].drop 2).take (Tryd.prog.cellsOf 3)) = some y2 := hfs 2 _ rfl
        obtain ⟨z2, e2, _, _⟩ := DataW.trod_int Tryd.underlying3 f2
        have f3 : DataW.trod enc Tryd.prog W 0 (fun _ => true) true n' 3 (([u0, u1, u2, u3, u4, u5, u6, u7, u8].drop 3).take (Tryd.prog.cellsOf 3)) = some y3 := hfs 3 _ rfl
        obtain ⟨z3, e3, _, _⟩ := DataW.trod_int Tryd.underlying3 f3
        have f4 : DataW.trod enc Tryd.prog W 0 (fun _ => true) true n' 3 (([u0, u1, u2, u3, u4, u5, u6, u7, u8].drop 4).take (Tryd.prog.cellsOf 3)) = some y4 := hfs 4 _ rfl
        obtain ⟨z4, e4, _, _⟩ := DataW.trod_int Tryd.underlying3 f4
        have f5 : DataW.trod enc Tryd.prog W 0 (fun _ => true) true n' 3 (([u0, u1, u2, u3, u4, u5, u6, u7, u8].drop 5).take (Tryd.prog.cellsOf 3)) = some y5 := hfs 5 _ rfl
        obtain ⟨z5, e5, _, _⟩ := DataW.trod_int Tryd.underlying3 f5
        have f6 : DataW.trod enc Tryd.prog W 0 (fun _ => true) true n' 3 (([u0, u1, u2, u3, u4, u5, u6, u7, u8].drop 6).take (Tryd.prog.cellsOf 3)) = some y6 := hfs 6 _ rfl
        obtain ⟨z6, e6, _, _⟩ := DataW.trod_int Tryd.underlying3 f6
        have f7 : DataW.trod enc Tryd.prog W 0 (fun _ => true) true n' 3 (([u0, u1, u2, u3, u4, u5, u6, u7, u8].drop 7).take (Tryd.prog.cellsOf 3)) = some y7 := hfs 7 _ rfl
        obtain ⟨z7, e7, _, _⟩ := DataW.trod_int Tryd.underlying3 f7
        have h8 : DataW.trod enc Tryd.prog W 0 (fun _ => true) true n' 27 (([u0, u1, u2, u3, u4, u5, u6, u7, u8].drop 8).take (Tryd.prog.cellsOf 27)) = some y8 := hfs 8 _ rfl
        simp only [c3] at e0 e1 e2 e3 e4 e5 e6 e7
        simp only [c31] at h8
        simp at e0 e1 e2 e3 e4 e5 e6 e7
        obtain ⟨l, hargs⟩ := openArgs h8
        subst e0 e1 e2 e3 e4 e5 e6 e7
        refine ⟨z0, z1, z2, z3, z4, z5, z6, z7, u8, l, fun j hj => ?_, hargs⟩
        have := hcell j hj
        rw [add_mk, add_mk] at this
        rw [← Nat.add_assoc, this]
        rfl
    refine ⟨(List.range (len * 9)).map fun j => (W.cell? ⟨b, o + j, none⟩).getD undef, ⟨by simp, .inr ⟨b, o, _, rfl, hl, hm, fun j u hj => ?_⟩⟩, fun i hi => ?_⟩
    · have hjl : j < len * 9 := by have := (List.getElem?_eq_some_iff.1 hj).1; simpa using this
      obtain ⟨k, d, o', m', a', b', c', t, sv, l, h1, _⟩ := each (j / 9) (by omega)
      have h2 := h1 (j % 9) (Nat.mod_lt _ (by decide))
      rw [show j / 9 * 9 + j % 9 = j by omega] at h2
      obtain ⟨u', hu'⟩ := ex_get (l := rawCells k d o' m' a' b' c' t sv) (j := j % 9) (Nat.mod_lt _ (by decide))
      rw [hu'] at h2
      rw [List.getElem?_map, List.getElem?_range hjl] at hj
      simp only [Option.map_some, h2, Option.getD_some, Option.some.injEq] at hj
      rw [h2, hj]
    · obtain ⟨k, d, o', m', a', b', c', t, sv, l, h1, h2⟩ := each i hi
      refine ⟨k, d, o', m', a', b', c', t, sv, l, ?_, h2⟩
      apply List.ext_getElem?
      intro j
      rw [List.getElem?_take, List.getElem?_drop]
      split
      · rename_i hj
        rw [List.getElem?_map, List.getElem?_range (by omega)]
        simp only [Option.map_some, h1 j hj]
        obtain ⟨u', hu'⟩ := ex_get (l := rawCells k d o' m' a' b' c' t sv) (j := j) hj
        rw [hu']
        rfl
      · rename_i hj
        rw [List.getElem?_eq_none]
        simp [rawCells]
        omega

set_option maxRecDepth 100000 in
theorem lifted (os : Os) (started : os.Started) (H : Type) (enc : TypeId × Value → H) :
    ReturnsInHanded {} Tryd.checked os 3 .any (fun w args => (Rows.emitTableSpec.pre enc Tryd.prog Tryd.f3 Rows.emitTableRow.domain false w args ∧ laidMetH Tryd.prog Rows.emitTableRow.laid w) ∧ sizedMet enc Tryd.prog Tryd.f3 (OpenSpec.ofChange Rows.emitTableSpec) false w args)
      (Rows.emitTableSpec.post enc Tryd.prog Tryd.f3 false true false false) := by
  refine returnsInHanded_of_change_and (C := Tryd.checked) (X := fun w _ => laidMetH Tryd.prog Rows.emitTableRow.laid w) (fun _ _ _ hh h => h.of_heap hh) own started (by kernel_rfl) Tryd.func3
    (ChangeSpec.witness_shaped (enc := enc) (C := Tryd.checked) (os := os) (X := fun w _ => laidMetH Tryd.prog Rows.emitTableRow.laid w) false (World.laidAll Tryd.prog os Rows.emitTableRow.laid) #[.slice none 0 0, .int .i64 0, .int .i64 0] 8 (World.laidAll_os _ _ _)
      (World.shaped_of_ZipB (by kernel_rfl) (by kernel_rfl)) (by kernel_rfl) (by kernel_rfl) (by kernel_rfl)
      (by rw [MakeChecks.laidMetH_plain _ _ _ (by kernel_rfl)]; exact laidMet_laidAll _ (by kernel_rfl) (by kernel_rfl))) ?_
  intro W base args ds gs before hval0 hW hcnd _ hL _
  have hval : ∀ (j : Nat) t v, Tryd.f3.params[j]? = some t → args[j]? = some v → Value.okWide Tryd.prog W .any base t v := hval0
  have hW' := hW
  obtain ⟨p, q, hA0, hV, rfl, hfz, hnd⟩ := hW
  have hA : DataW.TrodAll enc Tryd.prog W 0 (fun _ => true) true Tryd.f3.params.toList args.toList ds p := hA0
  have hA1 := hA
  rw [Tryd.params3] at hA hval
  obtain ⟨v0, vs0, d0, ds0, p0, q0, hargs, rfl, rfl, h0, r0⟩ := trodAll_cons hA
  obtain ⟨v1, vs1, d1, ds1, p1, q1, rfl, rfl, rfl, h1, r1⟩ := trodAll_cons r0
  obtain ⟨v2, vs2, d2, ds2, p2, q2, rfl, rfl, rfl, h2, r2⟩ := trodAll_cons r1
  obtain ⟨rfl, rfl, rfl⟩ := trodAll_nil r2
  obtain rfl : args = #[v0, v1, v2] := by cases args; simp_all
  obtain ⟨rfl, rfl⟩ := trodVars_none hV
  obtain ⟨n, hraw0⟩ := openRaws (hval 0 22 v0 rfl rfl) h0
  obtain ⟨n1, rfl, -, -, -⟩ := open_int Tryd.underlying3 (hval 1 3 v1 rfl rfl) h1
  obtain ⟨n2, rfl, -, -, -⟩ := open_int Tryd.underlying3 (hval 2 3 v2 rfl rfl) h2
  simp only [List.append_nil] at hW'
  refine (table_law hraw0 (binsOk W hL)).ex.2.mono fun e W' ⟨v, he, hv, hx⟩ => ?_
  subst he
  subst hv
  exact ⟨_, rfl, post_of_ext (ds := [d0, d1, d2]) (gs := []) (pv := []) (by simpa using hW') hx (fun _ _ _ => (trodAll_cons_mk (shut_bool Tryd.underlying4 _) trodAll_mk0)) (fun sp hsp => args_stay k1b hx k1r hA1 (fun x hx' => hW'.lt x (by simpa using hx')) (fun x hx' => hsp x (by simpa using hx'))) (fun _ _ => rfl)
    (ok_one (by kernel_rfl) rfl (okWide_bool_mk Tryd.underlying4 _))⟩

theorem over : Rows.emitTableRow.holds Tryd.pinned (OpenSpec.ofChange Rows.emitTableSpec) :=
  OpenClaim.holds_of_wide 3 Tryd.f3 rfl rfl rfl rfl rfl rfl rfl ⟨rfl, rfl, rfl, rfl, rfl⟩ rfl rfl rfl rfl rfl (by kernel_rfl) Tryd.func3 (by kernel_rfl)
    (of_decide_eq_true (by kernel_rfl)) (by unfold Func.isWrapper; first | (rw [if_pos (by decide +kernel)]; kernel_rfl) | (rw [if_neg (by decide +kernel)]; exact ⟨rfl, rfl⟩))
    (fun os started H enc _ => lifted os started H enc)

theorem noStand : (Tryd.f3.params.toList.all fun u => !Tryd.prog.wantsStandIn u) = true := by kernel_rfl
/-- ████ THE STATEMENT ████ -/
theorem proved : Rows.EmitTableCardSaid :=
  Claim7.holds_tied_plain_at .later [] [.data] true (true, "1ae2cba73924d8b4f15229a1a419a985077dd6b69b732ea5211a238b6264d5b9") true over (fun _ h => by cases h) (by kernel_rfl) (fun _ h => by cases h) emitTable_row_tie rfl ⟨rfl, rfl⟩ (by kernel_rfl) rfl
    (fun f fn hf hfn => by
      obtain rfl : f = 3 := Option.some.inj ((show Tryd.prog.funcNamed Rows.emitTableRow.func = some 3 by kernel_rfl).symm.trans hf) |>.symm
      obtain rfl : fn = Tryd.f3 := (Option.some.inj (Tryd.func3.symm.trans hfn)).symm
      exact ⟨by kernel_rfl, fun j t ht => by
        have hm : t ∈ Tryd.f3.params.toList := by simpa using Array.mem_of_getElem? ht
        exact (show Tryd.prog.wantsStandIn t = false by simpa using List.all_eq_true.1 noStand t hm)⟩)
    (by kernel_rfl)
end Go.Proofs.YtjcmcfidblhnnaaDoor.emitTable
