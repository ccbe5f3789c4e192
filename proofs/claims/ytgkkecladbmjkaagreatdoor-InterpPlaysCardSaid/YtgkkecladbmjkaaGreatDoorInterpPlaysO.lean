/- InterpPlays: what came in: lists of raw statements, bytes, and the listed variables. Began as the skeleton that the seat's proof-skeleton prints. -/
import Derived.Test.YtgkkecladbmjkaaGreatDoorRows
import Derived.Test.YtgkkecladbmjkaaGreatDoorCards
import Derived.Test.YtgkkecladbmjkaaGreatDoorTie
import Derived.Test.YtgkkecladbmjkaaGreatDoorYh
import Derived.Lay
import Derived.LaidOnce
import Derived.SizedLaws
import Derived.Deep.Slices
import Derived.SevenTiedAt
import Derived.MakeChecks
namespace Go.Proofs.YtgkkecladbmjkaaGreatDoor.interpPlays
open Go.ChangeShapes Go.WideShapes Go.ChangeAt Go.RowKit Go.Vc
set_option linter.unusedVariables false
theorem own : ownKnob Tryz.prog.godebug = none := by kernel_rfl
theorem k1b : laidOutB Tryz.prog = true := by kernel_rfl
theorem k1r : (Tryz.f6.params.toList.all fun t => Tryz.prog.readableRec t && decide (t < Tryz.prog.types.size)) = true := by kernel_rfl
theorem aKa (W : World) (hL : laidMetH Tryz.prog Rows.interpPlaysRow.laid W) : ∃ ps, DataW.LaidVars Tryz.prog W Rows.interpPlaysRow.laid ps := by
  rw [MakeChecks.laidMetH_plain _ _ _ (by kernel_rfl)] at hL
  obtain ⟨ps, h, _⟩ := hL
  exact ⟨ps, h⟩
theorem aOd (W : World) (hL : laidMetH Tryz.prog Rows.interpPlaysRow.laid W) : mP W := fun j hj => by
  obtain ⟨ps, h⟩ := aKa W hL
  obtain ⟨z, _, hz⟩ := HK (x := "taciturn/taciturnhand.bins") (g := 2) (t := 301) (e := 3) (m := 12) (k := .i64) (by kernel_rfl) (by kernel_rfl) (by kernel_rfl) (by kernel_rfl) (by kernel_rfl) h (List.mem_of_getElem? (i := 1) rfl) hj
  exact ⟨z, hz⟩
theorem aAv : (Go.Pinned.numbers .u8 Go.Pinned.utf8FirstZ)[195]? = some (.lit (.int .u8 2)) := by kernel_rfl
theorem aLa (W : World) (hL : laidMetH Tryz.prog Rows.interpPlaysRow.laid W) : oT W := by
  obtain ⟨ps, h⟩ := aKa W hL
  refine ⟨?_, ?_, ?_⟩
  · obtain ⟨z, e1, hz⟩ := HK (x := "unicode/utf8.first") (ds := Go.Pinned.numbers .u8 Go.Pinned.utf8FirstZ) (g := 0) (t := 288) (e := 5) (m := 256) (k := .u8) (by kernel_rfl) (by kernel_rfl) (by kernel_rfl) (by kernel_rfl) (by kernel_rfl) h (List.mem_of_getElem? (i := 2) rfl) (i := 195) (by decide)
    rw [aAv] at e1
    cases e1
    exact hz
  · obtain ⟨l, z, e1, e2, hz⟩ := HL (f := 0) (o := 0) (u := 5) (c := 2) (x := "unicode/utf8.acceptRanges") (g := 1) (t := 291) (e := 290) (m := 16) (k := .u8) (by kernel_rfl) (by kernel_rfl) (by kernel_rfl) Tryz.underlying290 (by kernel_rfl) (by kernel_rfl) (by kernel_rfl) (by kernel_rfl) (by decide) h (List.mem_of_getElem? (i := 0) rfl) (i := 0) (by decide)
    cases e1
    cases e2
    exact hz
  · obtain ⟨l, z, e1, e2, hz⟩ := HL (f := 1) (o := 1) (u := 5) (c := 2) (x := "unicode/utf8.acceptRanges") (g := 1) (t := 291) (e := 290) (m := 16) (k := .u8) (by kernel_rfl) (by kernel_rfl) (by kernel_rfl) Tryz.underlying290 (by kernel_rfl) (by kernel_rfl) (by kernel_rfl) (by kernel_rfl) (by decide) h (List.mem_of_getElem? (i := 0) rfl) (i := 0) (by decide)
    cases e1
    cases e2
    exact hz
theorem c3 : Tryz.prog.cellsOf 3 = 1 := by kernel_rfl
theorem c4 : Tryz.prog.cellsOf 254 = 4 := by kernel_rfl
theorem b32 : Tryz.prog.bytesOf 254 = 32 := by kernel_rfl
theorem aEe (f : Nat → Rw) : ∀ n, ((List.range n).flatMap fun i => [i64 (f i).k, i64 (f i).a, i64 (f i).b, i64 (f i).e]).length = n * 4
  | 0 => rfl
  | n + 1 => by
    rw [List.range_succ, List.flatMap_append, List.length_append, aEe f n]
    simp; omega
theorem aAu (f : Nat → Rw) : ∀ n j, j < n * 4 → ((List.range n).flatMap fun i => [i64 (f i).k, i64 (f i).a, i64 (f i).b, i64 (f i).e])[j]? = [i64 (f (j / 4)).k, i64 (f (j / 4)).a, i64 (f (j / 4)).b, i64 (f (j / 4)).e][j % 4]?
  | 0, j, h => by omega
  | n + 1, j, h => by
    have hl : ((List.range n).flatMap fun i => [i64 (f i).k, i64 (f i).a, i64 (f i).b, i64 (f i).e]).length = n * 4 := aEe f n
    rw [List.range_succ, List.flatMap_append, List.getElem?_append, hl]
    split
    · rename_i hlt
      exact aAu f n j hlt
    · rename_i hge
      rw [show j / 4 = n by omega, show j - n * 4 = j % 4 by omega]
      simp
set_option maxRecDepth 100000 in
theorem ZM {H : Type} {enc : TypeId × Value → H} {W : World} {v : Value} {fuel : Nat} {y : DataW H × List MemPlace} (h : DataW.trod enc Tryz.prog W 0 (fun _ => true) true fuel 99 [v] = some y) :
    ∃ l, eW W v l ∧ ∀ B, (∀ n ∈ y.1.weights Tryz.prog 99, n ≤ B) → l.length * 32 ≤ B := by
  rcases Go.Deep.open_slice Tryz.underlying99 h with ⟨hcs, _⟩ | ⟨a, len, cap', m, nn, D, Pl, hcs, _, hl, hm, hmm, hd, hx⟩
  · cases hcs
    exact ⟨[], ⟨⟨none, 0, rfl⟩, fun h => by simp at h⟩, fun B _ => by simp⟩
  · cases hcs
    simp only [if_true] at hmm
    subst hmm
    rw [c4] at hx
    have hd : y.1 = .slice ((List.range len).map D) ((List.range (m - len)).map fun j => D (len + j)) := congrArg Prod.fst hd
    have hspot : 0 < len → a.spot = none := fun hpos => by
      obtain ⟨cs', h1, _⟩ := hx 0 (by omega)
      obtain ⟨_, hlen, hcell⟩ := World.cells?_some h1
      obtain ⟨u, hu⟩ := bH (l := cs') (j := 0) (by omega)
      have := hcell 0 (by omega)
      rw [hu] at this
      obtain ⟨b, o, s⟩ := a
      simpa [Addr.add] using World.cell?_spot this
    have each : ∀ i, i < len → ∃ x : Rw, ∀ j, j < 4 → W.cell? ⟨a.block, a.off + (i * 4 + j), none⟩ = [i64 x.k, i64 x.a, i64 x.b, i64 x.e][j]? := by
      intro i hi
      obtain ⟨cs', h1, h2⟩ := hx i (by omega)
      obtain ⟨_, hlen, hcell⟩ := World.cells?_some h1
      match cs', hlen with
      | [u0, u1, u2, u3], _ =>
        obtain ⟨xs, n', _, _, _, hlx, hfs⟩ := DataW.trod_struct Tryz.underlying254 h2
        match xs, (show xs.length = 4 from hlx) with
        | [y0, y1, y2, y3], _ =>
        have f0 : DataW.trod enc Tryz.prog W 0 (fun _ => true) true n' 3 (([u0, u1, u2, u3].drop 0).take (Tryz.prog.cellsOf 3)) = some y0 := hfs 0 _ rfl
        obtain ⟨z0, e0, _, _⟩ := DataW.trod_int Tryz.underlying3 f0
        have f1 : DataW.trod enc Tryz.prog W 0 (fun _ => true) true n' 3 (([u0, u1, u2, u3].drop 1).take (Tryz.prog.cellsOf 3)) = some y1 := hfs 1 _ rfl
        obtain ⟨z1, e1, _, _⟩ := DataW.trod_int Tryz.underlying3 f1
        have f2 : DataW.trod enc Tryz.prog W 0 (fun _ => true) true n' 3 (([u0, u1, u2, u3].drop 2).take (Tryz.prog.cellsOf 3)) = some y2 := hfs 2 _ rfl
        obtain ⟨z2, e2, _, _⟩ := DataW.trod_int Tryz.underlying3 f2
        have f3 : DataW.trod enc Tryz.prog W 0 (fun _ => true) true n' 3 (([u0, u1, u2, u3].drop 3).take (Tryz.prog.cellsOf 3)) = some y3 := hfs 3 _ rfl
        obtain ⟨z3, e3, _, _⟩ := DataW.trod_int Tryz.underlying3 f3
        simp only [c3] at e0 e1 e2 e3
        simp at e0 e1 e2 e3
        subst e0 e1 e2 e3
        refine ⟨⟨z0, z1, z2, z3⟩, fun j hj => ?_⟩
        obtain ⟨b, o, s⟩ := a
        obtain rfl : s = none := hspot (by omega)
        have := hcell j hj
        rw [gO, gO] at this
        rw [← Nat.add_assoc, this]
    have ch : ∃ f : Nat → Rw, ∀ i, i < len → ∀ j, j < 4 → W.cell? ⟨a.block, a.off + (i * 4 + j), none⟩ = [i64 (f i).k, i64 (f i).a, i64 (f i).b, i64 (f i).e][j]? :=
      ⟨fun i => if h : i < len then (each i h).choose else ⟨0, 0, 0, 0⟩, fun i hi => by simp only [dif_pos hi]; exact (each i hi).choose_spec⟩
    obtain ⟨f, hf⟩ := ch
    refine ⟨(List.range len).map f, ⟨⟨some a, m, by simp⟩, fun hpos => ?_⟩, fun B hB => ?_⟩
    · have hpos : 0 < len := by simpa using hpos
      obtain ⟨b, o, s⟩ := a
      obtain rfl : s = none := hspot hpos
      refine ⟨(List.range len).flatMap fun i => [i64 (f i).k, i64 (f i).a, i64 (f i).b, i64 (f i).e], ⟨by rw [aEe]; simp, .inr ⟨b, o, m, by simp, by simpa using hl, hm, fun j u hj => ?_⟩⟩, fun k x hk => ⟨_, rfl, ?_⟩⟩
      · have hjl : j < len * 4 := by have := (List.getElem?_eq_some_iff.1 hj).1; rwa [aEe] at this
        rw [aAu f len j hjl] at hj
        have h4 := hf (j / 4) (by omega) (j % 4) (Nat.mod_lt _ (by decide))
        rw [show j / 4 * 4 + j % 4 = j by omega] at h4
        rw [h4, hj]
      · rw [List.getElem?_map] at hk
        have hkl : k < len := by
          by_cases h : k < len
          · exact h
          · rw [List.getElem?_eq_none (by simp; omega)] at hk; cases hk
        rw [List.getElem?_range hkl] at hk
        cases hk
        show _ = [i64 (f k).k, i64 (f k).a, i64 (f k).b, i64 (f k).e]
        apply List.ext_getElem?
        intro j
        rw [List.getElem?_take]
        by_cases hj : j < 4
        · rw [if_pos hj, List.getElem?_drop, aAu f len (k * 4 + j) (by omega), show (k * 4 + j) / 4 = k by omega, show (k * 4 + j) % 4 = j by omega]
        · rw [if_neg hj, List.getElem?_eq_none (by simp; omega)]
    · have := hB ((len + (m - len)) * Tryz.prog.bytesOf 254) (by
        rw [hd]
        simp [DataW.weights, Tryz.underlying99])
      rw [b32] at this
      simp only [List.length_map, List.length_range]
      omega
theorem aSc {H : Type} {P : Program} {e : TypeId} {d : DataW H} {n : Nat} : ∀ {l : List (DataW H)}, d ∈ l → n ∈ d.weights P e → n ∈ DataW.weightsAll P e l
  | x :: l, hd, hn => by
    unfold DataW.weightsAll
    rcases List.mem_cons.1 hd with rfl | hd
    · exact List.mem_append_left _ hn
    · exact List.mem_append_right _ (aSc hd hn)
theorem cR : Tryz.prog.cellsOf 99 = 1 := by kernel_rfl
set_option maxRecDepth 100000 in
theorem VK {H : Type} {enc : TypeId × Value → H} {W : World} {v : Value} {fuel : Nat} {y : DataW H × List MemPlace} (h : DataW.trod enc Tryz.prog W 0 (fun _ => true) true fuel 22 [v] = some y) (hw : ∀ n ∈ y.1.weights Tryz.prog 22, n ≤ reachBytes) : ∃ ll, SE W v ll := by
  rcases Go.Deep.open_slice1 Tryz.underlying22 cR h with ⟨hcs, _⟩ | ⟨a, len, cap, m, nn, V, D, Pl, hcs, _, hl, hm, hmm, hd, hx⟩
  · cases hcs
    exact ⟨[], ⟨none, 0, rfl⟩, fun h => absurd h (Nat.lt_irrefl 0)⟩
  · cases hcs
    simp only [if_true] at hmm
    subst hmm
    have hd : y.1 = .slice ((List.range len).map D) ((List.range (m - len)).map fun j => D (len + j)) := congrArg Prod.fst hd
    have each : ∀ i, i < len → ∃ l, eW W (V i) l ∧ l.length ≤ 5000000000000 := fun i hi => by
      obtain ⟨l, h1, h2⟩ := ZM (hx i (by omega)).2
      refine ⟨l, h1, ?_⟩
      have := h2 reachBytes fun n hn => hw n (by
        rw [hd]
        simp only [DataW.weights, Tryz.underlying22]
        exact List.mem_cons_of_mem _ (List.mem_append_left _ (aSc (List.mem_map.2 ⟨i, List.mem_range.2 hi, rfl⟩) hn)))
      have e : reachBytes = 140737488351232 := rfl
      omega
    have ch : ∃ f : Nat → List Rw, ∀ i, i < len → eW W (V i) (f i) ∧ (f i).length ≤ 5000000000000 :=
      ⟨fun i => if h : i < len then (each i h).choose else [], fun i hi => by simp only [dif_pos hi]; exact (each i hi).choose_spec⟩
    obtain ⟨f, hf⟩ := ch
    obtain ⟨b, o, s⟩ := a
    have inR : ∀ {α : Type} {g : Nat → α} {k : Nat} {x : α}, ((List.range len).map g)[k]? = some x → k < len ∧ x = g k := fun {α g k x} hk => by
      rw [List.getElem?_map] at hk
      have hkl : k < len := by
        by_cases h : k < len
        · exact h
        · rw [List.getElem?_eq_none (by simp; omega)] at hk; cases hk
      rw [List.getElem?_range hkl] at hk
      cases hk
      exact ⟨hkl, rfl⟩
    refine ⟨(List.range len).map f, ⟨_, _, by rw [List.length_map, List.length_range]⟩, fun h0 => ⟨(List.range len).map V, ⟨by simp, ?_⟩, fun k l hk => ?_⟩⟩
    · have h0 : 0 < len := by simpa using h0
      obtain rfl : s = none := by simpa [Addr.add] using World.cell?_spot (hx 0 (by omega)).1
      refine .inr ⟨b, o, m, by simp, by simpa using hl, hm, fun j u hj => ?_⟩
      obtain ⟨hjl, rfl⟩ := inR hj
      have := (hx j (by omega)).1
      rw [gO] at this
      exact this
    · obtain ⟨hkl, rfl⟩ := inR hk
      refine ⟨V k, by rw [List.getElem?_map, List.getElem?_range hkl]; rfl, (hf k hkl).1, (hf k hkl).2⟩
theorem aSa {b : Int} (h : (Lit.int .u8 b).wf = true) : 0 ≤ b ∧ b < 256 := by
  simp [Lit.wf] at h
  have e1 : IntKind.u8.min = 0 := rfl
  have e2 : IntKind.u8.max = 255 := rfl
  omega
theorem CH {H : Type} {enc : TypeId × Value → H} {W : World} {v : Value} {fuel : Nat} {y : DataW H × List MemPlace} (hy : DataW.trod enc Tryz.prog W 0 (fun _ => true) true fuel 23 [v] = some y) : ∃ l, iZ W v l ∧ qD l ∧ ∀ B, (∀ n ∈ y.1.weights Tryz.prog 23, n ≤ B) → l.length ≤ B := by
  rcases open_ints Tryz.underlying23 Tryz.underlying5 (by kernel_rfl) hy with ⟨hcs, _⟩ | ⟨a, len, cap, zs, hcs, _, hl, hm, hz, hy', hcell, hwf⟩
  · cases hcs
    exact ⟨[], .inl ⟨rfl, rfl⟩, fun _ h => by simp at h, fun B _ => by simp⟩
  · cases hcs
    simp only [if_true] at hz
    have hl' : (zs.take len).length = len := by simp; omega
    refine ⟨zs.take len, .inr ⟨a, cap, by rw [hl'], fun h0 => ?_⟩, fun b hb => aSa (hwf b (List.mem_of_mem_take hb)), fun B hB => ?_⟩
    · rw [hl'] at h0
      obtain ⟨b, o, s⟩ := a
      obtain rfl : s = none := by
        have := hcell 0 (by omega)
        simpa [Addr.add] using World.cell?_spot this
      refine ⟨by simp, .inr ⟨b, o, cap, by simp; omega, by simp; omega, hm, fun j u hj => ?_⟩⟩
      rw [List.getElem?_map] at hj
      have hjl : j < len := by
        by_cases h : j < len
        · exact h
        · rw [List.getElem?_eq_none (by simp; omega)] at hj; cases hj
      have := hcell j (by omega)
      rw [gO] at this
      rw [this]
      rw [List.getElem?_take, if_pos hjl, List.getElem?_eq_getElem (by omega)] at hj
      have e : zs.getD j 0 = zs[j]'(by omega) := by simp [List.getD, List.getElem?_eq_getElem (show j < zs.length by omega)]
      rw [← hj, e]
      rfl
    · have h5 : Tryz.prog.bytesOf 5 = 1 := by kernel_rfl
      have := hB (((lits (H := H) .u8 (zs.take len)).length + (lits (H := H) .u8 (zs.drop len)).length) * Tryz.prog.bytesOf 5) (by
        rw [hy']
        simp [DataW.weights, Tryz.underlying23])
      rw [h5, Nat.mul_one] at this
      simp [lits] at this ⊢
      omega
end Go.Proofs.YtgkkecladbmjkaaGreatDoor.interpPlays
