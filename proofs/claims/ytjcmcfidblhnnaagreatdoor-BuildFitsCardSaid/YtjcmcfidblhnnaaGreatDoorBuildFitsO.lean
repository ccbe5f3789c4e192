/- BuildFits: what came in: raw statements, and the listed variables. Began as the skeleton that the seat's proof-skeleton prints. -/
import Derived.Test.YtjcmcfidblhnnaaGreatDoorRows
import Derived.Test.YtjcmcfidblhnnaaGreatDoorCards
import Derived.Test.YtjcmcfidblhnnaaGreatDoorTie
import Derived.Test.YtjcmcfidblhnnaaGreatDoorFi
import Derived.Test.YtjcmcfidblhnnaaGreatDoorFg
import Derived.Lay
import Derived.LaidOnce
import Derived.SizedLaws
import Derived.Deep.Slices
import Derived.SevenTiedAt
import Derived.MakeChecks
namespace Go.Proofs.YtjcmcfidblhnnaaGreatDoor.buildFits
open Go.ChangeShapes Go.WideShapes Go.ChangeAt Go.RowKit Go.Vc
set_option linter.unusedVariables false
theorem own : ownKnob Tryz.prog.godebug = none := by kernel_rfl
theorem k1b : laidOutB Tryz.prog = true := by kernel_rfl
theorem k1r : (Tryz.f6.params.toList.all fun t => Tryz.prog.readableRec t && decide (t < Tryz.prog.types.size)) = true := by kernel_rfl
theorem bAb (W : World) (hL : laidMetH Tryz.prog Rows.buildFitsRow.laid W) : ∃ ps, DataW.LaidVars Tryz.prog W Rows.buildFitsRow.laid ps := by
  rw [MakeChecks.laidMetH_plain _ _ _ (by kernel_rfl)] at hL
  obtain ⟨ps, h, _⟩ := hL
  exact ⟨ps, h⟩
theorem bDu (W : World) (hL : laidMetH Tryz.prog Rows.buildFitsRow.laid W) : wU W := fun j hj => by
  obtain ⟨ps, h⟩ := bAb W hL
  obtain ⟨z, _, hz⟩ := MD (x := "taciturn/taciturnhand.bins") (g := 0) (t := 272) (e := 3) (m := 12) (k := .i64) (by kernel_rfl) (by kernel_rfl) (by kernel_rfl) (by kernel_rfl) (by kernel_rfl) h (List.mem_of_getElem? (i := 1) rfl) hj
  exact ⟨z, hz⟩
theorem aIb : (Go.Pinned.numbers .u8 Go.Pinned.utf8FirstZ)[195]? = some (.lit (.int .u8 2)) := by kernel_rfl
theorem bAy (W : World) (hL : laidMetH Tryz.prog Rows.buildFitsRow.laid W) : tV W := by
  obtain ⟨ps, h⟩ := bAb W hL
  refine ⟨?_, ?_, ?_⟩
  · obtain ⟨z, e1, hz⟩ := MD (x := "unicode/utf8.first") (ds := Go.Pinned.numbers .u8 Go.Pinned.utf8FirstZ) (g := 1) (t := 276) (e := 5) (m := 256) (k := .u8) (by kernel_rfl) (by kernel_rfl) (by kernel_rfl) (by kernel_rfl) (by kernel_rfl) h (List.mem_of_getElem? (i := 2) rfl) (i := 195) (by decide)
    rw [aIb] at e1
    cases e1
    exact hz
  · obtain ⟨l, z, e1, e2, hz⟩ := ME (f := 0) (o := 0) (u := 5) (c := 2) (x := "unicode/utf8.acceptRanges") (g := 2) (t := 279) (e := 278) (m := 16) (k := .u8) (by kernel_rfl) (by kernel_rfl) (by kernel_rfl) Tryz.underlying278 (by kernel_rfl) (by kernel_rfl) (by kernel_rfl) (by kernel_rfl) (by decide) h (List.mem_of_getElem? (i := 0) rfl) (i := 0) (by decide)
    cases e1
    cases e2
    exact hz
  · obtain ⟨l, z, e1, e2, hz⟩ := ME (f := 1) (o := 1) (u := 5) (c := 2) (x := "unicode/utf8.acceptRanges") (g := 2) (t := 279) (e := 278) (m := 16) (k := .u8) (by kernel_rfl) (by kernel_rfl) (by kernel_rfl) Tryz.underlying278 (by kernel_rfl) (by kernel_rfl) (by kernel_rfl) (by kernel_rfl) (by decide) h (List.mem_of_getElem? (i := 0) rfl) (i := 0) (by decide)
    cases e1
    cases e2
    exact hz
theorem c3 : Tryz.prog.cellsOf 3 = 1 := by kernel_rfl
theorem c4 : Tryz.prog.cellsOf 197 = 4 := by kernel_rfl
theorem b32 : Tryz.prog.bytesOf 197 = 32 := by kernel_rfl
theorem aQh (f : Nat → Rw) : ∀ n, ((List.range n).flatMap fun i => [i64 (f i).k, i64 (f i).a, i64 (f i).b, i64 (f i).e]).length = n * 4
  | 0 => rfl
  | n + 1 => by
    rw [List.range_succ, List.flatMap_append, List.length_append, aQh f n]
    simp; omega
theorem aHz (f : Nat → Rw) : ∀ n j, j < n * 4 → ((List.range n).flatMap fun i => [i64 (f i).k, i64 (f i).a, i64 (f i).b, i64 (f i).e])[j]? = [i64 (f (j / 4)).k, i64 (f (j / 4)).a, i64 (f (j / 4)).b, i64 (f (j / 4)).e][j % 4]?
  | 0, j, h => by omega
  | n + 1, j, h => by
    have hl : ((List.range n).flatMap fun i => [i64 (f i).k, i64 (f i).a, i64 (f i).b, i64 (f i).e]).length = n * 4 := aQh f n
    rw [List.range_succ, List.flatMap_append, List.getElem?_append, hl]
    split
    · rename_i hlt
      exact aHz f n j hlt
    · rename_i hge
      rw [show j / 4 = n by omega, show j - n * 4 = j % 4 by omega]
      simp
set_option maxRecDepth 100000 in
theorem aFz {H : Type} {enc : TypeId × Value → H} {W : World} {r : Reach} {b0 : Nat} {v : Value} {d : DataW H} {p : List MemPlace} (hv : Value.okWide Tryz.prog W r b0 22 v) (h : DataW.Trod enc Tryz.prog W 0 (fun _ => true) true 22 v d p) :
    ∃ l, kL W v l ∧ ∀ B, (∀ n ∈ d.weights Tryz.prog 22, n ≤ B) → l.length * 32 ≤ B := by
  obtain ⟨a0, len, cap, rfl⟩ := okWide_slice Tryz.underlying22 hv
  obtain ⟨fuel, hf⟩ := h
  rcases Go.Deep.open_slice Tryz.underlying22 hf with ⟨hcs, _⟩ | ⟨a, len', cap', m, nn, D, Pl, hcs, _, hl, hm, hmm, hd, hx⟩
  · simp [Value.cells] at hcs
    obtain ⟨rfl, rfl, rfl⟩ := hcs
    exact ⟨[], ⟨⟨none, 0, rfl⟩, fun h => by simp at h⟩, fun B _ => by simp⟩
  · simp [Value.cells] at hcs
    obtain ⟨rfl, rfl, rfl⟩ := hcs
    simp only [if_true] at hmm
    subst hmm
    rw [c4] at hx
    have hd : d = .slice ((List.range len).map D) ((List.range (m - len)).map fun j => D (len + j)) := congrArg Prod.fst hd
    have hspot : 0 < len → a.spot = none := fun hpos => by
      obtain ⟨cs', h1, _⟩ := hx 0 (by omega)
      obtain ⟨_, hlen, hcell⟩ := World.cells?_some h1
      obtain ⟨u, hu⟩ := bE (l := cs') (j := 0) (by omega)
      have := hcell 0 (by omega)
      rw [hu] at this
      obtain ⟨b, o, s⟩ := a
      simpa [Addr.add] using World.cell?_spot this
    have each : ∀ i, i < len → ∃ x : Rw, ∀ j, j < 4 → W.cell? ⟨a.block, a.off + (i * 4 + j), none⟩ = [i64 x.k, i64 x.a, i64 x.b, i64 x.e][j]? := by
      intro i hi
      obtain ⟨cs', h1, h2⟩ := hx i (by omega)
      obtain ⟨_, hlen, hcell⟩ := World.cells?_some h1
      match cs', hlen with
      | [u0, u1, u2, u3], _ =>
        obtain ⟨xs, n', _, _, _, hlx, hfs⟩ := DataW.trod_struct Tryz.underlying197 h2
        match xs, (show xs.length = 4 from hlx) with
        | [y0, y1, y2, y3], _ =>
        have f0 : DataW.trod enc Tryz.prog W 0 (fun _ => true) true n' 3 (([u0, u1, u2, u3].drop 0).take (Tryz.prog.cellsOf 3)) = some y0 := hfs 0 _ rfl
        obtain ⟨z0, e0, _, _⟩ := DataW.trod_int Tryz.underlying3 f0
        have f1 : DataW.trod enc Tryz.prog W 0 (fun _ => true) true n' 3 (([u0, u1, u2, u3].drop 1).take (Tryz.prog.cellsOf 3)) = some y1 := hfs 1 _ rfl
        obtain ⟨z1, e1, _, _⟩ := DataW.trod_int Tryz.underlying3 f1
        have f2 : DataW.trod enc Tryz.prog W 0 (fun _ => true) true n' 3 (([u0, u1, u2, u3].drop 2).take (Tryz.prog.cellsOf 3)) = some y2 := hfs 2 _ rfl
        obtain ⟨z2, e2, _, _⟩ := DataW.trod_int Tryz.underlying3 f2
        have f3 : DataW.trod enc Tryz.prog W 0 (fun _ => true) true n' 3 (([u0, u1, u2, u3].drop 3).take (Tryz.prog.cellsOf 3)) = some y3 := hfs 3 _ rfl
        obtain ⟨z3, e3, _, _⟩ := DataW.trod_int Tryz.underlying3 f3
        simp only [c3] at e0 e1 e2 e3
        simp at e0 e1 e2 e3
        subst e0 e1 e2 e3
        refine ⟨⟨z0, z1, z2, z3⟩, fun j hj => ?_⟩
        obtain ⟨b, o, s⟩ := a
        obtain rfl : s = none := hspot (by omega)
        have := hcell j hj
        rw [lE, lE] at this
        rw [← Nat.add_assoc, this]
    have ch : ∃ f : Nat → Rw, ∀ i, i < len → ∀ j, j < 4 → W.cell? ⟨a.block, a.off + (i * 4 + j), none⟩ = [i64 (f i).k, i64 (f i).a, i64 (f i).b, i64 (f i).e][j]? :=
      ⟨fun i => if h : i < len then (each i h).choose else ⟨0, 0, 0, 0⟩, fun i hi => by simp only [dif_pos hi]; exact (each i hi).choose_spec⟩
    obtain ⟨f, hf⟩ := ch
    refine ⟨(List.range len).map f, ⟨⟨some a, m, by simp⟩, fun hpos => ?_⟩, fun B hB => ?_⟩
    · have hpos : 0 < len := by simpa using hpos
      obtain ⟨b, o, s⟩ := a
      obtain rfl : s = none := hspot hpos
      refine ⟨(List.range len).flatMap fun i => [i64 (f i).k, i64 (f i).a, i64 (f i).b, i64 (f i).e], ⟨by rw [aQh]; simp, .inr ⟨b, o, m, by simp, by simpa using hl, hm, fun j u hj => ?_⟩⟩, fun k x hk => ⟨_, rfl, ?_⟩⟩
      · have hjl : j < len * 4 := by have := (List.getElem?_eq_some_iff.1 hj).1; rwa [aQh] at this
        rw [aHz f len j hjl] at hj
        have h4 := hf (j / 4) (by omega) (j % 4) (Nat.mod_lt _ (by decide))
        rw [show j / 4 * 4 + j % 4 = j by omega] at h4
        rw [h4, hj]
      · rw [List.getElem?_map] at hk
        have hkl : k < len := by
          by_cases h : k < len
          · exact h
          · rw [List.getElem?_eq_none (by simp; omega)] at hk; cases hk
        rw [List.getElem?_range hkl] at hk
        cases hk
        show _ = [i64 (f k).k, i64 (f k).a, i64 (f k).b, i64 (f k).e]
        apply List.ext_getElem?
        intro j
        rw [List.getElem?_take]
        by_cases hj : j < 4
        · rw [if_pos hj, List.getElem?_drop, aHz f len (k * 4 + j) (by omega), show (k * 4 + j) / 4 = k by omega, show (k * 4 + j) % 4 = j by omega]
        · rw [if_neg hj, List.getElem?_eq_none (by simp; omega)]
    · have := hB ((len + (m - len)) * Tryz.prog.bytesOf 197) (by
        rw [hd]
        simp [DataW.weights, Tryz.underlying22])
      rw [b32] at this
      simp only [List.length_map, List.length_range]
      omega

end Go.Proofs.YtjcmcfidblhnnaaGreatDoor.buildFits
