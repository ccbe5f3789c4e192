/- LiftMeans: what came in: lists of raw statements, bytes, and the listed variables. Began as the skeleton that the seat's proof-skeleton prints. -/
import Derived.Test.YtgkkecladbmjkaaGreatDoorRows
import Derived.Test.YtgkkecladbmjkaaGreatDoorCards
import Derived.Test.YtgkkecladbmjkaaGreatDoorTie
import Derived.Test.YtgkkecladbmjkaaGreatDoorZh
import Derived.Lay
import Derived.LaidOnce
import Derived.SizedLaws
import Derived.Deep.Slices
import Derived.SevenTiedAt
import Derived.MakeChecks
namespace Go.Proofs.YtgkkecladbmjkaaGreatDoor.liftMeans
open Go.ChangeShapes Go.WideShapes Go.ChangeAt Go.RowKit Go.Vc
set_option linter.unusedVariables false
theorem own : ownKnob Tryz.prog.godebug = none := by kernel_rfl
theorem k1b : laidOutB Tryz.prog = true := by kernel_rfl
theorem k1r : (Tryz.f7.params.toList.all fun t => Tryz.prog.readableRec t && decide (t < Tryz.prog.types.size)) = true := by kernel_rfl
theorem aRk (W : World) (hL : laidMetH Tryz.prog Rows.liftMeansRow.laid W) : ∃ ps, DataW.LaidVars Tryz.prog W Rows.liftMeansRow.laid ps := by
  rw [MakeChecks.laidMetH_plain _ _ _ (by kernel_rfl)] at hL
  obtain ⟨ps, h, _⟩ := hL
  exact ⟨ps, h⟩
theorem YK : (Go.Pinned.numbers .u8 Go.Pinned.utf8FirstZ)[195]? = some (.lit (.int .u8 2)) := by kernel_rfl
theorem aKd (W : World) (hL : laidMetH Tryz.prog Rows.liftMeansRow.laid W) : mS W := by
  obtain ⟨ps, h⟩ := aRk W hL
  refine ⟨?_, ?_, ?_⟩
  · obtain ⟨z, e1, hz⟩ := XS (x := "unicode/utf8.first") (ds := Go.Pinned.numbers .u8 Go.Pinned.utf8FirstZ) (g := 0) (t := 288) (e := 5) (m := 256) (k := .u8) (by kernel_rfl) (by kernel_rfl) (by kernel_rfl) (by kernel_rfl) (by kernel_rfl) h (List.mem_of_getElem? (i := 1) rfl) (i := 195) (by decide)
    rw [YK] at e1
    cases e1
    exact hz
  · obtain ⟨l, z, e1, e2, hz⟩ := FZ (f := 0) (o := 0) (u := 5) (c := 2) (x := "unicode/utf8.acceptRanges") (g := 1) (t := 291) (e := 290) (m := 16) (k := .u8) (by kernel_rfl) (by kernel_rfl) (by kernel_rfl) Tryz.underlying290 (by kernel_rfl) (by kernel_rfl) (by kernel_rfl) (by kernel_rfl) (by decide) h (List.mem_of_getElem? (i := 0) rfl) (i := 0) (by decide)
    cases e1
    cases e2
    exact hz
  · obtain ⟨l, z, e1, e2, hz⟩ := FZ (f := 1) (o := 1) (u := 5) (c := 2) (x := "unicode/utf8.acceptRanges") (g := 1) (t := 291) (e := 290) (m := 16) (k := .u8) (by kernel_rfl) (by kernel_rfl) (by kernel_rfl) Tryz.underlying290 (by kernel_rfl) (by kernel_rfl) (by kernel_rfl) (by kernel_rfl) (by decide) h (List.mem_of_getElem? (i := 0) rfl) (i := 0) (by decide)
    cases e1
    cases e2
    exact hz
theorem aJa {H : Type} {enc : TypeId × Value → H} {W : World} {v : Value} {fuel : Nat} {y : DataW H × List MemPlace} {t e : TypeId} {k : IntKind} (ht : Tryz.prog.underlying t = some (.slice e)) (he : Tryz.prog.underlying e = some (.int k)) (hc : Tryz.prog.cellsOf e = 1) (hy : DataW.trod enc Tryz.prog W 0 (fun _ => true) true fuel t [v] = some y) : ∃ l, LW W v (Value.int k) l ∧ ∀ b ∈ l, (Lit.int k b).wf = true := by
  rcases open_ints ht he hc hy with ⟨hcs, _⟩ | ⟨a, len, cap, zs, hcs, _, hl, hm, hz, hy', hcell, hwf⟩
  · cases hcs
    exact ⟨[], ⟨none, 0, rfl, fun h => absurd h (Nat.lt_irrefl 0)⟩, fun _ h => by simp at h⟩
  · cases hcs
    simp only [if_true] at hz
    have hl' : (zs.take len).length = len := by simp; omega
    refine ⟨zs.take len, ⟨a, cap, by rw [hl'], fun h0 => ?_⟩, fun b hb => hwf b (List.mem_of_mem_take hb)⟩
    rw [hl'] at h0
    obtain ⟨b, o, s⟩ := a
    obtain rfl : s = none := by
      have := hcell 0 (by omega)
      simpa [Addr.add] using World.cell?_spot this
    refine ⟨by simp, .inr ⟨b, o, cap, by simp; omega, by simp; omega, hm, fun j u hj => ?_⟩⟩
    rw [List.getElem?_map] at hj
    have hjl : j < len := by
      by_cases h : j < len
      · exact h
      · rw [List.getElem?_eq_none (by simp; omega)] at hj; cases hj
    have := hcell j (by omega)
    rw [jQ] at this
    rw [this]
    rw [List.getElem?_take, if_pos hjl, List.getElem?_eq_getElem (by omega)] at hj
    have e : zs.getD j 0 = zs[j]'(by omega) := by simp [List.getD, List.getElem?_eq_getElem (show j < zs.length by omega)]
    rw [← hj, e]
    rfl
theorem aPu {b : Int} (h : (Lit.int .i32 b).wf = true) : -2147483648 ≤ b ∧ b ≤ 2147483647 := by
  simp [Lit.wf] at h
  have e1 : IntKind.i32.min = -2147483648 := rfl
  have e2 : IntKind.i32.max = 2147483647 := rfl
  omega
end Go.Proofs.YtgkkecladbmjkaaGreatDoor.liftMeans
