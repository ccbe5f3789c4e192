/- Slices of bytes as texts; a struct of three cells that is written anew. -/
import Derived.Test.YtbigfaomhfmpkaaGreatDoorLaws2
import Derived.Lib.SlBytesRowKit
namespace Go.Vc
open Go.Proofs
section
variable {P : Program} {w : World} {K : Value → World → Prop} {S : World → Prop} {L : Value → Prop}
/-- string(b), of an argument that lies so. -/
theorem r_bytes {p : Option Addr} {n : Nat} {xs : List Int} (h : Lib.BytesIn w p n xs) (hx : xs.length = n) (c : Nat) (src e dst : TypeId)
    (hs : P.underlying src = some (.slice e)) (he : P.underlying e = some (.int .u8)) (hd : P.underlying dst = some .string) :
    (convert src dst (.slice p n c)).run P w = .ok (.string (strOfNums xs)) w := by
  rcases Nat.eq_zero_or_pos n with hn | hn
  · subst hn
    obtain rfl : xs = [] := List.eq_nil_of_length_eq_zero hx
    exact run_convert_bytes_zero w src e hs he p c dst hd
  · obtain ⟨b, o, rfl, hc⟩ := h.at hn
    exact run_convert_bytes_arg (P := P) w src e hs he b o n c xs hx hc dst hd
theorem bytesExt {w w' : World} {p : Option Addr} {n : Nat} {xs : List Int} (h : Lib.BytesIn w p n xs) (hx : Ext w w') : Lib.BytesIn w' p n xs := fun hn => by
  obtain ⟨b, o, rfl, hc⟩ := h.at hn
  exact ⟨b, o, rfl, fun i hi => hx.cell (hc i hi)⟩
theorem r_eqStr {s : TypeId} (hs : P.underlying s = some .string) {x y : Operand} {a b : ByteArray} :
    (do eqGuard .eql s x y (.string a) (.string b); binOp .eql s (.string a) (.string b)).run P w = .ok (.bool (a.toList == b.toList)) w := by
  simp [eqGuard, binOp, Op.stringOp]
theorem yfB {s f o ft b : Nat} {cs : List Value} {u : Value} (hb : ∀ w', S w' → Boxed w' b cs) (h : FA P s f o) (hl : L1 P ft) (hc : cs[o]? = some u) (hk : L u) :
    yieldS P S (Instr.fieldAt s (.pointer (some ⟨b, 0, none⟩)) f) fun q => yieldS P S (Instr.loadAt ft q) L := by
  obtain ⟨d, hd, ha⟩ := hl
  exact yieldS.ok (fun w' _ => h.ex w' b 0) (yieldS.ok (fun w' hw => r_load hd ha (hb w' hw o u hc)) hk)
theorem yBld {t : TypeId} {zs : List Value} (h : BD P t zs) {parts : Array (Nat × Value)} (l : List (Nat × Value)) (hp : parts = l.toArray) (h1 : (l.all fun x => decide (x.1 < zs.length) && oneC x.2) = true)
    (hk : L (.agg (l.foldl (fun cs x => cs.set x.1 x.2) zs).toArray)) : yieldS P S (Instr.build t parts) L := by
  subst hp
  obtain ⟨fs, b, hu, hi, hm⟩ := h
  refine yieldS.ok (fun w _ => ?_) hk
  simp only [Instr.build, Sem.run_bind, run_zero hi, Result.andThen_ok, run_underlying hu, hm, Value.cells]
  rw [fillB l zs rfl h1]
  simp
theorem bxK {t : TypeId} {v : Value} (hk : ∀ w1, Blk w1 w.heap.size v.cells.toList t → Ext w w1 → K (.pointer (some ⟨w.heap.size, 0, none⟩)) w1) : V P (Instr.box t v) w K :=
  V.ok r_box (hk _ (by unfold Blk; rw [heap_alloc_new]) ((Ext.refl w).alloc _))
theorem Blk.boxed {g : Nat} {cs : List Value} {e : TypeId} (h : Blk w g cs e) : Boxed w g cs := fun j u hj => by rw [Nat.zero_add, h.cell]; exact hj
theorem st3 {t : TypeId} {z : Value} {by_ g : Nat} {a b c x y u : Value} {e : TypeId} {K' : Value → World → Prop} (hi : Inf P t z 3 by_) (hb : Blk w g [a, b, c] e) (hx : oneC x = true) (hy : oneC y = true) (hu : oneC u = true)
    (hk : K' undef (((w.setCell ⟨g, 0, none⟩ x).setCell ⟨g, 1, none⟩ y).setCell ⟨g, 2, none⟩ u)) : U P (Instr.storeAt t (.pointer (some ⟨g, 0, none⟩)) (.agg #[x, y, u])) w K' := by
  refine U.ok ?_ hk
  have h0 := run_store1 (P := P) (a := ⟨g, 0, none⟩) hx (by rw [hb.cell]; rfl) (hb.frozen 0)
  have hb1 := hb.set 0 x
  have h1 := run_store1 (P := P) (a := ⟨g, 1, none⟩) hy (by rw [hb1.cell]; rfl) (hb1.frozen 1)
  have hb2 := hb1.set 1 y
  have h2 := run_store1 (P := P) (a := ⟨g, 2, none⟩) hu (by rw [hb2.cell]; rfl) (hb2.frozen 2)
  simp [Instr.storeAt, Instr.sureAddr, storeVar, run_size hi, Value.cells, storeCells, add_mk, h0, h1, h2]
theorem Blk.set3 {g : Nat} {a b c x y u : Value} {e : TypeId} (hb : Blk w g [a, b, c] e) : Blk (((w.setCell ⟨g, 0, none⟩ x).setCell ⟨g, 1, none⟩ y).setCell ⟨g, 2, none⟩ u) g [x, y, u] e := ((hb.set 0 x).set 1 y).set 2 u
theorem Blk.other3 {g g' : Nat} {cs : List Value} {x y u : Value} {e : TypeId} (hb : Blk w g cs e) (hne : g ≠ g') : Blk (((w.setCell ⟨g', 0, none⟩ x).setCell ⟨g', 1, none⟩ y).setCell ⟨g', 2, none⟩ u) g cs e := ((hb.other hne).other hne).other hne
theorem ext3 {a : World} {g : Nat} {x y u : Value} (h : Ext a w) (hg : a.heap.size ≤ g) : Ext a (((w.setCell ⟨g, 0, none⟩ x).setCell ⟨g, 1, none⟩ y).setCell ⟨g, 2, none⟩ u) := ((h.setCell hg x).setCell hg y).setCell hg u
end
end Go.Vc
