/- ScriptParses: what came in: raw statements, and the listed variables. Began as the skeleton that the seat's proof-skeleton prints. -/
import Derived.Test.YthblbcjgdbaonaaGreatDoorRows
import Derived.Test.YthblbcjgdbaonaaGreatDoorCards
import Derived.Test.YthblbcjgdbaonaaGreatDoorTie
import Derived.Test.YthblbcjgdbaonaaGreatDoorWf
import Derived.Lib.SmallJoins
import Derived.Deep.DeepHandedRow
import Derived.HandedShaped
import Derived.Shelf.Vars
import Derived.Lay
import Derived.LaidOnce
import Derived.SizedLaws
import Derived.Deep.Slices
import Derived.SevenTiedAt
import Derived.MakeChecks
namespace Go.Proofs.YthblbcjgdbaonaaGreatDoor.scriptParses
open Go.ChangeShapes Go.WideShapes Go.ChangeAt Go.RowKit Go.Vc
set_option linter.unusedVariables false
theorem own : ownKnob Tryz.prog.godebug = none := by kernel_rfl
theorem k1b : laidOutB Tryz.prog = true := by kernel_rfl
theorem k1r : (Tryz.f4.params.toList.all fun t => Tryz.prog.readableRec t && decide (t < Tryz.prog.types.size)) = true := by kernel_rfl
theorem laidV (W : World) (hL : laidMetH Tryz.prog Rows.scriptParsesUptoRow.laid W) : ∃ ps, DataW.LaidVars Tryz.prog W Rows.scriptParsesUptoRow.laid ps := by
  rw [MakeChecks.laidMetH_plain _ _ _ (by kernel_rfl)] at hL
  obtain ⟨ps, h, _⟩ := hL
  exact ⟨ps, h⟩
theorem binsOk (W : World) (hL : laidMetH Tryz.prog Rows.scriptParsesUptoRow.laid W) : BinsOk W := fun j hj => by
  obtain ⟨ps, h⟩ := laidV W hL
  obtain ⟨z, _, hz⟩ := laid_int (x := "taciturn/taciturnhand.bins") (g := 3) (t := 226) (e := 3) (m := 12) (k := .i64) (by kernel_rfl) (by kernel_rfl) (by kernel_rfl) (by kernel_rfl) (by kernel_rfl) h (List.mem_of_getElem? (i := 4) rfl) hj
  exact ⟨z, hz⟩
theorem firstEq : (Go.Pinned.numbers .u8 Go.Pinned.utf8FirstZ) = (List.range 256).map fun c => .lit (.int .u8 (Lib.firstT c)) := by kernel_rfl
theorem accEq : Rows.laid_unicode_utf8_acceptRanges = (.agg ((List.range 16).map fun i => .agg [.lit (.int .u8 (Lib.accLo i)), .lit (.int .u8 (Lib.accHi i))]) : DataW Unit) := by kernel_rfl
theorem powEq : Rows.laid_internal_strconv_uint64pow10 = (Lib.tabData .u64 Lib.pow10Tab : DataW Unit) := by kernel_rfl
theorem utOk (W : World) (hL : laidMetH Tryz.prog Rows.scriptParsesUptoRow.laid W) : Lib.Utf8Tabs 0 1 W := by
  obtain ⟨ps, h⟩ := laidV W hL
  refine ⟨fun c hc => ?_, fun i hi => ⟨?_, ?_⟩⟩
  · obtain ⟨z, e1, hz⟩ := laid_int (x := "unicode/utf8.first") (ds := Go.Pinned.numbers .u8 Go.Pinned.utf8FirstZ) (g := 0) (t := 113) (e := 5) (m := 256) (k := .u8) (by kernel_rfl) (by kernel_rfl) (by kernel_rfl) (by kernel_rfl) (by kernel_rfl) h (List.mem_of_getElem? (i := 5) rfl) (i := c) hc
    rw [firstEq, List.getElem?_map, List.getElem?_range hc] at e1
    cases e1
    exact hz
  · obtain ⟨l, z, e1, e2, hz⟩ := laid_fld (f := 0) (o := 0) (u := 5) (c := 2) (x := "unicode/utf8.acceptRanges") (g := 1) (t := 116) (e := 115) (m := 16) (k := .u8) (by kernel_rfl) (by kernel_rfl) (by kernel_rfl) Tryz.underlying115 (by kernel_rfl) (by kernel_rfl) (by kernel_rfl) (by kernel_rfl) (by decide) h (List.mem_of_getElem? (i := 3) (by rw [← accEq]; rfl)) (i := i) hi
    rw [List.getElem?_map, List.getElem?_range hi] at e1
    cases e1
    cases e2
    rw [Nat.mul_comm]
    exact hz
  · obtain ⟨l, z, e1, e2, hz⟩ := laid_fld (f := 1) (o := 1) (u := 5) (c := 2) (x := "unicode/utf8.acceptRanges") (g := 1) (t := 116) (e := 115) (m := 16) (k := .u8) (by kernel_rfl) (by kernel_rfl) (by kernel_rfl) Tryz.underlying115 (by kernel_rfl) (by kernel_rfl) (by kernel_rfl) (by kernel_rfl) (by decide) h (List.mem_of_getElem? (i := 3) (by rw [← accEq]; rfl)) (i := i) hi
    rw [List.getElem?_map, List.getElem?_range hi] at e1
    cases e1
    cases e2
    rw [Nat.mul_comm]
    exact hz
theorem tabsOk (W : World) (hL : laidMetH Tryz.prog Rows.scriptParsesUptoRow.laid W) : Tabs W := by
  obtain ⟨h1, h2⟩ := utOk W hL
  exact ⟨h1 195 (by decide), (h2 0 (by decide)).1, (h2 0 (by decide)).2⟩
theorem tabIs_laid {P : Program} {W : World} {name : String} {k : IntKind} {zs : List Int} {g t e n : Nat} (hg : P.globalNamed name = some g) (hty : (P.globals[g]?).map (·.type) = some t) (ht : P.underlying t = some (.array n e)) (he : P.underlying e = some (.int k)) (hce : P.cellsOf e = 1) (hct : P.cellsOf t = n) :
    ∀ {laid : List (String × DataW Unit)} {ps : List MemPlace}, DataW.LaidVars P W laid ps → (name, Lib.tabData k zs) ∈ laid → Lib.TabIs P W name k zs
  | [], _, _, hm => by cases hm
  | (n', d') :: r, ps, h, hm => by
    obtain ⟨g', t', cs, fuel, p, q, h1, h2, h3, h4, h5, _⟩ := h
    rcases List.mem_cons.1 hm with e1 | e1
    · cases e1
      obtain rfl := Option.some.inj (hg.symm.trans h1)
      obtain rfl := Option.some.inj (hty.symm.trans h2)
      unfold Lib.TabIs
      rw [h3, ← Lib.cells_of_tab ht he hce hct h4]
    · exact tabIs_laid hg hty ht he hce hct h5 e1
theorem p10Ok (W : World) (hL : laidMetH Tryz.prog Rows.scriptParsesUptoRow.laid W) : Lib.TabIs Tryz.prog W "internal/strconv.uint64pow10" .u64 Lib.pow10Tab := by
  obtain ⟨ps, h⟩ := laidV W hL
  exact tabIs_laid (g := 2) (t := 207) (e := 159) (n := 20) (by kernel_rfl) (by kernel_rfl) (by kernel_rfl) (by kernel_rfl) (by kernel_rfl) (by kernel_rfl) h (List.mem_of_getElem? (i := 2) (by rw [← powEq]; rfl))
theorem lenCell {W : World} (h : W.ShapedOpen Tryz.prog) : ∃ m, W.cell? ⟨4, 0, none⟩ = some (.int .i64 m) :=
  cell_of_shapedOpen_int (t := 3) (zero := #[.int .i64 0]) h (by decide +kernel) (by kernel_rfl) rfl (by kernel_rfl) (by kernel_rfl) Tryz.underlying3
theorem stabs {W : World} (hL : laidMetH Tryz.prog Rows.scriptParsesUptoRow.laid W) (h : W.ShapedOpen Tryz.prog) : STabs W := ⟨utOk W hL, tabsOk W hL, binsOk W hL, p10Ok W hL, lenCell h⟩
theorem c3 : Tryz.prog.cellsOf 3 = 1 := by kernel_rfl
theorem c4 : Tryz.prog.cellsOf 143 = 4 := by kernel_rfl
theorem b32 : Tryz.prog.bytesOf 143 = 32 := by kernel_rfl
theorem len4 (f : Nat → Rw) : ∀ n, ((List.range n).flatMap fun i => [i64 (f i).k, i64 (f i).a, i64 (f i).b, i64 (f i).e]).length = n * 4
  | 0 => rfl
  | n + 1 => by
    rw [List.range_succ, List.flatMap_append, List.length_append, len4 f n]
    simp; omega
theorem flat4 (f : Nat → Rw) : ∀ n j, j < n * 4 → ((List.range n).flatMap fun i => [i64 (f i).k, i64 (f i).a, i64 (f i).b, i64 (f i).e])[j]? = [i64 (f (j / 4)).k, i64 (f (j / 4)).a, i64 (f (j / 4)).b, i64 (f (j / 4)).e][j % 4]?
  | 0, j, h => by omega
  | n + 1, j, h => by
    have hl : ((List.range n).flatMap fun i => [i64 (f i).k, i64 (f i).a, i64 (f i).b, i64 (f i).e]).length = n * 4 := len4 f n
    rw [List.range_succ, List.flatMap_append, List.getElem?_append, hl]
    split
    · rename_i hlt
      exact flat4 f n j hlt
    · rename_i hge
      rw [show j / 4 = n by omega, show j - n * 4 = j % 4 by omega]
      simp
set_option maxRecDepth 100000 in
theorem openRaws {H : Type} {enc : TypeId × Value → H} {W : World} {v : Value} {fuel : Nat} {y : DataW H × List MemPlace} (hf : DataW.trod enc Tryz.prog W 0 (fun _ => true) true fuel 22 [v] = some y) :
    ∃ l, RwsAre W v l ∧ ∀ B, (∀ n ∈ y.1.weights Tryz.prog 22, n ≤ B) → l.length * 32 ≤ B := by
  rcases Go.Deep.open_slice Tryz.underlying22 hf with ⟨hcs, _⟩ | ⟨a, len, cap', m, nn, D, Pl, hcs, _, hl, hm, hmm, hd, hx⟩
  · cases hcs
    exact ⟨[], ⟨⟨none, 0, rfl⟩, fun h => by simp at h⟩, fun B _ => by simp⟩
  · cases hcs
    simp only [if_true] at hmm
    subst hmm
    rw [c4] at hx
    have hd : y.1 = .slice ((List.range len).map D) ((List.range (m - len)).map fun j => D (len + j)) := congrArg Prod.fst hd
    have hspot : 0 < len → a.spot = none := fun hpos => by
      obtain ⟨cs', h1, _⟩ := hx 0 (by omega)
      obtain ⟨_, hlen, hcell⟩ := World.cells?_some h1
      obtain ⟨u, hu⟩ := ex_get (l := cs') (j := 0) (by omega)
      have := hcell 0 (by omega)
      rw [hu] at this
      obtain ⟨b, o, s⟩ := a
      simpa [Addr.add] using World.cell?_spot this
    have each : ∀ i, i < len → ∃ x : Rw, ∀ j, j < 4 → W.cell? ⟨a.block, a.off + (i * 4 + j), none⟩ = [i64 x.k, i64 x.a, i64 x.b, i64 x.e][j]? := by
      intro i hi
      obtain ⟨cs', h1, h2⟩ := hx i (by omega)
      obtain ⟨_, hlen, hcell⟩ := World.cells?_some h1
      match cs', hlen with
      | [u0, u1, u2, u3], _ =>
        obtain ⟨xs, n', _, _, _, hlx, hfs⟩ := DataW.trod_struct Tryz.underlying143 h2
        match xs, (show xs.length = 4 from hlx) with
        | [y0, y1, y2, y3], _ =>
        have f0 : DataW.trod enc Tryz.prog W 0 (fun _ => true) true n' 3 (([u0, u1, u2, u3].drop 0).take (Tryz.prog.cellsOf 3)) = some y0 := hfs 0 _ rfl
        obtain ⟨z0, e0, _, _⟩ := DataW.trod_int Tryz.underlying3 f0
        have f1 : DataW.trod enc Tryz.prog W 0 (fun _ => true) true n' 3 (([u0, u1, u2, u3].drop 1).take (Tryz.prog.cellsOf 3)) = some y1 := hfs 1 _ rfl
        obtain ⟨z1, e1, _, _⟩ := DataW.trod_int Tryz.underlying3 f1
        have f2 : DataW.trod enc Tryz.prog W 0 (fun _ => true) true n' 3 (([u0, u1, u2, u3].drop 2).take (Tryz.prog.cellsOf 3)) = some y2 := hfs 2 _ rfl
        obtain ⟨z2, e2, _, _⟩ := DataW.trod_int Tryz.underlying3 f2
        have f3 : DataW.trod enc Tryz.prog W 0 (fun _ => true) true n' 3 (([u0, u1, u2, u3].drop 3).take (Tryz.prog.cellsOf 3)) = some y3 := hfs 3 _ rfl
        obtain ⟨z3, e3, _, _⟩ := DataW.trod_int Tryz.underlying3 f3
        simp only [c3] at e0 e1 e2 e3
        simp at e0 e1 e2 e3
        subst e0 e1 e2 e3
        refine ⟨⟨z0, z1, z2, z3⟩, fun j hj => ?_⟩
        obtain ⟨b, o, s⟩ := a
        obtain rfl : s = none := hspot (by omega)
        have := hcell j hj
        rw [add_mk, add_mk] at this
        rw [← Nat.add_assoc, this]
    have ch : ∃ f : Nat → Rw, ∀ i, i < len → ∀ j, j < 4 → W.cell? ⟨a.block, a.off + (i * 4 + j), none⟩ = [i64 (f i).k, i64 (f i).a, i64 (f i).b, i64 (f i).e][j]? :=
      ⟨fun i => if h : i < len then (each i h).choose else ⟨0, 0, 0, 0⟩, fun i hi => by simp only [dif_pos hi]; exact (each i hi).choose_spec⟩
    obtain ⟨f, hf⟩ := ch
    refine ⟨(List.range len).map f, ⟨⟨some a, m, by simp⟩, fun hpos => ?_⟩, fun B hB => ?_⟩
    · have hpos : 0 < len := by simpa using hpos
      obtain ⟨b, o, s⟩ := a
      obtain rfl : s = none := hspot hpos
      refine ⟨(List.range len).flatMap fun i => [i64 (f i).k, i64 (f i).a, i64 (f i).b, i64 (f i).e], ⟨by rw [len4]; simp, .inr ⟨b, o, m, by simp, by simpa using hl, hm, fun j u hj => ?_⟩⟩, fun k x hk => ⟨_, rfl, ?_⟩⟩
      · have hjl : j < len * 4 := by have := (List.getElem?_eq_some_iff.1 hj).1; rwa [len4] at this
        rw [flat4 f len j hjl] at hj
        have h4 := hf (j / 4) (by omega) (j % 4) (Nat.mod_lt _ (by decide))
        rw [show j / 4 * 4 + j % 4 = j by omega] at h4
        rw [h4, hj]
      · rw [List.getElem?_map] at hk
        have hkl : k < len := by
          by_cases h : k < len
          · exact h
          · rw [List.getElem?_eq_none (by simp; omega)] at hk; cases hk
        rw [List.getElem?_range hkl] at hk
        cases hk
        show _ = [i64 (f k).k, i64 (f k).a, i64 (f k).b, i64 (f k).e]
        apply List.ext_getElem?
        intro j
        rw [List.getElem?_take]
        by_cases hj : j < 4
        · rw [if_pos hj, List.getElem?_drop, flat4 f len (k * 4 + j) (by omega), show (k * 4 + j) / 4 = k by omega, show (k * 4 + j) % 4 = j by omega]
        · rw [if_neg hj, List.getElem?_eq_none (by simp; omega)]
    · have := hB ((len + (m - len)) * Tryz.prog.bytesOf 143) (by
        rw [hd]
        simp [DataW.weights, Tryz.underlying22])
      rw [b32] at this
      simp only [List.length_map, List.length_range]
      omega


theorem wf_u8 {n : Int} (h : (Lit.int .u8 n).wf = true) : 0 ≤ n ∧ n < 256 := by
  simp [Lit.wf] at h
  have e1 : IntKind.u8.min = 0 := rfl
  have e2 : IntKind.u8.max = 255 := rfl
  omega
theorem wf_i64 {n : Int} (h : (Lit.int .i64 n).wf = true) : -9223372036854775808 ≤ n ∧ n ≤ 9223372036854775807 := by
  simp [Lit.wf] at h
  have e1 : IntKind.i64.min = -9223372036854775808 := rfl
  have e2 : IntKind.i64.max = 9223372036854775807 := rfl
  omega
theorem openBytes {H : Type} {enc : TypeId × Value → H} {W : World} {v : Value} {fuel : Nat} {y : DataW H × List MemPlace} (hy : DataW.trod enc Tryz.prog W 0 (fun _ => true) true fuel 23 [v] = some y) : ∃ l, ArgsU8 W v l ∧ U8s l ∧ ∀ B, (∀ n ∈ y.1.weights Tryz.prog 23, n ≤ B) → l.length ≤ B := by
  rcases open_ints Tryz.underlying23 Tryz.underlying5 (by kernel_rfl) hy with ⟨hcs, _⟩ | ⟨a, len, cap, zs, hcs, _, hl, hm, hz, hy', hcell, hwf⟩
  · cases hcs
    exact ⟨[], .inl ⟨rfl, rfl⟩, fun _ h => by simp at h, fun B _ => by simp⟩
  · cases hcs
    simp only [if_true] at hz
    have hl' : (zs.take len).length = len := by simp; omega
    refine ⟨zs.take len, .inr ⟨a, cap, by rw [hl'], fun h0 => ?_⟩, fun b hb => wf_u8 (hwf b (List.mem_of_mem_take hb)), fun B hB => ?_⟩
    · rw [hl'] at h0
      obtain ⟨b, o, s⟩ := a
      obtain rfl : s = none := by
        have := hcell 0 (by omega)
        simpa [Addr.add] using World.cell?_spot this
      refine ⟨by simp, .inr ⟨b, o, cap, by simp; omega, by simp; omega, hm, fun j u hj => ?_⟩⟩
      rw [List.getElem?_map] at hj
      have hjl : j < len := by
        by_cases h : j < len
        · exact h
        · rw [List.getElem?_eq_none (by simp; omega)] at hj; cases hj
      have := hcell j (by omega)
      rw [add_mk] at this
      rw [this]
      rw [List.getElem?_take, if_pos hjl, List.getElem?_eq_getElem (by omega)] at hj
      have e : zs.getD j 0 = zs[j]'(by omega) := by simp [List.getD, List.getElem?_eq_getElem (show j < zs.length by omega)]
      rw [← hj, e]
      rfl
    · have h5 : Tryz.prog.bytesOf 5 = 1 := by kernel_rfl
      have := hB (((lits (H := H) .u8 (zs.take len)).length + (lits (H := H) .u8 (zs.drop len)).length) * Tryz.prog.bytesOf 5) (by
        rw [hy']
        simp [DataW.weights, Tryz.underlying23])
      rw [h5, Nat.mul_one] at this
      simp [lits] at this ⊢
      omega
theorem c24 : Tryz.prog.cellsOf 23 = 1 := by kernel_rfl
theorem c25 : Tryz.prog.cellsOf 22 = 1 := by kernel_rfl
theorem c9 : Tryz.prog.cellsOf 25 = 9 := by kernel_rfl
set_option maxRecDepth 100000 in
theorem openEvent {H : Type} {enc : TypeId × Value → H} {W : World} {r : Reach} {b0 : Nat} {v : Value} {d : DataW H} {p : List MemPlace} (hv : Value.okWide Tryz.prog W r b0 25 v) (h : DataW.Trod enc Tryz.prog W 0 (fun _ => true) true 25 v d p) (hB : ∀ n ∈ d.weights Tryz.prog 25, n ≤ reachBytes) :
    ∃ cs, v = .agg cs.toArray ∧ ∃ x : RawIs W cs, x.pub.length ≤ reachBytes ∧ x.sec.length ≤ reachBytes := by
  obtain ⟨ca, rfl, hsz⟩ := okWide_struct Tryz.underlying25 hv
  obtain ⟨fuel, hf⟩ := h
  obtain ⟨xs, n', _, hx, _, hlx, hfs⟩ := DataW.trod_struct Tryz.underlying25 hf
  obtain ⟨cs⟩ := ca
  have h9 : cs.length = 9 := hsz.trans c9
  match cs, h9 with
  | [u0, u1, u2, u3, u4, u5, u6, u7, u8], _ =>
  match xs, (show xs.length = 9 from hlx) with
  | [y0, y1, y2, y3, y4, y5, y6, y7, y8], _ =>
  have f0 : DataW.trod enc Tryz.prog W 0 (fun _ => true) true n' 3 (([u0, u1, u2, u3, u4, u5, u6, u7, u8].drop 0).take (Tryz.prog.cellsOf 3)) = some y0 := hfs 0 _ rfl
  obtain ⟨z0, e0, _, _⟩ := DataW.trod_int Tryz.underlying3 f0
  have f1 : DataW.trod enc Tryz.prog W 0 (fun _ => true) true n' 3 (([u0, u1, u2, u3, u4, u5, u6, u7, u8].drop 1).take (Tryz.prog.cellsOf 3)) = some y1 := hfs 1 _ rfl
  obtain ⟨z1, e1, _, _⟩ := DataW.trod_int Tryz.underlying3 f1
  have f2 : DataW.trod enc Tryz.prog W 0 (fun _ => true) true n' 3 (([u0, u1, u2, u3, u4, u5, u6, u7, u8].drop 2).take (Tryz.prog.cellsOf 3)) = some y2 := hfs 2 _ rfl
  obtain ⟨z2, e2, _, _⟩ := DataW.trod_int Tryz.underlying3 f2
  have f6 : DataW.trod enc Tryz.prog W 0 (fun _ => true) true n' 3 (([u0, u1, u2, u3, u4, u5, u6, u7, u8].drop 6).take (Tryz.prog.cellsOf 3)) = some y6 := hfs 6 _ rfl
  obtain ⟨z6, e6, _, _⟩ := DataW.trod_int Tryz.underlying3 f6
  have f7 : DataW.trod enc Tryz.prog W 0 (fun _ => true) true n' 3 (([u0, u1, u2, u3, u4, u5, u6, u7, u8].drop 7).take (Tryz.prog.cellsOf 3)) = some y7 := hfs 7 _ rfl
  obtain ⟨z7, e7, _, _⟩ := DataW.trod_int Tryz.underlying3 f7
  have f8 : DataW.trod enc Tryz.prog W 0 (fun _ => true) true n' 3 (([u0, u1, u2, u3, u4, u5, u6, u7, u8].drop 8).take (Tryz.prog.cellsOf 3)) = some y8 := hfs 8 _ rfl
  obtain ⟨z8, e8, _, _⟩ := DataW.trod_int Tryz.underlying3 f8
  have f3 : DataW.trod enc Tryz.prog W 0 (fun _ => true) true n' 22 (([u0, u1, u2, u3, u4, u5, u6, u7, u8].drop 3).take (Tryz.prog.cellsOf 22)) = some y3 := hfs 3 _ rfl
  have f4 : DataW.trod enc Tryz.prog W 0 (fun _ => true) true n' 23 (([u0, u1, u2, u3, u4, u5, u6, u7, u8].drop 4).take (Tryz.prog.cellsOf 23)) = some y4 := hfs 4 _ rfl
  have f5 : DataW.trod enc Tryz.prog W 0 (fun _ => true) true n' 23 (([u0, u1, u2, u3, u4, u5, u6, u7, u8].drop 5).take (Tryz.prog.cellsOf 23)) = some y5 := hfs 5 _ rfl
  simp only [c3] at e0 e1 e2 e6 e7 e8
  rw [c25] at f3
  rw [c24] at f4 f5
  simp at e0 e1 e2 e6 e7 e8
  subst e0 e1 e2 e6 e7 e8
  have hd : d = .agg [y0.1, y1.1, y2.1, y3.1, y4.1, y5.1, y6.1, y7.1, y8.1] := congrArg Prod.fst hx
  obtain ⟨l, hl, wl⟩ := openRaws (show DataW.trod enc Tryz.prog W 0 (fun _ => true) true n' 22 [u3] = some y3 from f3)
  obtain ⟨pb, hp, up, wp⟩ := openBytes (show DataW.trod enc Tryz.prog W 0 (fun _ => true) true n' 23 [u4] = some y4 from f4)
  obtain ⟨sc, hs, us, ws⟩ := openBytes (show DataW.trod enc Tryz.prog W 0 (fun _ => true) true n' 23 [u5] = some y5 from f5)
  have mem : ∀ {j : Nat} {t : TypeId} {y : DataW H} {n : Nat}, [3, 3, 3, 22, 23, 23, 3, 3, 3][j]? = some t → [y0.1, y1.1, y2.1, y3.1, y4.1, y5.1, y6.1, y7.1, y8.1][j]? = some y → n ∈ y.weights Tryz.prog t → n ≤ reachBytes := fun h1 h2 h3 => hB _ (by
    rw [hd]
    simp only [DataW.weights, Tryz.underlying25]
    exact DataW.weights_mem_each h1 h2 _ h3)
  have hll := wl reachBytes fun n hn => mem (j := 3) rfl rfl hn
  refine ⟨_, rfl, ⟨z0, z1, z2, u3, u4, u5, z6, z7, z8, l, pb, sc, rfl, hl, ?_, hp, hs, up, us⟩, wp _ fun n hn => mem (j := 4) rfl rfl hn, ws _ fun n hn => mem (j := 5) rfl rfl hn⟩
  have e : reachBytes = 140737488351232 := rfl
  omega
end Go.Proofs.YthblbcjgdbaonaaGreatDoor.scriptParses
