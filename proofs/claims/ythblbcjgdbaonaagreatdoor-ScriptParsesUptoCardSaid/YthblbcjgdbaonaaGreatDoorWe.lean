/- The maker of applets: a statement. -/
import Derived.Test.YthblbcjgdbaonaaGreatDoorWd
import Derived.Laws.RangeString
import Derived.Lib.SlBytesConst
import Derived.Lib.ConvBytes
import Derived.Maps.AppendAt
import Derived.Shelf.Strings.Builder1
import Derived.Shelf.Small.Strs
import Derived.Shelf.Strings.Split
import Derived.Shelf.Unicode.ValidAny
import Derived.Shelf.Strconv.Itoa3
import Derived.Test.YthblbcjgdbaonaaGreatDoorProg
import Derived.Laws.RangeAny
namespace Go.Tc
theorem set_len {α : Type} {l : List α} {k : Nat} {x : α} : (l.set k x).length = l.length := List.length_set
end Go.Tc
namespace Go.Proofs.YthblbcjgdbaonaaGreatDoor
open Go.Vc Go.Tc
variable {w : World} {K : Value → World → Prop}
def Mc.hold (c : Mc) (b : Nat) : Mc := { c with H := fun k => c.H k ∨ k = b }
theorem Mk.stay {c : Mc} {wb w1 w' : World} {lo n d b : Nat} (h : Mk c wb w lo n d) (x : Ext w w1) (f : Fr (fun k => ¬ (c.hold b).H k) w1 w') : Fr (fun k => ¬ c.H k) wb w' :=
  (h.fr.trans (Fr.of_ext x) fun _ _ h => h).trans (f.mono (T := fun k => ¬ c.H k) fun _ hk hH => hk (.inl hH)) fun _ _ h => h
theorem Mk.hold {c : Mc} {wb w1 : World} {lo n d b : Nat} (h : Mk c wb w lo n d) (x : Ext w w1) (hb : b = w.heap.size) (hlt : b < w1.heap.size) : Mk (c.hold b) w1 w1 lo n d := by
  have hst : ∀ w', Fr (fun k => ¬ (c.hold b).H k) w1 w' → Fr (fun k => ¬ c.H k) wb w' := fun w' f => h.stay x f
  have s1 := h.fr.size
  have s2 := x.size
  have hgB := h.o.gB
  refine ⟨⟨⟨hgB.1, by show c.B ≤ _; omega⟩, fun k hk => ?_, fun w' f => h.o.nums w' (hst w' f), fun w' f => h.o.loc w' (hst w' f), fun w' f => h.o.bins w' (hst w' f), h.o.ln, h.o.ll⟩, Fr.refl _ _, ?_⟩
  · rcases hk with hk | hk
    · have := h.o.hH k hk
      exact ⟨by omega, this.2⟩
    · subst hk
      refine ⟨hlt, ?_⟩
      show k ≠ c.g
      omega
  · obtain ⟨cv, code, pos, a1, a2, a3, a4, a5, a6, a7⟩ := h.at_
    refine ⟨cv, code, pos, a1.ext x, x.own a2, a3, a4, a5, a6, fun k hk hH => ?_⟩
    rcases hH with hH | hH
    · exact a7 k hk hH
    · have := (a2.lt k hk).2; omega
theorem Mk.back {c : Mc} {wb w1 w' : World} {lo n d lo' n' d' b : Nat} (h : Mk c wb w lo n d) (x : Ext w w1) (h' : Mk (c.hold b) w1 w' lo' n' d') : Mk c wb w' lo' n' d' := by
  obtain ⟨o, fr, cv, code, pos, a1, a2, a3, a4, a5, a6, a7⟩ := h'
  exact ⟨h.o, h.stay x fr, cv, code, pos, a1, a2, a3, a4, a5, a6, fun k hk hH => a7 k hk (.inl hH)⟩
theorem insC_at {l : List Ins} {k : Nat} {x : Ins} (h : l[k]? = some x) : (insC l)[k * 3 + 1]? = some (i64 x.a) := by
  have := insC_row h
  have e : ((insC l).drop (k * 3))[1]? = some (i64 x.a) := by
    rw [← List.take_append_drop 3 ((insC l).drop (k * 3)), this]; rfl
  rwa [List.getElem?_drop] at e
theorem insC_setA : ∀ {l : List Ins} {k : Nat} {x : Ins} {z : Int}, l[k]? = some x → (insC l).set (k * 3 + 1) (i64 z) = insC (l.set k ⟨x.op, z, x.b⟩)
  | [], _, _, _, h => by simp at h
  | y :: l, 0, x, z, h => by simp at h; subst h; simp [insC]
  | y :: l, k + 1, x, z, h => by
    have := insC_setA (l := l) (k := k) (z := z) (by simpa using h)
    simp only [insC, List.flatMap_cons, List.set_cons_succ] at this ⊢
    rw [show (k + 1) * 3 + 1 = k * 3 + 1 + 3 by omega]
    simpa using this
structure Code (c : Mc) (wb w : World) (lo n d : Nat) (g' cap : Nat) (code : List Ins) (pos : Nat) : Prop where
  o : Mo c wb
  fr : Fr (fun k => ¬ c.H k) wb w
  blk : Blk w c.g [.slice (some ⟨g', 0, none⟩) code.length cap, c.nv, i64 pos, c.lv, i64 d] 141
  own : w.ownsRow c.B 97 3 (.slice (some ⟨g', 0, none⟩) code.length cap) code.length (insC code)
  lo : lo ≤ code.length
  hi : code.length ≤ n
  ps : pos ≤ n
  rg : ∀ x ∈ code, x.rg
  nH : ¬ c.H g'
theorem Mk.code {c : Mc} {wb : World} {lo n d : Nat} (h : Mk c wb w lo n d) (h1 : 1 ≤ lo) : ∃ g' cap code pos, Code c wb w lo n d g' cap code pos := by
  obtain ⟨o, fr, cv, code, pos, a1, a2, a3, a4, a5, a6, a7⟩ := h
  rcases a2.2 with ⟨_, e⟩ | ⟨g', cap, cur, rfl, _⟩
  · exact absurd e (by omega)
  · exact ⟨g', cap, code, pos, o, fr, a1, a2, a3, a4, a5, a6, a7 _ rfl⟩
theorem Code.toMk {c : Mc} {wb : World} {lo n d g' cap : Nat} {code : List Ins} {pos : Nat} (h : Code c wb w lo n d g' cap code pos) : Mk c wb w lo n d :=
  ⟨h.o, h.fr, _, code, pos, h.blk, h.own, h.lo, h.hi, h.ps, h.rg, fun k hk => by cases hk; exact h.nH⟩
theorem Code.ext {c : Mc} {wb w' : World} {lo n d g' cap : Nat} {code : List Ins} {pos : Nat} (h : Code c wb w lo n d g' cap code pos) (hx : Ext w w') : Code c wb w' lo n d g' cap code pos :=
  ⟨h.o, h.fr.trans (Fr.of_ext hx) fun _ _ h => h, h.blk.ext hx, hx.own h.own, h.lo, h.hi, h.ps, h.rg, h.nH⟩
theorem stIns {c : Mc} {wb : World} {lo n d g' cap : Nat} {code : List Ins} {pos k : Nat} {z : Int} {K' : World → Prop} (h : Code c wb w lo n d g' cap code pos) (hkl : k < code.length)
    (hk : ∀ w' code', code'.length = code.length → Code c wb w' lo n d g' cap code' pos → K' w') : U Tryz.prog (Instr.storeAt 3 (.pointer (some ⟨g', 0 + k * 3 + 1, none⟩)) (i64 z)) w fun _ w2 => K' w2 := by
  have hx : code[k]? = some code[k] := List.getElem?_eq_getElem hkl
  obtain ⟨s1, s2⟩ := h.own.stored (k * 3 + 1) (i64 z)
  have hc := h.own.cellAt (k * 3 + 1) (by omega)
  rw [insC_at hx] at hc
  rw [Nat.zero_add]
  have hgB := h.o.gB.1
  have hgg : c.B ≤ g' := (h.own.lt g' rfl).1
  refine U.ok (r_store inf3 rfl hc (h.own.frozenAt _)) (hk _ (code.set k ⟨code[k].op, z, code[k].b⟩) set_len ⟨h.o, h.fr.set h.nH, ?_, ?_, ?_, ?_, h.ps, fun y hy => ?_, h.nH⟩)
  · rw [set_len]; exact h.blk.other (by omega)
  · rw [set_len, ← insC_setA hx]; exact s1
  · rw [set_len]; exact h.lo
  · rw [set_len]; exact h.hi
  · rcases List.mem_or_eq_of_mem_set hy with hy | rfl
    · exact h.rg y hy
    · have := h.rg code[k] (List.getElem_mem hkl)
      exact this
set_option maxHeartbeats 4000000 in
theorem stmt49 {c : Mc} {wb : World} {lo n : Nat} {k a b e : Int} (h : Mk c wb w lo n 0) (hn : n + 4000 ≤ 700000) {tv mv iv : Value} {tl : List Int} {ms : List Mth} {is : List Imp} (ht : ∀ w', Fr (fun k => ¬ c.H k) wb w' → IntsAre w' tv tl) (htl : tl.length ≤ 1000000)
    (hm : ∀ w', Fr (fun k => ¬ c.H k) wb w' → MthsAre w' mv ms) (hi : ∀ w', Fr (fun k => ¬ c.H k) wb w' → ImpsAre w' iv is) (m0 : 0 < ms.length ∧ ms.length ≤ 1000) (m4 : ∀ m ∈ ms, m.params.length ≤ 4) (i0 : is.length ≤ 1000) (i4 : ∀ x ∈ is, x.params.length ≤ 4)
    (hk : ∀ w', Mk c wb w' 0 (n + 4000) 0 → K (.tuple #[]) w') :
    callD Tryz.prog 69 #[.pointer (some ⟨c.g, 0, none⟩), .agg #[i64 k, i64 a, i64 b, i64 e], tv, mv, iv] w K := by
  apply F69_wp
  unfold F69_den
  refine bxK fun w1 hB1 x1 => ?_
  have hh0 := h.hold x1 rfl hB1.lt
  have fin : ∀ {w' lo' n'}, Mk (c.hold w.heap.size) w1 w' lo' n' 0 → n' ≤ n + 4000 → K (.tuple #[]) w' := fun hh hle => hk _ ((h.back x1 hh).up hle)
  have bx1 : ∀ {w'}, Fr (fun k => ¬ (c.hold w.heap.size).H k) w1 w' → Boxed w' w.heap.size [i64 k, i64 a, i64 b, i64 e] := fun f => Blk.boxed (f.blk hB1 fun hn => hn (.inr rfl))
  have ht := fun w' f => ht w' (h.stay (b := w.heap.size) x1 f)
  have hm := fun w' f => hm w' (h.stay (b := w.heap.size) x1 f)
  have hi := fun w' f => hi w' (h.stay (b := w.heap.size) x1 f)
  have hll := hh0.o.ll
  have hgc : (c.hold w.heap.size).g = c.g := rfl
  rw [← hgc]
  clear hB1
  generalize c.hold w.heap.size = c' at *
  generalize w.heap.size = rb at *
  clear hgc h hk
  refine ldB (bx1 (Fr.refl _ _)) fa_143_0 l1_3 rfl ?_
  refine pick10 (by decide) (by decide) fun q hq0 hq1 => ?_
  have hc : q = 0 ∨ q = 1 ∨ q = 2 ∨ q = 3 ∨ q = 4 ∨ q = 5 ∨ q = 6 ∨ q = 7 ∨ q = 8 ∨ q = 9 ∨ q = 10 ∨ q = 11 ∨ q = 12 ∨ q = 13 ∨ q = 14 ∨ q = 15 := by omega
  rcases hc with rfl | rfl | rfl | rfl | rfl | rfl | rfl | rfl | rfl | rfl | rfl | rfl | rfl | rfl | rfl | rfl
  · simp only [evL, Int.reduceEq, Int.reduceNeg, decide_true, decide_false]
    intros
    have hloc := hh0.locAt
    obtain ⟨cv, code, pos, a1, _⟩ := hh0.at_
    refine ⟨.inl ⟨_, rfl⟩, ldB (Blk.boxed a1) fa_141_3 l1_57 rfl (lnx xa_57 hloc (V_eqlI.2 (ifD_dec (fun hz => fin hh0 (by omega)) fun hz => ?_)))⟩
    have D1 : Ext w1 w1.drew := (Ext.refl _).drew
    have hh1 := hh0.ext D1
    have hlocd := hh1.locAt
    have hbx : ∀ w', Ext w1.drew w' → Boxed w' c'.g [cv, c'.nv, i64 pos, c'.lv, i64 (0 : Nat)] := fun w' hx => Blk.boxed (a1.ext (D1.trans hx))
    refine drawD.mk' (fun w' => Ext w1.drew w') (Ext.refl _) ?_
    refine yfB (fun w' hx => (bx1 hh1.fr).ext hx) fa_143_1 l1_3 rfl ?_
    refine ⟨.inl ⟨_, rfl⟩, yfB hbx fa_141_3 l1_57 rfl (yLen xa_57 hlocd ?_)⟩
    refine pick10 (by omega) (by omega) fun r hr0 hr1 => ⟨Ext.refl _, ?_⟩
    refine ⟨.inl ⟨_, rfl⟩, ldB (hbx _ (Ext.refl _)) fa_141_3 l1_57 rfl ?_⟩
    obtain ⟨r, rfl⟩ : ∃ r2 : Nat, r = r2 := ⟨r.toNat, by omega⟩
    refine ldx xa_57 l1_3 hlocd (by omega) (by omega) (getI (getN (by omega))) ?_
    refine any50 hh1 (by omega) fun w1 hh2 => ?_
    refine put51 hh2 (by omega) fun w1 hh3 => ?_
    exact fin hh3 (by omega)
  · simp only [evL, Int.reduceEq, Int.reduceNeg, decide_true, decide_false]
    intros
    have hloc := hh0.locAt
    obtain ⟨cv, code, pos, a1, _⟩ := hh0.at_
    refine ⟨.inl ⟨_, rfl⟩, ldB (Blk.boxed a1) fa_141_3 l1_57 rfl (lnx xa_57 hloc (V_eqlI.2 (ifD_dec (fun hz => fin hh0 (by omega)) fun hz => ?_)))⟩
    have D1 : Ext w1 w1.drew := (Ext.refl _).drew
    have hh1 := hh0.ext D1
    have hlocd := hh1.locAt
    have hbx : ∀ w', Ext w1.drew w' → Boxed w' c'.g [cv, c'.nv, i64 pos, c'.lv, i64 (0 : Nat)] := fun w' hx => Blk.boxed (a1.ext (D1.trans hx))
    refine drawD.mk' (fun w' => Ext w1.drew w') (Ext.refl _) ?_
    refine yfB (fun w' hx => (bx1 hh1.fr).ext hx) fa_143_1 l1_3 rfl ?_
    refine ⟨.inl ⟨_, rfl⟩, yfB hbx fa_141_3 l1_57 rfl (yLen xa_57 hlocd ?_)⟩
    refine pick10 (by omega) (by omega) fun r hr0 hr1 => ⟨Ext.refl _, ?_⟩
    refine ⟨.inl ⟨_, rfl⟩, ldB (hbx _ (Ext.refl _)) fa_141_3 l1_57 rfl ?_⟩
    obtain ⟨r, rfl⟩ : ∃ r2 : Nat, r = r2 := ⟨r.toNat, by omega⟩
    refine ldx xa_57 l1_3 hlocd (by omega) (by omega) (getI (getN (by omega))) ?_
    refine any50 hh1 (by omega) fun w1 hh2 => ?_
    refine put51 hh2 (by omega) fun w1 hh3 => ?_
    exact fin hh3 (by omega)
  · simp only [evL, Int.reduceEq, Int.reduceNeg, decide_true, decide_false]
    intros
    have hloc := hh0.locAt
    obtain ⟨cv, code, pos, a1, _⟩ := hh0.at_
    refine ⟨.inl ⟨_, rfl⟩, ldB (Blk.boxed a1) fa_141_3 l1_57 rfl (lnx xa_57 hloc (V_eqlI.2 (ifD_dec (fun hz => fin hh0 (by omega)) fun hz => ?_)))⟩
    have D1 : Ext w1 w1.drew := (Ext.refl _).drew
    have hh1 := hh0.ext D1
    have hlocd := hh1.locAt
    have hbx : ∀ w', Ext w1.drew w' → Boxed w' c'.g [cv, c'.nv, i64 pos, c'.lv, i64 (0 : Nat)] := fun w' hx => Blk.boxed (a1.ext (D1.trans hx))
    refine drawD.mk' (fun w' => Ext w1.drew w') (Ext.refl _) ?_
    refine yfB (fun w' hx => (bx1 hh1.fr).ext hx) fa_143_1 l1_3 rfl ?_
    refine ⟨.inl ⟨_, rfl⟩, yfB hbx fa_141_3 l1_57 rfl (yLen xa_57 hlocd ?_)⟩
    refine pick10 (by omega) (by omega) fun r hr0 hr1 => ⟨Ext.refl _, ?_⟩
    refine ⟨.inl ⟨_, rfl⟩, ldB (hbx _ (Ext.refl _)) fa_141_3 l1_57 rfl ?_⟩
    obtain ⟨r, rfl⟩ : ∃ r2 : Nat, r = r2 := ⟨r.toNat, by omega⟩
    refine ldx xa_57 l1_3 hlocd (by omega) (by omega) (getI (getN (by omega))) ?_
    refine any50 hh1 (by omega) fun w1 hh2 => ?_
    refine put51 hh2 (by omega) fun w1 hh3 => ?_
    exact fin hh3 (by omega)
  · simp only [evL, Int.reduceEq, Int.reduceNeg, decide_true, decide_false]
    intros
    refine ldB (bx1 hh0.fr) fa_143_1 l1_3 rfl ?_
    refine pick10 (by decide) (by decide) fun q hq0 hq1 => ?_
    refine V_add.2 ?_
    refine arr83 hh0 (by omega) fun w1 hh1 => ?_
    refine index84 both0.1 (by omega) hh1 (by omega) fun w1 hh2 => ?_
    refine V_sub.2 ?_
    refine any50 hh2 (by omega) fun w1 hh3 => ?_
    refine put51 hh3 (by omega) fun w1 hh4 => ?_
    exact fin hh4 (by omega)
  · simp only [evL, Int.reduceEq, Int.reduceNeg, decide_true, decide_false]
    intros
    refine ldB (bx1 hh0.fr) fa_143_1 l1_3 rfl ?_
    refine pick10 (by decide) (by decide) fun q hq0 hq1 => ?_
    refine V_add.2 ?_
    refine arr83 hh0 (by omega) fun w1 hh1 => ?_
    refine index84 both0.1 (by omega) hh1 (by omega) fun w1 hh2 => ?_
    refine V_sub.2 ?_
    refine any50 hh2 (by omega) fun w1 hh3 => ?_
    refine put51 hh3 (by omega) fun w1 hh4 => ?_
    exact fin hh4 (by omega)
  · simp only [evL, Int.reduceEq, Int.reduceNeg, decide_true, decide_false]
    intros
    refine ldB (bx1 hh0.fr) fa_143_1 l1_3 rfl ?_
    refine pick10 (by decide) (by decide) fun q hq0 hq1 => ?_
    refine V_add.2 ?_
    refine any50 hh0 (by omega) fun w1 hh1 => ?_
    refine put51 hh1 (by omega) fun w1 hh2 => ?_
    exact fin hh2 (by omega)
  · simp only [evL, Int.reduceEq, Int.reduceNeg, decide_true, decide_false]
    intros
    refine ldB (bx1 hh0.fr) fa_143_1 l1_3 rfl ?_
    refine pick10 (by decide) (by decide) fun q hq0 hq1 => ?_
    refine V_add.2 ?_
    refine ldB (bx1 hh0.fr) fa_143_2 l1_3 rfl ?_
    refine pick10 (by decide) (by decide) fun q hq0 hq1 => ?_
    refine V_add.2 ?_
    refine ⟨fun v w' => (∃ z, v = i64 z) ∧ w' = w1, ?_, ?_⟩
    · exact V_eqlI.2 (ifD_dec (fun _ => ⟨⟨_, rfl⟩, rfl⟩) fun _ => ⟨⟨_, rfl⟩, rfl⟩)
    rintro _ _ ⟨⟨z, rfl⟩, rfl⟩ _
    refine arr83 hh0 (by omega) fun w1 hh1 => ?_
    refine index84 both0.1 (by omega) hh1 (by omega) fun w1 hh2 => ?_
    refine arr83 hh2 (by omega) fun w1 hh3 => ?_
    refine index84 both0.1 (by omega) hh3 (by omega) fun w1 hh4 => ?_
    refine index84 both0.1 (by omega) hh4 (by omega) fun w1 hh5 => ?_
    refine put51 hh5 (by omega) fun w1 hh6 => ?_
    exact fin hh6 (by omega)
  · simp only [evL, Int.reduceEq, Int.reduceNeg, decide_true, decide_false]
    intros
    refine ldB (bx1 hh0.fr) fa_143_1 l1_3 rfl ?_
    refine pick10 (by decide) (by decide) fun q hq0 hq1 => ?_
    refine V_add.2 ?_
    refine V_add.2 ?_
    refine V_sub.2 ?_
    refine arr83 hh0 (by omega) fun w1 hh1 => ?_
    refine index84 both0.1 (by omega) hh1 (by omega) fun w1 hh2 => ?_
    refine index84 both0.1 (by omega) hh2 (by omega) fun w1 hh3 => ?_
    refine put51 hh3 (by omega) fun w1 hh4 => ?_
    exact fin hh4 (by omega)
  · simp only [evL, Int.reduceEq, Int.reduceNeg, decide_true, decide_false]
    intros
    refine ldB (bx1 hh0.fr) fa_143_1 l1_3 rfl ?_
    refine pick10 (by decide) (by decide) fun q hq0 hq1 => ?_
    refine V_add.2 ?_
    refine V_add.2 ?_
    refine V_sub.2 ?_
    refine arr83 hh0 (by omega) fun w1 hh1 => ?_
    refine index84 both0.1 (by omega) hh1 (by omega) fun w1 hh2 => ?_
    refine index84 both0.1 (by omega) hh2 (by omega) fun w1 hh3 => ?_
    refine put51 hh3 (by omega) fun w1 hh4 => ?_
    exact fin hh4 (by omega)
  · simp only [evL, Int.reduceEq, Int.reduceNeg, decide_true, decide_false]
    intros
    refine both0.1 hh0 (by omega) fun w1 hh1 => ?_
    refine put51 hh1 (by omega) fun w1 hh2 => ?_
    refine ldB (bx1 hh2.fr) fa_143_1 l1_3 rfl ?_
    refine pick10 (by decide) (by decide) fun r hr0 hr1 => ?_
    by_cases hr : r = 0
    case neg =>
      simp only [hr, evL, reduceIte, Bool.false_eq_true, decide_false]
      exact fin hh2 (by omega)
    have htv := ht _ hh2.fr
    subst hr
    simp only [evL, reduceIte, decide_true]
    refine lnx xa_57 htv ?_
    by_cases hgt : (tl.length : Int) > 0
    case neg =>
      simp only [hgt, evL, decide_false]
      exact fin hh2 (by omega)
    simp only [hgt, evL, decide_true]
    obtain ⟨g', cap, code, pos, hcd⟩ := hh2.code (Nat.le_refl _)
    have D1 : Ext w1 w1.drew := (Ext.refl _).drew
    have hcd := hcd.ext D1
    have hlo := hcd.lo
    have hhi := hcd.hi
    have htv := htv.ext D1
    have hbr := (bx1 hh2.fr).ext D1
    refine drawD.mk' (fun w' => Ext w1.drew w') (Ext.refl _) ?_
    refine ⟨.inl ⟨_, rfl⟩, yfB (fun w' hx => Blk.boxed (hcd.blk.ext hx)) fa_141_0 l1_92 rfl ?_⟩
    refine ⟨.inl ⟨_, rfl⟩, yfB (fun w' hx => Blk.boxed (hcd.blk.ext hx)) fa_141_0 l1_92 rfl (yLen xa_92 (SliceIs.of_own hcd.own) ?_)⟩
    refine yieldS.ok (fun w' _ => r_sub) ?_
    rw [wrap_id (by omega) (by omega)]
    refine yfB (fun w' hx => hbr.ext hx) fa_143_2 l1_3 rfl (yLen xa_57 htv ?_)
    refine pick10 (by omega) (by omega) fun r hr0 hr1 => ⟨Ext.refl _, ?_⟩
    obtain ⟨r, rfl⟩ : ∃ r2 : Nat, r = r2 := ⟨r.toNat, by omega⟩
    refine ySl xa_57 l1_3 htv (fun _ h => h) (by omega) (by omega) (getI (getN (by omega))) ?_
    refine yieldS.ok (fun w' _ => r_index Tryz.underlying92 inf97 (by omega) (by omega)) ?_
    refine yieldS.ok (fun w' _ => FA.ex fa_97_1 w' _ _) ?_
    rw [show ((code.length : Int) - 1).toNat = code.length - 1 by omega]
    exact stIns hcd (by omega) fun w3 code' _ hc' => fin hc'.toMk (by omega)
  · simp only [evL, Int.reduceEq, Int.reduceNeg, decide_true, decide_false]
    intros
    refine both0.1 hh0 (by omega) fun w1 hh1 => ?_
    refine put51 hh1 (by omega) fun w1 hh2 => ?_
    refine ldB (bx1 hh2.fr) fa_143_1 l1_3 rfl ?_
    refine pick10 (by decide) (by decide) fun r hr0 hr1 => ?_
    by_cases hr : r = 0
    case neg =>
      simp only [hr, evL, reduceIte, Bool.false_eq_true, decide_false]
      exact fin hh2 (by omega)
    have htv := ht _ hh2.fr
    subst hr
    simp only [evL, reduceIte, decide_true]
    refine lnx xa_57 htv ?_
    by_cases hgt : (tl.length : Int) > 0
    case neg =>
      simp only [hgt, evL, decide_false]
      exact fin hh2 (by omega)
    simp only [hgt, evL, decide_true]
    obtain ⟨g', cap, code, pos, hcd⟩ := hh2.code (Nat.le_refl _)
    have D1 : Ext w1 w1.drew := (Ext.refl _).drew
    have hcd := hcd.ext D1
    have hlo := hcd.lo
    have hhi := hcd.hi
    have htv := htv.ext D1
    have hbr := (bx1 hh2.fr).ext D1
    refine drawD.mk' (fun w' => Ext w1.drew w') (Ext.refl _) ?_
    refine ⟨.inl ⟨_, rfl⟩, yfB (fun w' hx => Blk.boxed (hcd.blk.ext hx)) fa_141_0 l1_92 rfl ?_⟩
    refine ⟨.inl ⟨_, rfl⟩, yfB (fun w' hx => Blk.boxed (hcd.blk.ext hx)) fa_141_0 l1_92 rfl (yLen xa_92 (SliceIs.of_own hcd.own) ?_)⟩
    refine yieldS.ok (fun w' _ => r_sub) ?_
    rw [wrap_id (by omega) (by omega)]
    refine yfB (fun w' hx => hbr.ext hx) fa_143_2 l1_3 rfl (yLen xa_57 htv ?_)
    refine pick10 (by omega) (by omega) fun r hr0 hr1 => ⟨Ext.refl _, ?_⟩
    obtain ⟨r, rfl⟩ : ∃ r2 : Nat, r = r2 := ⟨r.toNat, by omega⟩
    refine ySl xa_57 l1_3 htv (fun _ h => h) (by omega) (by omega) (getI (getN (by omega))) ?_
    refine yieldS.ok (fun w' _ => r_index Tryz.underlying92 inf97 (by omega) (by omega)) ?_
    refine yieldS.ok (fun w' _ => FA.ex fa_97_1 w' _ _) ?_
    rw [show ((code.length : Int) - 1).toNat = code.length - 1 by omega]
    exact stIns hcd (by omega) fun w3 code' _ hc' => fin hc'.toMk (by omega)
  · simp only [evL, Int.reduceEq, Int.reduceNeg, decide_true, decide_false]
    intros
    refine ldB (bx1 hh0.fr) fa_143_1 l1_3 rfl ?_
    have hms := hm _ hh0.fr
    refine lnS xa_59 hms ?_
    refine pick10 (by omega) (by omega) fun r hr0 hr1 => ?_
    refine ⟨fun v w' => (∃ z : Nat, v = i64 z ∧ z < ms.length) ∧ w' = w1, ?_, ?_⟩
    · have hr : (∃ z : Nat, i64 r = i64 z ∧ z < ms.length) := ⟨r.toNat, by rw [Int.toNat_of_nonneg hr0], by omega⟩
      refine V_eqlI.2 ?_
      by_cases hz : r = 0
      case neg =>
        simp only [hz, evL, reduceIte, Bool.false_eq_true, decide_false]
        exact ⟨hr, by trivial⟩
      simp only [hz, evL, reduceIte, decide_true]
      refine ldB (bx1 hh0.fr) fa_143_2 l1_3 rfl ?_
      refine rm (by decide) fun e _ _ _ => ?_
      refine V_gtr.2 ?_
      by_cases he : e > 0
      case neg =>
        simp only [he, evL, decide_false]
        rw [hz] at hr; exact ⟨hr, by trivial⟩
      simp only [he, evL, decide_true]
      refine lnS xa_59 hms (V_sub.2 ?_)
      rw [wrap_id (by omega) (by omega)]
      exact ⟨⟨ms.length - 1, by congr 1; omega, by omega⟩, rfl⟩
    rintro _ w9 ⟨⟨t, rfl, htl2⟩, hw9⟩ _
    have hw9 := hw9.symm
    subst hw9
    obtain ⟨m, hmt⟩ := ex_get htl2
    have hm4 := m4 m (List.mem_of_getElem? hmt)
    refine ⟨fun v w' => ∃ j : Nat, v = i64 j ∧ j ≤ m.params.length ∧ Mk c' w1 w' 0 (n + 800 * j) 0, fun v _ => m.params.length - (RowKit.intOf v).toNat, ⟨0, rfl, Nat.zero_le _, hh0.up (by omega)⟩, ?_⟩
    rintro _ w2 ⟨j, rfl, hj, h2⟩ _
    refine ldSF xa_59 fa_94_0 l1_57 (hm _ h2.fr) hmt fun row hrow => ?_
    obtain ⟨pv, lv, cv, rfl, hp, _, _⟩ := hrow
    refine ⟨pv, rfl, by decide, lnx xa_57 hp (V_lss.2 (ifD_dec (fun hlt => ?_) fun hge => ?_))⟩
    · refine ldSF xa_59 fa_94_0 l1_57 (hm _ h2.fr) hmt fun row hrow => ?_
      obtain ⟨pv, lv, cv, rfl, hp, _, _⟩ := hrow
      refine ⟨pv, rfl, by decide, ?_⟩
      refine ldx xa_57 l1_3 hp (by omega) (by omega) (getI (getN (by omega))) ?_
      refine any50 h2 (by omega) fun w3 h3 => V_add.2 ?_
      rw [wrap_id (by omega) (by omega), i64_succ]
      exact ⟨⟨j + 1, rfl, by omega, h3.up (by omega)⟩, by simp only [intOf_i64]; omega⟩
    · refine put51 h2 (by omega) fun w3 h3 => ?_
      refine ldSF xa_59 fa_94_1 l1_3 (hm _ h3.fr) hmt fun row hrow => ?_
      obtain ⟨pv, lv, cv, rfl, hp, _, _⟩ := hrow
      refine ⟨_, rfl, by decide, V_neqI.2 (ifD_dec (fun hr => ?_) fun hr => ?_)⟩
      · exact put51 h3 (by omega) fun w4 h4 => fin h4 (by omega)
      · exact fin h3 (by omega)
  · simp only [evL, Int.reduceEq, Int.reduceNeg, decide_true, decide_false]
    intros
    refine ldB (bx1 hh0.fr) fa_143_1 l1_3 rfl ?_
    have hms := hm _ hh0.fr
    refine lnS xa_59 hms ?_
    refine pick10 (by omega) (by omega) fun r hr0 hr1 => ?_
    refine ⟨fun v w' => (∃ z : Nat, v = i64 z ∧ z < ms.length) ∧ w' = w1, ?_, ?_⟩
    · have hr : (∃ z : Nat, i64 r = i64 z ∧ z < ms.length) := ⟨r.toNat, by rw [Int.toNat_of_nonneg hr0], by omega⟩
      refine V_eqlI.2 ?_
      by_cases hz : r = 0
      case neg =>
        simp only [hz, evL, reduceIte, Bool.false_eq_true, decide_false]
        exact ⟨hr, by trivial⟩
      simp only [hz, evL, reduceIte, decide_true]
      refine ldB (bx1 hh0.fr) fa_143_2 l1_3 rfl ?_
      refine rm (by decide) fun e _ _ _ => ?_
      refine V_gtr.2 ?_
      by_cases he : e > 0
      case neg =>
        simp only [he, evL, decide_false]
        rw [hz] at hr; exact ⟨hr, by trivial⟩
      simp only [he, evL, decide_true]
      refine lnS xa_59 hms (V_sub.2 ?_)
      rw [wrap_id (by omega) (by omega)]
      exact ⟨⟨ms.length - 1, by congr 1; omega, by omega⟩, rfl⟩
    rintro _ w9 ⟨⟨t, rfl, htl2⟩, hw9⟩ _
    have hw9 := hw9.symm
    subst hw9
    obtain ⟨m, hmt⟩ := ex_get htl2
    have hm4 := m4 m (List.mem_of_getElem? hmt)
    refine ⟨fun v w' => ∃ j : Nat, v = i64 j ∧ j ≤ m.params.length ∧ Mk c' w1 w' 0 (n + 800 * j) 0, fun v _ => m.params.length - (RowKit.intOf v).toNat, ⟨0, rfl, Nat.zero_le _, hh0.up (by omega)⟩, ?_⟩
    rintro _ w2 ⟨j, rfl, hj, h2⟩ _
    refine ldSF xa_59 fa_94_0 l1_57 (hm _ h2.fr) hmt fun row hrow => ?_
    obtain ⟨pv, lv, cv, rfl, hp, _, _⟩ := hrow
    refine ⟨pv, rfl, by decide, lnx xa_57 hp (V_lss.2 (ifD_dec (fun hlt => ?_) fun hge => ?_))⟩
    · refine ldSF xa_59 fa_94_0 l1_57 (hm _ h2.fr) hmt fun row hrow => ?_
      obtain ⟨pv, lv, cv, rfl, hp, _, _⟩ := hrow
      refine ⟨pv, rfl, by decide, ?_⟩
      refine ldx xa_57 l1_3 hp (by omega) (by omega) (getI (getN (by omega))) ?_
      refine any50 h2 (by omega) fun w3 h3 => V_add.2 ?_
      rw [wrap_id (by omega) (by omega), i64_succ]
      exact ⟨⟨j + 1, rfl, by omega, h3.up (by omega)⟩, by simp only [intOf_i64]; omega⟩
    · refine put51 h2 (by omega) fun w3 h3 => ?_
      refine ldSF xa_59 fa_94_1 l1_3 (hm _ h3.fr) hmt fun row hrow => ?_
      obtain ⟨pv, lv, cv, rfl, hp, _, _⟩ := hrow
      refine ⟨_, rfl, by decide, V_neqI.2 (ifD_dec (fun hr => ?_) fun hr => ?_)⟩
      · exact put51 h3 (by omega) fun w4 h4 => fin h4 (by omega)
      · exact fin h3 (by omega)
  · simp only [evL, Int.reduceEq, Int.reduceNeg, decide_true, decide_false]
    intros
    have his := hi _ hh0.fr
    refine lnS xa_58 his (V_eqlI.2 (ifD_dec (fun hz => fin hh0 (by omega)) fun hz => ?_))
    refine ldB (bx1 hh0.fr) fa_143_1 l1_3 rfl ?_
    refine lnS xa_58 his ?_
    refine pick10 (by omega) (by omega) fun r hr0 hr1 => ?_
    obtain ⟨t, rfl⟩ : ∃ r2 : Nat, r = r2 := ⟨r.toNat, by omega⟩
    obtain ⟨m, hmt⟩ := ex_get (l := is) (j := t) (by omega)
    have hm4 := i4 m (List.mem_of_getElem? hmt)
    refine ⟨fun v w' => ∃ j : Nat, v = i64 j ∧ j ≤ m.params.length ∧ Mk c' w1 w' 0 (n + 800 * j) 0, fun v _ => m.params.length - (RowKit.intOf v).toNat, ⟨0, rfl, Nat.zero_le _, hh0.up (by omega)⟩, ?_⟩
    rintro _ w2 ⟨j, rfl, hj, h2⟩ _
    refine ldSF xa_58 fa_91_2 l1_57 (hi _ h2.fr) hmt fun row hrow => ?_
    obtain ⟨pv, rfl, hp⟩ := hrow
    refine ⟨pv, rfl, by decide, lnx xa_57 hp (V_lss.2 (ifD_dec (fun hlt => ?_) fun hge => ?_))⟩
    · refine ldSF xa_58 fa_91_2 l1_57 (hi _ h2.fr) hmt fun row hrow => ?_
      obtain ⟨pv, rfl, hp⟩ := hrow
      refine ⟨pv, rfl, by decide, ?_⟩
      refine ldx xa_57 l1_3 hp (by omega) (by omega) (getI (getN (by omega))) ?_
      refine any50 h2 (by omega) fun w3 h3 => V_add.2 ?_
      rw [wrap_id (by omega) (by omega), i64_succ]
      exact ⟨⟨j + 1, rfl, by omega, h3.up (by omega)⟩, by simp only [intOf_i64]; omega⟩
    · refine put51 h2 (by omega) fun w3 h3 => ?_
      refine ldSF xa_58 fa_91_3 l1_3 (hi _ h3.fr) hmt fun row hrow => ?_
      obtain ⟨pv, rfl, hp⟩ := hrow
      refine ⟨_, rfl, by decide, V_neqI.2 (ifD_dec (fun hr => ?_) fun hr => ?_)⟩
      · exact put51 h3 (by omega) fun w4 h4 => fin h4 (by omega)
      · exact fin h3 (by omega)
  · simp only [evL, Int.reduceEq, Int.reduceNeg, decide_true, decide_false]
    intros
    refine both0.1 hh0 (by omega) fun w1 hh1 => ?_
    refine put51 hh1 (by omega) fun w1 hh2 => ?_
    refine put51 hh2 (by omega) fun w1 hh3 => ?_
    refine put51 hh3 (by omega) fun w1 hh4 => ?_
    exact fin hh4 (by omega)
  · simp only [evL, Int.reduceEq, Int.reduceNeg, decide_false]
    intros
    refine ldB (bx1 hh0.fr) fa_143_1 l1_3 rfl ?_
    refine rm (by decide) fun e _ _ _ => ?_
    refine put51 hh0 (by omega) fun w1 hh1 => ?_
    refine put51 hh1 (by omega) fun w1 hh2 => ?_
    exact fin hh2 (by omega)
end Go.Proofs.YthblbcjgdbaonaaGreatDoor
namespace Go.Vc
end Go.Vc
namespace Go.Proofs.YthblbcjgdbaonaaGreatDoor
open Go.Vc Go.Tc
variable {w : World} {K : Value → World → Prop}
structure Rw where
  k : Int
  a : Int
  b : Int
  e : Int
def RwIs (_ : World) (row : List Value) (x : Rw) : Prop := row = [i64 x.k, i64 x.a, i64 x.b, i64 x.e]
def RwsAre (w : World) (v : Value) (l : List Rw) : Prop := (∃ a c, v = .slice a l.length c) ∧ (0 < l.length → StrsAre RwIs 4 w v l)
theorem RwsAre.ext {w' : World} {v : Value} {l : List Rw} (h : RwsAre w v l) (hx : Ext w w') : RwsAre w' v l := ⟨h.1, fun h0 => StrsAre.ext (fun h _ => h) (h.2 h0) hx⟩
theorem RwsAre.of {v : Value} {l : List Rw} (h : StrsAre RwIs 4 w v l) : RwsAre w v l := by
  obtain ⟨cs, h1⟩ := h.sl
  exact ⟨h1.shape, fun _ => h⟩
theorem RwsAre.str {v : Value} {l : List Rw} {i : Nat} {x : Rw} (h : RwsAre w v l) (hi : l[i]? = some x) : StrsAre RwIs 4 w v l := h.2 (by have := (List.getElem?_eq_some_iff.1 hi).1; omega)
theorem lnR {t ty : TypeId} {v : Value} {l : List Rw} (h : XA Tryz.prog t 4) (hs : RwsAre w v l) (hk : K (i64 l.length) w) : V Tryz.prog (Builtin.len_ #[t] ty #[v]) w K := by
  obtain ⟨e, z, b, ht, hi⟩ := h
  obtain ⟨⟨a, c, rfl⟩, _⟩ := hs
  exact V.ok (r_len ht) hk
theorem yLenR {S : World → Prop} {L : Value → Prop} {t ty : TypeId} {v : Value} {l : List Rw} (h : XA Tryz.prog t 4) (hs : RwsAre w v l) (hk : L (i64 l.length)) : yieldS Tryz.prog S (Builtin.len_ #[t] ty #[v]) L := by
  obtain ⟨e, z, b, ht, hi⟩ := h
  obtain ⟨⟨a, c, rfl⟩, _⟩ := hs
  exact yieldS.ok (fun w' _ => r_len ht) hk
theorem ySS {S : World → Prop} {L : Value → Prop} {α : Type} {T : World → List Value → α → Prop} {sz : Nat} {t x : TypeId} {v : Value} {l : List α} {i : Nat} {e : α} (h : XA Tryz.prog t sz) (ht : ∃ d z by_, Program.underlying Tryz.prog x = some d ∧ aggB d = true ∧ Inf Tryz.prog x z sz by_) (hs : StrsAre T sz w v l) (hx : ∀ w', S w' → Ext w w') (hi : l[i]? = some e) (hT : ∀ w row e, T w row e → row.length = sz)
    (hk : ∀ row, T w row e → L (.agg row.toArray)) : yieldS Tryz.prog S (Instr.indexAt t v (i64 i)) fun p => yieldS Tryz.prog S (Instr.loadAt x p) L := by
  obtain ⟨cs, h1, h2⟩ := hs
  obtain ⟨row, h3, h4⟩ := h2 i e hi
  have hlt : i < l.length := (List.getElem?_eq_some_iff.1 hi).1
  obtain ⟨e', z, b', hte, hinf⟩ := h
  obtain ⟨d, z', by_, g2, g3, g4⟩ := ht
  obtain ⟨b, off, cap, rfl, hcell⟩ := h1.there (by omega)
  refine yieldS.ok (fun w' _ => r_index hte hinf (by omega) (by omega)) (yieldS.ok (fun w' hw => r_loadAgg (cs := row) g2 g3 g4 (hT _ _ _ h4) fun j hj => ?_) (hk row h4))
  obtain ⟨u, hu⟩ : ∃ u, row[j]? = some u := ⟨_, List.getElem?_eq_getElem hj⟩
  rw [hu, Nat.add_assoc]
  refine (hx w' hw).cell (hcell _ u ?_)
  rw [← h3, List.getElem?_take, List.getElem?_drop] at hu
  split at hu
  · simpa using hu
  · cases hu
theorem r_min {t : TypeId} {ts : Array TypeId} {a b : Int} : (Builtin.min_ ts t #[i64 a, i64 b]).run Tryz.prog w = .ok (i64 (min a b)) w := by
  rcases r_min2 (P := Tryz.prog) (w := w) (t := t) (ts := ts) (a := a) (b := b) with h | h
  · rw [h]
    have : (if a < b then a else b) = min a b := by split <;> omega
    rw [this]
  · rw [h]
    have : (if b < a then b else a) = min a b := by split <;> omega
    rw [this]
def Cd (c : Mc) (wb w : World) (L N d : Nat) : Prop := Mo c wb ∧ Fr (fun k => ¬ c.H k) wb w ∧ ∃ (cv : Value) (code : List Ins) (pos : Nat), Blk w c.g [cv, c.nv, i64 pos, c.lv, i64 d] 141 ∧ w.ownsRow c.B 97 3 cv code.length (insC code) ∧ code.length = L ∧ pos ≤ N ∧ (∀ x ∈ code, x.rg) ∧ ∀ k, cv.ownBlock = some k → ¬ c.H k
theorem Cd.mk {c : Mc} {wb : World} {L N d n : Nat} (h : Cd c wb w L N d) (h1 : L ≤ n) (h2 : N ≤ n) : Mk c wb w 0 n d := by
  obtain ⟨o, fr, cv, code, pos, a1, a2, a3, a4, a5, a6⟩ := h
  exact ⟨o, fr, cv, code, pos, a1, a2, Nat.zero_le _, by omega, by omega, a5, a6⟩
theorem Cd.code {c : Mc} {wb : World} {L N d : Nat} (h : Cd c wb w L N d) (h1 : 0 < L) : ∃ g' cap code pos, code.length = L ∧ pos ≤ N ∧ Code c wb w L (L + N) d g' cap code pos := by
  obtain ⟨o, fr, cv, code, pos, a1, a2, a3, a4, a5, a6⟩ := h
  rcases a2.2 with ⟨_, e⟩ | ⟨g', cap, cur, rfl, _⟩
  · exact absurd e (by omega)
  · exact ⟨g', cap, code, pos, a3, a4, o, fr, a1, a2, by omega, by omega, by omega, a5, a6 _ rfl⟩
theorem Code.cd {c : Mc} {wb : World} {lo n d g' cap : Nat} {code : List Ins} {pos L N : Nat} (h : Code c wb w lo n d g' cap code pos) (h1 : code.length = L) (h2 : pos ≤ N) : Cd c wb w L N d :=
  ⟨h.o, h.fr, _, code, pos, h.blk, h.own, h1, h2, h.rg, fun k hk => by cases hk; exact h.nH⟩
theorem Mk.cd {c : Mc} {wb : World} {lo n d : Nat} (h : Mk c wb w lo n d) : ∃ L, L ≤ n ∧ Cd c wb w L n d := by
  obtain ⟨o, fr, cv, code, pos, a1, a2, a3, a4, a5, a6, a7⟩ := h
  exact ⟨_, a4, o, fr, cv, code, pos, a1, a2, rfl, a5, a6, a7⟩
theorem Cd.ext {c : Mc} {wb w' : World} {L N d : Nat} (h : Cd c wb w L N d) (hx : Ext w w') : Cd c wb w' L N d := by
  obtain ⟨o, fr, cv, code, pos, a1, a2, a3⟩ := h
  exact ⟨o, fr.trans (Fr.of_ext hx) fun _ _ h => h, cv, code, pos, a1.ext hx, hx.own a2, a3⟩
theorem ldCL {c : Mc} {wb : World} {L N d : Nat} {ty : TypeId} (h : Cd c wb w L N d) (hk : K (i64 (L : Nat)) w) :
    V Tryz.prog (Instr.fieldAt 141 (.pointer (some ⟨c.g, 0, none⟩)) 0) w fun q w1 => V Tryz.prog (Instr.loadAt 92 q) w1 fun v w2 => V Tryz.prog (Builtin.len_ #[92] ty #[v]) w2 K := by
  obtain ⟨o, fr, cv, code, pos, a1, a2, rfl, _⟩ := h
  exact ldB (Blk.boxed a1) fa_141_0 l1_92 rfl (lnx xa_92 (SliceIs.of_own a2) hk)
theorem stCode {c : Mc} {wb : World} {L N d B : Nat} {v : Value} {code : List Ins} {K' : World → Prop} (h : Cd c wb w L N d) (ho : w.ownsRow B 97 3 v code.length (insC code)) (hB : c.B ≤ B) (hr : ∀ x ∈ code, x.rg) (hv : ∀ k, v.ownBlock = some k → ¬ c.H k)
    (hk : ∀ w', Cd c wb w' code.length N d → K' w') : V Tryz.prog (Instr.fieldAt 141 (.pointer (some ⟨c.g, 0, none⟩)) 0) w fun q w1 => U Tryz.prog (Instr.storeAt 92 q v) w1 fun _ w2 => K' w2 := by
  obtain ⟨o, fr, cv, code0, pos, a1, a2, a3, a4, a5, a6⟩ := h
  have hg : ¬ c.H c.g := fun hg => (o.hH _ hg).2 rfl
  have hgB := o.gB.1
  refine stF fa_141_0 inf92 a1 (n := 5) rfl (by decide) (own_oneM ho) (hk _ ⟨o, fr.set hg, v, code, pos, a1.set 0 _, ?_, rfl, a4, hr, hv⟩)
  exact own_mono ((Fr.of_set (S := fun i => i = c.g) rfl).own ho fun k hk he => by have := (ho.lt k hk).1; omega) hB
end Go.Proofs.YthblbcjgdbaonaaGreatDoor
namespace Go.Vc
theorem apS {P : Program} {w : World} {K : Value → World → Prop} {t e by_ ty : Nat} (h : XE P t e by_) {B : Nat} {v : Value} {n : Nat} {xs : List Value} (ho : w.ownsRow B e 1 v n xs) {x : Value} {m : Nat} {news : List Value} (hs : SliceIs w x 1 m news) (h1 : news.all oneC = true)
    (hb : (n + m) * by_ ≤ 140737488355328) (h63 : n + m ≤ maxLen) (hB : B ≤ w.heap.size)
    (hk : ∀ v' w', w'.ownsRow B e 1 v' (n + m) (xs ++ news) → w.grownBy w' v.ownBlock → (v'.ownBlock = v.ownBlock ∨ v'.ownBlock = some w.heap.size) → K v' w') :
    V P (Builtin.append_ #[t, t] ty #[v, x]) w K := by
  obtain ⟨z, ht, hi, hz⟩ := h
  exact apG ht hi hz (by omega) ho hs h1 hb h63 hB hk
end Go.Vc
namespace Go.Proofs.YthblbcjgdbaonaaGreatDoor
open Go.Vc Go.Tc
variable {w : World} {K : Value → World → Prop}
theorem insC_op {l : List Ins} {k : Nat} {x : Ins} (h : l[k]? = some x) : (insC l)[k * 3 + 0]? = some (i64 x.op) := by
  have := insC_row h
  have e : ((insC l).drop (k * 3))[0]? = some (i64 x.op) := by
    rw [← List.take_append_drop 3 ((insC l).drop (k * 3)), this]; rfl
  rwa [List.getElem?_drop] at e
theorem Cd.weak {c : Mc} {wb : World} {L N d N' : Nat} (h : Cd c wb w L N d) (h2 : N ≤ N') : Cd c wb w L N' d := by
  obtain ⟨o, fr, cv, code, pos, a1, a2, a3, a4, a5⟩ := h
  exact ⟨o, fr, cv, code, pos, a1, a2, a3, by omega, a5⟩
set_option maxHeartbeats 4000000 in
theorem code26 {rv mv iv : Value} {rl : List Rw} {row : List Value} {m : Mth} {ms : List Mth} {is : List Imp} (hr : RwsAre w rv rl) (hrow : MthIs w row m) (hm : MthsAre w mv ms) (hi : ImpsAre w iv is) (hb : BinsOk w) (rn : rl.length ≤ 5000000000000) (pl : m.params.length ≤ 1000) (ll : m.locals.length ≤ 1000)
    (m0 : 0 < ms.length ∧ ms.length ≤ 1000) (m4 : ∀ m ∈ ms, m.params.length ≤ 4) (i0 : is.length ≤ 1000) (i4 : ∀ x ∈ is, x.params.length ≤ 4)
    (hk : ∀ v code w', w'.ownsRow w.heap.size 97 3 v code.length (insC code) → (∀ x ∈ code, x.rg) → code.length ≤ 700000 → Ext w w' → K v w') :
    callD Tryz.prog 48 #[rv, .agg row.toArray, mv, iv] w K := by
  obtain ⟨pv, lv, cv, rfl, hp, hl, hc⟩ := hrow
  apply F48_wp
  unfold F48_den
  refine bx fun b5 w1 hb5 x1 => ?_
  have hb5 : Boxed w1 b5 [pv, i64 m.result, lv, cv] := hb5
  have D1 : Ext w1 w1.drew := (Ext.refl _).drew
  have x2 := x1.trans D1
  refine drawD.mk' (fun w' => Ext w1.drew w') (Ext.refl _) ?_
  refine yfB (fun w' hx => hb5.ext (D1.trans hx)) fa_94_0 l1_57 rfl ?_
  refine yfB (fun w' hx => hb5.ext (D1.trans hx)) fa_94_2 l1_57 rfl ?_
  have hb5 := hb5.ext D1
  generalize w1.drew = w2 at x2 hb5
  clear D1
  refine bsl xe_57 [] rfl rfl (by simp) rfl fun v3 w3 ho3 x3 => ⟨x3, ?_⟩
  refine apO xe_57 ho3 (hp.ext (x2.trans x3)) (allI _) (by omega) (by unfold maxLen; omega) x3.size fun v4 w4 ho4 hg4 => ?_
  have x4 : Ext w2 w4 := x3.grown hg4 fun k hk => (ho3.lt k hk).1
  refine ⟨x4, apO xe_57 ho4 (hl.ext (x2.trans x4)) (allI _) (by omega) (by unfold maxLen; omega) x4.size fun lv' w5 ho5 hg5 => ?_⟩
  have x5 : Ext w2 w5 := x4.grown hg5 fun k hk => (ho4.lt k hk).1
  refine ⟨x5, yBld bd_141 [(3, lv')] rfl (by simp [own_oneM ho5]) ?_⟩
  have hloc : IntsAre w5 lv' (m.params ++ m.locals) := by
    have := SliceIs.of_own ho5
    unfold IntsAre
    simpa using this
  clear ho3 ho4 ho5 hg4 hg5
  refine bxK fun w6 hB6 x6 => ⟨x5.trans x6, ?_⟩
  have hB6 : Blk w6 w5.heap.size [nilS, nilS, i64 ((0 : Nat) : Int), lv', i64 ((0 : Nat) : Int)] 141 := hB6
  have x25 := x2.trans x5
  have hr := hr.ext x25
  have hm := hm.ext x25
  have hi := hi.ext x25
  have hbins : BinsOk w5 := fun j hj => by
    obtain ⟨n, hn⟩ := hb j hj
    exact ⟨n, x25.cell hn⟩
  have hb5 := hb5.ext x5
  have hw5 : w.heap.size ≤ w5.heap.size := x25.size
  generalize hgg : w5.heap.size = g at hB6 hw5
  clear x1 x3 x4
  have hlocl : (m.params ++ m.locals).length ≤ 1000000 := by simp; omega
  generalize m.params ++ m.locals = loc at hloc hlocl
  refine ⟨fun v w' => ∃ (j : Nat) (nv : Value) (nums : List Int), v = i64 j ∧ j ≤ rl.length ∧ nums.length = 3 * j ∧ Ext w5 w' ∧ Blk w' g [nilS, nv, i64 ((0 : Nat) : Int), lv', i64 ((0 : Nat) : Int)] 141 ∧ w'.ownsRow (g + 1) 3 1 nv nums.length (nums.map i64), fun v _ => rl.length - (RowKit.intOf v).toNat, ⟨0, nilS, [], rfl, Nat.zero_le _, rfl, x6, hB6, World.ownsRow_nil _ _ _ _⟩, ?_⟩
  rintro _ wB ⟨j, nv, nums, rfl, hj, hnl, xB, hBB, hoB⟩ _
  have hlt5 := hBB.lt
  refine lnR xa_22 (hr.ext xB) (V_lss.2 (ifD_dec (fun hlt => ?_) fun hge => ?_))
  · obtain ⟨x, hx⟩ := ex_get (l := rl) (j := j) (by omega)
    have D2 : Ext wB wB.drew := (Ext.refl _).drew
    have xd := xB.trans D2
    have hBd := hBB.ext D2
    have hod := D2.own hoB
    refine drawD.mk' (fun w' => Ext w5 w' ∧ Blk w' g [nilS, nv, i64 ((0 : Nat) : Int), lv', i64 ((0 : Nat) : Int)] 141) ⟨xd, hBd⟩ ?_
    refine ⟨.inl ⟨_, rfl⟩, yfB (fun w' hw => Blk.boxed hw.2) fa_141_1 l1_57 rfl ?_⟩
    refine ySF xa_22 fa_143_1 l1_3 (hr.str hx) (fun w' hw => hw.1) hx fun row hrow => ⟨i64 x.a, by rw [hrow]; rfl, by decide, ?_⟩
    refine ySF xa_22 fa_143_2 l1_3 (hr.str hx) (fun w' hw => hw.1) hx fun row hrow => ⟨i64 x.b, by rw [hrow]; rfl, by decide, ?_⟩
    refine ySF xa_22 fa_143_3 l1_3 (hr.str hx) (fun w' hw => hw.1) hx fun row hrow => ⟨i64 x.e, by rw [hrow]; rfl, by decide, ?_⟩
    refine bsl xe_57 [i64 x.a, i64 x.b, i64 x.e] rfl rfl (by simp) rfl fun v7 w7 ho7 x7 => ⟨⟨xd.trans x7, hBd.ext x7⟩, ?_⟩
    have hs7 := hBd.lt
    have hs8 := x7.size
    refine apO xe_57 (x7.own hod) (SliceIs.of_own ho7) rfl (by omega) (by unfold maxLen; omega) (by omega) fun v8 w8 ho8 hg8 => ?_
    have hlo : ∀ k, nv.ownBlock = some k → g + 1 ≤ k := fun k hk => (hod.lt k hk).1
    have x8 : Ext w5 w8 := (xd.trans x7).grown hg8 fun k hk => by have := hlo k hk; omega
    have hB8 : Blk w8 g _ _ := (Fr.of_grown (S := fun k => nv.ownBlock = some k) hg8 fun k hk => hk).blk (hBd.ext x7) fun hk => by have := hlo _ hk; omega
    refine ⟨⟨x8, hB8⟩, ⟨.inl ⟨_, rfl⟩, yieldS.ok (fun w' hw => FA.ex fa_141_1 w' _ _) ?_⟩⟩
    refine stFU inf57 hB8 (n := 5) rfl (by decide) (own_oneM ho8) (V_add.2 ?_)
    rw [wrap_id (by omega) (by omega), i64_succ]
    refine ⟨⟨j + 1, v8, nums ++ [x.a, x.b, x.e], rfl, by omega, by simp; omega, x8.setCell (by omega) _, hB8.set 1 _, ?_⟩, by simp only [intOf_i64]; omega⟩
    have := (Fr.of_set (S := fun i => i = g) (w := w8) (b := g) (o := 1) (v := v8) rfl).own ho8 fun k hk he => by have := (ho8.lt k hk).1; omega
    simpa using this
  have hf : ∀ {w'}, Fr (fun k => k = g ∨ wB.heap.size ≤ k) wB w' → IntsAre w' nv nums ∧ Ext w5 w' := fun f => ⟨SliceIs.of_own (f.own hoB fun k hk hS => by have := hoB.lt k hk; omega), f.ext xB fun k hS => by have := xB.size; omega⟩
  have hMo : ∀ (H : Nat → Prop) {w1 : World}, Fr (fun k => k = g ∨ wB.heap.size ≤ k) wB w1 → (∀ k, k < wB.heap.size → ¬ H k → k = g) → (∀ k, H k → k < w1.heap.size ∧ k ≠ g) → Mo ⟨H, wB.heap.size, g, nv, lv', nums, loc⟩ w1 ∧ ∀ w', Fr (fun k => ¬ H k) w1 w' → Fr (fun k => k = g ∨ wB.heap.size ≤ k) wB w' := by
    intro H w1 f h1 h2
    have tr : ∀ w', Fr (fun k => ¬ H k) w1 w' → Fr (fun k => k = g ∨ wB.heap.size ≤ k) wB w' := fun w' f' => f.trans f' fun i hi hn => .inl (h1 i hi hn)
    refine ⟨⟨⟨hlt5, f.size⟩, h2, fun w' f' => (hf (tr w' f')).1, fun w' f' => hloc.ext (hf (tr w' f')).2, fun w' f' j hj => ?_, ?_, hlocl⟩, tr⟩
    · obtain ⟨n, hn⟩ := hbins j hj
      exact ⟨n, (hf (tr w' f')).2.cell hn⟩
    · show nums.length ≤ _
      omega
  refine ⟨fun tv v w' => ∃ (j : Nat) (tl : List Int) (cv : Value) (code : List Ins) (pos : Nat), v = i64 j ∧ j ≤ rl.length ∧ j ≤ 12 ∧ tl.length = j ∧ Fr (fun k => k = g ∨ wB.heap.size ≤ k) wB w' ∧ Blk w' g [cv, nv, i64 (pos : Nat), lv', i64 ((0 : Nat) : Int)] 141 ∧ w'.ownsRow wB.heap.size 97 3 cv code.length (insC code) ∧ code.length ≤ 4100 * j ∧ pos ≤ 4100 * j ∧ (∀ x ∈ code, x.rg) ∧ w'.ownsRow wB.heap.size 3 1 tv tl.length (tl.map i64) ∧ ∀ k, cv.ownBlock = some k → tv.ownBlock ≠ some k,
    fun _ v _ => 12 - (RowKit.intOf v).toNat, ⟨0, [], nilS, [], 0, rfl, Nat.zero_le _, Nat.zero_le _, rfl, Fr.refl _ _, hBB, World.ownsRow_nil _ _ _ _, Nat.le_refl _, Nat.le_refl _, fun _ h => by simp at h, World.ownsRow_nil _ _ _ _, fun k hk => by cases hk⟩, ?_⟩
  rintro tv _ w9 ⟨j, tl, cv, code, pos, rfl, hj, hj12, htl, fr, hB9, ho9, hc9, hp9, hrg, hot, hne⟩ _
  have hs9 := fr.size
  have hng : ∀ k, tv.ownBlock = some k → wB.heap.size ≤ k := fun k hk => (hot.lt k hk).1
  have grow : ∀ {K' : Value → World → Prop}, (∀ tv' w', Fr (fun k => k = g ∨ wB.heap.size ≤ k) wB w' → Blk w' g [cv, nv, i64 (pos : Nat), lv', i64 ((0 : Nat) : Int)] 141 → w'.ownsRow wB.heap.size 97 3 cv code.length (insC code) → w'.ownsRow wB.heap.size 3 1 tv' (tl ++ [(code.length : Int)]).length ((tl ++ [(code.length : Int)]).map i64) → (∀ k, cv.ownBlock = some k → tv'.ownBlock ≠ some k) → K' tv' w') →
      Go.Vc.Safe (.pointer (some ⟨g, 0, none⟩)) ∧ V Tryz.prog (Instr.fieldAt 141 (.pointer (some ⟨g, 0, none⟩)) 0) w9 fun t75 w29 => V Tryz.prog (Instr.loadAt 92 t75) w29 fun t76 w30 => V Tryz.prog (Builtin.len_ #[92] 3 #[t76]) w30 fun t77 w31 => V Tryz.prog (Instr.buildSlice 57 1 #[(0, t77)]) w31 fun t78 w32 => V Tryz.prog (Builtin.append_ #[57, 57] 57 #[tv, t78]) w32 K' := by
    intro K' hK
    refine ⟨.inl ⟨_, rfl⟩, ldB (Blk.boxed hB9) fa_141_0 l1_92 rfl (lnx xa_92 (SliceIs.of_own ho9) ?_)⟩
    refine bsl xe_57 [i64 (code.length : Nat)] rfl rfl (by simp) rfl fun v7 w7 ho7 x7 => ?_
    have hs7 := x7.size
    refine apS xe_57 (x7.own hot) (SliceIs.of_own ho7) rfl (by omega) (by unfold maxLen; omega) (by omega) fun v8 w8 ho8 hg8 hl8 => ?_
    have f8 : Fr (fun k => tv.ownBlock = some k) w9 w8 := (Fr.of_ext x7).trans (Fr.of_grown hg8 fun k hk => hk) fun _ _ h => h
    refine hK v8 w8 (fr.trans f8 fun i _ hi => .inr (hng i hi)) (f8.blk hB9 fun hk => by have := hng _ hk; omega) (f8.own ho9 fun k hk hk' => hne k hk hk') (by simpa using ho8) fun k hk hk' => ?_
    rcases hl8 with h8 | h8
    · rw [h8] at hk'; exact hne k hk hk'
    · rw [h8] at hk'
      cases hk'
      have := (ho9.lt _ hk).2
      omega
  have hold : ∀ {tv' : Value} {w' : World} {L N : Nat}, code.length = L → pos ≤ N → Fr (fun k => k = g ∨ wB.heap.size ≤ k) wB w' → Blk w' g [cv, nv, i64 (pos : Nat), lv', i64 ((0 : Nat) : Int)] 141 → w'.ownsRow wB.heap.size 97 3 cv code.length (insC code) → w'.ownsRow wB.heap.size 3 1 tv' (tl ++ [(code.length : Int)]).length ((tl ++ [(code.length : Int)]).map i64) → (∀ k, cv.ownBlock = some k → tv'.ownBlock ≠ some k) →
      ∃ H : Nat → Prop, Cd ⟨H, wB.heap.size, g, nv, lv', nums, loc⟩ w' w' L N 0 ∧ (∀ w2, Fr (fun k => ¬ H k) w' w2 → Fr (fun k => k = g ∨ wB.heap.size ≤ k) wB w2 ∧ w2.ownsRow wB.heap.size 3 1 tv' (tl ++ [(code.length : Int)]).length ((tl ++ [(code.length : Int)]).map i64)) ∧ (∀ k, tv'.ownBlock = some k → H k) := by
    intro tv' w' L N hL hN f' hB' ho' ho2' hne'
    have hs := f'.size
    have hcv : ∀ k, cv.ownBlock = some k → wB.heap.size ≤ k := fun k hk => (ho'.lt k hk).1
    have htv : ∀ k, tv'.ownBlock = some k → k < w'.heap.size ∧ k ≠ g ∧ cv.ownBlock ≠ some k := fun k hk => ⟨(ho2'.lt k hk).2, by have := (ho2'.lt k hk).1; omega, fun hc => hne' k hc hk⟩
    obtain ⟨mo, tr⟩ := hMo (fun k => k < w'.heap.size ∧ k ≠ g ∧ cv.ownBlock ≠ some k) f' (fun k hk hH => by
      apply Classical.byContradiction
      intro hkg
      exact hH ⟨by omega, hkg, fun hc => by have := hcv k hc; omega⟩) (fun k hk => ⟨hk.1, hk.2.1⟩)
    exact ⟨_, ⟨mo, Fr.refl _ _, cv, code, pos, hB', ho', hL, hN, hrg, fun k hk hH => hH.2.2 hk⟩, fun w2 f2 => ⟨tr w2 f2, f2.own ho2' fun k hk hH => hH (htv k hk)⟩, htv⟩
  refine lnR xa_22 (hr.ext (hf fr).2) (V_lss.2 ?_)
  by_cases c0 : (j : Int) < (rl.length : Int) ∧ (j : Int) < 12 ∧ (code.length : Int) < 70
  case pos =>
    obtain ⟨c1, c2, c3⟩ := c0
    simp only [c1, c2, evL, ne_eq, reduceIte, decide_true]
    refine ⟨.inl ⟨_, rfl⟩, ldB (Blk.boxed hB9) fa_141_0 l1_92 rfl (lnx xa_92 (SliceIs.of_own ho9) (V_lss.2 ?_))⟩
    simp only [c3, evL, decide_true]
    refine grow fun tv' w3 f3 hB3 ho3 ho4 hne3 => ?_
    obtain ⟨H, hcd, hst, htH⟩ := hold rfl (Nat.le_refl _) f3 hB3 ho3 ho4 hne3
    have D3 : Ext w3 w3.drew := (Ext.refl _).drew
    obtain ⟨x, hx⟩ := ex_get (l := rl) (j := j) (by omega)
    obtain ⟨uv, urun, usl⟩ := r_sl Tryz.underlying57 inf3 (SliceIs.of_own ho4) (lo := none) (hi' := some (.int .i64 (j : Int))) (a := 0) (b := j) (.inl ⟨rfl, rfl⟩) (.inr rfl) (by omega) (by simp; omega)
    refine drawD.mk' (fun w' => Ext w3 w') D3 ?_
    refine ySS xa_22 la_143 ((hr.ext (hf f3).2).str hx) (fun _ h => h) hx (fun _ row e h => by rw [h]; rfl) fun row hrow => ?_
    have hrow : row = [i64 x.k, i64 x.a, i64 x.b, i64 x.e] := hrow
    subst hrow
    refine yieldS.ok (fun w' _ => urun _) ?_
    have mk3 := (hcd.mk (n := 4100 * j) hc9 hp9).ext D3
    refine stmt49 (tl := tl) (ms := ms) (is := is) mk3 (by omega) (fun w' f => ?_) (by omega) (fun w' f => hm.ext (hf (hst w' f).1).2) (fun w' f => hi.ext (hf (hst w' f).1).2) m0 m4 i0 i4 fun w4 h4 => V_add.2 ?_
    · have := usl w' (SliceIs.of_own (hst w' f).2)
      unfold IntsAre
      rw [htl]
      simpa [← htl] using this
    · rw [wrap_id (by omega) (by omega), i64_succ]
      obtain ⟨_, f4, cv4, code4, pos4, b1, b2, b3, b4, b5, b6, b7⟩ := h4
      obtain ⟨f5, ho5⟩ := hst _ f4
      exact ⟨⟨j + 1, tl ++ [(code.length : Int)], cv4, code4, pos4, rfl, by omega, by omega, by simp [htl], f5, b1, b2, by omega, by omega, b6, ho5, fun k hk hk' => b7 k hk (htH k hk')⟩, by simp only [intOf_i64]; omega⟩
  have c5 : ¬ ((j : Int) < (rl.length : Int)) ∨ ((j : Int) < (rl.length : Int) ∧ ¬ ((j : Int) < 12)) ∨ ((j : Int) < (rl.length : Int) ∧ (j : Int) < 12 ∧ ¬ ((code.length : Int) < 70)) := by omega
  clear c0
  rcases c5 with c1 | ⟨c1, c2⟩ | ⟨c1, c2, c3⟩
  case' neg.inl => simp only [c1, evL, ne_eq, reduceIte, Bool.false_eq_true, decide_false]
  case' neg.inr.inl => simp only [c1, c2, evL, ne_eq, reduceIte, Bool.false_eq_true, decide_true, decide_false]
  case' neg.inr.inr =>
    simp only [c1, c2, evL, ne_eq, reduceIte, decide_true]
    refine ⟨.inl ⟨_, rfl⟩, ldB (Blk.boxed hB9) fa_141_0 l1_92 rfl (lnx xa_92 (SliceIs.of_own ho9) (V_lss.2 ?_))⟩
    simp only [c3, evL, decide_false]
  all_goals
    refine grow fun tv' w3 f3 hB3 ho3 ho4 hne3 => ?_
    obtain ⟨H, hcd, hst, htH⟩ := hold (N := 4100 * j) rfl hp9 f3 hB3 ho3 ho4 hne3
    have htl' : (tl ++ [(code.length : Int)]).length = j + 1 := by simp [htl]
    clear hold grow
    generalize tl ++ [(code.length : Int)] = tl' at *
    clear hB9 ho9 hrg hot hne fr hng hs9 hB3 ho3 hne3 f3 hp9 htl
    generalize code.length = L at *
    have fin : ∀ {w' L N}, Cd ⟨H, wB.heap.size, g, nv, lv', nums, loc⟩ w3 w' L N 0 → L ≤ 700000 → Go.Vc.Safe (.pointer (some ⟨g, 0, none⟩)) ∧ V Tryz.prog (Instr.fieldAt 141 (.pointer (some ⟨g, 0, none⟩)) 0) w' fun t w => V Tryz.prog (Instr.loadAt 92 t) w K := by
      intro w' L N hc hL
      obtain ⟨_, f, cv, code, pos, b1, b2, b3, b4, b5, b6⟩ := hc
      have hx := (hf (hst _ f).1).2
      have := xB.size
      exact ⟨.inl ⟨_, rfl⟩, ldB (Blk.boxed b1) (by first | exact fa_105_0 | exact fa_115_0 | exact fa_115_1 | exact fa_127_1 | exact fa_127_2 | exact fa_141_0) (by first | exact l1_22 | exact l1_23 | exact l1_3 | exact l1_4 | exact l1_5 | exact l1_57 | exact l1_58 | exact l1_59 | exact l1_9 | exact l1_92) rfl (hk _ code w' (own_mono b2 (show w.heap.size ≤ wB.heap.size by omega)) b5 (by omega) (x25.trans hx))⟩
    have hmt : ∀ {w'}, Fr (fun k => ¬ H k) w3 w' → Boxed w' b5 [pv, i64 m.result, lv, _] := fun f => hb5.ext (hf (hst _ f).1).2
    refine ⟨fun v w' => ∃ k : Nat, v = i64 k ∧ k ≤ L ∧ Cd ⟨H, wB.heap.size, g, nv, lv', nums, loc⟩ w3 w' L (4100 * j) 0, fun v _ => L - (RowKit.intOf v).toNat, ⟨0, rfl, Nat.zero_le _, hcd⟩, ?_⟩
    clear hcd
    rintro _ w10 ⟨k, rfl, hkL, hcd⟩ _
    refine ⟨.inl ⟨_, rfl⟩, ldCL hcd (V_lss.2 (ifD_dec (fun hlt => ?_) fun hge2 => ?_))⟩
    · obtain ⟨g', cap, code', pos', hcl, hpp, hC⟩ := hcd.code (by omega)
      obtain ⟨x, hx⟩ := ex_get (l := code') (j := k) (by omega)
      have hsl := SliceIs.of_own hC.own
      have nxt : ∀ {w'}, Cd ⟨H, wB.heap.size, g, nv, lv', nums, loc⟩ w3 w' L (4100 * j) 0 → V Tryz.prog (binOp .add 3 (i64 k) (i64 1)) w' fun t w2 => (∃ k : Nat, t = i64 k ∧ k ≤ L ∧ Cd ⟨H, wB.heap.size, g, nv, lv', nums, loc⟩ w3 w2 L (4100 * j) 0) ∧ L - (RowKit.intOf t).toNat < L - (RowKit.intOf (i64 (k : Int))).toNat := by
        intro w' hc'
        refine V_add.2 ?_
        rw [wrap_id (by omega) (by omega), i64_succ]
        exact ⟨⟨k + 1, rfl, by omega, hc'⟩, by simp only [intOf_i64]; omega⟩
      refine ⟨.inl ⟨_, rfl⟩, ldB (Blk.boxed hC.blk) (by first | exact fa_105_0 | exact fa_115_0 | exact fa_115_1 | exact fa_127_1 | exact fa_127_2 | exact fa_141_0) (by first | exact l1_22 | exact l1_23 | exact l1_3 | exact l1_4 | exact l1_5 | exact l1_57 | exact l1_58 | exact l1_59 | exact l1_9 | exact l1_92) rfl ?_⟩
      refine ldxF xa_92 fa_97_0 (by first | exact l1_22 | exact l1_23 | exact l1_3) hsl (by omega) (by omega) (insC_op hx) (V_eqlI.2 ?_)
      by_cases h24 : x.op = 24
      case neg => simp only [h24, evL, reduceIte, Bool.false_eq_true, decide_false]; exact nxt hcd
      simp only [h24, evL, reduceIte, decide_true]
      refine ⟨.inl ⟨_, rfl⟩, ldB (Blk.boxed hC.blk) (by first | exact fa_105_0 | exact fa_115_0 | exact fa_115_1 | exact fa_127_1 | exact fa_127_2 | exact fa_141_0) (by first | exact l1_22 | exact l1_23 | exact l1_3 | exact l1_4 | exact l1_5 | exact l1_57 | exact l1_58 | exact l1_59 | exact l1_9 | exact l1_92) rfl ?_⟩
      refine ldxF xa_92 fa_97_1 (by first | exact l1_22 | exact l1_23 | exact l1_3) hsl (by omega) (by omega) (insC_at hx) (V_lss.2 ?_)
      by_cases ha0 : x.a < 0
      case neg => simp only [ha0, evL, decide_false]; exact nxt hcd
      simp only [ha0, evL, decide_true]
      refine ⟨fun v w' => ∃ q : Nat, v = i64 q ∧ q < tl'.length ∧ w' = w10, fun v _ => tl'.length - (RowKit.intOf v).toNat, ⟨0, rfl, by omega, rfl⟩, ?_⟩
      rintro _ w11 ⟨q, rfl, hq, hw⟩ _
      have hw := hw.symm
      subst hw
      have hot := SliceIs.of_own (hst _ hC.fr).2
      refine lnx xa_57 hot (V_sub.2 ?_)
      rw [wrap_id (by omega) (by omega)]
      refine V_lss.2 ?_
      by_cases c0 : (q : Int) < (tl'.length : Int) - 1 ∧ nth tl' q ≤ (k : Int)
      case pos =>
        obtain ⟨c1, c2⟩ := c0
        simp only [c1, evL, reduceIte, decide_true]
        refine ldx xa_57 l1_3 hot (by omega) (by omega) (getI (getN (by omega))) (V_leq.2 ?_)
        simp only [c2, evL, decide_true]
        refine V_add.2 ?_
        rw [wrap_id (by omega) (by omega), i64_succ]
        exact ⟨⟨q + 1, rfl, by omega, rfl⟩, by simp only [intOf_i64]; omega⟩
      have c5 : ¬ ((q : Int) < (tl'.length : Int) - 1) ∨ ((q : Int) < (tl'.length : Int) - 1 ∧ ¬ (nth tl' q ≤ (k : Int))) := by omega
      clear c0
      rcases c5 with c1 | ⟨c1, c2⟩
      case' neg.inl => simp only [c1, evL, reduceIte, Bool.false_eq_true, decide_false]
      case' neg.inr =>
        simp only [c1, evL, reduceIte, decide_true]
        refine ldx xa_57 l1_3 hot (by omega) (by omega) (getI (getN (by omega))) (V_leq.2 ?_)
        simp only [c2, evL, decide_false]
      all_goals
        have D1 : Ext w10 w10.drew := (Ext.refl _).drew
        have hC := hC.ext D1
        have hot := hot.ext D1
        refine drawD.mk' (fun w' => Ext w10.drew w') (Ext.refl _) ?_
        refine ⟨.inl ⟨_, rfl⟩, yfB (fun w' hx => Blk.boxed (hC.blk.ext hx)) (by first | exact fa_105_0 | exact fa_115_0 | exact fa_115_1 | exact fa_127_1 | exact fa_127_2 | exact fa_141_0) (by first | exact l1_22 | exact l1_23 | exact l1_3 | exact l1_4 | exact l1_5 | exact l1_57 | exact l1_58 | exact l1_59 | exact l1_9 | exact l1_92) rfl ?_⟩
        refine yLen xa_57 hot ?_
        refine yieldS.ok (fun w' _ => r_sub) (yieldS.ok (fun w' _ => r_add) (yieldS.ok (fun w' _ => r_min) ?_))
        rw [show IntKind.i64.wrap ((tl'.length : Int) - 1) = (tl'.length : Int) - 1 from wrap_id (by omega) (by omega), show IntKind.i64.wrap ((q : Int) + 1) = (q : Int) + 1 from wrap_id (by omega) (by omega)]
        obtain ⟨r, hr2, hr3⟩ : ∃ r : Nat, min ((tl'.length : Int) - 1) ((q : Int) + 1) = r ∧ r < tl'.length := ⟨min (tl'.length - 1) (q + 1), by omega, by omega⟩
        rw [hr2]
        refine ySl xa_57 l1_3 hot (fun _ h => h) (by omega) (by omega) (getI (getN hr3)) ?_
        refine yieldS.ok (fun w' _ => r_index Tryz.underlying92 inf97 (by omega) (by omega)) ?_
        refine yieldS.ok (fun w' _ => FA.ex fa_97_1 w' _ _) ?_
        rw [Int.toNat_natCast]
        exact stIns hC (by omega) fun w12 code2 hl2 hC2 => nxt (hC2.cd (by omega) hpp)
    refine ⟨fun w' => ∃ L', L' ≤ 60000 ∧ Cd ⟨H, wB.heap.size, g, nv, lv', nums, loc⟩ w3 w' L' 60000 0, ?_, ?_⟩
    · refine ldB (hmt hcd.2.1) (by first | exact fa_105_0 | exact fa_115_0 | exact fa_115_1 | exact fa_127_1 | exact fa_127_2 | exact fa_141_0 | exact fa_141_1 | exact fa_141_2 | exact fa_141_3 | exact fa_141_4 | exact fa_143_0 | exact fa_143_1 | exact fa_143_2 | exact fa_143_3 | exact fa_200_0 | exact fa_200_1 | exact fa_25_0 | exact fa_25_1 | exact fa_25_2 | exact fa_25_3 | exact fa_25_4 | exact fa_25_5 | exact fa_25_6 | exact fa_25_7 | exact fa_25_8 | exact fa_27_0 | exact fa_27_1 | exact fa_27_2 | exact fa_29_0 | exact fa_29_1 | exact fa_29_2 | exact fa_29_3 | exact fa_29_4 | exact fa_29_5 | exact fa_61_0 | exact fa_61_1 | exact fa_61_2 | exact fa_61_3 | exact fa_61_4 | exact fa_91_0 | exact fa_91_1 | exact fa_91_2 | exact fa_91_3 | exact fa_94_0 | exact fa_94_1) (by first | exact l1_22 | exact l1_23 | exact l1_3) rfl (V_neqI.2 (ifD_dec (fun hr => ?_) fun hr => ⟨L, by omega, hcd.weak (by omega)⟩))
      refine ldB (hmt hcd.2.1) (by first | exact fa_105_0 | exact fa_115_0 | exact fa_115_1 | exact fa_127_1 | exact fa_127_2 | exact fa_141_0 | exact fa_141_1 | exact fa_141_2 | exact fa_141_3 | exact fa_141_4 | exact fa_143_0 | exact fa_143_1 | exact fa_143_2 | exact fa_143_3 | exact fa_200_0 | exact fa_200_1 | exact fa_25_0 | exact fa_25_1 | exact fa_25_2 | exact fa_25_3 | exact fa_25_4 | exact fa_25_5 | exact fa_25_6 | exact fa_25_7 | exact fa_25_8 | exact fa_27_0 | exact fa_27_1 | exact fa_27_2 | exact fa_29_0 | exact fa_29_1 | exact fa_29_2 | exact fa_29_3 | exact fa_29_4 | exact fa_29_5 | exact fa_61_0 | exact fa_61_1 | exact fa_61_2 | exact fa_61_3 | exact fa_61_4 | exact fa_91_0 | exact fa_91_1 | exact fa_91_2 | exact fa_91_3 | exact fa_94_0 | exact fa_94_1) (by first | exact l1_22 | exact l1_23 | exact l1_3) rfl ?_
      refine any50 (hcd.mk (n := 49200) (by omega) (by omega)) (by omega) fun w11 h11 => ?_
      obtain ⟨L', h1, h2⟩ := h11.cd
      exact ⟨L', by omega, h2.weak (by omega)⟩
    rintro w11 ⟨L', hL', hcd'⟩ _
    refine put51 (hcd'.mk (n := 60000) (by omega) (by omega)) (by omega) fun w12 h12 => ?_
    obtain ⟨L2, hL2, hcd2⟩ := h12.cd
    refine ⟨.inl ⟨_, rfl⟩, ldCL hcd2 (V_gtr.2 (ifD_dec (fun hg => ?_) fun hg => fin hcd2 (by omega)))⟩
    have hsB : wB.heap.size ≤ w12.heap.size := (hst _ hcd2.2.1).1.size
    refine bld bd_97 [(0, i64 39)] rfl rfl ?_
    refine bslG Tryz.underlying92 inf97 rfl (by decide) [.agg #[i64 39, i64 0, i64 0]] rfl rfl (by intro v hv; rw [List.mem_singleton] at hv; subst hv; rfl) (by decide) (by decide) fun uv w13 ho13 x13 => ?_
    refine ⟨.inl ⟨_, rfl⟩, stCode (code := [⟨39, 0, 0⟩]) (hcd2.ext x13) ho13 hsB (by intro x hx; rw [List.mem_singleton] at hx; subst hx; exact ⟨by decide, by decide⟩) (fun k hk hH => ?_) fun w14 hcd4 => ?_⟩
    · have h1 := (ho13.lt k hk).1
      have h2 := (hcd2.1.hH k hH).1
      have h3 := hcd2.2.1.size
      omega
    refine ldB (hmt hcd4.2.1) (by first | exact fa_105_0 | exact fa_115_0 | exact fa_115_1 | exact fa_127_1 | exact fa_127_2 | exact fa_141_0 | exact fa_141_1 | exact fa_141_2 | exact fa_141_3 | exact fa_141_4 | exact fa_143_0 | exact fa_143_1 | exact fa_143_2 | exact fa_143_3 | exact fa_200_0 | exact fa_200_1 | exact fa_25_0 | exact fa_25_1 | exact fa_25_2 | exact fa_25_3 | exact fa_25_4 | exact fa_25_5 | exact fa_25_6 | exact fa_25_7 | exact fa_25_8 | exact fa_27_0 | exact fa_27_1 | exact fa_27_2 | exact fa_29_0 | exact fa_29_1 | exact fa_29_2 | exact fa_29_3 | exact fa_29_4 | exact fa_29_5 | exact fa_61_0 | exact fa_61_1 | exact fa_61_2 | exact fa_61_3 | exact fa_61_4 | exact fa_91_0 | exact fa_91_1 | exact fa_91_2 | exact fa_91_3 | exact fa_94_0 | exact fa_94_1) (by first | exact l1_22 | exact l1_23 | exact l1_3) rfl (V_neqI.2 (ifD_dec (fun hr => ?_) fun hr => fin hcd4 (by simp)))
    refine bld bd_97 [(0, i64 1)] rfl rfl (bld bd_97 [(0, i64 39)] rfl rfl ?_)
    have hsB4 : wB.heap.size ≤ w14.heap.size := (hst _ hcd4.2.1).1.size
    refine bslG Tryz.underlying92 inf97 rfl (by decide) [.agg #[i64 1, i64 0, i64 0], .agg #[i64 39, i64 0, i64 0]] rfl rfl (by intro v hv; simp only [List.mem_cons, List.not_mem_nil, or_false] at hv; rcases hv with rfl | rfl <;> rfl) (by decide) (by decide) fun uv5 w15 ho15 x15 => ?_
    refine ⟨.inl ⟨_, rfl⟩, stCode (code := [⟨1, 0, 0⟩, ⟨39, 0, 0⟩]) (hcd4.ext x15) ho15 hsB4 (by intro x hx; simp only [List.mem_cons, List.not_mem_nil, or_false] at hx; rcases hx with rfl | rfl <;> exact ⟨by decide, by decide⟩) (fun k hk hH => ?_) fun w16 hcd6 => fin hcd6 (by simp)⟩
    have h1 := (ho15.lt k hk).1
    have h2 := (hcd4.1.hH k hH).1
    have h3 := hcd4.2.1.size
    omega
end Go.Proofs.YthblbcjgdbaonaaGreatDoor
namespace Go.Vc
section
variable {P : Program} {w : World} {K : Value → World → Prop}
theorem run_next_dec (w : World) (s : ByteArray) (pos : Nat) (ty : TypeId) (h : pos < s.size) :
    (Instr.next (.pointer (some ⟨w.heap.size, 0, none⟩)) true ty).run P (w.iter s pos) = .ok (.tuple #[.bool true, i64 pos, .int .i32 (Utf8.decode s pos).1]) (w.iter s (pos + (Utf8.decode s pos).2)) := by
  simp only [Instr.next, getObj, setObj, Sem.run_bind, Sem.run, World.iter_heap, Result.andThen, h, if_true, World.iter_set]
  simp [goInt]
theorem V_tup {a : Array Value} {n : Nat} {v : Value} (h : a[n]? = some v) (hk : K v w) : V P (Instr.extract (.tuple a) n) w K := V.ok (by simp [Instr.extract, h]) hk
theorem r_slS {t : TypeId} (ht : P.underlying t = some .string) {s : ByteArray} {k : Nat} (h : k ≤ s.size) : (Instr.sliceAt t (.string s) (some (i64 k)) none none).run P w = .ok (.string (s.extract k s.size)) w := by
  simp [Instr.sliceAt, Instr.slice, run_underlying ht, Instr.sliceBounds, Instr.sliceBound, asIntOf, h]
theorem r_arrK {t e n : TypeId} {z : Value} {by_ sz : Nat} (ht : P.underlying t = some (.array n e)) (hi : Inf P e z sz by_) {b off : Nat} {k : IntKind} {i : Int} (h0 : 0 ≤ i) (h1 : i < n) :
    (Instr.indexAt t (.pointer (some ⟨b, off, none⟩)) (.int k i)).run P w = .ok (.pointer (some ⟨b, off + i.toNat * sz, none⟩)) w := by
  simp [Instr.indexAt, asIntOf, run_underlying ht, Instr.sureAddr, run_size hi, h0, h1, add_mk]
end
end Go.Vc
namespace Go.Proofs.YthblbcjgdbaonaaGreatDoor
open Go.Vc Go.Tc
variable {w : World} {K : Value → World → Prop}
def nmB : List ByteArray := [⟨#[97, 108, 112, 104, 97]⟩, ⟨#[98, 195, 169, 116, 97]⟩, ⟨#[103, 45, 49]⟩, ⟨#[100, 46, 195, 191]⟩]
structure Tabs (w : World) : Prop where
  f : w.cell? ⟨0, 195, none⟩ = some (.int .u8 2)
  a0 : w.cell? ⟨1, 0, none⟩ = some (.int .u8 128)
  a1 : w.cell? ⟨1, 1, none⟩ = some (.int .u8 191)
theorem Tabs.ext {w' : World} (h : Tabs w) (hx : Ext w w') : Tabs w' := ⟨hx.cell h.f, hx.cell h.a0, hx.cell h.a1⟩
def sufB (t : ByteArray) (vs : List ByteArray) : Prop := t.size ≤ 8 ∧ (t.size = 0 ∨ (∃ c, t[0]? = some c ∧ c.toNat < 128 ∧ t.extract 1 t.size ∈ vs) ∨ (∃ c, t[0]? = some 195 ∧ t[1]? = some c ∧ 128 ≤ c.toNat ∧ c.toNat ≤ 191 ∧ t.extract 2 t.size ∈ vs))
theorem valid87 {s : ByteArray} {vs : List ByteArray} (hT : Tabs w) (h0 : s ∈ vs) (hvs : ∀ t ∈ vs, sufB t vs) (hk : ∀ w', Ext w w' → K (.bool true) w') : callD Tryz.prog 37 #[.string s] w K := by
  apply F37_wp
  unfold F37_den
  refine ⟨fun v w' => ∃ t, t ∈ vs ∧ v = .string t ∧ Ext w w', fun v _ => match v with | .string s => s.size | _ => 0, ⟨s, h0, rfl, Ext.refl _⟩, ?_⟩
  rintro _ w1 ⟨t, ht, rfl, x1⟩ _
  obtain ⟨h8, hc⟩ := hvs t ht
  refine V.ok (lenStr Tryz.underlying9) (V_gtr.2 ?_)
  have hsz : ∀ {j : Nat} {c : UInt8}, t[j]? = some c → j < t.size := fun h => (getElem?_eq_some_iff.1 h).1
  have hex : ∀ k, (t.extract k t.size).size = t.size - k := fun k => by simp
  rcases hc with hz | ⟨c, hc0, hlt, hmem⟩ | ⟨c, hc0, hc1, hlo, hhi, hmem⟩
  · have : ¬ (t.size : Int) > 0 := by omega
    simp only [this, evL, decide_false]
    exact hk _ x1
  · have hs := hsz hc0
    have e1 : (t.size : Int) > 0 := by omega
    simp only [e1, evL, decide_true]
    refine V.ok (r_idxS Tryz.underlying9 hc0) (V_lss.2 ?_)
    have e2 : (c.toNat : Int) < 128 := by omega
    simp only [e2, evL, decide_true]
    refine V.ok (r_slS (k := 1) Tryz.underlying9 (by omega)) ?_
    refine ⟨fun v w' => v = .string (t.extract 1 t.size) ∧ w' = w1, V.ok (lenStr Tryz.underlying9) (V_gtr.2 ?_), ?_⟩
    · have e3 : ¬ ((t.extract 1 t.size).size : Int) > 8 := by rw [hex]; omega
      simp only [e3, evL, reduceIte, Bool.false_eq_true, decide_false]
      exact ⟨trivial, trivial⟩
    · rintro _ _ ⟨rfl, rfl⟩ _
      refine ⟨⟨_, hmem, rfl, x1⟩, ?_⟩
      show (t.extract 1 t.size).size < t.size
      rw [hex]; omega
  · have hs0 := hsz hc0
    have hs := hsz hc1
    have e1 : (t.size : Int) > 0 := by omega
    simp only [e1, evL, decide_true]
    refine V.ok (r_idxS Tryz.underlying9 hc0) (V_lss.2 ?_)
    have e2 : ¬ (((195 : UInt8).toNat : Nat) : Int) < 128 := by decide
    simp only [e2, evL, decide_false]
    have hT1 := hT.ext x1
    refine V.ok (r_arrK Tryz.underlying113 inf5 (by decide) (by decide)) ?_
    refine V.ok (r_ld_5 hT1.f) ?_
    refine V.ok (v := .int .u8 2) (w' := w1) (by kernel_rfl) ?_
    refine V.ok (v := i64 2) (w' := w1) (by kernel_rfl) ?_
    refine V.ok (v := .int .u8 0) (w' := w1) (by kernel_rfl) ?_
    refine V.ok (r_arrK Tryz.underlying116 inf115 (by decide) (by decide)) ?_
    obtain ⟨d, z, by_, g1, g2, g3⟩ := la_115
    refine V.ok (r_loadAgg (cs := [.int .u8 128, .int .u8 191]) g1 g2 g3 rfl fun j hj => ?_) ?_
    · match j, hj with
      | 0, _ => exact hT1.a0
      | 1, _ => exact hT1.a1
    refine asB sa_115 rfl rfl fun b2 w2 hb2 x2 => ?_
    have hb2 : Boxed w2 b2 [.int .u8 128, .int .u8 191] := hb2
    refine V_eqlI.2 ?_
    simp only [evL, Int.reduceEq, decide_true, decide_false]
    have D1 : Ext w2 w2.drew := (Ext.refl _).drew
    refine drawD.mk' (fun w' => Ext w2 w') D1 ?_
    refine yieldS.ok (fun w' _ => lenStr Tryz.underlying9) (yieldS.ok (fun w' _ => r_lss) ?_)
    have e3 : ¬ (t.size : Int) < 2 := by omega
    simp only [e3, evL, reduceIte, Bool.false_eq_true, decide_false]
    refine yieldS.ok (fun w' _ => r_idxS Tryz.underlying9 hc1) ?_
    refine yfB (fun w' hw => hb2.ext hw) fa_115_0 l1_5 rfl (yieldS.ok (fun w' _ => r_lss) ?_)
    have e4 : ¬ (c.toNat : Int) < 128 := by omega
    simp only [e4, evL, reduceIte, Bool.false_eq_true, decide_false]
    refine yfB (fun w' hw => hb2.ext hw) fa_115_1 l1_5 rfl ?_
    refine yieldS.ok (fun w' _ => r_idxS Tryz.underlying9 hc1) (yieldS.ok (fun w' _ => r_lss) ?_)
    have e5 : ¬ (191 : Int) < (c.toNat : Int) := by omega
    simp only [e5, evL, decide_false]
    refine V.ok (r_slS (k := 2) Tryz.underlying9 (by omega)) ?_
    refine ⟨⟨_, hmem, rfl, (x1.trans x2).trans D1⟩, ?_⟩
    show (t.extract 2 t.size).size < t.size
    rw [hex]; omega
def rnB (c : Nat) : Bool := (97 ≤ c && c ≤ 122) || (48 ≤ c && c ≤ 57) || c == 45 || c == 46 || (224 ≤ c && c ≤ 255)
theorem rnB_cases {c : Nat} (h : rnB c = true) : (97 ≤ c ∧ c ≤ 122) ∨ (¬ (97 ≤ c) ∧ 48 ≤ c ∧ c ≤ 57) ∨ c = 45 ∨ c = 46 ∨ (224 ≤ c ∧ c ≤ 255) := by
  simp only [rnB, Bool.or_eq_true, Bool.and_eq_true, decide_eq_true_eq, beq_iff_eq] at h
  omega
theorem isRune142 {c : Nat} (h : rnB c = true) (hk : K (.bool true) w) : callD Tryz.prog 38 #[.int .i32 c] w K := by
  apply F38_wp
  unfold F38_den
  rcases rnB_cases h with ⟨h1, h2⟩ | ⟨h0, h1, h2⟩ | rfl | rfl | ⟨h1, h2⟩
  · have a1 : (c : Int) ≥ 97 := by omega
    have a2 : (c : Int) ≤ 122 := by omega
    simp only [a1, a2, evL, reduceIte, decide_true]; exact hk
  · have a1 : ¬ (c : Int) ≥ 97 := by omega
    have a2 : (c : Int) ≥ 48 := by omega
    have a3 : (c : Int) ≤ 57 := by omega
    simp only [a1, a2, a3, evL, reduceIte, Bool.false_eq_true, decide_true, decide_false]; exact hk
  · simp only [show ((45 : Nat) : Int) = 45 from rfl, evL, Int.reduceGE, reduceIte, Bool.false_eq_true, decide_true, decide_false]; exact hk
  · simp only [show ((46 : Nat) : Int) = 46 from rfl, evL, Int.reduceEq, Int.reduceGE, reduceIte, Bool.false_eq_true, decide_true, decide_false]; exact hk
  · have a1 : (c : Int) ≥ 97 := by omega
    have a2 : ¬ (c : Int) ≤ 122 := by omega
    have a3 : (c : Int) ≥ 48 := by omega
    have a4 : ¬ (c : Int) ≤ 57 := by omega
    have a5 : ¬ (c : Int) = 45 := by omega
    have a6 : ¬ (c : Int) = 46 := by omega
    have a7 : (c : Int) ≥ 224 := by omega
    have a8 : (c : Int) ≤ 255 := by omega
    simp only [a1, a2, a3, a4, a5, a6, a7, a8, evL, reduceIte, Bool.false_eq_true, decide_true, decide_false]; exact hk
def nmOk (s : ByteArray) (vs : List ByteArray) (ps : List Nat) : Prop := (s ∈ vs ∧ ∀ t ∈ vs, sufB t vs) ∧ (1 ≤ s.size ∧ s.size ≤ 16) ∧ 0 ∈ ps ∧ ∀ p ∈ ps, p < s.size → rnB (Utf8.decode s p).1 = true ∧ p + (Utf8.decode s p).2 ∈ ps ∧ 0 < (Utf8.decode s p).2
theorem isName52 {s : ByteArray} {vs : List ByteArray} {ps : List Nat} (hT : Tabs w) (h : nmOk s vs ps) : callD Tryz.prog 22 #[.string s] w (Tells True w) := by
  obtain ⟨⟨h1, h2⟩, ⟨h3, h4⟩, h5, h6⟩ := h
  apply F22_wp
  suffices key : ∀ R : Value → World → Prop, (∀ w', Ext w w' → R (.bool true) w') → F22_den (.string s) w R from key _ fun _ hx => Tells.yes trivial hx
  intro R hR
  unfold F22_den
  refine V.ok (lenStr Tryz.underlying9) (V_lss.2 ?_)
  have e1 : ¬ (s.size : Int) < 1 := by omega
  simp only [e1, evL, reduceIte, Bool.false_eq_true, decide_false]
  refine V.ok (lenStr Tryz.underlying9) (V_gtr.2 ?_)
  have e2 : ¬ (s.size : Int) > 16 := by omega
  simp only [e2, evL, reduceIte, Bool.false_eq_true, decide_false]
  refine valid87 hT h1 h2 fun w1 x1 => V_not.2 ?_
  simp only [evL, Bool.not_true]
  refine V.ok (run_range_string _ _ _ Tryz.underlying9) ?_
  refine ⟨fun w' => ∃ p ∈ ps, w' = w1.iter s p, fun w' => mu fun q => ∃ p ∈ ps, w' = w1.iter s p ∧ s.size - p = q, ⟨0, h5, rfl⟩, ?_⟩
  rintro _ ⟨p0, hp0, rfl⟩ _
  obtain ⟨p, hp, hpe, hmu⟩ := mu_spec (p := fun q => ∃ p ∈ ps, w1.iter s p0 = w1.iter s p ∧ s.size - p = q) ⟨_, p0, hp0, rfl, rfl⟩
  rw [hpe]
  rw [hpe] at hmu
  by_cases hlt : p < s.size
  · obtain ⟨g1, g2, g3⟩ := h6 p hp hlt
    refine V.ok (run_next_dec _ _ _ _ hlt) (V_tup (v := .bool true) rfl (ifD_true.2 (V_tup (v := .int .i32 ((Utf8.decode s p).1 : Nat)) rfl ?_)))
    have hmu' : mu (fun q => ∃ p' ∈ ps, w1.iter s (p + (Utf8.decode s p).2) = w1.iter s p' ∧ s.size - p' = q) < mu (fun q => ∃ p' ∈ ps, w1.iter s p = w1.iter s p' ∧ s.size - p' = q) := by
      rw [← hmu]
      exact Nat.lt_of_le_of_lt (mu_le ⟨_, g2, rfl, rfl⟩) (by omega)
    generalize (Utf8.decode s p).2 = wd at *
    generalize (Utf8.decode s p).1 = c at *
    rcases rnB_cases g1 with ⟨h1, h2⟩ | ⟨h0, h1, h2⟩ | rfl | rfl | ⟨h1, h2⟩
    · have a1 : (c : Int) ≥ 97 := by omega
      have a2 : (c : Int) ≤ 122 := by omega
      simp only [a1, a2, evL, reduceIte, Bool.not_true, decide_true]
      exact ⟨⟨_, g2, rfl⟩, hmu'⟩
    · have a1 : ¬ (c : Int) ≥ 97 := by omega
      have a2 : (c : Int) ≥ 48 := by omega
      have a3 : (c : Int) ≤ 57 := by omega
      simp only [a1, a2, a3, evL, reduceIte, Bool.false_eq_true, Bool.not_true, decide_true, decide_false]; exact ⟨⟨_, g2, rfl⟩, hmu'⟩
    · simp only [show ((45 : Nat) : Int) = 45 from rfl, evL, Int.reduceGE, reduceIte, Bool.false_eq_true, Bool.not_true, decide_true, decide_false]; exact ⟨⟨_, g2, rfl⟩, hmu'⟩
    · simp only [show ((46 : Nat) : Int) = 46 from rfl, evL, Int.reduceEq, Int.reduceGE, reduceIte, Bool.false_eq_true, Bool.not_true, decide_true, decide_false]; exact ⟨⟨_, g2, rfl⟩, hmu'⟩
    · have a1 : (c : Int) ≥ 97 := by omega
      have a2 : ¬ (c : Int) ≤ 122 := by omega
      have a3 : (c : Int) ≥ 48 := by omega
      have a4 : ¬ (c : Int) ≤ 57 := by omega
      have a5 : ¬ (c : Int) = 45 := by omega
      have a6 : ¬ (c : Int) = 46 := by omega
      have a7 : (c : Int) ≥ 224 := by omega
      have a8 : (c : Int) ≤ 255 := by omega
      simp only [a1, a2, a3, a4, a5, a6, a7, a8, evL, reduceIte, Bool.false_eq_true, Bool.not_true, decide_true, decide_false]; exact ⟨⟨_, g2, rfl⟩, hmu'⟩
  · refine V.ok (run_next_end _ _ _ _ hlt) (V_tup rfl (ifD_false.2 ?_))
    exact hR _ (x1.trans ((Ext.refl _).alloc _))
theorem isName126 {s : ByteArray} {vs : List ByteArray} {ps : List Nat} (hT : Tabs w) (h : nmOk s vs ps) (hne : (s.toList == ({ data := #[] } : ByteArray).toList) = false) : callD Tryz.prog 19 #[.string s] w (Tells True w) := by
  obtain ⟨⟨h1, h2⟩, ⟨h3, h4⟩, h5, h6⟩ := h
  apply F19_wp
  suffices key : ∀ R : Value → World → Prop, (∀ w', Ext w w' → R (.bool true) w') → F19_den (.string s) w R from key _ fun _ hx => Tells.yes trivial hx
  intro R hR
  unfold F19_den
  refine V.ok r_eqStr ?_
  rw [hne]
  simp only [evL, reduceIte, Bool.false_eq_true]
  refine V.ok (lenStr Tryz.underlying9) (V_gtr.2 ?_)
  have e2 : ¬ (s.size : Int) > 16 := by omega
  simp only [e2, evL, reduceIte, Bool.false_eq_true, decide_false]
  refine valid87 hT h1 h2 fun w1 x1 => V_not.2 ?_
  simp only [evL, Bool.not_true]
  refine V.ok (run_range_string _ _ _ Tryz.underlying9) ?_
  refine ⟨fun w' => ∃ p ∈ ps, w' = w1.iter s p, fun w' => mu fun q => ∃ p ∈ ps, w' = w1.iter s p ∧ s.size - p = q, ⟨0, h5, rfl⟩, ?_⟩
  rintro _ ⟨p0, hp0, rfl⟩ _
  obtain ⟨p, hp, hpe, hmu⟩ := mu_spec (p := fun q => ∃ p ∈ ps, w1.iter s p0 = w1.iter s p ∧ s.size - p = q) ⟨_, p0, hp0, rfl, rfl⟩
  rw [hpe]
  rw [hpe] at hmu
  by_cases hlt : p < s.size
  · obtain ⟨g1, g2, g3⟩ := h6 p hp hlt
    refine V.ok (run_next_dec _ _ _ _ hlt) (V_tup (v := .bool true) rfl (ifD_true.2 (V_tup (v := .int .i32 ((Utf8.decode s p).1 : Nat)) rfl ?_)))
    refine isRune142 g1 (V_not.2 (ifD_false.2 ⟨⟨_, g2, rfl⟩, ?_⟩))
    show mu _ < mu _
    rw [← hmu]
    exact Nat.lt_of_le_of_lt (mu_le ⟨_, g2, rfl, rfl⟩) (by omega)
  · refine V.ok (run_next_end _ _ _ _ hlt) (V_tup rfl (ifD_false.2 ?_))
    exact hR _ (x1.trans ((Ext.refl _).alloc _))
def memB (t : ByteArray) (vs : List ByteArray) : Bool := vs.any fun u => decide (u.data = t.data)
theorem memB_ok {t : ByteArray} {vs : List ByteArray} (h : memB t vs = true) : t ∈ vs := by
  simp only [memB, List.any_eq_true, decide_eq_true_eq] at h
  obtain ⟨u, hu, he⟩ := h
  have : u = t := ByteArray.ext he
  subst this; exact hu
def sufBB (t : ByteArray) (vs : List ByteArray) : Bool :=
  decide (t.size ≤ 8) && (decide (t.size = 0) || (match t[0]? with
    | some c => (decide (c.toNat < 128) && memB (t.extract 1 t.size) vs) || (decide (c = 195) && (match t[1]? with
      | some d => decide (128 ≤ d.toNat ∧ d.toNat ≤ 191) && memB (t.extract 2 t.size) vs
      | none => false))
    | none => false))
theorem sufBB_ok {t : ByteArray} {vs : List ByteArray} (h : sufBB t vs = true) : sufB t vs := by
  simp only [sufBB, Bool.and_eq_true, Bool.or_eq_true, decide_eq_true_eq] at h
  refine ⟨h.1, ?_⟩
  rcases h.2 with h2 | h2
  · exact .inl h2
  · right
    cases h0 : t[0]? with
    | none => rw [h0] at h2; cases h2
    | some c =>
      rw [h0] at h2
      simp only [Bool.or_eq_true, Bool.and_eq_true, decide_eq_true_eq] at h2
      rcases h2 with ⟨a, b⟩ | ⟨a, b⟩
      · exact .inl ⟨c, rfl, a, memB_ok b⟩
      · subst a
        cases h1 : t[1]? with
        | none => rw [h1] at b; cases b
        | some d =>
          rw [h1] at b
          simp only [Bool.and_eq_true, decide_eq_true_eq] at b
          exact .inr ⟨d, rfl, rfl, b.1.1, b.1.2, memB_ok b.2⟩
def nmOkB (s : ByteArray) (vs : List ByteArray) (ps : List Nat) : Bool :=
  (memB s vs && vs.all fun t => sufBB t vs) && decide (1 ≤ s.size ∧ s.size ≤ 16) && decide (0 ∈ ps) && ps.all fun p => !decide (p < s.size) || (rnB (Utf8.decode s p).1 && decide (p + (Utf8.decode s p).2 ∈ ps) && decide (0 < (Utf8.decode s p).2))
theorem nmOkB_ok {s : ByteArray} {vs : List ByteArray} {ps : List Nat} (h : nmOkB s vs ps = true) : nmOk s vs ps := by
  simp only [nmOkB, Bool.and_eq_true, decide_eq_true_eq, List.all_eq_true] at h
  obtain ⟨⟨⟨⟨h1, h2⟩, h3⟩, h4⟩, h5⟩ := h
  refine ⟨⟨memB_ok h1, fun t ht => sufBB_ok (h2 t ht)⟩, h3, h4, fun p hp hlt => ?_⟩
  have := h5 p hp
  simp only [hlt, decide_true, Bool.not_true, Bool.false_or, Bool.and_eq_true, decide_eq_true_eq] at this
  exact ⟨this.1.1, this.1.2, this.2⟩
theorem nmB_ok {s : ByteArray} (h : s ∈ nmB) (hT : Tabs w) : NameOk w s := by
  have key : ∀ {vs : List ByteArray} {ps : List Nat}, nmOkB s vs ps = true → (s.toList == ({ data := #[] } : ByteArray).toList) = false → NameOk w s := fun h1 h2 w' hx => ⟨isName52 (hT.ext hx) (nmOkB_ok h1), isName126 (hT.ext hx) (nmOkB_ok h1) h2, (nmOkB_ok h1).2.1.2⟩
  simp only [nmB, List.mem_cons, List.not_mem_nil, or_false] at h
  rcases h with rfl | rfl | rfl | rfl
  · exact key (vs := [⟨#[97, 108, 112, 104, 97]⟩, ⟨#[108, 112, 104, 97]⟩, ⟨#[112, 104, 97]⟩, ⟨#[104, 97]⟩, ⟨#[97]⟩, ⟨#[]⟩]) (ps := [0, 1, 2, 3, 4, 5]) (by kernel_rfl) (by kernel_rfl)
  · exact key (vs := [⟨#[98, 195, 169, 116, 97]⟩, ⟨#[195, 169, 116, 97]⟩, ⟨#[116, 97]⟩, ⟨#[97]⟩, ⟨#[]⟩]) (ps := [0, 1, 3, 4, 5]) (by kernel_rfl) (by kernel_rfl)
  · exact key (vs := [⟨#[103, 45, 49]⟩, ⟨#[45, 49]⟩, ⟨#[49]⟩, ⟨#[]⟩]) (ps := [0, 1, 2, 3]) (by kernel_rfl) (by kernel_rfl)
  · exact key (vs := [⟨#[100, 46, 195, 191]⟩, ⟨#[46, 195, 191]⟩, ⟨#[195, 191]⟩, ⟨#[]⟩]) (ps := [0, 1, 2, 4]) (by kernel_rfl) (by kernel_rfl)
theorem name25 {n : Int} (hk : ∀ s ∈ nmB, K (.string s) w) : callD Tryz.prog 33 #[i64 n] w K := by
  apply F33_wp
  unfold F33_den
  refine bldA (v := .agg (nmB.map Value.string).toArray) (fun w => by kernel_rfl) ?_
  refine pick10 (by decide) (by decide) fun q hq0 hq1 => ?_
  have hc : q = 0 ∨ q = 1 ∨ q = 2 ∨ q = 3 := by omega
  rcases hc with rfl | rfl | rfl | rfl
  · exact V.ok (v := .string ⟨#[97, 108, 112, 104, 97]⟩) (w' := w) (by kernel_rfl) (hk _ (by simp [nmB]))
  · exact V.ok (v := .string ⟨#[98, 195, 169, 116, 97]⟩) (w' := w) (by kernel_rfl) (hk _ (by simp [nmB]))
  · exact V.ok (v := .string ⟨#[103, 45, 49]⟩) (w' := w) (by kernel_rfl) (hk _ (by simp [nmB]))
  · exact V.ok (v := .string ⟨#[100, 46, 195, 191]⟩) (w' := w) (by kernel_rfl) (hk _ (by simp [nmB]))
end Go.Proofs.YthblbcjgdbaonaaGreatDoor
namespace Go.Vc
section
variable {P : Program} {w : World} {K : Value → World → Prop}
theorem r_slN {t e sz : Nat} {z : Value} {by_ : Nat} (ht : P.underlying t = some (.slice e)) (hi : Inf P e z sz by_) {v : Value} {n : Nat} {cs : List Value} (h : SliceIs w v sz n cs) {lo hi' : Option Value} {a b : Nat} (ha : (lo = none ∧ a = 0) ∨ lo = some (.int .i64 a)) (hb : (hi' = none ∧ b = n) ∨ hi' = some (.int .i64 b)) (hab : a ≤ b) (hbn : b ≤ n) :
    ∃ v', (∀ w', (Instr.sliceAt t v lo hi' none).run P w' = .ok v' w') ∧ ∀ w2, SliceIs w2 v sz n cs → SliceIs w2 v' sz (b - a) ((cs.drop (a * sz)).take ((b - a) * sz)) := by
  have hcl : cs.length = n * sz := h.1
  have hmul : (b - a) * sz + a * sz ≤ n * sz := by rw [← Nat.add_mul]; exact Nat.mul_le_mul_right _ (by omega)
  rcases h.2 with ⟨rfl, h0⟩ | ⟨g, off, cap, rfl, h1, h2, _⟩
  · have ea : a = 0 := by omega
    have eb : b = 0 := by omega
    subst ea eb
    refine ⟨.slice none 0 0, fun w' => ?_, fun w2 _ => ?_⟩
    · rcases ha with ⟨rfl, _⟩ | rfl <;> rcases hb with ⟨rfl, _⟩ | rfl <;> simp [Instr.sliceAt, Instr.slice, run_underlying ht, run_size hi, Instr.sliceBounds, Instr.sliceBound, asIntOf]
    · simp
      exact SliceIs.nil w2 _
  · have hb1 : (0 : Int) ≤ b ∧ (b : Int) ≤ cap := ⟨by omega, by omega⟩
    have ha1 : (0 : Int) ≤ a ∧ (a : Int) ≤ b := ⟨by omega, by omega⟩
    have hbc : b ≤ cap := by omega
    refine ⟨.slice (if cap = a then some ⟨g, off, none⟩ else (some (⟨g, off, none⟩ : Addr)).map (·.add (a * sz))) (b - a) (cap - a), fun w' => ?_, fun w2 hw2 => ?_⟩
    · rcases ha with ⟨rfl, rfl⟩ | rfl <;> rcases hb with ⟨rfl, rfl⟩ | rfl <;> simp [Instr.sliceAt, Instr.slice, run_underlying ht, run_size hi, Instr.sliceBounds, Instr.sliceBound, asIntOf, hab, hbc]
    · refine ⟨by rw [List.length_take, List.length_drop]; omega, .inr ?_⟩
      by_cases hca : cap = a
      · rw [if_pos hca]
        have e0 : b - a = 0 := by omega
        exact ⟨g, off, cap - a, rfl, by omega, by omega, fun j u hj => by rw [e0] at hj; simp at hj⟩
      · rw [if_neg hca]
        rcases hw2.2 with ⟨he, _⟩ | ⟨g', off', cap', he, _, _, h3⟩
        · cases he
        · cases he
          refine ⟨g, off + a * sz, cap - a, by simp [add_mk], by omega, by omega, fun j u hj => ?_⟩
          rw [List.getElem?_take] at hj
          split at hj
          · rw [List.getElem?_drop] at hj
            have := h3 _ _ hj
            rw [Nat.add_assoc]; exact this
          · cases hj
end
end Go.Vc
namespace Go.Proofs.YthblbcjgdbaonaaGreatDoor
open Go.Vc Go.Tc
variable {w : World} {K : Value → World → Prop}
theorem StrsAre.part {α : Type} {T : World → List Value → α → Prop} {sz t e by_ : Nat} {z v : Value} {l : List α} (ht : Program.underlying Tryz.prog t = some (.slice e)) (hi : Inf Tryz.prog e z sz by_) (h : StrsAre T sz w v l) {lo hi' : Option Value} {a b : Nat} (ha : (lo = none ∧ a = 0) ∨ lo = some (.int .i64 a)) (hb : (hi' = none ∧ b = l.length) ∨ hi' = some (.int .i64 b)) (hab : a ≤ b) (hbn : b ≤ l.length) :
    ∃ v', (∀ w', (Instr.sliceAt t v lo hi' none).run Tryz.prog w' = .ok v' w') ∧ StrsAre T sz w v' ((l.drop a).take (b - a)) := by
  obtain ⟨cs, h1, h2⟩ := h
  obtain ⟨v', hr, hs⟩ := r_slN ht hi h1 ha hb hab hbn
  refine ⟨v', hr, (cs.drop (a * sz)).take ((b - a) * sz), ?_, fun k x hk => ?_⟩
  · have := hs w h1
    rwa [show ((l.drop a).take (b - a)).length = b - a by simp; omega]
  · rw [List.getElem?_take] at hk
    split at hk
    case isFalse => cases hk
    rename_i hlt
    rw [List.getElem?_drop] at hk
    obtain ⟨row, h3, h4⟩ := h2 (a + k) x hk
    refine ⟨row, ?_, h4⟩
    have hle : k * sz + sz ≤ (b - a) * sz := by
      have := Nat.mul_le_mul_right sz (show k + 1 ≤ b - a by omega)
      rw [Nat.add_mul, Nat.one_mul] at this; exact this
    have hmin : min sz ((b - a) * sz - k * sz) = sz := Nat.min_eq_left (by omega)
    rw [← h3, List.drop_take, List.drop_drop, List.take_take, Nat.add_mul, hmin]
theorem RwsAre.part {t e by_ : Nat} {z v : Value} {l : List Rw} (ht : Program.underlying Tryz.prog t = some (.slice e)) (hi : Inf Tryz.prog e z 4 by_) (h : RwsAre w v l) {lo hi' : Option Value} {a b : Nat} (ha : (lo = none ∧ a = 0) ∨ lo = some (.int .i64 a)) (hb : (hi' = none ∧ b = l.length) ∨ hi' = some (.int .i64 b)) (hab : a ≤ b) (hbn : b ≤ l.length) :
    ∃ v', (∀ w', (Instr.sliceAt t v lo hi' none).run Tryz.prog w' = .ok v' w') ∧ RwsAre w v' ((l.drop a).take (b - a)) := by
  by_cases h0 : 0 < l.length
  · obtain ⟨v', h1, h2⟩ := StrsAre.part ht hi (h.2 h0) ha hb hab hbn
    exact ⟨v', h1, RwsAre.of h2⟩
  · obtain ⟨⟨a0, c, rfl⟩, _⟩ := h
    have el : l = [] := List.length_eq_zero_iff.1 (by omega)
    subst el
    obtain rfl : a = 0 := by simp at hbn; omega
    obtain rfl : b = 0 := by simpa using hbn
    refine ⟨.slice (if c = 0 then a0 else a0.map (·.add (0 * 4))) 0 c, fun w' => ?_, ⟨_, _, rfl⟩, fun h => by simp at h⟩
    rcases ha with ⟨rfl, _⟩ | rfl <;> rcases hb with ⟨rfl, _⟩ | rfl <;> simp [Instr.sliceAt, Instr.slice, run_underlying ht, run_size hi, Instr.sliceBounds, Instr.sliceBound, asIntOf]
theorem stOF {t s f o ft sz n g cap B e : Nat} {ez fz : Value} {eb fb : Nat} {xs : List Value} {k : Nat} {u : Value} {K' : World → Prop} (_ : Program.underlying Tryz.prog t = some (.slice e)) (_ : Inf Tryz.prog e ez sz eb) (_ : FA Tryz.prog s f o) (hft : Inf Tryz.prog ft fz 1 fb)
    (ho : w.ownsRow B e sz (.slice (some ⟨g, 0, none⟩) n cap) n xs) (hk : k < n) (hos : o < sz) (hu : oneC u = true) (hK : ∀ w', w' = w.setCell ⟨g, k * sz + o, none⟩ u → w'.ownsRow B e sz (.slice (some ⟨g, 0, none⟩) n cap) n (xs.set (k * sz + o) u) → Fr (fun i => i = g) w w' → K' w') :
    U Tryz.prog (Instr.storeAt ft (.pointer (some ⟨g, 0 + k * sz + o, none⟩)) u) w fun _ w2 => K' w2 := by
  have hle : k * sz + sz ≤ n * sz := by
    have := Nat.mul_le_mul_right sz (show k + 1 ≤ n by omega)
    rw [Nat.add_mul, Nat.one_mul] at this; exact this
  obtain ⟨s1, s2⟩ := ho.stored (k * sz + o) u
  have hc := ho.cellAt (k * sz + o) (by omega)
  have hlt : k * sz + o < xs.length := by rw [ho.1]; omega
  rw [List.getElem?_eq_getElem hlt] at hc
  rw [Nat.zero_add]
  exact U.ok (r_store hft hu hc (ho.frozenAt _)) (hK _ rfl s1 (Fr.of_set rfl))
end Go.Proofs.YthblbcjgdbaonaaGreatDoor
namespace Go.Proofs.YthblbcjgdbaonaaGreatDoor
open Go.Vc Go.Tc
variable {w : World} {K : Value → World → Prop}
def apMs (code : Nat → List Ins) : List Mth := [⟨[], 0, [1, 2, 3, 4], code 0⟩, ⟨[1, 2], 2, [1, 2, 3, 4], code 1⟩, ⟨[4, 3], 3, [1, 2], code 2⟩]
def apIs (n1 n2 : ByteArray) : List Imp := [⟨n1, 0, [1, 2], 2⟩, ⟨n2, 1, [4, 3], 3⟩]
def apC (lv p1 p2 lv3 : Value) (c : Nat → Value) : List Value := [nilS, i64 0, lv, c 0, p1, i64 2, lv, c 1, p2, i64 3, lv3, c 2]
theorem apMths {mv lv p1 p2 lv3 : Value} {c : Nat → Value} {code : Nat → List Ins} (h : SliceIs w mv 4 3 (apC lv p1 p2 lv3 c)) (hl : IntsAre w lv [1, 2, 3, 4]) (h1 : IntsAre w p1 [1, 2]) (h2 : IntsAre w p2 [4, 3]) (h3 : IntsAre w lv3 [1, 2]) (hc : ∀ k, k < 3 → InsAre w (c k) (code k)) : MthsAre w mv (apMs code) := by
  refine ⟨_, h, fun k x hk => ?_⟩
  match k, hk with
  | 0, hk => cases hk; exact ⟨_, rfl, nilS, lv, c 0, rfl, SliceIs.nil _ _, hl, hc 0 (by decide)⟩
  | 1, hk => cases hk; exact ⟨_, rfl, p1, lv, c 1, rfl, h1, hl, hc 1 (by decide)⟩
  | 2, hk => cases hk; exact ⟨_, rfl, p2, lv3, c 2, rfl, h2, h3, hc 2 (by decide)⟩
  | k + 3, hk => simp [apMs] at hk
theorem apImps {iv q1 q2 : Value} {n1 n2 : ByteArray} (h : SliceIs w iv 4 2 [.string n1, i64 0, q1, i64 2, .string n2, i64 1, q2, i64 3]) (h1 : IntsAre w q1 [1, 2]) (h2 : IntsAre w q2 [4, 3]) : ImpsAre w iv (apIs n1 n2) := by
  refine ⟨_, h, fun k x hk => ?_⟩
  match k, hk with
  | 0, hk => cases hk; exact ⟨_, rfl, q1, rfl, h1⟩
  | 1, hk => cases hk; exact ⟨_, rfl, q2, rfl, h2⟩
  | k + 2, hk => simp [apIs] at hk
theorem chg_fr {g : Nat} {w' : World} (h : Chg w g w') : Fr (fun k => k = g) w w' := Fr.of_grown h.grown fun k hk => by cases hk; rfl
structure Row (g4 gi : Nat) (w : World) (v : Value) (l : List Int) : Prop where
  own : w.ownsRow (g4 + 1) 3 1 v l.length (l.map i64)
  ne : ∀ k, v.ownBlock = some k → k ≠ gi
theorem Row.ext {g4 gi : Nat} {w' : World} {v : Value} {l : List Int} (h : Row g4 gi w v l) (hx : Ext w w') : Row g4 gi w' v l := ⟨hx.own h.own, h.ne⟩
theorem Row.fr {g4 gi N : Nat} {w' : World} {v : Value} {l : List Int} (h : Row g4 gi w v l) (f : Fr (fun k => k = gi ∨ k ≤ g4 ∨ N ≤ k) w w') (hN : w.heap.size ≤ N) : Row g4 gi w' v l :=
  ⟨f.own h.own fun k hk hS => by have := h.own.lt k hk; have := h.ne k hk; omega, h.ne⟩
theorem Row.ints {g4 gi : Nat} {v : Value} {l : List Int} (h : Row g4 gi w v l) : IntsAre w v l := SliceIs.of_own h.own
theorem one_i (n : Int) : oneC (i64 n) = true := rfl
theorem one_s (s : ByteArray) : oneC (.string s) = true := rfl
theorem one_l (a : Option Addr) (n c : Nat) : oneC (.slice a n c) = true := rfl
theorem apM_small {code : Nat → List Ins} {j : Nat} {m : Mth} (h : (apMs code)[j]? = some m) : m.params.length ≤ 4 ∧ m.locals.length ≤ 4 := by
  match j, h with
  | 0, hm => cases hm; exact ⟨by simp, by simp⟩
  | 1, hm => cases hm; exact ⟨by simp, by simp⟩
  | 2, hm => cases hm; exact ⟨by simp, by simp⟩
  | k + 3, hm => simp [apMs] at hm
theorem apC_set {lv p1 p2 lv3 v : Value} {c : Nat → Value} {j : Nat} (h : j < 3) : (apC lv p1 p2 lv3 c).set (j * 4 + 3) v = apC lv p1 p2 lv3 (fun k => if k = j then v else c k) := by
  match j, h with
  | 0, _ => rfl
  | 1, _ => rfl
  | 2, _ => rfl
theorem apMths' {mv lv p1 p2 lv3 : Value} {c : Nat → Value} {code : Nat → List Ins} (h : SliceIs w mv 4 3 (apC lv p1 p2 lv3 c)) (hl : IntsAre w lv [1, 2, 3, 4]) (h1 : IntsAre w p1 [1, 2]) (h2 : IntsAre w p2 [4, 3]) (h3 : IntsAre w lv3 [1, 2]) (hc : ∀ k, k < 3 → InsAre w (c k) (code k)) :
    SliceIs w mv 4 3 (apC lv p1 p2 lv3 c) ∧ ∀ (k : Nat) (x : Mth), (apMs code)[k]? = some x → MthIs w (((apC lv p1 p2 lv3 c).drop (k * 4)).take 4) x := by
  refine ⟨h, fun k x hk => ?_⟩
  match k, hk with
  | 0, hk => cases hk; exact ⟨nilS, lv, c 0, rfl, SliceIs.nil _ _, hl, hc 0 (by decide)⟩
  | 1, hk => cases hk; exact ⟨p1, lv, c 1, rfl, h1, hl, hc 1 (by decide)⟩
  | 2, hk => cases hk; exact ⟨p2, lv3, c 2, rfl, h2, h3, hc 2 (by decide)⟩
  | k + 3, hk => simp [apMs] at hk
end Go.Proofs.YthblbcjgdbaonaaGreatDoor
namespace Go.Proofs.YthblbcjgdbaonaaGreatDoor
open Go.Vc Go.Tc
variable {w : World} {K : Value → World → Prop}
set_option maxHeartbeats 4000000 in
theorem applet9 {n : Int} {rv : Value} {rl : List Rw} (hr : RwsAre w rv rl) (hb : BinsOk w) (hT : Tabs w) (rn : rl.length ≤ 5000000000000)
    (hk : ∀ p i w', ImgAt w' p i → NamesOk w' i → i.rg → i.methods.length = 3 → (∀ m ∈ i.methods, m.code.length ≤ 700000) → (∀ w'', Fr (fun k => k < w.heap.size) w' w'' → Tabs w'' → ImgAt w'' p i ∧ NamesOk w'' i) → (∃ cs : List Value, ∀ w'', Fr (fun k => k < w.heap.size) w' w'' → SliceIs w'' p.mv 4 i.methods.length cs ∧ ∀ (k : Nat) (x : Mth), i.methods[k]? = some x → MthIs w'' ((cs.drop (k * 4)).take 4) x) → Ext w w' → K (p.val i) w') : callD Tryz.prog 29 #[i64 n, rv] w K := by
  apply F29_wp
  unfold F29_den
  refine alK inf61 fun w1 hB4 x1 => ?_
  have hlt4 := hB4.lt
  have hg4 : w.heap.size ≤ w.heap.size := Nat.le_refl _
  generalize hgg4 : w.heap.size = g4 at hB4 hg4 hlt4
  refine bsl xe_57 [i64 1, i64 2, i64 3, i64 4] rfl rfl (by simp) rfl fun lv w2 hol x2 => ?_
  refine name25 fun nm hnm => ?_
  refine bsl xe_57 [i64 1, i64 2, i64 3, i64 4] rfl rfl (by simp) rfl fun fv w3 hof x3 => ?_
  refine bsl xe_57 [i64 1, i64 2] rfl rfl (by simp) rfl fun xv w4 hox x4 => ?_
  have o1 := own_oneM hof; have o2 := own_oneM hox
  refine bld bd_61 [(0, .string nm), (1, fv), (4, xv)] rfl (by simp [o1, o2, one_s]) ?_
  refine asK sa_61 rfl (show ([.string nm, fv, nilS, nilS, xv] : List Value).all oneC = true by simp [o1, o2, one_s, one_l]) fun w5 hBi x5 => ?_
  have hBi : Blk w5 w4.heap.size [.string nm, fv, nilS, nilS, xv] 61 := hBi
  have s1 := x1.size; have s2 := x2.size; have s3 := x3.size; have s4 := x4.size; have s5 := x5.size
  have R0 : ∀ {v : Value} {l : List Int} {wa wb : World}, wb.ownsRow wa.heap.size 3 1 v l.length (l.map i64) → w1.heap.size ≤ wa.heap.size → wb.heap.size ≤ w4.heap.size → Row g4 w4.heap.size wb v l := fun ho h1 h2 => ⟨own_mono ho (by omega), fun k hk => by have := (ho.lt k hk).2; omega⟩
  have rl5 : Row g4 w4.heap.size w5 lv [1, 2, 3, 4] := (R0 (l := [1, 2, 3, 4]) hol (by omega) (by omega)).ext ((x3.trans x4).trans x5)
  have rf5 : Row g4 w4.heap.size w5 fv [1, 2, 3, 4] := (R0 (l := [1, 2, 3, 4]) hof (by omega) (by omega)).ext (x4.trans x5)
  have rx5 : Row g4 w4.heap.size w5 xv [1, 2] := (R0 (l := [1, 2]) hox (by omega) (by omega)).ext x5
  clear R0 hol hof hox
  have x15 := (((x2.trans x3).trans x4).trans x5)
  have hB4 := hB4.ext x15
  have hgi4 : g4 ≠ w4.heap.size := by omega
  have hiw : w4.heap.size < w5.heap.size := hBi.lt
  have hiw0 : w.heap.size ≤ w4.heap.size := by omega
  have x05 := x1.trans x15
  have hr0 := hr
  have hr := hr.ext x05
  generalize w4.heap.size = gi at *
  have R1 : ∀ {v : Value} {l : List Int} {wa wb : World}, wb.ownsRow wa.heap.size 3 1 v l.length (l.map i64) → w5.heap.size ≤ wa.heap.size → Row g4 gi wb v l := fun ho h1 => ⟨own_mono ho (by omega), fun k hk => by have := (ho.lt k hk).1; omega⟩
  refine V_add.2 (name25 fun n1 hn1 => ?_)
  refine bsl xe_57 [i64 1, i64 2] rfl rfl (by simp) rfl fun q1 w6 hq1 x6 => ?_
  have s6 := x6.size
  have rq1 : Row g4 gi w6 q1 [1, 2] := R1 (l := [1, 2]) hq1 (by omega)
  have oq1 := own_oneM hq1
  refine bld bd_91 [(0, .string n1), (1, i64 0), (2, q1), (3, i64 2)] rfl (by simp [oq1, one_i, one_s]) ?_
  refine V_add.2 (lnR xa_22 (hr.ext x6) ?_)
  refine pick10 (by decide) (by decide) fun _ _ _ => V_add.2 (name25 fun n2 hn2 => ?_)
  refine bsl xe_57 [i64 4, i64 3] rfl rfl (by simp) rfl fun q2 w7 hq2 x7 => ?_
  have s7 := x7.size
  have rq2 : Row g4 gi w7 q2 [4, 3] := R1 (l := [4, 3]) hq2 (by omega)
  have oq2 := own_oneM hq2
  refine bld bd_91 [(0, .string n2), (1, i64 1), (2, q2), (3, i64 3)] rfl (by simp [oq2, one_i, one_s]) ?_
  refine bslG Tryz.underlying58 inf91 rfl (by decide) [.agg #[.string n1, i64 0, q1, i64 2], .agg #[.string n2, i64 1, q2, i64 3]] rfl rfl (by intro v hv; simp only [List.mem_cons, List.not_mem_nil, or_false] at hv; rcases hv with rfl | rfl <;> rfl) (by decide) (by decide) fun iv w8 hoi x8 => ?_
  have s8 := x8.size
  have hoi : w8.ownsRow w7.heap.size 91 4 iv 2 [.string n1, i64 0, q1, i64 2, .string n2, i64 1, q2, i64 3] := hoi
  have x58 := (x6.trans x7).trans x8
  refine stF fa_61_2 inf58 (hBi.ext x58) (n := 5) rfl (by decide) (own_oneM hoi) ?_
  have hB9 : Blk (w8.setCell ⟨gi, 2, none⟩ iv) gi [.string nm, fv, iv, nilS, xv] 61 := (hBi.ext x58).set 2 iv
  have f9 : Fr (fun k => k = gi ∨ k ≤ g4 ∨ w8.heap.size ≤ k) w8 (w8.setCell ⟨gi, 2, none⟩ iv) := Fr.of_set (.inl rfl)
  have rl9 := (rl5.ext x58).fr f9 (Nat.le_refl _)
  have rf9 := (rf5.ext x58).fr f9 (Nat.le_refl _)
  have rx9 := (rx5.ext x58).fr f9 (Nat.le_refl _)
  have rq19 := (rq1.ext (x7.trans x8)).fr f9 (Nat.le_refl _)
  have rq29 := (rq2.ext x8).fr f9 (Nat.le_refl _)
  have hoi9 := f9.own hoi fun k hk hS => by have := hoi.lt k hk; omega
  have hB49 : Blk (w8.setCell ⟨gi, 2, none⟩ iv) g4 _ _ := (hB4.ext x58).other hgi4
  have f59 : Ext w (w8.setCell ⟨gi, 2, none⟩ iv) := (x05.trans x58).setCell hiw0 iv
  have xr9 : ∀ {w'}, Fr (fun k => k = gi ∨ k = g4 ∨ w8.heap.size ≤ k) (w8.setCell ⟨gi, 2, none⟩ iv) w' → Ext w w' := fun f => f.ext f59 fun k hk => by omega
  have sz9 : (w8.setCell ⟨gi, 2, none⟩ iv).heap.size = w8.heap.size := by simp
  generalize w8.setCell ⟨gi, 2, none⟩ iv = w9 at *
  have hoi0 := hoi
  clear rl5 rf5 rx5 rq1 rq2 hoi hB4 hBi hq1 hq2 f9
  have ol := own_oneM rl9.own
  refine bld bd_94 [(2, lv)] rfl (by simp [ol]) ?_
  refine bsl xe_57 [i64 1, i64 2] rfl rfl (by simp) rfl fun p1 w10 hp1 x10 => ?_
  have s10 := x10.size
  have rp1 : Row g4 gi w10 p1 [1, 2] := R1 (l := [1, 2]) hp1 (by omega)
  have op1 := own_oneM hp1
  refine bld bd_94 [(0, p1), (1, i64 2), (2, lv)] rfl (by simp [ol, op1, one_i]) ?_
  refine bsl xe_57 [i64 4, i64 3] rfl rfl (by simp) rfl fun p2 w11 hp2 x11 => ?_
  have s11 := x11.size
  have rp2 : Row g4 gi w11 p2 [4, 3] := R1 (l := [4, 3]) hp2 (by omega)
  have op2 := own_oneM hp2
  obtain ⟨lv3, urun, usl⟩ := r_sl Tryz.underlying57 inf3 rl9.ints (lo := none) (hi' := some (.int .i64 ((2 : Nat) : Int))) (a := 0) (b := 2) (.inl ⟨rfl, rfl⟩) (.inr rfl) (by decide) (by decide)
  refine V.ok (urun _) ?_
  have ol3 : oneC lv3 = true := by obtain ⟨a, c, rfl⟩ := (usl _ rl9.ints).shape; rfl
  refine bld bd_94 [(0, p2), (1, i64 3), (2, lv3)] rfl (by simp [ol3, op2, one_i]) ?_
  refine bslG Tryz.underlying59 inf94 rfl (by decide) [.agg #[nilS, i64 0, lv, nilS], .agg #[p1, i64 2, lv, nilS], .agg #[p2, i64 3, lv3, nilS]] rfl rfl (by intro v hv; simp only [List.mem_cons, List.not_mem_nil, or_false] at hv; rcases hv with rfl | rfl | rfl <;> rfl) (by decide) (by decide) fun mv w12 hom x12 => ?_
  have s12 := x12.size
  have hom : w12.ownsRow w11.heap.size 94 4 mv 3 (apC lv p1 p2 lv3 fun _ => nilS) := hom
  obtain ⟨gm, cap, rfl⟩ : ∃ gm cap, mv = .slice (some ⟨gm, 0, none⟩) 3 cap := by
    rcases hom.2 with ⟨_, e⟩ | ⟨gm, cap, cur, rfl, _⟩
    · cases e
    · exact ⟨gm, cap, rfl⟩
  have hgm := hom.lt gm rfl
  have x9b := x10.trans x11
  have x9c := x9b.trans x12
  refine stF fa_61_3 inf59 (hB9.ext x9c) (n := 5) rfl (by decide) rfl ?_
  have hBC : Blk (w12.setCell ⟨gi, 3, none⟩ (.slice (some ⟨gm, 0, none⟩) 3 cap)) gi [.string nm, fv, iv, .slice (some ⟨gm, 0, none⟩) 3 cap, xv] 61 := (hB9.ext x9c).set 3 _
  have fC : Fr (fun k => k = gi ∨ k = g4 ∨ w11.heap.size ≤ k) w11 (w12.setCell ⟨gi, 3, none⟩ (.slice (some ⟨gm, 0, none⟩) 3 cap)) := (Fr.of_ext x12).set (.inl rfl)
  have homC : (w12.setCell ⟨gi, 3, none⟩ (.slice (some ⟨gm, 0, none⟩) 3 cap)).ownsRow w11.heap.size 94 4 (.slice (some ⟨gm, 0, none⟩) 3 cap) 3 (apC lv p1 p2 lv3 fun _ => nilS) := (Fr.of_set (S := fun k => k = gi) rfl).own hom fun k hk hS => by have := hom.lt k hk; omega
  have hB4C : Blk (w12.setCell ⟨gi, 3, none⟩ (.slice (some ⟨gm, 0, none⟩) 3 cap)) g4 _ _ := (hB49.ext x9c).other hgi4
  have szC : (w12.setCell ⟨gi, 3, none⟩ (.slice (some ⟨gm, 0, none⟩) 3 cap)).heap.size = w12.heap.size := by simp
  generalize w12.setCell ⟨gi, 3, none⟩ (.slice (some ⟨gm, 0, none⟩) 3 cap) = wC at *
  have hb11 : Ext w w11 := (Ext.refl w).trans (f59.trans x9b)
  have hr0 : ∀ {w'}, Ext w w' → RwsAre w' rv rl := fun hx => (hr0 : RwsAre w rv rl).ext hx
  have hall : ∀ {w'}, Fr (fun k => k = gi ∨ k ≤ g4 ∨ w11.heap.size ≤ k) w11 w' → IntsAre w' fv [1, 2, 3, 4] ∧ IntsAre w' xv [1, 2] ∧ IntsAre w' lv [1, 2, 3, 4] ∧ IntsAre w' p1 [1, 2] ∧ IntsAre w' p2 [4, 3] ∧ IntsAre w' lv3 [1, 2] ∧ ImpsAre w' iv (apIs n1 n2) := by
    intro w' f
    have hN := Nat.le_refl w11.heap.size
    have hl := ((rl9.ext x9b).fr f hN).ints
    refine ⟨((rf9.ext x9b).fr f hN).ints, ((rx9.ext x9b).fr f hN).ints, hl, ((rp1.ext x11).fr f hN).ints, (rp2.fr f hN).ints, usl w' hl, apImps (SliceIs.of_own (f.own (x9b.own hoi9) fun k hk hS => ?_)) ((rq19.ext x9b).fr f hN).ints ((rq29.ext x9b).fr f hN).ints⟩
    have := (x9b.own hoi9).lt k hk
    omega
  have hallX : ∀ {w'}, Fr (fun k => k = gi ∨ k = g4 ∨ w11.heap.size ≤ k) w11 w' → Ext w w' := fun f => f.ext hb11 fun k hS => by omega
  have hS : ∀ {w'}, Fr (fun k => k = gi ∨ k = g4 ∨ w11.heap.size ≤ k) w11 w' → Fr (fun k => k = gi ∨ k ≤ g4 ∨ w11.heap.size ≤ k) w11 w' := fun f => f.mono fun k hk => by omega
  clear rl9 rf9 rx9 rq19 rq29 hoi9 rp1 rp2 hB9 hB49 hom usl urun hp1 hp2
  refine lnR xa_22 (hr0 (hallX fC)) ?_
  have hgmC : gm < wC.heap.size := by omega
  refine ⟨fun v w' => ∃ (j : Nat) (c : Nat → Value) (code : Nat → List Ins), v = i64 j ∧ j ≤ 3 ∧ Fr (fun k => k = gi ∨ k = g4 ∨ w11.heap.size ≤ k) w11 w' ∧ wC.heap.size ≤ w'.heap.size ∧ Blk w' gi [.string nm, fv, iv, .slice (some ⟨gm, 0, none⟩) 3 cap, xv] 61 ∧ Blk w' g4 [.string ByteArray.empty, nilS, nilS, nilS, nilS] 61 ∧ w'.ownsRow w11.heap.size 94 4 (.slice (some ⟨gm, 0, none⟩) 3 cap) 3 (apC lv p1 p2 lv3 c) ∧ ∀ k, w'.ownsRow (gm + 1) 97 3 (c k) (code k).length (insC (code k)) ∧ (∀ x ∈ code k, x.rg) ∧ (code k).length ≤ 700000,
    fun v _ => 3 - (RowKit.intOf v).toNat, ⟨0, fun _ => nilS, fun _ => [], rfl, Nat.zero_le _, fC, Nat.le_refl _, hBC, hB4C, homC, fun k => ⟨World.ownsRow_nil _ _ _ _, fun _ h => by simp at h, Nat.zero_le _⟩⟩, ?_⟩
  clear hBC hB4C homC fC
  rintro _ wD ⟨j, c, code, rfl, hj, f, hsz, hBi, hB4, hom, hcs⟩ _
  obtain ⟨rf, rx, rl', rp1, rp2, rl3, rim⟩ := hall (hS f)
  have xw := hallX f
  have hms : MthsAre wD (.slice (some ⟨gm, 0, none⟩) 3 cap) (apMs code) := apMths (SliceIs.of_own hom) rl' rp1 rp2 rl3 fun k _ => SliceIs.of_own (hcs k).1
  refine V_lss.2 (ifD_dec (fun hlt => ?_) fun hge => ?_)
  · have hrD := hr0 xw
    have e1 : ∀ m : Nat, m ≤ 3 → V Tryz.prog (binOp .mul 3 (i64 m) (i64 rl.length)) wD = V Tryz.prog (binOp .mul 3 (i64 m) (i64 rl.length)) wD := fun _ _ => rfl
    have e2 : ∀ m : Nat, m ≤ 3 → IntKind.i64.wrap ((m : Int) * (rl.length : Int)) = ((m * rl.length : Nat) : Int) := fun m hm => by
      have : m * rl.length ≤ 3 * rl.length := Nat.mul_le_mul_right _ hm
      rw [← Int.natCast_mul]
      exact wrap_id (by omega) (by omega)
    have e3 : ∀ (m d : Nat), m ≤ 15000000000000 → IntKind.i64.wrap (((m : Nat) : Int).tdiv ((d : Nat) : Int)) = ((m / d : Nat) : Int) := fun m d hm => by
      have h1 : ((m : Nat) : Int).tdiv ((d : Nat) : Int) = ((m / d : Nat) : Int) := by
        rw [Int.tdiv_eq_ediv_of_nonneg (by omega)]; rfl
      have h2 : m / d ≤ m := Nat.div_le_self _ _
      rw [h1]
      clear h1
      generalize m / d = q at *
      exact wrap_id (by omega) (by omega)
    have e4 : ∀ a b : Nat, min ((a : Nat) : Int) ((b : Nat) : Int) = ((min a b : Nat) : Int) := fun a b => by omega
    have hj3 : j * rl.length ≤ 3 * rl.length := Nat.mul_le_mul_right _ hj
    have hj4 : (j + 1) * rl.length ≤ 3 * rl.length := Nat.mul_le_mul_right _ (by omega)
    refine V_mul.2 ?_
    rw [e2 j hj]
    refine (V_quo (by decide)).2 ?_
    rw [show (3 : Int) = ((3 : Nat) : Int) from rfl, e3 _ 3 (by omega)]
    refine V.ok r_min (V_add.2 ?_)
    rw [e4, wrap_id (n := (j : Int) + 1) (by omega) (by omega), i64_succ]
    refine V_mul.2 ?_
    rw [e2 (j + 1) (by omega)]
    refine (V_quo (by decide)).2 ?_
    rw [e3 _ 3 (by omega)]
    refine V.ok r_min ?_
    rw [e4]
    have hd1 : j * rl.length / 3 ≤ (j + 1) * rl.length / 3 := Nat.div_le_div_right (Nat.mul_le_mul_right _ (by omega))
    obtain ⟨v1, r1, hs1⟩ := RwsAre.part Tryz.underlying22 inf143 hrD (lo := some (.int .i64 ((min rl.length (j * rl.length / 3) : Nat) : Int))) (hi' := some (.int .i64 ((min rl.length ((j + 1) * rl.length / 3) : Nat) : Int))) (.inr rfl) (.inr rfl) (by omega) (by omega)
    refine V.ok (r1 _) ?_
    refine ⟨fun v w' => ∃ l, RwsAre wD v l ∧ l.length ≤ 5000000000000 ∧ w' = wD, V_eqlI.2 (ifD_dec (fun hz => ?_) fun hz => ⟨_, hs1, by simp; omega, rfl⟩), ?_⟩
    · refine (V_quo (by decide)).2 ?_
      rw [show (2 : Int) = ((2 : Nat) : Int) from rfl, e3 _ 2 (by omega)]
      refine V.ok r_min ?_
      rw [e4]
      obtain ⟨v2, r2, hs2⟩ := RwsAre.part Tryz.underlying22 inf143 hrD (lo := none) (hi' := some (.int .i64 ((min rl.length (rl.length / 2) : Nat) : Int))) (a := 0) (.inl ⟨rfl, rfl⟩) (.inr rfl) (by omega) (by omega)
      exact V.ok (r2 _) ⟨_, hs2, by simp; omega, rfl⟩
    rintro v3 wD' ⟨l, hl, hll, hwD⟩ _
    have hwD := hwD.symm
    subst hwD
    have D1 : Ext wD wD.drew := (Ext.refl _).drew
    have hBid := hBi.ext D1
    obtain ⟨m, hm⟩ := ex_get (l := apMs code) (j := j) (by simp [apMs]; omega)
    refine drawD.mk' (fun w' => Ext wD.drew w') (Ext.refl _) ?_
    refine yfB (fun w' hx => Blk.boxed (hBid.ext hx)) fa_61_3 l1_59 rfl ?_
    refine yfB (fun w' hx => Blk.boxed (hBid.ext hx)) fa_61_3 l1_59 rfl ?_
    refine ySS xa_59 la_94 (hms.ext D1) (fun _ h => h) hm mth_len fun row hrow => ?_
    refine yfB (fun w' hx => Blk.boxed (hBid.ext hx)) fa_61_3 l1_59 rfl ?_
    refine yfB (fun w' hx => Blk.boxed (hBid.ext hx)) fa_61_2 l1_58 rfl ?_
    have xwd := xw.trans D1
    have hmp := apM_small hm
    refine code26 (hl.ext D1) hrow (hms.ext D1) (rim.ext D1) (fun q hq => ?_) hll (by omega) (by omega) ⟨by simp [apMs], by simp [apMs]⟩ (by simp [apMs]) (by simp [apIs]) (by simp [apIs]) fun v4 code4 wE ho4 hrg4 hlen4 xE => ⟨xE, ?_⟩
    · obtain ⟨z, hz⟩ := hb q hq
      exact ⟨z, xwd.cell hz⟩
    have x3E := D1.trans xE
    refine yieldS.ok (fun w' _ => r_index Tryz.underlying59 inf94 (by omega) (by omega)) ?_
    refine yieldS.ok (fun w' _ => FA.ex fa_94_3 w' _ _) ?_
    rw [Int.toNat_natCast]
    refine stOF Tryz.underlying59 inf94 fa_94_3 inf92 (x3E.own hom) (by omega) (by decide) (own_oneM ho4) fun wF hwF hoF fF => V_add.2 ?_
    rw [wrap_id (by omega) (by omega), i64_succ]
    have sE := x3E.size
    have sD := D1.size
    have sF := fF.size
    rw [apC_set (by omega)] at hoF
    refine ⟨⟨j + 1, fun k => if k = j then v4 else c k, fun k => if k = j then code4 else code k, rfl, by omega, (f.trans (Fr.of_ext x3E) fun _ _ h => h).trans fF fun k _ hk => by omega, by omega, fF.blk (hBi.ext x3E) (by omega), fF.blk (hB4.ext x3E) (by omega), hoF, fun k => ?_⟩, by simp only [intOf_i64]; omega⟩
    by_cases hkj : k = j
    · simp only [hkj, if_true]
      exact ⟨own_mono (fF.own ho4 fun q hq hS => by have := (ho4.lt q hq).1; omega) (by omega), hrg4, hlen4⟩
    · simp only [hkj, if_false]
      obtain ⟨c1, c2, c3⟩ := hcs k
      exact ⟨fF.own (x3E.own c1) fun q hq hS => by have := (c1.lt q hq).1; omega, c2, c3⟩
  · refine ldA (Blk.boxed hBi) la_61 rfl ?_
    refine stA inf61 hB4 (l := [.string nm, fv, iv, .slice (some ⟨gm, 0, none⟩) 3 cap, xv]) rfl rfl rfl (by simp [o1, o2, own_oneM hoi0, one_s, one_l]) fun wE hBE hc => ?_
    refine ⟨_, r_var Tryz.underlying61 rfl inf61 hBE rfl, ⟨_, rfl⟩, ?_⟩
    have fE : Fr (fun k => k = gi ∨ k = g4 ∨ w11.heap.size ≤ k) w11 wE := f.trans ((chg_fr hc).mono fun k hk => .inr (.inl hk)) fun _ _ h => h
    have xw := hallX fE
    have hg4m : g4 < gm := by omega
    have homE := (chg_fr hc).own hom fun k hk hS => by have := (hom.lt k hk).1; omega
    have hcsE : ∀ k, wE.ownsRow (gm + 1) 97 3 (c k) (code k).length (insC (code k)) := fun k => (chg_fr hc).own (hcs k).1 fun q hq hS => by have := ((hcs k).1.lt q hq).1; omega
    have stay : ∀ w'', Fr (fun k => k < g4) wE w'' → Tabs w'' → ImgAt w'' ⟨fv, iv, .slice (some ⟨gm, 0, none⟩) 3 cap, xv⟩ ⟨nm, [1, 2, 3, 4], apIs n1 n2, apMs code, [1, 2]⟩ ∧ NamesOk w'' ⟨nm, [1, 2, 3, 4], apIs n1 n2, apMs code, [1, 2]⟩ := by
      intro w'' f'' hT''
      have f3 : Fr (fun k => k = gi ∨ k ≤ g4 ∨ w11.heap.size ≤ k) w11 w'' := (hS fE).trans f'' fun k _ hk => by omega
      obtain ⟨rf, rx, rl', rp1, rp2, rl3, rim⟩ := hall f3
      refine ⟨⟨rf, rim, apMths (SliceIs.of_own (f''.own homE fun k hk hS => by have := (homE.lt k hk).1; omega)) rl' rp1 rp2 rl3 fun k _ => SliceIs.of_own (f''.own (hcsE k) fun q hq hS => by have := ((hcsE k).lt q hq).1; omega), rx⟩, nmB_ok hnm hT'', fun x hx => ?_⟩
      simp only [apIs, List.mem_cons, List.not_mem_nil, or_false] at hx
      rcases hx with rfl | rfl
      · exact nmB_ok hn1 hT''
      · exact nmB_ok hn2 hT''
    have stayM : ∃ cs : List Value, ∀ w'', Fr (fun k => k < g4) wE w'' → SliceIs w'' (.slice (some ⟨gm, 0, none⟩) 3 cap) 4 3 cs ∧ ∀ (k : Nat) (x : Mth), (apMs code)[k]? = some x → MthIs w'' ((cs.drop (k * 4)).take 4) x := by
      refine ⟨apC lv p1 p2 lv3 c, fun w'' f'' => ?_⟩
      have f3 : Fr (fun k => k = gi ∨ k ≤ g4 ∨ w11.heap.size ≤ k) w11 w'' := (hS fE).trans f'' fun k _ hk => by omega
      obtain ⟨rf, rx, rl', rp1, rp2, rl3, rim⟩ := hall f3
      exact apMths' (w := w'') (SliceIs.of_own (f''.own homE fun k hk hS => by have := (homE.lt k hk).1; omega)) rl' rp1 rp2 rl3 fun k _ => SliceIs.of_own (f''.own (hcsE k) fun q hq hS => by have := ((hcsE k).lt q hq).1; omega)
    have hTE := hT.ext xw
    obtain ⟨hat, hnmE⟩ := stay wE (Fr.refl _ _) hTE
    refine hk ⟨fv, iv, .slice (some ⟨gm, 0, none⟩) 3 cap, xv⟩ ⟨nm, [1, 2, 3, 4], apIs n1 n2, apMs code, [1, 2]⟩ wE hat hnmE (fun m hm x hx => ?_) rfl (fun m hm => ?_) (by rw [hgg4]; exact stay) (by rw [hgg4]; exact stayM) xw
    · simp only [apMs, List.mem_cons, List.not_mem_nil, or_false] at hm
      rcases hm with rfl | rfl | rfl
      · exact (hcs 0).2.1 x hx
      · exact (hcs 1).2.1 x hx
      · exact (hcs 2).2.1 x hx
    · simp only [apMs, List.mem_cons, List.not_mem_nil, or_false] at hm
      rcases hm with rfl | rfl | rfl
      · exact (hcs 0).2.2
      · exact (hcs 1).2.2
      · exact (hcs 2).2.2
end Go.Proofs.YthblbcjgdbaonaaGreatDoor
namespace Go.Vc
section
variable {P : Program} {w : World} {K : Value → World → Prop}
theorem stO3 {t : TypeId} {z : Value} {by_ g n cap B k : Nat} {e : TypeId} {xs : List Value} {a b c : Value} {K' : Value → World → Prop} (hi : Inf P t z 3 by_) (ho : w.ownsRow B e 3 (.slice (some ⟨g, 0, none⟩) n cap) n xs) (hk : k < n) (h1 : oneC a = true) (h2 : oneC b = true) (h3 : oneC c = true)
    (hK : ∀ w', w'.ownsRow B e 3 (.slice (some ⟨g, 0, none⟩) n cap) n (((xs.set (k * 3) a).set (k * 3 + 1) b).set (k * 3 + 2) c) → Fr (fun i => i = g) w w' → K' undef w') : U P (Instr.storeAt t (.pointer (some ⟨g, 0 + k * 3, none⟩)) (.agg #[a, b, c])) w K' := by
  have hl : xs.length = n * 3 := ho.1
  have hle : k * 3 + 3 ≤ n * 3 := by omega
  obtain ⟨o1, _⟩ := ho.stored (k * 3) a
  obtain ⟨o2, _⟩ := o1.stored (k * 3 + 1) b
  obtain ⟨o3, _⟩ := o2.stored (k * 3 + 2) c
  have c1 := ho.cellAt (k * 3) (by omega)
  rw [List.getElem?_eq_getElem (by omega)] at c1
  have c2 := o1.cellAt (k * 3 + 1) (by omega)
  rw [List.getElem?_eq_getElem (by rw [List.length_set]; omega)] at c2
  have c3 := o2.cellAt (k * 3 + 2) (by omega)
  rw [List.getElem?_eq_getElem (by rw [List.length_set, List.length_set]; omega)] at c3
  have r1 := run_store1 (P := P) h1 c1 (ho.frozenAt _)
  have r2 := run_store1 (P := P) h2 c2 (o1.frozenAt _)
  have r3 := run_store1 (P := P) h3 c3 (o2.frozenAt _)
  have hs : (storeCells ⟨g, k * 3, none⟩ [a, b, c] 0).run P w = .ok () (((w.setCell ⟨g, k * 3, none⟩ a).setCell ⟨g, k * 3 + 1, none⟩ b).setCell ⟨g, k * 3 + 2, none⟩ c) := by
    simp only [storeCells, add_mk, Sem.run_bind, Nat.add_zero, Nat.zero_add]
    rw [r1, Result.andThen_ok, r2, Result.andThen_ok, r3, Result.andThen_ok]
    simp
  rw [Nat.zero_add]
  refine U.ok ?_ (hK _ o3 ((Fr.of_set (S := fun i => i = g) rfl).set rfl |>.set rfl))
  simp [Instr.storeAt, Instr.sureAddr, storeVar, run_size hi, Value.cells, hs]
theorem slO {t e sz : Nat} {z : Value} {by_ : Nat} (ht : P.underlying t = some (.slice e)) (hi : Inf P e z sz by_) (_ : 0 < sz) {B n g cap : Nat} {xs : List Value} (ho : w.ownsRow B e sz (.slice (some ⟨g, 0, none⟩) n cap) n xs) {k : Nat} (hk : k ≤ n) (h0 : 0 < n)
    (hK : w.ownsRow B e sz (.slice (some ⟨g, 0, none⟩) k cap) k (xs.take (k * sz)) → K (.slice (some ⟨g, 0, none⟩) k cap) w) : V P (Instr.sliceAt t (.slice (some ⟨g, 0, none⟩) n cap) none (some (i64 k)) none) w K := by
  have hcap : n ≤ cap := by
    rcases ho.2 with ⟨he, _⟩ | ⟨g', cap', cur, he, _, _, h3, _⟩
    · cases he
    · cases he; exact h3
  have hc0 : ¬ cap = 0 := by omega
  have hkc : k ≤ cap := by omega
  refine V.ok ?_ (hK (own_take' ho hk))
  simp [Instr.sliceAt, Instr.slice, run_underlying ht, run_size hi, Instr.sliceBounds, Instr.sliceBound, asIntOf, hkc, hc0, add_mk]
end
end Go.Vc
namespace Go.Proofs.YthblbcjgdbaonaaGreatDoor
open Go.Vc Go.Tc
variable {w : World} {K : Value → World → Prop}
theorem insC_app (l m : List Ins) : insC (l ++ m) = insC l ++ insC m := by simp [insC]
theorem insC_drop : ∀ (l : List Ins) (a : Nat), (insC l).drop (a * 3) = insC (l.drop a)
  | [], a => by simp [insC]
  | x :: l, 0 => by simp
  | x :: l, a + 1 => by
    have := insC_drop l a
    simp only [insC, List.flatMap_cons, List.drop_succ_cons] at this ⊢
    rw [show (a + 1) * 3 = 3 + a * 3 by omega, ← List.drop_drop, List.drop_left' (by rfl)]
    exact this
theorem insC_take : ∀ (l : List Ins) (a : Nat), (insC l).take (a * 3) = insC (l.take a)
  | [], a => by simp [insC]
  | x :: l, 0 => by simp [insC]
  | x :: l, a + 1 => by
    have := insC_take l a
    simp only [insC, List.flatMap_cons, List.take_succ_cons] at this ⊢
    rw [show (a + 1) * 3 = 3 + a * 3 by omega, List.take_add, List.take_left' (by rfl), List.drop_left' (by rfl), this]
theorem insC_setO : ∀ {l : List Ins} {k : Nat} {x : Ins} {z : Int}, l[k]? = some x → (insC l).set (k * 3 + 0) (i64 z) = insC (l.set k ⟨z, x.a, x.b⟩)
  | [], _, _, _, h => by simp at h
  | y :: l, 0, x, z, h => by simp at h; subst h; simp [insC]
  | y :: l, k + 1, x, z, h => by
    have := insC_setO (l := l) (k := k) (z := z) (by simpa using h)
    simp only [insC, List.flatMap_cons, List.set_cons_succ] at this ⊢
    rw [show (k + 1) * 3 + 0 = k * 3 + 0 + 3 by omega]
    simpa using this
theorem insC_setW : ∀ {l : List Ins} {k : Nat} {x : Ins}, k < l.length → (((insC l).set (k * 3) (i64 x.op)).set (k * 3 + 1) (i64 x.a)).set (k * 3 + 2) (i64 x.b) = insC (l.set k x)
  | [], _, _, h => by simp at h
  | y :: l, 0, x, h => by simp [insC]
  | y :: l, k + 1, x, h => by
    have := insC_setW (l := l) (k := k) (x := x) (by simpa using h)
    simp only [insC, List.flatMap_cons, List.set_cons_succ] at this ⊢
    rw [show (k + 1) * 3 = k * 3 + 3 by omega, show k * 3 + 3 + 1 = k * 3 + 1 + 3 by omega, show k * 3 + 3 + 2 = k * 3 + 2 + 3 by omega]
    simpa using this
theorem row_set {cs row : List Value} {sz k q o : Nat} {v : Value} (h : (cs.drop (k * sz)).take sz = row) (hrow : row.length = sz) (ho : o < sz) : ((cs.set (q * sz + o) v).drop (k * sz)).take sz = if k = q then row.set o v else row := by
  apply List.ext_getElem?
  intro j
  have hj : ∀ l : List Value, ((l.drop (k * sz)).take sz)[j]? = if j < sz then l[k * sz + j]? else none := fun l => by
    rw [List.getElem?_take, List.getElem?_drop]
  have hr : row[j]? = if j < sz then cs[k * sz + j]? else none := by rw [← h, hj]
  rw [hj]
  by_cases hjs : j < sz
  · rw [if_pos hjs]
    by_cases hkq : k = q
    · subst hkq
      rw [if_pos rfl, List.getElem?_set, List.getElem?_set]
      rw [if_pos hjs] at hr
      by_cases hoj : o = j
      · subst hoj
        rw [if_pos rfl, if_pos rfl]
        have h1 : o < row.length := by omega
        have h2 : k * sz + o < cs.length := by
          have : row[o]? ≠ none := by rw [List.getElem?_eq_getElem h1]; simp
          rw [hr] at this
          exact Nat.lt_of_not_le fun hle => this (List.getElem?_eq_none hle)
        rw [if_pos h1, if_pos h2]
      · rw [if_neg hoj, if_neg (by omega), hr]
    · rw [if_neg hkq, List.getElem?_set, if_neg ?_]
      · rw [hr, if_pos hjs]
      · intro he
        rcases Nat.lt_or_gt_of_ne hkq with hlt | hgt
        · have := Nat.mul_le_mul_right sz (show k + 1 ≤ q by omega)
          rw [Nat.add_mul, Nat.one_mul] at this; omega
        · have := Nat.mul_le_mul_right sz (show q + 1 ≤ k by omega)
          rw [Nat.add_mul, Nat.one_mul] at this; omega
  · rw [if_neg hjs]
    split
    · rw [List.getElem?_eq_none (by rw [List.length_set]; omega)]
    · rw [List.getElem?_eq_none (by omega)]
end Go.Proofs.YthblbcjgdbaonaaGreatDoor
namespace Go.Tc
def Img.withCode (i : Img) (q : Nat) (code : List Ins) : Img := { i with methods := i.methods.set q { i.meth q with code := code } }
end Go.Tc
namespace Go.Proofs.YthblbcjgdbaonaaGreatDoor
open Go.Vc Go.Tc
variable {w : World} {K : Value → World → Prop}
theorem rg_set {l : List Ins} {k : Nat} {x : Ins} (h : ∀ y ∈ l, y.rg) (hx : x.rg) : ∀ y ∈ l.set k x, y.rg := fun y hy => by
  rcases List.mem_or_eq_of_mem_set hy with hy | rfl
  · exact h y hy
  · exact hx
theorem rg0 (op a : Int) : Ins.rg ⟨op, a, 0⟩ := ⟨by show (-9223372036854775808 : Int) ≤ 0; decide, by show (0 : Int) ≤ 9223372036854775807; decide⟩
structure Apl (w : World) (p : ImgV) (i : Img) : Prop where
  at_ : ImgAt w p i
  nm : NamesOk w i
  rg : i.rg
  ml : i.methods.length = 3
  cl : ∀ m ∈ i.methods, m.code.length ≤ 2000000
theorem Apl.ext {w' : World} {p : ImgV} {i : Img} (h : Apl w p i) (hx : Ext w w') : Apl w' p i := ⟨h.at_.ext hx, h.nm.ext hx, h.rg, h.ml, h.cl⟩
theorem insC_one (l : List Ins) : (insC l).all oneC = true := List.all_eq_true.2 fun v hv => by
  simp only [insC, List.mem_flatMap, List.mem_cons, List.not_mem_nil, or_false] at hv
  obtain ⟨x, _, rfl | rfl | rfl⟩ := hv <;> rfl
theorem bs0M (hk : ∀ v w', w'.ownsRow w.heap.size 94 4 v 0 [] → Ext w w' → K v w') : V Tryz.prog (Instr.buildSlice 59 0 #[]) w K := by
  refine V.ok (v := .slice (some ⟨w.heap.size, 0, none⟩) 0 0) (w' := w.alloc (.cells (([] : List Value)).toArray 94)) (by kernel_rfl) ?_
  exact hk _ _ (World.ownsRow_lit (base := w.heap.size) (e := 94) (size := 4) w (([] : List Value)).toArray 0 (Nat.le_refl _) (Nat.zero_le _) rfl) ((Ext.refl _).alloc _)
theorem bs0I (hk : ∀ v w', w'.ownsRow w.heap.size 97 3 v 0 (insC []) → Ext w w' → K v w') : V Tryz.prog (Instr.buildSlice 92 0 #[]) w K := by
  refine V.ok (v := .slice (some ⟨w.heap.size, 0, none⟩) 0 0) (w' := w.alloc (.cells (([] : List Value)).toArray 97)) (by kernel_rfl) ?_
  exact hk _ _ (World.ownsRow_lit (base := w.heap.size) (e := 97) (size := 3) w (([] : List Value)).toArray 0 (Nat.le_refl _) (Nat.zero_le _) rfl) ((Ext.refl _).alloc _)
theorem apI {B : Nat} {v x : Value} {l m : List Ins} (ho : w.ownsRow B 97 3 v l.length (insC l)) (hs : InsAre w x m) (hl : l.length + m.length ≤ 10000000) (hB : B ≤ w.heap.size)
    (hk : ∀ v' w', w'.ownsRow B 97 3 v' (l ++ m).length (insC (l ++ m)) → w.grownBy w' v.ownBlock → K v' w') : V Tryz.prog (Builtin.append_ #[92, 92] 92 #[v, x]) w K := by
  refine apG Tryz.underlying92 inf97 rfl (by decide) ho hs (insC_one _) (by omega) (by unfold maxLen; omega) hB fun v' w' h1 h2 _ => hk v' w' ?_ h2
  rw [List.length_append, insC_app]; exact h1
theorem ins_part {v : Value} {l : List Ins} (h : InsAre w v l) {lo hi' : Option Value} {a b : Nat} (ha : (lo = none ∧ a = 0) ∨ lo = some (.int .i64 a)) (hb : (hi' = none ∧ b = l.length) ∨ hi' = some (.int .i64 b)) (hab : a ≤ b) (hbn : b ≤ l.length) :
    ∃ v', (∀ w', (Instr.sliceAt 92 v lo hi' none).run Tryz.prog w' = .ok v' w') ∧ InsAre w v' ((l.drop a).take (b - a)) := by
  obtain ⟨v', h1, h2⟩ := r_slN Tryz.underlying92 inf97 h ha hb hab hbn
  refine ⟨v', h1, ?_⟩
  have := h2 w h
  rw [insC_drop, insC_take] at this
  unfold InsAre
  rwa [show ((l.drop a).take (b - a)).length = b - a by simp; omega]
def BJ (N0 : Nat) (w0 : World) (v : Value) (w' : World) : Prop := ∃ code' : List Ins, w'.ownsRow N0 97 3 v code'.length (insC code') ∧ (∀ x ∈ code', x.rg) ∧ code'.length ≤ 2000000 ∧ Fr (fun k => N0 ≤ k) w0 w'
structure StayS (S : Nat → Prop) (w : World) (p : ImgV) (i : Img) : Prop where
  ap : ∀ w'', Fr S w w'' → Tabs w'' → Apl w'' p i
  mt : ∃ cs : List Value, ∀ w'', Fr S w w'' → SliceIs w'' p.mv 4 i.methods.length cs ∧ ∀ (k : Nat) (x : Mth), i.methods[k]? = some x → MthIs w'' ((cs.drop (k * 4)).take 4) x
theorem StayS.by_ {S T : Nat → Prop} {w' : World} {p : ImgV} {i : Img} (h : StayS S w p i) (hf : ∀ w'', Fr T w' w'' → Fr S w w'') : StayS T w' p i := by
  obtain ⟨h1, cs, h2⟩ := h
  exact ⟨fun w'' f hT => h1 w'' (hf w'' f) hT, cs, fun w'' f => h2 w'' (hf w'' f)⟩
theorem StayS.now {S : Nat → Prop} {p : ImgV} {i : Img} (h : StayS S w p i) (hT : Tabs w) : Apl w p i := h.ap w (Fr.refl _ _) hT
theorem StayS.ext {S : Nat → Prop} {w' : World} {p : ImgV} {i : Img} (h : StayS S w p i) (hx : Ext w w') : StayS S w' p i := h.by_ fun _ f => (Fr.of_ext hx).trans f fun _ _ h => h
abbrev Stay (B : Nat) (w : World) (p : ImgV) (i : Img) : Prop := StayS (fun k => k < B) w p i
theorem Stay.by_ {B B' : Nat} {w' : World} {p : ImgV} {i : Img} (h : Stay B w p i) (hf : ∀ w'', Fr (fun k => k < B') w' w'' → Fr (fun k => k < B) w w'') : Stay B' w' p i := by
  obtain ⟨h1, cs, h2⟩ := h
  exact ⟨fun w'' f hT => h1 w'' (hf w'' f) hT, cs, fun w'' f => h2 w'' (hf w'' f)⟩
theorem Stay.ext {B : Nat} {w' : World} {p : ImgV} {i : Img} (h : Stay B w p i) (hx : Ext w w') : Stay B w' p i := h.by_ fun _ f => (Fr.of_ext hx).trans f fun _ _ h => h
theorem Stay.now {B : Nat} {p : ImgV} {i : Img} (h : Stay B w p i) (hT : Tabs w) : Apl w p i := h.ap w (Fr.refl _ _) hT
set_option maxHeartbeats 4000000 in
theorem bentS {p : ImgV} {i : Img} {a b e : Int} {S : Nat → Prop} (hst : StayS S w p i) (hT : Tabs w) (hS0 : ∀ k, S k → k < w.heap.size) (hc7 : ∀ m ∈ i.methods, m.code.length ≤ 700000) (hk : ∀ p' i' w', StayS S w' p' i' → Ext w w' → K (p'.val i') w') :
    callD Tryz.prog 30 #[p.val i, i64 a, i64 b, i64 e] w K := by
  apply F30_wp
  unfold F30_den ImgV.val
  have h := hst.now hT
  have ml := h.ml
  refine bxK fun w1 hB4 x1 => ?_
  have hB4 : Blk w1 w.heap.size [.string i.name, p.fv, p.iv, p.mv, p.xv] 61 := hB4
  have l4 := hB4.lt
  refine alK inf61 fun w2 hB8 x2 => ?_
  have hB8 : Blk w2 w1.heap.size [.string ByteArray.empty, nilS, nilS, nilS, nilS] 61 := hB8
  have l8 := hB8.lt
  have hB4 := hB4.ext x2
  generalize hg4 : w.heap.size = g4 at *
  generalize hg8 : w1.heap.size = g8 at *
  obtain ⟨cs, hcsA⟩ := hst.mt
  obtain ⟨hcs, hrowsA⟩ := hcsA w (Fr.refl _ _)
  have hrows : ∀ (k : Nat) x, i.methods[k]? = some x → ∃ row, (cs.drop (k * 4)).take 4 = row ∧ MthIs w row x := fun k x hx => ⟨_, rfl, hrowsA k x hx⟩
  have hcl : cs.length = i.methods.length * 4 := hcs.1
  have x12 := x1.trans x2
  refine bs0M fun v3 w3 ho3 x3 => ?_
  have s3 := x3.size
  refine ldB (Blk.boxed (hB4.ext x3)) fa_61_3 l1_59 rfl ?_
  have hone : cs.all oneC = true := List.all_eq_true.2 fun u hu => by
    obtain ⟨j, hj⟩ := List.getElem?_of_mem hu
    have hjl := (List.getElem?_eq_some_iff.1 hj).1
    obtain ⟨row, hrow, pv, lv, cv, hre, hp, hl, hc⟩ := hrows (j / 4) _ (List.getElem?_eq_getElem (show j / 4 < i.methods.length by omega))
    have hj4 : row[j % 4]? = some u := by
      rw [← hrow, List.getElem?_take, if_pos (by omega), List.getElem?_drop, show j / 4 * 4 + j % 4 = j by omega]
      exact hj
    rw [hre] at hj4
    obtain ⟨a1, c1, rfl⟩ := hp.shape
    obtain ⟨a2, c2, rfl⟩ := hl.shape
    obtain ⟨a3, c3, rfl⟩ := SliceIs.shape hc
    have h4 : j % 4 = 0 ∨ j % 4 = 1 ∨ j % 4 = 2 ∨ j % 4 = 3 := by omega
    rcases h4 with h4 | h4 | h4 | h4 <;> rw [h4] at hj4 <;> cases hj4 <;> rfl
  refine apG Tryz.underlying59 inf94 rfl (by decide) ho3 (hcs.ext (x12.trans x3)) hone (by omega) (by unfold maxLen; omega) s3 fun v4 w4 ho4 hg4' _ => ?_
  have ho4 : w4.ownsRow w2.heap.size 94 4 v4 (0 + i.methods.length) cs := by simpa using ho4
  rw [Nat.zero_add, ml] at ho4
  have x4 : Ext w2 w4 := x3.grown hg4' fun k hk => (ho3.lt k hk).1
  have s4 := x4.size
  obtain ⟨gm, capm, rfl⟩ : ∃ gm cap, v4 = .slice (some ⟨gm, 0, none⟩) 3 cap := by
    rcases ho4.2 with ⟨_, e⟩ | ⟨gm, cap, cur, rfl, _⟩
    · cases e
    · exact ⟨gm, cap, rfl⟩
  have hgm := ho4.lt gm rfl
  refine lnx xa_59 (SliceIs.of_own ho4) (pick10 (by decide) (by decide) fun q hq0 hq1 => ?_)
  obtain ⟨q, rfl⟩ : ∃ q2 : Nat, q = q2 := ⟨q.toNat, by omega⟩
  have hq3 : q < 3 := by omega
  have x04 := x12.trans x4
  obtain ⟨m, hm⟩ := ex_get (l := i.methods) (j := q) (by omega)
  obtain ⟨row, hrow, pv, lv, cv, rfl, hp, hl, hc⟩ := hrows q m hm
  have hmm := List.mem_of_getElem? hm
  have hml := hc7 m hmm
  have hmrg := h.rg m hmm
  have hrow3 : cs[q * 4 + 3]? = some cv := by
    have : ((cs.drop (q * 4)).take 4)[3]? = some cv := by rw [hrow]; rfl
    rwa [List.getElem?_take, if_pos (by decide), List.getElem?_drop] at this
  refine bs0I fun v5 w5 ho5 x5 => ?_
  have s5 := x5.size
  have x05 := x04.trans x5
  refine ldxF xa_59 fa_94_3 l1_92 (SliceIs.of_own (x5.own ho4)) (by omega) (by omega) (u := cv) (by simpa using hrow3) ?_
  refine apI (l := []) ho5 (hc.ext x05) (by simp; omega) s5 fun v6 w6 ho6 hg6 => ?_
  have x6 : Ext w4 w6 := x5.grown hg6 fun k hk => (ho5.lt k hk).1
  have s6 := x6.size
  have x06 := x04.trans x6
  rw [List.nil_append] at ho6
  have hB46 := hB4.ext (x4.trans x6)
  have hB86 := hB8.ext (x4.trans x6)
  have ho46 := x6.own ho4
  refine lnx xa_92 (SliceIs.of_own ho6) (V_eqlI.2 (ifD_dec (fun hz => ?_) fun hz => ?_))
  · refine ldA (Blk.boxed hB46) la_61 rfl ?_
    have hv : ([.string i.name, p.fv, p.iv, p.mv, p.xv] : List Value).all oneC = true := by
      obtain ⟨a1, c1, e1⟩ := SliceIs.shape h.at_.fl
      obtain ⟨_, hx1, _⟩ := h.at_.im
      obtain ⟨a2, c2, e2⟩ := SliceIs.shape hx1
      obtain ⟨a3, c3, e3⟩ := SliceIs.shape hcs
      obtain ⟨a4, c4, e4⟩ := SliceIs.shape h.at_.ex
      rw [e1, e2, e3, e4]; rfl
    refine stA inf61 hB86 (l := [.string i.name, p.fv, p.iv, p.mv, p.xv]) rfl rfl rfl hv fun w7 hB7 hc7' => ?_
    refine ⟨_, r_var Tryz.underlying61 rfl inf61 hB7 rfl, ⟨_, rfl⟩, ?_⟩
    have x07 : Ext w w7 := hc7'.ext _ x06 (by omega)
    exact hk p i w7 (hst.ext x07) x07
  obtain ⟨gq, capq, rfl⟩ : ∃ gm cap, v6 = .slice (some ⟨gm, 0, none⟩) m.code.length cap := by
    rcases ho6.2 with ⟨_, e⟩ | ⟨gm, cap, cur, rfl, _⟩
    · omega
    · exact ⟨gm, cap, rfl⟩
  have hgq := ho6.lt gq rfl
  refine (V_quo (by decide)).2 ?_
  refine lnx xa_92 (SliceIs.of_own ho6) (pick10 (by omega) (by omega) fun k hk0 hk1 => ?_)
  obtain ⟨k, rfl⟩ : ∃ q2 : Nat, k = q2 := ⟨k.toNat, by omega⟩
  have hkl : k < m.code.length := by omega
  obtain ⟨x, hx⟩ := ex_get hkl
  have hxr := hmrg x (List.mem_of_getElem? hx)
  have hIA : InsAre w6 (.slice (some ⟨gq, 0, none⟩) m.code.length capq) m.code := SliceIs.of_own ho6
  refine ⟨BJ w4.heap.size w6, ?_, ?_⟩
  · refine pick10 (by decide) (by decide) fun z hz0 hz1 => ?_
    have same : BJ w4.heap.size w6 (.slice (some ⟨gq, 0, none⟩) m.code.length capq) w6 := ⟨m.code, ho6, hmrg, by omega, Fr.refl _ _⟩
    have whole : ∀ {op av : Int}, V Tryz.prog (Instr.indexAt 92 (.slice (some ⟨gq, 0, none⟩) m.code.length capq) (i64 k)) w6 fun t w1 => U Tryz.prog (Instr.storeAt 97 t (.agg #[i64 op, i64 av, i64 0])) w1 fun _ w2 => BJ w4.heap.size w6 (.slice (some ⟨gq, 0, none⟩) m.code.length capq) w2 := by
      intro op av
      refine V.ok (r_index Tryz.underlying92 inf97 (by omega) (by omega)) ?_
      rw [Int.toNat_natCast]
      refine stO3 inf97 ho6 hkl rfl rfl rfl fun w7 ho7 f7 => ?_
      refine ⟨m.code.set k ⟨op, av, 0⟩, ?_, rg_set hmrg (rg0 _ _), by rw [List.length_set]; omega, f7.mono fun i hi => by omega⟩
      rw [List.length_set, ← insC_setW hkl]; exact ho7
    refine V_eqlI.2 (ifD_dec (fun _ => ?_) fun _ => ?_)
    · refine pick10 (by decide) (by decide) fun y hy0 hy1 => V_add.2 ?_
      refine V.ok (r_index Tryz.underlying92 inf97 (by omega) (by omega)) (V.ok (FA.ex fa_97_0 _ _ _) ?_)
      rw [Int.toNat_natCast]
      refine stOF Tryz.underlying92 inf97 fa_97_0 inf3 ho6 hkl (by decide) rfl fun w7 _ ho7 f7 => ?_
      refine ⟨m.code.set k ⟨IntKind.i64.wrap (1 + y), x.a, x.b⟩, ?_, rg_set hmrg hxr, by rw [List.length_set]; omega, f7.mono fun i hi => by omega⟩
      rw [List.length_set, ← insC_setO hx]; exact ho7
    refine V_eqlI.2 (ifD_dec (fun _ => ?_) fun _ => ?_)
    · refine pick10 (by decide) (by decide) fun y hy0 hy1 => ?_
      refine V.ok (r_index Tryz.underlying92 inf97 (by omega) (by omega)) (V.ok (FA.ex fa_97_1 _ _ _) ?_)
      rw [Int.toNat_natCast]
      refine stOF Tryz.underlying92 inf97 fa_97_1 inf3 ho6 hkl (by decide) rfl fun w7 _ ho7 f7 => ?_
      refine ⟨m.code.set k ⟨x.op, y, x.b⟩, ?_, rg_set hmrg hxr, by rw [List.length_set]; omega, f7.mono fun i hi => by omega⟩
      rw [List.length_set, ← insC_setA hx]; exact ho7
    have D1 : Ext w6 w6.drew := (Ext.refl _).drew
    have hIAd := hIA.ext D1
    have sd : w4.heap.size ≤ w6.drew.heap.size := by have := D1.size; omega
    obtain ⟨u1, ur1, us1⟩ := ins_part hIAd (lo := none) (hi' := some (.int .i64 (k : Int))) (a := 0) (b := k) (.inl ⟨rfl, rfl⟩) (.inr rfl) (by omega) (by omega)
    obtain ⟨u2, ur2, us2⟩ := ins_part hIAd (lo := some (.int .i64 ((k + 1 : Nat) : Int))) (hi' := none) (a := k + 1) (b := m.code.length) (.inr rfl) (.inl ⟨rfl, rfl⟩) (by omega) (by omega)
    obtain ⟨u3, ur3, us3⟩ := ins_part hIAd (lo := some (.int .i64 (k : Int))) (hi' := none) (a := k) (b := m.code.length) (.inr rfl) (.inl ⟨rfl, rfl⟩) (by omega) (by omega)
    have rgp : ∀ {a b : Nat}, ∀ y ∈ (m.code.drop a).take b, y.rg := fun y hy => hmrg y (List.mem_of_mem_drop (List.mem_of_mem_take hy))
    have lnp : ∀ {a b : Nat}, ((m.code.drop a).take b).length ≤ m.code.length := by intro a b; simp; omega
    refine V_eqlI.2 (ifD_dec (fun _ => ?_) fun _ => ?_)
    · refine drawD.mk' (fun w' => Ext w6.drew w') (Ext.refl _) ?_
      refine yieldS.ok (fun w' _ => ur1 _) (yieldS.ok (fun w' _ => r_add) ?_)
      rw [wrap_id (by omega) (by omega), i64_succ]
      refine yieldS.ok (fun w' _ => ur2 _) ?_
      refine bs0I fun v7 w7 ho7 x7 => ⟨x7, ?_⟩
      have := lnp (a := 0) (b := k - 0)
      have := lnp (a := k + 1) (b := m.code.length - (k + 1))
      refine apI (l := []) ho7 (us1.ext x7) (by simp only [List.length_nil]; omega) x7.size fun v8 w8 ho8 hg8 => ?_
      have x8 : Ext w6.drew w8 := x7.grown hg8 fun k hk => (ho7.lt k hk).1
      refine ⟨x8, apI ho8 (us2.ext x8) (by simp only [List.nil_append]; omega) x8.size fun v9 w9 ho9 hg9 => ?_⟩
      have x9 : Ext w6.drew w9 := x8.grown hg9 fun k hk => (ho8.lt k hk).1
      refine ⟨x9, _, own_mono ho9 sd, fun y hy => ?_, by simp only [List.nil_append, List.length_append]; omega, Fr.of_ext (D1.trans x9)⟩
      rw [List.nil_append] at hy
      rcases List.mem_append.1 hy with hy | hy
      · exact rgp y hy
      · exact rgp y hy
    refine V_eqlI.2 (ifD_dec (fun _ => ?_) fun _ => ?_)
    · refine drawD.mk' (fun w' => Ext w6.drew w') (Ext.refl _) ?_
      refine yieldS.ok (fun w' _ => ur1 _) ?_
      refine yI hIAd (fun _ h => h) hx ?_
      refine yieldS.ok (fun w' _ => ur3 _) ?_
      have l1 := lnp (a := 0) (b := k - 0)
      have l3 := lnp (a := k) (b := m.code.length - k)
      have one : ∀ {K' : Value → World → Prop} {w' : World}, (∀ v w2, w2.ownsRow w'.heap.size 97 3 v 1 (insC [x]) → Ext w' w2 → K' v w2) → V Tryz.prog (Instr.buildSlice 92 1 #[(0, .agg #[i64 x.op, i64 x.a, i64 x.b])]) w' K' := fun hK => by
        refine bslG Tryz.underlying92 inf97 rfl (by decide) [.agg #[i64 x.op, i64 x.a, i64 x.b]] rfl rfl (by intro v hv; rw [List.mem_singleton] at hv; subst hv; rfl) (by decide) (by decide) fun v w2 h1 h2 => hK v w2 h1 h2
      have tail : ∀ {w' : World} {t74 t79 : Value}, Ext w6.drew w' → w'.ownsRow w6.drew.heap.size 97 3 t74 ([] ++ (m.code.drop 0).take (k - 0)).length (insC ([] ++ (m.code.drop 0).take (k - 0))) → InsAre w' t79 [x] → V Tryz.prog (Builtin.append_ #[92, 92] 92 #[t74, t79]) w' fun t80 w43 => Ext w6.drew w43 ∧ V Tryz.prog (Builtin.append_ #[92, 92] 92 #[t80, u3]) w43 fun t84 w44 => Ext w6.drew w44 ∧ BJ w4.heap.size w6 t84 w44 := by
        intro w' t74 t79 xw ho hs
        refine apI ho hs (by simp only [List.nil_append, List.length_cons, List.length_nil]; omega) xw.size fun v8 w8 ho8 hg8 => ?_
        have x8 : Ext w6.drew w8 := xw.grown hg8 fun k hk => (ho.lt k hk).1
        refine ⟨x8, apI ho8 (us3.ext x8) (by simp only [List.nil_append, List.length_append, List.length_cons, List.length_nil]; omega) x8.size fun v9 w9 ho9 hg9 => ?_⟩
        have x9 : Ext w6.drew w9 := x8.grown hg9 fun k hk => (ho8.lt k hk).1
        refine ⟨x9, _, own_mono ho9 sd, fun y hy => ?_, by simp only [List.nil_append, List.length_append, List.length_cons, List.length_nil]; omega, Fr.of_ext (D1.trans x9)⟩
        simp only [List.nil_append, List.mem_append, List.mem_cons, List.not_mem_nil, or_false] at hy
        rcases hy with (hy | rfl) | hy
        · exact rgp y hy
        · exact hxr
        · exact rgp y hy
      have tail0 : ∀ {w' : World} {t70 t79 : Value}, Ext w6.drew w' → w'.ownsRow w6.drew.heap.size 97 3 t70 0 (insC []) → w'.ownsRow w6.drew.heap.size 97 3 t79 1 (insC [x]) → (∀ k, t70.ownBlock = some k → t79.ownBlock ≠ some k) → V Tryz.prog (Builtin.append_ #[92, 92] 92 #[t70, u1]) w' fun t74 w41 => Ext w6.drew w41 ∧ V Tryz.prog (Builtin.append_ #[92, 92] 92 #[t74, t79]) w41 fun t80 w43 => Ext w6.drew w43 ∧ V Tryz.prog (Builtin.append_ #[92, 92] 92 #[t80, u3]) w43 fun t84 w44 => Ext w6.drew w44 ∧ BJ w4.heap.size w6 t84 w44 := by
        intro w' t70 t79 xw ho ho79 hne
        refine apI (l := []) ho (us1.ext xw) (by simp only [List.length_nil]; omega) xw.size fun v8 w8 ho8 hg8 => ?_
        have x8 : Ext w6.drew w8 := xw.grown hg8 fun k hk => (ho.lt k hk).1
        exact ⟨x8, tail x8 ho8 (SliceIs.of_own ((Fr.of_grown (S := fun k => t70.ownBlock = some k) hg8 fun k hk => hk).own ho79 fun k hk hk' => hne k hk' hk))⟩
      refine ⟨?_, ?_⟩
      · refine bs0I fun v7 w7 ho7 x7 => ⟨x7, ?_, ?_⟩
        · refine apI (l := []) ho7 (us1.ext x7) (by simp only [List.length_nil]; omega) x7.size fun v8 w8 ho8 hg8 => ?_
          have x8 : Ext w6.drew w8 := x7.grown hg8 fun k hk => (ho7.lt k hk).1
          refine ⟨x8, ?_⟩
          refine one fun v9 w9 ho9 x9 => ⟨x8.trans x9, ?_⟩
          exact tail (x8.trans x9) (x9.own ho8) (SliceIs.of_own ho9)
        · refine one fun v9 w9 ho9 x9 => ⟨x7.trans x9, ?_⟩
          exact tail0 (x7.trans x9) (x9.own ho7) (own_mono ho9 x7.size) fun k hk hk' => by
            have := (ho7.lt k hk).2; have := (ho9.lt k hk').1; omega
      · refine one fun v9 w9 ho9 x9 => ⟨x9, ?_⟩
        refine bs0I fun v7 w7 ho7 x7 => ⟨x9.trans x7, ?_⟩
        exact tail0 (x9.trans x7) (own_mono ho7 x9.size) (x7.own ho9) fun k hk hk' => by
          have := (ho7.lt k hk).1; have := (ho9.lt k hk').2; omega
    refine V_eqlI.2 (ifD_dec (fun _ => ?_) fun _ => ?_)
    · refine bld bd_97 [(0, i64 35), (1, i64 2)] rfl rfl ?_
      exact whole
    refine V_eqlI.2 (ifD_dec (fun _ => ?_) fun _ => ?_)
    · refine lnx xa_92 hIA (pick10 (by omega) (by omega) fun y hy0 hy1 => ?_)
      refine bld bd_97 [(0, i64 23), (1, i64 y)] rfl rfl ?_
      exact whole
    refine V_eqlI.2 (ifD_dec (fun _ => ?_) fun _ => ?_)
    · refine bld bd_97 [(0, i64 4)] rfl rfl ?_
      exact whole
    refine V_eqlI.2 (ifD_dec (fun _ => ?_) fun _ => ?_)
    · refine slO Tryz.underlying92 inf97 (by decide) ho6 (by omega) (by omega) fun ho7 => ?_
      refine ⟨m.code.take k, ?_, fun y hy => hmrg y (List.mem_of_mem_take hy), by simp; omega, Fr.refl _ _⟩
      rw [insC_take] at ho7
      rw [show (m.code.take k).length = k by simp; omega]; exact ho7
    refine V_eqlI.2 (ifD_dec (fun _ => ?_) fun _ => same)
    refine pick10 (by decide) (by decide) fun y hy0 hy1 => ?_
    refine bld bd_97 [(0, i64 33), (1, i64 y)] rfl rfl ?_
    exact whole
  rintro v7 w7 ⟨code', hoJ, hrgJ, hlenJ, fJ⟩ _
  have ho4J := fJ.own ho46 fun k hk hS => by cases hk; have hS : w4.heap.size ≤ gm := hS; omega
  have hB4J := fJ.blk hB46 (by omega)
  have hB8J := fJ.blk hB86 (by omega)
  have x07 : Ext w w7 := fJ.ext x06 fun k hS => by omega
  refine V.ok (r_index Tryz.underlying59 inf94 (by omega) (by omega)) (V.ok (FA.ex fa_94_3 _ _ _) ?_)
  rw [Int.toNat_natCast]
  refine stOF Tryz.underlying59 inf94 fa_94_3 inf92 ho4J hq3 (by decide) (own_oneM hoJ) fun w8 _ ho8 f8 => ?_
  have hB48 := f8.blk hB4J (by omega)
  have hB88 := f8.blk hB8J (by omega)
  have hoJ8 := f8.own hoJ fun k hk hS => by have := (hoJ.lt k hk).1; omega
  have x08 : Ext w w8 := f8.ext x07 fun k hS => by omega
  refine stF fa_61_3 inf59 hB48 (n := 5) rfl (by decide) rfl ?_
  have f9 : Fr (fun k => k = g4) w8 (w8.setCell ⟨g4, 3, none⟩ (.slice (some ⟨gm, 0, none⟩) 3 capm)) := Fr.of_set rfl
  have hB49 := hB48.set 3 (.slice (some ⟨gm, 0, none⟩) 3 capm)
  generalize w8.setCell ⟨g4, 3, none⟩ (.slice (some ⟨gm, 0, none⟩) 3 capm) = w9 at f9 hB49
  have hB49 : Blk w9 g4 [.string i.name, p.fv, p.iv, .slice (some ⟨gm, 0, none⟩) 3 capm, p.xv] 61 := hB49
  have hB89 := f9.blk hB88 (by omega)
  have hoJ9 := f9.own hoJ8 fun k hk hS => by have := (hoJ8.lt k hk).1; omega
  have ho9 := f9.own ho8 fun k hk hS => by cases hk; have hS : gm = g4 := hS; omega
  have x09 : Ext w w9 := f9.ext x08 fun k hS => by omega
  refine ldA (Blk.boxed hB49) la_61 rfl ?_
  have hv : ([.string i.name, p.fv, p.iv, .slice (some ⟨gm, 0, none⟩) 3 capm, p.xv] : List Value).all oneC = true := by
    obtain ⟨a1, c1, e1⟩ := SliceIs.shape h.at_.fl
    obtain ⟨_, hx1, _⟩ := h.at_.im
    obtain ⟨a2, c2, e2⟩ := SliceIs.shape hx1
    obtain ⟨a4, c4, e4⟩ := SliceIs.shape h.at_.ex
    rw [e1, e2, e4]; rfl
  refine stA inf61 hB89 (l := [.string i.name, p.fv, p.iv, .slice (some ⟨gm, 0, none⟩) 3 capm, p.xv]) rfl rfl rfl hv fun wE hBE hcE => ?_
  refine ⟨_, r_var Tryz.underlying61 rfl inf61 hBE rfl, ⟨_, rfl⟩, ?_⟩
  have xE : Ext w wE := hcE.ext _ x09 (by omega)
  have hoE := (chg_fr hcE).own ho9 fun k hk hS => by cases hk; have hS : gm = g8 := hS; omega
  have hoJE := (chg_fr hcE).own hoJ9 fun k hk hS => by have := (hoJ9.lt k hk).1; omega
  have hmeq : i.meth q = m := by
    have := meth_get (i := i) (a := (q : Int)) (by omega) (by omega)
    rw [Int.toNat_natCast, hm] at this
    cases this; rfl
  have hwE := xE.size
  have key : ∀ w'', Fr S wE w'' → SliceIs w'' (.slice (some ⟨gm, 0, none⟩) 3 capm) 4 (i.withCode q code').methods.length (cs.set (q * 4 + 3) v7) ∧ ∀ (k : Nat) (x : Mth), (i.withCode q code').methods[k]? = some x → MthIs w'' (((cs.set (q * 4 + 3) v7).drop (k * 4)).take 4) x := by
    intro w'' f''
    have fw : Fr S w w'' := (Fr.of_ext xE).trans f'' fun _ _ h => h
    obtain ⟨_, hrows''⟩ := hcsA w'' fw
    have hoE' := f''.own hoE fun k hk hS => by cases hk; have h2 : gm < g4 := hS0 _ hS; omega
    have hoJE' := f''.own hoJE fun k hk hS => by have := (hoJE.lt k hk).1; have := hS0 _ hS; omega
    refine ⟨by rw [show (i.withCode q code').methods.length = 3 by simp [Img.withCode, ml]]; exact SliceIs.of_own hoE', fun k y hy => ?_⟩
    have hy : (i.methods.set q { i.meth q with code := code' })[k]? = some y := hy
    have hk3 : k < i.methods.length := by
      have := (List.getElem?_eq_some_iff.1 hy).1
      simpa using this
    have hTk := hrows'' k _ (List.getElem?_eq_getElem hk3)
    rw [row_set rfl (mth_len _ _ _ hTk) (by decide)]
    rw [List.getElem?_set] at hy
    by_cases hkq : q = k
    · subst hkq
      rw [if_pos rfl, if_pos hk3] at hy
      cases hy
      rw [if_pos rfl]
      have hTq := hrows'' q m hm
      rw [hrow] at hTq ⊢
      obtain ⟨pv', lv', cv', e1, hp', hl', _⟩ := hTq
      simp only [List.cons.injEq, and_true, true_and] at e1
      obtain ⟨rfl, rfl, rfl⟩ := e1
      rw [hmeq]
      exact ⟨pv, lv, v7, rfl, hp', hl', SliceIs.of_own hoJE'⟩
    · rw [if_neg hkq] at hy
      rw [if_neg (fun e => hkq e.symm)]
      rw [List.getElem?_eq_getElem hk3] at hy
      cases hy
      exact hTk
  refine hk ⟨p.fv, p.iv, .slice (some ⟨gm, 0, none⟩) 3 capm, p.xv⟩ (i.withCode q code') wE ⟨fun w'' f'' hT'' => ?_, _, key⟩ xE
  have hA := hst.ap w'' ((Fr.of_ext xE).trans f'' fun _ _ h => h) hT''
  refine ⟨⟨hA.at_.fl, hA.at_.im, ⟨_, (key w'' f'').1, fun k x hx => ⟨_, rfl, (key w'' f'').2 k x hx⟩⟩, hA.at_.ex⟩, hA.nm, fun m' hm' y hy => ?_, by simp [Img.withCode, ml], fun m' hm' => ?_⟩
  · have hm' : m' ∈ i.methods.set q { i.meth q with code := code' } := hm'
    rcases List.mem_or_eq_of_mem_set hm' with hm' | rfl
    · exact h.rg m' hm' y hy
    · exact hrgJ y hy
  · have hm' : m' ∈ i.methods.set q { i.meth q with code := code' } := hm'
    rcases List.mem_or_eq_of_mem_set hm' with hm' | rfl
    · exact h.cl m' hm'
    · exact hlenJ
end Go.Proofs.YthblbcjgdbaonaaGreatDoor
namespace Go.Vc
def strI (s : ByteArray) : List Int := s.data.toList.map fun b => (b.toNat : Int)
theorem strI_len (s : ByteArray) : (strI s).length = s.size := by rw [strI, List.length_map, Array.length_toList]; rfl
theorem strI_u8 (s : ByteArray) : ∀ b ∈ strI s, 0 ≤ b ∧ b < 256 := fun b hb => by
  obtain ⟨c, _, rfl⟩ := List.mem_map.1 hb
  have := c.toNat_lt
  omega
section
variable {P : Program} {w : World} {K : Value → World → Prop}
theorem cvSB {src dst e : TypeId} (hs : P.underlying src = some .string) (hd : P.underlying dst = some (.slice e)) (he : P.underlying e = some (.int .u8)) {s : ByteArray} (hl : s.size ≤ maxLen) (hk : ∀ c w', BytesAre w' (.slice (some ⟨w.heap.size, 0, none⟩) s.size c) (strI s) → Ext w w' → w.heap.size < w'.heap.size → K (.slice (some ⟨w.heap.size, 0, none⟩) s.size c) w') : V P (convert src dst (.string s)) w K := by
  refine V.ok (Go.Lib.run_convert_string_bytes w src dst e s hs hd he) (hk _ _ ⟨by rw [List.length_map, Nat.mul_one], .inr ⟨_, 0, _, by rw [strI_len], by rw [strI_len]; exact grownCap_ge w s.size 0 e, grownCap_le_maxLen w s.size 0 e hl, fun j u hj => ?_⟩⟩ ?_ ?_)
  · have hj' : j < s.size := by
      have := (List.getElem?_eq_some_iff.1 hj).1
      rw [List.length_map, strI_len] at this; exact this
    rw [Nat.zero_add, Go.Lib.bytesWorld_cell w e s j hj', ← hj]
    have hj2 : j < s.data.toList.length := by rw [Array.length_toList]; exact hj'
    simp only [strI, List.getD, List.getElem?_map, List.getElem?_eq_getElem hj2, Option.map_some, Option.getD_some]
  · refine ⟨rfl, rfl, rfl, ?_, fun i hi _ => Go.Lib.bytesWorld_at_old w e s i hi⟩
    rw [Go.Lib.bytesWorld_size]; omega
  · rw [Go.Lib.bytesWorld_size]; omega
theorem shr_run {k k' : IntKind} {t : TypeId} {a b : Int} (h : 0 ≤ b) : (binOp .shr t (.int k a) (.int k' b)).run P w = .ok (.int k (a.fdiv (2 ^ (min b.toNat k.bits)))) w := by
  have : ¬ b < 0 := by omega
  simp [binOp, Op.shift, this]
theorem u64_0 (n : Int) : 0 ≤ IntKind.u64.wrap n := by simp [IntKind.wrap, IntKind.bits, IntKind.signed]; omega
theorem u8_b (n : Int) : 0 ≤ IntKind.u8.wrap n ∧ IntKind.u8.wrap n < 256 := by simp [IntKind.wrap, IntKind.bits, IntKind.signed]; omega
theorem own_neB {w : World} {g B n : Nat} {v' : Value} {xs cs : List Value} {e e' sz : Nat} (hb : Blk w g cs e) (ho : w.ownsRow B e' sz v' n xs) (hne : e ≠ e') : ∀ k, v'.ownBlock = some k → k ≠ g := by
  rintro k hk rfl
  rcases ho.2 with ⟨rfl, _⟩ | ⟨g', cap, cur, rfl, _, hg, _⟩
  · cases hk
  · cases hk
    unfold Blk at hb
    rw [hb] at hg
    cases hg
    exact hne rfl
theorem u8s_one (l : List Int) : (l.map u8).all oneC = true := List.all_eq_true.2 fun v hv => by
  obtain ⟨b, _, rfl⟩ := List.mem_map.1 hv
  rfl
theorem SliceIs.same {w' : World} {b n c sz m : Nat} {cs : List Value} (h : SliceIs w (.slice (some ⟨b, 0, none⟩) n c) sz m cs) (hb : w'.heap[b]? = w.heap[b]?) : SliceIs w' (.slice (some ⟨b, 0, none⟩) n c) sz m cs := by
  refine ⟨h.1, ?_⟩
  rcases h.2 with ⟨he, _⟩ | ⟨b', o', c', he, h1, h2, h3⟩
  · cases he
  · cases he
    refine .inr ⟨b, 0, c, rfl, h1, h2, fun j u hj => ?_⟩
    have := h3 j u hj
    simp only [World.cell?, hb] at this ⊢
    exact this
theorem apAt {t e by_ ty : Nat} (h : XE P t e by_) {B : Nat} {v : Value} {n : Nat} {xs : List Value} (ho : w.ownsRow B e 1 v n xs) {x : Value} {m : Nat} {news : List Value} (hs : SliceIs w x 1 m news) (h1 : news.all oneC = true)
    (hb : (n + m) * by_ ≤ 140737488355328) (h63 : n + m ≤ maxLen) (hB : B ≤ w.heap.size) (hk : ∀ v' w', w'.ownsRow B e 1 v' (n + m) (xs ++ news) → w.grownBy w' v.ownBlock → (v'.ownBlock = v.ownBlock ∨ v'.ownBlock = some w.heap.size) → K v' w') :
    V P (Builtin.append_ #[t, t] ty #[v, x]) w K := by
  obtain ⟨z, ht, hi, hz⟩ := h
  obtain ⟨i, hi', hz', hn, hby⟩ := info_parts hi
  rcases hs.2 with ⟨rfl, rfl⟩ | ⟨b, off, cap, rfl, _, _, hc⟩
  · have hnews : news = [] := by have := hs.1; simpa using this
    subst hnews
    refine V.ok (run_append_owned_none w B t ty e i 1 ht hi' v n xs ho) (hk _ _ (by simpa using ho) ⟨rfl, rfl, rfl, Nat.le_refl _, fun _ _ _ => rfl⟩ (.inl rfl))
  · obtain ⟨v', w', hr, h2, h3, _, h5⟩ := run_append_own_at (P := P) w B t ty e i z 1 by_ ht hi' hz' hn hby (by simpa using hz) (by omega) v n xs ho ⟨b, off, none⟩ m cap news (by have := hs.1; simpa using this)
      (fun j u hj => by rw [add_mk]; exact hc j u hj) (fun u hu => by rw [oneC_eq]; exact List.all_eq_true.1 h1 u hu) h63 hb hB
    exact V.ok hr (hk v' w' h2 h3 h5)
end
end Go.Vc
namespace Go.Proofs.YthblbcjgdbaonaaGreatDoor
open Go.Vc Go.Tc
variable {w : World} {K : Value → World → Prop}
theorem cvConst {l : List Int} {n : Nat} {parts : Array (Nat × Value)} (hn : n = (l.map u8).length) (hp : parts = ((List.range' 0 (l.map u8).length).zip (l.map u8)).toArray) (hl : l.length ≤ 1000000) (hk : ∀ v w', BytesAre w' v l → Ext w w' → K v w') :
    V Tryz.prog (Instr.buildSlice 23 n parts) w fun v w1 => V Tryz.prog (convert 23 23 v) w1 K := by
  subst hn
  subst hp
  obtain ⟨z, ht, hi, hz⟩ := xe_23
  refine V.ok (r_buildSlice ht hi hz (l.map u8) (by simp; omega) (fun u hu => List.all_eq_true.1 (u8s_one l) u hu)) (V.ok (Go.Lib.run_convert_bytes_const w _ _ _ _ _ Tryz.underlying23 Tryz.underlying5) (hk _ _ ⟨by rw [List.length_map, Nat.mul_one], .inr ⟨_, 0, _, by rw [List.length_map], Nat.le_refl _, by unfold maxLen; omega, fun j u hj => ?_⟩⟩ ((Ext.refl w).alloc _)))
  rw [← hj]
  simp only [World.cell?, heap_alloc_new, Nat.zero_add, List.getElem?_toArray]
  rfl
structure Wt (w : World) (B g : Nat) (X : Nat → Prop) (l : List Int) : Prop where
  lt : B ≤ g
  gx : ¬ X g
  xl : ∀ k, X k → k < w.heap.size
  row : ∃ v, Blk w g [v] 105 ∧ w.ownsRow B 5 1 v l.length (l.map u8) ∧ ∀ k, v.ownBlock = some k → ¬ X k
  by_ : ∀ b ∈ l, 0 ≤ b ∧ b < 256
abbrev Fw (B : Nat) (X : Nat → Prop) (w w' : World) : Prop := Fr (fun k => B ≤ k ∧ ¬ X k) w w'
theorem Fw.trans {B : Nat} {X : Nat → Prop} {a b c : World} (h : Fw B X a b) (k : Fw B X b c) : Fw B X a c := Fr.trans h k fun _ _ h => h
theorem wAp {B g m : Nat} {X : Nat → Prop} {l nl : List Int} {x v : Value} {Kw : World → Prop} (hlt : B ≤ g) (gx : ¬ X g) (xl : ∀ k, X k → k < w.heap.size) (hb : Blk w g [v] 105) (ho : w.ownsRow B 5 1 v l.length (l.map u8)) (hox : ∀ k, v.ownBlock = some k → ¬ X k) (hby : ∀ b ∈ l, 0 ≤ b ∧ b < 256) (hs : SliceIs w x 1 m (nl.map u8)) (hnl : ∀ b ∈ nl, 0 ≤ b ∧ b < 256) (hl : l.length + m ≤ 1000000000) (hB : B ≤ w.heap.size)
    (hk : ∀ w', Wt w' B g X (l ++ nl) → Fw B X w w' → Kw w') :
    V Tryz.prog (Builtin.append_ #[23, 23] 23 #[v, x]) w fun t10 w4 => Go.Vc.Safe (.pointer (some ⟨g, 0, none⟩)) ∧
    V Tryz.prog (Instr.fieldAt 105 (.pointer (some ⟨g, 0, none⟩)) 0) w4 fun t12 w6 => U Tryz.prog (Instr.storeAt 23 t12 t10) w6 fun _ w7 => Kw w7 := by
  have hm : m = nl.length := by have := hs.1; simpa using this.symm
  refine apAt xe_23 ho hs (u8s_one nl) (by omega) (by unfold maxLen; omega) hB fun v' w4 ho4 hg4 h5 => ?_
  have ne1 := own_neB hb ho (by decide)
  have f1 : Fw B X w w4 := Fr.of_grown hg4 fun k hk => ⟨(ho.lt k hk).1, hox k hk⟩
  have s4 := f1.size
  have hb4 : Blk w4 g [v] _ := (Fr.of_grown (S := fun k => v.ownBlock = some k) hg4 fun k hk => hk).blk hb fun hk => ne1 _ hk rfl
  have f2 := f1.set (o := 0) (v := v') ⟨hlt, gx⟩
  refine ⟨.inl ⟨_, rfl⟩, stF fa_105_0 inf23 hb4 rfl (by simp) (own_oneM ho4) (hk _ ⟨hlt, gx, fun k hk => Nat.lt_of_lt_of_le (xl k hk) f2.size, ⟨v', hb4.set 0 v', ?_, fun k hk hX => ?_⟩, fun b hb => ?_⟩ f2)⟩
  · have ne2 := own_neB hb4 ho4 (by decide)
    have := (Fr.of_set (S := fun k => k = g) (w := w4) (o := 0) (v := v') (b := g) rfl).own ho4 fun k hk => ne2 k hk
    simpa [hm] using this
  · rcases h5 with h5 | h5
    · exact hox k (by rw [← h5]; exact hk) hX
    · rw [h5] at hk
      cases hk
      exact Nat.lt_irrefl _ (xl _ hX)
  · rcases List.mem_append.1 hb with hb | hb
    · exact hby b hb
    · exact hnl b hb
theorem raw51 {B g m : Nat} {X : Nat → Prop} {l nl : List Int} {x : Value} (h : Wt w B g X l) (hs : SliceIs w x 1 m (nl.map u8)) (hnl : ∀ b ∈ nl, 0 ≤ b ∧ b < 256) (hl : l.length + m ≤ 1000000000) (hB : B ≤ w.heap.size)
    (hk : ∀ w', Wt w' B g X (l ++ nl) → Fw B X w w' → K (.tuple #[]) w') : callD Tryz.prog 51 #[.pointer (some ⟨g, 0, none⟩), x] w K := by
  apply F51_wp
  unfold F51_den
  obtain ⟨hlt, gx, xl, ⟨v, hb, ho, hox⟩, hby⟩ := h
  exact ⟨.inl ⟨_, rfl⟩, ldB hb.boxed fa_105_0 l1_23 rfl (wAp hlt gx xl hb ho hox hby hs hnl hl hB hk)⟩
theorem u79 {B g s : Nat} {X : Nat → Prop} {l : List Int} {n : Int} (h : Wt w B g X l) (hs : s ≤ 4) (hl : l.length ≤ 100000000) (hB : B ≤ w.heap.size)
    (hk : ∀ w' nl, nl.length = s → Wt w' B g X (l ++ nl) → Fw B X w w' → K (.tuple #[]) w') : callD Tryz.prog 79 #[.pointer (some ⟨g, 0, none⟩), i64 n, i64 s] w K := by
  apply F79_wp
  unfold F79_den
  refine V_sub.2 ?_
  rw [wrap_id (by omega) (by omega)]
  refine ⟨fun v w' => ∃ (j : Nat) (nl : List Int), v = i64 ((s : Int) - 1 - j) ∧ nl.length = j ∧ j ≤ s ∧ Wt w' B g X (l ++ nl) ∧ Fw B X w w', fun v _ => (RowKit.intOf v + 1).toNat, ⟨0, [], by simp, rfl, Nat.zero_le _, by simpa using h, Fr.refl _ _⟩, ?_⟩
  rintro _ w1 ⟨j, nl, rfl, hj, hjs, hW, f1⟩ _
  have s1 := f1.size
  refine V_geq.2 (ifD_dec (fun hge => ?_) fun hlt => ?_)
  · refine ⟨.inl ⟨_, rfl⟩, ?_⟩
    obtain ⟨hlt, gx, xl, ⟨v, hb, ho, hox⟩, hby⟩ := hW
    refine ldB hb.boxed fa_105_0 l1_23 rfl ?_
    refine V_mul.2 ?_
    rw [wrap_id (by omega) (by omega)]
    refine V.ok (r_convI Tryz.underlying3 Tryz.underlying51) ?_
    refine V.ok (shr_run (u64_0 _)) ?_
    refine V.ok (r_convI Tryz.underlying3 Tryz.underlying5) ?_
    have hb1 := u8_b (n.fdiv (2 ^ (min (IntKind.u64.wrap (8 * ((s : Int) - 1 - j))).toNat IntKind.i64.bits)))
    generalize IntKind.u8.wrap (n.fdiv (2 ^ (min (IntKind.u64.wrap (8 * ((s : Int) - 1 - j))).toNat IntKind.i64.bits))) = c at hb1 ⊢
    refine bsl xe_23 [u8 c] rfl rfl (by simp) rfl fun x w2 hx x2 => ?_
    have ho2 := (Fr.of_ext (S := fun _ => False) x2).own ho fun _ _ h => h
    have s2 := x2.size
    refine wAp hlt gx (fun k hk => Nat.lt_of_lt_of_le (xl k hk) s2) (hb.ext x2) ho2 hox hby (nl := [c]) (SliceIs.of_own hx) (by simpa using hb1) (by simp; omega) (by omega) fun w3 hW3 f3 => ?_
    refine V_sub.2 ?_
    rw [wrap_id (by omega) (by omega)]
    refine ⟨⟨j + 1, nl ++ [c], by congr 1; omega, by simp [hj], by omega, by simpa using hW3, (f1.trans (Fr.of_ext x2)).trans f3⟩, ?_⟩
    simp only [intOf_i64]
    omega
  · refine hk _ nl (by omega) hW f1
theorem U8_52 {B g : Nat} {X : Nat → Prop} {l : List Int} {n : Int} (h : Wt w B g X l) (hl : l.length ≤ 100000000) (hB : B ≤ w.heap.size)
    (hk : ∀ w' nl, nl.length = 1 → Wt w' B g X (l ++ nl) → Fw B X w w' → K (.tuple #[]) w') : callD Tryz.prog 52 #[.pointer (some ⟨g, 0, none⟩), i64 n] w K := by
  apply F52_wp
  unfold F52_den
  exact u79 (s := 1) h (by decide) hl hB hk
theorem U16_81 {B g : Nat} {X : Nat → Prop} {l : List Int} {n : Int} (h : Wt w B g X l) (hl : l.length ≤ 100000000) (hB : B ≤ w.heap.size)
    (hk : ∀ w' nl, nl.length = 2 → Wt w' B g X (l ++ nl) → Fw B X w w' → K (.tuple #[]) w') : callD Tryz.prog 81 #[.pointer (some ⟨g, 0, none⟩), i64 n] w K := by
  apply F81_wp
  unfold F81_den
  exact u79 (s := 2) h (by decide) hl hB hk
theorem S32_80 {B g : Nat} {X : Nat → Prop} {l : List Int} {n : Int} (h : Wt w B g X l) (hl : l.length ≤ 100000000) (hB : B ≤ w.heap.size)
    (hk : ∀ w' nl, nl.length = 4 → Wt w' B g X (l ++ nl) → Fw B X w w' → K (.tuple #[]) w') : callD Tryz.prog 80 #[.pointer (some ⟨g, 0, none⟩), i64 n] w K := by
  apply F80_wp
  unfold F80_den
  exact u79 (s := 4) h (by decide) hl hB hk
theorem short53 {B g m b c : Nat} {X : Nat → Prop} {l nl : List Int} (h : Wt w B g X l) (hs : SliceIs w (.slice (some ⟨b, 0, none⟩) m c) 1 m (nl.map u8)) (hX : X b) (hnl : ∀ b ∈ nl, 0 ≤ b ∧ b < 256) (hl : l.length ≤ 100000000) (hB : B ≤ w.heap.size)
    (hk : ∀ b w' l', l'.length ≤ 256 → Wt w' B g X (l ++ l') → Fw B X w w' → K (.bool b) w') : callD Tryz.prog 53 #[.pointer (some ⟨g, 0, none⟩), .slice (some ⟨b, 0, none⟩) m c] w K := by
  apply F53_wp
  unfold F53_den
  refine lnx xa_23 hs (V_gtr.2 (ifD_dec (fun _ => ?_) fun hle => ?_))
  · exact hk _ _ [] (by simp) (by simpa using h) (Fr.refl _ _)
  refine lnx xa_23 hs ?_
  have hm : m = nl.length := by have := hs.1; simpa using this.symm
  have hxl := h.xl b hX
  refine U8_52 h hl hB fun w1 l1 h1 hW1 f1 => ?_
  have s1 := f1.size
  refine raw51 hW1 (hs.same (f1.block b hxl fun hn => hn.2 hX)) hnl (by simp; omega) (by omega) fun w2 hW2 f2 => ?_
  exact hk _ _ (l1 ++ nl) (by simp; omega) (by simpa using hW2) (f1.trans f2)
theorem Wt.ext {w' : World} {B g : Nat} {X : Nat → Prop} {l : List Int} (h : Wt w B g X l) (hx : Ext w w') : Wt w' B g X l := by
  obtain ⟨hlt, gx, xl, ⟨v, hb, ho, hox⟩, hby⟩ := h
  exact ⟨hlt, gx, fun k hk => Nat.lt_of_lt_of_le (xl k hk) hx.size, ⟨v, hb.ext hx, (Fr.of_ext (S := fun _ => False) hx).own ho fun _ _ h => h, hox⟩, hby⟩
theorem Wt.hold {w' : World} {B g : Nat} {X : Nat → Prop} {l : List Int} (h : Wt w B g X l) (hx : Ext w w') (hlt : w.heap.size < w'.heap.size) : Wt w' B g (fun k => X k ∨ k = w.heap.size) l := by
  have h' := h.ext hx
  obtain ⟨h1, gx, xl, ⟨v, hb, ho, hox⟩, hby⟩ := h
  obtain ⟨_, _, xl', ⟨v', hb', ho', hox'⟩, _⟩ := h'
  have hl := hb.lt
  have e : v' = v := by
    have hb2 := hb.ext hx
    unfold Blk at hb' hb2
    rw [hb'] at hb2
    simpa using hb2
  subst e
  refine ⟨h1, ?_, ?_, ⟨v', hb', ho', ?_⟩, hby⟩
  · rintro (hX | rfl)
    · exact gx hX
    · exact Nat.lt_irrefl _ hl
  · rintro k (hX | rfl)
    · exact xl' k hX
    · exact hlt
  · rintro k hk (hX | rfl)
    · exact hox k hk hX
    · exact Nat.lt_irrefl _ (ho.lt _ hk).2
theorem Wt.free {B g : Nat} {X Y : Nat → Prop} {l : List Int} (h : Wt w B g Y l) (hX : ∀ k, X k → Y k) : Wt w B g X l := by
  obtain ⟨h1, gx, xl, ⟨v, hb, ho, hox⟩, hby⟩ := h
  exact ⟨h1, fun h => gx (hX _ h), fun k hk => xl k (hX k hk), ⟨v, hb, ho, fun k hk h => hox k hk (hX k h)⟩, hby⟩
theorem Fw.free {B : Nat} {X Y : Nat → Prop} {a b : World} (h : Fw B Y a b) (hX : ∀ k, X k → Y k) : Fw B X a b := Fr.mono h fun k hk => ⟨hk.1, fun h => hk.2 (hX k h)⟩
end Go.Proofs.YthblbcjgdbaonaaGreatDoor
namespace Go.Proofs.YthblbcjgdbaonaaGreatDoor
open Go.Vc Go.Tc
variable {w : World} {K : Value → World → Prop}
structure Lw (w0 w : World) (g : Nat) (X : Nat → Prop) (l : List Int) : Prop where
  wt : Wt w w0.heap.size g X l
  x : Ext w0 w
theorem Lw.ext {w0 w' : World} {g : Nat} {X : Nat → Prop} {l : List Int} (h : Lw w0 w g X l) (hx : Ext w w') : Lw w0 w' g X l := ⟨h.wt.ext hx, h.x.trans hx⟩
theorem Lw.step {w0 w' : World} {g : Nat} {X : Nat → Prop} {l : List Int} (h : Ext w0 w) (hW : Wt w' w0.heap.size g X l) (f : Fw w0.heap.size X w w') : Lw w0 w' g X l := ⟨hW, f.ext h fun _ h => h.1⟩
theorem Lw.free {w0 : World} {g : Nat} {X Y : Nat → Prop} {l : List Int} (h : Lw w0 w g Y l) (hX : ∀ k, X k → Y k) : Lw w0 w g X l := ⟨h.wt.free hX, h.x⟩
theorem U8w {w0 : World} {g : Nat} {X : Nat → Prop} {l : List Int} {n : Int} (h : Lw w0 w g X l) (hl : l.length ≤ 100000000) (hk : ∀ w' nl, nl.length = 1 → Lw w0 w' g X (l ++ nl) → Fw w0.heap.size X w w' → K (.tuple #[]) w') : callD Tryz.prog 52 #[.pointer (some ⟨g, 0, none⟩), i64 n] w K :=
  U8_52 h.wt hl h.x.size fun w' nl hn hW f => hk w' nl hn (Lw.step h.x hW f) f
theorem shortw {w0 : World} {g : Nat} {X : Nat → Prop} {l : List Int} {s : ByteArray} (h : Lw w0 w g X l) (hs : s.size ≤ 1000) (hl : l.length ≤ 10000000)
    (hk : ∀ w' nl, nl.length ≤ 256 → Lw w0 w' g X (l ++ nl) → Fw w0.heap.size X w w' → ∀ b, K (.bool b) w') :
    V Tryz.prog (convert 9 23 (.string s)) w fun v w1 => callD Tryz.prog 53 #[.pointer (some ⟨g, 0, none⟩), v] w1 K := by
  refine cvSB Tryz.underlying9 Tryz.underlying23 Tryz.underlying5 (by unfold maxLen; omega) fun c w1 hv x1 hlt => ?_
  have h1 := h.wt.hold x1 hlt
  have hv' : SliceIs w1 (.slice (some ⟨w.heap.size, 0, none⟩) s.size c) 1 s.size ((strI s).map u8) := by
    have := strI_len s
    unfold BytesAre at hv
    rwa [this] at hv
  have s1 := (h.x.trans x1).size
  refine short53 h1 hv' (.inr rfl) (strI_u8 s) (by omega) s1 fun b w2 nl hnl hW f2 => ?_
  have f1 : Fw w0.heap.size X w w1 := Fr.of_ext x1
  exact hk _ nl hnl (Lw.step (h.x.trans x1) (hW.free fun _ h => .inl h) (f2.free fun _ h => .inl h)) (f1.trans (f2.free fun _ h => .inl h)) b
theorem list54 {w0 : World} {g : Nat} {X : Nat → Prop} {l li : List Int} {lv : Value} (h : Lw w0 w g X l) (hr : ∀ w', Ext w0 w' → IntsAre w' lv li) (hli : li.length ≤ 1000) (hl : l.length ≤ 10000000)
    (hk : ∀ w' nl, nl.length ≤ li.length + 1 → Lw w0 w' g X (l ++ nl) → Fw w0.heap.size X w w' → K (.tuple #[]) w') : callD Tryz.prog 54 #[.pointer (some ⟨g, 0, none⟩), lv] w K := by
  apply F54_wp
  unfold F54_den
  refine lnx xa_57 (hr _ h.x) ?_
  refine U8w h (by omega) fun w1 l1 h1 hW1 f1 => ?_
  refine ⟨fun v w' => ∃ (j : Nat) (nl : List Int), v = i64 j ∧ j ≤ li.length ∧ nl.length = j + 1 ∧ Lw w0 w' g X (l ++ nl) ∧ Fw w0.heap.size X w w', fun v _ => li.length - (RowKit.intOf v).toNat, ⟨0, l1, rfl, Nat.zero_le _, by omega, hW1, f1⟩, ?_⟩
  rintro _ w2 ⟨j, nl, rfl, hj, hnl, hW, f⟩ _
  refine lnx xa_57 (hr _ hW.x) (V_lss.2 (ifD_dec (fun hlt => ?_) fun hge => ?_))
  · obtain ⟨k, hk1⟩ := ex_get (l := li) (j := j) (by omega)
    refine ldx xa_57 l1_3 (hr _ hW.x) (by omega) (by omega) (getI hk1) ?_
    refine U8w hW (by simp; omega) fun w3 l3 h3 hW3 f3 => ?_
    refine V_add.2 ?_
    rw [wrap_id (by omega) (by omega), i64_succ]
    exact ⟨⟨j + 1, nl ++ l3, rfl, by omega, by simp; omega, by simpa using hW3, f.trans f3⟩, by simp only [intOf_i64]; omega⟩
  · exact hk _ nl (by omega) hW f
theorem ins55 {w0 : World} {g : Nat} {X : Nat → Prop} {l : List Int} {x : Ins} (h : Lw w0 w g X l) (ho : 1 ≤ x.op ∧ x.op ≤ 39) (hl : l.length ≤ 10000000)
    (hk : ∀ w' nl, nl.length ≤ 5 → Lw w0 w' g X (l ++ nl) → Fw w0.heap.size X w w' → K (.tuple #[]) w') : callD Tryz.prog 55 #[.pointer (some ⟨g, 0, none⟩), .agg #[i64 x.op, i64 x.a, i64 x.b]] w K := by
  apply F55_wp
  unfold F55_den
  refine bxK fun w1 hB x1 => ?_
  have hB : Blk w1 w.heap.size [i64 x.op, i64 x.a, i64 x.b] 97 := hB
  have h1 : Lw w0 w1 g (fun k => X k ∨ k = w.heap.size) l := ⟨h.wt.hold x1 hB.lt, h.x.trans x1⟩
  have f1 : Fw w0.heap.size X w w1 := Fr.of_ext x1
  have hk' : ∀ w' nl, nl.length ≤ 5 → Lw w0 w' g (fun k => X k ∨ k = w.heap.size) (l ++ nl) → Fw w0.heap.size (fun k => X k ∨ k = w.heap.size) w1 w' → K (.tuple #[]) w' := fun w' nl hn hW f => hk w' nl hn (hW.free fun _ h => .inl h) (f1.trans (f.free fun _ h => .inl h))
  clear hk f1 h
  generalize hY : (fun k => X k ∨ k = w.heap.size) = Y at *
  have hYb : Y w.heap.size := by rw [← hY]; exact .inr rfl
  generalize w.heap.size = gb at *
  refine ldB hB.boxed fa_97_0 l1_3 rfl ?_
  refine U8w h1 (by omega) fun w2 l2 hl2 hW2 f2 => ?_
  have hB2 := f2.blk hB fun h => h.2 hYb
  refine ldB hB2.boxed fa_97_0 l1_3 rfl (V_eqlI.2 (ifD_dec (fun c1 => ?_) fun c1 => ?_))
  · refine ldB hB2.boxed fa_97_1 l1_3 rfl ?_
    refine S32_80 hW2.wt (by simp; omega) hW2.x.size fun w3 l3 hl3 hW3 f3 => ?_
    exact hk' _ (l2 ++ l3) (by simp; omega) (by simpa using Lw.step hW2.x hW3 f3) (f2.trans f3)
  refine ldB hB2.boxed fa_97_0 l1_3 rfl (V_eqlI.2 ?_)
  have u16 : callD Tryz.prog 81 #[.pointer (some ⟨g, 0, none⟩), i64 x.a] w2 fun r w3 => K (.tuple #[]) w3 := U16_81 hW2.wt (by simp; omega) hW2.x.size fun w3 l3 hl3 hW3 f3 => hk' _ (l2 ++ l3) (by simp; omega) (by simpa using Lw.step hW2.x hW3 f3) (f2.trans f3)
  have u8 : ∀ {n : Int} {w2 : World} {l2 : List Int} {K : World → Prop}, l2.length ≤ 3 → Lw w0 w2 g Y (l ++ l2) → (∀ w3 nl, nl.length = l2.length + 1 → Lw w0 w3 g Y (l ++ nl) → Fw w0.heap.size Y w2 w3 → K w3) → callD Tryz.prog 52 #[.pointer (some ⟨g, 0, none⟩), i64 n] w2 fun _ w3 => K w3 := fun {n w2 l2 K} hl2 hW2 h => U8w hW2 (by simp; omega) fun w3 l3 hl3 hW3 f3 => h _ (l2 ++ l3) (by simp; omega) (by simpa using hW3) f3
  by_cases c2 : x.op = 23
  · simp only [c2, evL, reduceIte, decide_true]
    exact ldB hB2.boxed fa_97_1 l1_3 rfl u16
  simp only [c2, evL, reduceIte, Bool.false_eq_true, decide_false]
  refine ldB hB2.boxed fa_97_0 l1_3 rfl (V_eqlI.2 ?_)
  by_cases c3 : x.op = 24
  · simp only [c3, evL, decide_true]
    exact ldB hB2.boxed fa_97_1 l1_3 rfl u16
  simp only [c3, evL, decide_false]
  refine ldB hB2.boxed fa_97_0 l1_3 rfl (V_eqlI.2 (ifD_dec (fun c4 => ?_) fun c4 => ?_))
  · refine ldB hB2.boxed fa_97_1 l1_3 rfl (u8 (by omega) hW2 fun w3 l3 h3 hW3 f3 => ?_)
    have hB3 := f3.blk hB2 fun h => h.2 hYb
    refine ldB hB3.boxed fa_97_2 l1_3 rfl (u8 (by omega) hW3 fun w4 l4 h4 hW4 f4 => ?_)
    exact hk' _ l4 (by omega) hW4 ((f2.trans f3).trans f4)
  · refine ldB hB2.boxed fa_97_0 l1_3 rfl (opers89 ho (V_eqlI.2 (ifD_dec (fun c5 => ?_) fun c5 => ?_)))
    · exact ldB hB2.boxed fa_97_1 l1_3 rfl (u8 (by omega) hW2 fun w3 l3 h3 hW3 f3 => hk' _ l3 (by omega) hW3 (f2.trans f3))
    · exact hk' _ l2 (by omega) hW2 f2
end Go.Proofs.YthblbcjgdbaonaaGreatDoor
namespace Go.Proofs.YthblbcjgdbaonaaGreatDoor
open Go.Vc Go.Tc
variable {w : World} {K : Value → World → Prop}
theorem NameOk.le {nm : ByteArray} (h : NameOk w nm) : nm.size ≤ 1000 := by
  have := (h w (Ext.refl _)).2.2
  omega
set_option maxHeartbeats 1600000 in
theorem lay32 {p : ImgV} {i : Img} (h : ImgAt w p i) (hn : NamesOk w i) (hk : ∀ v (e : Int) (l : List Int) w', w'.ownsRow w.heap.size 5 1 v l.length (l.map u8) → (∀ b ∈ l, 0 ≤ b ∧ b < 256) → l.length ≤ 1000000 → Ext w w' → K (.tuple #[v, i64 e]) w') :
    callD Tryz.prog 32 #[p.val i] w K := by
  apply F32_wp
  unfold F32_den ImgV.val
  refine bxK fun w1 hB x1 => ?_
  have hB : Blk w1 w.heap.size [.string i.name, p.fv, p.iv, p.mv, p.xv] 61 := hB
  refine ldA hB.boxed la_61 rfl ?_
  refine (right27 (h.ext x1) (hn.ext x1)).mono fun v w2 ⟨b, hv, hr, x2⟩ => ?_
  subst hv
  refine V_not.2 ?_
  cases b with
  | false =>
    simp only [evL, Bool.not_false]
    exact hk _ _ [] _ (World.ownsRow_nil _ _ _ _) (by simp) (by simp) (x1.trans x2)
  | true =>
  simp only [evL, Bool.not_true]
  obtain ⟨hf, ⟨hil, hi⟩, ⟨⟨_, hml⟩, hm, _⟩, hx4, _⟩ := hr.1 rfl
  have hfl := hf.2
  refine bldA (v := .agg #[nilS]) (fun w => by kernel_rfl) ?_
  refine bxK fun w3 hG x3 => ?_
  have hG : Blk w3 w2.heap.size [nilS] 105 := hG
  have x12 := x1.trans x2
  have s12 := x12.size
  have s2 := x2.size
  have l1 := hB.lt
  have hB3 := (hB.ext x2).ext x3
  generalize hX : (fun k => k = w.heap.size) = X
  have hXb : X w.heap.size := by rw [← hX]
  have hW3 : Lw w w3 w2.heap.size X [] := ⟨⟨s12, by rw [← hX]; show ¬ w2.heap.size = w.heap.size; omega, fun k hk => by rw [← hX] at hk; have hk : k = w.heap.size := hk; have := hB3.lt; omega, ⟨nilS, hG, World.ownsRow_nil _ _ _ _, fun k hk => by cases hk⟩, by simp⟩, x12.trans x3⟩
  clear hG
  generalize w2.heap.size = g at hW3 ⊢
  have him : ∀ w', Ext w w' → StrsAre (fun _ => ImpIs w) 4 w' p.iv i.imports := fun w' hx => by obtain ⟨cs, h1, h2⟩ := h.im; exact ⟨cs, h1.ext hx, h2⟩
  have hmt : ∀ w', Ext w w' → StrsAre (fun _ => MthIs w) 4 w' p.mv i.methods := fun w' hx => by obtain ⟨cs, h1, h2⟩ := h.mt; exact ⟨cs, h1.ext hx, h2⟩
  refine cvConst (l := [84, 65, 67, 73]) rfl rfl (by decide) fun v w4 hv x4 => ?_
  refine raw51 (hW3.ext x4).wt hv (by decide) (by simp) (hW3.ext x4).x.size fun w5 hW5 f5 => ?_
  have hW5 := Lw.step (hW3.ext x4).x hW5 f5
  have f5 := Fw.trans (Fr.of_ext (S := fun k => w.heap.size ≤ k ∧ ¬ X k) x4) f5
  refine U8w hW5 (by simp) fun w6 l6 hl6 hW6 f6 => ?_
  have hB6 := (f5.trans f6).blk hB3 fun h => h.2 hXb
  clear f5 f6 hW5 hW3 hB3 hB
  refine ldB hB6.boxed fa_61_0 l1_9 rfl (shortw hW6 hn.1.le (by simp; omega) fun w7 l7 hl7 hW7 f7 b => ?_)
  have hB7 := f7.blk hB6 fun h => h.2 hXb
  refine ldB hB7.boxed fa_61_1 l1_57 rfl (list54 hW7 (fun w' hx => h.fl.ext hx) (by omega) (by simp; omega) fun w8 l8 hl8 hW8 f8 => ?_)
  have hB8 := f8.blk hB7 fun h => h.2 hXb
  refine ldB hB8.boxed fa_61_2 l1_58 rfl (lnS xa_58 (him _ hW8.x) (U8w hW8 (by simp; omega) fun w9 l9 hl9 hW9 f9 => ?_))
  have hB9 := f9.blk hB8 fun h => h.2 hXb
  refine ⟨fun v w' => ∃ (j : Nat) (l : List Int), v = i64 j ∧ j ≤ i.imports.length ∧ l.length ≤ 1000 + 1000 * j ∧ Lw w w' g X l ∧ Blk w' w.heap.size [.string i.name, p.fv, p.iv, p.mv, p.xv] 61, fun v _ => i.imports.length - (RowKit.intOf v).toNat, ⟨0, _, rfl, Nat.zero_le _, by simp; omega, hW9, hB9⟩, ?_⟩
  clear hB6 hB7 hB8 hB9 hW6 hW7 hW8 hW9 f7 f8 f9
  rintro _ wa ⟨j, la, rfl, hj, hla, hWa, hBa⟩ _
  refine ldB hBa.boxed fa_61_2 l1_58 rfl (lnS xa_58 (him _ hWa.x) (V_lss.2 (ifD_dec (fun hlt => ?_) fun hge => ?_)))
  · obtain ⟨x, hx⟩ := ex_get (l := i.imports) (j := j) (by omega)
    have hxm : x ∈ i.imports := List.mem_of_getElem? hx
    have hxr := hi x hxm
    have hpl := hxr.2.1.2
    refine ldB hBa.boxed fa_61_2 l1_58 rfl (ldS xa_58 la_91 (him _ hWa.x) hx (fun _ row e h => imp_len _ row e h) fun row hrow => ?_)
    obtain ⟨pv, rfl, hp⟩ := hrow
    obtain ⟨pa, pc, rfl⟩ := hp.shape
    refine asK sa_91 rfl rfl fun wb hD xb => ?_
    have hD : Blk wb wa.heap.size [.string x.name, i64 x.exp, .slice pa x.params.length pc, i64 x.result] 91 := hD
    have hWb : Lw w wb g (fun k => X k ∨ k = wa.heap.size) la := ⟨hWa.wt.hold xb hD.lt, hWa.x.trans xb⟩
    have hBb := hBa.ext xb
    generalize wa.heap.size = gd at hD hWb
    refine ldB hD.boxed fa_91_0 l1_9 rfl (shortw hWb (hn.2 x hxm).le (by omega) fun wc lc hlc hWc fc b => ?_)
    have hDc := fc.blk hD fun h => h.2 (.inr rfl)
    refine ldB hDc.boxed fa_91_1 l1_3 rfl (U8w hWc (by simp; omega) fun we le hle hWe fe => ?_)
    have hDe := fe.blk hDc fun h => h.2 (.inr rfl)
    refine ldB hDe.boxed fa_91_2 l1_57 rfl (list54 hWe (fun w' hx => hp.ext hx) (by omega) (by simp; omega) fun wf lf hlf hWf ff => ?_)
    have hDf := ff.blk hDe fun h => h.2 (.inr rfl)
    refine ldB hDf.boxed fa_91_3 l1_3 rfl (U8w hWf (by simp; omega) fun wg lg hlg hWg fg => ?_)
    have hBg := (((fc.trans fe).trans ff).trans fg).blk hBb fun h => h.2 (.inl hXb)
    refine V_add.2 ?_
    rw [wrap_id (by omega) (by omega), i64_succ]
    exact ⟨⟨j + 1, _, rfl, by omega, by simp; omega, hWg.free fun _ h => .inl h, hBg⟩, by simp only [intOf_i64]; omega⟩
  refine ldB hBa.boxed fa_61_3 l1_59 rfl (lnS xa_59 (hmt _ hWa.x) (U8w hWa (by omega) fun wb lb hlb hWb fb => ?_))
  have hBb := fb.blk hBa fun h => h.2 hXb
  refine ⟨fun v w' => ∃ (j : Nat) (l : List Int), v = i64 j ∧ j ≤ i.methods.length ∧ l.length ≤ 10000 + 1000 * j ∧ Lw w w' g X l ∧ Blk w' w.heap.size [.string i.name, p.fv, p.iv, p.mv, p.xv] 61, fun v _ => i.methods.length - (RowKit.intOf v).toNat, ⟨0, _, rfl, Nat.zero_le _, by simp; omega, hWb, hBb⟩, ?_⟩
  clear hBa hBb hWa hWb fb
  rintro _ wa ⟨j, la, rfl, hj, hla, hWa, hBa⟩ _
  refine ldB hBa.boxed fa_61_3 l1_59 rfl (lnS xa_59 (hmt _ hWa.x) (V_lss.2 (ifD_dec (fun hlt => ?_) fun hge => ?_)))
  · obtain ⟨m, hx⟩ := ex_get (l := i.methods) (j := j) (by omega)
    have hxm : m ∈ i.methods := List.mem_of_getElem? hx
    obtain ⟨⟨_, hpl⟩, _, ⟨_, hll⟩, ⟨_, hcl⟩, hcr⟩ := hm m hxm
    refine ldB hBa.boxed fa_61_3 l1_59 rfl (ldS xa_59 la_94 (hmt _ hWa.x) hx (fun _ row e h => mth_len _ row e h) fun row hrow => ?_)
    obtain ⟨pv, lv, cv, rfl, hp, hl, hc⟩ := hrow
    have hp1 := hp
    have hl1 := hl
    have hc1 := hc
    obtain ⟨pa, pc, rfl⟩ := hp.shape
    obtain ⟨la2, lc2, rfl⟩ := hl.shape
    obtain ⟨ca, cc, rfl⟩ := SliceIs.shape hc
    refine asK sa_94 rfl rfl fun wb hD xb => ?_
    have hD : Blk wb wa.heap.size [.slice pa m.params.length pc, i64 m.result, .slice la2 m.locals.length lc2, .slice ca m.code.length cc] 94 := hD
    have hWb : Lw w wb g (fun k => X k ∨ k = wa.heap.size) la := ⟨hWa.wt.hold xb hD.lt, hWa.x.trans xb⟩
    have hBb := hBa.ext xb
    generalize wa.heap.size = gd at hD hWb
    refine ldB hD.boxed fa_94_0 l1_57 rfl (list54 hWb (fun w' hx => hp1.ext hx) (by omega) (by omega) fun wc lc hlc hWc fc => ?_)
    have hDc := fc.blk hD fun h => h.2 (.inr rfl)
    refine ldB hDc.boxed fa_94_1 l1_3 rfl (U8w hWc (by simp; omega) fun we le hle hWe fe => ?_)
    have hDe := fe.blk hDc fun h => h.2 (.inr rfl)
    refine ldB hDe.boxed fa_94_2 l1_57 rfl (list54 hWe (fun w' hx => hl1.ext hx) (by omega) (by simp; omega) fun wf lf hlf hWf ff => ?_)
    have hDf := ff.blk hDe fun h => h.2 (.inr rfl)
    refine ldB hDf.boxed fa_94_3 l1_92 rfl (lnx xa_92 (SliceIs.ext hc1 hWf.x) (U8w hWf (by simp; omega) fun wg lg hlg hWg fg => ?_))
    have hDg := fg.blk hDf fun h => h.2 (.inr rfl)
    have hBg := (((fc.trans fe).trans ff).trans fg).blk hBb fun h => h.2 (.inl hXb)
    refine ⟨fun v w' => ∃ (q : Nat) (l : List Int), v = i64 q ∧ q ≤ m.code.length ∧ l.length ≤ 10000 + 1000 * j + 50 + 5 * q ∧ Lw w w' g (fun k => X k ∨ k = gd) l ∧ Blk w' gd [.slice pa m.params.length pc, i64 m.result, .slice la2 m.locals.length lc2, .slice ca m.code.length cc] 94 ∧ Blk w' w.heap.size [.string i.name, p.fv, p.iv, p.mv, p.xv] 61, fun v _ => m.code.length - (RowKit.intOf v).toNat, ⟨0, _, rfl, Nat.zero_le _, by simp; omega, hWg, hDg, hBg⟩, ?_⟩
    clear hDg hBg hWg fg hDf hDe hDc hD hBb hWb hWc hWe hWf fc fe ff
    rintro _ wh ⟨q, lh, rfl, hq, hlh, hWh, hDh, hBh⟩ _
    refine ldB hDh.boxed fa_94_3 l1_92 rfl (lnx xa_92 (SliceIs.ext hc1 hWh.x) (V_lss.2 (ifD_dec (fun hlt2 => ?_) fun hge2 => ?_)))
    · obtain ⟨x, hx⟩ := ex_get (l := m.code) (j := q) (by omega)
      have hxr := hcr x (List.mem_of_getElem? hx)
      refine ldB hDh.boxed fa_94_3 l1_92 rfl (ldI (InsAre.ext hc1 hWh.x) hx (ins55 hWh hxr.1 (by omega) fun wi li hli hWi fi => ?_))
      refine V_add.2 ?_
      rw [wrap_id (by omega) (by omega), i64_succ]
      exact ⟨⟨q + 1, _, rfl, by omega, by simp; omega, hWi, fi.blk hDh fun h => h.2 (.inr rfl), fi.blk hBh fun h => h.2 (.inl hXb)⟩, by simp only [intOf_i64]; omega⟩
    · refine V_add.2 ?_
      rw [wrap_id (by omega) (by omega), i64_succ]
      exact ⟨⟨j + 1, _, rfl, by omega, by omega, hWh.free fun _ h => .inl h, hBh⟩, by simp only [intOf_i64]; omega⟩
  refine ldB hBa.boxed fa_61_4 l1_57 rfl (list54 hWa (fun w' hx => h.ex.ext hx) (by omega) (by omega) fun wb lb hlb hWb fb => ⟨.inl ⟨_, rfl⟩, ?_⟩)
  obtain ⟨⟨hlt, gx, xl, ⟨v, hb, ho, hox⟩, hby⟩, hx0⟩ := hWb
  exact ldB hb.boxed fa_105_0 l1_23 rfl (hk v 0 _ _ ho hby (by simp; omega) hx0)
end Go.Proofs.YthblbcjgdbaonaaGreatDoor
namespace Go.Vc
section
variable {P : Program} {w : World} {S : World → Prop} {L : Value → Prop}
theorem yldA {t n b : Nat} {cs : List Value} (hb : ∀ w', S w' → Boxed w' b cs) (ht : ∃ d z by_, P.underlying t = some d ∧ aggB d = true ∧ Inf P t z n by_) (hl : cs.length = n) (hk : L (.agg cs.toArray)) : yieldS P S (Instr.loadAt t (.pointer (some ⟨b, 0, none⟩))) L := by
  obtain ⟨d, z, by_, h1, h2, h3⟩ := ht
  exact yieldS.ok (fun w' hw => r_loadAgg h1 h2 h3 hl fun j hj => by
    obtain ⟨u, hu⟩ : ∃ u, cs[j]? = some u := ⟨_, List.getElem?_eq_getElem hj⟩
    rw [hu]; exact hb w' hw j u hu) hk
theorem xor_run {k : IntKind} {t : TypeId} {a b : Int} : (binOp .xor t (.int k a) (.int k b)).run P w = .ok (.int k (k.wrap (BitVec.ofInt k.bits a ^^^ BitVec.ofInt k.bits b).toNat)) w := by simp [binOp, Op.intBits]
end
end Go.Vc
namespace Go.Proofs.YthblbcjgdbaonaaGreatDoor
open Go.Vc Go.Tc
variable {w : World} {K : Value → World → Prop}
def ArgsU8 (w : World) (sv : Value) (l : List Int) : Prop := (sv = .slice none 0 0 ∧ l = []) ∨ ∃ ad c, sv = .slice (some ad) l.length c ∧ (0 < l.length → BytesAre w sv l)
theorem ArgsU8.ext {w w' : World} {sv : Value} {l : List Int} (h : ArgsU8 w sv l) (hx : Ext w w') : ArgsU8 w' sv l := by
  rcases h with h | ⟨ad, c, h1, h2⟩
  · exact .inl h
  · exact .inr ⟨ad, c, h1, fun h0 => (h2 h0).ext hx⟩
theorem few_ok {v : Value} {l : List Int} {k : Nat} {w : World} (h : ArgsU8 w v l) (hk : k ≤ 1000) : callD Tryz.prog 34 #[v, i64 (k : Int)] w fun r w' => w'.ownsRow w.heap.size 5 1 r (l.take k).length ((l.take k).map u8) ∧ Ext w w' := by
  apply F34_wp
  unfold F34_den
  refine bsl xe_23 [] rfl rfl (by simp) rfl fun v1 w1 ho1 x1 => ?_
  have hln : V Tryz.prog (Builtin.len_ #[23] 3 #[v]) w1 fun t w' => t = i64 l.length ∧ w' = w1 := by
    rcases h with ⟨rfl, rfl⟩ | ⟨ad, c, rfl, _⟩
    · exact V_ln_23.2 ⟨rfl, rfl⟩
    · exact V_ln_23.2 ⟨rfl, rfl⟩
  refine hln.mono fun t w' ⟨ht, hw⟩ => ?_
  subst ht; have hw := hw.symm; subst hw
  refine mn2 fun c hc h1 h2 => ?_
  obtain ⟨b, rfl⟩ : ∃ b : Nat, c = b := ⟨c.toNat, by rcases hc with rfl | rfl <;> omega⟩
  have hb : b = min l.length k := by omega
  have main : BytesAre w1 v l → V Tryz.prog (Instr.sliceAt 23 v none (some (i64 (b : Int))) none) w1 fun t11 w4 => V Tryz.prog (Builtin.append_ #[23, 23] 23 #[v1, t11]) w4 fun r w' => w'.ownsRow w.heap.size 5 1 r (l.take k).length ((l.take k).map u8) ∧ Ext w w' := fun hB => by
    obtain ⟨v2, hr, hs2⟩ := r_sl Tryz.underlying23 inf5 hB (lo := none) (hi' := some (i64 b)) (a := 0) (b := b) (.inl ⟨rfl, rfl⟩) (.inr rfl) (by omega) (by omega)
    refine V.ok (hr _) ?_
    refine apO xe_23 ho1 (hs2 _ hB) (by rw [List.all_eq_true]; intro x hx; exact List.all_eq_true.1 (all_u8 l) x (List.mem_of_mem_drop (List.mem_of_mem_take hx))) (by omega) (by unfold maxLen; omega) x1.size fun v3 w3 ho3 hg3 => ?_
    refine ⟨?_, x1.grown hg3 fun k hk => (ho1.lt k hk).1⟩
    have := ho3
    have e : (l.take k).length = b := by simp; omega
    rw [e]
    simp only [Nat.zero_add, List.nil_append, Nat.sub_zero, List.drop_zero] at this
    rw [show (l.take k).map u8 = (l.map u8).take b from by rw [List.map_take, hb]; simp [Nat.min_comm, List.take_eq_take_iff]]
    exact this
  rcases h with ⟨rfl, rfl⟩ | ⟨ad, c, rfl, hB⟩
  · exact main (SliceIs.nil _ _)
  by_cases h0 : 0 < l.length
  · exact main ((hB h0).ext x1)
  · have hl0 : l = [] := List.eq_nil_of_length_eq_zero (by omega)
    subst hl0
    have hb0 : b = 0 := by simp at hb; exact hb
    subst hb0
    refine V.ok (r_hi Tryz.underlying23 inf5 (Nat.zero_le _)) ?_
    obtain ⟨z, ht, hi, hz⟩ := (by exact xe_23 : XE Tryz.prog 23 5 1)
    obtain ⟨i, hi', hz', hn, hby⟩ := info_parts hi
    obtain ⟨ad', he⟩ : ∃ ad', (if c = 0 then some ad else (some ad).map (·.add 0)) = some ad' := by split <;> exact ⟨_, rfl⟩
    rw [he]
    obtain ⟨v3, w3, hr, h2, h3, _⟩ := run_append_own (P := Tryz.prog) w1 w.heap.size 23 23 5 i z 1 1 ht hi' hz' hn hby (by simpa using hz) (by omega) v1 0 [] ho1 ad' 0 c [] rfl (fun j u hj => by simp at hj) (fun u hu => by simp at hu) (by unfold maxLen; omega) (by omega) x1.size
    refine V.ok hr ⟨?_, x1.grown h3 fun k hk => (ho1.lt k hk).1⟩
    simpa using h2
theorem ArgsU8.of {v : Value} {l : List Int} (h : BytesAre w v l) : ArgsU8 w v l := by
  rcases h.2 with ⟨rfl, h0⟩ | ⟨b, off, cap, rfl, h1, h2, h3⟩
  · exact .inl ⟨rfl, List.eq_nil_of_length_eq_zero h0⟩
  · exact .inr ⟨_, _, rfl, fun _ => ⟨h.1, .inr ⟨b, off, cap, rfl, h1, h2, h3⟩⟩⟩
structure Evt where
  kind : Int
  bytes : List Int
  name : ByteArray
  pub : List Int
  sec : List Int
  fuel : Int
def U8s (l : List Int) : Prop := ∀ b ∈ l, 0 ≤ b ∧ b < 256
structure EvtIs (w : World) (cs : List Value) (e : Evt) : Prop where
  c : ∃ bv pv sv, cs = [i64 e.kind, bv, .string e.name, pv, sv, i64 e.fuel] ∧ ArgsU8 w bv e.bytes ∧ ArgsU8 w pv e.pub ∧ ArgsU8 w sv e.sec
  b : U8s e.bytes
  p : U8s e.pub
  s : U8s e.sec
theorem EvtIs.ext {w' : World} {cs : List Value} {e : Evt} (h : EvtIs w cs e) (hx : Ext w w') : EvtIs w' cs e := by
  obtain ⟨⟨bv, pv, sv, h1, h2, h3, h4⟩, h5, h6, h7⟩ := h
  exact ⟨⟨bv, pv, sv, h1, h2.ext hx, h3.ext hx, h4.ext hx⟩, h5, h6, h7⟩
theorem ArgsU8.nil (w : World) : ArgsU8 w nilS [] := .inl ⟨rfl, rfl⟩
theorem ArgsU8.one {v : Value} {l : List Int} (h : ArgsU8 w v l) : oneC v = true := by
  rcases h with ⟨rfl, _⟩ | ⟨_, _, rfl, _⟩ <;> rfl
theorem EvtIs.one {cs : List Value} {e : Evt} (h : EvtIs w cs e) : cs.all oneC = true ∧ cs.length = 6 := by
  obtain ⟨⟨bv, pv, sv, rfl, h2, h3, h4⟩, _⟩ := h
  refine ⟨?_, rfl⟩
  simp only [List.all_cons, List.all_nil, h2.one, h3.one, h4.one]
  rfl
theorem u8nil : U8s [] := fun _ h => by simp at h
structure RawIs (w : World) (cs : List Value) where
  kind : Int
  n : Int
  fuel : Int
  lv : Value
  pv : Value
  sv : Value
  how : Int
  at_ : Int
  by_ : Int
  l : List Rw
  pub : List Int
  sec : List Int
  c : cs = [i64 kind, i64 n, i64 fuel, lv, pv, sv, i64 how, i64 at_, i64 by_]
  lr : RwsAre w lv l
  ll : l.length ≤ 5000000000000
  pr : ArgsU8 w pv pub
  sr : ArgsU8 w sv sec
  pu : U8s pub
  su : U8s sec
end Go.Proofs.YthblbcjgdbaonaaGreatDoor
namespace Go.Proofs.YthblbcjgdbaonaaGreatDoor
open Go.Vc Go.Tc
variable {w : World} {K : Value → World → Prop}
def ImgV.cells (p : ImgV) (i : Img) : List Value := [.string i.name, p.fv, p.iv, p.mv, p.xv]
theorem Apl.one {p : ImgV} {i : Img} (h : Apl w p i) : (p.cells i).all oneC = true := by
  obtain ⟨a1, c1, e1⟩ := SliceIs.shape h.at_.fl
  obtain ⟨_, hx1, _⟩ := h.at_.im
  obtain ⟨a2, c2, e2⟩ := SliceIs.shape hx1
  obtain ⟨_, hx3, _⟩ := h.at_.mt
  obtain ⟨a3, c3, e3⟩ := SliceIs.shape hx3
  obtain ⟨a4, c4, e4⟩ := SliceIs.shape h.at_.ex
  unfold ImgV.cells
  rw [e1, e2, e3, e4]; rfl
theorem apl9 {n : Int} {rv : Value} {rl : List Rw} (hr : RwsAre w rv rl) (hb : BinsOk w) (hT : Tabs w) (rn : rl.length ≤ 5000000000000)
    (hk : ∀ p i w', Stay w.heap.size w' p i → (∀ m ∈ i.methods, m.code.length ≤ 700000) → Ext w w' → K (p.val i) w') : callD Tryz.prog 29 #[i64 n, rv] w K :=
  applet9 hr hb hT rn fun p i w' _ _ h3 h4 h5 h7 h8 h6 => hk p i w' ⟨fun w'' f hT'' => ⟨(h7 w'' f hT'').1, (h7 w'' f hT'').2, h3, h4, fun m hm => Nat.le_trans (h5 m hm) (by decide)⟩, h8⟩ h5 h6
theorem BinsOk.ext {w' : World} (hb : BinsOk w) (hx : Ext w w') : BinsOk w' := fun q hq => by
  obtain ⟨z, hz⟩ := hb q hq
  exact ⟨z, hx.cell hz⟩
theorem ArgsU8.own {B n : Nat} {v : Value} {l : List Int} (h : w.ownsRow B 5 1 v n (l.map u8)) : ArgsU8 w v l := by
  have hn : n = l.length := by have := h.1; simpa using this.symm
  subst hn
  exact ArgsU8.of (SliceIs.of_own h)
theorem U8s.take {l : List Int} {k : Nat} (h : U8s l) : U8s (l.take k) := fun b hb => h b (List.mem_of_mem_take hb)
def EvtStay (a b : Nat) (w : World) (cs : List Value) (e : Evt) : Prop := ∀ w'', Fr (fun k => a ≤ k ∧ k < b) w w'' → EvtIs w'' cs e
theorem EvtStay.now {a b : Nat} {cs : List Value} {e : Evt} (h : EvtStay a b w cs e) : EvtIs w cs e := h w (Fr.refl _ _)
theorem EvtStay.ext {a b : Nat} {w' : World} {cs : List Value} {e : Evt} (h : EvtStay a b w cs e) (hx : Ext w w') : EvtStay a b w' cs e := fun w'' f => h w'' ((Fr.of_ext hx).trans f fun _ _ h => h)
set_option maxHeartbeats 4000000 in
theorem card16 {wz : World} {cs : List Value} (x : RawIs wz cs) (hxz : Ext wz w) (hb : BinsOk w) (hT : Tabs w) (hk : ∀ cs e w', EvtStay wz.heap.size w.heap.size w' cs e → Ext w w' → K (.agg cs.toArray) w') :
    callD Tryz.prog 16 #[.agg cs.toArray] w K := by
  apply F16_wp
  unfold F16_den
  obtain ⟨kind, n, fuel, lv, pv, sv, how, at', by', l, pub, sec, rfl, lr, ll, pr0, sr0, pu, su⟩ := x
  have lr := lr.ext hxz
  have pr := pr0.ext hxz
  have sr := sr0.ext hxz
  have sz := hxz.size
  refine bxK fun w1 hB1 x1 => ?_
  have hB1 : Blk w1 w.heap.size [i64 kind, i64 n, i64 fuel, lv, pv, sv, i64 how, i64 at', i64 by'] 25 := hB1
  refine alK inf29 fun w2 hB2 x2 => ?_
  have hB2 : Blk w2 w1.heap.size [i64 0, nilS, .string ByteArray.empty, nilS, nilS, i64 0] 29 := hB2
  have hB1 := hB1.ext x2
  have x02 := x1.trans x2
  have l2 := hB2.lt
  have s1 := x1.size
  generalize hg1 : w.heap.size = g1 at *
  generalize hg2 : w1.heap.size = g2 at *
  have fin : ∀ {w' : World} {cs : List Value} {e : Evt}, Ext w2 w' → (∀ w'', Fr (fun k => k = g2 ∨ (wz.heap.size ≤ k ∧ k < g1)) w' w'' → Ext wz w'' → EvtIs w'' cs e) → U Tryz.prog (Instr.storeAt 29 (.pointer (some ⟨g2, 0, none⟩)) (.agg cs.toArray)) w' fun _ w7 =>
      ∃ r1, (loadVar 29 (match (Value.pointer (some ⟨g2, 0, none⟩)) with | .pointer (some p) => p | _ => ⟨0, 0, none⟩)).run Tryz.prog w7 = .ok r1 w7 ∧ (∃ p, (Value.pointer (some ⟨g2, 0, none⟩)) = Value.pointer (some p)) ∧ K r1 w7 := by
    intro w' cs e hx hS
    have hone := (hS w' (Fr.refl _ _) (hxz.trans (x02.trans hx))).one
    refine stA inf29 (hB2.ext hx) (l := cs) rfl hone.2 rfl hone.1 fun w7 hB7 hc => ?_
    have x7 : Ext w w7 := hc.ext _ (x02.trans hx) (by omega)
    exact ⟨_, r_var Tryz.underlying29 rfl inf29 hB7 hone.2, ⟨_, rfl⟩, hk cs e w7 (fun w'' f => hS w'' (((chg_fr hc).mono fun k hk => .inl hk).trans (f.mono fun k hk => .inr hk) fun _ _ h => h) (f.ext (hxz.trans x7) fun k hk => hk.1)) x7⟩
  refine ⟨fun w' => Ext w2 w', ?_, ?_⟩
  · refine ldB hB1.boxed fa_25_0 l1_3 rfl (pick10 (by decide) (by decide) fun q _ _ => ?_)
    refine ⟨fun v w' => (∃ b, v = .bool b) ∧ Ext w2 w', ?_, ?_⟩
    · refine V_eqlI.2 (ifD_dec (fun h => ⟨⟨_, rfl⟩, Ext.refl _⟩) fun h => V_eqlI.2 ⟨⟨_, rfl⟩, Ext.refl _⟩)
    rintro _ w8 ⟨⟨b, rfl⟩, x8⟩ _
    cases b with
    | true =>
      refine ifD_true.2 ?_
      have hB18 := hB1.ext x8
      refine ldB hB18.boxed fa_25_1 l1_3 rfl (ldB hB18.boxed fa_25_3 l1_22 rfl ?_)
      have x08 := x02.trans x8
      refine apl9 (lr.ext x08) (hb.ext x08) (hT.ext x08) ll fun p i w9 hst hc7 x9 => ?_
      have x09 := x08.trans x9
      have hone := (hst.now (hT.ext x09)).one
      refine asK sa_61 rfl hone fun w10 hB3 x10 => ?_
      have hB3 : Blk w10 w9.heap.size (p.cells i) 61 := hB3
      have x010 := x09.trans x10
      have x210 := (x8.trans x9).trans x10
      have hst10 := hst.ext x10
      have s9 := x9.size
      have s8 := x8.size
      have l3 := hB3.lt
      generalize hg3 : w9.heap.size = g3 at *
      generalize hg8 : w8.heap.size = g8 at *
      have hst3 : StayS (fun k => k = g3) w10 p i := StayS.by_ hst fun w'' f => ⟨f.os.trans x10.os, f.tape.trans x10.tape, f.output.trans x10.output, Nat.le_trans x10.size f.size, fun k hk _ => (f.block k (Nat.lt_of_lt_of_le hk x10.size) (by omega)).trans (x10.block k hk (by simp))⟩
      clear hst hst10
      refine ⟨fun w' => ∃ p i, Blk w' g3 (ImgV.cells p i) 61 ∧ Apl w' p i ∧ Ext w2 w', ?_, ?_⟩
      · refine ldB (hB1.ext x210).boxed fa_25_6 l1_3 rfl (rm (by decide) fun c _ _ _ => V_eqlI.2 (ifD_dec (fun hc => ?_) fun hc => ?_))
        · have D1 : Ext w10 w10.drew := (Ext.refl _).drew
          have x2d := x210.trans D1
          refine drawD.mk' (fun w' => Ext w10.drew w') (Ext.refl _) ?_
          refine yldA (fun w' hw => ((hB3.ext D1).ext hw).boxed) la_61 rfl ?_
          refine yfB (fun w' hw => ((hB1.ext x2d).ext hw).boxed) fa_25_6 l1_3 rfl (yieldS.ok (fun w' _ => r_quo (by decide)) ?_)
          refine yfB (fun w' hw => ((hB1.ext x2d).ext hw).boxed) fa_25_7 l1_3 rfl (yfB (fun w' hw => ((hB1.ext x2d).ext hw).boxed) fa_25_8 l1_3 rfl ?_)
          refine pick10 (by decide) (by decide) fun q1 _ _ => ⟨Ext.refl _, pick10 (by decide) (by decide) fun q2 _ _ => ⟨Ext.refl _, ?_⟩⟩
          refine bentS (hst3.ext D1) (hT.ext (x010.trans D1)) (fun k hk => by have := D1.size; have hk : k = g3 := hk; omega) hc7 fun p4 i4 w11 hst4 x11 => ⟨x11, ?_⟩
          have x2e := x2d.trans x11
          refine stA inf61 (hB3.ext (D1.trans x11)) (l := p4.cells i4) rfl rfl rfl (hst4.now (hT.ext (x02.trans x2e))).one fun w12 hB12 hc12 => ?_
          exact ⟨p4, i4, hB12, hst4.ap _ (chg_fr hc12) (hT.ext (hc12.ext _ (x02.trans x2e) (by omega))), hc12.ext _ x2e (by omega)⟩
        · refine ldA hB3.boxed la_61 rfl ?_
          have hA3 := hst3.now (hT.ext x010)
          refine verify11 (p := p) (i := i) hA3.at_ hA3.nm fun a b e w11 _ x11 => ?_
          refine V_ext0.2 (V_ext1.2 (asB sa_65 rfl rfl fun b12 w12 _ x12 => ?_))
          have x1c := x11.trans x12
          refine V_neqI.2 (ifD_dec (fun hne => ?_) fun heq => ⟨p, i, hB3.ext x1c, hA3.ext x1c, x210.trans x1c⟩)
          have D1 : Ext w12 w12.drew := (Ext.refl _).drew
          have x1d := x1c.trans D1
          have x2d := x210.trans x1d
          have hrrd := lr.ext (x02.trans x2d)
          obtain ⟨u6, r6, hs6⟩ := RwsAre.part Tryz.underlying22 inf143 hrrd (lo := none) (hi' := some (.int .i64 ((l.length / 3 : Nat) : Int))) (a := 0) (b := l.length / 3) (.inl ⟨rfl, rfl⟩) (.inr rfl) (by omega) (by omega)
          refine drawD.mk' (fun w' => Ext w12.drew w') (Ext.refl _) ?_
          have hBd : ∀ w', Ext w12.drew w' → Boxed w' g1 _ := fun w' hw => ((hB1.ext x2d).ext hw).boxed
          refine yfB hBd fa_25_1 l1_3 rfl (yfB hBd fa_25_3 l1_22 rfl (yfB hBd fa_25_3 l1_22 rfl (yLenR xa_22 hrrd (yieldS.ok (fun w' _ => r_quo (by decide)) ?_))))
          have e2 : IntKind.i64.wrap (((l.length : Nat) : Int).tdiv 3) = ((l.length / 3 : Nat) : Int) := by
            rw [Int.tdiv_eq_ediv_of_nonneg (by omega), wrap_id (by omega) (by omega)]; rfl
          rw [e2]
          refine yieldS.ok (fun w' _ => r6 _) ?_
          refine apl9 hs6 (hb.ext (x02.trans x2d)) (hT.ext (x02.trans x2d)) (by simp; omega) fun p7 i7 w7 ha7 _ x7 => ⟨x7, ?_⟩
          have x2e := x2d.trans x7
          have hgd := (hB3.ext x1d).lt
          refine stA inf61 (hB3.ext (x1d.trans x7)) (l := p7.cells i7) rfl rfl rfl (ha7.now (hT.ext (x02.trans x2e))).one fun w8 hB8 hc8 => ?_
          exact ⟨p7, i7, hB8, ha7.ap _ ((chg_fr hc8).mono fun k hk => by omega) (hT.ext (hc8.ext _ (x02.trans x2e) (by omega))), hc8.ext _ x2e (by omega)⟩
      clear hB3 hst3 x10 x210 x010 x9 x09 hone hc7
      rintro w10 ⟨p, i, hB3, hA3, x210⟩ _
      refine ldA hB3.boxed la_61 rfl ?_
      refine lay32 (p := p) (i := i) hA3.at_ hA3.nm fun v e bl w11 ho hbl hln x11 => ?_
      have x211 := x210.trans x11
      refine V_ext0.2 (V_ext1.2 ?_)
      have s210 := x210.size
      refine ⟨fun w' => ∃ bl : List Int, w'.ownsRow w10.heap.size 5 1 v bl.length (bl.map u8) ∧ U8s bl ∧ Ext w2 w', ?_, ?_⟩
      · refine ldB (hB1.ext x211).boxed fa_25_6 l1_3 rfl (rm (by decide) fun c _ _ _ => V_eqlI.2 ?_)
        by_cases hc : c = 0
        · simp only [hc, evL, reduceIte, decide_true]
          refine lnx xa_23 (SliceIs.of_own ho) (V_gtr.2 (ifD_dec (fun hpos => ?_) fun hz => ⟨bl, ho, hbl, x211⟩))
          have D1 : Ext w11 w11.drew := (Ext.refl _).drew
          have x2d := x211.trans D1
          have hod := (Fr.of_ext (S := fun _ => False) D1).own ho fun _ _ h => h
          refine drawD.mk' (fun w' => Ext w11.drew w') (Ext.refl _) ?_
          have hBd : ∀ w', Ext w11.drew w' → Boxed w' g1 _ := fun w' hw => ((hB1.ext x2d).ext hw).boxed
          refine yfB hBd fa_25_7 l1_3 rfl ?_
          obtain ⟨gv, cv, rfl⟩ : ∃ g c, v = .slice (some ⟨g, 0, none⟩) bl.length c := by
            rcases hod.2 with ⟨_, e⟩ | ⟨g, c, cur, rfl, _⟩
            · omega
            · exact ⟨g, c, rfl⟩
          refine yieldS.ok (v := i64 bl.length) (fun w' _ => by kernel_rfl) ?_
          refine yfB hBd fa_25_8 l1_3 rfl (yieldS.ok (fun w' _ => r_convI Tryz.underlying3 Tryz.underlying5) ?_)
          refine pick10 (by omega) (by omega) fun q q0 q1 => ⟨Ext.refl _, ?_⟩
          obtain ⟨b0, hb0⟩ := ex_get (l := bl) (j := q.toNat) (by omega)
          refine ySl xa_23 l1_5 (SliceIs.of_own hod) (fun _ h => h) q0 q1 (u := u8 b0) (by simp [hb0]) ?_
          refine yieldS.ok (fun w' _ => xor_run) ?_
          refine yieldS.ok (fun w' _ => r_index Tryz.underlying23 inf5 q0 q1) ?_
          refine stY inf5 hod (i := q.toNat) (by omega) rfl fun w12 ho12 hg12 => ?_
          have hz := u8_b (BitVec.ofInt IntKind.u8.bits b0 ^^^ BitVec.ofInt IntKind.u8.bits (IntKind.u8.wrap by')).toNat
          generalize IntKind.u8.wrap (BitVec.ofInt IntKind.u8.bits b0 ^^^ BitVec.ofInt IntKind.u8.bits (IntKind.u8.wrap by')).toNat = z at *
          refine ⟨bl.set q.toNat z, ?_, fun y hy => ?_, x2d.grown hg12 fun k hk => by cases hk; have := (hod.lt gv rfl).1; omega⟩
          · rw [List.length_set, List.map_set]; exact ho12
          · rcases List.mem_or_eq_of_mem_set hy with hy | rfl
            · exact hbl y hy
            · exact hz
        · simp only [hc, evL, reduceIte, Bool.false_eq_true, decide_false]
          exact ⟨bl, ho, hbl, x211⟩
      · rintro w12 ⟨bl', ho', hbl', x212⟩ _
        obtain ⟨va, vc, rfl⟩ := (SliceIs.of_own ho').shape
        refine bldA (v := .agg #[i64 1, .slice va bl'.length vc, .string ⟨#[]⟩, nilS, nilS, i64 0]) (fun w => by kernel_rfl) ?_
        refine fin (cs := [i64 1, .slice va bl'.length vc, .string ⟨#[]⟩, nilS, nilS, i64 0]) (e := ⟨1, bl', ⟨#[]⟩, [], [], 0⟩) x212 fun w'' f x => ⟨⟨_, nilS, nilS, rfl, ArgsU8.own (f.own ho' fun k hk h => h.elim (own_neB (hB2.ext x212) ho' (by decide) k hk) fun h => by have := (ho'.lt k hk).1; omega), ArgsU8.nil _, ArgsU8.nil _⟩, hbl', u8nil, u8nil⟩
    | false =>
      refine ifD_false.2 ?_
      refine ⟨fun v w' => (∃ b, v = .bool b) ∧ Ext w2 w', ?_, ?_⟩
      · refine V_eqlI.2 (ifD_dec (fun h => ⟨⟨_, rfl⟩, x8⟩) fun h => V_eqlI.2 ⟨⟨_, rfl⟩, x8⟩)
      rintro _ w9 ⟨⟨b, rfl⟩, x9⟩ _
      have hB19 := hB1.ext x9
      cases b with
      | true =>
        refine ifD_true.2 (ldB hB19.boxed fa_25_1 l1_3 rfl (name25 fun s hs => ?_))
        refine bldA (v := .agg #[i64 2, nilS, .string s, nilS, nilS, i64 0]) (fun w => by kernel_rfl) ?_
        exact fin (cs := [i64 2, nilS, .string s, nilS, nilS, i64 0]) (e := ⟨2, [], s, [], [], 0⟩) x9 fun w'' f x => ⟨⟨nilS, nilS, nilS, rfl, ArgsU8.nil _, ArgsU8.nil _, ArgsU8.nil _⟩, u8nil, u8nil, u8nil⟩
      | false =>
      refine ifD_false.2 (V_eqlI.2 (ifD_dec (fun _ => ?_) fun _ => V_eqlI.2 (ifD_dec (fun _ => ?_) fun _ => V_eqlI.2 (ifD_dec (fun _ => ?_) fun _ => x9))))
      · refine bldA (v := .agg #[i64 3, nilS, .string ⟨#[]⟩, nilS, nilS, i64 0]) (fun w => by kernel_rfl) ?_
        exact fin (cs := [i64 3, nilS, .string ⟨#[]⟩, nilS, nilS, i64 0]) (e := ⟨3, [], ⟨#[]⟩, [], [], 0⟩) x9 fun w'' f x => ⟨⟨nilS, nilS, nilS, rfl, ArgsU8.nil _, ArgsU8.nil _, ArgsU8.nil _⟩, u8nil, u8nil, u8nil⟩
      · refine bldA (v := .agg #[i64 4, nilS, .string ⟨#[]⟩, nilS, nilS, i64 0]) (fun w => by kernel_rfl) ?_
        exact fin (cs := [i64 4, nilS, .string ⟨#[]⟩, nilS, nilS, i64 0]) (e := ⟨4, [], ⟨#[]⟩, [], [], 0⟩) x9 fun w'' f x => ⟨⟨nilS, nilS, nilS, rfl, ArgsU8.nil _, ArgsU8.nil _, ArgsU8.nil _⟩, u8nil, u8nil, u8nil⟩
      · refine ldB hB19.boxed fa_25_6 l1_3 rfl (rm (by decide) fun c _ _ _ => V_eqlI.2 (ifD_dec (fun _ => ?_) fun _ => x9))
        have D1 : Ext w9 w9.drew := (Ext.refl _).drew
        have x2d := x9.trans D1
        refine drawD.mk' (fun w' => Ext w9.drew w') (Ext.refl _) ?_
        have hBd : ∀ w', Ext w9.drew w' → Boxed w' g1 _ := fun w' hw => ((hB1.ext x2d).ext hw).boxed
        obtain ⟨pa, pc, hpv⟩ : ∃ a c, pv = .slice a pub.length c := by
          rcases pr with ⟨rfl, rfl⟩ | ⟨a, c, rfl, _⟩ <;> exact ⟨_, _, rfl⟩
        subst hpv
        refine yfB hBd fa_25_1 l1_3 rfl (yfB hBd fa_25_4 l1_23 rfl (yfB hBd fa_25_2 l1_3 rfl (pick10 (by decide) (by decide) fun q _ _ => ⟨Ext.refl _, ?_⟩)))
        refine yieldS.ok (v := .agg #[i64 n, .slice pa pub.length pc, .string ⟨#[122, 122]⟩, nilS, nilS, i64 q]) (fun w' _ => by kernel_rfl) ?_
        exact fin (cs := [i64 n, .slice pa pub.length pc, .string ⟨#[122, 122]⟩, nilS, nilS, i64 q]) (e := ⟨n, pub, ⟨#[122, 122]⟩, [], [], q⟩) x2d fun w'' f x => ⟨⟨_, nilS, nilS, rfl, pr0.ext x, ArgsU8.nil _, ArgsU8.nil _⟩, pu, u8nil, u8nil⟩
  rintro w3 x3 _
  have D1 : Ext w3 w3.drew := (Ext.refl _).drew
  have x2d := x3.trans D1
  have x0d := x02.trans x2d
  refine drawD.mk' (fun w' => Ext w3.drew w') (Ext.refl _) ?_
  have hBd : ∀ w', Ext w3.drew w' → Boxed w' g1 _ := fun w' hw => ((hB1.ext x2d).ext hw).boxed
  refine yfB hBd fa_25_4 l1_23 rfl (yfB hBd fa_25_5 l1_23 rfl (yfB hBd fa_25_2 l1_3 rfl ?_))
  refine (few_ok (k := 65) (pr.ext x0d) (by decide)).mono fun v4 w4 ⟨ho4, x4⟩ => ⟨x4, ?_⟩
  refine (few_ok (k := 64) (sr.ext (x0d.trans x4)) (by decide)).mono fun v5 w5 ⟨ho5, x5⟩ => ⟨x4.trans x5, ?_⟩
  refine pick10 (by decide) (by decide) fun q _ _ => ⟨x4.trans x5, ?_⟩
  have x45 := x4.trans x5
  have x25 := x2d.trans x45
  have ho4 := (Fr.of_ext (S := fun _ => False) x5).own ho4 fun _ _ h => h
  obtain ⟨a4, c4, rfl⟩ := (SliceIs.of_own ho4).shape
  obtain ⟨a5, c5, rfl⟩ := (SliceIs.of_own ho5).shape
  refine yieldS.ok (v := .agg #[i64 5, nilS, .string ⟨#[]⟩, .slice a4 (pub.take 65).length c4, .slice a5 (sec.take 64).length c5, i64 q]) (fun w' _ => by kernel_rfl) ?_
  exact fin (cs := [i64 5, nilS, .string ⟨#[]⟩, .slice a4 (pub.take 65).length c4, .slice a5 (sec.take 64).length c5, i64 q]) (e := ⟨5, [], ⟨#[]⟩, pub.take 65, sec.take 64, q⟩) x25 fun w'' f x => ⟨⟨nilS, _, _, rfl, ArgsU8.nil _, ArgsU8.own (f.own ho4 fun k hk h => h.elim (own_neB (hB2.ext x25) ho4 (by decide) k hk) fun h => by have := (ho4.lt k hk).1; have := x2d.size; omega), ArgsU8.own (f.own ho5 fun k hk h => h.elim (own_neB (hB2.ext x25) ho5 (by decide) k hk) fun h => by have := (ho5.lt k hk).1; have := x2d.size; have := x4.size; omega)⟩, u8nil, pu.take, su.take⟩
end Go.Proofs.YthblbcjgdbaonaaGreatDoor
namespace Go.Proofs.YthblbcjgdbaonaaGreatDoor
open Go.Vc Go.Tc
variable {w : World} {K : Value → World → Prop}
set_option maxHeartbeats 1600000 in
theorem event6 {wz : World} {cs : List Value} {how : Int} {nm : ByteArray} (x : RawIs wz cs) (hxz : Ext wz w) (hb : BinsOk w) (hT : Tabs w) (_ : -9223372036854775808 ≤ how ∧ how ≤ 9223372036854775807) (hk : ∀ cs e w', EvtIs w' cs e → Ext w w' → K (.agg cs.toArray) w') :
    callD Tryz.prog 6 #[.agg cs.toArray, i64 how, .string nm] w K := by
  apply F6_wp
  unfold F6_den
  have hcl : cs.length = 9 := by rw [x.c]; rfl
  have sz := hxz.size
  refine bxK fun w1 hB1 x1 => ?_
  have hB1 : Blk w1 w.heap.size cs 25 := by
    rw [x.c] at hB1 ⊢
    exact hB1
  have l1 := hB1.lt
  refine alK inf29 fun w2 hB2 x2 => ?_
  have hB2 : Blk w2 w1.heap.size [i64 0, nilS, .string ByteArray.empty, nilS, nilS, i64 0] 29 := hB2
  have hB1 := hB1.ext x2
  have x02 := x1.trans x2
  have l2 := hB2.lt
  generalize hg1 : w.heap.size = g1 at *
  generalize hg2 : w1.heap.size = g2 at *
  refine ldA hB1.boxed la_25 hcl ?_
  refine card16 x (hxz.trans x02) (hb.ext x02) (hT.ext x02) fun cs2 e2 w4 hst x4 => ?_
  have x04 := x02.trans x4
  have hone := hst.now.one
  have hst0 := hst
  obtain ⟨⟨bv, pv, sv, rfl, _⟩, _⟩ := hst.now
  refine asK sa_29 rfl hone.1 fun w5 hB5 x5 => ?_
  have hB5 : Blk w5 w4.heap.size [i64 e2.kind, bv, .string e2.name, pv, sv, i64 e2.fuel] 29 := hB5
  have x05 := x04.trans x5
  have x25 := x4.trans x5
  have l5 := hB5.lt
  have s4 := x4.size
  have s1 := x1.size
  generalize hg7 : w4.heap.size = g7 at *
  have fin : ∀ {w' : World} {cs3 : List Value} {e3 : Evt}, Ext w2 w' → Blk w' g7 cs3 29 → cs3.length = 6 → (∀ w'', Fr (fun k => k = g2) w' w'' → EvtIs w'' cs3 e3) → V Tryz.prog (Instr.loadAt 29 (.pointer (some ⟨g7, 0, none⟩))) w' fun t33 w13 => U Tryz.prog (Instr.storeAt 29 (.pointer (some ⟨g2, 0, none⟩)) t33) w13 fun _ w14 =>
      ∃ r1, (loadVar 29 (match (Value.pointer (some ⟨g2, 0, none⟩)) with | .pointer (some p) => p | _ => ⟨0, 0, none⟩)).run Tryz.prog w14 = .ok r1 w14 ∧ (∃ p, (Value.pointer (some ⟨g2, 0, none⟩)) = Value.pointer (some p)) ∧ K r1 w14 := by
    intro w' cs3 e3 hx hB hl hS
    have hone := (hS w' (Fr.refl _ _)).one
    refine ldA hB.boxed la_29 hl ?_
    refine stA inf29 (hB2.ext hx) (l := cs3) rfl hone.2 rfl hone.1 fun w7 hB7 hc => ?_
    exact ⟨_, r_var Tryz.underlying29 rfl inf29 hB7 hone.2, ⟨_, rfl⟩, hk cs3 e3 w7 (hS w7 (chg_fr hc)) (hc.ext _ (x02.trans hx) (by omega))⟩
  have chg : ∀ {o : Nat} {u : Value} {e3 : Evt}, (∀ w'', EvtIs w'' [i64 e2.kind, bv, .string e2.name, pv, sv, i64 e2.fuel] e2 → EvtIs w'' ([i64 e2.kind, bv, .string e2.name, pv, sv, i64 e2.fuel].set o u) e3) →
      V Tryz.prog (Instr.loadAt 29 (.pointer (some ⟨g7, 0, none⟩))) (w5.setCell ⟨g7, o, none⟩ u) fun t33 w13 => U Tryz.prog (Instr.storeAt 29 (.pointer (some ⟨g2, 0, none⟩)) t33) w13 fun _ w14 =>
      ∃ r1, (loadVar 29 (match (Value.pointer (some ⟨g2, 0, none⟩)) with | .pointer (some p) => p | _ => ⟨0, 0, none⟩)).run Tryz.prog w14 = .ok r1 w14 ∧ (∃ p, (Value.pointer (some ⟨g2, 0, none⟩)) = Value.pointer (some p)) ∧ K r1 w14 := by
    intro o u e3 he
    have f : Fr (fun k => k = g7) w5 (w5.setCell ⟨g7, o, none⟩ u) := Fr.of_set rfl
    refine fin (f.ext x25 fun k hk => by have hk : k = g7 := hk; omega) (hB5.set o u) (by simp) fun w'' f2 => he w'' (hst w'' ?_)
    refine (((Fr.of_ext (S := fun k => wz.heap.size ≤ k ∧ k < w2.heap.size) x5).trans f fun k hk h => ?_)).trans f2 fun k hk h => ?_
    · have h : k = g7 := h; omega
    · have h : k = g2 := h; omega
  refine pick10 (by decide) (by decide) fun q _ _ => V_eqlI.2 (ifD_dec (fun _ => ?_) fun _ => V_eqlI.2 (ifD_dec (fun _ => ?_) fun _ => V_eqlI.2 (ifD_dec (fun _ => ?_) fun _ => V_eqlI.2 (ifD_dec (fun _ => ?_) fun _ => ?_))))
  · refine V.ok (r_quo (by decide)) (pick10 (by decide) (by decide) fun q2 _ _ => ?_)
    refine stF fa_29_0 inf3 hB5 rfl (by simp) rfl (chg (e3 := { e2 with kind := q2 }) fun w'' h => ?_)
    obtain ⟨⟨_, _, _, he, h2, h3, h4⟩, h5, h6, h7⟩ := h
    cases he
    exact ⟨⟨_, _, _, rfl, h2, h3, h4⟩, h5, h6, h7⟩
  · refine stF fa_29_2 inf9 hB5 rfl (by simp) rfl (chg (e3 := { e2 with name := nm }) fun w'' h => ?_)
    obtain ⟨⟨_, _, _, he, h2, h3, h4⟩, h5, h6, h7⟩ := h
    cases he
    exact ⟨⟨_, _, _, rfl, h2, h3, h4⟩, h5, h6, h7⟩
  · refine stF fa_29_5 inf3 hB5 rfl (by simp) rfl (chg (e3 := { e2 with fuel := how }) fun w'' h => ?_)
    obtain ⟨⟨_, _, _, he, h2, h3, h4⟩, h5, h6, h7⟩ := h
    cases he
    exact ⟨⟨_, _, _, rfl, h2, h3, h4⟩, h5, h6, h7⟩
  · refine V.ok (r_quo (by decide)) (pick10 (by decide) (by decide) fun q2 _ _ => V_add.2 ?_)
    rw [wrap_id (by omega) (by omega)]
    refine stF fa_29_5 inf3 hB5 rfl (by simp) rfl (chg (e3 := { e2 with fuel := 9999998 + q2 }) fun w'' h => ?_)
    obtain ⟨⟨_, _, _, he, h2, h3, h4⟩, h5, h6, h7⟩ := h
    cases he
    exact ⟨⟨_, _, _, rfl, h2, h3, h4⟩, h5, h6, h7⟩
  · refine fin x25 hB5 rfl fun w'' f2 => hst w'' ((Fr.of_ext x5).trans f2 fun k hk h => ?_)
    have h : k = g2 := h; omega
end Go.Proofs.YthblbcjgdbaonaaGreatDoor
namespace Go.Proofs.YthblbcjgdbaonaaGreatDoor
open Go.Shelf Go.Proofs Go.RowKit
def ren167 : Go.Shelf.Ren := ⟨fun | 167 => 35 | 240 => 56 | 276 => 83 | n => n, fun | 0 => 0 | 4 => 4 | 5 => 5 | 9 => 9 | 20 => 20 | 37 => 23 | 70 => 71 | 72 => 73 | 75 => 75 | 80 => 77 | 164 => 157 | n => n, fun | n => n⟩
theorem lays167 : Go.Proofs.Lays.n167 Tryz.prog ren167 := {
  mixed := by kernel_rfl
  f167 := Tryz.func35.trans (congrArg some (by kernel_rfl))
  f240 := Tryz.func56.trans (congrArg some (by kernel_rfl))
  f276 := Tryz.func83.trans (congrArg some (by kernel_rfl))
  t0 := Tryz.underlying0
  a0 := Tryz.isAgg0
  z0 := Tryz.sizeOf0
  v0 := Tryz.zeroValue0
  t4 := Tryz.underlying4
  a4 := Tryz.isAgg4
  z4 := Tryz.sizeOf4
  v4 := Tryz.zeroValue4
  t5 := Tryz.underlying5
  a5 := Tryz.isAgg5
  z5 := Tryz.sizeOf5
  v5 := Tryz.zeroValue5
  t9 := Tryz.underlying9
  a9 := Tryz.isAgg9
  z9 := Tryz.sizeOf9
  v9 := Tryz.zeroValue9
  t20 := Tryz.underlying20
  a20 := Tryz.isAgg20
  z20 := Tryz.sizeOf20
  v20 := Tryz.zeroValue20
  t37 := Tryz.underlying23
  a37 := Tryz.isAgg23
  z37 := Tryz.sizeOf23
  v37 := Tryz.zeroValue23
  t70 := Tryz.underlying71
  a70 := Tryz.isAgg71
  z70 := Tryz.sizeOf71
  v70 := Tryz.zeroValue71
  t72 := Tryz.underlying73
  a72 := Tryz.isAgg73
  z72 := Tryz.sizeOf73
  v72 := Tryz.zeroValue73
  t75 := Tryz.underlying75
  a75 := Tryz.isAgg75
  z75 := Tryz.sizeOf75
  v75 := Tryz.zeroValue75
  t164 := Tryz.underlying157
  a164 := Tryz.isAgg157
  z164 := Tryz.sizeOf157
  v164 := Tryz.zeroValue157 }
theorem extra167 : Builder.Extra Tryz.prog ren167 := {
  sizeBuilder := by kernel_rfl
  liesBuilder := by kernel_rfl
  t5 := Tryz.underlying5
  a5 := Tryz.isAgg5
  z5 := Tryz.sizeOf5
  v5 := Tryz.zeroValue5
  infoByte := by kernel_rfl
  cellsByte := by kernel_rfl
  sizeByte := by kernel_rfl
  neB5 := by decide }
def ren166 : Go.Shelf.Ren := ⟨fun | 166 => 43 | 240 => 56 | 276 => 83 | n => n, fun | 0 => 0 | 3 => 3 | 4 => 4 | 5 => 5 | 9 => 9 | 20 => 20 | 37 => 23 | 70 => 71 | 72 => 73 | 75 => 75 | 80 => 77 | 164 => 157 | n => n, fun | n => n⟩
theorem lays166 : Go.Proofs.Lays.n166 Tryz.prog ren166 := {
  mixed := by kernel_rfl
  f166 := Tryz.func43.trans (congrArg some (by kernel_rfl))
  f240 := Tryz.func56.trans (congrArg some (by kernel_rfl))
  f276 := Tryz.func83.trans (congrArg some (by kernel_rfl))
  t0 := Tryz.underlying0
  a0 := Tryz.isAgg0
  z0 := Tryz.sizeOf0
  v0 := Tryz.zeroValue0
  t3 := Tryz.underlying3
  a3 := Tryz.isAgg3
  z3 := Tryz.sizeOf3
  v3 := Tryz.zeroValue3
  t4 := Tryz.underlying4
  a4 := Tryz.isAgg4
  z4 := Tryz.sizeOf4
  v4 := Tryz.zeroValue4
  t9 := Tryz.underlying9
  a9 := Tryz.isAgg9
  z9 := Tryz.sizeOf9
  v9 := Tryz.zeroValue9
  t20 := Tryz.underlying20
  a20 := Tryz.isAgg20
  z20 := Tryz.sizeOf20
  v20 := Tryz.zeroValue20
  t37 := Tryz.underlying23
  a37 := Tryz.isAgg23
  z37 := Tryz.sizeOf23
  v37 := Tryz.zeroValue23
  t70 := Tryz.underlying71
  a70 := Tryz.isAgg71
  z70 := Tryz.sizeOf71
  v70 := Tryz.zeroValue71
  t72 := Tryz.underlying73
  a72 := Tryz.isAgg73
  z72 := Tryz.sizeOf73
  v72 := Tryz.zeroValue73
  t75 := Tryz.underlying75
  a75 := Tryz.isAgg75
  z75 := Tryz.sizeOf75
  v75 := Tryz.zeroValue75
  t164 := Tryz.underlying157
  a164 := Tryz.isAgg157
  z164 := Tryz.sizeOf157
  v164 := Tryz.zeroValue157 }
theorem extra166 : Builder.Extra Tryz.prog ren166 := {
  sizeBuilder := by kernel_rfl
  liesBuilder := by kernel_rfl
  t5 := Tryz.underlying5
  a5 := Tryz.isAgg5
  z5 := Tryz.sizeOf5
  v5 := Tryz.zeroValue5
  infoByte := by kernel_rfl
  cellsByte := by kernel_rfl
  sizeByte := by kernel_rfl
  neB5 := by decide }
def ren169 : Go.Shelf.Ren := ⟨fun | 169 => 36 | n => n, fun | 0 => 0 | 3 => 3 | 5 => 5 | 9 => 9 | 37 => 23 | 70 => 71 | 72 => 73 | 127 => 111 | n => n, fun | n => n⟩
theorem lays169 : Go.Proofs.Lays.n169 Tryz.prog ren169 := {
  mixed := by kernel_rfl
  f169 := Tryz.func36.trans (congrArg some (by kernel_rfl))
  t0 := Tryz.underlying0
  a0 := Tryz.isAgg0
  z0 := Tryz.sizeOf0
  v0 := Tryz.zeroValue0
  t3 := Tryz.underlying3
  a3 := Tryz.isAgg3
  z3 := Tryz.sizeOf3
  v3 := Tryz.zeroValue3
  t9 := Tryz.underlying9
  a9 := Tryz.isAgg9
  z9 := Tryz.sizeOf9
  v9 := Tryz.zeroValue9
  t37 := Tryz.underlying23
  a37 := Tryz.isAgg23
  z37 := Tryz.sizeOf23
  v37 := Tryz.zeroValue23
  t70 := Tryz.underlying71
  a70 := Tryz.isAgg71
  z70 := Tryz.sizeOf71
  v70 := Tryz.zeroValue71
  t72 := Tryz.underlying73
  a72 := Tryz.isAgg73
  z72 := Tryz.sizeOf73
  v72 := Tryz.zeroValue73
  t127 := Tryz.underlying111
  a127 := Tryz.isAgg111
  z127 := Tryz.sizeOf111
  v127 := Tryz.zeroValue111 }
theorem extra169 : Builder.Extra Tryz.prog ren169 := {
  sizeBuilder := by kernel_rfl
  liesBuilder := by kernel_rfl
  t5 := Tryz.underlying5
  a5 := Tryz.isAgg5
  z5 := Tryz.sizeOf5
  v5 := Tryz.zeroValue5
  infoByte := by kernel_rfl
  cellsByte := by kernel_rfl
  sizeByte := by kernel_rfl
  neB5 := by decide }
def ren137 : Go.Shelf.Ren := ⟨fun | 137 => 68 | 217 => 102 | 266 => 136 | n => n, fun | 3 => 3 | 5 => 5 | 9 => 9 | n => n, fun | n => n⟩
theorem lays137 : Go.Proofs.Lays.n137 Tryz.prog ren137 := {
  mixed := by kernel_rfl
  f137 := Tryz.func68.trans (congrArg some (by kernel_rfl))
  f217 := Tryz.func102.trans (congrArg some (by kernel_rfl))
  f266 := Tryz.func136.trans (congrArg some (by kernel_rfl))
  t3 := Tryz.underlying3
  a3 := Tryz.isAgg3
  z3 := Tryz.sizeOf3
  v3 := Tryz.zeroValue3
  t5 := Tryz.underlying5
  a5 := Tryz.isAgg5
  z5 := Tryz.sizeOf5
  v5 := Tryz.zeroValue5
  t9 := Tryz.underlying9
  a9 := Tryz.isAgg9
  z9 := Tryz.sizeOf9
  v9 := Tryz.zeroValue9 }
def ren146 : Go.Shelf.Ren := ⟨fun | 138 => 89 | 143 => 90 | 146 => 41 | 195 => 125 | 197 => 126 | 217 => 102 | 218 => 127 | 219 => 128 | 221 => 59 | 224 => 147 | 225 => 146 | 260 => 145 | 266 => 136 | 267 => 148 | 268 => 88 | 314 => 171 | n => n, fun | 0 => 0 | 3 => 3 | 4 => 4 | 5 => 5 | 9 => 9 | 21 => 21 | 31 => 53 | 46 => 51 | 51 => 208 | 105 => 211 | 119 => 113 | 138 => 115 | 139 => 116 | 146 => 261 | n => n, fun | 1 => 4 | 3 => 0 | 4 => 1 | n => n⟩
theorem lays146 : Go.Proofs.Lays.n146 Tryz.prog ren146 := {
  mixed := by kernel_rfl
  f138 := Tryz.func89.trans (congrArg some (by kernel_rfl))
  f143 := Tryz.func90.trans (congrArg some (by kernel_rfl))
  f146 := Tryz.func41.trans (congrArg some (by kernel_rfl))
  f195 := Tryz.func125.trans (congrArg some (by kernel_rfl))
  f197 := Tryz.func126.trans (congrArg some (by kernel_rfl))
  f217 := Tryz.func102.trans (congrArg some (by kernel_rfl))
  f218 := Tryz.func127.trans (congrArg some (by kernel_rfl))
  f219 := Tryz.func128.trans (congrArg some (by kernel_rfl))
  f221 := Tryz.func59.trans (congrArg some (by kernel_rfl))
  f224 := Tryz.func147.trans (congrArg some (by kernel_rfl))
  f225 := Tryz.func146.trans (congrArg some (by kernel_rfl))
  f260 := Tryz.func145.trans (congrArg some (by kernel_rfl))
  f266 := Tryz.func136.trans (congrArg some (by kernel_rfl))
  f267 := Tryz.func148.trans (congrArg some (by kernel_rfl))
  f268 := Tryz.func88.trans (congrArg some (by kernel_rfl))
  f314 := Tryz.func171.trans (congrArg some (by kernel_rfl))
  t0 := Tryz.underlying0
  a0 := Tryz.isAgg0
  z0 := Tryz.sizeOf0
  v0 := Tryz.zeroValue0
  t3 := Tryz.underlying3
  a3 := Tryz.isAgg3
  z3 := Tryz.sizeOf3
  v3 := Tryz.zeroValue3
  t4 := Tryz.underlying4
  a4 := Tryz.isAgg4
  z4 := Tryz.sizeOf4
  v4 := Tryz.zeroValue4
  t5 := Tryz.underlying5
  a5 := Tryz.isAgg5
  z5 := Tryz.sizeOf5
  v5 := Tryz.zeroValue5
  t9 := Tryz.underlying9
  a9 := Tryz.isAgg9
  z9 := Tryz.sizeOf9
  v9 := Tryz.zeroValue9
  t21 := Tryz.underlying21
  a21 := Tryz.isAgg21
  z21 := Tryz.sizeOf21
  v21 := Tryz.zeroValue21
  t31 := Tryz.underlying53
  a31 := Tryz.isAgg53
  z31 := Tryz.sizeOf53
  v31 := Tryz.zeroValue53
  t46 := Tryz.underlying51
  a46 := Tryz.isAgg51
  z46 := Tryz.sizeOf51
  v46 := Tryz.zeroValue51
  t51 := Tryz.underlying208
  a51 := Tryz.isAgg208
  z51 := Tryz.sizeOf208
  v51 := Tryz.zeroValue208
  t105 := Tryz.underlying211
  a105 := Tryz.isAgg211
  z105 := Tryz.sizeOf211
  v105 := Tryz.zeroValue211
  t119 := Tryz.underlying113
  a119 := Tryz.isAgg113
  z119 := Tryz.sizeOf113
  t138 := Tryz.underlying115
  a138 := Tryz.isAgg115
  z138 := Tryz.sizeOf115
  v138 := Tryz.zeroValue115
  t139 := Tryz.underlying116
  a139 := Tryz.isAgg116
  z139 := Tryz.sizeOf116
  v139 := Tryz.zeroValue116
  t146 := Tryz.underlying261
  a146 := Tryz.isAgg261
  z146 := Tryz.sizeOf261
  v146 := Tryz.zeroValue261
  g1 := by kernel_rfl
  g3 := by kernel_rfl
  g4 := by kernel_rfl }
def ren196 : Go.Shelf.Ren := ⟨fun | 196 => 37 | 259 => 57 | n => n, fun | 0 => 0 | 3 => 3 | 4 => 4 | 5 => 5 | 9 => 9 | 12 => 12 | 46 => 51 | 53 => 159 | 119 => 113 | 138 => 115 | 139 => 116 | n => n, fun | 3 => 0 | 4 => 1 | n => n⟩
theorem lays196 : Go.Proofs.Lays.n196 Tryz.prog ren196 := {
  mixed := by kernel_rfl
  f196 := Tryz.func37.trans (congrArg some (by kernel_rfl))
  f259 := Tryz.func57.trans (congrArg some (by kernel_rfl))
  t0 := Tryz.underlying0
  a0 := Tryz.isAgg0
  z0 := Tryz.sizeOf0
  v0 := Tryz.zeroValue0
  t3 := Tryz.underlying3
  a3 := Tryz.isAgg3
  z3 := Tryz.sizeOf3
  v3 := Tryz.zeroValue3
  t4 := Tryz.underlying4
  a4 := Tryz.isAgg4
  z4 := Tryz.sizeOf4
  v4 := Tryz.zeroValue4
  t5 := Tryz.underlying5
  a5 := Tryz.isAgg5
  z5 := Tryz.sizeOf5
  v5 := Tryz.zeroValue5
  t9 := Tryz.underlying9
  a9 := Tryz.isAgg9
  z9 := Tryz.sizeOf9
  v9 := Tryz.zeroValue9
  t12 := Tryz.underlying12
  a12 := Tryz.isAgg12
  z12 := Tryz.sizeOf12
  v12 := Tryz.zeroValue12
  t46 := Tryz.underlying51
  a46 := Tryz.isAgg51
  z46 := Tryz.sizeOf51
  v46 := Tryz.zeroValue51
  t53 := Tryz.underlying159
  a53 := Tryz.isAgg159
  z53 := Tryz.sizeOf159
  v53 := Tryz.zeroValue159
  t119 := Tryz.underlying113
  a119 := Tryz.isAgg113
  z119 := Tryz.sizeOf113
  t138 := Tryz.underlying115
  a138 := Tryz.isAgg115
  z138 := Tryz.sizeOf115
  v138 := Tryz.zeroValue115
  t139 := Tryz.underlying116
  a139 := Tryz.isAgg116
  z139 := Tryz.sizeOf116
  v139 := Tryz.zeroValue116
  g3 := by kernel_rfl
  g4 := by kernel_rfl }
def ren171 : Go.Shelf.Ren := ⟨fun | 129 => 121 | 171 => 20 | 243 => 39 | 246 => 58 | 283 => 84 | 284 => 85 | 285 => 86 | 286 => 87 | 317 => 120 | 318 => 122 | 319 => 123 | 320 => 124 | 337 => 143 | 338 => 144 | n => n, fun | 0 => 0 | 2 => 2 | 3 => 3 | 4 => 4 | 5 => 5 | 9 => 9 | 20 => 20 | 37 => 23 | 46 => 51 | 51 => 208 | 53 => 159 | 171 => 160 | 173 => 163 | 212 => 207 | 213 => 209 | 232 => 259 | 233 => 260 | n => n, fun | 17 => 2 | 18 => 5 | 19 => 6 | n => n⟩
theorem lays171 : Go.Proofs.LaysM.n171 Tryz.prog ren171 := {
  mixed := by kernel_rfl
  f129 := Tryz.func121.trans (congrArg some (by kernel_rfl))
  f171 := Tryz.func20.trans (congrArg some (by kernel_rfl))
  f243 := Tryz.func39.trans (congrArg some (by kernel_rfl))
  f246 := Tryz.func58.trans (congrArg some (by kernel_rfl))
  f283 := Tryz.func84.trans (congrArg some (by kernel_rfl))
  f284 := Tryz.func85.trans (congrArg some (by kernel_rfl))
  f285 := Tryz.func86.trans (congrArg some (by kernel_rfl))
  f286 := Tryz.func87.trans (congrArg some (by kernel_rfl))
  f317 := Tryz.func120.trans (congrArg some (by kernel_rfl))
  f318 := Tryz.func122.trans (congrArg some (by kernel_rfl))
  f319 := Tryz.func123.trans (congrArg some (by kernel_rfl))
  f320 := Tryz.func124.trans (congrArg some (by kernel_rfl))
  f337 := Tryz.func143.trans (congrArg some (by kernel_rfl))
  f338 := Tryz.func144.trans (congrArg some (by kernel_rfl))
  t0 := Tryz.underlying0
  a0 := Tryz.isAgg0
  z0 := Tryz.sizeOf0
  v0 := Tryz.zeroValue0
  t2 := Tryz.underlying2
  a2 := Tryz.isAgg2
  z2 := Tryz.sizeOf2
  v2 := Tryz.zeroValue2
  t3 := Tryz.underlying3
  a3 := Tryz.isAgg3
  z3 := Tryz.sizeOf3
  v3 := Tryz.zeroValue3
  t4 := Tryz.underlying4
  a4 := Tryz.isAgg4
  z4 := Tryz.sizeOf4
  v4 := Tryz.zeroValue4
  t5 := Tryz.underlying5
  a5 := Tryz.isAgg5
  z5 := Tryz.sizeOf5
  v5 := Tryz.zeroValue5
  t9 := Tryz.underlying9
  a9 := Tryz.isAgg9
  z9 := Tryz.sizeOf9
  v9 := Tryz.zeroValue9
  t20 := Tryz.underlying20
  a20 := Tryz.isAgg20
  z20 := Tryz.sizeOf20
  v20 := Tryz.zeroValue20
  t37 := Tryz.underlying23
  a37 := Tryz.isAgg23
  z37 := Tryz.sizeOf23
  v37 := Tryz.zeroValue23
  t46 := Tryz.underlying51
  a46 := Tryz.isAgg51
  z46 := Tryz.sizeOf51
  v46 := Tryz.zeroValue51
  t51 := Tryz.underlying208
  a51 := Tryz.isAgg208
  z51 := Tryz.sizeOf208
  v51 := Tryz.zeroValue208
  t53 := Tryz.underlying159
  a53 := Tryz.isAgg159
  z53 := Tryz.sizeOf159
  v53 := Tryz.zeroValue159
  t171 := Tryz.underlying160
  a171 := Tryz.isAgg160
  z171 := Tryz.sizeOf160
  v171 := Tryz.zeroValue160
  t173 := Tryz.underlying163
  a173 := Tryz.isAgg163
  z173 := Tryz.sizeOf163
  v173 := Tryz.zeroValue163
  t212 := Tryz.underlying207
  a212 := Tryz.isAgg207
  z212 := Tryz.sizeOf207
  v212 := Tryz.zeroValue207
  t213 := Tryz.underlying209
  a213 := Tryz.isAgg209
  z213 := Tryz.sizeOf209
  t232 := Tryz.underlying259
  a232 := Tryz.isAgg259
  z232 := Tryz.sizeOf259
  v232 := Tryz.zeroValue259
  t233 := Tryz.underlying260
  a233 := Tryz.isAgg260
  z233 := Tryz.sizeOf260
  v233 := Tryz.zeroValue260
  g17 := by kernel_rfl
  g18 := by kernel_rfl
  g19 := by kernel_rfl
  i0 := by kernel_rfl
  i2 := by kernel_rfl
  i3 := by kernel_rfl
  i4 := by kernel_rfl
  i5 := by kernel_rfl
  i9 := by kernel_rfl
  i20 := by kernel_rfl
  i37 := by kernel_rfl
  i46 := by kernel_rfl
  i51 := by kernel_rfl
  i53 := by kernel_rfl
  i171 := by kernel_rfl
  i173 := by kernel_rfl
  i212 := by kernel_rfl
  i232 := by kernel_rfl
  i233 := by kernel_rfl
  m17 := by kernel_rfl
  m18 := by kernel_rfl
  m19 := by kernel_rfl }
theorem sWriteByte (B b : Nat) (bs : List Value) (c : Int) (w : World) (h : Lib.IsBuilder 73 5 B b bs w) (hlen : bs.length + 1 ≤ 140737488355328) (hBw : B ≤ w.heap.size) :
    Calls Tryz.prog 35 #[.pointer (some ⟨b, 0, none⟩), .int .u8 c] w fun e w' => e = .returned .nilIface ∧ (Lib.BuilderAt 73 5 B b (.pointer (some ⟨b, 0, none⟩)) (bs ++ [.int .u8 c]) w' ∧ Below B w w') := Any.Builder_WriteByte lays167 extra167 B b bs c w h hlen hBw
theorem sWriteString (B b : Nat) (bs : List Value) (s : ByteArray) (w : World) (h : Lib.IsBuilder 73 5 B b bs w) (hlen : bs.length + s.size ≤ 140737488355328) (hBw : B ≤ w.heap.size) :
    Calls Tryz.prog 43 #[.pointer (some ⟨b, 0, none⟩), .string s] w fun e w' => e = .returned (.tuple #[.int .i64 s.size, .nilIface]) ∧ (Lib.BuilderAt 73 5 B b (.pointer (some ⟨b, 0, none⟩)) (bs ++ Lib.strCells s) w' ∧ Below B w w') := Any.Builder_WriteString lays166 extra166 B b bs s w h hlen hBw
theorem sString (B b : Nat) (l : List UInt8) (w : World) (h : Lib.IsBuilder 73 5 B b (Lib.byteCells l) w) (hBw : B ≤ w.heap.size) :
    Calls Tryz.prog 36 #[.pointer (some ⟨b, 0, none⟩)] w fun e w' => e = .returned (.string ⟨l.toArray⟩) ∧ Below B w w' := Any.Builder_String_any lays169 extra169 B b l w h hBw
theorem sIndexByte (s : ByteArray) (c : Int) (w : World) :
    Calls Tryz.prog 68 #[.string s, .int .u8 c] w fun e w' => e = .returned (.int .i64 (Lib.indexByte s.data.toList c.toNat.toUInt8)) ∧ w' = w := Any.strings_IndexByte lays137 s c w
theorem sSplit (s sep : ByteArray) (m : Int) (w : World) (hs : s.size < 4294967281) (hm : w.cell? ⟨4, 0, none⟩ = some (.int .i64 m)) (h1 : 1 ≤ sep.size) :
    Calls Tryz.prog 41 #[.string s, .string sep] w fun e w' =>
      e = .returned (.slice (some ⟨w.heap.size, 0, none⟩) (Lib.countB s sep + 1) (Lib.countB s sep + 1)) ∧ w' = w.alloc (.cells ((Lib.splitB sep 0 (Lib.countB s sep) s).map Value.string).toArray 9) := Any.strings_Split lays146 (by kernel_rfl) s sep m w hs hm h1
theorem sValid (s : ByteArray) (w : World) (hs : s.size ≤ 9223372036854775807) (hT : Lib.Utf8Tabs 0 1 w) :
    Calls Tryz.prog 37 #[.string s] w fun e w' => e = .returned (.bool (Lib.validD s.data.toList)) ∧ Below w.heap.size w w' := Any.utf8_ValidString lays196 s w hs hT
theorem sItoa (n : Int) (h0 : -9223372036854775808 ≤ n) (h1 : n ≤ 9223372036854775807) (w : World) (htab : Lib.TabIs Tryz.prog w "internal/strconv.uint64pow10" .u64 Lib.pow10Tab) :
    Calls Tryz.prog 20 #[.int .i64 n] w fun e w' => e = .returned (.string ⟨(Lib.itoa n).toArray⟩) ∧ ∃ k os, w' = Sort.grow (w.drewN k) os := Any.strconv_Itoa lays171 n h0 h1 w htab
end Go.Proofs.YthblbcjgdbaonaaGreatDoor
namespace Go.Vc
section
variable {P : Program} {w : World} {K : Value → World → Prop}
theorem r_cat {s : TypeId} {a b : ByteArray} (h : a.size + b.size ≤ 4611686018427387904) : (binOp .add s (.string a) (.string b)).run P w = .ok (.string (a ++ b)) w := by
  have e : IntKind.i64.max = 9223372036854775807 := by decide
  have : ¬ ((a.size + b.size : Nat) : Int) > IntKind.i64.max := by rw [e]; omega
  simp only [binOp, Op.stringOp]
  rw [if_neg this]
  simp
theorem and_run {k : IntKind} {t : TypeId} {a b : Int} : (binOp .and t (.int k a) (.int k b)).run P w = .ok (.int k (k.wrap (BitVec.ofInt k.bits a &&& BitVec.ofInt k.bits b).toNat)) w := by simp [binOp, Op.intBits]
theorem wrapU8 {n : Int} (h : 0 ≤ n) (h2 : n < 256) : IntKind.u8.wrap n = n := by simp [IntKind.wrap, IntKind.bits, IntKind.signed]; omega
theorem ba_app (a b : List UInt8) : (⟨a.toArray⟩ : ByteArray) ++ ⟨b.toArray⟩ = ⟨(a ++ b).toArray⟩ := by
  apply ByteArray.ext
  simp
end
end Go.Vc
namespace Go.Tc
def digs : ByteArray := { data := #[48, 49, 50, 51, 52, 53, 54, 55, 56, 57, 97, 98, 99, 100, 101, 102] }
def dig (k : Nat) : UInt8 := if k < 10 then UInt8.ofNat (48 + k) else UInt8.ofNat (87 + k)
def hexI (l : List Int) : List UInt8 := l.flatMap fun b => [dig (b.toNat / 16), dig (b.toNat % 16)]
theorem hexI_snoc (l : List Int) (b : Int) : hexI (l ++ [b]) = hexI l ++ [dig (b.toNat / 16)] ++ [dig (b.toNat % 16)] := by simp [hexI]
theorem hexI_len (l : List Int) : (hexI l).length = 2 * l.length := by
  induction l with
  | nil => rfl
  | cons a l ih =>
    show ([dig (a.toNat / 16), dig (a.toNat % 16)] ++ hexI l).length = _
    rw [List.length_append, ih]
    simp
    omega
def hexS (l : List Int) : ByteArray := if l = [] then { data := #[45] } else ⟨(hexI l).toArray⟩
theorem hexS_size (l : List Int) : (hexS l).size ≤ 2 * l.length + 1 := by
  unfold hexS
  split
  · simp [ByteArray.size]
  · show (hexI l).toArray.size ≤ _
    rw [List.size_toArray, hexI_len]; omega
theorem and15 : ∀ n : Fin 256, IntKind.u8.wrap (BitVec.ofInt IntKind.u8.bits (n.val : Int) &&& BitVec.ofInt IntKind.u8.bits 15).toNat = ((n.val % 16 : Nat) : Int) := by decide +kernel
theorem shr4 : ∀ n : Fin 256, ((n.val : Int).fdiv (2 ^ (min (4 : Int).toNat IntKind.u8.bits))) = ((n.val / 16 : Nat) : Int) := by decide +kernel
theorem byteCells_snoc (l : List UInt8) (b : UInt8) : Lib.byteCells l ++ [.int .u8 (b.toNat : Int)] = Lib.byteCells (l ++ [b]) := by simp [Lib.byteCells]
end Go.Tc
namespace Go.Proofs.YthblbcjgdbaonaaGreatDoor
open Go.Vc Go.Tc
variable {w : World} {K : Value → World → Prop}
theorem below_ext {w w1 w' : World} (h : RowKit.Below w.heap.size w1 w') (hx : Ext w w1) : Ext w w' :=
  ⟨h.os.trans hx.os, h.tape.trans hx.tape, h.output.trans hx.output, Nat.le_trans hx.size h.size, fun i hi hn => (h.block i hi).trans (hx.block i hi hn)⟩
theorem ArgsU8.sl {v : Value} {l : List Int} (h : ArgsU8 w v l) : ∃ a c, v = .slice a l.length c ∧ (0 < l.length → BytesAre w v l) := by
  rcases h with ⟨rfl, rfl⟩ | ⟨ad, c, rfl, h⟩
  · exact ⟨none, 0, rfl, fun h => absurd h (Nat.lt_irrefl 0)⟩
  · exact ⟨some ad, c, rfl, h⟩
theorem r_dig {k : Nat} {kd : IntKind} (hk : kd = .u8 ∨ kd = .i64) (h : k < 16) : (Instr.index 9 (.string { data := #[48, 49, 50, 51, 52, 53, 54, 55, 56, 57, 97, 98, 99, 100, 101, 102] }) (.int kd (k : Int))).run Tryz.prog w = .ok (.int .u8 ((dig k).toNat : Int)) w := by
  have hc : k = 0 ∨ k = 1 ∨ k = 2 ∨ k = 3 ∨ k = 4 ∨ k = 5 ∨ k = 6 ∨ k = 7 ∨ k = 8 ∨ k = 9 ∨ k = 10 ∨ k = 11 ∨ k = 12 ∨ k = 13 ∨ k = 14 ∨ k = 15 := by omega
  rcases hk with rfl | rfl <;> rcases hc with rfl | rfl | rfl | rfl | rfl | rfl | rfl | rfl | rfl | rfl | rfl | rfl | rfl | rfl | rfl | rfl <;> (show _ = _; kernel_rfl)
theorem r_digS {k : Nat} (h : k < 16) : (Instr.sliceAt 9 (.string { data := #[48, 49, 50, 51, 52, 53, 54, 55, 56, 57, 97, 98, 99, 100, 101, 102] }) (some (.int .u8 (k : Int))) (some (.int .u8 ((k + 1 : Nat) : Int))) none).run Tryz.prog w = .ok (.string ⟨#[dig k]⟩) w := by
  have hc : k = 0 ∨ k = 1 ∨ k = 2 ∨ k = 3 ∨ k = 4 ∨ k = 5 ∨ k = 6 ∨ k = 7 ∨ k = 8 ∨ k = 9 ∨ k = 10 ∨ k = 11 ∨ k = 12 ∨ k = 13 ∨ k = 14 ∨ k = 15 := by omega
  rcases hc with rfl | rfl | rfl | rfl | rfl | rfl | rfl | rfl | rfl | rfl | rfl | rfl | rfl | rfl | rfl | rfl <;> (show _ = _; kernel_rfl)
theorem e_wb : ∀ args w, (callFunc 35 args).run Tryz.prog w = .ok (.enter 35 args) w := enters_of lays167.f167 (by kernel_rfl) rfl
theorem e_st : ∀ args w, (callFunc 36 args).run Tryz.prog w = .ok (.enter 36 args) w := enters_of lays169.f169 (by kernel_rfl) rfl
set_option maxHeartbeats 1600000 in
theorem hex18 {v : Value} {l : List Int} (hv : ArgsU8 w v l) (hb : U8s l) (hl : l.length ≤ 2000000) (hk : ∀ w', Ext w w' → K (.string (hexS l)) w') : callD Tryz.prog 18 #[v] w K := by
  obtain ⟨va, vc, rfl, hs⟩ := hv.sl
  apply F18_wp
  unfold F18_den
  refine V_ln_23.2 (V_eqlI.2 (ifD_dec (fun h0 => ?_) fun hn0 => ?_))
  · have : l = [] := List.eq_nil_of_length_eq_zero (by omega)
    subst this
    exact hk _ (Ext.refl _)
  have hpos : 0 < l.length := by omega
  have hss := hs hpos
  refine alK inf73 fun w1 hbk x1 => ?_
  refine V_ln_23.2 ?_
  refine ⟨fun x w' => ∃ i : Nat, x = i64 i ∧ i ≤ l.length ∧ Lib.IsBuilder 73 5 w.heap.size w.heap.size (Lib.byteCells (hexI (l.take i))) w' ∧ Ext w w', fun x _ => l.length - (RowKit.intOf x).toNat, ⟨0, rfl, Nat.zero_le _, .inl ⟨Nat.le_refl _, _, hbk, World.ownsRow_nil _ _ _ _, fun h => by cases h⟩, x1⟩, ?_⟩
  rintro _ w2 ⟨i, rfl, hi, hB2, x2⟩ _
  refine V_lss.2 (ifD_dec (fun hlt => ?_) fun hge => ?_)
  · obtain ⟨b, hbi⟩ := ex_get (l := l) (j := i) (by omega)
    have hb256 := hb b (List.mem_of_getElem? hbi)
    have ht : l.take (i + 1) = l.take i ++ [b] := by rw [List.take_add_one, hbi]; rfl
    have htl : (hexI (l.take i)).length ≤ 4000000 := by rw [hexI_len]; simp; omega
    refine ldx xa_23 l1_5 (hss.ext x2) (by omega) (by omega) (u := u8 b) (by simp [hbi]) ?_
    obtain ⟨b, rfl⟩ : ∃ n : Nat, b = n := ⟨b.toNat, by omega⟩
    refine V.ok (shr_run (by decide)) ?_
    rw [show ((b : Int).fdiv (2 ^ (min (4 : Int).toNat IntKind.u8.bits))) = ((b / 16 : Nat) : Int) from shr4 ⟨b, by omega⟩]
    refine V.ok (r_dig (.inl rfl) (by omega)) ?_
    refine callD.mono (R := fun v w' => v = .nilIface ∧ Lib.IsBuilder 73 5 w.heap.size w.heap.size (Lib.byteCells (hexI (l.take i) ++ [dig (b / 16)])) w' ∧ Ext w w') ⟨e_wb, (sWriteByte _ _ _ _ _ hB2 (by rw [Lib.byteCells_length]; omega) x2.size).mono fun e w' ⟨he, hb, hbel⟩ => ⟨_, he, rfl, .inr (by rw [← byteCells_snoc]; exact hb), below_ext hbel x2⟩⟩ fun v3 w3 ⟨_, hB3, x3⟩ => ?_
    refine V.ok and_run ?_
    rw [show IntKind.u8.wrap (BitVec.ofInt IntKind.u8.bits (b : Int) &&& BitVec.ofInt IntKind.u8.bits 15).toNat = ((b % 16 : Nat) : Int) from and15 ⟨b, by omega⟩]
    refine V.ok (r_dig (.inl rfl) (by omega)) ?_
    refine callD.mono (R := fun v w' => v = .nilIface ∧ Lib.IsBuilder 73 5 w.heap.size w.heap.size (Lib.byteCells (hexI (l.take (i + 1)))) w' ∧ Ext w w') ⟨e_wb, (sWriteByte _ _ _ _ _ hB3 (by rw [Lib.byteCells_length]; simp; omega) x3.size).mono fun e w' ⟨he, hb, hbel⟩ => ⟨_, he, rfl, .inr (by rw [ht, hexI_snoc, ← byteCells_snoc]; exact hb), below_ext hbel x3⟩⟩ fun v4 w4 ⟨_, hB4, x4⟩ => ?_
    refine V_add.2 ?_
    rw [wrap_id (by omega) (by omega), i64_succ]
    exact ⟨⟨i + 1, rfl, by omega, hB4, x4⟩, by simp only [intOf_i64]; omega⟩
  obtain rfl : i = l.length := by omega
  rw [List.take_length] at hB2
  refine callD.mono (R := fun v w' => v = .string (hexS l) ∧ Ext w w') ⟨e_st, (sString _ _ _ _ hB2 x2.size).mono fun e w' ⟨he, hbel⟩ => ⟨_, he, ?_, below_ext hbel x2⟩⟩ fun v3 w3 ⟨hv3, x3⟩ => ?_
  · unfold hexS
    rw [if_neg (fun h => by rw [h] at hpos; exact absurd hpos (by simp))]
  · subst hv3
    exact hk _ x3
theorem hex21 {v : Value} {l : List Int} (hv : ArgsU8 w v l) (hb : U8s l) (hl : l.length ≤ 2000000) (hk : ∀ w', Ext w w' → K (.string (hexS l)) w') : callD Tryz.prog 21 #[v] w K := by
  obtain ⟨va, vc, rfl, hs⟩ := hv.sl
  apply F21_wp
  unfold F21_den
  refine V_ln_23.2 (V_eqlI.2 (ifD_dec (fun h0 => ?_) fun hn0 => ?_))
  · have : l = [] := List.eq_nil_of_length_eq_zero (by omega)
    subst this
    exact hk _ (Ext.refl _)
  have hpos : 0 < l.length := by omega
  have hss := hs hpos
  refine ⟨fun s x w' => ∃ i : Nat, x = i64 i ∧ i ≤ l.length ∧ s = .string ⟨(hexI (l.take i)).toArray⟩ ∧ Ext w w', fun _ x _ => l.length - (RowKit.intOf x).toNat, ⟨0, rfl, Nat.zero_le _, rfl, Ext.refl _⟩, ?_⟩
  rintro _ _ w2 ⟨i, rfl, hi, rfl, x2⟩ _
  refine V_ln_23.2 (V_lss.2 (ifD_dec (fun hlt => ?_) fun hge => ?_))
  · obtain ⟨b, hbi⟩ := ex_get (l := l) (j := i) (by omega)
    have hb256 := hb b (List.mem_of_getElem? hbi)
    have ht : l.take (i + 1) = l.take i ++ [b] := by rw [List.take_add_one, hbi]; rfl
    have htl : (hexI (l.take i)).length ≤ 4000000 := by rw [hexI_len]; simp; omega
    obtain ⟨b, rfl⟩ : ∃ n : Nat, b = n := ⟨b.toNat, by omega⟩
    have D1 : Ext w2 w2.drew := (Ext.refl _).drew
    refine drawD.mk' (fun w' => Ext w2.drew w') (Ext.refl _) ?_
    have hsd := hss.ext (x2.trans D1)
    have ld : ∀ {L : Value → Prop}, L (u8 (b : Int)) → yieldS Tryz.prog (fun w' => Ext w2.drew w') (Instr.indexAt 23 (.slice va l.length vc) (i64 i)) fun q => yieldS Tryz.prog (fun w' => Ext w2.drew w') (Instr.loadAt 5 q) L := fun h => ySl xa_23 l1_5 hsd (fun _ h => h) (by omega) (by omega) (by simp [hbi]) h
    have q16 : IntKind.u8.wrap ((b : Int).tdiv 16) = ((b / 16 : Nat) : Int) := by
      rw [Int.tdiv_eq_ediv_of_nonneg (by omega), wrapU8 (by omega) (by omega)]; rfl
    have m16 : (b : Int).tmod 16 = ((b % 16 : Nat) : Int) := by rw [Int.tmod_eq_emod_of_nonneg (by omega)]; rfl
    have s1 : ∀ {n : Nat}, n < 16 → IntKind.u8.wrap ((n : Int) + 1) = ((n + 1 : Nat) : Int) := fun h => by rw [wrapU8 (by omega) (by omega)]; rfl
    refine ld (yieldS.ok (fun w' _ => r_quo (by decide)) ?_)
    rw [q16]
    refine ld (yieldS.ok (fun w' _ => r_quo (by decide)) ?_)
    rw [q16]
    refine yieldS.ok (fun w' _ => r_add) ?_
    rw [s1 (by omega)]
    refine yieldS.ok (fun w' _ => r_digS (by omega)) (yieldS.ok (fun w' _ => r_cat ?_) ?_)
    · show (hexI (l.take i)).toArray.size + 1 ≤ _
      rw [List.size_toArray]; omega
    refine ld (yieldS.ok (fun w' _ => r_rem (by decide)) ?_)
    rw [m16]
    refine ld (yieldS.ok (fun w' _ => r_rem (by decide)) ?_)
    rw [m16]
    refine yieldS.ok (fun w' _ => r_add) ?_
    rw [s1 (by omega)]
    refine yieldS.ok (fun w' _ => r_digS (by omega)) (yieldS.ok (fun w' _ => r_cat ?_) ?_)
    · rw [ByteArray.size_append]
      show (hexI (l.take i)).toArray.size + 1 + 1 ≤ _
      rw [List.size_toArray]; omega
    refine V_add.2 ?_
    rw [wrap_id (by omega) (by omega), i64_succ]
    refine ⟨⟨i + 1, rfl, by omega, ?_, x2.trans D1⟩, by simp only [intOf_i64]; omega⟩
    rw [ht, hexI_snoc, ← ba_app, ← ba_app]
    rfl
  obtain rfl : i = l.length := by omega
  rw [List.take_length]
  have := hk _ x2
  unfold hexS at this
  rwa [if_neg (fun h => by rw [h] at hpos; exact absurd hpos (by simp))] at this
end Go.Proofs.YthblbcjgdbaonaaGreatDoor
namespace Go.Vc
theorem tabIs_ext {P : Program} {w w' : World} {nm : String} {k : IntKind} {zs : List Int} (h : Lib.TabIs P w nm k zs) (hx : Ext w w') : Lib.TabIs P w' nm k zs := by
  unfold Lib.TabIs World.var? at *
  cases hg : P.globalNamed nm with
  | none => rw [hg] at h; cases h
  | some g =>
    rw [hg] at h
    simp only [Option.bind_some] at h ⊢
    have hlt : g < w.heap.size := by
      rcases Nat.lt_or_ge g w.heap.size with h' | h'
      · exact h'
      · rw [Array.getElem?_eq_none h'] at h; cases h
    rw [hx.block g hlt (by simp)]
    exact h
theorem ext_drewN (w : World) : ∀ q, Ext w (w.drewN q)
  | 0 => Ext.refl _
  | q + 1 => (ext_drewN w q).drew
theorem ext_grow {w w' : World} (h : Ext w w') (os : Array Obj) : Ext w (Go.Sort.grow w' os) :=
  ⟨h.os, h.tape, h.output, by have := h.size; simp [Go.Sort.grow]; omega, fun i hi hn => by
    have := h.size
    rw [← h.block i hi hn]
    simp only [Go.Sort.grow]
    rw [Array.getElem?_append_left (by omega)]⟩
end Go.Vc
namespace Go.Proofs.YthblbcjgdbaonaaGreatDoor
open Go.Vc Go.Tc
variable {w : World} {K : Value → World → Prop}
structure STabs (w : World) : Prop where
  ut : Lib.Utf8Tabs 0 1 w
  t3 : Tabs w
  bo : BinsOk w
  p10 : Lib.TabIs Tryz.prog w "internal/strconv.uint64pow10" .u64 Lib.pow10Tab
  ml : ∃ m : Int, w.cell? ⟨4, 0, none⟩ = some (.int .i64 m)
theorem STabs.ext {w' : World} (h : STabs w) (hx : Ext w w') : STabs w' := by
  obtain ⟨⟨h1, h2⟩, h3, h4, h5, m, h6⟩ := h
  exact ⟨⟨fun c hc => hx.cell (h1 c hc), fun i hi => ⟨hx.cell (h2 i hi).1, hx.cell (h2 i hi).2⟩⟩, h3.ext hx, h4.ext hx, tabIs_ext h5 hx, m, hx.cell h6⟩
theorem e_itoa : ∀ args w, (callFunc 20 args).run Tryz.prog w = .ok (.enter 20 args) w := enters_of lays171.f171 (by kernel_rfl) rfl
theorem itoa20 {n : Int} (h0 : -9223372036854775808 ≤ n) (h1 : n ≤ 9223372036854775807) (hT : STabs w) (hk : ∀ w', Ext w w' → K (.string ⟨(Lib.itoa n).toArray⟩) w') : callD Tryz.prog 20 #[i64 n] w K :=
  callD.mono (R := fun v w' => v = .string ⟨(Lib.itoa n).toArray⟩ ∧ Ext w w') ⟨e_itoa, (sItoa n h0 h1 w hT.p10).mono fun e w' ⟨he, k, os, hw⟩ => ⟨_, he, rfl, by rw [hw]; exact ext_grow (ext_drewN w k) os⟩⟩ fun v w' ⟨hv, hx⟩ => by subst hv; exact hk w' hx
theorem strOf_one {c : Nat} (_ : c < 256) : strOfNums [(c : Int)] = ⟨#[UInt8.ofNat c]⟩ := rfl
theorem decDigits_step {u : Nat} (h : ¬ u < 10) : Lib.decDigits u = Lib.decDigits (u / 10) ++ [UInt8.ofNat (48 + u % 10)] := by rw [Lib.decDigits, dif_neg h]
theorem decDigits_len : ∀ {k u : Nat}, u < 10 ^ (k + 1) → (Lib.decDigits u).length ≤ k + 1
  | 0, u, h => by rw [Lib.decDigits, dif_pos (by simpa using h)]; simp
  | k + 1, u, h => by
    by_cases h10 : u < 10
    · rw [Lib.decDigits, dif_pos h10]; simp
    · rw [decDigits_step h10, List.length_append]
      have := decDigits_len (k := k) (u := u / 10) (by rw [Nat.pow_succ] at h; omega)
      simp; omega
set_option maxHeartbeats 1600000 in
theorem below40 : ∀ (u : Nat), u ≤ 9223372036854775808 → ∀ {w : World} {K : Value → World → Prop}, (∀ w', Ext w w' → K (.string ⟨(Lib.decDigits u).toArray⟩) w') → callD Tryz.prog 40 #[i64 (-(u : Int))] w K := by
  intro u
  induction u using Nat.strongRecOn with
  | ind u ih =>
  intro hu w K hk
  apply F40_wp
  unfold F40_den
  have one : ∀ {w : World} {c : Nat} {K : Value → World → Prop}, c < 256 → (∀ x w', (∀ w'', Ext w' w'' → (convert 23 9 x).run Tryz.prog w'' = .ok (.string ⟨#[UInt8.ofNat c]⟩) w'') → Ext w w' → K x w') → V Tryz.prog (Instr.buildSlice 23 1 #[(0, u8 (c : Int))]) w K := by
    intro w c K hc hK
    refine bsl xe_23 [u8 (c : Int)] rfl rfl (by simp) rfl fun x w2 hx x2 => hK x w2 (fun w'' hxx => ?_) x2
    have : BytesAre w'' x [(c : Int)] := SliceIs.ext (SliceIs.of_own hx) hxx
    rw [r_str Tryz.underlying23 Tryz.underlying5 Tryz.underlying9 this, strOf_one hc]
  refine V_gtr.2 (ifD_dec (fun h => ?_) fun h => ?_)
  · refine V_sub.2 ?_
    rw [wrap_id (by omega) (by omega)]
    refine V.ok (r_convI Tryz.underlying3 Tryz.underlying5) ?_
    rw [show (48 - -(u : Int)) = ((48 + u : Nat) : Int) by omega, wrapU8 (by omega) (by omega)]
    refine one (by omega) fun x w2 hx x2 => V.ok (hx _ (Ext.refl _)) ?_
    have := hk w2 x2
    rwa [Lib.decDigits, dif_pos (by omega)] at this
  · have h10 : ¬ u < 10 := by omega
    have D1 : Ext w w.drew := (Ext.refl _).drew
    refine drawD.mk' (fun w' => Ext w.drew w') (Ext.refl _) ?_
    have eq : IntKind.i64.wrap ((-(u : Int)).tdiv 10) = -((u / 10 : Nat) : Int) := by
      rw [Int.neg_tdiv, Int.tdiv_eq_ediv_of_nonneg (by omega), wrap_id (by omega) (by omega)]; rfl
    have er : (-(u : Int)).tmod 10 = -((u % 10 : Nat) : Int) := by
      rw [Int.neg_tmod, Int.tmod_eq_emod_of_nonneg (by omega)]; rfl
    refine yieldS.ok (fun w' _ => r_quo (by decide)) (yieldS.ok (fun w' _ => r_rem (by decide)) (yieldS.ok (fun w' _ => r_sub) (yieldS.ok (fun w' _ => r_convI Tryz.underlying3 Tryz.underlying5) ?_)))
    rw [eq, er, wrap_id (by omega) (by omega), show (48 - -((u % 10 : Nat) : Int)) = ((48 + u % 10 : Nat) : Int) by omega, wrapU8 (by omega) (by omega)]
    have fin : ∀ {w'}, Ext w w' → ∀ r, r = (.string (⟨(Lib.decDigits (u / 10)).toArray⟩ ++ ⟨#[UInt8.ofNat (48 + u % 10)]⟩) : Value) → K r w' := fun hx r hr => by
      have := hk _ hx
      rw [decDigits_step h10, ← ba_app] at this
      rw [hr]; exact this
    have hln : (⟨(Lib.decDigits (u / 10)).toArray⟩ : ByteArray).size + (⟨#[UInt8.ofNat (48 + u % 10)]⟩ : ByteArray).size ≤ 4611686018427387904 := by
      have := decDigits_len (k := 18) (u := u / 10) (by omega)
      show (Lib.decDigits (u / 10)).toArray.size + 1 ≤ _
      rw [List.size_toArray]; omega
    refine ⟨?_, ?_⟩
    · refine ih (u / 10) (by omega) (by omega) fun w2 x2 => ⟨x2, ?_⟩
      refine one (by omega) fun x w3 hx x3 => ⟨x2.trans x3, ⟨fun w' => Ext w3 w', fun _ h => (x2.trans x3).trans h, Ext.refl _, ?_⟩⟩
      refine yieldS.ok (fun w' hw => hx _ hw) (yieldS.ok (fun w' _ => r_cat hln) ?_)
      exact fin ((D1.trans x2).trans x3) _ rfl
    · refine one (by omega) fun x w3 hx x3 => ⟨x3, ⟨fun w' => Ext w3 w', fun _ h => x3.trans h, Ext.refl _, ?_⟩⟩
      refine yieldS.ok (fun w' hw => hx _ hw) ?_
      refine ih (u / 10) (by omega) (by omega) fun w4 x4 => ⟨x4, ⟨fun w' => Ext w4 w', fun _ h => x4.trans h, Ext.refl _, ?_⟩⟩
      refine yieldS.ok (fun w' _ => r_cat hln) ?_
      exact fin ((D1.trans x3).trans x4) _ rfl
theorem digits23 {n : Int} (h0 : -9223372036854775808 ≤ n) (h1 : n ≤ 9223372036854775807) (hk : ∀ w', Ext w w' → K (.string ⟨(Lib.itoa n).toArray⟩) w') : callD Tryz.prog 23 #[i64 n] w K := by
  apply F23_wp
  unfold F23_den
  refine V_lss.2 (ifD_dec (fun h => ?_) fun h => ?_)
  · obtain ⟨u, rfl⟩ : ∃ u : Nat, n = -(u : Int) := ⟨n.natAbs, by omega⟩
    refine below40 u (by omega) fun w2 x2 => V.ok (r_cat ?_) ?_
    · have := decDigits_len (k := 18) (u := u) (by omega)
      show 1 + (Lib.decDigits u).toArray.size ≤ _
      rw [List.size_toArray]; omega
    · have := hk _ x2
      rw [Lib.itoa, if_pos h, show (-(u : Int)).natAbs = u by omega] at this
      rwa [show (⟨#[45]⟩ : ByteArray) ++ ⟨(Lib.decDigits u).toArray⟩ = ⟨(45 :: Lib.decDigits u).toArray⟩ from ba_app [45] (Lib.decDigits u)]
  · obtain ⟨u, rfl⟩ : ∃ u : Nat, n = (u : Int) := ⟨n.toNat, by omega⟩
    refine V_neg.2 ?_
    rw [show IntKind.i64.wrap (0 - (u : Int)) = -(u : Int) by rw [wrap_id (by omega) (by omega)]; omega]
    refine below40 u (by omega) fun w2 x2 => ?_
    have := hk _ x2
    rwa [Lib.itoa, if_neg h, show ((u : Int)).toNat = u by omega] at this
end Go.Proofs.YthblbcjgdbaonaaGreatDoor
namespace Go.Vc
theorem decode_pos {s : ByteArray} {p : Nat} (h : p < s.size) : 1 ≤ (Utf8.decode s p).2 := by
  by_cases ha : 128 ≤ (s[p]'h).toNat
  · exact (Go.decode_high s p h ha).2
  · simp only [Utf8.decode]
    have : (s.get! (p + 0)).toNat < 128 := by rw [Go.get_at s p h]; omega
    rw [if_pos this]
    exact Nat.le_refl _
end Go.Vc
namespace Go.Proofs.YthblbcjgdbaonaaGreatDoor
open Go.Vc Go.Tc
variable {w : World} {K : Value → World → Prop}
def scanN (s : ByteArray) : Nat → Nat → Bool
  | 0, _ => true
  | n + 1, p => if p < s.size then rnB (Utf8.decode s p).1 && scanN s n (p + (Utf8.decode s p).2) else true
theorem scanN_end {s : ByteArray} : ∀ {n p : Nat}, ¬ p < s.size → scanN s n p = true
  | 0, _, _ => rfl
  | n + 1, p, h => by rw [scanN, if_neg h]
theorem scanN_more {s : ByteArray} : ∀ {n m p : Nat}, s.size ≤ p + n → s.size ≤ p + m → scanN s n p = scanN s m p
  | 0, m, p, h, _ => by rw [scanN_end (n := m) (by omega)]; rfl
  | n + 1, 0, p, _, h => by rw [scanN_end (n := n + 1) (by omega)]; rfl
  | n + 1, m + 1, p, h1, h2 => by
    by_cases h : p < s.size
    · have := decode_pos h
      rw [scanN, scanN, if_pos h, if_pos h, scanN_more (n := n) (m := m) (by omega) (by omega)]
    · rw [scanN_end h, scanN_end h]
theorem scanN_step {s : ByteArray} {p : Nat} (h : p < s.size) : scanN s s.size p = (rnB (Utf8.decode s p).1 && scanN s s.size (p + (Utf8.decode s p).2)) := by
  have := decode_pos h
  rw [scanN_more (n := s.size) (m := s.size + 1) (by omega) (by omega), scanN, if_pos h]
def nmB' (s : ByteArray) : Bool := (decide (1 ≤ s.size) && decide (s.size ≤ 16)) && (Lib.validD s.data.toList && scanN s s.size 0)
theorem rnB_no {c : Nat} (h : ¬ rnB c = true) : c ≠ 45 ∧ c ≠ 46 ∧ (255 < c ∨ (97 ≤ c ∧ 122 < c ∧ c < 224) ∨ (c < 97 ∧ 57 < c) ∨ c < 48) := by
  simp only [rnB, Bool.or_eq_true, Bool.and_eq_true, decide_eq_true_eq, beq_iff_eq] at h
  omega
theorem emptyB {s : ByteArray} : (s.toList == ({ data := #[] } : ByteArray).toList) = decide (s.size = 0) := by
  rw [ByteArray.toList_eq, ByteArray.toList_eq]
  show (s.data.toList == []) = _
  have e : s.size = s.data.toList.length := by rw [Array.length_toList]; rfl
  rw [e]
  cases s.data.toList <;> simp
theorem isRune38 {c : Nat} (hk : K (.bool (rnB c)) w) : callD Tryz.prog 38 #[.int .i32 c] w K := by
  apply F38_wp
  unfold F38_den
  by_cases hr : rnB c = true
  · rcases rnB_cases hr with ⟨h1, h2⟩ | ⟨h0, h1, h2⟩ | rfl | rfl | ⟨h1, h2⟩
    · have a1 : (c : Int) ≥ 97 := by omega
      have a2 : (c : Int) ≤ 122 := by omega
      simp only [a1, a2, evL, reduceIte, decide_true]; rw [hr] at hk; exact hk
    · have a1 : ¬ (c : Int) ≥ 97 := by omega
      have a2 : (c : Int) ≥ 48 := by omega
      have a3 : (c : Int) ≤ 57 := by omega
      simp only [a1, a2, a3, evL, reduceIte, Bool.false_eq_true, decide_true, decide_false]; rw [hr] at hk; exact hk
    · simp only [show ((45 : Nat) : Int) = 45 from rfl, evL, Int.reduceGE, reduceIte, Bool.false_eq_true, decide_true, decide_false]; rw [hr] at hk; exact hk
    · simp only [show ((46 : Nat) : Int) = 46 from rfl, evL, Int.reduceEq, Int.reduceGE, reduceIte, Bool.false_eq_true, decide_true, decide_false]; rw [hr] at hk; exact hk
    · have a1 : (c : Int) ≥ 97 := by omega
      have a2 : ¬ (c : Int) ≤ 122 := by omega
      have a3 : (c : Int) ≥ 48 := by omega
      have a4 : ¬ (c : Int) ≤ 57 := by omega
      have a5 : ¬ (c : Int) = 45 := by omega
      have a6 : ¬ (c : Int) = 46 := by omega
      have a7 : (c : Int) ≥ 224 := by omega
      have a8 : (c : Int) ≤ 255 := by omega
      simp only [a1, a2, a3, a4, a5, a6, a7, a8, evL, reduceIte, Bool.false_eq_true, decide_true, decide_false]; rw [hr] at hk; exact hk
  · obtain ⟨a5, a6, hc⟩ := rnB_no hr
    have a5 : ¬ (c : Int) = 45 := by omega
    have a6 : ¬ (c : Int) = 46 := by omega
    rcases hc with hc | hc | hc | hc
    · have a1 : (c : Int) ≥ 97 := by omega
      have a2 : ¬ (c : Int) ≤ 122 := by omega
      have a3 : (c : Int) ≥ 48 := by omega
      have a4 : ¬ (c : Int) ≤ 57 := by omega
      have a7 : (c : Int) ≥ 224 := by omega
      have a8 : ¬ (c : Int) ≤ 255 := by omega
      simp only [a1, a2, a3, a4, a5, a6, a7, a8, evL, reduceIte, Bool.false_eq_true, decide_true, decide_false]; rw [Bool.not_eq_true] at hr; rw [hr] at hk; exact hk
    · have a1 : (c : Int) ≥ 97 := by omega
      have a2 : ¬ (c : Int) ≤ 122 := by omega
      have a3 : (c : Int) ≥ 48 := by omega
      have a4 : ¬ (c : Int) ≤ 57 := by omega
      have a7 : ¬ (c : Int) ≥ 224 := by omega
      simp only [a1, a2, a3, a4, a5, a6, a7, evL, reduceIte, Bool.false_eq_true, decide_true, decide_false]; rw [Bool.not_eq_true] at hr; rw [hr] at hk; exact hk
    · have a1 : ¬ (c : Int) ≥ 97 := by omega
      have a3 : (c : Int) ≥ 48 := by omega
      have a4 : ¬ (c : Int) ≤ 57 := by omega
      have a7 : ¬ (c : Int) ≥ 224 := by omega
      simp only [a1, a3, a4, a5, a6, a7, evL, reduceIte, Bool.false_eq_true, decide_true, decide_false]; rw [Bool.not_eq_true] at hr; rw [hr] at hk; exact hk
    · have a1 : ¬ (c : Int) ≥ 97 := by omega
      have a3 : ¬ (c : Int) ≥ 48 := by omega
      have a7 : ¬ (c : Int) ≥ 224 := by omega
      simp only [a1, a3, a5, a6, a7, evL, reduceIte, Bool.false_eq_true, decide_false]; rw [Bool.not_eq_true] at hr; rw [hr] at hk; exact hk
theorem e_vs : ∀ args w, (callFunc 37 args).run Tryz.prog w = .ok (.enter 37 args) w := enters_of lays196.f196 (by kernel_rfl) rfl
theorem valid37 {s : ByteArray} (hs : s.size ≤ 9223372036854775807) (hT : STabs w) (hk : ∀ w', Ext w w' → K (.bool (Lib.validD s.data.toList)) w') : callD Tryz.prog 37 #[.string s] w K :=
  callD.mono (R := fun v w' => v = .bool (Lib.validD s.data.toList) ∧ Ext w w') ⟨e_vs, (sValid s w hs hT.ut).mono fun e w' ⟨he, hb⟩ => ⟨_, he, rfl, below_ext hb (Ext.refl _)⟩⟩ fun v w' ⟨hv, hx⟩ => by subst hv; exact hk w' hx
set_option maxHeartbeats 1600000 in
theorem isName22 {s : ByteArray} (hT : STabs w) (hk : ∀ w', Ext w w' → K (.bool (nmB' s)) w') : callD Tryz.prog 22 #[.string s] w K := by
  apply F22_wp
  suffices key : ∀ R : Value → World → Prop, (∀ w', Ext w w' → R (.bool (nmB' s)) w') → F22_den (.string s) w R from key _ hk
  clear hk
  intro R hR
  unfold F22_den
  unfold nmB' at hR
  refine V.ok (lenStr Tryz.underlying9) (V_lss.2 ?_)
  by_cases e1 : (s.size : Int) < 1
  · simp only [e1, evL, reduceIte, decide_true]
    have := hR w (Ext.refl _)
    rw [show decide (1 ≤ s.size) = false from decide_eq_false (by omega), Bool.false_and, Bool.false_and] at this
    exact this
  simp only [e1, evL, reduceIte, Bool.false_eq_true, decide_false]
  refine V.ok (lenStr Tryz.underlying9) (V_gtr.2 ?_)
  by_cases e2 : (s.size : Int) > 16
  · simp only [e2, evL, reduceIte, decide_true]
    have := hR w (Ext.refl _)
    rw [show decide (s.size ≤ 16) = false from decide_eq_false (by omega), Bool.and_false, Bool.false_and] at this
    exact this
  simp only [e2, evL, reduceIte, Bool.false_eq_true, decide_false]
  rw [show decide (1 ≤ s.size) = true from decide_eq_true (by omega), show decide (s.size ≤ 16) = true from decide_eq_true (by omega), Bool.and_true, Bool.true_and] at hR
  refine valid37 (by omega) hT fun w1 x1 => V_not.2 ?_
  cases hv : Lib.validD s.data.toList with
  | false =>
    simp only [evL, Bool.not_false]
    have := hR w1 x1
    rw [hv, Bool.false_and] at this
    exact this
  | true =>
  rw [hv, Bool.true_and] at hR
  simp only [evL, Bool.not_true]
  refine V.ok (run_range_string _ _ _ Tryz.underlying9) ?_
  refine ⟨fun w' => ∃ p, scanN s s.size 0 = scanN s s.size p ∧ w' = w1.iter s p, fun w' => mu fun q => ∃ p, w' = w1.iter s p ∧ s.size - p = q, ⟨0, rfl, rfl⟩, ?_⟩
  rintro _ ⟨p0, hp0, rfl⟩ _
  obtain ⟨p, hpe, hmu⟩ := mu_spec (p := fun q => ∃ p, w1.iter s p0 = w1.iter s p ∧ s.size - p = q) ⟨_, p0, rfl, rfl⟩
  have hp : scanN s s.size 0 = scanN s s.size p := by
    have : p0 = p := by
      have := congrArg (fun w' => World.iterPos w' w1.heap.size) hpe
      simpa using this
    rw [hp0, this]
  rw [hpe]
  rw [hpe] at hmu
  clear hpe hp0
  by_cases hlt : p < s.size
  · refine V.ok (run_next_dec _ _ _ _ hlt) (V_tup (v := .bool true) rfl (ifD_true.2 (V_tup (v := .int .i32 ((Utf8.decode s p).1 : Nat)) rfl ?_)))
    have hstep := scanN_step hlt
    have hw := decode_pos hlt
    have hmu' : mu (fun q => ∃ p', w1.iter s (p + (Utf8.decode s p).2) = w1.iter s p' ∧ s.size - p' = q) < mu (fun q => ∃ p', w1.iter s p = w1.iter s p' ∧ s.size - p' = q) := by
      rw [← hmu]
      exact Nat.lt_of_le_of_lt (mu_le ⟨_, rfl, rfl⟩) (by omega)
    have no : rnB (Utf8.decode s p).1 = false → R (.bool false) (w1.iter s (p + (Utf8.decode s p).2)) := fun h => by
      rw [h, Bool.false_and] at hstep
      rw [hp, hstep] at hR
      exact hR _ (x1.trans ((Ext.refl _).alloc _))
    have yes : rnB (Utf8.decode s p).1 = true → scanN s s.size 0 = scanN s s.size (p + (Utf8.decode s p).2) := fun h => by
      rw [hp, hstep, h, Bool.true_and]
    clear hstep hmu
    generalize (Utf8.decode s p).2 = wd at *
    generalize (Utf8.decode s p).1 = c at *
    by_cases hr : rnB c = true
    · rcases rnB_cases hr with ⟨h1, h2⟩ | ⟨h0, h1, h2⟩ | rfl | rfl | ⟨h1, h2⟩
      · have a1 : (c : Int) ≥ 97 := by omega
        have a2 : (c : Int) ≤ 122 := by omega
        simp only [a1, a2, evL, reduceIte, Bool.not_true, decide_true]; exact ⟨⟨_, yes hr, rfl⟩, hmu'⟩
      · have a1 : ¬ (c : Int) ≥ 97 := by omega
        have a2 : (c : Int) ≥ 48 := by omega
        have a3 : (c : Int) ≤ 57 := by omega
        simp only [a1, a2, a3, evL, reduceIte, Bool.false_eq_true, Bool.not_true, decide_true, decide_false]; exact ⟨⟨_, yes hr, rfl⟩, hmu'⟩
      · simp only [show ((45 : Nat) : Int) = 45 from rfl, evL, Int.reduceGE, reduceIte, Bool.false_eq_true, Bool.not_true, decide_true, decide_false]; exact ⟨⟨_, yes hr, rfl⟩, hmu'⟩
      · simp only [show ((46 : Nat) : Int) = 46 from rfl, evL, Int.reduceEq, Int.reduceGE, reduceIte, Bool.false_eq_true, Bool.not_true, decide_true, decide_false]; exact ⟨⟨_, yes hr, rfl⟩, hmu'⟩
      · have a1 : (c : Int) ≥ 97 := by omega
        have a2 : ¬ (c : Int) ≤ 122 := by omega
        have a3 : (c : Int) ≥ 48 := by omega
        have a4 : ¬ (c : Int) ≤ 57 := by omega
        have a5 : ¬ (c : Int) = 45 := by omega
        have a6 : ¬ (c : Int) = 46 := by omega
        have a7 : (c : Int) ≥ 224 := by omega
        have a8 : (c : Int) ≤ 255 := by omega
        simp only [a1, a2, a3, a4, a5, a6, a7, a8, evL, reduceIte, Bool.false_eq_true, Bool.not_true, decide_true, decide_false]; exact ⟨⟨_, yes hr, rfl⟩, hmu'⟩
    · obtain ⟨a5, a6, hc⟩ := rnB_no hr
      have a5 : ¬ (c : Int) = 45 := by omega
      have a6 : ¬ (c : Int) = 46 := by omega
      rcases hc with hc | hc | hc | hc
      · have a1 : (c : Int) ≥ 97 := by omega
        have a2 : ¬ (c : Int) ≤ 122 := by omega
        have a3 : (c : Int) ≥ 48 := by omega
        have a4 : ¬ (c : Int) ≤ 57 := by omega
        have a7 : (c : Int) ≥ 224 := by omega
        have a8 : ¬ (c : Int) ≤ 255 := by omega
        simp only [a1, a2, a3, a4, a5, a6, a7, a8, evL, reduceIte, Bool.false_eq_true, Bool.not_false, decide_true, decide_false]; exact no (by simpa using hr)
      · have a1 : (c : Int) ≥ 97 := by omega
        have a2 : ¬ (c : Int) ≤ 122 := by omega
        have a3 : (c : Int) ≥ 48 := by omega
        have a4 : ¬ (c : Int) ≤ 57 := by omega
        have a7 : ¬ (c : Int) ≥ 224 := by omega
        simp only [a1, a2, a3, a4, a5, a6, a7, evL, reduceIte, Bool.false_eq_true, Bool.not_false, decide_true, decide_false]; exact no (by simpa using hr)
      · have a1 : ¬ (c : Int) ≥ 97 := by omega
        have a3 : (c : Int) ≥ 48 := by omega
        have a4 : ¬ (c : Int) ≤ 57 := by omega
        have a7 : ¬ (c : Int) ≥ 224 := by omega
        simp only [a1, a3, a4, a5, a6, a7, evL, reduceIte, Bool.false_eq_true, Bool.not_false, decide_true, decide_false]; exact no (by simpa using hr)
      · have a1 : ¬ (c : Int) ≥ 97 := by omega
        have a3 : ¬ (c : Int) ≥ 48 := by omega
        have a7 : ¬ (c : Int) ≥ 224 := by omega
        simp only [a1, a3, a5, a6, a7, evL, reduceIte, Bool.false_eq_true, Bool.not_false, decide_false]; exact no (by simpa using hr)
  · refine V.ok (run_next_end _ _ _ _ hlt) (V_tup rfl (ifD_false.2 ?_))
    rw [hp, scanN_end hlt] at hR
    exact hR _ (x1.trans ((Ext.refl _).alloc _))
set_option maxHeartbeats 1600000 in
theorem isName19 {s : ByteArray} (hT : STabs w) (hk : ∀ w', Ext w w' → K (.bool (nmB' s)) w') : callD Tryz.prog 19 #[.string s] w K := by
  apply F19_wp
  suffices key : ∀ R : Value → World → Prop, (∀ w', Ext w w' → R (.bool (nmB' s)) w') → F19_den (.string s) w R from key _ hk
  clear hk
  intro R hR
  unfold F19_den
  unfold nmB' at hR
  refine V.ok r_eqStr ?_
  cases he : s.toList == ({ data := #[] } : ByteArray).toList with
  | true =>
    simp only [evL, reduceIte]
    rw [emptyB] at he
    have h0 : s.size = 0 := of_decide_eq_true he
    have := hR w (Ext.refl _)
    rw [show decide (1 ≤ s.size) = false from decide_eq_false (by omega), Bool.false_and, Bool.false_and] at this
    exact this
  | false =>
  rw [emptyB] at he
  have h0 : s.size ≠ 0 := of_decide_eq_false he
  simp only [evL, reduceIte, Bool.false_eq_true]
  refine V.ok (lenStr Tryz.underlying9) (V_gtr.2 ?_)
  by_cases e2 : (s.size : Int) > 16
  · simp only [e2, evL, reduceIte, decide_true]
    have := hR w (Ext.refl _)
    rw [show decide (s.size ≤ 16) = false from decide_eq_false (by omega), Bool.and_false, Bool.false_and] at this
    exact this
  simp only [e2, evL, reduceIte, Bool.false_eq_true, decide_false]
  rw [show decide (1 ≤ s.size) = true from decide_eq_true (by omega), show decide (s.size ≤ 16) = true from decide_eq_true (by omega), Bool.and_true, Bool.true_and] at hR
  refine valid37 (by omega) hT fun w1 x1 => V_not.2 ?_
  cases hv : Lib.validD s.data.toList with
  | false =>
    simp only [evL, Bool.not_false]
    have := hR w1 x1
    rw [hv, Bool.false_and] at this
    exact this
  | true =>
  rw [hv, Bool.true_and] at hR
  simp only [evL, Bool.not_true]
  refine V.ok (run_range_string _ _ _ Tryz.underlying9) ?_
  refine ⟨fun w' => ∃ p, scanN s s.size 0 = scanN s s.size p ∧ w' = w1.iter s p, fun w' => mu fun q => ∃ p, w' = w1.iter s p ∧ s.size - p = q, ⟨0, rfl, rfl⟩, ?_⟩
  rintro _ ⟨p0, hp0, rfl⟩ _
  obtain ⟨p, hpe, hmu⟩ := mu_spec (p := fun q => ∃ p, w1.iter s p0 = w1.iter s p ∧ s.size - p = q) ⟨_, p0, rfl, rfl⟩
  have hp : scanN s s.size 0 = scanN s s.size p := by
    have : p0 = p := by
      have := congrArg (fun w' => World.iterPos w' w1.heap.size) hpe
      simpa using this
    rw [hp0, this]
  rw [hpe]
  rw [hpe] at hmu
  clear hpe hp0
  by_cases hlt : p < s.size
  · refine V.ok (run_next_dec _ _ _ _ hlt) (V_tup (v := .bool true) rfl (ifD_true.2 (V_tup (v := .int .i32 ((Utf8.decode s p).1 : Nat)) rfl ?_)))
    have hstep := scanN_step hlt
    have hw := decode_pos hlt
    have hmu' : mu (fun q => ∃ p', w1.iter s (p + (Utf8.decode s p).2) = w1.iter s p' ∧ s.size - p' = q) < mu (fun q => ∃ p', w1.iter s p = w1.iter s p' ∧ s.size - p' = q) := by
      rw [← hmu]
      exact Nat.lt_of_le_of_lt (mu_le ⟨_, rfl, rfl⟩) (by omega)
    have no : rnB (Utf8.decode s p).1 = false → R (.bool false) (w1.iter s (p + (Utf8.decode s p).2)) := fun h => by
      rw [h, Bool.false_and] at hstep
      rw [hp, hstep] at hR
      exact hR _ (x1.trans ((Ext.refl _).alloc _))
    have yes : rnB (Utf8.decode s p).1 = true → scanN s s.size 0 = scanN s s.size (p + (Utf8.decode s p).2) := fun h => by
      rw [hp, hstep, h, Bool.true_and]
    clear hstep hmu
    generalize (Utf8.decode s p).2 = wd at *
    generalize (Utf8.decode s p).1 = c at *
    refine isRune38 (V_not.2 ?_)
    cases hr : rnB c with
    | true => exact ifD_false.2 ⟨⟨_, yes hr, rfl⟩, hmu'⟩
    | false => exact ifD_true.2 (no hr)
  · refine V.ok (run_next_end _ _ _ _ hlt) (V_tup rfl (ifD_false.2 ?_))
    rw [hp, scanN_end hlt] at hR
    exact hR _ (x1.trans ((Ext.refl _).alloc _))
end Go.Proofs.YthblbcjgdbaonaaGreatDoor
namespace Go.Proofs.YthblbcjgdbaonaaGreatDoor
open Go.Vc Go.Tc
variable {w : World} {K : Value → World → Prop}
def sIns : ByteArray := ⟨#[105, 110, 115, 116, 97, 108, 108, 32]⟩
def sSel : ByteArray := ⟨#[115, 101, 108, 101, 99, 116, 32]⟩
def sDes : ByteArray := ⟨#[100, 101, 115, 101, 108, 101, 99, 116]⟩
def sRes : ByteArray := ⟨#[114, 101, 115, 101, 116]⟩
def sCom : ByteArray := ⟨#[99, 111, 109, 109, 97, 110, 100, 32]⟩
def sBl : ByteArray := ⟨#[32]⟩
def sNo : ByteArray := ⟨#[]⟩
def comOk (e : Evt) : Bool := (decide (e.pub.length ≤ 8192) && decide (e.sec.length ≤ 8192)) && (decide (0 ≤ e.fuel) && decide (e.fuel ≤ 9999999))
def prE (e : Evt) : ByteArray × Bool :=
  if e.kind = 1 then (if e.bytes.length ≤ 8192 then (sIns ++ hexS e.bytes, true) else (sNo, false))
  else if e.kind = 2 then (if nmB' e.name then (sSel ++ e.name, true) else (sNo, false))
  else if e.kind = 3 then (sDes, true)
  else if e.kind = 4 then (sRes, true)
  else if e.kind = 5 then (if comOk e then (sCom ++ hexS e.pub ++ sBl ++ hexS e.sec ++ sBl ++ ⟨(Lib.itoa e.fuel).toArray⟩, true) else (sNo, false))
  else (sNo, false)
theorem long17 {v : Value} {l : List Int} (hv : ArgsU8 w v l) (hk : K (.bool (decide (8192 < l.length))) w) : callD Tryz.prog 17 #[v] w K := by
  obtain ⟨va, vc, rfl, _⟩ := hv.sl
  apply F17_wp
  unfold F17_den
  refine V_ln_23.2 (V_gtr.2 ?_)
  rw [show decide ((l.length : Int) > 8192) = decide (8192 < l.length) from decide_eq_decide.2 (by omega)]
  exact hk
theorem nm_le {s : ByteArray} (h : nmB' s = true) : s.size ≤ 16 := by
  simp only [nmB', Bool.and_eq_true, decide_eq_true_eq] at h
  exact h.1.2
theorem itoa_len {n : Int} (h0 : 0 ≤ n) (h1 : n ≤ 9999999) : (Lib.itoa n).length ≤ 7 := by
  rw [Lib.itoa, if_neg (by omega)]
  exact decDigits_len (k := 6) (by omega)
set_option maxHeartbeats 1600000 in
theorem print7 {cs : List Value} {e : Evt} (h : EvtIs w cs e) (hT : STabs w) (hk : ∀ w', Ext w w' → K (.tuple #[.string (prE e).1, .bool (prE e).2]) w') : callD Tryz.prog 7 #[.agg cs.toArray] w K := by
  apply F7_wp
  suffices key : ∀ R : Value → World → Prop, (∀ w', Ext w w' → R (.tuple #[.string (prE e).1, .bool (prE e).2]) w') → F7_den (.agg cs.toArray) w R from key _ hk
  clear hk
  intro R hR
  unfold F7_den
  obtain ⟨⟨bv, pv, sv, rfl, hb, hp, hs⟩, ub, up, us⟩ := h
  refine bxK fun w1 hB x1 => ?_
  have hB : Blk w1 w.heap.size [i64 e.kind, bv, .string e.name, pv, sv, i64 e.fuel] 29 := hB
  unfold prE at hR
  refine ldB hB.boxed fa_29_0 l1_3 rfl (V_eqlI.2 (ifD_dec (fun c => ?_) fun c => ?_))
  · rw [if_pos c] at hR
    refine ldB hB.boxed fa_29_1 l1_23 rfl (long17 (hb.ext x1) (V_not.2 ?_))
    by_cases hl : 8192 < e.bytes.length
    · rw [if_neg (by omega)] at hR
      simp only [hl, evL, Bool.not_true, decide_true]
      exact hR _ x1
    · rw [if_pos (by omega)] at hR
      simp only [hl, evL, Bool.not_false, decide_false]
      refine ldB hB.boxed fa_29_1 l1_23 rfl (hex18 (hb.ext x1) ub (by omega) fun w2 x2 => V.ok (r_cat ?_) (hR _ (x1.trans x2)))
      have := hexS_size e.bytes
      show 8 + _ ≤ _
      omega
  rw [if_neg c] at hR
  refine V_eqlI.2 (ifD_dec (fun c => ?_) fun c => ?_)
  · rw [if_pos c] at hR
    refine ldB hB.boxed fa_29_2 l1_9 rfl (isName19 (hT.ext x1) fun w2 x2 => ?_)
    cases hn : nmB' e.name with
    | true =>
      rw [hn, if_pos rfl] at hR
      simp only [evL]
      refine ldB (hB.ext x2).boxed fa_29_2 l1_9 rfl (V.ok (r_cat ?_) (hR _ (x1.trans x2)))
      have := nm_le hn
      show 7 + _ ≤ _
      omega
    | false =>
      rw [hn, if_neg (by simp)] at hR
      simp only [evL]
      exact hR _ (x1.trans x2)
  rw [if_neg c] at hR
  refine V_eqlI.2 (ifD_dec (fun c => ?_) fun c => ?_)
  · rw [if_pos c] at hR; exact hR _ x1
  rw [if_neg c] at hR
  refine V_eqlI.2 (ifD_dec (fun c => ?_) fun c => ?_)
  · rw [if_pos c] at hR; exact hR _ x1
  rw [if_neg c] at hR
  refine V_eqlI.2 (ifD_dec (fun c => ?_) fun c => ?_)
  · rw [if_pos c] at hR
    have no : comOk e = false → R (.tuple #[.string sNo, .bool false]) w1 := fun h => by
      rw [h, if_neg (by simp)] at hR; exact hR _ x1
    have hp1 := hp.ext x1
    have hs1 := hs.ext x1
    refine ldB hB.boxed fa_29_3 l1_23 rfl (long17 hp1 (V_not.2 ?_))
    by_cases h1 : 8192 < e.pub.length
    · simp only [h1, evL, reduceIte, Bool.false_eq_true, Bool.not_true, decide_true]
      exact no (by simp [comOk]; omega)
    simp only [h1, evL, reduceIte, Bool.not_false, decide_false]
    refine ldB hB.boxed fa_29_4 l1_23 rfl (long17 hs1 (V_not.2 ?_))
    by_cases h2 : 8192 < e.sec.length
    · simp only [h2, evL, reduceIte, Bool.false_eq_true, Bool.not_true, decide_true]
      exact no (by simp [comOk]; omega)
    simp only [h2, evL, reduceIte, Bool.not_false, decide_false]
    refine ldB hB.boxed fa_29_5 l1_3 rfl (V_geq.2 ?_)
    by_cases h3 : e.fuel ≥ 0
    case neg =>
      simp only [h3, evL, reduceIte, Bool.false_eq_true, decide_false]
      exact no (by simp [comOk]; omega)
    simp only [h3, evL, reduceIte, decide_true]
    refine ldB hB.boxed fa_29_5 l1_3 rfl (V_leq.2 ?_)
    by_cases h4 : e.fuel ≤ 9999999
    case neg =>
      simp only [h4, evL, decide_false]
      exact no (by simp [comOk]; omega)
    simp only [h4, evL, decide_true]
    rw [if_pos (by simp [comOk]; omega)] at hR
    have D1 : Ext w1 w1.drew := (Ext.refl _).drew
    have x1d := x1.trans D1
    refine drawD.mk' (fun w' => Ext w1.drew w') (Ext.refl _) ?_
    have hBd : ∀ w', Ext w1.drew w' → Boxed w' w.heap.size _ := fun w' hw => ((hB.ext D1).ext hw).boxed
    refine yfB hBd fa_29_3 l1_23 rfl (yfB hBd fa_29_4 l1_23 rfl (yfB hBd fa_29_5 l1_3 rfl ?_))
    have z1 := hexS_size e.pub
    have z2 := hexS_size e.sec
    have z3 := itoa_len h3 h4
    refine hex18 (hp1.ext D1) up (by omega) fun w2 x2 => ⟨x2, ?_⟩
    refine yieldS.ok (fun w' _ => r_cat (by show 8 + _ ≤ _; omega)) (yieldS.ok (fun w' _ => r_cat (by rw [ByteArray.size_append]; show 8 + _ + 1 ≤ _; omega)) ?_)
    refine hex18 ((hs1.ext D1).ext x2) us (by omega) fun w3 x3 => ⟨x2.trans x3, ?_⟩
    refine yieldS.ok (fun w' _ => r_cat (by rw [ByteArray.size_append, ByteArray.size_append]; show 8 + _ + 1 + _ ≤ _; omega)) (yieldS.ok (fun w' _ => r_cat (by rw [ByteArray.size_append, ByteArray.size_append, ByteArray.size_append]; show 8 + _ + 1 + _ + 1 ≤ _; omega)) ?_)
    refine itoa20 (by omega) (by omega) (((hT.ext x1d).ext x2).ext x3) fun w4 x4 => ⟨(x2.trans x3).trans x4, ?_⟩
    refine yieldS.ok (fun w' _ => r_cat (by rw [ByteArray.size_append, ByteArray.size_append, ByteArray.size_append, ByteArray.size_append]; show 8 + _ + 1 + _ + 1 + (Lib.itoa e.fuel).toArray.size ≤ _; rw [List.size_toArray]; omega)) ?_
    exact hR _ (((x1d.trans x2).trans x3).trans x4)
  · rw [if_neg c] at hR; exact hR _ x1
end Go.Proofs.YthblbcjgdbaonaaGreatDoor
namespace Go.Proofs.YthblbcjgdbaonaaGreatDoor
open Go.Vc Go.Tc
variable {w : World} {K : Value → World → Prop}
set_option maxHeartbeats 1600000 in
theorem print8 {cs : List Value} {e : Evt} (h : EvtIs w cs e) (hT : STabs w) (hk : ∀ w', Ext w w' → K (.tuple #[.string (prE e).1, .bool (prE e).2]) w') : callD Tryz.prog 8 #[.agg cs.toArray] w K := by
  apply F8_wp
  suffices key : ∀ R : Value → World → Prop, (∀ w', Ext w w' → R (.tuple #[.string (prE e).1, .bool (prE e).2]) w') → F8_den (.agg cs.toArray) w R from key _ hk
  clear hk
  intro R hR
  unfold F8_den
  obtain ⟨⟨bv, pv, sv, rfl, hb, hp, hs⟩, ub, up, us⟩ := h
  obtain ⟨ba, bc, rfl, _⟩ := hb.sl
  obtain ⟨pa, pc, rfl, _⟩ := hp.sl
  obtain ⟨sa, sc, rfl, _⟩ := hs.sl
  refine bxK fun w1 hB x1 => ?_
  have hB : Blk w1 w.heap.size [i64 e.kind, .slice ba e.bytes.length bc, .string e.name, .slice pa e.pub.length pc, .slice sa e.sec.length sc, i64 e.fuel] 29 := hB
  unfold prE at hR
  refine ldB hB.boxed fa_29_0 l1_3 rfl (V_eqlI.2 (ifD_dec (fun c => ?_) fun c => ?_))
  · rw [if_pos c] at hR
    refine ldB hB.boxed fa_29_1 l1_23 rfl (V_ln_23.2 (V_gtr.2 (ifD_dec (fun hl => ?_) fun hl => ?_)))
    · rw [if_neg (by omega)] at hR
      exact hR _ x1
    · rw [if_pos (by omega)] at hR
      refine ldB hB.boxed fa_29_1 l1_23 rfl (hex21 (hb.ext x1) ub (by omega) fun w2 x2 => V.ok (r_cat ?_) (hR _ (x1.trans x2)))
      have := hexS_size e.bytes
      show 8 + _ ≤ _
      omega
  rw [if_neg c] at hR
  refine V_eqlI.2 (ifD_dec (fun c => ?_) fun c => ?_)
  · rw [if_pos c] at hR
    refine ldB hB.boxed fa_29_2 l1_9 rfl (isName22 (hT.ext x1) fun w2 x2 => V_not.2 ?_)
    cases hn : nmB' e.name with
    | true =>
      rw [hn, if_pos rfl] at hR
      simp only [evL, Bool.not_true]
      refine ldB (hB.ext x2).boxed fa_29_2 l1_9 rfl (V.ok (r_cat ?_) (hR _ (x1.trans x2)))
      have := nm_le hn
      show 7 + _ ≤ _
      omega
    | false =>
      rw [hn, if_neg (by simp)] at hR
      simp only [evL, Bool.not_false]
      exact hR _ (x1.trans x2)
  rw [if_neg c] at hR
  refine V_eqlI.2 (ifD_dec (fun c => ?_) fun c => ?_)
  · rw [if_pos c] at hR; exact hR _ x1
  rw [if_neg c] at hR
  refine V_eqlI.2 (ifD_dec (fun c => ?_) fun c => ?_)
  · rw [if_pos c] at hR; exact hR _ x1
  rw [if_neg c] at hR
  refine V_eqlI.2 (ifD_dec (fun c => ?_) fun c => ?_)
  · rw [if_pos c] at hR
    have no : comOk e = false → R (.tuple #[.string sNo, .bool false]) w1 := fun h => by
      rw [h, if_neg (by simp)] at hR; exact hR _ x1
    have hp1 := hp.ext x1
    have hs1 := hs.ext x1
    refine ldB hB.boxed fa_29_5 l1_3 rfl (V_lss.2 ?_)
    by_cases h3 : e.fuel < 0
    · simp only [h3, evL, reduceIte, decide_true]
      exact no (by simp [comOk]; omega)
    simp only [h3, evL, reduceIte, Bool.false_eq_true, decide_false]
    refine ldB hB.boxed fa_29_5 l1_3 rfl (V_gtr.2 ?_)
    by_cases h4 : e.fuel > 9999999
    · simp only [h4, evL, reduceIte, decide_true]
      exact no (by simp [comOk]; omega)
    simp only [h4, evL, reduceIte, Bool.false_eq_true, decide_false]
    refine ldB hB.boxed fa_29_3 l1_23 rfl (V_ln_23.2 (V_gtr.2 ?_))
    by_cases h1 : (e.pub.length : Int) > 8192
    · simp only [h1, evL, reduceIte, decide_true]
      exact no (by simp [comOk]; omega)
    simp only [h1, evL, reduceIte, Bool.false_eq_true, decide_false]
    refine ldB hB.boxed fa_29_4 l1_23 rfl (V_ln_23.2 (V_gtr.2 ?_))
    by_cases h2 : (e.sec.length : Int) > 8192
    · simp only [h2, evL, decide_true]
      exact no (by simp [comOk]; omega)
    simp only [h2, evL, decide_false]
    rw [if_pos (by simp [comOk]; omega)] at hR
    have D1 : Ext w1 w1.drew := (Ext.refl _).drew
    have x1d := x1.trans D1
    refine drawD.mk' (fun w' => Ext w1.drew w') (Ext.refl _) ?_
    have hBd : ∀ w', Ext w1.drew w' → Boxed w' w.heap.size _ := fun w' hw => ((hB.ext D1).ext hw).boxed
    refine yfB hBd fa_29_3 l1_23 rfl (yfB hBd fa_29_4 l1_23 rfl (yfB hBd fa_29_5 l1_3 rfl ?_))
    have z1 := hexS_size e.pub
    have z2 := hexS_size e.sec
    have z3 := itoa_len (n := e.fuel) (by omega) (by omega)
    refine hex21 (hp1.ext D1) up (by omega) fun w2 x2 => ⟨x2, ?_⟩
    refine yieldS.ok (fun w' _ => r_cat (by show 8 + _ ≤ _; omega)) (yieldS.ok (fun w' _ => r_cat (by rw [ByteArray.size_append]; show 8 + _ + 1 ≤ _; omega)) ?_)
    refine hex21 ((hs1.ext D1).ext x2) us (by omega) fun w3 x3 => ⟨x2.trans x3, ?_⟩
    refine yieldS.ok (fun w' _ => r_cat (by rw [ByteArray.size_append, ByteArray.size_append]; show 8 + _ + 1 + _ ≤ _; omega)) (yieldS.ok (fun w' _ => r_cat (by rw [ByteArray.size_append, ByteArray.size_append, ByteArray.size_append]; show 8 + _ + 1 + _ + 1 ≤ _; omega)) ?_)
    refine digits23 (by omega) (by omega) fun w4 x4 => ⟨(x2.trans x3).trans x4, ?_⟩
    refine yieldS.ok (fun w' _ => r_cat (by rw [ByteArray.size_append, ByteArray.size_append, ByteArray.size_append, ByteArray.size_append]; show 8 + _ + 1 + _ + 1 + (Lib.itoa e.fuel).toArray.size ≤ _; rw [List.size_toArray]; omega)) ?_
    exact hR _ (((x1d.trans x2).trans x3).trans x4)
  · rw [if_neg c] at hR; exact hR _ x1
def tlD (st : Nat) : Nat → List UInt8
  | 0 => []
  | k + 1 => dig (st / 16 ^ k % 16) :: tlD st k
def tellS (st : Nat) (pub sec : List Int) : ByteArray := ⟨(tlD st 4).toArray⟩ ++ sBl ++ hexS pub ++ sBl ++ hexS sec
theorem tlD_len (st : Nat) : ∀ k, (tlD st k).length = k
  | 0 => rfl
  | k + 1 => by rw [tlD, List.length_cons, tlD_len st k]
theorem andI {a : Nat} (h : a < 9223372036854775808) : IntKind.i64.wrap ((BitVec.ofInt IntKind.i64.bits (a : Int) &&& BitVec.ofInt IntKind.i64.bits 15).toNat : Int) = ((a % 16 : Nat) : Int) := by
  have e1 : (BitVec.ofInt IntKind.i64.bits (a : Int)).toNat = a := by
    show (BitVec.ofInt 64 (a : Int)).toNat = a
    rw [BitVec.toNat_ofInt]; omega
  have e2 : (BitVec.ofInt IntKind.i64.bits 15).toNat = 15 := by decide
  rw [BitVec.toNat_and, e1, e2, show (15 : Nat) = 2 ^ 4 - 1 from rfl, Nat.and_two_pow_sub_one_eq_mod, wrap_id (by omega) (by omega)]
theorem shrI {a k : Nat} (h : k < 4) : (a : Int).fdiv (2 ^ (min (IntKind.i64.wrap (4 * (k : Int))).toNat IntKind.i64.bits)) = ((a / 16 ^ k : Nat) : Int) := by
  have hc : k = 0 ∨ k = 1 ∨ k = 2 ∨ k = 3 := by omega
  have key : ∀ n : Nat, (a : Int).fdiv ((n : Nat) : Int) = ((a / n : Nat) : Int) := fun n => by
    rw [Int.fdiv_eq_ediv_of_nonneg _ (by omega)]; rfl
  rcases hc with rfl | rfl | rfl | rfl
  · exact key 1
  · exact key 16
  · exact key 256
  · exact key 4096
theorem r_chr {k : Nat} (h : k < 16) : (convert 5 9 (.int .u8 ((dig k).toNat : Int))).run Tryz.prog w = .ok (.string ⟨#[dig k]⟩) w := by
  have hc : k = 0 ∨ k = 1 ∨ k = 2 ∨ k = 3 ∨ k = 4 ∨ k = 5 ∨ k = 6 ∨ k = 7 ∨ k = 8 ∨ k = 9 ∨ k = 10 ∨ k = 11 ∨ k = 12 ∨ k = 13 ∨ k = 14 ∨ k = 15 := by omega
  rcases hc with rfl | rfl | rfl | rfl | rfl | rfl | rfl | rfl | rfl | rfl | rfl | rfl | rfl | rfl | rfl | rfl <;> (show _ = _; kernel_rfl)
set_option maxHeartbeats 1600000 in
theorem tell11 {st : Nat} {pv sv : Value} {pub sec : List Int} (hst : st < 65536) (hp : ArgsU8 w pv pub) (hs : ArgsU8 w sv sec) (up : U8s pub) (us : U8s sec) (lp : pub.length ≤ 2000000) (ls : sec.length ≤ 2000000) (hk : ∀ w', Ext w w' → K (.string (tellS st pub sec)) w') :
    callD Tryz.prog 11 #[.agg #[i64 st, pv, sv]] w K := by
  apply F11_wp
  unfold F11_den
  refine bxK fun w1 hB x1 => ?_
  have hB : Blk w1 w.heap.size [i64 st, pv, sv] 27 := hB
  refine ⟨fun s v w' => ∃ k : Nat, v = i64 k ∧ k ≤ 4 ∧ s = .string ⟨(tlD st k).toArray⟩ ∧ w' = w1, fun _ v _ => 4 - (RowKit.intOf v).toNat, ⟨0, rfl, Nat.zero_le _, rfl, rfl⟩, ?_⟩
  rintro _ _ w2 ⟨k, rfl, hk4, rfl, hw⟩ _
  rw [hw]
  clear hw w2
  refine V_lss.2 (ifD_dec (fun hlt => ?_) fun hge => ?_)
  · refine ldB hB.boxed fa_27_0 l1_3 rfl (V_mul.2 ?_)
    refine V.ok (shr_run (by rw [wrap_id (by omega) (by omega)]; omega)) ?_
    rw [shrI (by omega)]
    refine V.ok and_run ?_
    rw [andI (by have := Nat.div_le_self st (16 ^ k); omega)]
    refine V.ok (r_dig (.inr rfl) (by omega)) (V.ok (r_chr (by omega)) (V.ok (r_cat ?_) (V_add.2 ?_)))
    · show 1 + (tlD st k).toArray.size ≤ _
      rw [List.size_toArray, tlD_len]; omega
    rw [wrap_id (by omega) (by omega), i64_succ]
    refine ⟨⟨k + 1, rfl, by omega, ?_, rfl⟩, by simp only [intOf_i64]; omega⟩
    rw [show (⟨#[dig (st / 16 ^ k % 16)]⟩ : ByteArray) ++ ⟨(tlD st k).toArray⟩ = ⟨(tlD st (k + 1)).toArray⟩ from ba_app [dig (st / 16 ^ k % 16)] (tlD st k)]
  · obtain rfl : k = 4 := by omega
    have D1 : Ext w1 w1.drew := (Ext.refl _).drew
    refine drawD.mk' (fun w' => Ext w1.drew w') (Ext.refl _) ?_
    have hBd : ∀ w', Ext w1.drew w' → Boxed w' w.heap.size _ := fun w' hw => ((hB.ext D1).ext hw).boxed
    have z1 := hexS_size pub
    have z2 := hexS_size sec
    have z0 : (⟨(tlD st 4).toArray⟩ : ByteArray).size = 4 := by show (tlD st 4).toArray.size = 4; rw [List.size_toArray, tlD_len]
    refine yieldS.ok (fun w' _ => r_cat (by rw [z0]; show 4 + 1 ≤ _; omega)) (yfB hBd fa_27_1 l1_23 rfl (yfB hBd fa_27_2 l1_23 rfl ?_))
    refine hex18 (hp.ext (x1.trans D1)) up lp fun w2 x2 => ⟨x2, ?_⟩
    refine yieldS.ok (fun w' _ => r_cat (by rw [ByteArray.size_append, z0]; show 4 + 1 + _ ≤ _; omega)) (yieldS.ok (fun w' _ => r_cat (by rw [ByteArray.size_append, ByteArray.size_append, z0]; show 4 + 1 + _ + 1 ≤ _; omega)) ?_)
    refine hex18 (hs.ext ((x1.trans D1).trans x2)) us ls fun w3 x3 => ⟨x2.trans x3, ?_⟩
    refine yieldS.ok (fun w' _ => r_cat (by rw [ByteArray.size_append, ByteArray.size_append, ByteArray.size_append, z0]; show 4 + 1 + _ + 1 + _ ≤ _; omega)) ?_
    exact hk _ (((x1.trans D1).trans x2).trans x3)
end Go.Proofs.YthblbcjgdbaonaaGreatDoor
namespace Go.Vc
section
variable {P : Program} {w : World} {K : Value → World → Prop}
theorem next_str {gi p : Nat} {s : ByteArray} {ty : TypeId} (h : w.heap[gi]? = some (.stringIter s p)) (hp : p < s.size)
    (hk : ∀ w', w'.heap[gi]? = some (.stringIter s (p + (Utf8.decode s p).2)) → Fr (fun k => k = gi) w w' → K (.tuple #[.bool true, i64 p, .int .i32 ((Utf8.decode s p).1 : Nat)]) w') :
    V P (Instr.next (.pointer (some ⟨gi, 0, none⟩)) true ty) w K := by
  refine V.ok (w' := { w with heap := w.heap.setIfInBounds gi (.stringIter s (p + (Utf8.decode s p).2)) }) (by simp [Instr.next, getObj, setObj, Sem.run, h, hp, Result.andThen, goInt]) (hk _ ?_ ?_)
  · have hlt := (Array.getElem?_eq_some_iff.1 h).1
    simp [hlt]
  · refine ⟨rfl, rfl, rfl, by simp, fun i hi hn => ?_⟩
    simp [Ne.symm hn]
theorem next_end {gi p : Nat} {s : ByteArray} {ty : TypeId} (h : w.heap[gi]? = some (.stringIter s p)) (hp : ¬ p < s.size) (hk : K (.tuple #[.bool false]) w) : V P (Instr.next (.pointer (some ⟨gi, 0, none⟩)) true ty) w K := by
  refine V.ok (by simp [Instr.next, getObj, Sem.run, h, hp, Result.andThen]) hk
theorem r_runeS {src dst : TypeId} {k : IntKind} {n : Int} (hs : P.underlying src = some (.int k)) (hd : P.underlying dst = some .string) : (convert src dst (.int k n)).run P w = .ok (.string (Utf8.encode n)) w := by
  simp [convert, run_underlying hs, run_underlying hd, Conv.intToString]
end
end Go.Vc
namespace Go.Tc
def wstep (acc : List ByteArray) (c : Nat) : List ByteArray := if c = 32 then acc ++ [⟨#[]⟩] else acc.set (acc.length - 1) (acc.getD (acc.length - 1) ⟨#[]⟩ ++ Utf8.encode c)
def wordsN (s : ByteArray) : Nat → Nat → List ByteArray → List ByteArray
  | 0, _, acc => acc
  | n + 1, p, acc => if p < s.size then wordsN s n (p + (Utf8.decode s p).2) (wstep acc (Utf8.decode s p).1) else acc
def wordsF (s : ByteArray) : List ByteArray := wordsN s s.size 0 [⟨#[]⟩]
theorem wordsN_end {s : ByteArray} : ∀ {n p : Nat} {acc : List ByteArray}, ¬ p < s.size → wordsN s n p acc = acc
  | 0, _, _, _ => rfl
  | n + 1, p, acc, h => by rw [wordsN, if_neg h]
theorem wordsN_more {s : ByteArray} : ∀ {n m p : Nat} {acc : List ByteArray}, s.size ≤ p + n → s.size ≤ p + m → wordsN s n p acc = wordsN s m p acc
  | 0, m, p, acc, h, _ => by rw [wordsN_end (n := m) (by omega)]; rfl
  | n + 1, 0, p, acc, _, h => by rw [wordsN_end (n := n + 1) (by omega)]; rfl
  | n + 1, m + 1, p, acc, h1, h2 => by
    by_cases h : p < s.size
    · have := Go.Vc.decode_pos h
      rw [wordsN, wordsN, if_pos h, if_pos h, wordsN_more (n := n) (m := m) (by omega) (by omega)]
    · rw [wordsN_end h, wordsN_end h]
theorem wordsN_step {s : ByteArray} {p : Nat} {acc : List ByteArray} (h : p < s.size) : wordsN s s.size p acc = wordsN s s.size (p + (Utf8.decode s p).2) (wstep acc (Utf8.decode s p).1) := by
  have := Go.Vc.decode_pos h
  rw [wordsN_more (n := s.size) (m := s.size + 1) (by omega) (by omega), wordsN, if_pos h]
theorem decode_le4 {s : ByteArray} {p : Nat} : (Utf8.decode s p).2 ≤ 4 := by
  simp only [Utf8.decode]
  repeat' split
  all_goals simp
theorem encode_size (n : Int) : 1 ≤ (Utf8.encode n).size ∧ (Utf8.encode n).size ≤ 4 := by
  unfold Utf8.encode
  simp only []
  split <;> (repeat' split) <;> exact ⟨Nat.le_of_ble_eq_true rfl, Nat.le_of_ble_eq_true rfl⟩
end Go.Tc
namespace Go.Proofs.YthblbcjgdbaonaaGreatDoor
open Go.Vc Go.Tc
variable {w : World} {K : Value → World → Prop}
theorem iter_at {s : ByteArray} : (w.iter s 0).heap[w.heap.size]? = some (.stringIter s 0) := World.iter_heap w s 0
theorem words26 {s : ByteArray} (hs : s.size ≤ 2000000) (hk : ∀ v w', w'.ownsRow w.heap.size 9 1 v (wordsF s).length ((wordsF s).map .string) → Ext w w' → K v w') : callD Tryz.prog 26 #[.string s] w K := by
  apply F26_wp
  unfold F26_den
  refine bsl xe_53 [.string ⟨#[]⟩] rfl rfl (by simp) rfl fun v1 w1 ho1 x1 => ?_
  refine V.ok (run_range_string _ _ _ Tryz.underlying9) ?_
  have xi : Ext w1 (w1.iter s 0) := (Ext.refl _).alloc _
  have hit := iter_at (w := w1) (s := s)
  have ho1l : ∀ k, v1.ownBlock = some k → k < w1.heap.size := fun k hk => (ho1.lt k hk).2
  have ho1 := (Fr.of_ext (S := fun _ => False) xi).own ho1 fun _ _ h => h
  have hgi : w1.heap.size < (w1.iter s 0).heap.size := (Array.getElem?_eq_some_iff.1 hit).1
  have s1 := x1.size
  have x2 := x1.trans xi
  generalize w1.iter s 0 = w2 at *
  generalize w1.heap.size = gi at *
  refine ⟨fun v w' => ∃ (p : Nat) (acc : List ByteArray), wordsF s = wordsN s s.size p acc ∧ w'.heap[gi]? = some (.stringIter s p) ∧ 0 < acc.length ∧ acc.length ≤ p + 1 ∧ w'.ownsRow w.heap.size 9 1 v acc.length (acc.map .string) ∧ (∀ k, v.ownBlock = some k → k ≠ gi) ∧ (∀ b ∈ acc, b.size ≤ 4 * p) ∧ Ext w w', fun _ w' => match w'.heap[gi]? with | some (.stringIter s p) => s.size - p | _ => 0, ⟨0, [⟨#[]⟩], rfl, hit, by simp, by simp, ho1, fun k hk => by have := ho1l k hk; omega, fun b hb => by rw [List.mem_singleton] at hb; subst hb; exact Nat.le_refl 0, x2⟩, ?_⟩
  rintro v w3 ⟨p, acc, hF, hit3, hpos, hal, ho, hne, hsz, x3⟩ _
  by_cases hp : p < s.size
  · refine next_str hit3 hp fun w4 hit4 f4 => V_tup (v := .bool true) rfl (ifD_true.2 (V_tup (v := .int .i32 ((Utf8.decode s p).1 : Nat)) rfl ?_))
    have hst := wordsN_step (acc := acc) hp
    have hdp := decode_pos hp
    have hd4 := decode_le4 (s := s) (p := p)
    have x4 : Ext w w4 := f4.ext x3 fun k hk => by have hk : k = gi := hk; omega
    have ho4 := f4.own ho fun k hk h => hne k hk h
    have s4 := x4.size
    have hmu : (match w3.heap[gi]? with | some (.stringIter s p) => s.size - p | _ => 0) = s.size - p := by rw [hit3]
    have fin : ∀ {v' w' acc'}, acc' = wstep acc (Utf8.decode s p).1 → w'.heap[gi]? = some (.stringIter s (p + (Utf8.decode s p).2)) → 0 < acc'.length → acc'.length ≤ acc.length + 1 → w'.ownsRow w.heap.size 9 1 v' acc'.length (acc'.map .string) → (∀ k, v'.ownBlock = some k → k ≠ gi) → (∀ b ∈ acc', b.size ≤ 4 * (p + 1)) → Ext w w' →
        (∃ (p : Nat) (acc : List ByteArray), wordsF s = wordsN s s.size p acc ∧ w'.heap[gi]? = some (.stringIter s p) ∧ 0 < acc.length ∧ acc.length ≤ p + 1 ∧ w'.ownsRow w.heap.size 9 1 v' acc.length (acc.map .string) ∧ (∀ k, v'.ownBlock = some k → k ≠ gi) ∧ (∀ b ∈ acc, b.size ≤ 4 * p) ∧ Ext w w') ∧ (match w'.heap[gi]? with | some (.stringIter s p) => s.size - p | _ => 0) < (match w3.heap[gi]? with | some (.stringIter s p) => s.size - p | _ => 0) := by
      intro v' w' acc' he h1 h2 h3 h4 h5 h6 h7
      refine ⟨⟨_, acc', by rw [hF, hst, he], h1, h2, by omega, h4, h5, fun b hb => by have := h6 b hb; omega, h7⟩, ?_⟩
      rw [hmu, h1]
      show s.size - (p + (Utf8.decode s p).2) < s.size - p
      omega
    generalize (Utf8.decode s p).1 = c at *
    generalize (Utf8.decode s p).2 = wd at *
    refine V_eqlI.2 (ifD_dec (fun hc => ?_) fun hc => ?_)
    · refine bsl xe_53 [.string ⟨#[]⟩] rfl rfl (by simp) rfl fun x w5 hx x5 => ?_
      have ho5 := (Fr.of_ext (S := fun _ => False) x5).own ho4 fun _ _ h => h
      have s5 := x5.size
      refine apAt xe_53 ho5 (SliceIs.of_own hx) rfl (by omega) (by unfold maxLen; omega) (by omega) fun v' w6 ho6 hg6 h5 => ?_
      have hgl := (Array.getElem?_eq_some_iff.1 hit4).1
      refine fin (acc' := acc ++ [⟨#[]⟩]) (by rw [wstep, if_pos (by omega)]) ?_ (by rw [List.length_append]; omega) (by rw [List.length_append]; exact Nat.le_refl _) (by rw [List.length_append, List.map_append]; exact ho6) ?_ ?_ ((x4.trans x5).grown hg6 fun k hk => (ho5.lt k hk).1)
      · rw [hg6.block gi (by omega) (fun h => hne gi h.symm rfl), x5.block gi hgl (by simp)]; exact hit4
      · intro k hk
        rcases h5 with h5 | h5
        · exact hne k (by rw [← h5]; exact hk)
        · rw [h5] at hk; cases hk; omega
      · intro b hb
        rcases List.mem_append.1 hb with hb | hb
        · have := hsz b hb; omega
        · rw [List.mem_singleton] at hb; subst hb; exact Nat.zero_le _
    · refine lnx xa_53 (SliceIs.of_own ho4) (V_sub.2 ?_)
      rw [wrap_id (by omega) (by omega), show ((acc.length : Int) - 1) = ((acc.length - 1 : Nat) : Int) by omega]
      have hl : acc[acc.length - 1]? = some (acc.getD (acc.length - 1) ⟨#[]⟩) := by
        rw [List.getD_eq_getElem?_getD, List.getElem?_eq_getElem (by omega)]; rfl
      refine ldx xa_53 l1_9 (SliceIs.of_own ho4) (by omega) (by omega) (u := .string (acc.getD (acc.length - 1) ⟨#[]⟩)) (by rw [Int.toNat_natCast, List.getElem?_map, hl]; rfl) ?_
      refine V.ok (r_runeS Tryz.underlying21 Tryz.underlying9) ?_
      have e1 := hsz _ (List.mem_of_getElem? hl)
      have e2 := encode_size (c : Int)
      refine V.ok (r_cat (by omega)) ?_
      refine stO xa_53 inf9 ho4 (by omega) (by omega) rfl fun w6 ho6 hg6 => ?_
      have hgl := (Array.getElem?_eq_some_iff.1 hit4).1
      refine fin (acc' := acc.set (acc.length - 1) (acc.getD (acc.length - 1) ⟨#[]⟩ ++ Utf8.encode c)) (by rw [wstep, if_neg (by omega)]) ?_ (by simpa using hpos) (by simp) ?_ hne ?_ (x4.grown hg6 fun k hk => (ho4.lt k hk).1)
      · rw [hg6.block gi hgl (fun h => hne gi h.symm rfl)]; exact hit4
      · rw [List.length_set, List.map_set]
        simpa using ho6
      · intro b hb
        rcases List.mem_or_eq_of_mem_set hb with hb | rfl
        · have := hsz b hb; omega
        · rw [ByteArray.size_append]; omega
  · refine next_end hit3 hp (V_tup rfl (ifD_false.2 ?_))
    rw [wordsN_end hp] at hF
    rw [hF] at hk
    exact hk v w3 ho x3
end Go.Proofs.YthblbcjgdbaonaaGreatDoor
