/- Package place: the rules as they are made: which registers meet, which must stand in slots. -/
import Derived.Test.YtjcmcfidblhnnaaDoorEd
import Derived.Deep.AppendLies
import Derived.Great.FillDense
import Derived.Great.BuildSlice
import Derived.Laws.StructEq
import Derived.Test.YtjcmcfidblhnnaaDoorEb
import Derived.WalkKit
import Derived.ProofKit
import Derived.OpenShut
import Derived.WideKeyArgs
import Derived.ChangeArms
import Derived.FnData
namespace Go.Proofs.YtjcmcfidblhnnaaDoor
open Go.Vc
structure Ru (w0 w : World) (ub g0 sg : Nat) (ov : Value) (gs : List Nat) (R : Nat) (m : Mx) (sb : List Bool) : Prop where
  x : Ext w0 w
  u : Blk w ub [.slice (some ⟨g0, 0, none⟩) R R, .slice (some ⟨sg, 0, none⟩) R R, ov] 59
  out : Blk w g0 (gs.map (sl R)) 57
  slot : Blk w sg (sb.map Value.bool) 4
  rows : ∀ (k g : Nat), gs[k]? = some g → Blk w g ((rowL m k R).map Value.bool) 4
  lo : w0.heap.size ≤ ub ∧ w0.heap.size ≤ g0 ∧ w0.heap.size ≤ sg ∧ ∀ g ∈ gs, w0.heap.size ≤ g
  ne : ub ≠ g0 ∧ ub ≠ sg ∧ g0 ≠ sg ∧ ∀ g ∈ gs, g ≠ ub ∧ g ≠ g0 ∧ g ≠ sg
  nd : gs.Nodup
theorem Ru.setRow {w0 w : World} {ub g0 sg R : Nat} {ov : Value} {gs : List Nat} {m : Mx} {sb : List Bool} (h : Ru w0 w ub g0 sg ov gs R m sb) {k g : Nat} (hk : gs[k]? = some g) (r : Nat) (v : Bool) :
    Ru w0 (w.setCell ⟨g, r, none⟩ (.bool v)) ub g0 sg ov gs R (updM m k r v) sb := by
  have hgm := List.mem_of_getElem? hk
  obtain ⟨n1, n2, n3⟩ := h.ne.2.2.2 g hgm
  refine ⟨h.x.setCell (h.lo.2.2.2 g hgm) _, h.u.other (Ne.symm n1), h.out.other (Ne.symm n2), h.slot.other (Ne.symm n3), fun k' g' hk' => ?_, h.lo, h.ne, h.nd⟩
  by_cases he : k' = k
  · subst he
    rw [hk] at hk'
    cases hk'
    rw [rowL_upd, ← map_set_b]
    exact (h.rows _ _ hk).set r _
  · rw [rowL_other he]
    exact (h.rows k' g' hk').other fun hgg => he (nd_inj h.nd hk' (hgg ▸ hk))
theorem Ru.setSlot {w0 w : World} {ub g0 sg R : Nat} {ov : Value} {gs : List Nat} {m : Mx} {sb : List Bool} (h : Ru w0 w ub g0 sg ov gs R m sb) (r : Nat) (v : Bool) :
    Ru w0 (w.setCell ⟨sg, r, none⟩ (.bool v)) ub g0 sg ov gs R m (sb.set r v) := by
  refine ⟨h.x.setCell h.lo.2.2.1 _, h.u.other h.ne.2.1, h.out.other h.ne.2.2.1, ?_, fun k' g' hk' => (h.rows k' g' hk').other ((h.ne.2.2.2 g' (List.mem_of_getElem? hk')).2.2), h.lo, h.ne, h.nd⟩
  rw [← map_set_b]
  exact h.slot.set r _
end Go.Proofs.YtjcmcfidblhnnaaDoor
namespace Go.Proofs.YtjcmcfidblhnnaaDoor
open Go.Vc
set_option maxHeartbeats 1600000 in
theorem all_ok {w0 w : World} {ub g0 sg R B : Nat} {ov lv : Value} {gs : List Nat} {m : Mx} {sb l : List Bool} (hR : R ≤ 40) (hgl : gs.length = R) (hl : l.length = R) (hu : Ru w0 w ub g0 sg ov gs R m sb)
    (ha : w.ownsRow B 4 1 lv R (l.map Value.bool)) (hgB : ∀ k, lv.ownBlock = some k → ¬ k ∈ gs) :
    callD Tryd.prog 35 #[.pointer (some ⟨ub, 0, none⟩), lv] w fun _ w' => (∃ m', Ru w0 w' ub g0 sg ov gs R m' sb ∧ ∀ a b, a < R → b < R → (m' a b = true ↔ m a b = true ∨ (a ≠ b ∧ l[a]? = some true ∧ l[b]? = some true))) ∧ Fr (fun i => i ∈ gs) w w' := by
  apply F35_wp
  unfold F35_den
  refine lnx xa_57 (SliceIs.of_own ha) ?_
  refine ⟨fun v w' => ∃ (i : Nat) (m1 : Mx), v = i64 i ∧ i ≤ R ∧ Ru w0 w' ub g0 sg ov gs R m1 sb ∧ Fr (fun i => i ∈ gs) w w' ∧ ∀ a b, a < R → b < R → (m1 a b = true ↔ m a b = true ∨ (a < i ∧ a ≠ b ∧ l[a]? = some true ∧ l[b]? = some true)), fun v _ => R - (RowKit.intOf v).toNat,
    ⟨0, m, rfl, Nat.zero_le _, hu, Fr.refl _ _, fun a b _ _ => by simp⟩, ?_⟩
  rintro _ w1 ⟨i, m1, rfl, hi, hu1, hk1, hm1⟩ _
  refine V_lss.2 (ifD_dec (fun hlt => ?_) fun hge => ?_)
  · have hi' : i < R := by omega
    have ha1 := hk1.own ha hgB
    obtain ⟨p, hp⟩ := ex_get (l := l) (j := i) (by omega)
    obtain ⟨g, hg⟩ := ex_get (l := gs) (j := i) (by omega)
    refine ldO' xa_57 l1_4 ha1 (by omega) (by omega) (getB hp) ?_
    refine lnx xa_57 (SliceIs.of_own ha1) ?_
    refine ⟨fun v w' => ∃ (j : Nat) (m2 : Mx), v = i64 j ∧ j ≤ R ∧ Ru w0 w' ub g0 sg ov gs R m2 sb ∧ Fr (fun i => i ∈ gs) w w' ∧ ∀ a b, a < R → b < R → (m2 a b = true ↔ m1 a b = true ∨ (a = i ∧ b < j ∧ a ≠ b ∧ l[a]? = some true ∧ l[b]? = some true)), fun v _ => R - (RowKit.intOf v).toNat,
      ⟨0, m1, rfl, Nat.zero_le _, hu1, hk1, fun a b _ _ => by simp⟩, ?_⟩
    rintro _ w2 ⟨j, m2, rfl, hj, hu2, hk2, hm2⟩ _
    refine V_lss.2 (ifD_dec (fun hjl => ?_) fun hjg => ?_)
    · have hj' : j < R := by omega
      have ha2 := hk2.own ha hgB
      obtain ⟨q, hq⟩ := ex_get (l := l) (j := j) (by omega)
      refine ldO' xa_57 l1_4 ha2 (by omega) (by omega) (getB hq) ?_
      have stay : ¬ (i ≠ j ∧ l[i]? = some true ∧ l[j]? = some true) → V Tryd.prog (binOp .add 3 (i64 j) (Value.int IntKind.i64 1)) w2 fun t40 w24 => (∃ (j : Nat) (m2 : Mx), t40 = i64 j ∧ j ≤ R ∧ Ru w0 w24 ub g0 sg ov gs R m2 sb ∧ Fr (fun i => i ∈ gs) w w24 ∧ ∀ a b, a < R → b < R → (m2 a b = true ↔ m1 a b = true ∨ (a = i ∧ b < j ∧ a ≠ b ∧ l[a]? = some true ∧ l[b]? = some true))) ∧ R - (RowKit.intOf t40).toNat < R - (RowKit.intOf (i64 (j : Int))).toNat := by
        intro hn
        refine V_add.2 ?_
        rw [wrap_id (by omega) (by omega), i64_succ]
        refine ⟨⟨j + 1, m2, rfl, by omega, hu2, hk2, fun a b h1 h2 => ?_⟩, by simp only [intOf_i64]; omega⟩
        rw [hm2 a b h1 h2]
        constructor
        · rintro (h | ⟨h3, h4, h5⟩)
          · exact .inl h
          · exact .inr ⟨h3, by omega, h5⟩
        · rintro (h | ⟨h3, h4, h5⟩)
          · exact .inl h
          · by_cases hbj : b = j
            · subst h3 hbj; exact absurd h5 hn
            · exact .inr ⟨h3, by omega, h5⟩
      cases p with
      | false =>
        simp only [gd_ft, pickD_iff, Bool.false_eq_true, reduceIte, ifD_false]
        exact stay fun h => by rw [hp] at h; cases h.2.1
      | true =>
        simp only [gd_t, pickD_iff, reduceIte]
        cases q with
        | false =>
          simp only [gd_ft, Bool.false_eq_true, reduceIte, ifD_false]
          exact stay fun h => by rw [hq] at h; cases h.2.2
        | true =>
          simp only [gd_t, reduceIte]
          refine V_neqI.2 ?_
          try simp only [pickD_iff, reduceIte]
          refine ifD_dec (fun hne => ?_) fun heq => ?_
          · refine ⟨.inl ⟨_, rfl⟩, ?_⟩
            refine ldB hu2.u.boxed fa_59_0 l1_56 rfl ?_
            refine ldx xa_56 l1_57 (hu2.out.slice (n := R) (by simpa using hgl) (by unfold maxLen; omega)) (by omega) (by omega) (by simp [hg] : (gs.map (sl R))[((i : Nat) : Int).toNat]? = some (sl R g)) ?_
            refine stB xa_57 inf4 (hu2.rows i g hg) (by simp [rowL_len]) (by omega) (by omega) rfl ?_
            refine V_add.2 ?_
            rw [wrap_id (by omega) (by omega), i64_succ]
            have hij : i ≠ j := fun h => hne (by rw [h])
            refine ⟨⟨j + 1, updM m2 i j true, rfl, by omega, hu2.setRow hg j true, hk2.set (List.mem_of_getElem? hg), fun a b h1 h2 => ?_⟩, by simp only [intOf_i64]; omega⟩
            have hm := hm2 a b h1 h2
            by_cases hab : a = i ∧ b = j
            · obtain ⟨rfl, rfl⟩ := hab
              simp [updM, hp, hq, hij]
            · have : updM m2 i j true a b = m2 a b := by unfold updM; rw [if_neg hab]
              rw [this, hm]
              constructor
              · rintro (h | ⟨h3, h4, h5⟩)
                · exact .inl h
                · exact .inr ⟨h3, by omega, h5⟩
              · rintro (h | ⟨h3, h4, h5⟩)
                · exact .inl h
                · exact .inr ⟨h3, by have : b ≠ j := fun h => hab ⟨h3, h⟩; omega, h5⟩
          · exact stay fun h => h.1 (by have : (i : Int) = j := by simpa using heq
                                        omega)
    · have hjR : j = R := by omega
      subst hjR
      refine V_add.2 ?_
      rw [wrap_id (by omega) (by omega), i64_succ]
      refine ⟨⟨i + 1, m2, rfl, by omega, hu2, hk2, fun a b h1 h2 => ?_⟩, by simp only [intOf_i64]; omega⟩
      rw [hm2 a b h1 h2, hm1 a b h1 h2]
      constructor
      · rintro ((h | ⟨h3, h4⟩) | ⟨h3, _, h5⟩)
        · exact .inl h
        · exact .inr ⟨by omega, h4⟩
        · exact .inr ⟨by omega, h5⟩
      · rintro (h | ⟨h3, h4⟩)
        · exact .inl (.inl h)
        · by_cases hai : a = i
          · exact .inr ⟨hai, h2, h4⟩
          · exact .inl (.inr ⟨by omega, h4⟩)
  · have hiR : i = R := by omega
    subst hiR
    refine ⟨⟨m1, hu1, fun a b h1 h2 => ?_⟩, hk1⟩
    rw [hm1 a b h1 h2]
    simp [h1]
end Go.Proofs.YtjcmcfidblhnnaaDoor
namespace Go.Proofs.YtjcmcfidblhnnaaDoor
open Go.Vc
def Valid (x slots : Int) : Prop := x = 5 ∨ x = 6 ∨ (16 ≤ x ∧ x < 16 + slots)
def SetK (p : GProg) (k r : Nat) : Prop := Alive p k r ∨ (r : Int) = (p.at' k).df
def SetS (p : GProg) (r : Nat) : Prop := AheadP p (Alive p) 0 r ∨ (r : Int) < p.params
def ApartS (S : Nat → Prop) (R : Nat) (of : List Int) : Prop := ∀ (r s : Nat), s < r → r < R → S r → S s → of[r]? ≠ of[s]?
structure Good (p : GProg) (R : Nat) (of : List Int) (slots : Int) : Prop where
  len : of.length = R
  s0 : 0 ≤ slots
  s1 : slots ≤ 40
  val : ∀ (r : Nat) (x : Int), of[r]? = some x → Valid x slots
  sets : ∀ k, k < p.nodes.length → ApartS (SetK p k) R of
  slot : ∀ k, k < p.nodes.length → (p.at' k).leavesB = false → ∀ (r : Nat) (x : Int), Alive p k r → (r : Int) ≠ (p.at' k).df → of[r]? = some x → 16 ≤ x
  start : ApartS (SetS p) R of
theorem withL_set {p : GProg} {R k : Nat} {m : Mx} (hm : ∀ r, r < R → (m k r = true ↔ Alive p k r)) (_ : (p.at' k).df < R) : ∀ r, r < R → ((withL (rowL m k R) (p.at' k).df)[r]? = some true ↔ SetK p k r) := by
  intro r hr
  unfold withL SetK
  split
  · rename_i h0
    by_cases he : (p.at' k).df.toNat = r
    · rw [he, List.getElem?_set_self (by rw [rowL_len]; exact hr)]
      simp
      right; omega
    · rw [List.getElem?_set_ne he, rowL_get hr]
      simp only [Option.some.injEq]
      rw [hm r hr]
      constructor
      · exact .inl
      · rintro (h | h)
        · exact h
        · omega
  · rename_i h0
    rw [rowL_get hr]
    simp only [Option.some.injEq]
    rw [hm r hr]
    constructor
    · exact .inl
    · rintro (h | h)
      · exact h
      · omega
end Go.Proofs.YtjcmcfidblhnnaaDoor
namespace Go.Proofs.YtjcmcfidblhnnaaDoor
open Go.Vc
def addO (o : List Int) (r : Int) : List Int := if 0 ≤ r ∧ r ∉ o then o ++ [r] else o
def addAll (o l : List Int) : List Int := l.foldl addO o
theorem addAll_snoc (o l : List Int) (r : Int) : addAll o (l ++ [r]) = addO (addAll o l) r := by simp [addAll]
theorem addO_len (o : List Int) (r : Int) : (addO o r).length ≤ o.length + 1 := by unfold addO; split <;> simp
theorem addAll_len (o l : List Int) : (addAll o l).length ≤ o.length + l.length := by
  induction l generalizing o with
  | nil => simp [addAll]
  | cons a l ih =>
    have := ih (addO o a)
    have h1 := addO_len o a
    simp only [addAll, List.foldl_cons, List.length_cons] at this ⊢
    omega
def seenL (R : Nat) (o : List Int) : List Bool := (List.range R).map fun r => decide (((r : Nat) : Int) ∈ o)
theorem seenL_len (R : Nat) (o : List Int) : (seenL R o).length = R := by simp [seenL]
theorem seenL_get {R r : Nat} {o : List Int} (h : r < R) : (seenL R o)[r]? = some (decide ((r : Int) ∈ o)) := by simp [seenL, h]
theorem seenL_add {R r : Nat} {o : List Int} (h : r < R) (hn : (r : Int) ∉ o) : (seenL R o).set r true = seenL R (addO o r) := by
  apply List.ext_getElem?
  intro j
  by_cases hj : j < R
  · rw [seenL_get hj]
    by_cases hr : r = j
    · subst hr
      rw [List.getElem?_set_self (by rw [seenL_len]; exact h)]
      simp [addO, hn]
    · rw [List.getElem?_set_ne hr, seenL_get hj]
      have : ((j : Int) ∈ addO o r) ↔ (j : Int) ∈ o := by
        unfold addO
        rw [if_pos ⟨by omega, hn⟩]
        simp
        omega
      simp only [this]
  · rw [List.getElem?_eq_none (by simp [seenL_len]; omega), List.getElem?_eq_none (by rw [seenL_len]; omega)]
theorem seenL_nil (R : Nat) : (seenL R []).map Value.bool = List.replicate R (.bool false) := by
  apply List.ext_getElem?
  intro j
  by_cases hj : j < R
  · simp [seenL, hj]
  · rw [List.getElem?_eq_none (by simp [seenL_len]; omega), List.getElem?_eq_none (by simp; omega)]
structure RC where
  ub : Nat
  g0 : Nat
  sg : Nat
  sx : Nat
  sn : Nat
  R : Nat
  L : Nat
  B : Nat
  gs : List Nat
def Mu (c : RC) (ov : Value) (i : Nat) : Prop := i = c.ub ∨ i = c.g0 ∨ i = c.sg ∨ i = c.sx ∨ i = c.sn ∨ i ∈ c.gs ∨ ov.ownBlock = some i
structure Rx (w0 w : World) (c : RC) (ov : Value) (m : Mx) (sb : List Bool) (ord : List Int) : Prop where
  ru : Ru w0 w c.ub c.g0 c.sg ov c.gs c.R m sb
  box : Blk w c.sx [sl c.R c.sn] 57
  seen : Blk w c.sn ((seenL c.R ord).map Value.bool) 4
  ov : w.ownsRow c.B 3 1 ov ord.length (ord.map i64)
  lim : c.ub < c.L ∧ c.g0 < c.L ∧ c.sg < c.L ∧ ∀ g ∈ c.gs, g < c.L
  ord' : w0.heap.size ≤ c.L ∧ c.L ≤ c.sn ∧ c.sn < c.sx ∧ c.sx < c.B ∧ c.B ≤ w.heap.size
structure Mv (c : RC) (ov : Value) (w : World) (ov' : Value) (w' : World) : Prop where
  fr : Fr (Mu c ov) w w'
  own : ∀ k, ov'.ownBlock = some k → ov.ownBlock = some k ∨ w.heap.size ≤ k
theorem Mv.refl (c : RC) (ov : Value) (w : World) : Mv c ov w ov w := ⟨Fr.refl _ _, fun _ h => .inl h⟩
theorem Mv.trans {c : RC} {a b d : Value} {w1 w2 w3 : World} (h : Mv c a w1 b w2) (k : Mv c b w2 d w3) : Mv c a w1 d w3 := by
  refine ⟨h.fr.trans k.fr fun i hi hm => ?_, fun i hi => ?_⟩
  · unfold Mu at hm ⊢
    rcases hm with h1 | h1 | h1 | h1 | h1 | h1 | h1
    all_goals try (simp only [h1, true_or, or_true]; done)
    rcases h.own i h1 with h2 | h2
    · simp only [h2, or_true]
    · omega
  · rcases k.own i hi with h1 | h1
    · exact h.own i h1
    · exact .inr (Nat.le_trans h.fr.size h1)
theorem Mv.of_ext {c : RC} {ov : Value} {w w' : World} (h : Ext w w') : Mv c ov w ov w' := ⟨Fr.of_ext h, fun _ h => .inl h⟩
theorem Mv.far {c : RC} {a b : Value} {w w' : World} (h : Mv c a w b w') {i : Nat} (hi : i < w.heap.size) (hn : ¬ Mu c a i) : ¬ Mu c b i := by
  intro hm
  refine hn ?_
  unfold Mu at hm ⊢
  rcases hm with h1 | h1 | h1 | h1 | h1 | h1 | h1
  all_goals try (simp only [h1, true_or, or_true]; done)
  rcases h.own i h1 with h2 | h2
  · simp only [h2, or_true]
  · omega
theorem Rx.lo {w0 w : World} {c : RC} {ov : Value} {m : Mx} {sb : List Bool} {ord : List Int} (h : Rx w0 w c ov m sb ord) : ∀ i, Mu c ov i → w0.heap.size ≤ i := by
  have h1 := h.ord'
  have h2 := h.ru.lo
  intro i hm
  unfold Mu at hm
  rcases hm with rfl | rfl | rfl | rfl | rfl | hm | hm
  · exact h2.1
  · exact h2.2.1
  · exact h2.2.2.1
  · omega
  · omega
  · exact h2.2.2.2 i hm
  · have := (h.ov.lt i hm).1
    omega
theorem Rx.hi {w0 w : World} {c : RC} {ov : Value} {m : Mx} {sb : List Bool} {ord : List Int} (h : Rx w0 w c ov m sb ord) : ∀ i, Mu c ov i → i < w.heap.size := by
  have h1 := h.ord'
  have h2 := h.lim
  intro i hm
  unfold Mu at hm
  rcases hm with rfl | rfl | rfl | rfl | rfl | hm | hm
  · omega
  · omega
  · omega
  · omega
  · omega
  · have := h2.2.2.2 i hm; omega
  · exact (h.ov.lt i hm).2
theorem Rx.fr {w0 w w' : World} {c : RC} {ov : Value} {m : Mx} {sb : List Bool} {ord : List Int} (h : Rx w0 w c ov m sb ord) {S : Nat → Prop} (hf : Fr S w w') (hS : ∀ i, Mu c ov i → ¬ S i) (hx : Ext w0 w') : Rx w0 w' c ov m sb ord := by
  have m1 : ∀ {i}, Mu c ov i → ¬ S i := fun h => hS _ h
  refine ⟨⟨hx, hf.blk h.ru.u (m1 (.inl rfl)), hf.blk h.ru.out (m1 (.inr (.inl rfl))), hf.blk h.ru.slot (m1 (.inr (.inr (.inl rfl)))), fun k g hk => hf.blk (h.ru.rows k g hk) (m1 (.inr (.inr (.inr (.inr (.inr (.inl (List.mem_of_getElem? hk)))))))), h.ru.lo, h.ru.ne, h.ru.nd⟩,
    hf.blk h.box (m1 (.inr (.inr (.inr (.inl rfl))))), hf.blk h.seen (m1 (.inr (.inr (.inr (.inr (.inl rfl)))))), hf.own h.ov fun k hk => m1 (.inr (.inr (.inr (.inr (.inr (.inr hk)))))), h.lim, ?_⟩
  have := h.ord'
  have := hf.size
  omega
theorem Rx.ext {w0 w w' : World} {c : RC} {ov : Value} {m : Mx} {sb : List Bool} {ord : List Int} (h : Rx w0 w c ov m sb ord) (hx : Ext w w') : Rx w0 w' c ov m sb ord :=
  h.fr (S := fun _ => False) (Fr.of_ext hx) (fun _ _ h => h) (h.ru.x.trans hx)
set_option maxHeartbeats 1600000 in
theorem add_ok {w0 w : World} {c : RC} {ov : Value} {m : Mx} {sb : List Bool} {ord : List Int} {r : Int} (h : Rx w0 w c ov m sb ord) (hr : r < c.R) (hR : c.R ≤ 40) (hl : ord.length ≤ 1000) :
    dynD Tryd.prog (.func (.func 34) #[] #[.pointer (some ⟨c.sx, 0, none⟩), .pointer (some ⟨c.ub, 0, none⟩)]) #[i64 r] w fun _ w' => ∃ ov', Rx w0 w' c ov' m sb (addO ord r) ∧ Mv c ov w ov' w' := by
  refine ⟨_, _, rfl, ?_⟩
  refine F34_wp (t0 := i64 r) (t1 := .pointer (some ⟨c.sx, 0, none⟩)) (t2 := .pointer (some ⟨c.ub, 0, none⟩)) ?_
  unfold F34_den
  have stay : addO ord r = ord → ∃ ov', Rx w0 w c ov' m sb (addO ord r) ∧ Mv c ov w ov' w := fun he => ⟨ov, by rw [he]; exact h, Mv.refl _ _ _⟩
  have hs0 := h.seen.slice (n := c.R) (by simp [seenL_len]) (by unfold maxLen; omega)
  refine V_geq.2 ?_
  by_cases h0 : r ≥ 0
  · simp only [h0, gd_t, pickD_iff, reduceIte, decide_true]
    obtain ⟨k, rfl⟩ : ∃ k : Nat, r = k := ⟨r.toNat, by omega⟩
    have hk : k < c.R := by omega
    refine ldV l1_57 h.box ?_
    refine ldx xa_57 l1_4 hs0 (by omega) (by omega) (getB (seenL_get hk)) ?_
    by_cases hin : (k : Int) ∈ ord
    · simp only [hin, V_not, ifD_false, Bool.not_true, decide_true]
      exact stay (by simp [addO, hin])
    · simp only [hin, V_not, ifD_true, Bool.not_false, decide_false]
      refine ldV l1_57 h.box ?_
      refine stB xa_57 inf4 h.seen (by simp [seenL_len]) (by omega) (by omega) rfl ?_
      have hne := h.ru.ne
      have hlim := h.lim
      have hord := h.ord'
      have hlo := h.ru.lo
      have hsn : c.sn < w.heap.size := h.seen.lt
      have f1 : Fr (fun i => i = c.sn) w (w.setCell ⟨c.sn, (k : Int).toNat, none⟩ (.bool true)) := Fr.of_set rfl
      have hov1 := f1.own h.ov fun i hi => by have := (h.ov.lt i hi).1; omega
      refine ldB (f1.blk h.ru.u (by omega)).boxed fa_59_2 l1_27 rfl ?_
      refine bsl xe_27 [i64 (k : Int)] rfl rfl (by simp) rfl fun v2 w2 ho2 x2 => ?_
      have hov2 := x2.own hov1
      have hsz2 : w.heap.size ≤ w2.heap.size := by have := x2.size; have := f1.size; omega
      refine apL xe_27 hov2 ho2 (by simp) (by simp [oneC]) (by omega) (by unfold maxLen; omega) (by omega) fun g cap w3 ho3 hg3 hlies => ?_
      have f2 : Fr (fun i => i = c.sn) w w2 := f1.trans (Fr.of_ext (S := fun i => i = c.sn) x2) fun _ _ h => h
      have f3 : Fr (fun i => i = c.sn ∨ ov.ownBlock = some i) w w3 := f2.or (Fr.of_grown (S := fun i => ov.ownBlock = some i) hg3 fun k hk => hk)
      have far : ∀ i, i < c.B → ov.ownBlock ≠ some i := fun i hi he => by have := (h.ov.lt i he).1; omega
      have hu3 := f3.blk h.ru.u (fun h => h.elim (by omega) (far c.ub (by omega)))
      refine stF fa_59_2 inf27 hu3 rfl (by simp) rfl ?_
      have f4 : Fr (fun i => (i = c.sn ∨ ov.ownBlock = some i) ∨ i = c.ub) w (w3.setCell ⟨c.ub, 2, none⟩ (.slice (some ⟨g, 0, none⟩) (ord.length + 1) cap)) := f3.or (Fr.of_set rfl)
      have f34 : Fr (fun i => i = c.ub) w3 (w3.setCell ⟨c.ub, 2, none⟩ (.slice (some ⟨g, 0, none⟩) (ord.length + 1) cap)) := Fr.of_set rfl
      have f14 : Fr (fun i => ov.ownBlock = some i ∨ i = c.ub) (w.setCell ⟨c.sn, (k : Int).toNat, none⟩ (.bool true)) (w3.setCell ⟨c.ub, 2, none⟩ (.slice (some ⟨g, 0, none⟩) (ord.length + 1) cap)) :=
        ((Fr.of_ext (S := fun _ => False) x2).or (Fr.of_grown (S := fun i => ov.ownBlock = some i) hg3 fun k hk => hk)).or f34 |>.mono fun i hi => by
          rcases hi with (hi | hi) | hi
          · exact hi.elim
          · exact .inl hi
          · exact .inr hi
      have keep : ∀ {i}, i < c.B → i ≠ c.sn → i ≠ c.ub → ¬ ((i = c.sn ∨ ov.ownBlock = some i) ∨ i = c.ub) := fun {i} h1 h2 h3 h4 => by
        rcases h4 with (h4 | h4) | h4
        · exact h2 h4
        · exact far i h1 h4
        · exact h3 h4
      have hord' : addO ord (k : Int) = ord ++ [(k : Int)] := by simp [addO, hin]
      have hMu : Fr (Mu c ov) w (w3.setCell ⟨c.ub, 2, none⟩ (.slice (some ⟨g, 0, none⟩) (ord.length + 1) cap)) := f4.mono fun i hi => by
        unfold Mu
        rcases hi with (hi | hi) | hi <;> simp only [hi, true_or, or_true]
      refine ⟨.slice (some ⟨g, 0, none⟩) (ord.length + 1) cap, ⟨⟨hMu.ext h.ru.x h.lo, ?_, f4.blk h.ru.out (keep (by omega) (by omega) (by omega)), f4.blk h.ru.slot (keep (by omega) (by omega) (by omega)), fun q g' hq => f4.blk (h.ru.rows q g' hq) (by have := hlim.2.2.2 g' (List.mem_of_getElem? hq); have := hne.2.2.2 g' (List.mem_of_getElem? hq); exact keep (by omega) (by omega) (by omega)), h.ru.lo, h.ru.ne, h.ru.nd⟩,
        f4.blk h.box (keep (by omega) (by omega) (by omega)), ?_, ?_, hlim, by have := f4.size; omega⟩, hMu, fun i hi => ?_⟩
      · exact hu3.set 2 _
      · rw [← seenL_add hk hin, ← map_set_b]
        have := f14.blk (h.seen.set k (.bool true)) (fun h => h.elim (far c.sn (by omega)) (by omega))
        simpa using this
      · rw [hord']
        have := f34.own ho3 fun i hi hu => by have := (ho3.lt i hi).1; omega
        simpa using this
      · have : g = i := by simpa [Value.ownBlock] using hi
        subst this
        rcases hlies with h1 | h1
        · exact .inl h1
        · exact .inr (by omega)
  · simp only [h0, gd_ft, pickD_iff, ifD_false, reduceIte, Bool.false_eq_true, decide_false]
    exact stay (by simp [addO]; omega)
end Go.Proofs.YtjcmcfidblhnnaaDoor
namespace Go.Proofs.YtjcmcfidblhnnaaDoor
open Go.Vc
theorem Rx.setSlot {w0 w : World} {c : RC} {ov : Value} {m : Mx} {sb : List Bool} {ord : List Int} (h : Rx w0 w c ov m sb ord) (r : Nat) (v : Bool) : Rx w0 (w.setCell ⟨c.sg, r, none⟩ (.bool v)) c ov m (sb.set r v) ord := by
  have f : Fr (fun i => i = c.sg) w (w.setCell ⟨c.sg, r, none⟩ (.bool v)) := Fr.of_set rfl
  have h1 := h.ord'; have h2 := h.lim
  refine ⟨h.ru.setSlot r v, f.blk h.box (by omega), f.blk h.seen (by omega), f.own h.ov fun k hk he => ?_, h.lim, by have := f.size; omega⟩
  have := (h.ov.lt k hk).1
  omega
theorem Mv.set {c : RC} {ov ov' : Value} {w w' : World} (h : Mv c ov w ov' w') (r : Nat) (v : Value) : Mv c ov w ov' (w'.setCell ⟨c.sg, r, none⟩ v) := ⟨h.fr.set (.inr (.inr (.inl rfl))), h.own⟩
def upTo (n : Nat) : List Int := (List.range n).map fun r => ((r : Nat) : Int)
theorem upTo_succ (n : Nat) : upTo (n + 1) = upTo n ++ [((n : Nat) : Int)] := by simp [upTo, List.range_succ]
theorem upTo_len (n : Nat) : (upTo n).length = n := by simp [upTo]
set_option maxHeartbeats 1600000 in
theorem AheadO_ok {p : GProg} {R : Nat} {pv : Value} {w : World} (hp : ProgIs w pv p) (hv : OkProg p) (hR : p.regs = R) :
    callD Tryd.prog 33 #[pv] w fun r w' => (∃ l : List Bool, l.length = R ∧ w'.ownsRow w.heap.size 4 1 r R (l.map .bool) ∧ ∀ r < R, (l[r]? = some true ↔ AheadP p (Alive p) 0 r)) ∧ Ext w w' := by
  have hp0 := hp
  obtain ⟨ns, rfl, hns, hargs⟩ := hp
  have hns0 := hns
  obtain ⟨vs, hs, hvs⟩ := hns
  have hl1 := hv.l1; have hl2 := hv.l2; have hr1 := hv.r1; have hr2 := hv.r2
  obtain ⟨hpt, hrt⟩ := hv.at (k := 0) (by omega)
  obtain ⟨u, hu, hnu⟩ := hvs 0 _ hpt
  apply F33_wp
  unfold F33_den
  refine bx fun b w1 hb x1 => ?_
  refine ldA hb la_25 rfl ?_
  refine (check_ok (p := p) (hp0.ext x1) hv).mono fun r w2 ⟨hr, x2⟩ => ?_
  subst hr
  refine V_not.2 (ifD_false.2 ?_)
  have hb2 := hb.ext x2
  have X2 := x1.trans x2
  refine drawD.mk' (fun w' => Ext w2 w') (Ext.refl _).drew ?_
  refine yfB (fun w' hw => hb2.ext hw) fa_25_2 l1_23 rfl ?_
  refine ySl xa_23 l1_43 (hs.ext X2) (fun _ h => h) (by omega) (by omega) (by simpa using hu) ?_
  refine yA (fun w' hw => hb2.ext hw) la_25 rfl ?_
  refine (behind_ok (hp0.ext (X2.trans (Ext.refl _).drew)) hv hR).mono fun mv w3 ⟨⟨m, hm, ham⟩, x3⟩ => ?_
  have x3' : Ext w2 w3 := Ext.trans (Ext.refl _).drew x3
  refine ⟨x3', fun w' => Ext w3 w', fun w' h => x3'.trans h, Ext.refl _, ?_⟩
  obtain ⟨cs, hcs, hrow⟩ := hm.row hl2 (by omega)
  obtain ⟨rv, hrv, hrb⟩ := hrow 0 (by omega)
  refine ySl xa_56 l1_57 hcs (fun _ h => h) (by omega) (by omega) (by simpa using hrv) ?_
  have hdf : (p.at' 0).df < R := by rcases hrt.d with h | h <;> omega
  have hus : ∀ r ∈ (p.at' 0).us, 0 ≤ r ∧ r < ((rowL m 0 R).length : Int) := fun r hr => by have := hrt.u r hr; rw [rowL_len]; omega
  refine (ahead_ok (hnu.ext (X2.trans x3')) hrb (hargs _ (List.mem_of_getElem? hpt)) (by rw [rowL_len]; omega) (by rw [rowL_len]; exact hdf) hus).mono fun av w4 ⟨hav, x4⟩ => ?_
  refine ⟨x4, fun w' => Ext w3 w', fun _ h => h, x4, ⟨⟨_, ?_, (own_mono (by rw [rowL_len] at hav; exact hav) (X2.trans x3').size), fun r hr => ?_⟩, (X2.trans x3').trans x4⟩⟩
  · rw [aheadL_len, rowL_len]
  · rw [aheadL_get (by rw [rowL_len]; exact hr) (fun x hx => (hus x hx).1)]
    rw [List.getD_eq_getElem?_getD, rowL_get hr]
    simp only [Option.getD_some, Option.some.injEq, Bool.or_eq_true, Bool.and_eq_true, decide_eq_true_eq]
    unfold AheadP
    rw [ham 0 r (by omega) hr]
theorem allX_ok {w0 w : World} {c : RC} {ov lv : Value} {m : Mx} {sb l : List Bool} {ord : List Int} {B : Nat} (h : Rx w0 w c ov m sb ord) (hR : c.R ≤ 40) (hgl : c.gs.length = c.R) (hl : l.length = c.R)
    (ha : w.ownsRow B 4 1 lv c.R (l.map Value.bool)) (hn : ∀ k, lv.ownBlock = some k → ¬ Mu c ov k) :
    callD Tryd.prog 35 #[.pointer (some ⟨c.ub, 0, none⟩), lv] w fun _ w' => (∃ m', Rx w0 w' c ov m' sb ord ∧ ∀ a b, a < c.R → b < c.R → (m' a b = true ↔ m a b = true ∨ (a ≠ b ∧ l[a]? = some true ∧ l[b]? = some true))) ∧ Fr (fun i => i ∈ c.gs) w w' := by
  refine (all_ok hR hgl hl h.ru ha fun k hk hg => hn k hk (.inr (.inr (.inr (.inr (.inr (.inl hg))))))).mono fun r w' ⟨⟨m', hru, hm⟩, hf⟩ => ⟨⟨m', ⟨hru, hf.blk h.box ?_, hf.blk h.seen ?_, hf.own h.ov fun k hk hg => ?_, h.lim, ?_⟩, hm⟩, hf⟩
  · intro hg; have := h.lim.2.2.2 _ hg; have := h.ord'; omega
  · intro hg; have := h.lim.2.2.2 _ hg; have := h.ord'; omega
  · have := h.lim.2.2.2 _ hg; have := h.ord'; have := (h.ov.lt k hk).1; omega
  · have := h.ord'; have := hf.size; omega
def Laid (w2 : World) (R : Nat) (t3 : Value) (w : World) : Prop := ∃ ub g0 sg, t3 = .pointer (some ⟨ub, 0, none⟩) ∧ Ext w2 w ∧ Blk w ub [sl R g0, sl R sg, .slice none 0 0] 59 ∧ Blk w g0 (List.replicate R (.slice none 0 0)) 57 ∧ Blk w sg (List.replicate R (.bool false)) 4 ∧
  w2.heap.size ≤ ub ∧ w2.heap.size ≤ g0 ∧ w2.heap.size ≤ sg ∧ ub ≠ g0 ∧ ub ≠ sg ∧ g0 ≠ sg
theorem laidEnd {w2 w : World} {R ub g0 sg : Nat} (hx : Ext w2 w) (hu : Blk w ub [.slice none 0 0, .slice none 0 0, .slice none 0 0] 59) (hm : Blk w g0 (List.replicate R (.slice none 0 0)) 57) (hs : Blk w sg (List.replicate R (.bool false)) 4)
    (h1 : w2.heap.size ≤ ub) (h2 : w2.heap.size ≤ g0) (h3 : w2.heap.size ≤ sg) (h4 : ub ≠ g0) (h5 : ub ≠ sg) (h6 : g0 ≠ sg) :
    U Tryd.prog (Instr.storeAt 59 (.pointer (some ⟨ub, 0, none⟩)) (.agg #[sl R g0, sl R sg, .slice none 0 0])) w fun _ w' => Laid w2 R (.pointer (some ⟨ub, 0, none⟩)) w' :=
  stA inf59 hu (l := [sl R g0, sl R sg, .slice none 0 0]) rfl rfl rfl rfl fun _ hu' hc => ⟨ub, g0, sg, rfl, hc.ext w2 hx h1, hu', hc.other (Ne.symm h4) hm, hc.other (Ne.symm h5) hs, h1, h2, h3, h4, h5, h6⟩
end Go.Proofs.YtjcmcfidblhnnaaDoor
namespace Go.Proofs.YtjcmcfidblhnnaaDoor
open Go.Vc
def Meets (p : GProg) (a b : Nat) : Prop := a ≠ b ∧ ((SetS p a ∧ SetS p b) ∨ ∃ k, k < p.nodes.length ∧ SetK p k a ∧ SetK p k b)
def Slotted (p : GProg) (r : Nat) : Prop := ∃ k, k < p.nodes.length ∧ (p.at' k).leavesB = false ∧ Alive p k r ∧ (r : Int) ≠ (p.at' k).df
def ordL (p : GProg) (R : Nat) : List Int := upTo p.params.toNat ++ p.nodes.map GNode.df ++ upTo R
def RulesV (p : GProg) (R : Nat) (r : Value) (w : World) : Prop := ∃ g0 sg ov m sb, r = .agg #[sl R g0, sl R sg, ov] ∧ MatIs w (sl R g0) R R m ∧ BoolsAre w (sl R sg) sb ∧ sb.length = R ∧ IntsAre w ov (addAll [] (ordL p R)) ∧
  (∀ a b, a < R → b < R → (m a b = true ↔ Meets p a b)) ∧ ∀ r, r < R → (sb[r]? = some true ↔ Slotted p r)
set_option maxHeartbeats 4000000 in
theorem rulesOf_ok {p : GProg} {R : Nat} {pv : Value} {w : World} (hp : ProgIs w pv p) (hv : OkProg p) (hR : p.regs = R) :
    callD Tryd.prog 15 #[pv] w fun r w' => RulesV p R r w' ∧ Ext w w' := by
  have hp0 := hp
  obtain ⟨ns, rfl, hns, hargs⟩ := hp
  obtain ⟨vs, hs, hvs⟩ := hns
  have hl1 := hv.l1; have hl2 := hv.l2; have hr1 := hv.r1; have hr2 := hv.r2; have hp1 := hv.p1; have hp2 := hv.p2; have hp3 := hv.p3
  apply F15_wp
  unfold F15_den
  refine bx fun b w1 hb x1 => ?_
  refine alK inf59 fun w2 hz x2 => ?_
  have hb2 := hb.ext x2
  have X12 := x1.trans x2
  refine ⟨Laid w2 R, ?_, ?_⟩
  rotate_left
  · rintro _ w25 ⟨ub, g0, sg, rfl, x25, hu25, hg25, hs25, l1, l2, l3, n1, n2, n3⟩ _
    refine ldB (hb2.ext x25) fa_25_1 l1_3 rfl ?_
    rw [hR]
    have hu25' := hu25.lt; have hg25' := hg25.lt; have hs25' := hs25.lt
    refine ⟨fun v w' => ∃ gs : List Nat, v = i64 gs.length ∧ gs.length ≤ R ∧ Ext w2 w' ∧ Blk w' ub [sl R g0, sl R sg, .slice none 0 0] 59 ∧ Blk w' sg (List.replicate R (.bool false)) 4 ∧ (∀ g ∈ gs, w2.heap.size ≤ g ∧ g < w'.heap.size ∧ g ≠ ub ∧ g ≠ g0 ∧ g ≠ sg) ∧ gs.Nodup ∧
        Blk w' g0 (gs.map (sl R) ++ List.replicate (R - gs.length) (.slice none 0 0)) 57 ∧ ∀ g ∈ gs, Blk w' g (List.replicate R (.bool false)) 4,
      fun v _ => R - (RowKit.intOf v).toNat, ⟨[], rfl, Nat.zero_le _, x25, hu25, hs25, by simp, List.nodup_nil, by simpa using hg25, by simp⟩, ?_⟩
    rintro _ w4 ⟨gs, rfl, hle, x4, hu4, hs4, hgg, hnd, ho4, hrows4⟩ _
    have hu4' := hu4.lt; have hs4' := hs4.lt; have ho4' := ho4.lt
    refine V_lss.2 (ifD_dec (fun hlt => ?_) fun hge => ?_)
    · have D4 : Ext w4 w4.drew := (Ext.refl _).drew
      refine drawD.mk' (fun w' => Ext w4 w') D4 ?_
      refine yfB (fun w' hw => (hu4.ext hw).boxed) fa_59_0 l1_56 rfl ?_
      refine yfB (fun w' hw => hb2.ext (x4.trans hw)) fa_25_1 l1_3 rfl ?_
      refine mkBv hR Tryd.underlying57 inf4 rfl (n := R) (by omega) (by omega) fun w5 hrow x5 hsz5 => ?_
      have x45 := D4.trans x5
      have hz4 : w4.drew.heap.size = w4.heap.size := rfl
      rw [hz4] at hrow hsz5
      refine ⟨x45, ?_⟩
      refine yieldS.ok (fun w' _ => r_ix_56 (by omega) (by omega)) ?_
      rw [Int.toNat_natCast]
      refine stBY inf57 (ho4.ext x45) (by simp; omega) rfl ?_
      refine V_add.2 ?_
      rw [wrap_id (by omega) (by omega), i64_succ]
      have hset := (ho4.ext x45).set gs.length (sl R w4.heap.size)
      rw [set_rows R _ gs R (by omega)] at hset
      have hx45 := x45.size
      refine ⟨⟨gs ++ [w4.heap.size], by simp, by simp; omega, (x4.trans x45).setCell l2 _, (hu4.ext x45).other n1, (hs4.ext x45).other (Ne.symm n3), ?_, ?_, hset, ?_⟩, by simp only [intOf_i64]; omega⟩
      · intro g hg
        simp only [World.size_setCell]
        rcases List.mem_append.1 hg with h | h
        · have := hgg g h; omega
        · have : g = w4.heap.size := by simpa using h
          have := x4.size
          omega
      · refine List.nodup_append.2 ⟨hnd, by simp, ?_⟩
        intro a ha c hc
        have : c = w4.heap.size := by simpa using hc
        have := hgg a ha
        omega
      · intro g hg
        rcases List.mem_append.1 hg with h | h
        · exact ((hrows4 g h).ext x45).other (by have := hgg g h; omega)
        · have he : g = w4.heap.size := by simpa using h
          subst he
          exact hrow.other (by omega)
    have hgl : gs.length = R := by omega
    rw [hgl, Nat.sub_self] at ho4
    simp only [List.replicate_zero, List.append_nil] at ho4
    refine ldA (hb2.ext x4) la_25 rfl ?_
    refine (AheadO_ok (hp0.ext (X12.trans x4)) hv hR).mono fun av w5 ⟨⟨l, hll, hlo, hla⟩, x5⟩ => ?_
    have x25' := x4.trans x5
    refine ldB (hb2.ext x25') fa_25_1 l1_3 rfl ?_
    refine mkBv hR Tryd.underlying57 inf4 rfl (n := R) (by omega) (by omega) fun w6 hsn x6 hsz6 => ?_
    refine asK sa_57 rfl rfl fun w7 hsx x7 => ?_
    refine fnK ?_
    have x57 := x6.trans x7
    have x27 := x25'.trans x57
    have hsx' := hsx.lt
    have hx7 := x7.size
    have hx5 := x5.size
    have hx4 := x4.size
    have hc : ∃ c : RC, c = ⟨ub, g0, sg, w6.heap.size, w5.heap.size, R, w4.heap.size, w7.heap.size, gs⟩ := ⟨_, rfl⟩
    obtain ⟨c, hc⟩ := hc
    have hRx : Rx w2 w7 c (.slice none 0 0) (fun _ _ => false) (List.replicate R false) [] := by
      subst hc
      refine ⟨⟨x27, (hu4.ext x5).ext x57, (ho4.ext x5).ext x57, by simpa using (hs4.ext x5).ext x57, fun k g hk => by rw [rowL_false]; exact ((hrows4 g (List.mem_of_getElem? hk)).ext x5).ext x57, ⟨l1, l2, l3, fun g hg => (hgg g hg).1⟩, ⟨n1, n2, n3, fun g hg => (hgg g hg).2.2⟩, hnd⟩,
        hsx, by rw [seenL_nil]; exact hsn.ext x7, ⟨rfl, .inl ⟨rfl, rfl⟩⟩, ⟨hu4', ho4', hs4', fun g hg => (hgg g hg).2.1⟩, ⟨hx4, hx5, by show w5.heap.size < w6.heap.size; omega, by show w6.heap.size < w7.heap.size; omega, Nat.le_refl _⟩⟩
    have hcub : c.ub = ub := by rw [hc]
    have hcsx : c.sx = w6.heap.size := by rw [hc]
    have hcg0 : c.g0 = g0 := by rw [hc]
    have hcsg : c.sg = sg := by rw [hc]
    have hcgs : c.gs = gs := by rw [hc]
    have hcR : c.R = R := by rw [hc]
    have hav : ∀ k, av.ownBlock = some k → ¬ Mu c (.slice none 0 0) k := by
      intro k hk hm
      have hlt := hlo.lt k hk
      have h1 := hRx.ord'
      have h2 := hRx.lim
      subst hc
      simp only at h1 h2
      unfold Mu at hm
      rcases hm with h | h | h | h | h | h | h
      · omega
      · omega
      · omega
      · simp only at h; omega
      · simp only at h; omega
      · have := h2.2.2.2 k h; omega
      · cases h
    have hlo7 := x57.own hlo
    rw [← hcub, ← hcsx]
    clear hu4 hs4 ho4 hrows4 hgg hu25 hg25 hs25 hsn hsx
    have hb7 : ∀ {w'}, Ext w2 w' → Boxed w' b _ := fun h => hb2.ext h
    refine ldB (hb7 x27) fa_25_0 l1_3 rfl ?_
    refine ⟨fun v w' => ∃ (r : Nat) (ov : Value) (l' : List Bool), v = i64 r ∧ (r : Int) ≤ p.params ∧ Rx w2 w' c ov (fun _ _ => false) (List.replicate R false) (addAll [] (upTo r)) ∧ l'.length = R ∧ w'.ownsRow w4.heap.size 4 1 av R (l'.map .bool) ∧
        (∀ s, s < R → (l'[s]? = some true ↔ (AheadP p (Alive p) 0 s ∨ s < r))) ∧ ∀ k, av.ownBlock = some k → ¬ Mu c ov k,
      fun v _ => p.params.toNat - (RowKit.intOf v).toNat, ⟨0, _, l, rfl, hp1, hRx, hll, hlo7, fun s hs => by rw [hla s hs]; simp, hav⟩, ?_⟩
    rintro _ w8 ⟨r, ov, l', rfl, hr, hRx8, hll', hlo8, hla', hav8⟩ _
    have hordlen := addAll_len [] (upTo r)
    rw [upTo_len] at hordlen
    refine V_lss.2 (ifD_dec (fun hlt => ?_) fun hge2 => ?_)
    · refine stO xa_57 inf4 hlo8 (by omega) (by omega) rfl fun w9 ho9 hg9 => ?_
      rw [map_set_b] at ho9
      have hx9 : Ext w2 w9 := hRx8.ru.x.grown hg9 fun k hk => by have := (hlo8.lt k hk).1; omega
      have hRx9 := hRx8.fr (S := fun i => av.ownBlock = some i) (Fr.of_grown hg9 fun k hk => hk) (fun i hi hk => hav8 i hk hi) hx9
      refine (add_ok hRx9 (r := (r : Int)) (by rw [hcR]; omega) (by rw [hcR]; omega) (by simp at hordlen; omega)).mono fun _ w10 ⟨ov', hRx10, hmv⟩ => ?_
      refine V_add.2 ?_
      rw [wrap_id (by omega) (by omega), i64_succ]
      refine ⟨⟨r + 1, ov', l'.set r true, rfl, by omega, by rw [upTo_succ, addAll_snoc]; exact hRx10, by simp [hll'], hmv.fr.own ho9 hav8, fun s hs => ?_, fun k hk => hmv.far (ho9.lt k hk).2 (hav8 k hk)⟩, by simp only [intOf_i64]; omega⟩
      by_cases hsr : r = s
      · subst hsr
        rw [List.getElem?_set_self (by omega)]
        simp
      · rw [List.getElem?_set_ne hsr, hla' s hs]
        constructor <;> (rintro (h | h) <;> first | exact .inl h | exact .inr (by omega))
    have hrp : (r : Int) = p.params := by omega
    have hset : ∀ s, s < R → (l'[s]? = some true ↔ SetS p s) := fun s hs => by
      rw [hla' s hs]
      unfold SetS
      constructor <;> (rintro (h | h) <;> first | exact .inl h | exact .inr (by omega))
    refine (allX_ok (l := l') hRx8 (by rw [hcR]; omega) (by rw [hcgs, hcR]; exact hgl) (by rw [hcR]; exact hll') (by rw [hcR]; exact hlo8) hav8).mono fun _ w9 ⟨⟨m1, hRx9, hm1⟩, _⟩ => ?_
    refine ldA (hb7 hRx9.ru.x) la_25 rfl ?_
    refine (behindO_ok (hp0.ext (X12.trans hRx9.ru.x)) hv hR).mono fun bv w10 ⟨⟨mB, hmB, hal⟩, x10⟩ => ?_
    have hhi := hRx9.hi
    have hRx10 := hRx9.ext x10
    rw [show r = p.params.toNat by omega] at hRx10
    obtain ⟨g0', gs', rfl, hgl', hout', hrows', hlo0', hlog'⟩ := hmB
    have keepB : ∀ {ov' w'}, Mv c ov w10 ov' w' → Blk w' g0' (gs'.map (sl R)) 57 ∧ ∀ (k g : Nat), gs'[k]? = some g → Blk w' g ((rowL mB k R).map Value.bool) 4 := fun {ov' w'} h =>
      ⟨h.fr.blk hout' fun hi => by have := hhi _ hi; omega, fun k g hk => h.fr.blk (hrows' k g hk) fun hi => by have := hhi _ hi; have := hlog' g (List.mem_of_getElem? hk); omega⟩
    refine lnx xa_56 (hout'.slice (n := p.nodes.length) (by simpa using hgl') (by unfold maxLen; omega)) ?_
    refine ⟨fun v w' => ∃ (k : Nat) (ov' : Value) (m' : Mx) (sb' : List Bool), v = i64 k ∧ k ≤ p.nodes.length ∧ Rx w2 w' c ov' m' sb' (addAll [] (upTo p.params.toNat ++ (p.nodes.take k).map GNode.df)) ∧ Mv c ov w10 ov' w' ∧ sb'.length = R ∧
        (∀ a b, a < R → b < R → (m' a b = true ↔ a ≠ b ∧ ((SetS p a ∧ SetS p b) ∨ ∃ q, q < k ∧ SetK p q a ∧ SetK p q b))) ∧
        (∀ s, s < R → (sb'[s]? = some true ↔ ∃ q, q < k ∧ (p.at' q).leavesB = false ∧ Alive p q s ∧ (s : Int) ≠ (p.at' q).df)),
      fun v _ => p.nodes.length - (RowKit.intOf v).toNat, ⟨0, ov, m1, _, rfl, Nat.zero_le _, by simpa using hRx10, Mv.refl _ _ _, by simp, fun a b ha hb => ?_, fun s hs => by rw [List.getElem?_replicate_of_lt hs]; simp⟩, ?_⟩
    · rw [hm1 a b (by omega) (by omega), hset a ha, hset b hb]
      simp
    rintro _ w11 ⟨k, ov1, m2, sb2, rfl, hk, hRx11, hmv11, hsbl, hm2, hsb2⟩ _
    refine V_lss.2 (ifD_dec (fun hlt => ?_) fun hge3 => ?_)
    · have hk' : k < p.nodes.length := by omega
      obtain ⟨hat, hrt⟩ := hv.at hk'
      obtain ⟨nv, hnv, hni⟩ := hvs k _ hat
      obtain ⟨g', hg'⟩ := ex_get (l := gs') (j := k) (by omega)
      have hdf : (p.at' k).df < R := by rcases hrt.d with h | h <;> omega
      refine ldx xa_56 l1_57 ((keepB hmv11).1.slice (n := p.nodes.length) (by simpa using hgl') (by unfold maxLen; omega)) (by omega) (by omega) (by simp [hg'] : (gs'.map (sl R))[((k : Nat) : Int).toNat]? = some (sl R g')) ?_
      have hX11 := hRx11.ru.x
      refine ldB (hb7 hX11) fa_25_2 l1_23 rfl ?_
      refine ldx xa_23 l1_43 (hs.ext (X12.trans hX11)) (by omega) (by omega) (by simpa using hnv) ?_
      refine (def_ok (hni.ext (X12.trans hX11))).mono fun dv w12 ⟨hd, x12⟩ => ?_
      subst hd
      have hRx12 := hRx11.ext x12
      have hol : (addAll [] (upTo p.params.toNat ++ (p.nodes.take k).map GNode.df)).length ≤ 1000 := by
        have := addAll_len [] (upTo p.params.toNat ++ (p.nodes.take k).map GNode.df)
        simp only [List.length_append, List.length_map, List.length_take, upTo_len, List.length_nil] at this
        omega
      refine (add_ok hRx12 (r := (p.at' k).df) (by rw [hcR]; exact hdf) (by rw [hcR]; omega) hol).mono fun _ w13 ⟨ov2, hRx13, hmv13⟩ => ?_
      have hmv13' := (hmv11.trans (Mv.of_ext x12)).trans hmv13
      have hordk : addO (addAll [] (upTo p.params.toNat ++ (p.nodes.take k).map GNode.df)) (p.at' k).df = addAll [] (upTo p.params.toNat ++ (p.nodes.take (k + 1)).map GNode.df) := by
        rw [← addAll_snoc, List.append_assoc, List.take_add_one, hat]
        simp
      rw [hordk] at hRx13
      have hrow13 := (keepB hmv13').2 k g' hg'
      have hrl13 : BoolsAre w13 (sl R g') (rowL mB k R) := by
        have := hrow13.slice (n := R) (by simp [rowL_len]) (by unfold maxLen; omega)
        unfold BoolsAre
        rw [rowL_len]; exact this
      refine (with_ok hrl13 (by rw [rowL_len]; omega) (by rw [rowL_len]; exact hdf)).mono fun wv w14 ⟨hwo, x14⟩ => ?_
      rw [rowL_len] at hwo
      have hRx14 := hRx13.ext x14
      have hhi13 := hRx13.hi
      have hwl : (withL (rowL mB k R) (p.at' k).df).length = R := by rw [withL_len, rowL_len]
      refine (allX_ok (l := withL (rowL mB k R) (p.at' k).df) hRx14 (by rw [hcR]; omega) (by rw [hcgs, hcR]; exact hgl) (by rw [hcR]; exact hwl) (by rw [hcR]; exact hwo) (fun i hi hm => by have := hhi13 i hm; have := (hwo.lt i hi).1; omega)).mono fun _ w15 ⟨⟨m3, hRx15, hm3⟩, hf15⟩ => ?_
      have hmv15 : Mv c ov w10 ov2 w15 := (hmv13'.trans (Mv.of_ext x14)).trans ⟨hf15.mono fun i hi => .inr (.inr (.inr (.inr (.inr (.inl hi))))), fun _ h => .inl h⟩
      have hwset := withL_set (p := p) (R := R) (k := k) (m := mB) (fun r hr => hal k r hk' hr) hdf
      have hm3' : ∀ a b, a < R → b < R → (m3 a b = true ↔ a ≠ b ∧ ((SetS p a ∧ SetS p b) ∨ ∃ q, q < k + 1 ∧ SetK p q a ∧ SetK p q b)) := by
        intro a b ha hb
        rw [hm3 a b (by omega) (by omega), hm2 a b ha hb, hwset a ha, hwset b hb]
        constructor
        · rintro (⟨h1, h2 | ⟨q, h3, h4⟩⟩ | ⟨h1, h2⟩)
          · exact ⟨h1, .inl h2⟩
          · exact ⟨h1, .inr ⟨q, by omega, h4⟩⟩
          · exact ⟨h1, .inr ⟨k, by omega, h2⟩⟩
        · rintro ⟨h1, h2 | ⟨q, h3, h4⟩⟩
          · exact .inl ⟨h1, .inl h2⟩
          · by_cases hqk : q = k
            · subst hqk; exact .inr ⟨h1, h4⟩
            · exact .inl ⟨h1, .inr ⟨q, by omega, h4⟩⟩
      have hsl15 : ∀ {ov' w'}, Mv c ov w10 ov' w' → SliceIs w' (sl R g') 1 R ((rowL mB k R).map Value.bool) := fun h => ((keepB h).2 k g' hg').slice (n := R) (by simp [rowL_len]) (by unfold maxLen; omega)
      refine lnx xa_57 (hsl15 hmv15) ?_
      refine ⟨fun v w' => ∃ (r : Nat) (sb' : List Bool), v = i64 r ∧ r ≤ R ∧ Rx w2 w' c ov2 m3 sb' (addAll [] (upTo p.params.toNat ++ (p.nodes.take (k + 1)).map GNode.df)) ∧ Mv c ov w10 ov2 w' ∧ sb'.length = R ∧
          (∀ s, s < R → (sb'[s]? = some true ↔ (sb2[s]? = some true ∨ (s < r ∧ (p.at' k).leavesB = false ∧ Alive p k s ∧ (s : Int) ≠ (p.at' k).df)))),
        fun v _ => R - (RowKit.intOf v).toNat, ⟨0, sb2, rfl, Nat.zero_le _, hRx15, hmv15, hsbl, fun s hs => by simp⟩, ?_⟩
      rintro _ w16 ⟨r2, sb3, rfl, hr2, hRx16, hmv16, hsb3l, hsb3⟩ _
      refine V_lss.2 (ifD_dec (fun hlt5 => ?_) fun hge5 => ?_)
      · have hr2' : r2 < R := by omega
        refine ldx xa_57 l1_4 (hsl15 hmv16) (by omega) (by omega) (getB (rowL_get hr2')) ?_
        obtain ⟨sv, hsv⟩ := ex_get (l := sb3) (j := r2) (by omega)
        have D16 : Ext w16 w16.drew := (Ext.refl _).drew
        have hRx17 := hRx16.ext D16
        have hss : SliceIs w16.drew (.slice (some ⟨c.sg, 0, none⟩) c.R c.R) 1 c.R (sb3.map Value.bool) := hRx17.ru.slot.slice (by simp; omega) (by unfold maxLen; omega)
        have fin : ∀ nv : Bool, (nv = true ↔ (sv = true ∨ ((p.at' k).leavesB = false ∧ Alive p k r2 ∧ (r2 : Int) ≠ (p.at' k).df))) →
            yieldS Tryd.prog (fun w' => w' = w16.drew) (Instr.indexAt 57 (.slice (some ⟨c.sg, 0, none⟩) c.R c.R) (i64 (r2 : Int))) fun t106 => U Tryd.prog (Instr.storeAt 4 t106 (.bool nv)) w16.drew fun _ w73 => V Tryd.prog (binOp .add 3 (i64 (r2 : Int)) (Value.int IntKind.i64 1)) w73 fun t107 w74 =>
              (∃ (r : Nat) (sb' : List Bool), t107 = i64 r ∧ r ≤ R ∧ Rx w2 w74 c ov2 m3 sb' (addAll [] (upTo p.params.toNat ++ (p.nodes.take (k + 1)).map GNode.df)) ∧ Mv c ov w10 ov2 w74 ∧ sb'.length = R ∧ (∀ s, s < R → (sb'[s]? = some true ↔ (sb2[s]? = some true ∨ (s < r ∧ (p.at' k).leavesB = false ∧ Alive p k s ∧ (s : Int) ≠ (p.at' k).df))))) ∧ R - (RowKit.intOf t107).toNat < R - (RowKit.intOf (i64 (r2 : Int))).toNat := by
          intro nv hnv
          refine yieldS.ok (fun w' _ => r_ix_57 (by omega) (by omega)) ?_
          rw [Int.toNat_natCast]
          refine stBY inf4 hRx17.ru.slot (by simp; omega) rfl ?_
          refine V_add.2 ?_
          rw [wrap_id (by omega) (by omega), i64_succ]
          refine ⟨⟨r2 + 1, sb3.set r2 nv, rfl, by omega, hRx17.setSlot r2 nv, (hmv16.trans (Mv.of_ext D16)).set r2 _, by simp [hsb3l], fun s hs => ?_⟩, by simp only [intOf_i64]; omega⟩
          by_cases hsr : r2 = s
          · subst hsr
            rw [List.getElem?_set_self (by omega)]
            simp only [Option.some.injEq]
            have h3 := hsb3 r2 hs
            rw [hsv] at h3
            simp only [Option.some.injEq] at h3
            rw [hnv, h3]
            constructor
            · rintro ((h | h) | h)
              · exact .inl h
              · omega
              · exact .inr ⟨by omega, h⟩
            · rintro (h | ⟨_, h⟩)
              · exact .inl (.inl h)
              · exact .inr h
          · rw [List.getElem?_set_ne hsr, hsb3 s hs]
            constructor
            · rintro (h | ⟨h1, h2⟩)
              · exact .inl h
              · exact .inr ⟨by omega, h2⟩
            · rintro (h | ⟨h1, h2⟩)
              · exact .inl h
              · exact .inr ⟨by omega, h2⟩
        have hal' := hal k r2 hk' hr2'
        refine drawD.mk' (fun w' => w' = w16.drew) rfl ?_
        refine yfB (fun w' hw => hw ▸ hRx17.ru.u.boxed) fa_59_1 l1_57 rfl ?_
        refine yfB (fun w' hw => hw ▸ hRx17.ru.u.boxed) fa_59_1 l1_57 rfl ?_
        refine ySl xa_57 l1_4 hss (fun w' hw => hw ▸ Ext.refl _) (by omega) (by omega) (getB hsv) ?_
        cases hsb : sv with
        | true =>
          simp only [gd_undef, gdY_tf, gdY_undef, pickD_iff, reduceIte]
          refine ⟨trivial, ?_⟩
          exact fin true (by simp [hsb])
        | false =>
          by_cases hmk : mB k r2 = true
          · simp only [hmk, gdY_t, gdY_f, pickD_iff, reduceIte, Bool.false_eq_true]
            refine yieldS.ok (fun w' _ => r_neqI) ?_
            by_cases hrd : (r2 : Int) ≠ (p.at' k).df
            · simp only [hrd, ne_eq, not_false_eq_true, gd_t, gdY_t, pickD_iff, reduceIte, decide_true]
              refine (leaves_ok (hni.ext (X12.trans hRx17.ru.x))).mono fun rv w' ⟨h1, h2⟩ => ?_
              subst h1
              subst h2
              refine ⟨rfl, ?_⟩
              refine yieldS.ok (fun _ _ => r_not) ?_
              exact fin (!(p.at' k).leavesB) (by cases hlb : (p.at' k).leavesB <;> simp [hsb, hal'.1 hmk, hrd])
            · simp only [hrd, gd_ft, gdY_ft, pickD_iff, reduceIte, Bool.false_eq_true, decide_false]
              refine ⟨trivial, ?_⟩
              exact fin false (by simp [hsb]; intro _ _; simpa using hrd)
          · simp only [hmk, gd_ft, gdY_f, gdY_ft, pickD_iff, reduceIte, Bool.false_eq_true]
            refine ⟨trivial, ?_⟩
            exact fin false (by simp [hsb]; intro _ h; exact absurd (hal'.2 h) hmk)
      · refine V_add.2 ?_
        rw [wrap_id (by omega) (by omega), i64_succ]
        refine ⟨⟨k + 1, ov2, m3, sb3, rfl, by omega, hRx16, hmv16, hsb3l, hm3', fun s hs => ?_⟩, by simp only [intOf_i64]; omega⟩
        rw [hsb3 s hs, hsb2 s hs]
        constructor
        · rintro (⟨q, h1, h2⟩ | ⟨h1, h2⟩)
          · exact ⟨q, by omega, h2⟩
          · exact ⟨k, by omega, h2⟩
        · rintro ⟨q, h1, h2⟩
          by_cases hqk : q = k
          · subst hqk; exact .inr ⟨by omega, h2⟩
          · exact .inl ⟨q, by omega, h2⟩
    · have hkN : k = p.nodes.length := by omega
      subst hkN
      rw [List.take_of_length_le (Nat.le_refl _)] at hRx11
      refine ldB (hb7 hRx11.ru.x) fa_25_1 l1_3 rfl ?_
      rw [hR]
      refine ⟨fun v w' => ∃ (r : Nat) (ov' : Value), v = i64 r ∧ r ≤ R ∧ Rx w2 w' c ov' m2 sb2 (addAll [] (upTo p.params.toNat ++ p.nodes.map GNode.df ++ upTo r)),
        fun v _ => R - (RowKit.intOf v).toNat, ⟨0, ov1, rfl, Nat.zero_le _, by simpa [upTo] using hRx11⟩, ?_⟩
      rintro _ w12 ⟨r3, ov3, rfl, hr3, hRx12⟩ _
      refine V_lss.2 (ifD_dec (fun hlt6 => ?_) fun hge6 => ?_)
      · have hol : (addAll [] (upTo p.params.toNat ++ p.nodes.map GNode.df ++ upTo r3)).length ≤ 1000 := by
          have := addAll_len [] (upTo p.params.toNat ++ p.nodes.map GNode.df ++ upTo r3)
          simp only [List.length_append, List.length_map, upTo_len, List.length_nil] at this
          omega
        refine (add_ok hRx12 (r := (r3 : Int)) (by rw [hcR]; omega) (by rw [hcR]; omega) hol).mono fun _ w13 ⟨ov4, hRx13, _⟩ => ?_
        refine V_add.2 ?_
        rw [wrap_id (by omega) (by omega), i64_succ]
        exact ⟨⟨r3 + 1, ov4, rfl, by omega, by rw [upTo_succ, ← List.append_assoc, addAll_snoc]; exact hRx13⟩, by simp only [intOf_i64]; omega⟩
      · have hrR : r3 = R := by omega
        subst hrR
        refine ldA hRx12.ru.u.boxed la_59 rfl ?_
        have hX := hRx12.ru.x
        have hzl := hz.lt
        have hlo12 := hRx12.lo
        have hov3 := hRx12.ov
        refine stA inf59 (hz.ext hX) (l := [.slice (some ⟨c.g0, 0, none⟩) c.R c.R, .slice (some ⟨c.sg, 0, none⟩) c.R c.R, ov3]) rfl rfl rfl (by have := own1' hov3; simp only [List.all_cons, List.all_nil, this, Bool.and_true]; rfl) fun w' h' hch => ?_
        refine ⟨_, r_var Tryd.underlying59 rfl inf59 h' rfl, ⟨_, rfl⟩, ⟨c.g0, c.sg, ov3, m2, sb2, by rw [hcR]; rfl, ⟨c.g0, c.gs, rfl, by rw [hcgs]; exact hgl, ?_, ?_⟩, ?_, hsbl, ?_, ?_, ?_⟩, hch.ext w (X12.trans hX) x1.size⟩
        · have := hch.other (by have := hRx12.ru.lo; omega) hRx12.ru.out
          rw [hcR] at this; exact this
        · intro q g hq
          have := hch.other (by have := hRx12.ru.lo.2.2.2 g (List.mem_of_getElem? hq); omega) (hRx12.ru.rows q g hq)
          rw [hcR] at this; exact this
        · have := (hch.other (by have := hRx12.ru.lo; omega) hRx12.ru.slot).slice (n := sb2.length) (by simp) (by unfold maxLen; omega)
          unfold BoolsAre sl
          rw [hsbl] at this ⊢
          exact this
        · have := hch.own hov3 (by have := hRx12.ord'; omega)
          exact this
        · exact fun a b ha hb => hm2 a b ha hb
        · exact fun s hs => hsb2 s hs
  refine drawD.mk' (fun w' => Ext w2 w') (Ext.refl _).drew ?_
  have X2 : Ext w2 w2.drew := (Ext.refl _).drew
  refine yfB (fun w' hw => hb2.ext hw) fa_25_1 l1_3 rfl ?_
  refine yfB (fun w' hw => hb2.ext hw) fa_25_1 l1_3 rfl ?_
  refine ⟨?_, ?_, ?_⟩
  · refine mkBv hR Tryd.underlying56 inf57 rfl (n := R) (by omega) (by omega) fun wa hM xa sM => ?_
    have Xa := X2.trans xa
    refine ⟨Xa, ?_, ?_⟩
    · refine mkBv hR Tryd.underlying57 inf4 rfl (n := R) (by omega) (by omega) fun wb hB xb sB => ?_
      have Xb := Xa.trans xb
      refine ⟨Xb, ?_⟩
      refine yBld bd_59 [(0, _), (1, _), (2, Value.slice none 0 0)] rfl (by simp [oneC]) ?_
      refine alK inf59 fun wc hA xc => ?_
      have Xc := Xb.trans xc
      refine ⟨Xc, ?_⟩
      have za := xa.size; have zb := xb.size; have la := (hM).lt; have lb := (hB).lt
      have zw : w2.heap.size = w2.drew.heap.size := rfl
      exact laidEnd Xc hA ((hM.ext xb).ext xc) (hB.ext xc) (by omega) (by omega) (by omega) (by omega) (by omega) (by omega)
    · refine alK inf59 fun wb hA xb => ?_
      have Xb := Xa.trans xb
      refine ⟨Xb, ?_⟩
      refine mkBv hR Tryd.underlying57 inf4 rfl (n := R) (by omega) (by omega) fun wc hB xc sB => ?_
      have Xc := Xb.trans xc
      refine ⟨Xc, ?_⟩
      refine yBld bd_59 [(0, _), (1, _), (2, Value.slice none 0 0)] rfl (by simp [oneC]) ?_
      have za := xa.size; have zb := xb.size; have la := (hM).lt; have lb := (hA).lt
      have zw : w2.heap.size = w2.drew.heap.size := rfl
      exact laidEnd Xc (hA.ext xc) ((hM.ext xb).ext xc) hB (by omega) (by omega) (by omega) (by omega) (by omega) (by omega)
  · refine mkBv hR Tryd.underlying57 inf4 rfl (n := R) (by omega) (by omega) fun wa hB xa sB => ?_
    have Xa := X2.trans xa
    refine ⟨Xa, ?_, ?_⟩
    · refine mkBv hR Tryd.underlying56 inf57 rfl (n := R) (by omega) (by omega) fun wb hM xb sM => ?_
      have Xb := Xa.trans xb
      refine ⟨Xb, ?_⟩
      refine yBld bd_59 [(0, _), (1, _), (2, Value.slice none 0 0)] rfl (by simp [oneC]) ?_
      refine alK inf59 fun wc hA xc => ?_
      have Xc := Xb.trans xc
      refine ⟨Xc, ?_⟩
      have za := xa.size; have zb := xb.size; have la := (hB).lt; have lb := (hM).lt
      have zw : w2.heap.size = w2.drew.heap.size := rfl
      exact laidEnd Xc hA (hM.ext xc) ((hB.ext xb).ext xc) (by omega) (by omega) (by omega) (by omega) (by omega) (by omega)
    · refine alK inf59 fun wb hA xb => ?_
      have Xb := Xa.trans xb
      refine ⟨Xb, ?_⟩
      refine mkBv hR Tryd.underlying56 inf57 rfl (n := R) (by omega) (by omega) fun wc hM xc sM => ?_
      have Xc := Xb.trans xc
      refine ⟨Xc, ?_⟩
      refine yBld bd_59 [(0, _), (1, _), (2, Value.slice none 0 0)] rfl (by simp [oneC]) ?_
      have za := xa.size; have zb := xb.size; have la := (hB).lt; have lb := (hA).lt
      have zw : w2.heap.size = w2.drew.heap.size := rfl
      exact laidEnd Xc (hA.ext xc) hM ((hB.ext xb).ext xc) (by omega) (by omega) (by omega) (by omega) (by omega) (by omega)
  · refine alK inf59 fun wa hA xa => ?_
    have Xa := X2.trans xa
    refine ⟨Xa, ?_, ?_⟩
    · refine mkBv hR Tryd.underlying56 inf57 rfl (n := R) (by omega) (by omega) fun wb hM xb sM => ?_
      have Xb := Xa.trans xb
      refine ⟨Xb, ?_⟩
      refine mkBv hR Tryd.underlying57 inf4 rfl (n := R) (by omega) (by omega) fun wc hB xc sB => ?_
      have Xc := Xb.trans xc
      refine ⟨Xc, ?_⟩
      refine yBld bd_59 [(0, _), (1, _), (2, Value.slice none 0 0)] rfl (by simp [oneC]) ?_
      have za := xa.size; have zb := xb.size; have la := (hA).lt; have lb := (hM).lt
      have zw : w2.heap.size = w2.drew.heap.size := rfl
      exact laidEnd Xc ((hA.ext xb).ext xc) (hM.ext xc) hB (by omega) (by omega) (by omega) (by omega) (by omega) (by omega)
    · refine mkBv hR Tryd.underlying57 inf4 rfl (n := R) (by omega) (by omega) fun wb hB xb sB => ?_
      have Xb := Xa.trans xb
      refine ⟨Xb, ?_⟩
      refine mkBv hR Tryd.underlying56 inf57 rfl (n := R) (by omega) (by omega) fun wc hM xc sM => ?_
      have Xc := Xb.trans xc
      refine ⟨Xc, ?_⟩
      refine yBld bd_59 [(0, _), (1, _), (2, Value.slice none 0 0)] rfl (by simp [oneC]) ?_
      have za := xa.size; have zb := xb.size; have la := (hA).lt; have lb := (hB).lt
      have zw : w2.heap.size = w2.drew.heap.size := rfl
      exact laidEnd Xc ((hA.ext xb).ext xc) hM (hB.ext xc) (by omega) (by omega) (by omega) (by omega) (by omega) (by omega)
end Go.Proofs.YtjcmcfidblhnnaaDoor
namespace Go.Proofs.YtjcmcfidblhnnaaDoor
open Go.Vc
theorem good_iff {p : GProg} {R : Nat} {of : List Int} {slots : Int} {m : Mx} {sb : List Bool} (hl : of.length = R) (h0 : 0 ≤ slots) (h1 : slots ≤ 40) (hm : ∀ a b, a < R → b < R → (m a b = true ↔ Meets p a b)) (hs : ∀ r, r < R → (sb[r]? = some true ↔ Slotted p r)) :
    (∀ (r : Nat) (x : Int), r < R → of[r]? = some x → Valid x slots ∧ MayP m sb of r x) ↔ Good p R of slots := by
  have lt : ∀ {r : Nat} {x : Int}, of[r]? = some x → r < R := fun h => by have := (List.getElem?_eq_some_iff.1 h).1; omega
  constructor
  · intro h
    have ap : ∀ S : Nat → Prop, (∀ a b, a ≠ b → S a → S b → Meets p a b) → ApartS S R of := by
      intro S hS r s hsr hr h2 h3 he
      obtain ⟨x, hx⟩ := ex_get (l := of) (j := r) (by omega)
      exact (h r x hr hx).2.2 s x (by rw [← he]; exact hx) ((hm r s hr (by omega)).2 (hS r s (by omega) h2 h3)) rfl
    exact ⟨hl, h0, h1, fun r x hx => (h r x (lt hx) hx).1, fun k hk => ap _ fun a b hab ha hb => ⟨hab, .inr ⟨k, hk, ha, hb⟩⟩, fun k hk hlb r x hal hne hx => (h r x (lt hx) hx).2.1 ((hs r (lt hx)).2 ⟨k, hk, hlb, hal, hne⟩), ap _ fun a b hab ha hb => ⟨hab, .inl ⟨ha, hb⟩⟩⟩
  · intro h r x hr hx
    refine ⟨h.val r x hx, fun hsl => ?_, fun o y hy hmo he => ?_⟩
    · obtain ⟨k, hk, hlb, hal, hne⟩ := (hs r hr).1 hsl
      exact h.slot k hk hlb r x hal hne hx
    · subst he
      obtain ⟨hne, hset⟩ := (hm r o hr (lt hy)).1 hmo
      have ap : ∀ S : Nat → Prop, ApartS S R of → S r → S o → False := by
        intro S hS h2 h3
        by_cases hlt : o < r
        · exact hS r o hlt hr h2 h3 (by rw [hx, hy])
        · exact hS o r (by omega) (lt hy) h3 h2 (by rw [hx, hy])
      rcases hset with ⟨h2, h3⟩ | ⟨k, hk, h2, h3⟩
      · exact ap _ h.start h2 h3
      · exact ap _ (h.sets k hk) h2 h3
theorem oneC_ints {w : World} {v : Value} {l : List Int} (h : IntsAre w v l) : oneC v = true := by
  obtain ⟨a, c, rfl⟩ := h.shape
  rfl
set_option maxHeartbeats 4000000 in
theorem placeRight_ok {p : GProg} {R : Nat} {pv ofv : Value} {of : List Int} {slots : Int} {w : World} (hp : ProgIs w pv p) (hv : OkProg p) (hR : p.regs = R) (ho : IntsAre w ofv of) (_ : of.length ≤ 1000000) :
    callD Tryd.prog 17 #[pv, .agg #[ofv, i64 slots]] w fun r w' => (∃ ok : Bool, r = .bool ok ∧ (ok = true ↔ Good p R of slots)) ∧ Ext w w' := by
  have hp0 := hp
  obtain ⟨ns, rfl, hns, hargs⟩ := hp
  obtain ⟨oa, oc, rfl⟩ := ho.shape
  have hr1 := hv.r1; have hr2 := hv.r2
  have no : ∀ {w'}, Ext w w' → ¬ Good p R of slots → (∃ ok : Bool, Value.bool false = .bool ok ∧ (ok = true ↔ Good p R of slots)) ∧ Ext w w' := fun hx hn => ⟨⟨false, rfl, fun h => (by cases h), fun h => absurd h hn⟩, hx⟩
  apply F17_wp
  unfold F17_den
  refine bx fun b w1 hb x1 => ?_
  refine bx fun b2 w2 hb2 x2 => ?_
  have X2 := x1.trans x2
  have hb' := hb.ext x2
  refine ldA hb' la_25 rfl ?_
  refine (check_ok (p := p) (hp0.ext X2) hv).mono fun r w3 ⟨hr, x3⟩ => ?_
  subst hr
  have hb3 := hb'.ext x3
  have hb23 := hb2.ext x3
  have X3 := X2.trans x3
  refine V_not.2 ?_
  simp only [gd_f, pickD_iff, reduceIte, Bool.false_eq_true, Bool.not_true]
  refine ldB hb23 fa_29_0 l1_27 rfl (lnx xa_27 (ho.ext X3) ?_)
  refine ldB hb3 fa_25_1 l1_3 rfl (V_neqI.2 ?_)
  rw [hR]
  by_cases h1 : ((of.length : Nat) : Int) ≠ ((R : Nat) : Int)
  · simp only [h1, ne_eq, not_false_eq_true, gd_tf, pickD_iff, ifD_true, reduceIte, decide_true]
    exact no X3 fun h => h1 (by have := h.len; omega)
  have h1' : of.length = R := by omega
  simp only [h1, gd_f, pickD_iff, reduceIte, Bool.false_eq_true, decide_false]
  refine ldB hb23 fa_29_1 l1_3 rfl (V_lss.2 ?_)
  by_cases h2 : slots < 0
  · simp only [h2, gd_tf, pickD_iff, ifD_true, reduceIte, decide_true]
    exact no X3 fun h => by have := h.s0; omega
  simp only [h2, gd_f, pickD_iff, reduceIte, Bool.false_eq_true, decide_false]
  refine ldB hb23 fa_29_1 l1_3 rfl (V_gtr.2 ?_)
  by_cases h3 : slots > 40
  · simp only [h3, ifD_true, decide_true]
    exact no X3 fun h => by have := h.s1; omega
  simp only [h3, ifD_false, decide_false]
  refine ldA hb3 la_25 rfl ?_
  refine (rulesOf_ok (hp0.ext X3) hv hR).mono fun rv w4 ⟨⟨g0, sg, ov, m, sb, hrv, hmat, hsb, hsbl, hov, hm, hs⟩, x4⟩ => ?_
  subst hrv
  refine asK sa_59 rfl (by have := oneC_ints hov; show (oneC (sl R g0) && (oneC (sl R sg) && (oneC ov && true))) = true; rw [this]; rfl) fun w5 hu5 x5 => ?_
  have x35 := x4.trans x5
  have X5 := X3.trans x35
  refine ldB (hb23.ext x35) fa_29_0 l1_27 rfl (lnx xa_27 (ho.ext X5) ?_)
  have hgood := good_iff (p := p) (slots := slots) h1' (by omega) (by omega) hm hs
  refine ⟨fun v w' => ∃ i : Nat, v = i64 i ∧ i ≤ of.length ∧ Ext w5 w' ∧ ∀ (r : Nat) (x : Int), r < i → of[r]? = some x → Valid x slots ∧ MayP m sb of r x, fun v _ => of.length - (RowKit.intOf v).toNat, ⟨0, rfl, Nat.zero_le _, Ext.refl _, fun r x h => by omega⟩, ?_⟩
  rintro _ w6 ⟨i, rfl, hi, x6, hval⟩ _
  have x36 := x35.trans x6
  have X6 := X5.trans x6
  refine V_lss.2 (ifD_dec (fun hlt => ?_) fun hge => ?_)
  · have hi' : i < of.length := by omega
    obtain ⟨x, hx⟩ := ex_get hi'
    refine ldx xa_27 l1_3 (ho.ext X6) (by omega) (by omega) (getI hx) (V_neqI.2 ?_)
    have bad : ¬ Valid x slots → (∃ ok : Bool, Value.bool false = .bool ok ∧ (ok = true ↔ Good p R of slots)) ∧ Ext w w6 := fun h => no X6 fun hg => h (hg.val i x hx)
    have ok : Valid x slots → callD Tryd.prog 16 #[.agg #[sl R g0, sl R sg, ov], i64 (i : Int), i64 x, .slice oa of.length oc] w6 fun q w' => (∃ ok : Bool, q = .bool ok ∧ (ok = true ↔ MayP m sb of i x)) ∧ Ext w6 w' := fun _ =>
      may_ok (by omega) ((hmat.ext x5).ext x6) ((hsb.ext x5).ext x6) hsbl (ho.ext X6) h1' (by omega)
    have fin : Valid x slots → V Tryd.prog (Instr.loadAt 59 (.pointer (some ⟨w4.heap.size, 0, none⟩))) w6 fun t57 w46 =>
        V Tryd.prog (Instr.fieldAt 29 (.pointer (some ⟨b2, 0, none⟩)) 0) w46 fun t60 w49 => V Tryd.prog (Instr.loadAt 27 t60) w49 fun t61 w50 => callD Tryd.prog 16 #[t57, i64 (i : Int), i64 x, t61] w50 fun t62 w51 =>
        V Tryd.prog (Op.unary UnOp.not t62) w51 fun t63 w52 => ifD t63 ((∃ ok : Bool, Value.bool false = .bool ok ∧ (ok = true ↔ Good p R of slots)) ∧ Ext w w52) (V Tryd.prog (binOp .add 3 (i64 (i : Int)) (Value.int IntKind.i64 1)) w52 fun t65 w54 =>
          (∃ i : Nat, t65 = i64 i ∧ i ≤ of.length ∧ Ext w5 w54 ∧ ∀ (r : Nat) (x : Int), r < i → of[r]? = some x → Valid x slots ∧ MayP m sb of r x) ∧ of.length - (RowKit.intOf t65).toNat < of.length - (RowKit.intOf (i64 (i : Int))).toNat) := by
      intro hvx
      refine ldA (hu5.ext x6).boxed la_59 rfl ?_
      refine ldB (hb23.ext x36) fa_29_0 l1_27 rfl ?_
      refine (ok hvx).mono fun q w7 ⟨⟨a, hq, ha⟩, x7⟩ => ?_
      subst hq
      refine V_not.2 (ifD.mk (fun hn => ?_) fun hn => ?_)
      · refine no (X6.trans x7) fun hg => ?_
        have := ha.2 (hgood.2 hg i x (by omega) hx).2
        subst this
        cases hn
      · refine V_add.2 ?_
        rw [wrap_id (by omega) (by omega), i64_succ]
        refine ⟨⟨i + 1, rfl, by omega, x6.trans x7, fun r y hr hy => ?_⟩, by simp only [intOf_i64]; omega⟩
        by_cases hri : r = i
        · subst hri
          rw [hx] at hy
          cases hy
          exact ⟨hvx, ha.1 (by simpa using hn)⟩
        · exact hval r y (by omega) hy
    by_cases h5 : x = 5
    · simp only [h5, ne_eq, not_true_eq_false, gd_f, gd_ft, gd_undef, pickD_iff, reduceIte, Bool.false_eq_true, decide_false]
      exact h5 ▸ fin (.inl h5)
    simp only [h5, ne_eq, not_false_eq_true, V_neqI, gd_t, pickD_iff, reduceIte, decide_true]
    by_cases h6 : x = 6
    · simp only [h6, not_true_eq_false, gd_f, gd_ft, gd_undef, pickD_iff, reduceIte, Bool.false_eq_true, decide_false]
      exact h6 ▸ fin (.inr (.inl h6))
    simp only [h6, not_false_eq_true, V_lss, gd_t, pickD_iff, reduceIte, decide_true]
    by_cases h16 : x < 16
    · simp only [h16, gd_tf, pickD_iff, ifD_true, reduceIte, decide_true]
      exact bad (by unfold Valid; omega)
    simp only [h16, gd_f, reduceIte, Bool.false_eq_true, decide_false]
    refine ldB (hb23.ext x36) fa_29_1 l1_3 rfl (V_add.2 ?_)
    rw [wrap_id (by omega) (by omega)]
    simp only [V_geq, pickD_iff]
    by_cases h17 : x ≥ 16 + slots
    · simp only [h17, gd_tf, ifD_true, reduceIte, decide_true]
      exact bad (by unfold Valid; omega)
    simp only [h17, gd_f, reduceIte, Bool.false_eq_true, decide_false]
    exact fin (by unfold Valid; omega)
  · refine ⟨⟨true, rfl, fun _ => hgood.1 fun r x hr hx => hval r x (by omega) hx, fun _ => rfl⟩, X6⟩
end Go.Proofs.YtjcmcfidblhnnaaDoor
namespace Go.Proofs.YtjcmcfidblhnnaaDoor
open Go.Vc
def MayS (p : GProg) (of : List Int) (r : Nat) (at' : Int) : Prop := (Slotted p r → 16 ≤ at') ∧ ∀ (o : Nat) (y : Int), of[o]? = some y → Meets p r o → y ≠ at'
theorem may_s {p : GProg} {R : Nat} {m : Mx} {sb : List Bool} {of : List Int} {r : Nat} {at' : Int} (hl : of.length = R) (hm : ∀ a b, a < R → b < R → (m a b = true ↔ Meets p a b)) (hs : ∀ r, r < R → (sb[r]? = some true ↔ Slotted p r)) (hr : r < R) : MayP m sb of r at' ↔ MayS p of r at' := by
  have lt : ∀ {r : Nat} {x : Int}, of[r]? = some x → r < R := fun h => by have := (List.getElem?_eq_some_iff.1 h).1; omega
  unfold MayP MayS
  rw [hs r hr]
  exact ⟨fun h => ⟨h.1, fun o y hy hmo => h.2 o y hy ((hm r o hr (lt hy)).2 hmo)⟩, fun h => ⟨h.1, fun o y hy hmo => h.2 o y hy ((hm r o hr (lt hy)).1 hmo)⟩⟩
theorem Meets.symm {p : GProg} {a b : Nat} (h : Meets p a b) : Meets p b a := by
  obtain ⟨h1, h2⟩ := h
  refine ⟨fun h => h1 h.symm, ?_⟩
  rcases h2 with ⟨h2, h3⟩ | ⟨k, hk, h2, h3⟩
  · exact .inl ⟨h3, h2⟩
  · exact .inr ⟨k, hk, h3, h2⟩
structure Al (p : GProg) (R : Nat) (ord : List Int) (i : Nat) (of : List Int) (slots : Int) : Prop where
  len : of.length = R
  s0 : 0 ≤ slots
  s1 : slots ≤ 40
  placed : ∀ (r : Nat) (x : Int), of[r]? = some x → (((r : Int) ∈ ord.take i → Valid x slots ∧ MayS p of r x) ∧ ((r : Int) ∉ ord.take i → x = 0))
theorem Al.start (p : GProg) (R : Nat) (ord : List Int) : Al p R ord 0 (List.replicate R 0) 0 := by
  refine ⟨by simp, by omega, by omega, fun r x hx => ⟨fun h => by simp at h, fun _ => ?_⟩⟩
  have := List.mem_of_getElem? hx
  simp at this
  exact this.2
theorem Al.step {p : GProg} {R : Nat} {ord of : List Int} {i r : Nat} {slots at' : Int} (h : Al p R ord i of slots) (hr : r < R) (hi : ord[i]? = some (r : Int)) (hm : MayS p of r at') (ha : at' = 5 ∨ at' = 6 ∨ 16 ≤ at') (ha2 : at' ≤ 55) :
    Al p R ord (i + 1) (of.set r at') (max slots (at' - 15)) := by
  have hs0 := h.s0; have hs1 := h.s1
  have hval : ∀ {x}, Valid x slots → Valid x (max slots (at' - 15)) := by unfold Valid; omega
  have htake : ord.take (i + 1) = ord.take i ++ [(r : Int)] := by rw [List.take_add_one, hi]; rfl
  have hlen := h.len
  refine ⟨by simp [h.len], by omega, by omega, fun q x hx => ?_⟩
  by_cases hq : r = q
  · subst hq
    rw [List.getElem?_set_self (by omega)] at hx
    cases hx
    refine ⟨fun _ => ⟨by unfold Valid; omega, hm.1, fun o y hy hmo => ?_⟩, fun hn => absurd (by rw [htake]; simp) hn⟩
    rw [List.getElem?_set_ne (fun e => hmo.1 e)] at hy
    exact hm.2 o y hy hmo
  · rw [List.getElem?_set_ne hq] at hx
    obtain ⟨h1, h2⟩ := h.placed q x hx
    refine ⟨fun hmem => ?_, fun hn => h2 fun hmem => hn (by rw [htake]; simp [hmem])⟩
    have hmem' : (q : Int) ∈ ord.take i := by
      rw [htake] at hmem
      rcases List.mem_append.1 hmem with h3 | h3
      · exact h3
      · have : (q : Int) = r := by simpa using h3
        omega
    obtain ⟨h3, h4⟩ := h1 hmem'
    refine ⟨hval h3, h4.1, fun o y hy hmo => ?_⟩
    by_cases ho : r = o
    · subst ho
      rw [List.getElem?_set_self (by omega)] at hy
      cases hy
      exact (fun e => hm.2 q x hx hmo.symm e.symm)
    · rw [List.getElem?_set_ne ho] at hy
      exact h4.2 o y hy hmo
theorem nodup_idx {gs : List Int} (h : gs.Nodup) {i j : Nat} {g : Int} (hi : gs[i]? = some g) (hj : gs[j]? = some g) : i = j := by
  obtain ⟨hi', hi2⟩ := List.getElem?_eq_some_iff.1 hi
  obtain ⟨hj', hj2⟩ := List.getElem?_eq_some_iff.1 hj
  have hp := List.pairwise_iff_getElem.1 h
  rcases Nat.lt_trichotomy i j with hlt | he | hgt
  · exact absurd (hi2.trans hj2.symm) (hp i j hi' hj' hlt)
  · exact he
  · exact absurd (hj2.trans hi2.symm) (hp j i hj' hi' hgt)
theorem nodup_le : ∀ (l l' : List Int), l.Nodup → (∀ x ∈ l, x ∈ l') → l.length ≤ l'.length
  | [], _, _, _ => Nat.zero_le _
  | x :: l, l', hn, h => by
    obtain ⟨hx, hn'⟩ := List.nodup_cons.1 hn
    have h1 := nodup_le l (l'.erase x) hn' fun y hy => by
      have hne : y ≠ x := fun e => hx (e ▸ hy)
      exact (List.mem_erase_of_ne hne).2 (h y (by simp [hy]))
    have h2 := List.length_erase_of_mem (h x (by simp))
    have h3 : 0 < l'.length := List.length_pos_of_mem (h x (by simp))
    simp only [List.length_cons]
    omega
theorem slot_free {R : Nat} {of : List Int} {at' : Int} {r : Nat} (hl : of.length = R) (hr : of[r]? = some 0) (h16 : 16 ≤ at') (h : ∀ x, 16 ≤ x → x < at' → x ∈ of) : at' ≤ 15 + R := by
  have h1 := nodup_le (0 :: (List.range (at' - 16).toNat).map fun j => ((j : Nat) : Int) + 16) of (by
    refine List.nodup_cons.2 ⟨fun hm => ?_, ?_⟩
    · obtain ⟨j, _, hj⟩ := List.mem_map.1 hm
      omega
    · exact List.pairwise_map.2 (List.Pairwise.imp (fun {a b} h e => h (by omega)) List.nodup_range)) fun x hx => ?_
  · simp at h1
    omega
  · rcases List.mem_cons.1 hx with rfl | hx
    · exact List.mem_of_getElem? hr
    · obtain ⟨j, hj, rfl⟩ := List.mem_map.1 hx
      have := List.mem_range.1 hj
      exact h _ (by omega) (by omega)
theorem addO_nodup {o : List Int} {r : Int} (h : o.Nodup) : (addO o r).Nodup := by
  unfold addO
  split
  · rename_i hc
    refine List.nodup_append.2 ⟨h, by simp, fun a ha b hb e => ?_⟩
    have : b = r := by simpa using hb
    exact hc.2 (this ▸ e ▸ ha)
  · exact h
theorem addAll_facts : ∀ (l o : List Int), (o.Nodup → (addAll o l).Nodup) ∧ (∀ x, x ∈ addAll o l ↔ x ∈ o ∨ (x ∈ l ∧ 0 ≤ x))
  | [], o => by simp [addAll]
  | r :: l, o => by
    obtain ⟨h1, h2⟩ := addAll_facts l (addO o r)
    have e : addAll o (r :: l) = addAll (addO o r) l := rfl
    rw [e]
    refine ⟨fun h => h1 (addO_nodup h), fun x => ?_⟩
    rw [h2 x]
    unfold addO
    split
    · rename_i hc
      simp only [List.mem_append, List.mem_cons, List.not_mem_nil, or_false]
      constructor
      · rintro ((h | rfl) | ⟨h, h'⟩)
        · exact .inl h
        · exact .inr ⟨.inl rfl, hc.1⟩
        · exact .inr ⟨.inr h, h'⟩
      · rintro (h | ⟨rfl | h, h'⟩)
        · exact .inl (.inl h)
        · exact .inl (.inr rfl)
        · exact .inr ⟨h, h'⟩
    · rename_i hc
      simp only [List.mem_cons]
      constructor
      · rintro (h | ⟨h, h'⟩)
        · exact .inl h
        · exact .inr ⟨.inr h, h'⟩
      · rintro (h | ⟨rfl | h, h'⟩)
        · exact .inl h
        · by_cases hx : x ∈ o
          · exact .inl hx
          · exact absurd ⟨h', hx⟩ hc
        · exact .inr ⟨h, h'⟩
theorem ord_mem {p : GProg} {R : Nat} (hv : OkProg p) (hR : p.regs = R) (x : Int) : x ∈ addAll [] (ordL p R) ↔ 0 ≤ x ∧ x < R := by
  rw [(addAll_facts (ordL p R) []).2 x]
  have hp3 := hv.p3
  have hp1 := hv.p1
  constructor
  · rintro (h | ⟨h, h0⟩)
    · cases h
    · refine ⟨h0, ?_⟩
      unfold ordL at h
      rcases List.mem_append.1 h with h | h
      · rcases List.mem_append.1 h with h | h
        · obtain ⟨j, hj, rfl⟩ := List.mem_map.1 h
          have := List.mem_range.1 hj
          omega
        · obtain ⟨g, hg, rfl⟩ := List.mem_map.1 h
          obtain ⟨k, hk⟩ := List.getElem?_of_mem hg
          have := (hv.nodes k g hk).d
          rcases this with h | h <;> omega
      · obtain ⟨j, hj, rfl⟩ := List.mem_map.1 h
        have := List.mem_range.1 hj
        omega
  · rintro ⟨h0, h1⟩
    refine .inr ⟨?_, h0⟩
    unfold ordL
    refine List.mem_append.2 (.inr (List.mem_map.2 ⟨x.toNat, List.mem_range.2 (by omega), by omega⟩))
theorem Al.good {p : GProg} {R : Nat} {of : List Int} {slots : Int} (hv : OkProg p) (hR : p.regs = R) {i : Nat} (hi : (addAll [] (ordL p R)).length ≤ i) (h : Al p R (addAll [] (ordL p R)) i of slots) : Good p R of slots := by
  have lt : ∀ {r : Nat} {x : Int}, of[r]? = some x → r < R := fun h' => by have := (List.getElem?_eq_some_iff.1 h').1; have := h.len; omega
  have hall : ∀ (r : Nat) (x : Int), of[r]? = some x → Valid x slots ∧ MayS p of r x := fun r x hx => (h.placed r x hx).1 (by rw [List.take_of_length_le hi, ord_mem hv hR]; have := lt hx; omega)
  have hlen := h.len
  have ap : ∀ S : Nat → Prop, (∀ a b, a ≠ b → S a → S b → Meets p a b) → ApartS S R of := by
    intro S hS r s hsr hr h2 h3 he
    obtain ⟨x, hx⟩ := ex_get (l := of) (j := r) (by omega)
    exact (hall r x hx).2.2 s x (by rw [← he]; exact hx) (hS r s (by omega) h2 h3) rfl
  exact ⟨h.len, h.s0, h.s1, fun r x hx => (hall r x hx).1, fun k hk => ap _ fun a b hab ha hb => ⟨hab, .inr ⟨k, hk, ha, hb⟩⟩, fun k hk hlb r x hal hne hx => (hall r x hx).2.1 ⟨k, hk, hlb, hal, hne⟩, ap _ fun a b hab ha hb => ⟨hab, .inl ⟨ha, hb⟩⟩⟩
end Go.Proofs.YtjcmcfidblhnnaaDoor
namespace Go.Proofs.YtjcmcfidblhnnaaDoor
open Go.Vc
set_option maxHeartbeats 4000000 in
theorem alloc_ok {p : GProg} {R : Nat} {pv : Value} {w : World} (hp : ProgIs w pv p) (hv : OkProg p) (hR : p.regs = R) {Q : Nat → List Int → Int → Prop} (q0 : Q 0 (List.replicate R 0) 0)
    (qs : ∀ (i : Nat) (of : List Int) (slots : Int) (r : Nat) (at' : Int), Al p R (addAll [] (ordL p R)) i of slots → Q i of slots → (addAll [] (ordL p R))[i]? = some (r : Int) → r < R → MayS p of r at' → (at' = 5 ∨ (at' = 6 ∧ ¬ MayS p of r 5) ∨ (16 ≤ at' ∧ ¬ MayS p of r 5 ∧ ¬ MayS p of r 6)) → Q (i + 1) (of.set r at') (max slots (at' - 15))) :
    callD Tryd.prog 5 #[pv] w fun r w' => (∃ (ofv : Value) (of : List Int) (slots : Int), r = .agg #[ofv, i64 slots] ∧ IntsAre w' ofv of ∧ Good p R of slots ∧ Q (addAll [] (ordL p R)).length of slots) ∧ Ext w w' := by
  have hp0 := hp
  obtain ⟨ns, rfl, hns, hargs⟩ := hp
  have hl1 := hv.l1; have hl2 := hv.l2; have hr1 := hv.r1; have hr2 := hv.r2; have hp1 := hv.p1; have hp2 := hv.p2; have hp3 := hv.p3
  apply F5_wp
  unfold F5_den
  refine bx fun b w1 hb x1 => ?_
  refine alK inf29 fun w2 hz x2 => ?_
  have hb2 := hb.ext x2
  have X2 := x1.trans x2
  refine ldA hb2 la_25 rfl ?_
  refine (check_ok (p := p) (hp0.ext X2) hv).mono fun r w3 ⟨hr, x3⟩ => ?_
  subst hr
  refine V_not.2 (ifD_false.2 ?_)
  have X3 := X2.trans x3
  refine ldA (hb2.ext x3) la_25 rfl ?_
  refine (rulesOf_ok (hp0.ext X3) hv hR).mono fun rv w4 ⟨⟨g0, sg, ov, m, sb, hrv, hmat, hsb, hsbl, hov, hm, hs⟩, x4⟩ => ?_
  subst hrv
  refine asK sa_59 rfl (by have := oneC_ints hov; show (oneC (sl R g0) && (oneC (sl R sg) && (oneC ov && true))) = true; rw [this]; rfl) fun w5 hu5 x5 => ?_
  have x25 := (x3.trans x4).trans x5
  refine ldB (hb2.ext x25) fa_25_1 l1_3 rfl ?_
  refine mkBv hR Tryd.underlying27 inf3 rfl (n := R) (by omega) (by omega) fun w6 hof6 x6 hsz6 => ?_
  refine bld bd_29 [(0, .slice (some ⟨w5.heap.size, 0, none⟩) R R)] rfl rfl ?_
  refine asK sa_29 rfl rfl fun w7 hx7 x7 => ?_
  have x57 := x6.trans x7
  have hlx7 := hx7.lt
  have hord := addAll_len [] (ordL p R)
  have hordl : (addAll [] (ordL p R)).length ≤ 1000 := by
    have hol : (ordL p R).length ≤ 300 := by
      simp only [ordL, List.length_append, List.length_map, upTo_len]
      omega
    simp only [List.length_nil] at hord
    omega
  have hnd := (addAll_facts (ordL p R) []).1 List.nodup_nil
  refine ldB (hu5.ext x57).boxed fa_59_2 l1_27 rfl (lnx xa_27 (hov.ext (x5.trans x57)) ?_)
  refine ⟨fun v w' => ∃ (i : Nat) (of : List Int) (slots : Int), v = i64 i ∧ i ≤ (addAll [] (ordL p R)).length ∧ Ext w5 w' ∧ Blk w' w5.heap.size (of.map i64) 3 ∧ Blk w' w6.heap.size [.slice (some ⟨w5.heap.size, 0, none⟩) R R, i64 slots] 29 ∧ Al p R (addAll [] (ordL p R)) i of slots ∧ Q i of slots,
    fun v _ => (addAll [] (ordL p R)).length - (RowKit.intOf v).toNat, ⟨0, List.replicate R 0, 0, rfl, Nat.zero_le _, x57, by simpa using hof6.ext x7, hx7, Al.start _ _ _, q0⟩, ?_⟩
  rintro _ w8 ⟨i, of, slots, rfl, hi, x8, hof8, hx8, hal, hq⟩ _
  have hlen := hal.len; have hs0 := hal.s0; have hs1 := hal.s1
  refine V_lss.2 (ifD_dec (fun hlt => ?_) fun hge => ?_)
  · have hi' : i < (addAll [] (ordL p R)).length := by omega
    obtain ⟨rz, hrz⟩ := ex_get hi'
    have hrb := (ord_mem hv hR rz).1 (List.mem_of_getElem? hrz)
    obtain ⟨r, rfl⟩ : ∃ r : Nat, rz = r := ⟨rz.toNat, by omega⟩
    have hr : r < R := by omega
    have hof0 : of[r]? = some 0 := by
      obtain ⟨x, hx⟩ := ex_get (l := of) (j := r) (by omega)
      rw [hx, (hal.placed r x hx).2 fun hmem => ?_]
      obtain ⟨j, hj⟩ := List.getElem?_of_mem hmem
      rw [List.getElem?_take] at hj
      split at hj
      · have := nodup_idx hnd hj hrz
        omega
      · cases hj
    refine ldx xa_27 l1_3 (hov.ext (x5.trans x8)) (by omega) (by omega) (getI hrz) ?_
    refine ⟨fun v w' => ∃ at' : Int, v = i64 at' ∧ Ext w8 w' ∧ (at' = 5 ∨ (at' = 6 ∧ ¬ MayS p of r 5) ∨ (16 ≤ at' ∧ ¬ MayS p of r 5 ∧ ¬ MayS p of r 6)) ∧ ∀ x, 16 ≤ x → x < at' → x ∈ of, fun v _ => (100 - RowKit.intOf v).toNat,
      ⟨5, rfl, Ext.refl _, .inl rfl, fun x h1 h2 => by omega⟩, ?_⟩
    rintro _ w9 ⟨at', rfl, x9, hat, hfree⟩ _
    have hat55 : at' ≤ 55 := by
      by_cases h16 : 16 ≤ at'
      · have := slot_free hlen hof0 h16 hfree
        omega
      · omega
    have x59 := x8.trans x9
    have hofS : IntsAre w9 (.slice (some ⟨w5.heap.size, 0, none⟩) R R) of := by
      have := (hof8.ext x9).slice (n := of.length) (by simp) (by unfold maxLen; omega)
      unfold IntsAre
      rw [← hlen]
      exact this
    refine ldA (hu5.ext x59).boxed la_59 rfl ?_
    refine ldB (hx8.ext x9).boxed fa_29_0 l1_27 rfl ?_
    refine (may_ok (by omega) ((hmat.ext x5).ext x59) ((hsb.ext x5).ext x59) hsbl hofS hlen hr).mono fun q w10 ⟨⟨ok, hqv, hok⟩, x10⟩ => ?_
    subst hqv
    rw [may_s hlen hm hs hr] at hok
    refine V_not.2 (ifD.mk (fun hn => ?_) fun hn => ?_)
    · have hnot : ¬ MayS p of r at' := fun h => by have := hok.2 h; subst this; cases hn
      refine V_add.2 ?_
      rw [wrap_id (by omega) (by omega)]
      refine V_eqlI.2 (ifD_dec (fun h7 => ?_) fun h7 => ?_)
      · have h6 : at' = 6 := by omega
        subst h6
        refine ⟨⟨16, rfl, x9.trans x10, .inr (.inr ⟨by omega, ?_, hnot⟩), fun x h1 h2 => by omega⟩, by simp only [intOf_i64]; decide⟩
        rcases hat with h | ⟨_, h⟩ | ⟨h, _⟩
        · omega
        · exact h
        · omega
      · refine ⟨⟨at' + 1, rfl, x9.trans x10, ?_, fun x h1 h2 => ?_⟩, by simp only [intOf_i64]; omega⟩
        · rcases hat with rfl | ⟨h, _⟩ | ⟨h, h1, h2⟩
          · exact .inr (.inl ⟨by omega, hnot⟩)
          · omega
          · exact .inr (.inr ⟨by omega, h1, h2⟩)
        · by_cases hxa : x = at'
          · subst hxa
            refine Classical.byContradiction fun hno => hnot ⟨fun _ => by omega, fun o y hy _ he => hno (he ▸ List.mem_of_getElem? hy)⟩
          · exact hfree x h1 (by omega)
    · have hyes : MayS p of r at' := hok.1 (by simpa using hn)
      have x810 := x9.trans x10
      refine ldB (hx8.ext x810).boxed fa_29_0 l1_27 rfl ?_
      refine stB xa_27 inf3 (hof8.ext x810) (by simp [hlen]) (by omega) (by omega) rfl ?_
      have hx11 : Blk (w10.setCell ⟨w5.heap.size, (r : Int).toNat, none⟩ (i64 at')) w6.heap.size [.slice (some ⟨w5.heap.size, 0, none⟩) R R, i64 slots] 29 := (hx8.ext x810).other (by omega)
      refine ldB hx11.boxed fa_29_1 l1_3 rfl ?_
      refine V_sub.2 (V_add.2 ?_)
      rw [show IntKind.i64.wrap (at' - 16) = at' - 16 from wrap_id (by omega) (by omega), wrap_id (by omega) (by omega)]
      refine mx2 fun c hc1 hc2 hc3 => ?_
      refine stF fa_29_1 inf3 hx11 rfl (by simp) rfl (V_add.2 ?_)
      rw [wrap_id (by omega) (by omega), i64_succ]
      have hcm : c = max slots (at' - 15) := by omega
      subst hcm
      refine ⟨⟨i + 1, of.set r at', _, rfl, by omega, ((x8.trans x810).setCell (Nat.le_refl _) _).setCell (by omega) _, ?_, hx11.set 1 _, hal.step hr hrz hyes (by omega) hat55, qs i of slots r at' hal hq hrz hr hyes hat⟩, by simp only [intOf_i64]; omega⟩
      have h1 := (hof8.ext x810).set r (i64 at')
      have h2 := Blk.other (g' := w6.heap.size) (j := 1) (u := i64 (max slots (at' - 15))) h1 (by omega)
      rw [List.map_set]
      simpa using h2
  · have hin : i = (addAll [] (ordL p R)).length := by omega
    subst hin
    refine ldA hx8.boxed la_29 rfl ?_
    have hzl := hz.lt
    have h25 := x25.size
    refine stA inf29 (hz.ext (x25.trans x8)) (l := [.slice (some ⟨w5.heap.size, 0, none⟩) R R, i64 slots]) rfl rfl rfl rfl fun w' h' hch => ?_
    refine ⟨_, r_var Tryd.underlying29 rfl inf29 h' rfl, ⟨_, rfl⟩, ⟨_, of, slots, rfl, ?_, hal.good hv hR (Nat.le_refl _), hq⟩, hch.ext w (X2.trans (x25.trans x8)) x1.size⟩
    have := (hch.other (by omega) hof8).slice (n := of.length) (by simp) (by unfold maxLen; omega)
    unfold IntsAre
    rw [← hlen]
    exact this
end Go.Proofs.YtjcmcfidblhnnaaDoor
namespace Go.Vc
section
variable {P : Program} {w : World} {K : Value → World → Prop} {S : World → Prop} {L : Value → Prop}
theorem fdA {s f o b off : Nat} (h : FA P s f o) (hk : K (.pointer (some ⟨b, off + o, none⟩)) w) : V P (Instr.fieldAt s (.pointer (some ⟨b, off, none⟩)) f) w K := V.ok (h.ex w b off) hk
theorem yfA {s f o b off : Nat} (h : FA P s f o) (hk : L (.pointer (some ⟨b, off + o, none⟩))) : yieldS P S (Instr.fieldAt s (.pointer (some ⟨b, off, none⟩)) f) L := yieldS.ok (fun w' _ => h.ex w' b off) hk
theorem ldB2 {s f o s' f' o' ft b : Nat} {cs : List Value} {u : Value} (hb : Boxed w b cs) (h : FA P s f o) (h' : FA P s' f' o') (hl : L1 P ft) (hc : cs[o + o']? = some u) (hk : K u w) :
    V P (Instr.fieldAt s (.pointer (some ⟨b, 0, none⟩)) f) w fun q w1 => V P (Instr.fieldAt s' q f') w1 fun q w2 => V P (Instr.loadAt ft q) w2 K := by
  refine V.ok (h.ex w b 0) (ldf h' hl ?_ hk)
  rw [Nat.add_assoc]; exact hb _ u hc
theorem yB2 {s f o s' f' o' ft b : Nat} {cs : List Value} {u : Value} (hb : ∀ w', S w' → Boxed w' b cs) (h : FA P s f o) (h' : FA P s' f' o') (hl : L1 P ft) (hc : cs[o + o']? = some u) (hk : L u) :
    yieldS P S (Instr.fieldAt s (.pointer (some ⟨b, 0, none⟩)) f) fun q => yieldS P S (Instr.fieldAt s' q f') fun q => yieldS P S (Instr.loadAt ft q) L := by
  obtain ⟨d, hd, ha⟩ := hl
  refine yieldS.ok (fun w' _ => h.ex w' b 0) (yieldS.ok (fun w' _ => h'.ex w' b _) (yieldS.ok (fun w' hw => r_load hd ha ?_) hk))
  rw [Nat.add_assoc]; exact hb w' hw _ u hc
theorem stF2 {s f o s' f' o' ft b n by_ : Nat} {z u : Value} {cs : List Value} {e : TypeId} {K' : World → Prop} (hf : FA P s f o) (hf' : FA P s' f' o') (hi : Inf P ft z 1 by_) (hb : Blk w b cs e) (hn : cs.length = n) (ho : o + o' < n) (hu : oneC u = true) (hk : K' (w.setCell ⟨b, o + o', none⟩ u)) :
    V P (Instr.fieldAt s (.pointer (some ⟨b, 0, none⟩)) f) w fun q w1 => V P (Instr.fieldAt s' q f') w1 fun q w2 => U P (Instr.storeAt ft q u) w2 fun _ w3 => K' w3 := by
  refine V.ok (hf.ex w b 0) (V.ok (hf'.ex w b _) ?_)
  have hc := hb.cell (o + o')
  rw [List.getElem?_eq_getElem (by omega)] at hc
  rw [Nat.zero_add]
  exact U.ok (r_store hi hu hc (hb.frozen _)) hk
structure BG (P : Program) (t : TypeId) (zs : List Value) (lay : List (Nat × Nat)) : Prop where
  of ::
  ex : ∃ fs n b, P.underlying t = some (.struct fs) ∧ Inf P t (.agg zs.toArray) n b ∧ ∀ w : World, (fs.mapM (fun f => do pure (f.offset, ← sizeOf f.type)) : Sem (Array (Nat × Nat))).run P w = .ok lay.toArray w
theorem BG.run {t : TypeId} {zs : List Value} {lay : List (Nat × Nat)} (h : BG P t zs lay) {parts : Array (Nat × Value)} {cs : Array Value} (hf : Instr.fill (lay.toArray[·]?) zs.toArray parts.toList = some cs) : (Instr.build t parts).run P w = .ok (.agg cs) w := by
  obtain ⟨fs, n, b, hu, hi, hm⟩ := h
  simp only [Instr.build, Sem.run_bind, run_zero hi, Result.andThen_ok, run_underlying hu, hm, Value.cells]
  rw [hf]; simp
theorem bldG {t : TypeId} {zs : List Value} {lay : List (Nat × Nat)} (h : BG P t zs lay) {parts : Array (Nat × Value)} {cs : Array Value} (hf : Instr.fill (lay.toArray[·]?) zs.toArray parts.toList = some cs) (hk : K (.agg cs) w) : V P (Instr.build t parts) w K := V.ok (h.run hf) hk
theorem yBldG {t : TypeId} {zs : List Value} {lay : List (Nat × Nat)} (h : BG P t zs lay) {parts : Array (Nat × Value)} {cs : Array Value} (hf : Instr.fill (lay.toArray[·]?) zs.toArray parts.toList = some cs) (hk : L (.agg cs)) : yieldS P S (Instr.build t parts) L := yieldS.ok (fun _ _ => h.run hf) hk
end
end Go.Vc
namespace Go.Proofs.YtjcmcfidblhnnaaDoor
open Go.Vc
variable {w : World} {K : Value → World → Prop}
def zItm : List Value := [i64 0, i64 0, i64 0, i64 0, i64 0, i64 0, i64 0, i64 0, i64 0, i64 0, i32 0]
theorem bgItm : BG Tryd.prog 74 zItm [(0, 1), (1, 6), (7, 1), (8, 1), (9, 1), (10, 1)] := ⟨_, _, _, Tryd.underlying74, inf74, fun w => by kernel_rfl⟩
theorem fillOne (i : Tin) : Instr.fill (([(0, 1), (1, 6), (7, 1), (8, 1), (9, 1), (10, 1)] : List (Nat × Nat)).toArray[·]?) zItm.toArray [(0, i64 1), (1, .agg [i64 i.op, i64 i.d, i64 i.n, i64 i.m, i64 i.imm, i64 i.cond].toArray)] = some (Itm.one i).cells.toArray := by kernel_rfl
def Tin.v (i : Tin) : Value := .agg #[i64 i.op, i64 i.d, i64 i.n, i64 i.m, i64 i.imm, i64 i.cond]
structure Ec where
  H : Nat → Prop
  B : Nat
  g : Nat
  pr : Value
  rg : Value
  nv : Value
  ov : Value
  sl : Value
  ap : Int
  fr : Value
  of : List Int
  N : Nat
structure Eo (c : Ec) (wb : World) : Prop where
  gB : c.g < c.B ∧ c.B ≤ wb.heap.size
  hH : ∀ k, c.H k → k < wb.heap.size ∧ k ≠ c.g
  of : ∀ w, Fr (fun k => ¬ c.H k) wb w → IntsAre w c.ov c.of
  nn : ∀ w, Fr (fun k => ¬ c.H k) wb w → ∃ vs, SliceIs w c.nv 1 c.N vs
structure Ew (c : Ec) (wb w : World) (l : List Itm) (ys : List Value) : Prop where
  o : Eo c wb
  fr : Fr (fun k => ¬ c.H k) wb w
  at_ : ∃ iv tv, Blk w c.g [c.pr, c.rg, c.nv, c.ov, c.sl, i64 c.ap, iv, tv, c.fr] 65 ∧ w.ownsRow c.B 74 11 iv l.length (itC l) ∧ w.ownsRow c.B 43 1 tv ys.length ys ∧ (∀ k, iv.ownBlock = some k → ¬ c.H k) ∧ (∀ k, tv.ownBlock = some k → ¬ c.H k)
variable {c : Ec} {wb : World} {l : List Itm} {ys : List Value}
theorem Ew.gH (h : Ew c wb w l ys) : ¬ c.H c.g := fun hg => (h.o.hH _ hg).2 rfl
theorem Ew.ext {w' : World} (h : Ew c wb w l ys) (hx : Ext w w') : Ew c wb w' l ys := by
  obtain ⟨o, fr, iv, tv, a1, a2, a3, a4⟩ := h
  exact ⟨o, fr.trans (Fr.of_ext hx) fun _ _ h => h, iv, tv, a1.ext hx, hx.own a2, hx.own a3, a4⟩
theorem Ew.ofAt (h : Ew c wb w l ys) : IntsAre w c.ov c.of := h.o.of w h.fr
def Ec.hold (c : Ec) (a b : Nat) : Ec := { c with H := fun k => c.H k ∨ (a ≤ k ∧ k < b) }
theorem Ew.hold {w1 : World} (h : Ew c wb w l ys) (hx : Ext w w1) : Ew (c.hold w.heap.size w1.heap.size) w1 w1 l ys := by
  obtain ⟨o, fr, iv, tv, a1, a2, a3, a4, a5⟩ := h
  have f1 : Fr (fun k => ¬ c.H k) wb w1 := fr.trans (Fr.of_ext hx) fun _ _ h => h
  have hg := a1.lt
  have s1 := f1.size
  have fm : ∀ {w'}, Fr (fun k => ¬ (c.hold w.heap.size w1.heap.size).H k) w1 w' → Fr (fun k => ¬ c.H k) wb w' := fun hf => f1.trans (hf.mono fun k hk hc => hk (.inl hc)) fun _ _ h => h
  refine ⟨⟨⟨o.gB.1, Nat.le_trans o.gB.2 s1⟩, fun k hk => ?_, fun w' hf => o.of w' (fm hf), fun w' hf => o.nn w' (fm hf)⟩, Fr.refl _ _, iv, tv, a1.ext hx, hx.own a2, hx.own a3, fun k hk hc => ?_, fun k hk hc => ?_⟩
  · rcases hk with hk | ⟨h1, h2⟩
    · have := o.hH k hk; exact ⟨by omega, this.2⟩
    · exact ⟨h2, by show k ≠ c.g; omega⟩
  · rcases hc with hc | ⟨hc, _⟩
    · exact a4 k hk hc
    · have := (a2.lt k hk).2; omega
  · rcases hc with hc | ⟨hc, _⟩
    · exact a5 k hk hc
    · have := (a3.lt k hk).2; omega
theorem Ew.free {w1 w' : World} {a b : Nat} {l' : List Itm} {ys' : List Value} (h : Ew c wb w l ys) (hx : Ext w w1) (h' : Ew (c.hold a b) w1 w' l' ys') : Ew c wb w' l' ys' := by
  obtain ⟨o, fr, iv, tv, a1, a2, a3, a4, a5⟩ := h'
  exact ⟨h.o, (h.fr.trans (Fr.of_ext hx) fun _ _ h => h).trans (fr.mono fun k hk hc => hk (.inl hc)) fun _ _ h => h, iv, tv, a1, a2, a3, fun k hk hc => a4 k hk (.inl hc), fun k hk hc => a5 k hk (.inl hc)⟩
theorem itC_snoc (l : List Itm) (x : Itm) : itC (l ++ [x]) = itC l ++ x.cells := by simp [itC]
theorem itm_one (x : Itm) : x.cells.all oneC = true := by cases x <;> rfl
structure Er (c : Ec) (wb w : World) (l : List Itm) (ys : List Value) (v : Value) : Prop where
  o : Eo c wb
  fr : Fr (fun k => ¬ c.H k) wb w
  at_ : ∃ iv tv, Blk w c.g [c.pr, c.rg, c.nv, c.ov, c.sl, i64 c.ap, iv, tv, c.fr] 65 ∧ w.ownsRow c.B 74 11 v l.length (itC l) ∧ w.ownsRow c.B 43 1 tv ys.length ys ∧ (∀ k, v.ownBlock = some k → ¬ c.H k) ∧ (∀ k, tv.ownBlock = some k → ¬ c.H k)
theorem litI {x : Itm} {cs : Array Value} (he : cs = x.cells.toArray) (hk : ∀ u w1, w1.ownsRow w.heap.size 74 11 u 1 x.cells → Ext w w1 → K u w1) : V Tryd.prog (Instr.buildSlice 31 1 #[(0, .agg cs)]) w K := by
  subst he
  refine bslG Tryd.underlying31 inf74 rfl (by decide) [.agg x.cells.toArray] rfl rfl (by intro v hv; rw [List.mem_singleton] at hv; subst hv; simpa [Value.cells] using x.len) (by decide) (by decide) fun uv w1 ho1 x1 => ?_
  exact hk uv w1 (by simpa [Value.cells] using ho1) x1
theorem Ew.app {x : Itm} {u iv : Value} {B' : Nat} (h : Ew c wb w l ys) (hl : l.length ≤ 1000000) (hiv : w.cell? ⟨c.g, 6, none⟩ = some iv) (hu : w.ownsRow B' 74 11 u 1 x.cells) (hk : ∀ v w', Er c wb w' (l ++ [x]) ys v → Fr (fun k => iv.ownBlock = some k) w w' → (∀ k, iv.ownBlock = some k → c.B ≤ k ∧ k < w.heap.size) → K v w') :
    V Tryd.prog (Builtin.append_ #[31, 31] 31 #[iv, u]) w K := by
  have hg := h.gH
  obtain ⟨o, fr, iv', tv, a1, a2, a3, a4, a5⟩ := h
  have hgB := o.gB
  have e0 := a1.cell 6
  rw [hiv] at e0
  cases e0
  refine apG Tryd.underlying31 inf74 rfl (by decide) a2 (SliceIs.of_own hu) (itm_one x) (by omega) (by unfold maxLen; omega) (Nat.le_trans hgB.2 fr.size) fun v2 w2 ho2 hg2 hl2 => ?_
  have f2 : Fr (fun k => iv.ownBlock = some k) w w2 := Fr.of_grown hg2 fun k hk => hk
  have hlo : ∀ k, iv.ownBlock = some k → c.B ≤ k ∧ k < w.heap.size := fun k hk => a2.lt k hk
  rw [← itC_snoc] at ho2
  refine hk v2 w2 ⟨o, fr.trans (f2.mono fun k hk => a4 k hk) fun _ _ h => h, iv, tv, f2.blk a1 fun hk => ?_, by rw [List.length_append]; exact ho2, f2.own a3 fun k hk hk' => ?_, fun k hk => ?_, a5⟩ f2 hlo
  · have := hlo _ hk; omega
  · rcases own_ty a3 a2 (by decide) with h | h
    · rw [h] at hk; cases hk
    · exact h (by rw [hk, hk'])
  · rcases hl2 with h2 | h2
    · rw [h2] at hk; exact a4 k hk
    · rw [h2] at hk
      cases hk
      intro hH
      have h1 := (o.hH _ hH).1
      have h3 := fr.size
      omega
theorem Er.put {v : Value} {K' : World → Prop} (h : Er c wb w l ys v) (hk : ∀ w', Ew c wb w' l ys → K' w') : U Tryd.prog (Instr.storeAt 31 (.pointer (some ⟨c.g, 6, none⟩)) v) w fun _ w2 => K' w2 := by
  obtain ⟨o, fr, iv, tv, a1, a2, a3, a4, a5⟩ := h
  have hgB := o.gB
  have hg : ¬ c.H c.g := fun hg => (o.hH _ hg).2 rfl
  have f : Fr (fun k => k = c.g) w (w.setCell ⟨c.g, 6, none⟩ v) := Fr.of_set rfl
  refine U.ok (r_store inf31 (own1' a2) (a1.cell 6) (a1.frozen _)) (hk _ ⟨o, fr.set hg, v, tv, a1.set 6 _, f.own a2 fun k hk he => ?_, f.own a3 fun k hk he => ?_, a4, a5⟩)
  · have := (a2.lt k hk).1; omega
  · have := (a3.lt k hk).1; omega
theorem Ew.items (h : Ew c wb w l ys) : ∃ iv tv, w.cell? ⟨c.g, 6, none⟩ = some iv ∧ Blk w c.g [c.pr, c.rg, c.nv, c.ov, c.sl, i64 c.ap, iv, tv, c.fr] 65 := by
  obtain ⟨o, fr, iv, tv, a1, _⟩ := h
  exact ⟨iv, tv, a1.cell 6, a1⟩
theorem Ew.push {x : Itm} {cs : Array Value} {K' : World → Prop} (he : cs = x.cells.toArray) (h : Ew c wb w l ys) (hl : l.length ≤ 1000000) (hk : ∀ w', Ew c wb w' (l ++ [x]) ys → K' w') {iv : Value} (hiv : w.cell? ⟨c.g, 6, none⟩ = some iv) :
    V Tryd.prog (Instr.buildSlice 31 1 #[(0, .agg cs)]) w fun u w1 => V Tryd.prog (Builtin.append_ #[31, 31] 31 #[iv, u]) w1 fun t2 w2 =>
    Go.Vc.Safe (.pointer (some ⟨c.g, 0, none⟩)) ∧ V Tryd.prog (Instr.fieldAt 65 (.pointer (some ⟨c.g, 0, none⟩)) 3) w2 fun q w3 => V Tryd.prog (Instr.fieldAt 33 q 0) w3 fun q w4 => U Tryd.prog (Instr.storeAt 31 q t2) w4 fun _ w5 => K' w5 := by
  refine litI he fun _ _ ho1 x1 => ?_
  refine (h.ext x1).app hl (x1.cell hiv) ho1 fun _ _ hr _ _ => ⟨.inl ⟨_, rfl⟩, ?_⟩
  refine fdA fa_65_3 (fdA fa_33_0 ?_)
  have := hr.put hk
  exact this
theorem one51 {i : Tin} (h : Ew c wb w l ys) (hl : l.length ≤ 1000000) (hk : ∀ w', Ew c wb w' (l ++ [.one i]) ys → K (.tuple #[]) w') : callD Tryd.prog 51 #[.pointer (some ⟨c.g, 0, none⟩), i.v] w K := by
  apply F51_wp
  unfold F51_den
  refine bxK fun w1 hb x1 => ?_
  have hb : Blk w1 w.heap.size [i64 i.op, i64 i.d, i64 i.n, i64 i.m, i64 i.imm, i64 i.cond] 72 := hb
  have h2 := h.ext x1.drew
  obtain ⟨iv, tv, e1, e2⟩ := h2.items
  refine drawD.mk' (fun w' => Boxed w' c.g [c.pr, c.rg, c.nv, c.ov, c.sl, i64 c.ap, iv, tv, c.fr] ∧ Boxed w' w.heap.size [i64 i.op, i64 i.d, i64 i.n, i64 i.m, i64 i.imm, i64 i.cond]) ⟨e2.boxed, (hb.drew).boxed⟩ ?_
  refine ⟨.inl ⟨_, rfl⟩, yB2 (fun w' hx => hx.1) fa_65_3 fa_33_0 l1_31 rfl ?_⟩
  refine yA (fun w' hx => hx.2) la_72 rfl (yBldG bgItm (fillOne i) ?_)
  refine litI (x := .one i) rfl fun u w3 ho3 x3 => ⟨⟨(e2.ext x3).boxed, (hb.drew.ext x3).boxed⟩, ?_⟩
  have lo : ∀ k, iv.ownBlock = some k → k < w.heap.size ∧ k ≠ c.g := fun k hk => by
    obtain ⟨iv0, tv0, e3, e4⟩ := h.items
    have e5 := (x1.drew).cell e3
    rw [e1] at e5
    cases e5
    obtain ⟨o, _, iv', tv', b1, b2, _⟩ := h
    have e6 := b1.cell 6
    rw [e3] at e6
    cases e6
    have := (b2.lt _ hk); have := o.gB; omega
  refine (h2.ext x3).app hl (x3.cell e1) ho3 fun v w4 hr f4 _ => ⟨⟨?_, ?_⟩, .inl ⟨_, rfl⟩, ?_⟩
  · exact (f4.blk (e2.ext x3) fun hk => (lo _ hk).2 rfl).boxed
  · exact (f4.blk (hb.drew.ext x3) fun hk => by have := (lo _ hk).1; omega).boxed
  · refine yfA fa_65_3 (yfA fa_33_0 ?_)
    have := hr.put hk
    exact this
theorem place19 {q : Int} (h : Ew c wb w l ys) (hl : l.length ≤ 1000000) (hk : ∀ w', Ew c wb w' (l ++ [.place q]) ys → K (.tuple #[]) w') : callD Tryd.prog 19 #[.pointer (some ⟨c.g, 0, none⟩), i64 q] w K := by
  apply F19_wp
  unfold F19_den
  obtain ⟨iv, tv, e1, e2⟩ := h.items
  refine ⟨.inl ⟨_, rfl⟩, ldB2 e2.boxed fa_65_3 fa_33_0 l1_31 rfl ?_⟩
  refine bldG bgItm rfl ?_
  exact h.push rfl hl hk e1
theorem jump49 {q d : Int} (h : Ew c wb w l ys) (hl : l.length ≤ 1000000) (hk : ∀ w', Ew c wb w' (l ++ [.jump d q]) ys → K (.tuple #[]) w') : callD Tryd.prog 49 #[.pointer (some ⟨c.g, 0, none⟩), i64 d, i64 q] w K := by
  apply F49_wp
  unfold F49_den
  obtain ⟨iv, tv, e1, e2⟩ := h.items
  refine ⟨.inl ⟨_, rfl⟩, ldB2 e2.boxed fa_65_3 fa_33_0 l1_31 rfl ?_⟩
  refine bldG bgItm rfl ?_
  exact h.push rfl hl hk e1
theorem number42 {q d : Int} (h : Ew c wb w l ys) (hl : l.length ≤ 1000000) (hk : ∀ w', Ew c wb w' (l ++ [.load d q]) ys → K (.tuple #[]) w') : callD Tryd.prog 42 #[.pointer (some ⟨c.g, 0, none⟩), i64 d, i32 q] w K := by
  apply F42_wp
  unfold F42_den
  obtain ⟨iv, tv, e1, e2⟩ := h.items
  refine ⟨.inl ⟨_, rfl⟩, ldB2 e2.boxed fa_65_3 fa_33_0 l1_31 rfl ?_⟩
  refine bldG bgItm rfl ?_
  exact h.push rfl hl hk e1
theorem two40 {op d m : Int} (h : Ew c wb w l ys) (hl : l.length ≤ 1000000) (hk : ∀ w', Ew c wb w' (l ++ [eTwo op d m]) ys → K (.tuple #[]) w') : callD Tryd.prog 40 #[.pointer (some ⟨c.g, 0, none⟩), i64 op, i64 d, i64 m] w K := by
  apply F40_wp
  unfold F40_den
  refine bld bd_72 [(0, i64 op), (1, i64 d), (3, i64 m)] rfl rfl ?_
  exact one51 (i := ⟨op, d, 0, m, 0, 0⟩) h hl hk
theorem small41 {op d m : Int} (h : Ew c wb w l ys) (hl : l.length ≤ 1000000) (hk : ∀ w', Ew c wb w' (l ++ [eSmall op d m]) ys → K (.tuple #[]) w') : callD Tryd.prog 41 #[.pointer (some ⟨c.g, 0, none⟩), i64 op, i64 d, i64 m] w K := by
  apply F41_wp
  unfold F41_den
  refine bld bd_72 [(0, i64 op), (1, i64 d), (4, i64 m)] rfl rfl ?_
  exact one51 (i := ⟨op, d, 0, 0, m, 0⟩) h hl hk
structure Emits (c : Ec) (wb : World) (f : FuncId) (args : Array Value) (xs : List Itm) : Prop where
  run : ∀ {w : World} {l : List Itm} {ys : List Value} {K : Value → World → Prop}, Ew c wb w l ys → l.length + xs.length ≤ 900000 → (∀ w', Ew c wb w' (l ++ xs) ys → K (.tuple #[]) w') → callD Tryd.prog f args w K
theorem Ew.oAt (h : Ew c wb w l ys) : ∃ cs, Boxed w c.g cs ∧ cs[3]? = some c.ov ∧ cs[5]? = some (i64 c.ap) ∧ cs[2]? = some c.nv := by
  obtain ⟨iv, tv, e1, e2⟩ := h.items
  exact ⟨_, e2.boxed, rfl, rfl, rfl⟩
theorem load63 {reg r : Int} (hr0 : 0 ≤ r) (hr1 : r < c.of.length) (hb : ∀ a ∈ c.of, 0 ≤ a ∧ a < 1000) : Emits c wb 63 #[.pointer (some ⟨c.g, 0, none⟩), i64 reg, i64 r] [eLd c.of reg r] := by
  refine ⟨fun {w l ys K} h hl hk => ?_⟩
  apply F63_wp
  unfold F63_den
  obtain ⟨cs, e1, e2, _⟩ := h.oAt
  obtain ⟨r, rfl⟩ : ∃ k : Nat, r = k := ⟨r.toNat, by omega⟩
  obtain ⟨a, ha⟩ := ex_get (l := c.of) (j := r) (by omega)
  have hab := hb a (List.mem_of_getElem? ha)
  have hd : c.of.getD ((r : Int)).toNat 0 = a := by rw [List.getD_eq_getElem?_getD, Int.toNat_natCast, ha]; rfl
  refine ⟨.inl ⟨_, rfl⟩, ldB2 e1 fa_65_1 fa_29_0 l1_27 e2 ?_⟩
  refine ldx xa_27 l1_3 h.ofAt (by omega) (by omega) (getI ha) (V_lss.2 (ifD_dec (fun hlt => ?_) fun hge => ?_))
  · refine two40 h (by omega) fun w' h' => hk w' ?_
    unfold eLd; dsimp only; rw [hd, if_pos hlt]; exact h'
  · refine V_sub.2 ?_
    rw [wrap_id (by omega) (by omega)]
    refine V_mul.2 ?_
    rw [wrap_id (by omega) (by omega)]
    refine small41 h (by omega) fun w' h' => hk w' ?_
    unfold eLd; dsimp only; rw [hd, if_neg hge]; exact h'
theorem store18 {reg r : Int} (hr0 : 0 ≤ r) (hr1 : r < c.of.length) (hb : ∀ a ∈ c.of, 0 ≤ a ∧ a < 1000) : Emits c wb 18 #[.pointer (some ⟨c.g, 0, none⟩), i64 r, i64 reg] [eSt c.of r reg] := by
  refine ⟨fun {w l ys K} h hl hk => ?_⟩
  apply F18_wp
  unfold F18_den
  obtain ⟨cs, e1, e2, _⟩ := h.oAt
  obtain ⟨r, rfl⟩ : ∃ k : Nat, r = k := ⟨r.toNat, by omega⟩
  obtain ⟨a, ha⟩ := ex_get (l := c.of) (j := r) (by omega)
  have hab := hb a (List.mem_of_getElem? ha)
  have hd : c.of.getD ((r : Int)).toNat 0 = a := by rw [List.getD_eq_getElem?_getD, Int.toNat_natCast, ha]; rfl
  refine ⟨.inl ⟨_, rfl⟩, ldB2 e1 fa_65_1 fa_29_0 l1_27 e2 ?_⟩
  refine ldx xa_27 l1_3 h.ofAt (by omega) (by omega) (getI ha) (V_lss.2 (ifD_dec (fun hlt => ?_) fun hge => ?_))
  · refine two40 h (by omega) fun w' h' => hk w' ?_
    unfold eSt; dsimp only; rw [hd, if_pos hlt]; exact h'
  · refine V_sub.2 ?_
    rw [wrap_id (by omega) (by omega)]
    refine V_mul.2 ?_
    rw [wrap_id (by omega) (by omega)]
    refine small41 h (by omega) fun w' h' => hk w' ?_
    unfold eSt; dsimp only; rw [hd, if_neg hge]; exact h'
end Go.Proofs.YtjcmcfidblhnnaaDoor
namespace Go.Proofs.YtjcmcfidblhnnaaDoor
open Go.Vc
variable {w : World} {K : Value → World → Prop} {c : Ec} {wb : World} {l : List Itm} {ys : List Value}
theorem one_e (i : Tin) : Emits c wb 51 #[.pointer (some ⟨c.g, 0, none⟩), i.v] [.one i] := ⟨fun h hl hk => one51 h (by omega) hk⟩
theorem two_e (op d m : Int) : Emits c wb 40 #[.pointer (some ⟨c.g, 0, none⟩), i64 op, i64 d, i64 m] [eTwo op d m] := ⟨fun h hl hk => two40 h (by omega) hk⟩
theorem small_e (op d m : Int) : Emits c wb 41 #[.pointer (some ⟨c.g, 0, none⟩), i64 op, i64 d, i64 m] [eSmall op d m] := ⟨fun h hl hk => small41 h (by omega) hk⟩
theorem jump_e (d q : Int) : Emits c wb 49 #[.pointer (some ⟨c.g, 0, none⟩), i64 d, i64 q] [.jump d q] := ⟨fun h hl hk => jump49 h (by omega) hk⟩
theorem place_e (q : Int) : Emits c wb 19 #[.pointer (some ⟨c.g, 0, none⟩), i64 q] [.place q] := ⟨fun h hl hk => place19 h (by omega) hk⟩
theorem number_e (d q : Int) : Emits c wb 42 #[.pointer (some ⟨c.g, 0, none⟩), i64 d, i32 q] [.load d q] := ⟨fun h hl hk => number42 h (by omega) hk⟩
theorem Emits.go {f : FuncId} {args : Array Value} {xs rs ms l' : List Itm} (he : Emits c wb f args xs) (h : Ew c wb w l' ys) (hm : l' ++ xs ++ rs = l ++ ms) (hl : l.length + ms.length ≤ 900000) (hk : ∀ w', Ew c wb w' (l' ++ xs) ys → K (.tuple #[]) w') : callD Tryd.prog f args w K := by
  refine he.run h ?_ hk
  have := congrArg List.length hm
  simp only [List.length_append] at this
  omega
theorem carry74 : Emits c wb 74 #[.pointer (some ⟨c.g, 0, none⟩)] (eCarry) := by
  refine ⟨fun {w l ys K} h hl hk => ?_⟩
  apply F74_wp
  unfold F74_den
  refine (small_e 8 0 0).go (l := l) (ms := eCarry) (rs := [eTwo 17 0 0]) h (by simp [eCarry]) hl fun w h => ?_
  refine (two_e 17 0 0).go (l := l) (ms := eCarry) (rs := []) h (by simp [eCarry]) hl fun w h => ?_
  refine hk w ?_
  simpa [eCarry] using h
theorem below67 : Emits c wb 67 #[.pointer (some ⟨c.g, 0, none⟩)] (eBelow) := by
  refine ⟨fun {w l ys K} h hl hk => ?_⟩
  apply F67_wp
  unfold F67_den
  refine (two_e 22 0 1).go (l := l) (ms := eBelow) (rs := [eTwo 18 0 0] ++ [eTwo 21 0 0]) h (by simp [eBelow]) hl fun w h => ?_
  refine (two_e 18 0 0).go (l := l) (ms := eBelow) (rs := [eTwo 21 0 0]) h (by simp [eBelow]) hl fun w h => ?_
  refine (two_e 21 0 0).go (l := l) (ms := eBelow) (rs := []) h (by simp [eBelow]) hl fun w h => ?_
  refine hk w ?_
  simpa [eBelow] using h
theorem zero66 : Emits c wb 66 #[.pointer (some ⟨c.g, 0, none⟩)] (eZero) := by
  refine ⟨fun {w l ys K} h hl hk => ?_⟩
  apply F66_wp
  unfold F66_den
  refine (two_e 21 0 0).go (l := l) (ms := eZero) (rs := eCarry) h (by simp [eZero]) hl fun w h => ?_
  refine (carry74).go (l := l) (ms := eZero) (rs := []) h (by simp [eZero]) hl fun w h => ?_
  refine hk w ?_
  simpa [eZero] using h
theorem shift65 (op : Int) : Emits c wb 65 #[.pointer (some ⟨c.g, 0, none⟩), i64 op] (eShift op) := by
  refine ⟨fun {w l ys K} h hl hk => ?_⟩
  apply F65_wp
  unfold F65_den
  refine (small_e 8 2 31).go (l := l) (ms := eShift op) (rs := [eTwo 12 1 2] ++ [eTwo op 0 1]) h (by simp [eShift]) hl fun w h => ?_
  refine (two_e 12 1 2).go (l := l) (ms := eShift op) (rs := [eTwo op 0 1]) h (by simp [eShift]) hl fun w h => ?_
  refine (two_e op 0 1).go (l := l) (ms := eShift op) (rs := []) h (by simp [eShift]) hl fun w h => ?_
  refine hk w ?_
  simpa [eShift] using h
theorem choose47 : Emits c wb 47 #[.pointer (some ⟨c.g, 0, none⟩)] (eChoose) := by
  refine ⟨fun {w l ys K} h hl hk => ?_⟩
  apply F47_wp
  unfold F47_den
  refine (two_e 21 0 0).go (l := l) (ms := eChoose) (rs := [eTwo 18 0 0] ++ [eTwo 13 1 2] ++ [eTwo 12 0 1] ++ [eTwo 13 0 2]) h (by simp [eChoose]) hl fun w h => ?_
  refine (two_e 18 0 0).go (l := l) (ms := eChoose) (rs := [eTwo 13 1 2] ++ [eTwo 12 0 1] ++ [eTwo 13 0 2]) h (by simp [eChoose]) hl fun w h => ?_
  refine (two_e 13 1 2).go (l := l) (ms := eChoose) (rs := [eTwo 12 0 1] ++ [eTwo 13 0 2]) h (by simp [eChoose]) hl fun w h => ?_
  refine (two_e 12 0 1).go (l := l) (ms := eChoose) (rs := [eTwo 13 0 2]) h (by simp [eChoose]) hl fun w h => ?_
  refine (two_e 13 0 2).go (l := l) (ms := eChoose) (rs := []) h (by simp [eChoose]) hl fun w h => ?_
  refine hk w ?_
  simpa [eChoose] using h
theorem tick48 (q : Int) : Emits c wb 48 #[.pointer (some ⟨c.g, 0, none⟩), i64 q] (eTick q) := by
  refine ⟨fun {w l ys K} h hl hk => ?_⟩
  apply F48_wp
  unfold F48_den
  refine (small_e 9 7 0).go (l := l) (ms := eTick q) (rs := [Itm.jump 1 q] ++ [Itm.one ⟨44, 0, 0, 0, 0, 0⟩] ++ [Itm.place q] ++ [eSmall 11 7 1]) h (by simp [eTick]) hl fun w h => ?_
  refine (jump_e 1 q).go (l := l) (ms := eTick q) (rs := [Itm.one ⟨44, 0, 0, 0, 0, 0⟩] ++ [Itm.place q] ++ [eSmall 11 7 1]) h (by simp [eTick]) hl fun w h => ?_
  refine bld bd_72 [(0, i64 44)] rfl rfl ?_
  refine (one_e ⟨44, 0, 0, 0, 0, 0⟩).go (l := l) (ms := eTick q) (rs := [Itm.place q] ++ [eSmall 11 7 1]) h (by simp [eTick]) hl fun w h => ?_
  refine (place_e q).go (l := l) (ms := eTick q) (rs := [eSmall 11 7 1]) h (by simp [eTick]) hl fun w h => ?_
  refine (small_e 11 7 1).go (l := l) (ms := eTick q) (rs := []) h (by simp [eTick]) hl fun w h => ?_
  refine hk w ?_
  simpa [eTick] using h
theorem bin45 (op : Int) : Emits c wb 45 #[.pointer (some ⟨c.g, 0, none⟩), i64 op] (eBin op) := by
  refine ⟨fun {w l ys K} h hl hk => ?_⟩
  apply F45_wp
  unfold F45_den
  refine V_eqlI.2 (ifD_dec (fun e => ?_) fun e6 => ?_)
  · have ee : eBin op = eBin 6 := by rw [e]
    rw [ee] at hl hk
    refine bld bd_72 [(0, i64 4), (1, i64 0), (2, i64 0), (3, i64 1)] rfl rfl ?_
    exact (one_e ⟨4, 0, 0, 1, 0, 0⟩).run h hl hk
  refine V_eqlI.2 (ifD_dec (fun e => ?_) fun e7 => ?_)
  · have ee : eBin op = eBin 7 := by rw [e]
    rw [ee] at hl hk
    refine bld bd_72 [(0, i64 5), (1, i64 0), (2, i64 0), (3, i64 1)] rfl rfl ?_
    exact (one_e ⟨5, 0, 0, 1, 0, 0⟩).run h hl hk
  refine V_eqlI.2 (ifD_dec (fun e => ?_) fun e8 => ?_)
  · have ee : eBin op = eBin 8 := by rw [e]
    rw [ee] at hl hk
    exact (two_e 25 0 1).run h hl hk
  refine V_eqlI.2 (ifD_dec (fun e => ?_) fun e9 => ?_)
  · have ee : eBin op = eBin 9 := by rw [e]
    rw [ee] at hl hk
    exact (two_e 12 0 1).run h hl hk
  refine V_eqlI.2 (ifD_dec (fun e => ?_) fun e10 => ?_)
  · have ee : eBin op = eBin 10 := by rw [e]
    rw [ee] at hl hk
    exact (two_e 24 0 1).run h hl hk
  refine V_eqlI.2 (ifD_dec (fun e => ?_) fun e11 => ?_)
  · have ee : eBin op = eBin 11 := by rw [e]
    rw [ee] at hl hk
    exact (two_e 13 0 1).run h hl hk
  refine V_eqlI.2 (ifD_dec (fun e => ?_) fun e12 => ?_)
  · have ee : eBin op = eBin 12 := by rw [e]
    rw [ee] at hl hk
    exact (shift65 14).run h hl hk
  refine V_eqlI.2 (ifD_dec (fun e => ?_) fun e13 => ?_)
  · have ee : eBin op = eBin 13 := by rw [e]
    rw [ee] at hl hk
    exact (shift65 15).run h hl hk
  refine V_eqlI.2 (ifD_dec (fun e => ?_) fun e14 => ?_)
  · have ee : eBin op = eBin 14 := by rw [e]
    rw [ee] at hl hk
    exact (shift65 16).run h hl hk
  refine V_eqlI.2 (ifD_dec (fun e => ?_) fun e19 => ?_)
  · have ee : eBin op = .one ⟨5, 0, 0, 1, 0, 0⟩ :: eZero := by rw [e]; rfl
    rw [ee] at hl hk
    refine bld bd_72 [(0, i64 5), (1, i64 0), (2, i64 0), (3, i64 1)] rfl rfl ?_
    refine (one_e ⟨5, 0, 0, 1, 0, 0⟩).go (l := l) (ms := .one ⟨5, 0, 0, 1, 0, 0⟩ :: eZero) (rs := eZero) h (by simp) hl fun w h => ?_
    refine zero66.go (l := l) (ms := .one ⟨5, 0, 0, 1, 0, 0⟩ :: eZero) (rs := []) h (by simp) hl fun w h => hk w ?_
    simpa using h
  refine V_eqlI.2 (ifD_dec (fun e => ?_) fun e20 => ?_)
  · have ee : eBin op = .load 2 (-2147483648) :: eTwo 13 0 2 :: eTwo 13 1 2 :: eBelow := by rw [e]; rfl
    rw [ee] at hl hk
    refine (number_e 2 (-2147483648)).go (l := l) (ms := .load 2 (-2147483648) :: eTwo 13 0 2 :: eTwo 13 1 2 :: eBelow) (rs := eTwo 13 0 2 :: eTwo 13 1 2 :: eBelow) h (by simp) hl fun w h => ?_
    refine (two_e 13 0 2).go (l := l) (ms := .load 2 (-2147483648) :: eTwo 13 0 2 :: eTwo 13 1 2 :: eBelow) (rs := eTwo 13 1 2 :: eBelow) h (by simp) hl fun w h => ?_
    refine (two_e 13 1 2).go (l := l) (ms := .load 2 (-2147483648) :: eTwo 13 0 2 :: eTwo 13 1 2 :: eBelow) (rs := eBelow) h (by simp) hl fun w h => ?_
    refine (below67).go (l := l) (ms := .load 2 (-2147483648) :: eTwo 13 0 2 :: eTwo 13 1 2 :: eBelow) (rs := []) h (by simp) hl fun w h => ?_
    refine hk w ?_
    simpa using h
  have ee : eBin op = eBelow := by unfold eBin; simp only [e6, e7, e8, e9, e10, e11, e12, e13, e14, e19, e20, if_false]
  rw [ee] at hl hk
  exact (below67).run h hl hk
theorem un46 (op : Int) : Emits c wb 46 #[.pointer (some ⟨c.g, 0, none⟩), i64 op] (eUn op) := by
  refine ⟨fun {w l ys K} h hl hk => ?_⟩
  apply F46_wp
  unfold F46_den
  unfold eUn at hl hk
  refine V_eqlI.2 (ifD_dec (fun e => ?_) fun e15 => ?_)
  · rw [if_pos e] at hl hk; exact (two_e 21 0 0).run h hl hk
  rw [if_neg e15] at hl hk
  refine V_eqlI.2 (ifD_dec (fun e => ?_) fun e16 => ?_)
  · rw [if_pos e] at hl hk; exact (two_e 27 0 0).run h hl hk
  rw [if_neg e16] at hl hk
  exact (zero66).run h hl hk
theorem field50 (ha : 0 ≤ c.ap ∧ c.ap < 4) : Emits c wb 50 #[.pointer (some ⟨c.g, 0, none⟩)] [eField c.ap] := by
  refine ⟨fun {w l ys K} h hl hk => ?_⟩
  apply F50_wp
  unfold F50_den
  obtain ⟨cs, e1, _, e2, _⟩ := h.oAt
  refine ⟨.inl ⟨_, rfl⟩, ldB e1 fa_65_2 l1_3 e2 (V_mul.2 ?_)⟩
  rw [wrap_id (by omega) (by omega)]
  refine V_add.2 ?_
  rw [wrap_id (by omega) (by omega)]
  refine V.ok (r_convI Tryd.underlying3 Tryd.underlying21) ?_
  exact (number_e _ _).run h hl hk
theorem eLds_snoc {of l : List Int} {j : Nat} {r : Int} (h : l[j]? = some r) : eLds of (l.take (j + 1)) = eLds of (l.take j) ++ [eLd of (j : Int) r] := by
  obtain ⟨hj, rfl⟩ := List.getElem?_eq_some_iff.1 h
  have e : (l.take j).length = j := by simp; omega
  have e1 : (l.take (j + 1)).length = j + 1 := by simp; omega
  unfold eLds
  rw [e1, e, List.range_succ, List.map_append]
  congr 1
  · apply List.map_congr_left
    intro k hk
    have hk := List.mem_range.1 hk
    simp [List.getD_eq_getElem?_getD, hk, Nat.lt_succ_of_lt hk]
  · simp [List.getD_eq_getElem?_getD, hj]
theorem loads43 {rv : Value} {rs : List Int} (hs : ∀ w, Fr (fun k => ¬ c.H k) wb w → IntsAre w rv rs) (hr : ∀ r ∈ rs, 0 ≤ r ∧ r < c.of.length) (hb : ∀ a ∈ c.of, 0 ≤ a ∧ a < 1000) : Emits c wb 43 #[.pointer (some ⟨c.g, 0, none⟩), rv] (eLds c.of rs) := by
  refine ⟨fun {w l ys K} h hl hk => ?_⟩
  apply F43_wp
  unfold F43_den
  have hll : (eLds c.of rs).length = rs.length := by simp [eLds]
  refine lnx xa_27 (hs w h.fr) ?_
  refine ⟨fun v w' => ∃ j : Nat, v = i64 j ∧ j ≤ rs.length ∧ Ew c wb w' (l ++ eLds c.of (rs.take j)) ys, fun v _ => rs.length - (RowKit.intOf v).toNat, ⟨0, rfl, Nat.zero_le _, by simpa [eLds] using h⟩, ?_⟩
  rintro _ w1 ⟨j, rfl, hj, h1⟩ _
  refine V_lss.2 (ifD_dec (fun hlt => ?_) fun hge => ?_)
  · obtain ⟨r, hrj⟩ := ex_get (l := rs) (j := j) (by omega)
    obtain ⟨q1, q2⟩ := hr r (List.mem_of_getElem? hrj)
    refine ldx xa_27 l1_3 (hs w1 h1.fr) (by omega) (by omega) (getI hrj) ?_
    refine (load63 q1 q2 hb).run h1 (by simp [eLds]; omega) fun w2 h2 => V_add.2 ?_
    rw [wrap_id (by omega) (by omega), i64_succ]
    rw [List.append_assoc, ← eLds_snoc hrj] at h2
    exact ⟨⟨j + 1, rfl, by omega, h2⟩, by simp only [intOf_i64]; omega⟩
  · have e : rs.take j = rs := List.take_of_length_le (by omega)
    rw [e] at h1
    exact hk w1 h1
end Go.Proofs.YtjcmcfidblhnnaaDoor
namespace Go.Proofs.YtjcmcfidblhnnaaDoor
open Go.Vc
variable {w : World} {K : Value → World → Prop} {c : Ec} {wb : World} {l : List Itm} {ys : List Value}
structure OfB (of : List Int) : Prop where
  b : ∀ a ∈ of, 0 ≤ a ∧ a < 1000
theorem uloads {n : GNode} {v : Value} (h : Ew c wb w l ys) (hn : NodeIs w v n) (ha : n.args.length ≤ 4294967296) (hr : ∀ r ∈ n.us, 0 ≤ r ∧ r < c.of.length) (hb : OfB c.of) (hl : l.length + n.us.length ≤ 900000) (hk : ∀ w', Ew c wb w' (l ++ eLds c.of n.us) ys → K (.tuple #[]) w') :
    callD Tryd.prog 44 #[v] w fun t w1 => callD Tryd.prog 43 #[.pointer (some ⟨c.g, 0, none⟩), t] w1 K := by
  refine (uses_ok hn ha).mono fun r w1 ⟨ho, x1⟩ => ?_
  have h1 := h.hold x1
  refine (loads43 (c := c.hold w.heap.size w1.heap.size) (wb := w1) (rs := n.us) (fun w2 f => SliceIs.of_own (f.own ho fun k hk hS => hS (.inr (ho.lt k hk)))) hr hb.b).run h1 (by simp only [eLds, List.length_map, List.length_range]; exact hl) fun w2 h2 => hk w2 (h.free x1 h2)
theorem Ew.tab (h : Ew c wb w l ys) : ∃ iv tv, Blk w c.g [c.pr, c.rg, c.nv, c.ov, c.sl, i64 c.ap, iv, tv, c.fr] 65 ∧ w.ownsRow c.B 43 1 tv ys.length ys := by
  obtain ⟨o, fr, iv, tv, a1, _, a3, _⟩ := h
  exact ⟨iv, tv, a1, a3⟩
theorem Ew.pushT {v tv : Value} {iv : Value} {K' : World → Prop} (h : Ew c wb w l ys) (h1 : oneC v = true) (hy : ys.length ≤ 100000) (hB : Blk w c.g [c.pr, c.rg, c.nv, c.ov, c.sl, i64 c.ap, iv, tv, c.fr] 65) (hk : ∀ w', Ew c wb w' l (ys ++ [v]) → K' w') :
    V Tryd.prog (Instr.buildSlice 23 1 #[(0, v)]) w fun u w1 => V Tryd.prog (Builtin.append_ #[23, 23] 23 #[tv, u]) w1 fun t2 w2 =>
    Go.Vc.Safe (.pointer (some ⟨c.g, 0, none⟩)) ∧ V Tryd.prog (Instr.fieldAt 65 (.pointer (some ⟨c.g, 0, none⟩)) 3) w2 fun q w3 => V Tryd.prog (Instr.fieldAt 33 q 1) w3 fun q w4 => U Tryd.prog (Instr.storeAt 23 q t2) w4 fun _ w5 => K' w5 := by
  have hg := h.gH
  obtain ⟨o, fr, iv', tv', a1, a2, a3, a4, a5⟩ := h
  have hgB := o.gB
  have e6 := hB.cell 6
  have e7 := hB.cell 7
  rw [a1.cell 6] at e6
  rw [a1.cell 7] at e7
  cases e6; cases e7
  refine bsl xe_23 [v] rfl rfl (by simp) (by simpa using h1) fun u w1 ho1 x1 => ?_
  have s1 := x1.size
  have s0 := fr.size
  refine apG Tryd.underlying23 inf43 rfl (by decide) (x1.own a3) (SliceIs.of_own ho1) (by simpa using h1) (by omega) (by unfold maxLen; omega) (by omega) fun tv2 w2 ho2 hg2 hl2 => ?_
  have f2 : Fr (fun k => tv.ownBlock = some k) w1 w2 := Fr.of_grown hg2 fun k hk => hk
  have a1' := f2.blk (a1.ext x1) fun hk => by have := a3.lt _ hk; omega
  have a2' := f2.own (x1.own a2) fun k hk hk' => by
    rcases own_ty a3 a2 (by decide) with h | h
    · rw [h] at hk'; cases hk'
    · exact h (by rw [hk, hk'])
  have fr2 : Fr (fun k => ¬ c.H k) wb w2 := (fr.trans (Fr.of_ext x1) fun _ _ h => h).trans (f2.mono fun k hk => a5 k hk) fun _ _ h => h
  refine ⟨.inl ⟨_, rfl⟩, ?_⟩
  refine stF2 fa_65_3 fa_33_1 inf23 a1' (n := 9) rfl (by decide) (own1' ho2) ?_
  refine hk _ ⟨o, fr2.set hg, iv, tv2, a1'.set 7 _, ?_, ?_, a4, fun k hk => ?_⟩
  · exact (Fr.of_set (S := fun i => i = c.g) rfl).own a2' fun k hk he => by have := (a2'.lt k hk).1; omega
  · rw [List.length_append]
    exact (Fr.of_set (S := fun i => i = c.g) rfl).own ho2 fun k hk he => by have := (ho2.lt k hk).1; omega
  · rcases hl2 with h2 | h2
    · rw [h2] at hk; exact a5 k hk
    · rw [h2] at hk
      cases hk
      intro hH
      have h1 := (o.hH _ hH).1
      omega
theorem nodeIs_one {n : GNode} {v : Value} (h : NodeIs w v n) : oneC v = true := by
  obtain ⟨sv, rfl, _⟩ := h
  cases n <;> rfl
structure RegB (n : GNode) (R : Nat) : Prop where
  u : ∀ r ∈ n.us, 0 ≤ r ∧ r < R
  d : n.df ≥ 0 → n.df < R
  a : n.args.length ≤ 4294967296
  l : n.us.length ≤ 5
theorem defined {n : GNode} {v : Value} {R : Value → World → Prop} (h : Ew c wb w l ys) (hn : NodeIs w v n) (hr : RegB n c.of.length) (hb : OfB c.of) (hl : l.length ≤ 800000) (hk : ∀ w', Ew c wb w' (l ++ eDef c.of n) ys → R (.tuple #[]) w') :
    callD Tryd.prog 37 #[v] w fun t w1 => V Tryd.prog (binOp .geq 3 t (i64 0)) w1 fun t2 w2 => ifD t2 (callD Tryd.prog 18 #[.pointer (some ⟨c.g, 0, none⟩), t, i64 0] w2 fun _ w3 => R (.tuple #[]) w3) (R (.tuple #[]) w2) := by
  refine (def_ok hn).mono fun r w1 ⟨hr1, x1⟩ => ?_
  subst hr1
  have h1 := h.ext x1
  refine V_geq.2 (ifD_dec (fun hd => ?_) fun hd => ?_)
  · refine (store18 (by omega) (hr.d hd) hb.b).run h1 (by simp; omega) fun w2 h2 => hk w2 ?_
    unfold eDef; rw [if_pos hd]; exact h2
  · refine hk w1 ?_
    unfold eDef; rw [if_neg hd, List.append_nil]; exact h1
theorem served52 {n : GNode} {v : Value} (h : Ew c wb w l ys) (hn : NodeIs w v n) (hs : ∀ w', Fr (fun k => ¬ c.H k) wb w' → NodeIs w' v n) (hr : RegB n c.of.length) (hb : OfB c.of) (hl : l.length ≤ 700000) (hy : ys.length ≤ 100000) (hk : ∀ w', Ew c wb w' (l ++ ((eLds c.of n.us ++ [.one ⟨44, 0, 0, 0, (ys.length : Int) + 1, 0⟩]) ++ eDef c.of n)) (ys ++ [v]) → K (.tuple #[]) w') :
    callD Tryd.prog 52 #[.pointer (some ⟨c.g, 0, none⟩), v] w K := by
  apply F52_wp
  unfold F52_den
  have hrl := hr.l
  have hel : (eLds c.of n.us).length = n.us.length := by simp [eLds]
  refine uloads h hn hr.a hr.u hb (by omega) fun w1 h1 => ?_
  obtain ⟨iv, tv, e1, e2⟩ := h1.tab
  refine ⟨.inl ⟨_, rfl⟩, ldB2 e1.boxed fa_65_3 fa_33_1 l1_23 rfl ?_⟩
  refine h1.pushT (nodeIs_one hn) hy e1 fun w2 h2 => ?_
  obtain ⟨iv2, tv2, e3, e4⟩ := h2.tab
  refine ⟨.inl ⟨_, rfl⟩, ldB2 e3.boxed fa_65_3 fa_33_1 l1_23 rfl (lnx xa_23 (SliceIs.of_own e4) (V_add.2 ?_))⟩
  have e5 : ((ys ++ [v]).length : Int) = (ys.length : Int) + 1 := by simp
  rw [wrap_id (by omega) (by omega)]
  refine V_sub.2 ?_
  rw [wrap_id (by omega) (by omega)]
  refine bld bd_72 [(0, i64 44), (4, i64 (1 + ((ys ++ [v]).length : Int) - 1))] rfl rfl ?_
  have e6 : 1 + ((ys ++ [v]).length : Int) - 1 = (ys.length : Int) + 1 := by omega
  rw [e6]
  refine (one_e ⟨44, 0, 0, 0, (ys.length : Int) + 1, 0⟩).run h2 (by simp; omega) fun w3 h3 => ?_
  refine defined h3 (hs w3 h3.fr) hr hb (by simp; omega) fun w4 h4 => hk w4 ?_
  simpa using h4
end Go.Proofs.YtjcmcfidblhnnaaDoor
namespace Go.Proofs.YtjcmcfidblhnnaaDoor
open Go.Vc
variable {w : World} {K : Value → World → Prop} {c : Ec} {wb : World} {l : List Itm} {ys : List Value}
theorem nodeIs_bare {n : GNode} (h : n.args = []) : NodeIs w (n.val nilS) n := ⟨nilS, rfl, by rw [h]; exact SliceIs.nil w 1⟩
set_option maxHeartbeats 1000000 in
theorem node20 {n : GNode} {v : Value} {k : Nat} (h : Ew c wb w l ys) (hn : NodeIs w v n) (hs : ∀ w', Fr (fun k => ¬ c.H k) wb w' → NodeIs w' v n) (hr : RegB n c.of.length) (hb : OfB c.of) (ha : 0 ≤ c.ap ∧ c.ap < 4) (hN : c.N ≤ 1000) (hk0 : k ≤ 1000) (hl : l.length ≤ 600000) (hy : ys.length ≤ 100000) (hF : n.okF)
    (hk : ∀ w', Ew c wb w' (l ++ eNode c.of c.N c.ap ys.length n k) (if n.srvB then ys ++ [v] else ys) → K (.tuple #[]) w') : callD Tryd.prog 20 #[.pointer (some ⟨c.g, 0, none⟩), v, i64 k] w K := by
  have hn0 := hn
  obtain ⟨sv, rfl, hsv⟩ := hn
  have h5 := hr.l
  apply F20_wp
  unfold F20_den
  have fin : ∀ (pre : List Itm) (w' : World), eNode c.of c.N c.ap ys.length n k = pre ++ eDef c.of n → n.srvB = false → pre.length ≤ 1000 → Ew c wb w' (l ++ pre) ys →
      callD Tryd.prog 37 #[n.val sv] w' fun t w1 => V Tryd.prog (binOp .geq 3 t (i64 0)) w1 fun t2 w2 => ifD t2 (callD Tryd.prog 18 #[.pointer (some ⟨c.g, 0, none⟩), t, i64 0] w2 fun _ w3 => K (.tuple #[]) w3) (K (.tuple #[]) w2) := by
    intro pre w' he hsr hp h'
    refine defined h' (hs w' h'.fr) hr hb (by simp; omega) fun w2 h2 => hk w2 ?_
    rw [he, ← List.append_assoc]
    simpa [hsr] using h2
  have srv : n.srvB = true → eNode c.of c.N c.ap ys.length n k = (eLds c.of n.us ++ [.one ⟨44, 0, 0, 0, (ys.length : Int) + 1, 0⟩]) ++ eDef c.of n → callD Tryd.prog 52 #[.pointer (some ⟨c.g, 0, none⟩), n.val sv] w fun _ w' => K (.tuple #[]) w' := fun hs1 he => by
    refine served52 h hn0 hs hr hb (by omega) hy fun w2 h2 => hk w2 ?_
    rw [he, hs1]; exact h2
  cases n with
  | const d k =>
    dsimp only [GNode.val] at fin srv ⊢
    refine ⟨fun w' => Ew c wb w' (l ++ (.load 0 k :: [])) ys, ?_, fun w' h' _ => fin _ w' rfl rfl (by simp []) h'⟩
    (repeat (first | (with_reducible refine th (by first | exact ta_100 | exact ta_78) ?_) | ((with_reducible refine tm ta_100 (by decide) ?_); intro _ _ _)))
    refine asK sa_78 rfl rfl fun w1 hB x1 => ?_
    have hB : Blk w1 w.heap.size [i64 d, i32 k] 78 := hB
    have h1 := h.hold x1
    have hx1 := x1.size
    have hlt := hB.lt
    refine ldB hB.boxed fa_78_1 l1_21 rfl ?_
    exact (number_e (c := c.hold w.heap.size w1.heap.size) (wb := w1) 0 k).run h1 (by simp; omega) fun w2 h2 => h.free x1 h2
  | move d s =>
    dsimp only [GNode.val] at fin srv ⊢
    refine ⟨fun w' => Ew c wb w' (l ++ (eLds c.of [s])) ys, ?_, fun w' h' _ => fin _ w' rfl rfl (by simp [eLds, GNode.us]) h'⟩
    (repeat (first | (with_reducible refine th (by first | exact ta_100 | exact ta_80) ?_) | ((with_reducible refine tm (by first | exact ta_100 | exact ta_78) (by decide) ?_); intro _ _ _)))
    refine asK sa_80 rfl rfl fun w1 hB x1 => ?_
    have hB : Blk w1 w.heap.size [i64 d, i64 s] 80 := hB
    have h1 := h.hold x1
    have hx1 := x1.size
    have hlt := hB.lt
    refine ldA hB.boxed la_80 rfl (mki mi_80 ?_)
    refine uloads (c := c.hold w.heap.size w1.heap.size) (wb := w1) (n := .move d s) h1 (nodeIs_bare (n := .move d s) rfl) hr.a hr.u hb (by show l.length + _ ≤ _; omega) fun w2 h2 => ?_
    have hB2 := h2.fr.blk hB fun hS => hS (.inr ⟨by omega, hlt⟩)
    exact h.free x1 h2
  | bin op d a b =>
    dsimp only [GNode.val] at fin srv ⊢
    refine ⟨fun w' => Ew c wb w' (l ++ (eLds c.of [a, b] ++ eBin op)) ys, ?_, fun w' h' _ => fin _ w' rfl rfl (by have := (eBin_f op).len; simp [eLds, GNode.us]; omega) h'⟩
    (repeat (first | (with_reducible refine th (by first | exact ta_100 | exact ta_82) ?_) | ((with_reducible refine tm (by first | exact ta_100 | exact ta_47 | exact ta_49 | exact ta_78 | exact ta_80) (by decide) ?_); intro _ _ _)))
    refine asK sa_82 rfl rfl fun w1 hB x1 => ?_
    have hB : Blk w1 w.heap.size [i64 op, i64 d, i64 a, i64 b] 82 := hB
    have h1 := h.hold x1
    have hx1 := x1.size
    have hlt := hB.lt
    refine ldA hB.boxed la_82 rfl (mki mi_82 ?_)
    refine uloads (c := c.hold w.heap.size w1.heap.size) (wb := w1) (n := .bin op d a b) h1 (nodeIs_bare (n := .bin op d a b) rfl) hr.a hr.u hb (by show l.length + _ ≤ _; omega) fun w2 h2 => ?_
    have hB2 := h2.fr.blk hB fun hS => hS (.inr ⟨by omega, hlt⟩)
    refine ldB hB2.boxed fa_82_0 l1_3 rfl ?_
    refine (bin45 (c := c.hold w.heap.size w1.heap.size) (wb := w1) op).run h2 (by have := (eBin_f op).len; simp [eLds, GNode.us] at *; omega) fun w3 h3 => ?_
    rw [List.append_assoc] at h3
    exact h.free x1 h3
  | un op d a =>
    dsimp only [GNode.val] at fin srv ⊢
    refine ⟨fun w' => Ew c wb w' (l ++ (eLds c.of [a] ++ eUn op)) ys, ?_, fun w' h' _ => fin _ w' rfl rfl (by have := (eUn_f op).len; simp [eLds, GNode.us]; omega) h'⟩
    (repeat (first | (with_reducible refine th (by first | exact ta_100 | exact ta_84) ?_) | ((with_reducible refine tm (by first | exact ta_100 | exact ta_47 | exact ta_49 | exact ta_78 | exact ta_80 | exact ta_82) (by decide) ?_); intro _ _ _)))
    refine asK sa_84 rfl rfl fun w1 hB x1 => ?_
    have hB : Blk w1 w.heap.size [i64 op, i64 d, i64 a] 84 := hB
    have h1 := h.hold x1
    have hx1 := x1.size
    have hlt := hB.lt
    refine ldA hB.boxed la_84 rfl (mki mi_84 ?_)
    refine uloads (c := c.hold w.heap.size w1.heap.size) (wb := w1) (n := .un op d a) h1 (nodeIs_bare (n := .un op d a) rfl) hr.a hr.u hb (by show l.length + _ ≤ _; omega) fun w2 h2 => ?_
    have hB2 := h2.fr.blk hB fun hS => hS (.inr ⟨by omega, hlt⟩)
    refine ldB hB2.boxed fa_84_0 l1_3 rfl ?_
    refine (un46 (c := c.hold w.heap.size w1.heap.size) (wb := w1) op).run h2 (by have := (eUn_f op).len; simp [eLds, GNode.us] at *; omega) fun w3 h3 => ?_
    rw [List.append_assoc] at h3
    exact h.free x1 h3
  | choose d q a b =>
    dsimp only [GNode.val] at fin srv ⊢
    refine ⟨fun w' => Ew c wb w' (l ++ (eLds c.of [q, a, b] ++ eChoose)) ys, ?_, fun w' h' _ => fin _ w' rfl rfl (by simp [eLds, eChoose, GNode.us]) h'⟩
    (repeat (first | (with_reducible refine th (by first | exact ta_100 | exact ta_86) ?_) | ((with_reducible refine tm (by first | exact ta_100 | exact ta_47 | exact ta_49 | exact ta_78 | exact ta_80 | exact ta_82 | exact ta_84) (by decide) ?_); intro _ _ _)))
    refine asK sa_86 rfl rfl fun w1 hB x1 => ?_
    have hB : Blk w1 w.heap.size [i64 d, i64 q, i64 a, i64 b] 86 := hB
    have h1 := h.hold x1
    have hx1 := x1.size
    have hlt := hB.lt
    refine ldA hB.boxed la_86 rfl (mki mi_86 ?_)
    refine uloads (c := c.hold w.heap.size w1.heap.size) (wb := w1) (n := .choose d q a b) h1 (nodeIs_bare (n := .choose d q a b) rfl) hr.a hr.u hb (by show l.length + _ ≤ _; omega) fun w2 h2 => ?_
    have hB2 := h2.fr.blk hB fun hS => hS (.inr ⟨by omega, hlt⟩)
    refine (choose47 (c := c.hold w.heap.size w1.heap.size) (wb := w1) ).run h2 (by simp [eLds, GNode.us, eChoose] at *; omega) fun w3 h3 => ?_
    rw [List.append_assoc] at h3
    exact h.free x1 h3
  | tick  =>
    dsimp only [GNode.val] at fin srv ⊢
    refine ⟨fun w' => Ew c wb w' (l ++ (eTick ((c.N : Int) + k))) ys, ?_, fun w' h' _ => fin _ w' rfl rfl (by simp [eTick]) h'⟩
    (repeat (first | (with_reducible refine th (by first | exact ta_100 | exact ta_47) ?_) | ((with_reducible refine tm (by first | exact ta_100 | exact ta_47 | exact ta_49 | exact ta_78 | exact ta_80 | exact ta_82 | exact ta_84 | exact ta_86) (by decide) ?_); intro _ _ _)))
    refine asK sa_47 rfl rfl fun w1 hB x1 => ?_
    have h1 := h.ext x1
    obtain ⟨cs, e1, _, _, e2⟩ := h1.oAt
    obtain ⟨vs, hvs⟩ := h1.o.nn w1 h1.fr
    refine ⟨.inl ⟨_, rfl⟩, ldB2 e1 fa_65_0 fa_25_2 l1_23 e2 (lnx xa_23 hvs (V_add.2 ?_))⟩
    rw [wrap_id (by omega) (by omega)]
    exact (tick48 ((c.N : Int) + k)).run h1 (by simp [eTick]; omega) fun w2 h2 => h2
  | goto t =>
    dsimp only [GNode.val] at fin srv ⊢
    refine ⟨fun w' => Ew c wb w' (l ++ (.jump 14 t :: [])) ys, ?_, fun w' h' _ => fin _ w' rfl rfl (by simp []) h'⟩
    (repeat (first | (with_reducible refine th (by first | exact ta_100 | exact ta_88) ?_) | ((with_reducible refine tm (by first | exact ta_100 | exact ta_47 | exact ta_49 | exact ta_78 | exact ta_80 | exact ta_82 | exact ta_84 | exact ta_86) (by decide) ?_); intro _ _ _)))
    refine asK sa_88 rfl rfl fun w1 hB x1 => ?_
    have hB : Blk w1 w.heap.size [i64 t] 88 := hB
    have h1 := h.hold x1
    have hx1 := x1.size
    have hlt := hB.lt
    refine ldB hB.boxed fa_88_0 l1_3 rfl ?_
    exact (jump_e (c := c.hold w.heap.size w1.heap.size) (wb := w1) 14 t).run h1 (by simp; omega) fun w2 h2 => h.free x1 h2
  | branch q t =>
    dsimp only [GNode.val] at fin srv ⊢
    refine ⟨fun w' => Ew c wb w' (l ++ (eLds c.of [q] ++ [eSmall 9 0 0, .jump 1 t])) ys, ?_, fun w' h' _ => fin _ w' rfl rfl (by simp [eLds, GNode.us]) h'⟩
    (repeat (first | (with_reducible refine th (by first | exact ta_100 | exact ta_90) ?_) | ((with_reducible refine tm (by first | exact ta_100 | exact ta_47 | exact ta_49 | exact ta_78 | exact ta_80 | exact ta_82 | exact ta_84 | exact ta_86 | exact ta_88) (by decide) ?_); intro _ _ _)))
    refine asK sa_90 rfl rfl fun w1 hB x1 => ?_
    have hB : Blk w1 w.heap.size [i64 q, i64 t] 90 := hB
    have h1 := h.hold x1
    have hx1 := x1.size
    have hlt := hB.lt
    refine ldA hB.boxed la_90 rfl (mki mi_90 ?_)
    refine uloads (c := c.hold w.heap.size w1.heap.size) (wb := w1) (n := .branch q t) h1 (nodeIs_bare (n := .branch q t) rfl) hr.a hr.u hb (by show l.length + _ ≤ _; omega) fun w2 h2 => ?_
    have hB2 := h2.fr.blk hB fun hS => hS (.inr ⟨by omega, hlt⟩)
    refine (small_e (c := c.hold w.heap.size w1.heap.size) (wb := w1) 9 0 0).run h2 (by simp [eLds, GNode.us] at *; omega) fun w3 h3 => ?_
    have hB3 := h3.fr.blk hB fun hS => hS (.inr ⟨by omega, hlt⟩)
    refine ldB hB3.boxed fa_90_1 l1_3 rfl ?_
    refine (jump_e (c := c.hold w.heap.size w1.heap.size) (wb := w1) 1 t).run h3 (by simp [eLds, GNode.us] at *; omega) fun w4 h4 => h.free (a := w.heap.size) (b := w1.heap.size) x1 ?_
    have e9 : l ++ eLds c.of [q] ++ [eSmall 9 0 0] ++ [.jump 1 t] = l ++ (eLds c.of [q] ++ [eSmall 9 0 0, .jump 1 t]) := by simp
    rw [← e9]; exact h4
  | getField d f =>
    dsimp only [GNode.val] at fin srv ⊢
    refine ⟨fun w' => Ew c wb w' (l ++ ([eField c.ap, .one ⟨31, 0, 1, 0, 4 * f, 0⟩])) ys, ?_, fun w' h' _ => fin _ w' rfl rfl (by simp []) h'⟩
    (repeat (first | (with_reducible refine th (by first | exact ta_100 | exact ta_92) ?_) | ((with_reducible refine tm (by first | exact ta_100 | exact ta_47 | exact ta_49 | exact ta_78 | exact ta_80 | exact ta_82 | exact ta_84 | exact ta_86 | exact ta_88 | exact ta_90) (by decide) ?_); intro _ _ _)))
    have hf : 0 ≤ f ∧ f < 8 := hF
    refine asK sa_92 rfl rfl fun w1 hB x1 => ?_
    have hB : Blk w1 w.heap.size [i64 d, i64 f] 92 := hB
    have h1 := h.hold x1
    have hx1 := x1.size
    have hlt := hB.lt
    refine (field50 (c := c.hold w.heap.size w1.heap.size) (wb := w1) ha).run h1 (by simp; omega) fun w2 h2 => ?_
    have hB2 := h2.fr.blk hB fun hS => hS (.inr ⟨by omega, hlt⟩)
    refine ldB hB2.boxed fa_92_1 l1_3 rfl (V_mul.2 ?_)
    rw [wrap_id (by omega) (by omega)]
    refine bld bd_72 [(0, i64 31), (1, i64 0), (2, i64 1), (4, i64 (4 * f))] rfl rfl ?_
    refine (one_e (c := c.hold w.heap.size w1.heap.size) (wb := w1) ⟨31, 0, 1, 0, 4 * f, 0⟩).run h2 (by simp; omega) fun w3 h3 => h.free (a := w.heap.size) (b := w1.heap.size) x1 ?_
    rw [List.append_assoc] at h3
    exact h3
  | putField f s =>
    dsimp only [GNode.val] at fin srv ⊢
    refine ⟨fun w' => Ew c wb w' (l ++ (eLds c.of [s] ++ [eField c.ap, .one ⟨32, 0, 1, 0, 4 * f, 0⟩])) ys, ?_, fun w' h' _ => fin _ w' rfl rfl (by simp [eLds, GNode.us]) h'⟩
    (repeat (first | (with_reducible refine th (by first | exact ta_100 | exact ta_94) ?_) | ((with_reducible refine tm (by first | exact ta_100 | exact ta_47 | exact ta_49 | exact ta_78 | exact ta_80 | exact ta_82 | exact ta_84 | exact ta_86 | exact ta_88 | exact ta_90 | exact ta_92) (by decide) ?_); intro _ _ _)))
    have hf : 0 ≤ f ∧ f < 8 := hF
    refine asK sa_94 rfl rfl fun w1 hB x1 => ?_
    have hB : Blk w1 w.heap.size [i64 f, i64 s] 94 := hB
    have h1 := h.hold x1
    have hx1 := x1.size
    have hlt := hB.lt
    refine ldA hB.boxed la_94 rfl (mki mi_94 ?_)
    refine uloads (c := c.hold w.heap.size w1.heap.size) (wb := w1) (n := .putField f s) h1 (nodeIs_bare (n := .putField f s) rfl) hr.a hr.u hb (by show l.length + _ ≤ _; omega) fun w2 h2 => ?_
    have hB2 := h2.fr.blk hB fun hS => hS (.inr ⟨by omega, hlt⟩)
    refine (field50 (c := c.hold w.heap.size w1.heap.size) (wb := w1) ha).run h2 (by simp [eLds, GNode.us] at *; omega) fun w3 h3 => ?_
    have hB3 := h3.fr.blk hB fun hS => hS (.inr ⟨by omega, hlt⟩)
    refine ldB hB3.boxed fa_94_0 l1_3 rfl (V_mul.2 ?_)
    rw [wrap_id (by omega) (by omega)]
    refine bld bd_72 [(0, i64 32), (1, i64 0), (2, i64 1), (4, i64 (4 * f))] rfl rfl ?_
    refine (one_e (c := c.hold w.heap.size w1.heap.size) (wb := w1) ⟨32, 0, 1, 0, 4 * f, 0⟩).run h3 (by simp [eLds, GNode.us] at *; omega) fun w4 h4 => h.free (a := w.heap.size) (b := w1.heap.size) x1 ?_
    have e9 : l ++ eLds c.of [s] ++ [eField c.ap] ++ [.one ⟨32, 0, 1, 0, 4 * f, 0⟩] = l ++ (eLds c.of [s] ++ [eField c.ap, .one ⟨32, 0, 1, 0, 4 * f, 0⟩]) := by simp
    rw [← e9]; exact h4
  | serve op a b d r =>
    dsimp only [GNode.val] at fin srv ⊢
    refine ⟨fun _ => False, ?_, fun _ h' _ => h'.elim⟩
    (repeat (first | (with_reducible refine th ta_100 ?_) | ((with_reducible refine tm (by first | exact ta_100 | exact ta_47 | exact ta_49 | exact ta_78 | exact ta_80 | exact ta_82 | exact ta_84 | exact ta_86 | exact ta_88 | exact ta_90 | exact ta_92 | exact ta_94) (by decide) ?_); intro _ _ _)))
    exact srv rfl rfl
  | call m d r =>
    dsimp only [GNode.val] at fin srv ⊢
    refine ⟨fun _ => False, ?_, fun _ h' _ => h'.elim⟩
    (repeat (first | (with_reducible refine th ta_100 ?_) | ((with_reducible refine tm (by first | exact ta_100 | exact ta_47 | exact ta_49 | exact ta_78 | exact ta_80 | exact ta_82 | exact ta_84 | exact ta_86 | exact ta_88 | exact ta_90 | exact ta_92 | exact ta_94) (by decide) ?_); intro _ _ _)))
    exact srv rfl rfl
  | callX m d r =>
    dsimp only [GNode.val] at fin srv ⊢
    refine ⟨fun _ => False, ?_, fun _ h' _ => h'.elim⟩
    (repeat (first | (with_reducible refine th ta_100 ?_) | ((with_reducible refine tm (by first | exact ta_100 | exact ta_47 | exact ta_49 | exact ta_78 | exact ta_80 | exact ta_82 | exact ta_84 | exact ta_86 | exact ta_88 | exact ta_90 | exact ta_92 | exact ta_94) (by decide) ?_); intro _ _ _)))
    exact srv rfl rfl
  | ret s =>
    dsimp only [GNode.val] at fin srv ⊢
    refine ⟨fun _ => False, ?_, fun _ h' _ => h'.elim⟩
    (repeat (first | (with_reducible refine th ta_100 ?_) | ((with_reducible refine tm (by first | exact ta_100 | exact ta_47 | exact ta_49 | exact ta_78 | exact ta_80 | exact ta_82 | exact ta_84 | exact ta_86 | exact ta_88 | exact ta_90 | exact ta_92 | exact ta_94) (by decide) ?_); intro _ _ _)))
    exact srv rfl rfl
end Go.Proofs.YtjcmcfidblhnnaaDoor
namespace Go.Vc
theorem ldAo {P : Program} {w : World} {K : Value → World → Prop} {t n b off : Nat} {cs l : List Value} (hb : Boxed w b cs) (ht : ∃ d z by_, P.underlying t = some d ∧ aggB d = true ∧ Inf P t z n by_) (hl : l.length = n) (he : (cs.drop off).take n = l) (hk : K (.agg l.toArray) w) :
    V P (Instr.loadAt t (.pointer (some ⟨b, off, none⟩))) w K := by
  obtain ⟨d, z, by_, h1, h2, h3⟩ := ht
  refine V.ok (r_loadAgg h1 h2 h3 hl fun j hj => ?_) hk
  obtain ⟨u, hu⟩ : ∃ u, l[j]? = some u := ⟨_, List.getElem?_eq_getElem hj⟩
  rw [hu]
  have h5 : cs[off + j]? = some u := by
    rw [← he, List.getElem?_take] at hu
    split at hu
    · rwa [List.getElem?_drop] at hu
    · cases hu
  have := hb _ u h5
  rwa [Nat.zero_add] at this
end Go.Vc
namespace Go.Proofs.YtjcmcfidblhnnaaDoor
open Go.Vc
variable {w : World} {K : Value → World → Prop}
theorem bgWr : BG Tryd.prog 65 [i64 0, i64 0, nilS, nilS, i64 0, i64 0, nilS, nilS, i64 0] [(0, 3), (3, 2), (5, 1), (6, 3)] := ⟨_, _, _, Tryd.underlying65, inf65, fun w => by kernel_rfl⟩
theorem fillWr (a b c d e : Value) (f : Int) : Instr.fill (([(0, 3), (3, 2), (5, 1), (6, 3)] : List (Nat × Nat)).toArray[·]?) [i64 0, i64 0, nilS, nilS, i64 0, i64 0, nilS, nilS, i64 0].toArray [(0, .agg [a, b, c].toArray), (1, .agg [d, e].toArray), (2, i64 f)] = some [a, b, c, d, e, i64 f, nilS, nilS, i64 0].toArray := by kernel_rfl
theorem Good.ofB {p : GProg} {R : Nat} {of : List Int} {slots : Int} (h : Good p R of slots) : OfB of := ⟨fun a ha => by
  obtain ⟨k, hk⟩ := List.getElem?_of_mem ha
  have h1 := h.s1
  rcases h.val k a hk with e | e | e <;> omega⟩
theorem Good.ofOk {p : GProg} {R : Nat} {of : List Int} {slots : Int} (h : Good p R of slots) : OfOk of R := fun r h0 h1 => by
  have hl := h.len
  have h2 := h.s1
  have hk : of[r.toNat]? = some (of.getD r.toNat 0) := by rw [List.getD_eq_getElem?_getD, List.getElem?_eq_getElem (by omega)]; rfl
  rcases h.val _ _ hk with e | e | e <;> omega
theorem RightN.regB {n : GNode} {k c : Int} {R : Nat} (h : RightN n k R c) (ha : n.args.length ≤ 4294967296) : RegB n R := ⟨h.u, fun hd => by rcases h.d with h1 | h1 <;> omega, ha, h.us5⟩
set_option maxHeartbeats 1000000 in
theorem emit6 {p : GProg} {R : Nat} {pv ov : Value} {of : List Int} {slots ap : Int} (hp : ProgIs w pv p) (hv : OkProg p) (hR : p.regs = R) (ho : IntsAre w ov of) (hg : Good p R of slots) (ha : 0 ≤ ap ∧ ap < 4)
    (hk : ∀ iv tv w', SliceIs w' iv 11 (emitP p of ap).length (itC (emitP p of ap)) → NodesAre w' tv (tableP p) → Ext w w' → K (.tuple #[.agg #[iv, tv, i64 (4 * slots)], i64 0]) w') :
    callD Tryd.prog 6 #[pv, .agg #[ov, i64 slots], i64 ap] w K := by
  have hp0 := hp
  obtain ⟨ns, rfl, hns, hargs⟩ := hp
  have hl1 := hv.l1; have hl2 := hv.l2; have hr1 := hv.r1; have hr2 := hv.r2; have hp1 := hv.p1; have hp2 := hv.p2; have hp3 := hv.p3
  have hs0 := hg.s0; have hs1 := hg.s1; have hlen := hg.len
  apply F6_wp
  unfold F6_den
  refine bxK fun w1 hb3 x1 => ?_
  have hb3 : Blk w1 w.heap.size [i64 p.params, i64 p.regs, ns] 25 := hb3
  refine bxK fun w2 hb4 x2 => ?_
  have hb4 : Blk w2 w1.heap.size [ov, i64 slots] 29 := hb4
  refine alK inf33 fun w3 hb6 x3 => ?_
  have hb6 : Blk w3 w2.heap.size [nilS, nilS, i64 0] 33 := hb6
  have x02 := x1.trans x2
  have x03 := x02.trans x3
  refine ldA (hb3.ext (x2.trans x3)).boxed la_25 rfl ?_
  refine (check_ok (hp0.ext x03) hv).mono fun r w4 ⟨hr, x4⟩ => ?_
  subst hr
  refine V_not.2 ?_
  simp only [Bool.not_true, gd_f]
  refine ldA (hb3.ext ((x2.trans x3).trans x4)).boxed la_25 rfl ?_
  refine ldA ((hb4.ext x3).ext x4).boxed la_29 rfl ?_
  refine (placeRight_ok (hp0.ext (x03.trans x4)) hv hR (ho.ext (x03.trans x4)) (by omega)).mono fun r w5 ⟨⟨ok, hr, hok⟩, x5⟩ => ?_
  obtain rfl : ok = true := hok.2 hg
  subst hr
  refine V_not.2 ?_
  simp only [Bool.not_true, gd_f, pickD_iff, Bool.false_eq_true, reduceIte]
  refine V_lss.2 ?_
  simp only [show decide (ap < 0) = false from by simp; omega, gd_f, pickD_iff, Bool.false_eq_true, reduceIte]
  refine V_geq.2 ?_
  simp only [show decide (ap ≥ 4) = false from by simp; omega, ifD_false]
  have x35 := x4.trans x5
  have x05 := x03.trans x35
  have hb3' := hb3.ext ((x2.trans x3).trans x35)
  have hb4' := (hb4.ext x3).ext x35
  have hb6' := hb6.ext x35
  refine ldA hb3'.boxed la_25 rfl ?_
  refine ldA hb4'.boxed la_29 rfl ?_
  refine bldG bgWr (fillWr _ _ _ _ _ _) ?_
  refine bxK fun w6 hB x6 => ?_
  have hB : Blk w6 w5.heap.size [i64 p.params, i64 p.regs, ns, ov, i64 slots, i64 ap, nilS, nilS, i64 0] 65 := hB
  refine ldB (hb4'.ext x6).boxed fa_29_1 l1_3 rfl (V_mul.2 ?_)
  rw [wrap_id (by omega) (by omega)]
  refine ⟨.inl ⟨_, rfl⟩, stF2 fa_65_3 fa_33_2 inf3 hB (n := 9) rfl (by decide) rfl ?_⟩
  have f7 : Fr (fun k => k = w5.heap.size) w6 (w6.setCell ⟨w5.heap.size, 8, none⟩ (i64 (4 * slots))) := Fr.of_set rfl
  have hB7 := hB.set 8 (i64 (4 * slots))
  have x57 : Ext w5 (w6.setCell ⟨w5.heap.size, 8, none⟩ (i64 (4 * slots))) := f7.ext x6 fun i hi => by omega
  show V _ _ (w6.setCell ⟨w5.heap.size, 8, none⟩ (i64 (4 * slots))) _
  generalize w6.setCell ⟨w5.heap.size, 8, none⟩ (i64 (4 * slots)) = w7 at f7 hB7 x57
  have x07 := x05.trans x57
  refine ldB (hb3'.ext x57).boxed fa_25_0 l1_3 rfl ?_
  have hB7 : Blk w7 w5.heap.size [i64 p.params, i64 p.regs, ns, ov, i64 slots, i64 ap, nilS, nilS, i64 (4 * slots)] 65 := hB7
  have h57 := hB7.lt
  have toX : ∀ {w'}, Fr (fun k => ¬ k < w5.heap.size) w7 w' → Ext w5 w' := fun hf => hf.ext x57 fun i hi => by omega
  obtain ⟨vs0, hvs0, hvn0⟩ := hns
  have hE : ∃ c : Ec, c = { H := fun k => k < w5.heap.size, B := w5.heap.size + 1, g := w5.heap.size, pr := i64 p.params, rg := i64 p.regs, nv := ns, ov := ov, sl := i64 slots, ap := ap, fr := i64 (4 * slots), of := of, N := p.nodes.length } := ⟨_, rfl⟩
  obtain ⟨c, hc⟩ := hE
  have ho7 : Eo c w7 := by
    subst hc
    exact ⟨⟨Nat.lt_succ_self _, h57⟩, fun k hk => ⟨by have hk : k < w5.heap.size := hk; omega, by have hk : k < w5.heap.size := hk; show k ≠ w5.heap.size; omega⟩, fun w' hf => ho.ext (x05.trans (toX hf)), fun w' hf => ⟨vs0, hvs0.ext (x05.trans (toX hf))⟩⟩
  have h7 : Ew c w7 w7 [] [] := by
    refine ⟨ho7, Fr.refl _ _, nilS, nilS, ?_, World.ownsRow_nil _ _ _ _, World.ownsRow_nil _ _ _ _, fun k hk => (by cases hk), fun k hk => (by cases hk)⟩
    subst hc; exact hB7
  have hcg : c.g = w5.heap.size := by rw [hc]
  have hcof : c.of = of := by rw [hc]
  have hcap : c.ap = ap := by rw [hc]
  have hcN : c.N = p.nodes.length := by rw [hc]
  have hcH : ∀ {w'}, Fr (fun k => ¬ c.H k) w7 w' → Ext w5 w' := by rw [hc]; exact toX
  have hofb : OfB c.of := by rw [hcof]; exact hg.ofB
  rw [← hcg]
  refine ⟨fun v w' => ∃ j : Nat, v = i64 j ∧ (j : Int) ≤ p.params ∧ Ew c w7 w' ((List.range j).map fun (k : Nat) => eSt of (k : Int) (k : Int)) [], fun v _ => p.params.toNat - (RowKit.intOf v).toNat, ⟨0, rfl, by omega, h7⟩, ?_⟩
  rintro _ w8 ⟨j, rfl, hj, h8⟩ _
  refine V_lss.2 (ifD_dec (fun hlt => ?_) fun hge => ?_)
  · refine (store18 (by omega) (by rw [hcof]; omega) hofb.b).run h8 (by simp; omega) fun w9 h9 => V_add.2 ?_
    rw [wrap_id (by omega) (by omega), i64_succ]
    refine ⟨⟨j + 1, rfl, by omega, ?_⟩, by simp only [intOf_i64]; omega⟩
    rw [List.range_succ, List.map_append]
    rw [hcof] at h9
    exact h9
  have hjp : ((List.range j).map fun (k : Nat) => eSt of (k : Int) (k : Int)) = (emitK p of ap 0).1 := by
    have : p.params.toNat = j := by omega
    simp only [emitK, this]
  rw [hjp] at h8
  clear hge hjp
  have hb38 : ∀ {w'}, Fr (fun k => ¬ c.H k) w7 w' → Boxed w' w.heap.size [i64 p.params, i64 p.regs, ns] := fun hf => (hb3'.ext (hcH hf)).boxed
  refine ldB (hb38 h8.fr) fa_25_2 l1_23 rfl (lnx xa_23 (hvs0.ext (x05.trans (hcH h8.fr))) ?_)
  refine ⟨fun v w' => ∃ (j : Nat) (ys : List Value), v = i64 j ∧ j ≤ p.nodes.length ∧ Ew c w7 w' (emitK p of ap j).1 ys ∧ ys.length = (emitK p of ap j).2.length ∧ ∀ (q : Nat) n, (emitK p of ap j).2[q]? = some n → ∃ u, ys[q]? = some u ∧ NodeIs w u n, fun v _ => p.nodes.length - (RowKit.intOf v).toNat, ⟨0, [], rfl, Nat.zero_le _, h8, rfl, fun q n hq => by simp [emitK] at hq⟩, ?_⟩
  rintro _ w9 ⟨j, ys, rfl, hj, h9, hyl, hyn⟩ _
  have hem := emitK_ok (of := of) (applet := ap) hv hR rfl hg.ofOk j hj
  have hel := hem.len
  have htl : (emitK p of ap j).2.length ≤ j := by rw [hem.tab]; exact Nat.le_trans (List.length_filter_le _ _) (by simp)
  refine V_lss.2 (ifD_dec (fun hlt => ?_) fun hge => ?_)
  · have hj' : j < p.nodes.length := by omega
    obtain ⟨hpk, hrk⟩ := hv.at hj'
    obtain ⟨u, hu, hnu⟩ := hvn0 j _ hpk
    have hna := hargs _ (List.mem_of_getElem? hpk)
    refine ldx xa_23 l1_43 (hvs0.ext (x05.trans (hcH h9.fr))) (by omega) (by omega) (by simpa using hu) ?_
    refine (place_e (j : Int)).run h9 (by simp; omega) fun w10 h10 => ?_
    have hrb : RegB (p.at' j) c.of.length := by rw [hcof, hlen, ← Int.toNat_natCast R, ← hR]; rw [hR] at hrk ⊢; exact hrk.regB hna
    refine node20 (n := p.at' j) (k := j) h10 (hnu.ext (x05.trans (hcH h10.fr))) (fun w' hf => hnu.ext (x05.trans (hcH hf))) hrb hofb (by rw [hcap]; exact ha) (by rw [hcN]; omega) (by omega) (by simp; omega) (by omega) hrk.f fun w11 h11 => V_add.2 ?_
    rw [wrap_id (by omega) (by omega), i64_succ]
    have e1 : (emitK p of ap (j + 1)).1 = (emitK p of ap j).1 ++ .place j :: eNode of p.nodes.length ap (emitK p of ap j).2.length (p.at' j) j := rfl
    have e2 : (emitK p of ap (j + 1)).2 = if (p.at' j).srvB then (emitK p of ap j).2 ++ [p.at' j] else (emitK p of ap j).2 := rfl
    rw [hcof, hcN, hcap, hyl, List.append_assoc, List.singleton_append, ← e1] at h11
    refine ⟨⟨j + 1, _, rfl, by omega, h11, ?_, ?_⟩, by simp only [intOf_i64]; omega⟩
    · rw [e2]; split <;> simp [hyl]
    · rw [e2]
      intro q n hq
      split at hq
      · rename_i hsr
        rw [if_pos hsr]
        rw [List.getElem?_append] at hq ⊢
        rw [hyl]
        split at hq
        · rename_i hql; rw [if_pos hql]; exact hyn q n hq
        · rename_i hql
          rw [if_neg hql]
          have hq0 : q - (emitK p of ap j).2.length = 0 := by
            have := (List.getElem?_eq_some_iff.1 hq).1
            simpa using this
          rw [hq0] at hq ⊢
          cases hq
          exact ⟨u, rfl, hnu⟩
      · rename_i hsr
        rw [if_neg hsr]; exact hyn q n hq
  obtain rfl : j = p.nodes.length := by omega
  have htab : (emitK p of ap p.nodes.length).2 = tableP p := (emitP_ok (applet := ap) hv hR hg.ofOk).2
  obtain ⟨iv, tv, e1, e2⟩ := h9.items
  obtain ⟨_, f9, iv', tv', b1, b2, b3, b4, b5⟩ := h9
  have ei := b1.cell 6
  rw [e1] at ei
  cases ei
  have et := b1.cell 7
  rw [e2.cell 7] at et
  cases et
  refine ⟨.inl ⟨_, rfl⟩, fdA fa_65_3 (ldAo (l := [iv, tv, c.fr]) e2.boxed la_33 rfl rfl ?_)⟩
  have x59 := hcH f9
  have hfr : c.fr = i64 (4 * slots) := by rw [hc]
  rw [hfr]
  have hb69 := hb6'.ext x59
  refine stA inf33 hb69 (l := [iv, tv, i64 (4 * slots)]) rfl rfl rfl (by show (oneC iv && (oneC tv && (oneC (i64 (4 * slots)) && true))) = true; rw [own1' b2, own1' b3]; rfl) fun wE hBE hcE => ?_
  refine ⟨_, r_var Tryd.underlying33 rfl inf33 hBE rfl, ⟨_, rfl⟩, ?_⟩
  have fE : Fr (fun k => k = w2.heap.size) w9 wE := Fr.of_grown hcE.grown fun k hk => by cases hk; rfl
  have s25 := x3.size
  have hlt25 : w2.heap.size < w5.heap.size := hb6'.lt
  have hcB : c.B = w5.heap.size + 1 := by rw [hc]
  have kp : ∀ {e s : Nat} {v : Value} {n : Nat} {zs : List Value}, w9.ownsRow c.B e s v n zs → wE.ownsRow c.B e s v n zs := fun ho => fE.own ho fun k hk hS => by have := (ho.lt k hk).1; omega
  have xE : Ext w wE := hcE.ext _ (x05.trans x59) (by have := x02.size; omega)
  refine hk iv tv wE (SliceIs.of_own (kp b2)) ⟨ys, ?_, fun q n hq => ?_⟩ xE
  · rw [← htab, ← hyl]; exact SliceIs.of_own (kp b3)
  · rw [← htab] at hq
    obtain ⟨u, hu, hn⟩ := hyn q n hq
    exact ⟨u, hu, hn.ext xE⟩
end Go.Proofs.YtjcmcfidblhnnaaDoor
namespace Go.Proofs.YtjcmcfidblhnnaaDoor
open Go.Vc
structure Slot where
  part : Int
  shift : Int
  bits : Int
  least : Int
  most : Int
  step : Int
def Slot.cells (s : Slot) : List Value := [i64 s.part, i64 s.shift, i64 s.bits, i64 s.least, i64 s.most, i64 s.step]
def regS (part shift : Int) : Slot := ⟨part, shift, 3, 0, 7, 1⟩
def immS (shift bits least most step : Int) : Slot := ⟨3, shift, bits, least, most, step⟩
def Tin.part (i : Tin) (k : Int) : Int := if k = 0 then i.d else if k = 1 then i.n else if k = 2 then i.m else if k = 3 then i.imm else i.cond
def laterP (op : Int) : Option (Int × List Slot) :=
  if op = 36 then some (0x9000, [regS 0 8, immS 0 8 0 1020 4]) else if op = 35 then some (0x9800, [regS 0 8, immS 0 8 0 1020 4])
  else if op = 37 then some (0xb000, [immS 0 7 0 508 4]) else if op = 38 then some (0xb080, [immS 0 7 0 508 4])
  else if op = 39 then some (0xb400, [immS 0 9 1 511 1]) else if op = 40 then some (0xbc00, [immS 0 9 1 511 1])
  else if op = 41 then some (0xd000, [immS 0 8 (-256) 254 2, ⟨4, 8, 4, 0, 13, 1⟩]) else if op = 42 then some (0xe000, [immS 0 11 (-2048) 2046 2])
  else if op = 44 then some (0xdf00, [immS 0 8 0 255 1]) else if op = 45 then some (0xbf00, []) else none
def findP (op : Int) : Option (Int × List Slot) :=
  if 12 ≤ op ∧ op ≤ 27 then some (0x4000 + (op - 12) * 64, [regS 0 0, regS 2 3])
  else if 8 ≤ op ∧ op ≤ 11 then some (0x2000 + (op - 8) * 2048, [regS 0 8, immS 0 8 0 255 1])
  else if op = 1 then some (0, [regS 0 0, regS 2 3, immS 6 5 0 31 1]) else if op = 2 then some (0x800, [regS 0 0, regS 2 3, immS 6 5 1 32 1]) else if op = 3 then some (0x1000, [regS 0 0, regS 2 3, immS 6 5 1 32 1])
  else if op = 4 then some (0x1800, [regS 0 0, regS 1 3, regS 2 6]) else if op = 5 then some (0x1a00, [regS 0 0, regS 1 3, regS 2 6])
  else if op = 6 then some (0x1c00, [regS 0 0, regS 1 3, immS 6 3 0 7 1]) else if op = 7 then some (0x1e00, [regS 0 0, regS 1 3, immS 6 3 0 7 1])
  else if op = 30 then some (0x5000, [regS 0 0, regS 1 3, regS 2 6]) else if op = 29 then some (0x5800, [regS 0 0, regS 1 3, regS 2 6])
  else if op = 32 then some (0x6000, [regS 0 0, regS 1 3, immS 6 5 0 124 4]) else if op = 31 then some (0x6800, [regS 0 0, regS 1 3, immS 6 5 0 124 4])
  else if op = 34 then some (0x7000, [regS 0 0, regS 1 3, immS 6 5 0 31 1]) else if op = 33 then some (0x7800, [regS 0 0, regS 1 3, immS 6 5 0 31 1])
  else laterP op
def partOk (sl : List Slot) (i : Tin) (k : Int) : Bool :=
  match sl.find? fun s => decide (s.part = k) with
  | some s => decide (s.least ≤ i.part k) && decide (i.part k ≤ s.most) && decide ((i.part k).tmod s.step = 0)
  | none => decide (i.part k = 0)
def rightP (i : Tin) : Bool :=
  if i.op = 28 then decide (i.n = 0 ∧ i.imm = 0 ∧ i.cond = 0) && decide (0 ≤ i.d) && decide (i.d < 15) && decide (i.d ≠ 13) && decide (0 ≤ i.m) && decide (i.m < 15)
  else if i.op = 43 then decide (i.d = 0 ∧ i.n = 0 ∧ i.m = 0 ∧ i.cond = 0) && decide (-16777216 ≤ i.imm) && decide (i.imm ≤ 16777214) && decide (i.imm.tmod 2 = 0)
  else match findP i.op with
    | some r => partOk r.2 i 0 && partOk r.2 i 1 && partOk r.2 i 2 && partOk r.2 i 3 && partOk r.2 i 4
    | none => false
theorem tmod_of {a b : Int} (h0 : 0 ≤ a) (h : a % b = 0) : a.tmod b = 0 := by rw [Int.tmod_eq_emod_of_nonneg h0]; exact h
theorem partOk_some {sl : List Slot} {i : Tin} {k : Int} {s : Slot} (h : sl.find? (fun s => decide (s.part = k)) = some s) (h1 : s.least ≤ i.part k) (h2 : i.part k ≤ s.most) (h3 : (i.part k).tmod s.step = 0) : partOk sl i k = true := by
  unfold partOk; rw [h]; simp [h1, h2, h3]
theorem partOk_none {sl : List Slot} {i : Tin} {k : Int} (h : sl.find? (fun s => decide (s.part = k)) = none) (h1 : i.part k = 0) : partOk sl i k = true := by
  unfold partOk; rw [h]; simp [h1]
theorem okT_right {i : Tin} (h : i.okT) : rightP i = true := by
  obtain ⟨op, d, n, m, imm, cond⟩ := i
  have m1 : ∀ a : Int, a.tmod 1 = 0 := fun a => Int.tmod_one a
  rcases h with ⟨h1, ⟨h2, h3, h4⟩, ⟨h5, h6⟩, h7, h8, h9⟩ | ⟨h1, ⟨h2, h3⟩, h4, h5, ⟨h6, h7, h8⟩, h9⟩ | ⟨⟨h1, h1'⟩, ⟨h2, h3⟩, h4, h5, ⟨h6, h7⟩, h9⟩ | ⟨⟨h1, h1'⟩, ⟨h2, h3⟩, h4, ⟨h5, h6⟩, h8, h9⟩ | ⟨h1, ⟨h2, h3⟩, ⟨h4, h5⟩, ⟨h6, h7⟩, h8, h9⟩ | ⟨h1, ⟨h2, h3⟩, ⟨h4, h5⟩, h6, ⟨h7, h8, h10⟩, h9⟩ | ⟨h1, h2, h3, h4, ⟨h6, h7⟩, h9⟩ <;> dsimp only at *
  · subst h1 h7 h8 h9
    simp [rightP]; omega
  · have fin : ∀ b sl, findP op = some (b, sl) → sl = [regS 0 8, immS 0 8 0 1020 4] → ¬ op = 28 → ¬ op = 43 → rightP ⟨op, d, n, m, imm, cond⟩ = true := fun b sl hf hs c1 c2 => by
      subst hs h4 h5 h9
      unfold rightP
      rw [if_neg c1, if_neg c2, hf]
      have a0 := partOk_some (sl := [regS 0 8, immS 0 8 0 1020 4]) (i := ⟨op, d, 0, 0, imm, 0⟩) (k := 0) (s := regS 0 8) rfl h2 h3 (m1 _)
      have a1 := partOk_none (sl := [regS 0 8, immS 0 8 0 1020 4]) (i := ⟨op, d, 0, 0, imm, 0⟩) (k := 1) rfl rfl
      have a2 := partOk_none (sl := [regS 0 8, immS 0 8 0 1020 4]) (i := ⟨op, d, 0, 0, imm, 0⟩) (k := 2) rfl rfl
      have a3 := partOk_some (sl := [regS 0 8, immS 0 8 0 1020 4]) (i := ⟨op, d, 0, 0, imm, 0⟩) (k := 3) (s := immS 0 8 0 1020 4) rfl h6 h7 (tmod_of h6 h8)
      have a4 := partOk_none (sl := [regS 0 8, immS 0 8 0 1020 4]) (i := ⟨op, d, 0, 0, imm, 0⟩) (k := 4) rfl rfl
      dsimp only
      rw [a0, a1, a2, a3, a4]; rfl
    rcases h1 with rfl | rfl
    · exact fin _ _ rfl rfl (by decide) (by decide)
    · exact fin _ _ rfl rfl (by decide) (by decide)
  · subst h4 h5 h9
    have hf : findP op = some (0x2000 + (op - 8) * 2048, [regS 0 8, immS 0 8 0 255 1]) := by unfold findP; rw [if_neg (by omega), if_pos ⟨h1, h1'⟩]
    unfold rightP
    rw [if_neg (by dsimp only; omega), if_neg (by dsimp only; omega)]
    dsimp only
    rw [hf]
    have a0 := partOk_some (sl := [regS 0 8, immS 0 8 0 255 1]) (i := ⟨op, d, 0, 0, imm, 0⟩) (k := 0) (s := regS 0 8) rfl h2 h3 (m1 _)
    have a1 := partOk_none (sl := [regS 0 8, immS 0 8 0 255 1]) (i := ⟨op, d, 0, 0, imm, 0⟩) (k := 1) rfl rfl
    have a2 := partOk_none (sl := [regS 0 8, immS 0 8 0 255 1]) (i := ⟨op, d, 0, 0, imm, 0⟩) (k := 2) rfl rfl
    have a3 := partOk_some (sl := [regS 0 8, immS 0 8 0 255 1]) (i := ⟨op, d, 0, 0, imm, 0⟩) (k := 3) (s := immS 0 8 0 255 1) rfl h6 h7 (m1 _)
    have a4 := partOk_none (sl := [regS 0 8, immS 0 8 0 255 1]) (i := ⟨op, d, 0, 0, imm, 0⟩) (k := 4) rfl rfl
    dsimp only
    rw [a0, a1, a2, a3, a4]; rfl
  · subst h4 h8 h9
    have hf : findP op = some (0x4000 + (op - 12) * 64, [regS 0 0, regS 2 3]) := by unfold findP; rw [if_pos ⟨h1, h1'⟩]
    unfold rightP
    rw [if_neg (by dsimp only; omega), if_neg (by dsimp only; omega)]
    dsimp only
    rw [hf]
    have a0 := partOk_some (sl := [regS 0 0, regS 2 3]) (i := ⟨op, d, 0, m, 0, 0⟩) (k := 0) (s := regS 0 0) rfl h2 h3 (m1 _)
    have a1 := partOk_none (sl := [regS 0 0, regS 2 3]) (i := ⟨op, d, 0, m, 0, 0⟩) (k := 1) rfl rfl
    have a2 := partOk_some (sl := [regS 0 0, regS 2 3]) (i := ⟨op, d, 0, m, 0, 0⟩) (k := 2) (s := regS 2 3) rfl h5 h6 (m1 _)
    have a3 := partOk_none (sl := [regS 0 0, regS 2 3]) (i := ⟨op, d, 0, m, 0, 0⟩) (k := 3) rfl rfl
    have a4 := partOk_none (sl := [regS 0 0, regS 2 3]) (i := ⟨op, d, 0, m, 0, 0⟩) (k := 4) rfl rfl
    dsimp only
    rw [a0, a1, a2, a3, a4]; rfl
  · have fin : ∀ b sl, findP op = some (b, sl) → sl = [regS 0 0, regS 1 3, regS 2 6] → ¬ op = 28 → ¬ op = 43 → rightP ⟨op, d, n, m, imm, cond⟩ = true := fun b sl hf hs c1 c2 => by
      subst hs h8 h9
      unfold rightP
      rw [if_neg c1, if_neg c2, hf]
      have a0 := partOk_some (sl := [regS 0 0, regS 1 3, regS 2 6]) (i := ⟨op, d, n, m, 0, 0⟩) (k := 0) (s := regS 0 0) rfl h2 h3 (m1 _)
      have a1 := partOk_some (sl := [regS 0 0, regS 1 3, regS 2 6]) (i := ⟨op, d, n, m, 0, 0⟩) (k := 1) (s := regS 1 3) rfl h4 h5 (m1 _)
      have a2 := partOk_some (sl := [regS 0 0, regS 1 3, regS 2 6]) (i := ⟨op, d, n, m, 0, 0⟩) (k := 2) (s := regS 2 6) rfl h6 h7 (m1 _)
      have a3 := partOk_none (sl := [regS 0 0, regS 1 3, regS 2 6]) (i := ⟨op, d, n, m, 0, 0⟩) (k := 3) rfl rfl
      have a4 := partOk_none (sl := [regS 0 0, regS 1 3, regS 2 6]) (i := ⟨op, d, n, m, 0, 0⟩) (k := 4) rfl rfl
      dsimp only
      rw [a0, a1, a2, a3, a4]; rfl
    rcases h1 with rfl | rfl
    · exact fin _ _ rfl rfl (by decide) (by decide)
    · exact fin _ _ rfl rfl (by decide) (by decide)
  · have fin : ∀ b sl, findP op = some (b, sl) → sl = [regS 0 0, regS 1 3, immS 6 5 0 124 4] → ¬ op = 28 → ¬ op = 43 → rightP ⟨op, d, n, m, imm, cond⟩ = true := fun b sl hf hs c1 c2 => by
      subst hs h6 h9
      unfold rightP
      rw [if_neg c1, if_neg c2, hf]
      have a0 := partOk_some (sl := [regS 0 0, regS 1 3, immS 6 5 0 124 4]) (i := ⟨op, d, n, 0, imm, 0⟩) (k := 0) (s := regS 0 0) rfl h2 h3 (m1 _)
      have a1 := partOk_some (sl := [regS 0 0, regS 1 3, immS 6 5 0 124 4]) (i := ⟨op, d, n, 0, imm, 0⟩) (k := 1) (s := regS 1 3) rfl h4 h5 (m1 _)
      have a2 := partOk_none (sl := [regS 0 0, regS 1 3, immS 6 5 0 124 4]) (i := ⟨op, d, n, 0, imm, 0⟩) (k := 2) rfl rfl
      have a3 := partOk_some (sl := [regS 0 0, regS 1 3, immS 6 5 0 124 4]) (i := ⟨op, d, n, 0, imm, 0⟩) (k := 3) (s := immS 6 5 0 124 4) rfl h7 h8 (tmod_of h7 h10)
      have a4 := partOk_none (sl := [regS 0 0, regS 1 3, immS 6 5 0 124 4]) (i := ⟨op, d, n, 0, imm, 0⟩) (k := 4) rfl rfl
      dsimp only
      rw [a0, a1, a2, a3, a4]; rfl
    rcases h1 with rfl | rfl
    · exact fin _ _ rfl rfl (by decide) (by decide)
    · exact fin _ _ rfl rfl (by decide) (by decide)
  · subst h1 h2 h3 h4 h9
    have hf : findP 44 = some (0xdf00, [immS 0 8 0 255 1]) := rfl
    unfold rightP
    rw [if_neg (by dsimp only; decide), if_neg (by dsimp only; decide)]
    dsimp only
    rw [hf]
    have a0 := partOk_none (sl := [immS 0 8 0 255 1]) (i := ⟨44, 0, 0, 0, imm, 0⟩) (k := 0) rfl rfl
    have a1 := partOk_none (sl := [immS 0 8 0 255 1]) (i := ⟨44, 0, 0, 0, imm, 0⟩) (k := 1) rfl rfl
    have a2 := partOk_none (sl := [immS 0 8 0 255 1]) (i := ⟨44, 0, 0, 0, imm, 0⟩) (k := 2) rfl rfl
    have a3 := partOk_some (sl := [immS 0 8 0 255 1]) (i := ⟨44, 0, 0, 0, imm, 0⟩) (k := 3) (s := immS 0 8 0 255 1) rfl h6 h7 (m1 _)
    have a4 := partOk_none (sl := [immS 0 8 0 255 1]) (i := ⟨44, 0, 0, 0, imm, 0⟩) (k := 4) rfl rfl
    dsimp only
    rw [a0, a1, a2, a3, a4]; rfl
end Go.Proofs.YtjcmcfidblhnnaaDoor
namespace Go.Vc
section
variable {P : Program} {w : World} {K : Value → World → Prop} {k : IntKind} {t : TypeId} {a b : Int}
theorem r_shl {k' : IntKind} (h : 0 ≤ b) : (binOp .shl t (.int k a) (.int k' b)).run P w = .ok (.int k (k.wrap (a * 2 ^ (min b.toNat k.bits)))) w := by
  have : ¬ b < 0 := by omega
  simp [binOp, Op.shift, this]
end
end Go.Vc
namespace Go.Proofs.YtjcmcfidblhnnaaDoor
open Go.Vc
variable {w : World} {K : Value → World → Prop}
abbrev u16 (b : Int) : Value := .int .u16 b
theorem wrapU {n : Int} (h0 : 0 ≤ n) (h1 : n < 65536) : IntKind.u16.wrap n = n := by
  have e : n % (2 ^ 16 : Int) = n := by omega
  unfold IntKind.wrap
  simp only [show IntKind.u16.bits = 16 from rfl, show IntKind.u16.signed = false from rfl, e, Bool.false_and, Bool.false_eq_true, if_false]
def Slot.v (s : Slot) : Value := .agg #[i64 s.part, i64 s.shift, i64 s.bits, i64 s.least, i64 s.most, i64 s.step]
def slC (l : List Slot) : List Value := l.flatMap Slot.cells
def SlotsAre (w : World) (v : Value) (l : List Slot) : Prop := SliceIs w v 6 l.length (slC l)
def FindR (B : Nat) (w : World) (op : Int) : Option (Int × List Slot) → Value → Prop
  | some (b, sl), v => ∃ sv, v = .tuple #[.agg #[i64 op, u16 b, sv], .bool true] ∧ w.ownsRow B 143 6 sv sl.length (slC sl)
  | none, v => v = .tuple #[.agg #[i64 0, u16 0, nilS], .bool false]
theorem slotV {s : Slot} {R : Value → World → Prop} {parts : Array (Nat × Value)} (hp : parts = #[(0, i64 s.part), (1, i64 s.shift), (2, i64 s.bits), (3, i64 s.least), (4, i64 s.most), (5, i64 s.step)]) (hk : ∀ w', Ext w w' → R s.v w') :
    V Tryd.prog (Instr.alloc 143 true (.tuple #[])) w fun p w1 => V Tryd.prog (Instr.build 143 parts) w1 fun v w2 => U Tryd.prog (Instr.storeAt 143 p v) w2 fun _ w3 =>
      ∃ r1, (loadVar 143 (match p with | .pointer (some p) => p | _ => ⟨0, 0, none⟩)).run Tryd.prog w3 = .ok r1 w3 ∧ (∃ q, p = Value.pointer (some q)) ∧ R r1 w3 := by
  subst hp
  refine alK inf143 fun w1 hB x1 => ?_
  have hB : Blk w1 w.heap.size [i64 0, i64 0, i64 0, i64 0, i64 0, i64 0] 143 := hB
  refine bld bd_143 [(0, i64 s.part), (1, i64 s.shift), (2, i64 s.bits), (3, i64 s.least), (4, i64 s.most), (5, i64 s.step)] rfl rfl ?_
  refine stA inf143 hB (l := s.cells) rfl rfl rfl rfl fun w2 hB2 hc => ?_
  exact ⟨_, r_var Tryd.underlying143 rfl inf143 hB2 rfl, ⟨_, rfl⟩, hk w2 (hc.ext _ x1 (Nat.le_refl _))⟩
theorem reg75 {p s : Int} (hk : ∀ w', Ext w w' → K (regS p s).v w') : callD Tryd.prog 75 #[i64 p, i64 s] w K := by
  apply F75_wp
  unfold F75_den
  exact slotV (s := regS p s) rfl hk
theorem imm76 {s b l m t : Int} (hk : ∀ w', Ext w w' → K (immS s b l m t).v w') : callD Tryd.prog 76 #[i64 s, i64 b, i64 l, i64 m, i64 t] w K := by
  apply F76_wp
  unfold F76_den
  exact slotV (s := immS s b l m t) rfl hk
theorem slotsLit {sl : List Slot} {n : Nat} {parts : Array (Nat × Value)} (hn : n = sl.length) (hp : parts.toList = ((sl.map Slot.v).zipIdx 0).map fun x => (x.2, x.1)) (h0 : 0 < n) (hl : n ≤ 100) (hk : ∀ u w1, w1.ownsRow w.heap.size 143 6 u sl.length (slC sl) → Ext w w1 → K u w1) : V Tryd.prog (Instr.buildSlice 134 n parts) w K := by
  refine bslG Tryd.underlying134 inf143 rfl (by decide) (sl.map Slot.v) (by simpa using hn) hp (fun v hv => ?_) h0 (by omega) fun u w1 ho x1 => hk u w1 ?_ x1
  · obtain ⟨s, _, rfl⟩ := List.mem_map.1 hv
    rfl
  · have e : (sl.map Slot.v).flatMap (fun v => v.cells.toList) = slC sl := by
      unfold slC; rw [List.flatMap_map]; rfl
    rw [e, hn] at ho
    exact ho
theorem one3 {a b : Int} {u : Value} (h : oneC u = true) : ([i64 a, u16 b, u].all oneC) = true := by show (true && (true && (oneC u && true))) = true; rw [h]; rfl
theorem bl3 {a b : Int} {u : Value} (h : oneC u = true) : ([(0, i64 a), (1, u16 b), (2, u)].all fun x : Nat × Value => decide (x.1 < 3) && oneC x.2) = true := by show ((true && true) && ((true && true) && ((true && oneC u) && true))) = true; rw [h]; rfl
theorem rowPut {op base : Int} {sl : List Slot} {g : Nat} {u : Value} {w0 : World} {R : Value → World → Prop} {B : Nat} (hB : Blk w g [i64 0, u16 0, nilS] 136) (hx : Ext w0 w) (hg : w0.heap.size ≤ g) (hu : w.ownsRow B 143 6 u sl.length (slC sl)) (hgB : g < B)
    (hk : ∀ v w', Chg w g w' → FindR w0.heap.size w' op (some (base, sl)) v → Ext w0 w' → R v w') :
    U Tryd.prog (Instr.storeAt 136 (.pointer (some ⟨g, 0, none⟩)) (.agg #[i64 op, u16 base, u])) w fun _ w3 =>
      ∃ r1, (loadVar 136 ⟨g, 0, none⟩).run Tryd.prog w3 = .ok r1 w3 ∧ (∃ q, Value.pointer (some ⟨g, 0, none⟩) = Value.pointer (some q)) ∧ R (.tuple #[r1, .bool true]) w3 := by
  refine stA inf136 hB (l := [i64 op, u16 base, u]) rfl rfl rfl (one3 (own1' hu)) fun w2 hB2 hc => ?_
  exact ⟨_, r_var Tryd.underlying136 rfl inf136 hB2 rfl, ⟨_, rfl⟩, hk _ w2 hc ⟨u, rfl, own_mono (hc.ownRow hu hgB) (by omega)⟩ (hc.ext _ hx hg)⟩
theorem rowEnd {op base : Int} {sl : List Slot} {g n : Nat} {parts : Array (Nat × Value)} {w0 : World} {R : Value → World → Prop} (hB : Blk w g [i64 0, u16 0, nilS] 136) (hx : Ext w0 w) (hg : w0.heap.size ≤ g) (hn : n = sl.length) (hp : parts.toList = ((sl.map Slot.v).zipIdx 0).map fun x => (x.2, x.1)) (h0 : 0 < n) (hl : n ≤ 100)
    (hk : ∀ v w', FindR w0.heap.size w' op (some (base, sl)) v → Ext w0 w' → R v w') :
    V Tryd.prog (Instr.buildSlice 134 n parts) w fun u w1 => V Tryd.prog (Instr.build 136 #[(0, i64 op), (1, u16 base), (2, u)]) w1 fun v w2 => U Tryd.prog (Instr.storeAt 136 (.pointer (some ⟨g, 0, none⟩)) v) w2 fun _ w3 =>
      ∃ r1, (loadVar 136 ⟨g, 0, none⟩).run Tryd.prog w3 = .ok r1 w3 ∧ (∃ q, Value.pointer (some ⟨g, 0, none⟩) = Value.pointer (some q)) ∧ R (.tuple #[r1, .bool true]) w3 := by
  refine slotsLit hn hp h0 hl fun u w1 ho x1 => ?_
  refine bld bd_136 [(0, i64 op), (1, u16 base), (2, u)] rfl (bl3 (own1' ho)) ?_
  exact rowPut (hB.ext x1) (hx.trans x1) hg ho hB.lt fun v w' _ => hk v w'
theorem rowEndD {op base : Int} {sl : List Slot} {g n : Nat} {parts : Array (Nat × Value)} {w0 : World} {R : Value → World → Prop} {S : World → Prop} (hB : Blk w g [i64 0, u16 0, nilS] 136) (hx : Ext w0 w) (hg : w0.heap.size ≤ g) (hn : n = sl.length) (hp : parts.toList = ((sl.map Slot.v).zipIdx 0).map fun x => (x.2, x.1)) (h0 : 0 < n) (hl : n ≤ 100)
    (h1 : ∀ w', Ext w w' → S w') (h2 : ∀ w1 w', Ext w w1 → Chg w1 g w' → S w') (hk : ∀ v w', FindR w0.heap.size w' op (some (base, sl)) v → Ext w0 w' → R v w') :
    V Tryd.prog (Instr.buildSlice 134 n parts) w fun u w1 => S w1 ∧ yieldS Tryd.prog S (Instr.build 136 #[(0, i64 op), (1, u16 base), (2, u)]) fun v => U Tryd.prog (Instr.storeAt 136 (.pointer (some ⟨g, 0, none⟩)) v) w1 fun _ w3 =>
      S w3 ∧ ∃ r1, (loadVar 136 ⟨g, 0, none⟩).run Tryd.prog w3 = .ok r1 w3 ∧ (∃ q, Value.pointer (some ⟨g, 0, none⟩) = Value.pointer (some q)) ∧ R (.tuple #[r1, .bool true]) w3 := by
  refine slotsLit hn hp h0 hl fun u w1 ho x1 => ⟨h1 w1 x1, ?_⟩
  refine yBld bd_136 [(0, i64 op), (1, u16 base), (2, u)] rfl (bl3 (own1' ho)) ?_
  refine stA inf136 (hB.ext x1) (l := [i64 op, u16 base, u]) rfl rfl rfl (one3 (own1' ho)) fun w2 hB2 hc => ⟨h2 w1 w2 x1 hc, ?_⟩
  exact ⟨_, r_var Tryd.underlying136 rfl inf136 hB2 rfl, ⟨_, rfl⟩, hk _ w2 ⟨u, rfl, own_mono (hc.ownRow ho hB.lt) (by have := hB.lt; omega)⟩ (hc.ext _ (hx.trans x1) hg)⟩
theorem rangeT {a lo hi : Int} {A B : World → Prop} (h1 : lo ≤ a ∧ a ≤ hi → A w) (h2 : ¬ (lo ≤ a ∧ a ≤ hi) → B w) : V Tryd.prog (binOp .geq 3 (i64 a) (i64 lo)) w fun t w1 => gd t true (fun K => K (i64 a) w1) w1 fun t2 w2 => gd t true (fun K => V Tryd.prog (binOp .leq 3 t2 (i64 hi)) w2 K) w2 fun t3 w3 => pickD t t3 (.bool false) fun t4 => ifD t4 (A w3) (B w3) := by
  refine V_geq.2 ?_
  by_cases hl : a ≥ lo
  · simp only [hl, decide_true, gd_t]
    refine V_leq.2 (pickD_mk ?_)
    rw [if_pos rfl]
    exact ifD_dec (fun h => h1 ⟨hl, h⟩) fun h => h2 fun h' => h h'.2
  · simp only [hl, decide_false, gd_ft, pickD_iff, Bool.false_eq_true, reduceIte, ifD_false]
    exact h2 fun h => hl h.1
structure Sl5 (b4 b5 b6 b7 b8 : Nat) (w : World) : Prop where
  a4 : Boxed w b4 (regS 0 0).cells
  a5 : Boxed w b5 (regS 2 3).cells
  a6 : Boxed w b6 (regS 0 8).cells
  a7 : Boxed w b7 (regS 1 3).cells
  a8 : Boxed w b8 (regS 2 6).cells
theorem Sl5.ext {b4 b5 b6 b7 b8 : Nat} {w' : World} (h : Sl5 b4 b5 b6 b7 b8 w) (hx : Ext w w') : Sl5 b4 b5 b6 b7 b8 w' := ⟨h.a4.ext hx, h.a5.ext hx, h.a6.ext hx, h.a7.ext hx, h.a8.ext hx⟩
theorem boxed_chg {b g : Nat} {cs : List Value} {w' : World} (h : Boxed w b cs) (hc : Chg w g w') (hne : b ≠ g) : Boxed w' b cs := fun j u hj => by rw [hc.cell hne]; exact h j u hj
theorem Sl5.chg {b4 b5 b6 b7 b8 g : Nat} {w' : World} (h : Sl5 b4 b5 b6 b7 b8 w) (hc : Chg w g w') (hg : g < b4 ∧ g < b5 ∧ g < b6 ∧ g < b7 ∧ g < b8) : Sl5 b4 b5 b6 b7 b8 w' := ⟨boxed_chg h.a4 hc (by omega), boxed_chg h.a5 hc (by omega), boxed_chg h.a6 hc (by omega), boxed_chg h.a7 hc (by omega), boxed_chg h.a8 hc (by omega)⟩
theorem later77 {op : Int} (hk : ∀ v w', FindR w.heap.size w' op (laterP op) v → Ext w w' → K v w') : callD Tryd.prog 77 #[i64 op] w K := by
  apply F77_wp
  unfold F77_den
  refine alK inf136 fun w1 hB x1 => ?_
  have hB : Blk w1 w.heap.size [i64 0, u16 0, nilS] 136 := hB
  have hlt := hB.lt
  refine reg75 fun w2 x2 => ?_
  refine asK sa_143 rfl rfl fun w3 hB4 x3 => ?_
  have hB4 : Blk w3 w2.heap.size (regS 0 8).cells 143 := hB4
  have x03 := (x1.trans x2).trans x3
  have hB := (hB.ext x2).ext x3
  refine V_eqlI.2 (ifD_dec (fun e => ?_) fun e36 => ?_)
  · subst e
    have hf : laterP 36 = some (36864, [regS 0 8, immS 0 8 0 1020 4]) := rfl
    rw [hf] at hk
    have D : Ext w3 w3.drew := (Ext.refl _).drew
    refine drawD.mk' (fun w' => Boxed w' w2.heap.size (regS 0 8).cells) (hB4.ext D).boxed ?_
    refine yA (fun _ h => h) la_143 rfl ?_
    refine imm76 fun w4 x4 => ⟨(hB4.ext (D.trans x4)).boxed, ?_⟩
    exact rowEndD (hB.ext (D.trans x4)) (x03.trans (D.trans x4)) (Nat.le_refl _) (sl := [regS 0 8, immS 0 8 0 1020 4]) rfl rfl (by decide) (by decide) (fun w' hx => (hB4.ext ((D.trans x4).trans hx)).boxed) (fun w5 w6 hx hc => boxed_chg (hB4.ext ((D.trans x4).trans hx)).boxed hc (by have := x2.size; omega)) hk
  refine V_eqlI.2 (ifD_dec (fun e => ?_) fun e35 => ?_)
  · subst e
    have hf : laterP 35 = some (38912, [regS 0 8, immS 0 8 0 1020 4]) := rfl
    rw [hf] at hk
    have D : Ext w3 w3.drew := (Ext.refl _).drew
    refine drawD.mk' (fun w' => Boxed w' w2.heap.size (regS 0 8).cells) (hB4.ext D).boxed ?_
    refine yA (fun _ h => h) la_143 rfl ?_
    refine imm76 fun w4 x4 => ⟨(hB4.ext (D.trans x4)).boxed, ?_⟩
    exact rowEndD (hB.ext (D.trans x4)) (x03.trans (D.trans x4)) (Nat.le_refl _) (sl := [regS 0 8, immS 0 8 0 1020 4]) rfl rfl (by decide) (by decide) (fun w' hx => (hB4.ext ((D.trans x4).trans hx)).boxed) (fun w5 w6 hx hc => boxed_chg (hB4.ext ((D.trans x4).trans hx)).boxed hc (by have := x2.size; omega)) hk
  refine V_eqlI.2 (ifD_dec (fun e => ?_) fun e37 => ?_)
  · subst e
    have hf : laterP 37 = some (45056, [immS 0 7 0 508 4]) := rfl
    rw [hf] at hk
    refine imm76 fun w4 x4 => ?_
    exact rowEnd (hB.ext x4) (x03.trans x4) (Nat.le_refl _) (sl := [immS 0 7 0 508 4]) rfl rfl (by decide) (by decide) hk
  refine V_eqlI.2 (ifD_dec (fun e => ?_) fun e38 => ?_)
  · subst e
    have hf : laterP 38 = some (45184, [immS 0 7 0 508 4]) := rfl
    rw [hf] at hk
    refine imm76 fun w4 x4 => ?_
    exact rowEnd (hB.ext x4) (x03.trans x4) (Nat.le_refl _) (sl := [immS 0 7 0 508 4]) rfl rfl (by decide) (by decide) hk
  refine V_eqlI.2 (ifD_dec (fun e => ?_) fun e39 => ?_)
  · subst e
    have hf : laterP 39 = some (46080, [immS 0 9 1 511 1]) := rfl
    rw [hf] at hk
    refine imm76 fun w4 x4 => ?_
    exact rowEnd (hB.ext x4) (x03.trans x4) (Nat.le_refl _) (sl := [immS 0 9 1 511 1]) rfl rfl (by decide) (by decide) hk
  refine V_eqlI.2 (ifD_dec (fun e => ?_) fun e40 => ?_)
  · subst e
    have hf : laterP 40 = some (48128, [immS 0 9 1 511 1]) := rfl
    rw [hf] at hk
    refine imm76 fun w4 x4 => ?_
    exact rowEnd (hB.ext x4) (x03.trans x4) (Nat.le_refl _) (sl := [immS 0 9 1 511 1]) rfl rfl (by decide) (by decide) hk
  refine V_eqlI.2 (ifD_dec (fun e => ?_) fun e41 => ?_)
  · subst e
    have hf : laterP 41 = some (53248, [immS 0 8 (-256) 254 2, ⟨4, 8, 4, 0, 13, 1⟩]) := rfl
    rw [hf] at hk
    refine imm76 fun w4 x4 => ?_
    refine bld bd_143 [(0, i64 4), (1, i64 8), (2, i64 4), (3, i64 0), (4, i64 13), (5, i64 1)] rfl rfl ?_
    exact rowEnd (hB.ext x4) (x03.trans x4) (Nat.le_refl _) (sl := [immS 0 8 (-256) 254 2, ⟨4, 8, 4, 0, 13, 1⟩]) rfl rfl (by decide) (by decide) hk
  refine V_eqlI.2 (ifD_dec (fun e => ?_) fun e42 => ?_)
  · subst e
    have hf : laterP 42 = some (57344, [immS 0 11 (-2048) 2046 2]) := rfl
    rw [hf] at hk
    refine imm76 fun w4 x4 => ?_
    exact rowEnd (hB.ext x4) (x03.trans x4) (Nat.le_refl _) (sl := [immS 0 11 (-2048) 2046 2]) rfl rfl (by decide) (by decide) hk
  refine V_eqlI.2 (ifD_dec (fun e => ?_) fun e44 => ?_)
  · subst e
    have hf : laterP 44 = some (57088, [immS 0 8 0 255 1]) := rfl
    rw [hf] at hk
    refine imm76 fun w4 x4 => ?_
    exact rowEnd (hB.ext x4) (x03.trans x4) (Nat.le_refl _) (sl := [immS 0 8 0 255 1]) rfl rfl (by decide) (by decide) hk
  refine V_eqlI.2 (ifD_dec (fun e => ?_) fun e45 => ?_)
  · subst e
    have hf : laterP 45 = some (48896, []) := rfl
    rw [hf] at hk
    refine bld bd_136 [(0, i64 45), (1, u16 48896), (2, nilS)] rfl rfl ?_
    exact rowPut hB x03 (Nat.le_refl _) (sl := []) (World.ownsRow_nil _ (w.heap.size + 1) _ _) (Nat.lt_succ_self _) fun v w' _ => hk v w'
  have hf : laterP op = none := by unfold laterP; simp only [e36, e35, e37, e38, e39, e40, e41, e42, e44, e45, if_false]
  rw [hf] at hk
  refine bld bd_136 [] rfl rfl ?_
  refine stA inf136 hB (l := [i64 0, u16 0, nilS]) rfl rfl rfl rfl fun w4 hB2 hc => ?_
  exact ⟨_, r_var Tryd.underlying136 rfl inf136 hB2 rfl, ⟨_, rfl⟩, hk _ w4 rfl (hc.ext _ x03 (Nat.le_refl _))⟩
set_option maxHeartbeats 1000000 in
theorem find68 {op : Int} (hk : ∀ v w', FindR w.heap.size w' op (findP op) v → Ext w w' → K v w') : callD Tryd.prog 68 #[i64 op] w K := by
  apply F68_wp
  unfold F68_den
  refine alK inf136 fun w1 hB x1 => ?_
  have hB : Blk w1 w.heap.size [i64 0, u16 0, nilS] 136 := hB
  have hlt := hB.lt
  refine reg75 fun w2 x2 => reg75 fun w3 x3 => reg75 fun w4 x4 => reg75 fun w5 x5 => ?_
  refine alK inf143 fun w6 h4 x6 => alK inf143 fun w7 h5 x7 => alK inf143 fun w8 h6 x8 => alK inf143 fun w9 h7 x9 => ?_
  have x15 := ((x2.trans x3).trans x4).trans x5
  have x19 := (((x15.trans x6).trans x7).trans x8).trans x9
  have z4 := h4.lt; have z5 := h5.lt; have z6 := h6.lt; have z7 := h7.lt
  have s5 := x15.size; have s6 := x6.size; have s7 := x7.size; have s8 := x8.size; have s9 := x9.size
  have h4 := ((h4.ext x7).ext x8).ext x9
  have h5 := (h5.ext x8).ext x9
  have h6 := h6.ext x9
  have hB := hB.ext x19
  have x09 := x1.trans x19
  generalize w5.heap.size = b4 at *
  generalize w6.heap.size = b5 at *
  generalize w7.heap.size = b6 at *
  generalize w8.heap.size = b7 at *
  refine stA inf143 h4 (l := (regS 0 0).cells) rfl rfl rfl rfl fun w10 k4 c4 => ?_
  have h5 := c4.other (by omega) h5; have h6 := c4.other (by omega) h6; have h7 := c4.other (by omega) h7; have hB := c4.other (by omega) hB
  refine stA inf143 h5 (l := (regS 2 3).cells) rfl rfl rfl rfl fun w11 k5 c5 => ?_
  have k4 := c5.other (by omega) k4; have h6 := c5.other (by omega) h6; have h7 := c5.other (by omega) h7; have hB := c5.other (by omega) hB
  refine stA inf143 h6 (l := (regS 0 8).cells) rfl rfl rfl rfl fun w12 k6 c6 => ?_
  have k4 := c6.other (by omega) k4; have k5 := c6.other (by omega) k5; have h7 := c6.other (by omega) h7; have hB := c6.other (by omega) hB
  refine stA inf143 h7 (l := (regS 1 3).cells) rfl rfl rfl rfl fun w13 k7 c7 => ?_
  have k4 := c7.other (by omega) k4; have k5 := c7.other (by omega) k5; have k6 := c7.other (by omega) k6; have hB := c7.other (by omega) hB
  have x13 : Ext w w13 := c7.ext _ (c6.ext _ (c5.ext _ (c4.ext _ x09 (by omega)) (by omega)) (by omega)) (by omega)
  have s13 : w13.heap.size = w9.heap.size := by rw [c7.size, c6.size, c5.size, c4.size]
  refine reg75 fun w14 x14 => ?_
  refine asK sa_143 rfl rfl fun w16 k8 x16 => ?_
  have k8 : Blk w16 w14.heap.size (regS 2 6).cells 143 := k8
  have xa := x14.trans x16
  have s14 := x14.size
  have hS : Sl5 b4 b5 b6 b7 w14.heap.size w16 := ⟨(k4.ext xa).boxed, (k5.ext xa).boxed, (k6.ext xa).boxed, (k7.ext xa).boxed, k8.boxed⟩
  have hB := hB.ext xa
  have x0 := x13.trans xa
  have hG : w.heap.size < b4 ∧ w.heap.size < b5 ∧ w.heap.size < b6 ∧ w.heap.size < b7 ∧ w.heap.size < w14.heap.size := by omega
  obtain ⟨g, hgg⟩ : ∃ g, g = w.heap.size := ⟨_, rfl⟩
  have hg : w.heap.size ≤ g := Nat.le_of_eq hgg.symm
  rw [← hgg] at hB hG ⊢
  have hgl := hB.lt
  generalize w14.heap.size = b8 at hS hG
  clear k4 k5 k6 k7 k8 c4 c5 c6 c7 h4 h5 h6 h7 x09 x19 x15 xa x13 s5 s6 s7 s8 s9 z4 z5 z6 z7 s13 s14
  have D : Ext w16 w16.drew := (Ext.refl _).drew
  have imm : ∀ {s b l m t : Int} {K' : Value → World → Prop}, (∀ w', Sl5 b4 b5 b6 b7 b8 w' → Blk w' g [i64 0, u16 0, nilS] 136 → Ext w w' → K' (immS s b l m t).v w') → callD Tryd.prog 76 #[i64 s, i64 b, i64 l, i64 m, i64 t] w16.drew K' := fun hk' =>
    imm76 fun w' hx => hk' w' (hS.ext (D.trans hx)) (hB.ext (D.trans hx)) (x0.trans (D.trans hx))
  refine rangeT (fun h1 => ?_) fun n1 => ?_
  · have hf : findP op = some (0x4000 + (op - 12) * 64, [regS 0 0, regS 2 3]) := by unfold findP; rw [if_pos h1]
    rw [hf] at hk
    refine V_sub.2 ?_
    rw [wrap_id (by omega) (by omega)]
    refine V.ok (r_convI Tryd.underlying3 Tryd.underlying133) ?_
    rw [wrapU (by omega) (by omega)]
    refine V.ok (r_shl (by decide)) ?_
    rw [show (2 : Int) ^ (min (6 : Int).toNat IntKind.u16.bits) = 64 from rfl, wrapU (by omega) (by omega)]
    refine V_add.2 ?_
    rw [wrapU (by omega) (by omega)]
    refine ldA hS.a4 la_143 rfl (ldA hS.a5 la_143 rfl ?_)
    exact rowEnd hB x0 hg (sl := [regS 0 0, regS 2 3]) rfl rfl (by decide) (by decide) hk
  refine rangeT (fun h1 => ?_) fun n2 => ?_
  · have hf : findP op = some (0x2000 + (op - 8) * 2048, [regS 0 8, immS 0 8 0 255 1]) := by unfold findP; rw [if_neg n1, if_pos h1]
    rw [hf] at hk
    refine drawD.mk' (Sl5 b4 b5 b6 b7 b8) (hS.ext D) ?_
    refine yieldS.ok (fun _ _ => r_sub) ?_
    rw [wrap_id (by omega) (by omega)]
    refine yieldS.ok (fun _ _ => r_convI Tryd.underlying3 Tryd.underlying133) ?_
    rw [wrapU (by omega) (by omega)]
    refine yieldS.ok (fun _ _ => r_shl (by decide)) ?_
    rw [show (2 : Int) ^ (min (11 : Int).toNat IntKind.u16.bits) = 2048 from rfl, wrapU (by omega) (by omega)]
    refine yieldS.ok (fun _ _ => r_add) ?_
    rw [wrapU (by omega) (by omega)]
    refine yA (fun _ h => h.a6) la_143 rfl ?_
    refine imm fun w' hS hB x0 => ⟨hS, ?_⟩
    exact rowEndD hB x0 hg (sl := [regS 0 8, immS 0 8 0 255 1]) rfl rfl (by decide) (by decide) (fun _ hx => hS.ext hx) (fun _ _ hx hc => (hS.ext hx).chg hc hG) hk
  refine V_eqlI.2 (ifD_dec (fun e => ?_) fun e1 => ?_)
  · subst e
    have hf : findP 1 = some (0, [regS 0 0, regS 2 3, immS 6 5 0 31 1]) := rfl
    rw [hf] at hk
    refine drawD.mk' (Sl5 b4 b5 b6 b7 b8) (hS.ext D) ?_
    refine yA (fun _ h => h.a4) la_143 rfl (yA (fun _ h => h.a5) la_143 rfl ?_)
    refine imm fun w' hS hB x0 => ⟨hS, ?_⟩
    exact rowEndD hB x0 hg (sl := [regS 0 0, regS 2 3, immS 6 5 0 31 1]) rfl rfl (by decide) (by decide) (fun _ hx => hS.ext hx) (fun _ _ hx hc => (hS.ext hx).chg hc hG) hk
  refine V_eqlI.2 (ifD_dec (fun e => ?_) fun e2 => ?_)
  · subst e
    have hf : findP 2 = some (2048, [regS 0 0, regS 2 3, immS 6 5 1 32 1]) := rfl
    rw [hf] at hk
    refine drawD.mk' (Sl5 b4 b5 b6 b7 b8) (hS.ext D) ?_
    refine yA (fun _ h => h.a4) la_143 rfl (yA (fun _ h => h.a5) la_143 rfl ?_)
    refine imm fun w' hS hB x0 => ⟨hS, ?_⟩
    exact rowEndD hB x0 hg (sl := [regS 0 0, regS 2 3, immS 6 5 1 32 1]) rfl rfl (by decide) (by decide) (fun _ hx => hS.ext hx) (fun _ _ hx hc => (hS.ext hx).chg hc hG) hk
  refine V_eqlI.2 (ifD_dec (fun e => ?_) fun e3 => ?_)
  · subst e
    have hf : findP 3 = some (4096, [regS 0 0, regS 2 3, immS 6 5 1 32 1]) := rfl
    rw [hf] at hk
    refine drawD.mk' (Sl5 b4 b5 b6 b7 b8) (hS.ext D) ?_
    refine yA (fun _ h => h.a4) la_143 rfl (yA (fun _ h => h.a5) la_143 rfl ?_)
    refine imm fun w' hS hB x0 => ⟨hS, ?_⟩
    exact rowEndD hB x0 hg (sl := [regS 0 0, regS 2 3, immS 6 5 1 32 1]) rfl rfl (by decide) (by decide) (fun _ hx => hS.ext hx) (fun _ _ hx hc => (hS.ext hx).chg hc hG) hk
  refine V_eqlI.2 (ifD_dec (fun e => ?_) fun e4 => ?_)
  · subst e
    have hf : findP 4 = some (6144, [regS 0 0, regS 1 3, regS 2 6]) := rfl
    rw [hf] at hk
    refine ldA hS.a4 la_143 rfl (ldA hS.a7 la_143 rfl (ldA hS.a8 la_143 rfl ?_))
    exact rowEnd hB x0 hg (sl := [regS 0 0, regS 1 3, regS 2 6]) rfl rfl (by decide) (by decide) hk
  refine V_eqlI.2 (ifD_dec (fun e => ?_) fun e5 => ?_)
  · subst e
    have hf : findP 5 = some (6656, [regS 0 0, regS 1 3, regS 2 6]) := rfl
    rw [hf] at hk
    refine ldA hS.a4 la_143 rfl (ldA hS.a7 la_143 rfl (ldA hS.a8 la_143 rfl ?_))
    exact rowEnd hB x0 hg (sl := [regS 0 0, regS 1 3, regS 2 6]) rfl rfl (by decide) (by decide) hk
  refine V_eqlI.2 (ifD_dec (fun e => ?_) fun e6 => ?_)
  · subst e
    have hf : findP 6 = some (7168, [regS 0 0, regS 1 3, immS 6 3 0 7 1]) := rfl
    rw [hf] at hk
    refine drawD.mk' (Sl5 b4 b5 b6 b7 b8) (hS.ext D) ?_
    refine yA (fun _ h => h.a4) la_143 rfl (yA (fun _ h => h.a7) la_143 rfl ?_)
    refine imm fun w' hS hB x0 => ⟨hS, ?_⟩
    exact rowEndD hB x0 hg (sl := [regS 0 0, regS 1 3, immS 6 3 0 7 1]) rfl rfl (by decide) (by decide) (fun _ hx => hS.ext hx) (fun _ _ hx hc => (hS.ext hx).chg hc hG) hk
  refine V_eqlI.2 (ifD_dec (fun e => ?_) fun e7 => ?_)
  · subst e
    have hf : findP 7 = some (7680, [regS 0 0, regS 1 3, immS 6 3 0 7 1]) := rfl
    rw [hf] at hk
    refine drawD.mk' (Sl5 b4 b5 b6 b7 b8) (hS.ext D) ?_
    refine yA (fun _ h => h.a4) la_143 rfl (yA (fun _ h => h.a7) la_143 rfl ?_)
    refine imm fun w' hS hB x0 => ⟨hS, ?_⟩
    exact rowEndD hB x0 hg (sl := [regS 0 0, regS 1 3, immS 6 3 0 7 1]) rfl rfl (by decide) (by decide) (fun _ hx => hS.ext hx) (fun _ _ hx hc => (hS.ext hx).chg hc hG) hk
  refine V_eqlI.2 (ifD_dec (fun e => ?_) fun e30 => ?_)
  · subst e
    have hf : findP 30 = some (20480, [regS 0 0, regS 1 3, regS 2 6]) := rfl
    rw [hf] at hk
    refine ldA hS.a4 la_143 rfl (ldA hS.a7 la_143 rfl (ldA hS.a8 la_143 rfl ?_))
    exact rowEnd hB x0 hg (sl := [regS 0 0, regS 1 3, regS 2 6]) rfl rfl (by decide) (by decide) hk
  refine V_eqlI.2 (ifD_dec (fun e => ?_) fun e29 => ?_)
  · subst e
    have hf : findP 29 = some (22528, [regS 0 0, regS 1 3, regS 2 6]) := rfl
    rw [hf] at hk
    refine ldA hS.a4 la_143 rfl (ldA hS.a7 la_143 rfl (ldA hS.a8 la_143 rfl ?_))
    exact rowEnd hB x0 hg (sl := [regS 0 0, regS 1 3, regS 2 6]) rfl rfl (by decide) (by decide) hk
  refine V_eqlI.2 (ifD_dec (fun e => ?_) fun e32 => ?_)
  · subst e
    have hf : findP 32 = some (24576, [regS 0 0, regS 1 3, immS 6 5 0 124 4]) := rfl
    rw [hf] at hk
    refine drawD.mk' (Sl5 b4 b5 b6 b7 b8) (hS.ext D) ?_
    refine yA (fun _ h => h.a4) la_143 rfl (yA (fun _ h => h.a7) la_143 rfl ?_)
    refine imm fun w' hS hB x0 => ⟨hS, ?_⟩
    exact rowEndD hB x0 hg (sl := [regS 0 0, regS 1 3, immS 6 5 0 124 4]) rfl rfl (by decide) (by decide) (fun _ hx => hS.ext hx) (fun _ _ hx hc => (hS.ext hx).chg hc hG) hk
  refine V_eqlI.2 (ifD_dec (fun e => ?_) fun e31 => ?_)
  · subst e
    have hf : findP 31 = some (26624, [regS 0 0, regS 1 3, immS 6 5 0 124 4]) := rfl
    rw [hf] at hk
    refine drawD.mk' (Sl5 b4 b5 b6 b7 b8) (hS.ext D) ?_
    refine yA (fun _ h => h.a4) la_143 rfl (yA (fun _ h => h.a7) la_143 rfl ?_)
    refine imm fun w' hS hB x0 => ⟨hS, ?_⟩
    exact rowEndD hB x0 hg (sl := [regS 0 0, regS 1 3, immS 6 5 0 124 4]) rfl rfl (by decide) (by decide) (fun _ hx => hS.ext hx) (fun _ _ hx hc => (hS.ext hx).chg hc hG) hk
  refine V_eqlI.2 (ifD_dec (fun e => ?_) fun e34 => ?_)
  · subst e
    have hf : findP 34 = some (28672, [regS 0 0, regS 1 3, immS 6 5 0 31 1]) := rfl
    rw [hf] at hk
    refine drawD.mk' (Sl5 b4 b5 b6 b7 b8) (hS.ext D) ?_
    refine yA (fun _ h => h.a4) la_143 rfl (yA (fun _ h => h.a7) la_143 rfl ?_)
    refine imm fun w' hS hB x0 => ⟨hS, ?_⟩
    exact rowEndD hB x0 hg (sl := [regS 0 0, regS 1 3, immS 6 5 0 31 1]) rfl rfl (by decide) (by decide) (fun _ hx => hS.ext hx) (fun _ _ hx hc => (hS.ext hx).chg hc hG) hk
  refine V_eqlI.2 (ifD_dec (fun e => ?_) fun e33 => ?_)
  · subst e
    have hf : findP 33 = some (30720, [regS 0 0, regS 1 3, immS 6 5 0 31 1]) := rfl
    rw [hf] at hk
    refine drawD.mk' (Sl5 b4 b5 b6 b7 b8) (hS.ext D) ?_
    refine yA (fun _ h => h.a4) la_143 rfl (yA (fun _ h => h.a7) la_143 rfl ?_)
    refine imm fun w' hS hB x0 => ⟨hS, ?_⟩
    exact rowEndD hB x0 hg (sl := [regS 0 0, regS 1 3, immS 6 5 0 31 1]) rfl rfl (by decide) (by decide) (fun _ hx => hS.ext hx) (fun _ _ hx hc => (hS.ext hx).chg hc hG) hk
  have hf : findP op = laterP op := by unfold findP; simp only [n1, n2, e1, e2, e3, e4, e5, e6, e7, e30, e29, e32, e31, e34, e33, if_false]
  rw [hf] at hk
  refine later77 fun v w' hv hx => ?_
  have hB := hB.ext hx
  cases hl : laterP op with
  | none =>
    rw [hl] at hv hk
    have hv : v = _ := hv
    subst hv
    refine V_ext0.2 (V_ext1.2 ?_)
    refine stA inf136 hB (l := [i64 0, u16 0, nilS]) rfl rfl rfl rfl fun w4 hB2 hc => ?_
    exact ⟨_, r_var Tryd.underlying136 rfl inf136 hB2 rfl, ⟨_, rfl⟩, hk _ w4 rfl (hc.ext _ (x0.trans hx) hg)⟩
  | some r =>
    rw [hl] at hv hk
    obtain ⟨sv, rfl, hsv⟩ := hv
    refine V_ext0.2 (V_ext1.2 ?_)
    refine stA inf136 hB (l := [i64 op, u16 r.1, sv]) rfl rfl rfl (one3 (own1' hsv)) fun w4 hB2 hc => ?_
    exact ⟨_, r_var Tryd.underlying136 rfl inf136 hB2 rfl, ⟨_, rfl⟩, hk _ w4 ⟨sv, rfl, own_mono (hc.ownRow hsv (by have : g < w16.heap.size := hgl; exact this)) (by omega)⟩ (hc.ext _ (x0.trans hx) hg)⟩
end Go.Proofs.YtjcmcfidblhnnaaDoor
namespace Go.Vc
section
variable {P : Program} {w : World} {K : Value → World → Prop} {S : World → Prop} {L : Value → Prop}
theorem eqFields_refl {d : Nat} {xs : Array Value} : ∀ fs : List Field, (∀ f ∈ fs, ∃ v, (part f.type xs f.offset).run P w = .ok v w ∧ (Op.equalIn d f.type v v).run P w = .ok true w) → (Op.eqFields d xs xs fs).run P w = .ok true w
  | [], _ => by simp [Op.eqFields]
  | f :: fs, h => by
    obtain ⟨v, h1, h2⟩ := h f (List.mem_cons_self ..)
    have ih := eqFields_refl fs fun g hg => h g (List.mem_cons_of_mem _ hg)
    unfold Op.eqFields
    split
    · simp only [Sem.run_bind, h1, Result.andThen_ok, h2, Bool.not_true, Bool.false_eq_true, if_false]
      exact ih
    · exact ih
theorem part_int {t : TypeId} {k : IntKind} {xs : Array Value} {o : Nat} {v : Value} (ht : P.underlying t = some (.int k)) (hv : xs[o]? = some v) : (part t xs o).run P w = .ok v w := by
  simp [part, isAgg, run_underlying ht, hv]
structure QT (P : Program) (t : TypeId) (fs : List (TypeId × Nat)) : Prop where
  ht : P.underlying t = some (.struct (P.fieldsOf t))
  hp : P.stoodInHeld t = false
  hm : P.eqGuardType P.depth t = false
  hf : (P.fieldsOf t).toList.map (fun f => (f.type, f.offset)) = fs
theorem QT.refl {t : TypeId} {fs : List (TypeId × Nat)} (h : QT P t fs) {d : Nat} {xs : Array Value} (hx : ∀ f ∈ fs, ∃ v, (part f.1 xs f.2).run P w = .ok v w ∧ (Op.equalIn d f.1 v v).run P w = .ok true w) : (Op.equalIn (d + 1) t (.agg xs) (.agg xs)).run P w = .ok true w := by
  rw [run_equalIn_struct w d t xs xs h.ht h.hp]
  refine eqFields_refl _ fun f hf => hx (f.type, f.offset) ?_
  rw [← h.hf]
  exact List.mem_map.2 ⟨f, hf, rfl⟩
theorem eqA {t : TypeId} {fs : List (TypeId × Nat)} (h : QT P t fs) {xs ys : Array Value} (he : xs = ys) {x y : Operand} (hx : ∀ f ∈ fs, ∃ v, (part f.1 xs f.2).run P w = .ok v w ∧ (Op.equalIn 9999 f.1 v v).run P w = .ok true w) (hk : K (.bool true) w) :
    V P (do eqGuard .eql t x y (.agg xs) (.agg ys); binOp .eql t (.agg xs) (.agg ys)) w K := by
  subst he
  refine V.ok ?_ hk
  simp only [Sem.run_bind, run_eqGuard_agg w .eql t x y xs xs h.hm, Result.andThen_ok, run_eql_struct, h.refl hx]
end
end Go.Vc
namespace Go.Proofs.YtjcmcfidblhnnaaDoor
open Go.Vc
variable {w : World} {K : Value → World → Prop}
def insF : List (TypeId × Nat) := [(3, 0), (3, 1), (3, 2), (3, 3), (3, 4), (3, 5)]
theorem qtIns : QT Tryd.prog 72 insF := ⟨by kernel_rfl, by kernel_rfl, by kernel_rfl, by kernel_rfl⟩
def Tin.cells (i : Tin) : List Value := [i64 i.op, i64 i.d, i64 i.n, i64 i.m, i64 i.imm, i64 i.cond]
theorem ins_refl (i : Tin) (d : Nat) : ∀ f ∈ insF, ∃ v, (part f.1 i.cells.toArray f.2).run Tryd.prog w = .ok v w ∧ (Op.equalIn (d + 1) f.1 v v).run Tryd.prog w = .ok true w := by
  intro f hf
  have key : ∀ (o : Nat) (n : Int), i.cells.toArray[o]? = some (i64 n) → ∃ v, (part 3 i.cells.toArray o).run Tryd.prog w = .ok v w ∧ (Op.equalIn (d + 1) 3 v v).run Tryd.prog w = .ok true w := fun o n h =>
    ⟨_, part_int Tryd.underlying3 h, by rw [run_equalIn_int w d 3 _ _ _ _ Tryd.underlying3]; simp⟩
  simp only [insF, List.mem_cons, List.not_mem_nil, or_false] at hf
  rcases hf with rfl | rfl | rfl | rfl | rfl | rfl <;> exact key _ _ rfl
theorem eqIns {i j : Tin} (he : i = j) {x y : Operand} (hk : K (.bool true) w) : V Tryd.prog (do eqGuard .eql 72 x y (.agg i.cells.toArray) (.agg j.cells.toArray); binOp .eql 72 (.agg i.cells.toArray) (.agg j.cells.toArray)) w K :=
  eqA qtIns (by rw [he]) (ins_refl i 9998) hk
def partO (k : Int) : Nat := if k = 0 then 1 else if k = 1 then 2 else if k = 2 then 3 else if k = 3 then 4 else 5
theorem part_at (i : Tin) (k : Int) : i.cells[partO k]? = some (i64 (i.part k)) := by
  unfold partO Tin.part
  by_cases h0 : k = 0
  · simp [h0, Tin.cells]
  by_cases h1 : k = 1
  · simp [h1, Tin.cells]
  by_cases h2 : k = 2
  · simp [h2, Tin.cells]
  by_cases h3 : k = 3
  · simp [h3, Tin.cells]
  simp [h0, h1, h2, h3, Tin.cells]
theorem part78 {b : Nat} {k : Int} (hk : K (.pointer (some ⟨b, partO k, none⟩)) w) : callD Tryd.prog 78 #[.pointer (some ⟨b, 0, none⟩), i64 k] w K := by
  apply F78_wp
  unfold F78_den
  unfold partO at hk
  refine V_eqlI.2 (ifD_dec (fun e => ?_) fun e => ?_)
  · rw [if_pos e] at hk; exact ⟨.inl ⟨_, rfl⟩, fdA fa_72_1 hk⟩
  rw [if_neg e] at hk
  refine V_eqlI.2 (ifD_dec (fun e => ?_) fun e => ?_)
  · rw [if_pos e] at hk; exact ⟨.inl ⟨_, rfl⟩, fdA fa_72_2 hk⟩
  rw [if_neg e] at hk
  refine V_eqlI.2 (ifD_dec (fun e => ?_) fun e => ?_)
  · rw [if_pos e] at hk; exact ⟨.inl ⟨_, rfl⟩, fdA fa_72_3 hk⟩
  rw [if_neg e] at hk
  refine V_eqlI.2 (ifD_dec (fun e => ?_) fun e => ?_)
  · rw [if_pos e] at hk; exact ⟨.inl ⟨_, rfl⟩, fdA fa_72_4 hk⟩
  rw [if_neg e] at hk
  exact ⟨.inl ⟨_, rfl⟩, fdA fa_72_5 hk⟩
theorem slC_at {sl : List Slot} {j : Nat} {s : Slot} (h : sl[j]? = some s) : ((slC sl).drop (((j : Int)).toNat * 6)).take 6 = s.cells := by
  induction sl generalizing j with
  | nil => simp at h
  | cons x l ih =>
    cases j with
    | zero => simp at h; subst h; simp [slC, Slot.cells]
    | succ j =>
      have := ih (j := j) (by simpa using h)
      simp only [Int.toNat_natCast] at this ⊢
      rw [← this]
      have e : slC (x :: l) = x.cells ++ slC l := rfl
      rw [e, show (j + 1) * 6 = x.cells.length + j * 6 from by simp [Slot.cells]; omega, List.drop_append, List.drop_eq_nil_of_le (by omega), List.nil_append, Nat.add_sub_cancel_left]
theorem find_none {sl : List Slot} {k : Int} {j : Nat} {s : Slot} (h : ∀ q, q < j → ∀ s, sl[q]? = some s → s.part ≠ k) (hs : sl[j]? = some s) (he : s.part = k) : sl.find? (fun s => decide (s.part = k)) = some s := by
  induction sl generalizing j with
  | nil => simp at hs
  | cons x l ih =>
    cases j with
    | zero => simp at hs; subst hs; simp [he]
    | succ j =>
      have hx : x.part ≠ k := h 0 (by omega) x rfl
      rw [List.find?_cons, decide_eq_false hx]
      exact ih (j := j) (fun q hq s hs => h (q + 1) (by omega) s (by simpa using hs)) (by simpa using hs)
theorem rightPart69 {sl : List Slot} {i : Tin} {k op base : Int} {sv : Value} {B : Nat} (hs : w.ownsRow B 143 6 sv sl.length (slC sl)) (hl : sl.length ≤ 100) (hst : ∀ s ∈ sl, 0 < s.step) (hk : ∀ w', Ext w w' → K (.bool (partOk sl i k)) w') :
    callD Tryd.prog 69 #[.agg #[i64 op, u16 base, sv], .agg i.cells.toArray, i64 k] w K := by
  apply F69_wp
  unfold F69_den
  refine bx fun b3 w1 h3 x1 => ?_
  have h3 : Boxed w1 b3 [i64 op, u16 base, sv] := h3
  refine bx fun b4 w2 h4 x2 => ?_
  have h4 : Boxed w2 b4 i.cells := h4
  refine part78 ⟨.inl ⟨_, rfl⟩, ?_⟩
  have x02 := x1.trans x2
  have hp := h4 _ _ (part_at i k)
  rw [Nat.zero_add] at hp
  obtain ⟨d, hd, ha⟩ := l1_3.ex
  refine V.ok (r_load hd ha hp) ?_
  refine ldB (h3.ext x2) fa_136_2 l1_134 rfl (lnx xa_134 (SliceIs.of_own (x02.own hs)) ?_)
  refine ⟨fun v w' => ∃ j : Nat, v = i64 j ∧ j ≤ sl.length ∧ Ext w w' ∧ ∀ q, q < j → ∀ s, sl[q]? = some s → s.part ≠ k, fun v _ => sl.length - (RowKit.intOf v).toNat, ⟨0, rfl, Nat.zero_le _, x02, fun q hq => by omega⟩, ?_⟩
  rintro _ w3 ⟨j, rfl, hj, x3, hno⟩ _
  refine V_lss.2 (ifD_dec (fun hlt => ?_) fun hge => ?_)
  · obtain ⟨s, hsj⟩ := ex_get (l := sl) (j := j) (by omega)
    refine ldxA xa_134 la_143 (SliceIs.of_own (x3.own hs)) (by omega) (by omega) (slC_at hsj) rfl ?_
    refine asK sa_143 rfl rfl fun w4 h9 x4 => ?_
    have h9 : Boxed w4 w3.heap.size s.cells := Blk.boxed h9
    have x04 := x3.trans x4
    refine ldB h9 fa_143_0 l1_3 rfl (V_eqlI.2 (ifD_dec (fun he => ?_) fun hne => ?_))
    · have hf := find_none hno hsj he
      have hpo : partOk sl i k = (decide (s.least ≤ i.part k) && decide (i.part k ≤ s.most) && decide ((i.part k).tmod s.step = 0)) := by unfold partOk; rw [hf]
      rw [hpo] at hk
      have hs0 := hst s (List.mem_of_getElem? hsj)
      refine ldB h9 fa_143_3 l1_3 rfl (V_geq.2 ?_)
      by_cases c1 : s.least ≤ i.part k
      · simp only [show (i.part k ≥ s.least) = True from by simp [c1], decide_true, gd_t]
        refine ldB h9 fa_143_4 l1_3 rfl (V_leq.2 ?_)
        by_cases c2 : i.part k ≤ s.most
        · simp only [c2, decide_true, pickD_iff, reduceIte, gd_t]
          refine ldB h9 fa_143_5 l1_3 rfl (rm hs0 fun c hc _ _ => V_eqlI.2 ?_)
          try simp only [pickD_iff, reduceIte]
          subst hc
          have := hk w4 x04
          simpa only [c1, c2, decide_true, Bool.true_and] using this
        · simp only [c2, decide_false, pickD_iff, Bool.false_eq_true, reduceIte, gd_ft]
          have := hk w4 x04
          simpa only [c1, c2, decide_true, decide_false, Bool.true_and, Bool.false_and] using this
      · simp only [show (i.part k ≥ s.least) = False from by simp; omega, decide_false, gd_ft, pickD_iff, Bool.false_eq_true, reduceIte]
        have := hk w4 x04
        simpa only [c1, decide_false, Bool.false_and] using this
    · refine V_add.2 ?_
      rw [wrap_id (by omega) (by omega), i64_succ]
      refine ⟨⟨j + 1, rfl, by omega, x04, fun q hq t ht => ?_⟩, by simp only [intOf_i64]; omega⟩
      by_cases hqj : q = j
      · subst hqj; rw [hsj] at ht; cases ht; exact hne
      · exact hno q (by omega) t ht
  · have hpo : partOk sl i k = decide (i.part k = 0) := by
      unfold partOk
      rw [List.find?_eq_none.2 fun s hs => ?_]
      obtain ⟨q, hq⟩ := List.getElem?_of_mem hs
      have := (List.getElem?_eq_some_iff.1 hq).1
      simpa using hno q (by omega) s hq
    rw [hpo] at hk
    exact V_eqlI.2 (hk w3 x3)
end Go.Proofs.YtjcmcfidblhnnaaDoor
namespace Go.Vc
section
variable {P : Program} {w : World} {K : Value → World → Prop}
theorem andF {s f o ft bk : Nat} {cs : List Value} {u : Value} {b c : Bool} {cmp : Value → Sem Value} {R : Value → World → Prop} (hb : Boxed w bk cs) (hf : FA P s f o) (hl : L1 P ft) (hc : cs[o]? = some u) (hcmp : (cmp u).run P w = .ok (.bool c) w) (hk : R (.bool (b && c)) w) :
    gd (.bool b) true (fun K => V P (Instr.fieldAt s (.pointer (some ⟨bk, 0, none⟩)) f) w K) w fun t1 w1 => gd (.bool b) true (fun K => V P (Instr.loadAt ft t1) w1 K) w1 fun t2 w2 => gd (.bool b) true (fun K => V P (cmp t2) w2 K) w2 fun t3 w3 => pickD (.bool b) t3 (.bool false) fun t4 => R t4 w3 := by
  cases b with
  | true =>
    rw [gd_t]
    obtain ⟨d, hd, ha⟩ := hl
    refine V.ok (hf.ex w bk 0) ?_
    rw [gd_t]
    refine V.ok (r_load hd ha (hb _ _ hc)) ?_
    rw [gd_t]
    refine V.ok hcmp (pickD_mk ?_)
    rw [if_pos rfl]; exact hk
  | false =>
    rw [gd_ft, gd_ft, gd_ft]
    exact pickD_mk (by rw [if_neg (by decide)]; exact hk)
theorem andF2 {s f o ft bk : Nat} {cs : List Value} {u m : Value} {b c : Bool} {cmp cmp2 : Value → Sem Value} {R : Value → World → Prop} (hb : Boxed w bk cs) (hf : FA P s f o) (hl : L1 P ft) (hc : cs[o]? = some u) (hcmp : (cmp u).run P w = .ok m w) (hcmp2 : (cmp2 m).run P w = .ok (.bool c) w) (hk : R (.bool (b && c)) w) :
    gd (.bool b) true (fun K => V P (Instr.fieldAt s (.pointer (some ⟨bk, 0, none⟩)) f) w K) w fun t1 w1 => gd (.bool b) true (fun K => V P (Instr.loadAt ft t1) w1 K) w1 fun t2 w2 => gd (.bool b) true (fun K => V P (cmp t2) w2 K) w2 fun t3 w3 => gd (.bool b) true (fun K => V P (cmp2 t3) w3 K) w3 fun t3 w3 => pickD (.bool b) t3 (.bool false) fun t4 => R t4 w3 := by
  cases b with
  | true =>
    rw [gd_t]
    obtain ⟨d, hd, ha⟩ := hl
    refine V.ok (hf.ex w bk 0) ?_
    rw [gd_t]
    refine V.ok (r_load hd ha (hb _ _ hc)) ?_
    rw [gd_t]
    refine V.ok hcmp ?_
    rw [gd_t]
    refine V.ok hcmp2 (pickD_mk ?_)
    rw [if_pos rfl]; exact hk
  | false =>
    rw [gd_ft, gd_ft, gd_ft, gd_ft]
    exact pickD_mk (by rw [if_neg (by decide)]; exact hk)
end
end Go.Vc
namespace Go.Proofs.YtjcmcfidblhnnaaDoor
open Go.Vc
variable {w : World} {K : Value → World → Prop}
theorem findP_ok {op b : Int} {sl : List Slot} (h : findP op = some (b, sl)) : sl.length ≤ 3 ∧ ∀ s ∈ sl, 0 < s.step ∧ 0 ≤ s.part ∧ s.part ≤ 4 := by
  unfold findP at h
  by_cases c : 12 ≤ op ∧ op ≤ 27
  · rw [if_pos c] at h; cases h; exact ⟨by decide, by simp [regS]⟩
  rw [if_neg c] at h
  clear c
  by_cases c : 8 ≤ op ∧ op ≤ 11
  · rw [if_pos c] at h; cases h; exact ⟨by decide, by simp [regS, immS]⟩
  rw [if_neg c] at h
  clear c
  by_cases c : op = 1
  · rw [if_pos c] at h; cases h; exact ⟨by decide, by simp [regS, immS]⟩
  rw [if_neg c] at h
  clear c
  by_cases c : op = 2
  · rw [if_pos c] at h; cases h; exact ⟨by decide, by simp [regS, immS]⟩
  rw [if_neg c] at h
  clear c
  by_cases c : op = 3
  · rw [if_pos c] at h; cases h; exact ⟨by decide, by simp [regS, immS]⟩
  rw [if_neg c] at h
  clear c
  by_cases c : op = 4
  · rw [if_pos c] at h; cases h; exact ⟨by decide, by simp [regS]⟩
  rw [if_neg c] at h
  clear c
  by_cases c : op = 5
  · rw [if_pos c] at h; cases h; exact ⟨by decide, by simp [regS]⟩
  rw [if_neg c] at h
  clear c
  by_cases c : op = 6
  · rw [if_pos c] at h; cases h; exact ⟨by decide, by simp [regS, immS]⟩
  rw [if_neg c] at h
  clear c
  by_cases c : op = 7
  · rw [if_pos c] at h; cases h; exact ⟨by decide, by simp [regS, immS]⟩
  rw [if_neg c] at h
  clear c
  by_cases c : op = 30
  · rw [if_pos c] at h; cases h; exact ⟨by decide, by simp [regS]⟩
  rw [if_neg c] at h
  clear c
  by_cases c : op = 29
  · rw [if_pos c] at h; cases h; exact ⟨by decide, by simp [regS]⟩
  rw [if_neg c] at h
  clear c
  by_cases c : op = 32
  · rw [if_pos c] at h; cases h; exact ⟨by decide, by simp [regS, immS]⟩
  rw [if_neg c] at h
  clear c
  by_cases c : op = 31
  · rw [if_pos c] at h; cases h; exact ⟨by decide, by simp [regS, immS]⟩
  rw [if_neg c] at h
  clear c
  by_cases c : op = 34
  · rw [if_pos c] at h; cases h; exact ⟨by decide, by simp [regS, immS]⟩
  rw [if_neg c] at h
  clear c
  by_cases c : op = 33
  · rw [if_pos c] at h; cases h; exact ⟨by decide, by simp [regS, immS]⟩
  rw [if_neg c] at h
  clear c
  unfold laterP at h
  by_cases c : op = 36
  · rw [if_pos c] at h; cases h; exact ⟨by decide, by simp [regS, immS]⟩
  rw [if_neg c] at h
  clear c
  by_cases c : op = 35
  · rw [if_pos c] at h; cases h; exact ⟨by decide, by simp [regS, immS]⟩
  rw [if_neg c] at h
  clear c
  by_cases c : op = 37
  · rw [if_pos c] at h; cases h; exact ⟨by decide, by simp [immS]⟩
  rw [if_neg c] at h
  clear c
  by_cases c : op = 38
  · rw [if_pos c] at h; cases h; exact ⟨by decide, by simp [immS]⟩
  rw [if_neg c] at h
  clear c
  by_cases c : op = 39
  · rw [if_pos c] at h; cases h; exact ⟨by decide, by simp [immS]⟩
  rw [if_neg c] at h
  clear c
  by_cases c : op = 40
  · rw [if_pos c] at h; cases h; exact ⟨by decide, by simp [immS]⟩
  rw [if_neg c] at h
  clear c
  by_cases c : op = 41
  · rw [if_pos c] at h; cases h; exact ⟨by decide, by simp [immS]⟩
  rw [if_neg c] at h
  clear c
  by_cases c : op = 42
  · rw [if_pos c] at h; cases h; exact ⟨by decide, by simp [immS]⟩
  rw [if_neg c] at h
  clear c
  by_cases c : op = 44
  · rw [if_pos c] at h; cases h; exact ⟨by decide, by simp [immS]⟩
  rw [if_neg c] at h
  clear c
  by_cases c : op = 45
  · rw [if_pos c] at h; cases h; exact ⟨by decide, by simp []⟩
  rw [if_neg c] at h
  clear c
  cases h
def partsTo (r : Option (Int × List Slot)) (i : Tin) (j : Nat) : Bool := match r with
  | some r => (List.range j).all fun k => partOk r.2 i (k : Int)
  | none => false
theorem partsTo_succ {r : Int × List Slot} {i : Tin} {j : Nat} : partsTo (some r) i (j + 1) = (partsTo (some r) i j && partOk r.2 i (j : Int)) := by
  simp [partsTo, List.range_succ]
set_option maxHeartbeats 1000000 in
theorem right54 {i : Tin} (h28 : i.op = 28 → i.n = 0 ∧ i.imm = 0 ∧ i.cond = 0) (h43 : i.op = 43 → i.d = 0 ∧ i.n = 0 ∧ i.m = 0 ∧ i.cond = 0) (hk : ∀ w', Ext w w' → K (.bool (rightP i)) w') : callD Tryd.prog 54 #[.agg i.cells.toArray] w K := by
  apply F54_wp
  unfold F54_den
  refine bx fun b w1 hb x1 => ?_
  have hb : Boxed w1 b i.cells := hb
  have fi : ∀ {R : Value → World → Prop} {f : Nat} {v : Value}, FA Tryd.prog 72 f f → i.cells[f]? = some v → R v w1 → V Tryd.prog (Instr.fieldAt 72 (.pointer (some ⟨b, 0, none⟩)) f) w1 fun q w2 => V Tryd.prog (Instr.loadAt 3 q) w2 R := fun hf hv hr => ldB hb hf l1_3 hv hr
  refine fi fa_72_0 rfl (V_eqlI.2 (ifD_dec (fun e => ?_) fun e28 => ?_))
  · obtain ⟨z1, z2, z3⟩ := h28 e
    refine ldA hb la_72 rfl ?_
    refine fi fa_72_1 rfl (fi fa_72_3 rfl ?_)
    refine bld bd_72 [(0, i64 28), (1, i64 i.d), (3, i64 i.m)] rfl rfl ?_
    refine eqIns (i := i) (j := ⟨28, i.d, 0, i.m, 0, 0⟩) ?_ ?_
    · cases i; simp only at e z1 z2 z3; subst e z1 z2 z3; rfl
    refine andF hb fa_72_1 l1_3 rfl r_geq ?_
    refine andF hb fa_72_1 l1_3 rfl r_lss ?_
    refine andF hb fa_72_1 l1_3 rfl r_neqI ?_
    refine andF hb fa_72_3 l1_3 rfl r_geq ?_
    refine andF hb fa_72_3 l1_3 rfl r_lss ?_
    have := hk w1 x1
    unfold rightP at this
    rw [if_pos e, decide_eq_true ⟨z1, z2, z3⟩] at this
    exact this
  refine V_eqlI.2 (ifD_dec (fun e => ?_) fun e43 => ?_)
  · obtain ⟨z1, z2, z3, z4⟩ := h43 e
    refine ldA hb la_72 rfl ?_
    refine fi fa_72_4 rfl ?_
    refine bld bd_72 [(0, i64 43), (4, i64 i.imm)] rfl rfl ?_
    refine eqIns (i := i) (j := ⟨43, 0, 0, 0, i.imm, 0⟩) ?_ ?_
    · cases i; simp only at e z1 z2 z3 z4; subst e z1 z2 z3 z4; rfl
    refine andF hb fa_72_4 l1_3 rfl r_geq ?_
    refine andF hb fa_72_4 l1_3 rfl r_leq ?_
    refine andF2 hb fa_72_4 l1_3 rfl (r_rem (by decide)) r_eqlI ?_
    have := hk w1 x1
    unfold rightP at this
    rw [if_neg e28, if_pos e, decide_eq_true ⟨z1, z2, z3, z4⟩] at this
    exact this
  refine fi fa_72_0 rfl (find68 fun v w2 hv x2 => ?_)
  have hrp : rightP i = partsTo (findP i.op) i 5 := by
    unfold rightP partsTo
    rw [if_neg e28, if_neg e43]
    cases findP i.op with
    | none => rfl
    | some r => simp [List.range_succ, Bool.and_assoc]
  rw [hrp] at hk
  obtain ⟨op, base, sv, sl, rfl, hsv, hsl, hst, hfs⟩ : ∃ (op base : Int) (sv : Value) (sl : List Slot), v = .tuple #[.agg #[i64 op, u16 base, sv], .bool (findP i.op).isSome] ∧ w2.ownsRow w1.heap.size 143 6 sv sl.length (slC sl) ∧ sl.length ≤ 100 ∧ (∀ s ∈ sl, 0 < s.step) ∧ ∀ r, findP i.op = some r → r.2 = sl := by
    cases hf : findP i.op with
    | none =>
      rw [hf] at hv
      have hv : v = _ := hv
      exact ⟨0, 0, nilS, [], hv, World.ownsRow_nil _ _ _ _, by decide, fun s hs => (by cases hs), fun r h => (by cases h)⟩
    | some r =>
      rw [hf] at hv
      obtain ⟨sv, h1, h2⟩ := hv
      obtain ⟨b, sl⟩ := r
      obtain ⟨f1, f2⟩ := findP_ok hf
      exact ⟨i.op, b, sv, sl, h1, h2, by omega, fun s hs => (f2 s hs).1, fun r h => by cases h; rfl⟩
  refine V_ext0.2 (V_ext1.2 ?_)
  refine asK sa_136 rfl (one3 (own1' hsv)) fun w3 h3 x3 => ?_
  have h3 : Blk w3 w2.heap.size [i64 op, u16 base, sv] 136 := h3
  have x13 := x2.trans x3
  refine ⟨fun ok v w' => ∃ j : Nat, v = i64 j ∧ j ≤ 5 ∧ ok = .bool (partsTo (findP i.op) i j) ∧ Ext w3 w', fun _ v _ => 5 - (RowKit.intOf v).toNat, ⟨0, rfl, by decide, ?_, Ext.refl _⟩, ?_⟩
  · cases findP i.op <;> rfl
  rintro _ _ w4 ⟨j, rfl, hj, rfl, x4⟩ _
  refine V_lss.2 (ifD_dec (fun hlt => ?_) fun hge => ?_)
  · have nx : ∀ {c : Bool} {w'}, partsTo (findP i.op) i (j + 1) = c → Ext w3 w' → V Tryd.prog (binOp .add 3 (i64 j) (i64 1)) w' fun t81 w65 => (∃ j : Nat, t81 = i64 j ∧ j ≤ 5 ∧ Value.bool c = .bool (partsTo (findP i.op) i j) ∧ Ext w3 w65) ∧ 5 - (RowKit.intOf t81).toNat < 5 - (RowKit.intOf (i64 (j : Int))).toNat := fun hc hx => by
      refine V_add.2 ?_
      rw [wrap_id (by omega) (by omega), i64_succ]
      exact ⟨⟨j + 1, rfl, by omega, by rw [hc], hx⟩, by simp only [intOf_i64]; omega⟩
    cases hp : partsTo (findP i.op) i j with
    | false =>
      simp only [gd_ft, pickD_iff, Bool.false_eq_true, reduceIte]
      refine nx ?_ x4
      cases hf : findP i.op with
      | none => rfl
      | some r => rw [hf] at hp; rw [partsTo_succ, hp]; rfl
    | true =>
      simp only [gd_t]
      refine ldA (h3.ext x4).boxed la_136 rfl (ldA ((hb.ext x13).ext x4) la_72 rfl ?_)
      refine rightPart69 ((x3.trans x4).own hsv) hsl hst fun w5 x5 => ?_
      simp only [pickD_iff, reduceIte]
      refine nx ?_ (x4.trans x5)
      cases hf : findP i.op with
      | none => rw [hf] at hp; cases hp
      | some r =>
        rw [hf] at hp
        rw [partsTo_succ, hp, hfs r hf]; rfl
  · obtain rfl : j = 5 := by omega
    exact hk w4 ((x1.trans x13).trans x4)
end Go.Proofs.YtjcmcfidblhnnaaDoor
namespace Go.Vc
theorem flat_at {α : Type} {f : α → List Value} {sz : Nat} (hf : ∀ x, (f x).length = sz) : ∀ {l : List α} {j : Nat} {x : α}, l[j]? = some x → ((l.flatMap f).drop (j * sz)).take sz = f x
  | [], _, _, h => by simp at h
  | y :: l, 0, x, h => by
    simp at h; subst h
    rw [Nat.zero_mul, List.drop_zero, List.flatMap_cons, List.take_append_of_le_length (by rw [hf]; exact Nat.le_refl _), List.take_of_length_le (by rw [hf]; exact Nat.le_refl _)]
  | y :: l, j + 1, x, h => by
    rw [← flat_at hf (l := l) (j := j) (by simpa using h), List.flatMap_cons, show (j + 1) * sz = (f y).length + j * sz from by rw [hf, Nat.add_mul]; omega, List.drop_append, List.drop_eq_nil_of_le (by omega), List.nil_append, Nat.add_sub_cancel_left]
end Go.Vc
namespace Go.Proofs.YtjcmcfidblhnnaaDoor
open Go.Vc
variable {w : World} {K : Value → World → Prop}
theorem plain55 {i : Tin} (h : i.op ≠ 41 ∧ i.op ≠ 42 ∧ i.op ≠ 43 ∧ i.op ≠ 40) (hk : ∀ w', Ext w w' → K (.bool true) w') : callD Tryd.prog 55 #[.agg i.cells.toArray] w K := by
  apply F55_wp
  unfold F55_den
  obtain ⟨h1, h2, h3, h4⟩ := h
  refine bx fun b w1 hb x1 => ?_
  have hb : Boxed w1 b i.cells := hb
  refine ldB hb fa_72_0 l1_3 rfl ?_
  refine ⟨fun v w' => v = .bool false ∧ w' = w1, ?_, ?_⟩
  · refine V_eqlI.2 (ifD_dec (fun e => absurd e h1) fun _ => V_eqlI.2 (ifD_dec (fun e => absurd e h2) fun _ => V_eqlI.2 ⟨?_, rfl⟩))
    rw [decide_eq_false h3]
  · rintro _ w2 ⟨rfl, rfl⟩ _
    exact ifD_false.2 (V_eqlI.2 (ifD_dec (fun e => absurd e h4) fun _ => hk _ x1))
def itmF : List (TypeId × Nat) := [(3, 0), (72, 1), (3, 7), (3, 8), (3, 9), (21, 10)]
theorem qtItm : QT Tryd.prog 74 itmF := ⟨by kernel_rfl, by kernel_rfl, by kernel_rfl, by kernel_rfl⟩
theorem part_agg {P : Program} {t n b : Nat} {z : Value} {d : TypeDesc} {xs : Array Value} {o : Nat} (ht : P.underlying t = some d) (hd : aggB d = true) (hi : Inf P t z n b) : (part t xs o).run P w = .ok (.agg (xs.extract o (o + n))) w := by
  simp [part, run_isAgg ht, hd, run_size hi]
def Itm.ins : Itm → Tin
  | .one i => i
  | _ => ⟨0, 0, 0, 0, 0, 0⟩
theorem itm_refl (x : Itm) : ∀ f ∈ itmF, ∃ v, (part f.1 x.cells.toArray f.2).run Tryd.prog w = .ok v w ∧ (Op.equalIn 9999 f.1 v v).run Tryd.prog w = .ok true w := by
  intro f hf
  have key : ∀ (o : Nat) (n : Int), x.cells.toArray[o]? = some (i64 n) → ∃ v, (part 3 x.cells.toArray o).run Tryd.prog w = .ok v w ∧ (Op.equalIn 9999 3 v v).run Tryd.prog w = .ok true w := fun o n h =>
    ⟨_, part_int Tryd.underlying3 h, by rw [run_equalIn_int w 9998 3 _ _ _ _ Tryd.underlying3]; simp⟩
  have key2 : ∀ (o : Nat) (n : Int), x.cells.toArray[o]? = some (i32 n) → ∃ v, (part 21 x.cells.toArray o).run Tryd.prog w = .ok v w ∧ (Op.equalIn 9999 21 v v).run Tryd.prog w = .ok true w := fun o n h =>
    ⟨_, part_int Tryd.underlying21 h, by rw [run_equalIn_int w 9998 21 _ _ _ _ Tryd.underlying21]; simp⟩
  simp only [itmF, List.mem_cons, List.not_mem_nil, or_false] at hf
  rcases hf with rfl | rfl | rfl | rfl | rfl | rfl
  · cases x <;> exact key _ _ rfl
  · refine ⟨_, part_agg Tryd.underlying72 rfl inf72, ?_⟩
    have e : x.cells.toArray.extract 1 (1 + 6) = x.ins.cells.toArray := by cases x <;> rfl
    rw [e]
    exact qtIns.refl (ins_refl x.ins 9997)
  · cases x <;> exact key _ _ rfl
  · cases x <;> exact key _ _ rfl
  · cases x <;> exact key _ _ rfl
  · cases x <;> exact key2 _ _ rfl
theorem eqItm {x : Itm} {cs ds : Array Value} (hc : cs = x.cells.toArray) (hd : ds = x.cells.toArray) {a b : Operand} (hk : K (.bool true) w) : V Tryd.prog (do eqGuard .eql 74 a b (.agg cs) (.agg ds); binOp .eql 74 (.agg cs) (.agg ds)) w K := by
  subst hc hd
  exact eqA qtItm rfl (itm_refl x) hk
theorem okT_bare {i : Tin} (h : i.okT) : (i.op = 28 → i.n = 0 ∧ i.imm = 0 ∧ i.cond = 0) ∧ (i.op = 43 → i.d = 0 ∧ i.n = 0 ∧ i.m = 0 ∧ i.cond = 0) ∧ i.op ≠ 41 ∧ i.op ≠ 42 ∧ i.op ≠ 43 ∧ i.op ≠ 40 := by
  rcases h with ⟨h1, _, _, h7, h8, h9⟩ | ⟨h1, _⟩ | ⟨h1, _⟩ | ⟨h1, _⟩ | ⟨h1, _⟩ | ⟨h1, _⟩ | ⟨h1, _⟩
  · exact ⟨fun _ => ⟨h7, h8, h9⟩, fun e => by omega, by omega, by omega, by omega, by omega⟩
  all_goals exact ⟨fun e => by omega, fun e => by omega, by omega, by omega, by omega, by omega⟩
set_option maxHeartbeats 1000000 in
theorem right23 {x : Itm} (h : x.okI) (hk : ∀ w', Ext w w' → K (.bool true) w') : callD Tryd.prog 23 #[.agg x.cells.toArray] w K := by
  apply F23_wp
  unfold F23_den
  refine bx fun b w1 hb x1 => ?_
  have hb : Boxed w1 b x.cells := hb
  have no : ∀ {a b : Int} {P Q : Prop}, a ≠ b → Q → ifD (.bool (decide (a = b))) P Q := fun h hq => ifD_dec (fun e => absurd e h) fun _ => hq
  have yes : ∀ {a : Int} {P Q : Prop}, P → ifD (.bool (decide (a = a))) P Q := fun hp => ifD_dec (fun _ => hp) fun h => absurd rfl h
  cases x with
  | one i =>
    have hb : Boxed w1 b [i64 1, i64 i.op, i64 i.d, i64 i.n, i64 i.m, i64 i.imm, i64 i.cond, i64 0, i64 0, i64 0, i32 0] := hb
    have hi : i.okT := h
    obtain ⟨r1, r2, r3⟩ := okT_bare hi
    refine ldB hb fa_74_0 l1_3 rfl (V_eqlI.2 (yes ?_))
    refine ldA hb la_74 rfl ?_
    refine fdA fa_74_1 (ldAo hb la_72 rfl (l := i.cells) rfl ?_)
    refine bldG bgItm (fillOne i) ?_
    refine eqItm (x := .one i) rfl rfl ?_
    rw [gd_t]
    refine fdA fa_74_1 ?_
    rw [gd_t]
    refine ldAo hb la_72 rfl (l := i.cells) rfl ?_
    rw [gd_t]
    refine right54 r1 r2 fun w2 x2 => pickD_mk ?_
    rw [okT_right hi, if_pos rfl, gd_t]
    refine fdA fa_74_1 ?_
    rw [gd_t]
    refine ldAo (hb.ext x2) la_72 rfl (l := i.cells) rfl ?_
    rw [gd_t]
    refine plain55 r3 fun w3 x3 => pickD_mk ?_
    rw [if_pos rfl]
    exact hk w3 ((x1.trans x2).trans x3)
  | place l =>
    have hb : Boxed w1 b [i64 2, i64 0, i64 0, i64 0, i64 0, i64 0, i64 0, i64 l, i64 0, i64 0, i32 0] := hb
    have hl : 0 ≤ l ∧ l ≤ 2000 := h
    refine ldB hb fa_74_0 l1_3 rfl (V_eqlI.2 (no (by decide) (V_eqlI.2 (yes ?_))))
    refine ldA hb la_74 rfl (ldB hb fa_74_2 l1_3 rfl ?_)
    refine bldG bgItm rfl (eqItm (x := .place l) rfl rfl ?_)
    refine andF hb fa_74_2 l1_3 rfl r_geq (andF hb fa_74_2 l1_3 rfl r_leq ?_)
    rw [decide_eq_true hl.1, decide_eq_true hl.2]
    exact hk w1 x1
  | jump c l =>
    have hb : Boxed w1 b [i64 3, i64 0, i64 0, i64 0, i64 0, i64 0, i64 0, i64 l, i64 c, i64 0, i32 0] := hb
    obtain ⟨hl, hc⟩ : (0 ≤ l ∧ l ≤ 2000) ∧ (0 ≤ c ∧ c ≤ 14) := h
    refine ldB hb fa_74_0 l1_3 rfl (V_eqlI.2 (no (by decide) (V_eqlI.2 (no (by decide) (V_eqlI.2 (yes ?_))))))
    refine ldA hb la_74 rfl (ldB hb fa_74_2 l1_3 rfl (ldB hb fa_74_3 l1_3 rfl ?_))
    refine bldG bgItm rfl (eqItm (x := .jump c l) rfl rfl ?_)
    refine andF hb fa_74_2 l1_3 rfl r_geq (andF hb fa_74_2 l1_3 rfl r_leq ?_)
    refine andF hb fa_74_3 l1_3 rfl r_geq (andF hb fa_74_3 l1_3 rfl r_leq ?_)
    rw [decide_eq_true hl.1, decide_eq_true hl.2, decide_eq_true hc.1, decide_eq_true hc.2]
    exact hk w1 x1
  | load r n =>
    have hb : Boxed w1 b [i64 4, i64 0, i64 0, i64 0, i64 0, i64 0, i64 0, i64 0, i64 0, i64 r, i32 n] := hb
    obtain ⟨hr0, hr1⟩ : 0 ≤ r ∧ r ≤ 7 := h
    refine ldB hb fa_74_0 l1_3 rfl (V_eqlI.2 (no (by decide) (V_eqlI.2 (no (by decide) (V_eqlI.2 (no (by decide) (V_eqlI.2 (yes ?_))))))))
    refine ldA hb la_74 rfl (ldB hb fa_74_4 l1_3 rfl (ldB hb fa_74_5 l1_21 rfl ?_))
    refine bldG bgItm rfl (eqItm (x := .load r n) rfl rfl ?_)
    refine andF hb fa_74_4 l1_3 rfl r_geq (andF hb fa_74_4 l1_3 rfl r_lss ?_)
    rw [show decide (r ≥ 0) = true from decide_eq_true hr0, show decide (r < 8) = true from decide_eq_true (by omega)]
    exact hk w1 x1
theorem right22 {x : Itm} (h : x.okI) (hk : ∀ w', Ext w w' → K (.bool false) w') : callD Tryd.prog 22 #[.agg x.cells.toArray] w K := by
  apply F22_wp
  unfold F22_den
  refine bx fun b w1 hb x1 => ?_
  have hb : Boxed w1 b x.cells := hb
  refine ldA hb la_74 x.len ?_
  exact right23 h fun w2 x2 => V_not.2 (hk w2 (x1.trans x2))
def ItmsAre (w : World) (v : Value) (l : List Itm) : Prop := SliceIs w v 11 l.length (itC l)
theorem ItmsAre.ext {w' : World} {v : Value} {l : List Itm} (h : ItmsAre w v l) (hx : Ext w w') : ItmsAre w' v l := SliceIs.ext h hx
theorem itC_at {l : List Itm} {j : Nat} {x : Itm} (h : l[j]? = some x) : ((itC l).drop (((j : Int)).toNat * 11)).take 11 = x.cells := by
  rw [Int.toNat_natCast]; exact flat_at Itm.len h
theorem index53 {v : Value} {l : List Itm} (hv : ItmsAre w v l) (hl : l.length ≤ 1000000) (h : ∀ x ∈ l, x.okI) (hk : ∀ w', Ext w w' → K (i64 (-1)) w') : callD Tryd.prog 53 #[v, .func (.func 22) #[] #[]] w K := by
  apply F53_wp
  unfold F53_den
  refine lnx xa_31 hv ?_
  refine ⟨fun v w' => ∃ j : Nat, v = i64 j ∧ j ≤ l.length ∧ Ext w w', fun v _ => l.length - (RowKit.intOf v).toNat, ⟨0, rfl, Nat.zero_le _, Ext.refl _⟩, ?_⟩
  rintro _ w1 ⟨j, rfl, hj, x1⟩ _
  refine V_lss.2 (ifD_dec (fun hlt => ?_) fun hge => hk w1 x1)
  obtain ⟨x, hx⟩ := ex_get (l := l) (j := j) (by omega)
  refine ldxA xa_31 la_74 (hv.ext x1) (by omega) (by omega) (itC_at hx) x.len ?_
  refine ⟨_, #[], rfl, right22 (h x (List.mem_of_getElem? hx)) fun w2 x2 => ifD_false.2 (V_add.2 ?_)⟩
  rw [wrap_id (by omega) (by omega), i64_succ]
  exact ⟨⟨j + 1, rfl, by omega, x1.trans x2⟩, by simp only [intOf_i64]; omega⟩
theorem contains21 {v : Value} {l : List Itm} (hv : ItmsAre w v l) (hl : l.length ≤ 1000000) (h : ∀ x ∈ l, x.okI) (hk : ∀ w', Ext w w' → K (.bool false) w') : callD Tryd.prog 21 #[v, .func (.func 22) #[] #[]] w K := by
  apply F21_wp
  unfold F21_den
  exact index53 hv hl h fun w1 x1 => V_geq.2 (hk w1 x1)
end Go.Proofs.YtjcmcfidblhnnaaDoor
namespace Go.Proofs.YtjcmcfidblhnnaaDoor
open Go.Vc
variable {w : World} {K : Value → World → Prop}
def cntC (l : List Itm) : List Value := (List.range 2001).map fun (q : Nat) => i64 ((((plcs l).count (q : Int)) : Nat) : Int)
theorem cntC_len (l : List Itm) : (cntC l).length = 2001 := by simp [cntC]
theorem cntC_at {l : List Itm} {q : Nat} (h : q < 2001) : (cntC l)[q]? = some (i64 ((((plcs l).count (q : Int)) : Nat) : Int)) := by
  simp only [cntC, List.getElem?_map, List.getElem?_range h]; rfl
theorem cntC_nil : cntC [] = List.replicate 2001 (i64 0) := by
  apply List.ext_getElem?
  intro q
  by_cases h : q < 2001
  · rw [cntC_at h, List.getElem?_replicate_of_lt h]; rfl
  · rw [List.getElem?_eq_none (by rw [cntC_len]; omega), List.getElem?_eq_none (by rw [List.length_replicate]; omega)]
theorem cntC_place {l : List Itm} {q : Nat} (h : q < 2001) : (cntC l).set q (i64 ((((plcs l).count (q : Int) + 1) : Nat) : Int)) = cntC (l ++ [.place q]) := by
  apply List.ext_getElem?
  intro k
  by_cases hk : k < 2001
  · rw [List.getElem?_set, cntC_at hk, cntC_at hk, plcs_app, List.count_append, show plcs [Itm.place (q : Int)] = [(q : Int)] from rfl]
    by_cases hq : q = k
    · subst hq
      rw [if_pos rfl, if_pos (by rw [cntC_len]; exact h), List.count_singleton_self]
    · rw [if_neg hq, List.count_singleton, if_neg (by simp; omega)]
      rfl
  · rw [List.getElem?_eq_none (by rw [List.length_set, cntC_len]; omega), List.getElem?_eq_none (by rw [cntC_len]; omega)]
theorem cntC_other {l : List Itm} {x : Itm} (h : x.pl = []) : cntC (l ++ [x]) = cntC l := by
  unfold cntC
  rw [plcs_app, show plcs [x] = [] from by simp [plcs, h], List.append_nil]
theorem plcs_take {l : List Itm} {j : Nat} {x : Itm} (h : l[j]? = some x) : l.take (j + 1) = l.take j ++ [x] := by
  rw [List.take_add_one, h]; rfl
theorem count_one {l : List Itm} (h : AsmOk l) {q : Nat} (hq : (q : Int) ∈ plcs l) : (plcs l).count (q : Int) = 1 := h.nd.count.trans (if_pos hq)
set_option maxHeartbeats 1000000 in
theorem right8 {v : Value} {l : List Itm} (hv : ItmsAre w v l) (h : AsmOk l) (hk : ∀ w', Ext w w' → K (.bool true) w') : callD Tryd.prog 8 #[v] w K := by
  apply F8_wp
  unfold F8_den
  have hl := h.len
  refine lnx xa_31 hv (V_gtr.2 ?_)
  rw [decide_eq_false (by omega)]
  refine gd_f.2 (gd_f.2 ?_)
  refine contains21 hv (by omega) h.ok fun w1 x1 => pickD_mk ?_
  rw [if_neg (by decide)]
  refine ifD_false.2 ?_
  refine alK inf76 fun w2 hB x2 => ?_
  have hB : Blk w2 w1.heap.size (cntC []) 76 := by
    rw [cntC_nil]; exact hB
  have x02 := x1.trans x2
  have s2 := x1.size
  generalize hg : w1.heap.size = g at hB s2
  refine lnx xa_31 (hv.ext x02) ?_
  refine ⟨fun v w' => ∃ j : Nat, v = i64 j ∧ j ≤ l.length ∧ Ext w w' ∧ Blk w' g (cntC (l.take j)) 76, fun v _ => l.length - (RowKit.intOf v).toNat, ⟨0, rfl, Nat.zero_le _, x02, by simpa using hB⟩, ?_⟩
  rintro _ w3 ⟨j, rfl, hj, x3, hB3⟩ _
  refine V_lss.2 (ifD_dec (fun hlt => ?_) fun hge => ?_)
  · obtain ⟨x, hx⟩ := ex_get (l := l) (j := j) (by omega)
    have hox := h.ok x (List.mem_of_getElem? hx)
    refine ldxA xa_31 la_74 (hv.ext x3) (by omega) (by omega) (itC_at hx) x.len ?_
    refine asK sa_74 (by simpa [Value.cells] using x.len) (by simpa [Value.cells] using itm_one x) fun w4 h5 x4 => ?_
    have h5 : Blk w4 w3.heap.size x.cells 74 := h5
    have x04 := x3.trans x4
    have hB4 := hB3.ext x4
    have nx : ∀ {w'}, Ext w w' → Blk w' g (cntC (l.take (j + 1))) 76 → V Tryd.prog (binOp .add 3 (i64 j) (i64 1)) w' fun t w5 => (∃ j : Nat, t = i64 j ∧ j ≤ l.length ∧ Ext w w5 ∧ Blk w5 g (cntC (l.take j)) 76) ∧ l.length - (RowKit.intOf t).toNat < l.length - (RowKit.intOf (i64 (j : Int))).toNat := fun hx hb => by
      refine V_add.2 ?_
      rw [wrap_id (by omega) (by omega), i64_succ]
      exact ⟨⟨j + 1, rfl, by omega, hx, hb⟩, by simp only [intOf_i64]; omega⟩
    cases x with
    | place q =>
      have h5 : Blk w4 w3.heap.size [i64 2, i64 0, i64 0, i64 0, i64 0, i64 0, i64 0, i64 q, i64 0, i64 0, i32 0] 74 := h5
      obtain ⟨q, rfl⟩ : ∃ n : Nat, q = n := ⟨q.toNat, by have : 0 ≤ q ∧ q ≤ 2000 := hox; omega⟩
      have hq : q < 2001 := by have : 0 ≤ (q : Int) ∧ (q : Int) ≤ 2000 := hox; omega
      refine ldB h5.boxed fa_74_0 l1_3 rfl (V_eqlI.2 (ifD_dec (fun _ => ?_) fun e => absurd rfl e))
      refine ldB h5.boxed fa_74_2 l1_3 rfl ?_
      refine V.ok (r_arr Tryd.underlying76 inf3 (by omega) (by omega)) ?_
      obtain ⟨d, hd, ha⟩ := l1_3.ex
      have hc := hB4.cell q
      rw [cntC_at hq] at hc
      have hcnt : (plcs (l.take j)).count (q : Int) ≤ 6000 := by
        have h1 := (List.Sublist.count_le (q : Int) (l₁ := plcs (l.take j)) (l₂ := plcs l) (by
          conv => rhs; rw [← List.take_append_drop j l, plcs_app]
          exact List.sublist_append_left _ _))
        have h2 := (List.nodup_iff_count.1 h.nd) (q : Int)
        omega
      refine V.ok (r_load hd ha (v := i64 ((((plcs (l.take j)).count (q : Int)) : Nat) : Int)) (by simpa using hc)) (V_add.2 ?_)
      rw [wrap_id (by omega) (by omega)]
      refine V.ok (r_arr Tryd.underlying76 inf3 (by omega) (by omega)) ?_
      refine U.ok (r_store inf3 rfl (by simpa using hc) (by simpa using hB4.frozen q)) ?_
      have hs := hB4.set q (i64 ((((plcs (l.take j)).count (q : Int) + 1) : Nat) : Int))
      rw [cntC_place hq, ← plcs_take hx] at hs
      have e1 : ((0 + ((q : Int)).toNat : Nat)) = q := by simp
      rw [e1]
      exact nx (x04.setCell (by omega) _) (by push_cast at hs ⊢; exact hs)
    | one i =>
      refine ldB h5.boxed fa_74_0 l1_3 rfl (V_eqlI.2 (ifD_dec (fun e => absurd e (by decide)) fun _ => ?_))
      exact nx x04 (by rw [plcs_take hx, cntC_other rfl]; exact hB4)
    | jump c q =>
      refine ldB h5.boxed fa_74_0 l1_3 rfl (V_eqlI.2 (ifD_dec (fun e => absurd e (by decide)) fun _ => ?_))
      exact nx x04 (by rw [plcs_take hx, cntC_other rfl]; exact hB4)
    | load r n =>
      refine ldB h5.boxed fa_74_0 l1_3 rfl (V_eqlI.2 (ifD_dec (fun e => absurd e (by decide)) fun _ => ?_))
      exact nx x04 (by rw [plcs_take hx, cntC_other rfl]; exact hB4)
  · have e : l.take j = l := List.take_of_length_le (by omega)
    rw [e] at hB3
    refine lnx xa_31 (hv.ext x3) ?_
    refine ⟨fun v w' => ∃ j : Nat, v = i64 j ∧ j ≤ l.length ∧ Ext w3 w', fun v _ => l.length - (RowKit.intOf v).toNat, ⟨0, rfl, Nat.zero_le _, Ext.refl _⟩, ?_⟩
    rintro _ w4 ⟨k, rfl, hkl, x4⟩ _
    have x04 := x3.trans x4
    refine V_lss.2 (ifD_dec (fun hlt => ?_) fun hge => hk w4 x04)
    obtain ⟨x, hx⟩ := ex_get (l := l) (j := k) (by omega)
    have hxm := List.mem_of_getElem? hx
    have hox := h.ok x hxm
    refine ldxA xa_31 la_74 (hv.ext x04) (by omega) (by omega) (itC_at hx) x.len ?_
    refine asK sa_74 (by simpa [Value.cells] using x.len) (by simpa [Value.cells] using itm_one x) fun w5 h7 x5 => ?_
    have h7 : Blk w5 w4.heap.size x.cells 74 := h7
    have hB5 := (hB3.ext x4).ext x5
    have nx : V Tryd.prog (binOp .add 3 (i64 k) (i64 1)) w5 fun t w6 => (∃ j : Nat, t = i64 j ∧ j ≤ l.length ∧ Ext w3 w6) ∧ l.length - (RowKit.intOf t).toNat < l.length - (RowKit.intOf (i64 (k : Int))).toNat := by
      refine V_add.2 ?_
      rw [wrap_id (by omega) (by omega), i64_succ]
      exact ⟨⟨k + 1, rfl, by omega, x4.trans x5⟩, by simp only [intOf_i64]; omega⟩
    have lbl : ∀ {q : Int} {R : Value → World → Prop}, x.cells[7]? = some (i64 q) → q ∈ plcs l → 0 ≤ q ∧ q ≤ 2000 → R (.bool false) w5 →
        gd (.bool true) true (fun K => V Tryd.prog (Instr.fieldAt 74 (.pointer (some ⟨w4.heap.size, 0, none⟩)) 2) w5 K) w5 fun t46 w40 => gd (.bool true) true (fun K => V Tryd.prog (Instr.loadAt 3 t46) w40 K) w40 fun t47 w41 => gd (.bool true) true (fun K => V Tryd.prog (Instr.indexAt 76 (.pointer (some ⟨g, 0, none⟩)) t47) w41 K) w41 fun t48 w42 => gd (.bool true) true (fun K => V Tryd.prog (Instr.loadAt 3 t48) w42 K) w42 fun t49 w43 => gd (.bool true) true (fun K => V Tryd.prog (do eqGuard .neq 3 (.tmp 49) (.const (i64 1)) t49 (i64 1); binOp .neq 3 t49 (i64 1)) w43 K) w43 fun t50 w44 => pickD (.bool true) t50 (.bool false) fun t51 => R t51 w44 := by
      intro q R hc hq hr hR
      obtain ⟨q, rfl⟩ : ∃ n : Nat, q = n := ⟨q.toNat, by omega⟩
      obtain ⟨d, hd, ha⟩ := l1_3.ex
      rw [gd_t]
      refine V.ok (fa_74_2.ex w5 _ 0) ?_
      rw [gd_t]
      refine V.ok (r_load hd ha (h7.boxed _ _ hc)) ?_
      rw [gd_t]
      refine V.ok (r_arr Tryd.underlying76 inf3 (by omega) (by omega)) ?_
      rw [gd_t]
      have hcc := hB5.cell q
      rw [cntC_at (by omega), count_one h hq] at hcc
      refine V.ok (r_load hd ha (v := i64 1) (by simpa using hcc)) ?_
      rw [gd_t]
      refine V_neqI.2 (pickD_mk ?_)
      rw [if_pos rfl]
      exact hR
    cases x with
    | one i =>
      refine ldB h7.boxed fa_74_0 l1_3 rfl (V_eqlI.2 ?_)
      simp only [show decide ((1 : Int) = 2) = false from rfl, gd_f]
      refine ldB h7.boxed fa_74_0 l1_3 rfl (V_eqlI.2 ?_)
      simp only [show decide ((1 : Int) = 3) = false from rfl, pickD_iff, Bool.false_eq_true, reduceIte, gd_ft, ifD_false]
      exact nx
    | load r n =>
      refine ldB h7.boxed fa_74_0 l1_3 rfl (V_eqlI.2 ?_)
      simp only [show decide ((4 : Int) = 2) = false from rfl, gd_f]
      refine ldB h7.boxed fa_74_0 l1_3 rfl (V_eqlI.2 ?_)
      simp only [show decide ((4 : Int) = 3) = false from rfl, pickD_iff, Bool.false_eq_true, reduceIte, gd_ft, ifD_false]
      exact nx
    | place q =>
      have hq : q ∈ plcs l := List.mem_flatMap.2 ⟨_, hxm, List.mem_singleton.2 rfl⟩
      refine ldB h7.boxed fa_74_0 l1_3 rfl (V_eqlI.2 ?_)
      rw [show decide ((2 : Int) = 2) = true from rfl, gd_tf, gd_tf, gd_tf]
      refine pickD_mk ?_
      rw [if_pos rfl]
      exact lbl rfl hq hox (ifD_false.2 nx)
    | jump c q =>
      have hq : q ∈ plcs l := h.jl q (List.mem_flatMap.2 ⟨_, hxm, List.mem_singleton.2 rfl⟩)
      refine ldB h7.boxed fa_74_0 l1_3 rfl (V_eqlI.2 ?_)
      simp only [show decide ((3 : Int) = 2) = false from rfl, gd_f]
      refine ldB h7.boxed fa_74_0 l1_3 rfl (V_eqlI.2 ?_)
      rw [show decide ((3 : Int) = 3) = true from rfl]
      refine pickD_mk ?_
      rw [if_neg (by decide)]
      exact lbl rfl hq hox.1 (ifD_false.2 nx)
end Go.Proofs.YtjcmcfidblhnnaaDoor
namespace Go.Proofs.YtjcmcfidblhnnaaDoor
open Go.Vc
theorem wr_df {g : GNode} (h : g.wr < 0) : g.df = -1 := by cases g <;> simp_all [GNode.wr, GNode.df]
theorem def36_ok {g : GNode} {v : Value} {w : World} (h : PlainIs w v g) : callD Tryd.prog 24 #[v] w fun r w' => r = i64 g.df ∧ Ext w w' := by
  have h0 := h
  obtain ⟨m, sv, rfl, hs⟩ := h
  apply F24_wp
  unfold F24_den
  refine bx fun b w1 hb x1 => ?_
  refine ldA hb la_40 rfl ?_
  refine (writes_ok (h0.ext x1)).mono fun r w2 ⟨hr, x2⟩ => ?_
  subst hr
  refine V_lss.2 (ifD_dec (fun hlt => ?_) fun hge => ?_)
  · exact ⟨by rw [wr_df hlt], x1.trans x2⟩
  · refine ldB (hb.ext x2) fa_40_1 l1_3 rfl ?_
    exact ⟨rfl, x1.trans x2⟩
end Go.Proofs.YtjcmcfidblhnnaaDoor
namespace Go.Proofs.YtjcmcfidblhnnaaDoor
open Go.Vc
variable {w : World} {K : Value → World → Prop}
theorem yEqS {S : World → Prop} {L : Value → Prop} {t : TypeId} {x y : Operand} {k : IntKind} {a : Int} (hk : L (.bool true)) : yieldS Tryd.prog S (do eqGuard .eql t x y (.int k a) (.int k a); binOp .eql t (.int k a) (.int k a)) L :=
  yieldS.ok (fun _ _ => r_eqlI) (by rw [decide_eq_true rfl]; exact hk)
theorem yNeS {S : World → Prop} {L : Value → Prop} {t : TypeId} {x y : Operand} {k : IntKind} {a : Int} (hk : L (.bool false)) : yieldS Tryd.prog S (do eqGuard .neq t x y (.int k a) (.int k a); binOp .neq t (.int k a) (.int k a)) L :=
  yieldS.ok (fun _ _ => r_neqI) (by rw [decide_eq_false (fun h => h rfl)]; exact hk)
theorem ints69 {a b : Value} {l : List Int} (ha : IntsAre w a l) (hb : IntsAre w b l) (hl : l.length ≤ 1000) (hk : ∀ w', Ext w w' → K (.bool true) w') : callD Tryd.prog 25 #[a, b] w K := by
  apply F25_wp
  unfold F25_den
  refine lnx xa_27 ha (lnx xa_27 hb (V_neqI.2 (ifD_dec (fun h => absurd rfl h) fun _ => ?_)))
  refine ⟨fun v w' => ∃ i : Nat, v = i64 i ∧ i ≤ l.length ∧ Ext w w', fun v _ => l.length - (RowKit.intOf v).toNat, ⟨0, rfl, Nat.zero_le _, Ext.refl _⟩, ?_⟩
  rintro _ w1 ⟨i, rfl, hi, x1⟩ _
  refine lnx xa_27 (ha.ext x1) (V_lss.2 (ifD_dec (fun hlt => ?_) fun hge => hk _ x1))
  obtain ⟨z, hz⟩ := ex_get (l := l) (j := i) (by omega)
  have hzi : (l.map i64)[((i : Nat) : Int).toNat]? = some (i64 z) := by simp [hz]
  have D1 : Ext w1 w1.drew := (Ext.refl _).drew
  refine drawD.mk' (fun w' => Ext w1 w') D1 ?_
  refine ySl xa_27 l1_3 (ha.ext x1) (fun _ h => h) (by omega) (by omega) hzi ?_
  refine ySl xa_27 l1_3 (hb.ext x1) (fun _ h => h) (by omega) (by omega) hzi ?_
  refine yNeS (ifD_false.2 (V_add.2 ?_))
  rw [wrap_id (by omega) (by omega), i64_succ]
  exact ⟨⟨i + 1, rfl, by omega, x1.trans D1⟩, by simp only [intOf_i64]; omega⟩
set_option maxHeartbeats 4000000 in
theorem sameNode35 {g : GNode} {a b : Value} (ha : IntsAre w a g.us) (hb : IntsAre w b g.us) (hl : g.us.length ≤ 1000) (hk : ∀ w', Ext w w' → K (.bool true) w') : callD Tryd.prog 10 #[.agg (g.pcs 0 a).toArray, .agg (g.pcs 0 b).toArray] w K := by
  apply F10_wp
  unfold F10_den
  refine bx fun b2 w1 h2 x1 => bx fun b3 w2 h3 x2 => ?_
  have h2 : Boxed w2 b2 (g.pcs 0 a) := h2.ext x2
  have h3 : Boxed w2 b3 (g.pcs 0 b) := h3
  have x02 := x1.trans x2
  have D : Ext w2 w2.drew := (Ext.refl _).drew
  refine drawD.mk' (fun w' => Ext w2 w') D ?_
  refine yfB (fun w' hw => h2.ext hw) fa_40_0 l1_3 rfl (yfB (fun w' hw => h3.ext hw) fa_40_0 l1_3 rfl (yEqS ?_))
  simp only [gdY_t, gd_t]
  refine yA (fun w' hw => h2.ext hw) la_40 rfl (yA (fun w' hw => h3.ext hw) la_40 rfl ?_)
  refine (def36_ok (g := g) ⟨0, a, rfl, ha.ext (x02.trans D)⟩).mono fun r3 w3 ⟨e3, x3⟩ => ?_
  subst e3
  have x23 := D.trans x3
  refine ⟨x23, (def36_ok (g := g) ⟨0, b, rfl, hb.ext (x02.trans x23)⟩).mono fun r4 w4 ⟨e4, x4⟩ => ?_⟩
  subst e4
  have x24 := x23.trans x4
  refine ⟨x24, yEqS (pickT ?_)⟩
  simp only [gdY_t]
  refine yfB (fun w' hw => h2.ext hw) fa_40_2 l1_3 rfl (yfB (fun w' hw => h3.ext hw) fa_40_2 l1_3 rfl (yEqS (pickT ?_)))
  simp only [gdY_t]
  refine yfB (fun w' hw => h2.ext hw) fa_40_3 l1_3 rfl (yfB (fun w' hw => h3.ext hw) fa_40_3 l1_3 rfl (yEqS (pickT ?_)))
  simp only [gdY_t]
  refine yfB (fun w' hw => h2.ext hw) fa_40_4 l1_3 rfl (yfB (fun w' hw => h3.ext hw) fa_40_4 l1_3 rfl (yEqS (pickT ?_)))
  simp only [gdY_t]
  refine yfB (fun w' hw => h2.ext hw) fa_40_5 l1_3 rfl (yfB (fun w' hw => h3.ext hw) fa_40_5 l1_3 rfl (yEqS (pickT ?_)))
  simp only [gdY_t]
  refine yfB (fun w' hw => h2.ext hw) fa_40_6 l1_3 rfl (yfB (fun w' hw => h3.ext hw) fa_40_6 l1_3 rfl (yEqS (pickT ?_)))
  simp only [gdY_t, gd_t]
  refine yfB (fun w' hw => h2.ext hw) fa_40_7 l1_27 rfl (yfB (fun w' hw => h3.ext hw) fa_40_7 l1_27 rfl ?_)
  exact ints69 (ha.ext (x02.trans x24)) (hb.ext (x02.trans x24)) hl fun w5 x5 => ⟨x24.trans x5, pickT (hk _ ((x02.trans x24).trans x5))⟩
end Go.Proofs.YtjcmcfidblhnnaaDoor
namespace Go.Proofs.YtjcmcfidblhnnaaDoor
open Go.Vc
def srvN (l : List GNode) (k : Nat) : Nat := ((l.take k).filter GNode.srvB).length
theorem srvN_succ {l : List GNode} {k : Nat} {x : GNode} (h : l[k]? = some x) : srvN l (k + 1) = if x.srvB then srvN l k + 1 else srvN l k := by
  unfold srvN
  rw [List.take_add_one, h, List.filter_append, List.length_append]
  simp only [Option.toList_some, List.filter_cons, List.filter_nil]
  split <;> simp
theorem srvN_all (l : List GNode) : srvN l l.length = (l.filter GNode.srvB).length := by unfold srvN; rw [List.take_length]
theorem table_at {l : List GNode} {k : Nat} {x : GNode} (h : l[k]? = some x) (hs : x.srvB = true) : (l.filter GNode.srvB)[srvN l k]? = some x := by
  obtain ⟨hk, rfl⟩ := List.getElem?_eq_some_iff.1 h
  have e : l = l.take k ++ l[k] :: l.drop (k + 1) := by rw [← List.drop_eq_getElem_cons hk, List.take_append_drop]
  have e2 : l.filter GNode.srvB = (l.take k).filter GNode.srvB ++ l[k] :: (l.drop (k + 1)).filter GNode.srvB := by
    conv => lhs; rw [e]
    rw [List.filter_append, List.filter_cons, if_pos hs]
  rw [e2, List.getElem?_append_right (by unfold srvN; omega)]
  simp [srvN]
theorem srvN_le {l : List GNode} {k : Nat} {x : GNode} (h : l[k]? = some x) (hs : x.srvB = true) : srvN l k < (l.filter GNode.srvB).length := (List.getElem?_eq_some_iff.1 (table_at h hs)).1
end Go.Proofs.YtjcmcfidblhnnaaDoor
namespace Go.Proofs.YtjcmcfidblhnnaaDoor
open Go.Vc
variable {w : World} {K : Value → World → Prop}
theorem okP22 : OkProg ⟨0, 0, [.tick, .ret (-1)]⟩ := ⟨by decide, by decide, by decide, by decide, by decide, by decide, by decide, fun i n h => by
  match i with
  | 0 => cases h; exact right_tick (by decide)
  | 1 => cases h; exact right_ret
  | k + 2 => cases h⟩
theorem good22 : Good ⟨0, 0, [.tick, .ret (-1)]⟩ 0 [] 0 := ⟨rfl, by decide, by decide, fun r x h => (by cases h), fun k _ r s _ hr => (by omega), fun k _ _ r x _ _ h => (by cases h), fun r s _ hr => (by omega)⟩
set_option maxHeartbeats 1000000 in
theorem known22 (hk : ∀ w', Ext w w' → K (.bool true) w') : callD Tryd.prog 7 #[] w K := by
  apply F7_wp
  unfold F7_den
  refine bld bd_47 [] rfl rfl (mki mi_47 ?_)
  refine bld bd_49 [(0, i64 (-1))] rfl rfl (mki mi_49 ?_)
  refine bsl xe_23 [.iface 47 (.agg #[]), .iface 49 (.agg #[i64 (-1)])] rfl rfl (by simp) rfl fun nv w1 ho x1 => ?_
  refine bld bd_25 [(2, nv)] rfl (by show ((true && oneC nv) && true) = true; rw [own1' ho]; rfl) ?_
  refine bld bd_29 [] rfl rfl ?_
  have hp : ProgIs w1 (.agg #[i64 0, i64 0, nv]) ⟨0, 0, [.tick, .ret (-1)]⟩ := ⟨nv, rfl, ⟨_, SliceIs.of_own ho, fun i n hi => by
    match i with
    | 0 => cases hi; exact ⟨_, rfl, nilS, rfl, SliceIs.nil _ _⟩
    | 1 => cases hi; exact ⟨_, rfl, nilS, rfl, SliceIs.nil _ _⟩
    | k + 2 => cases hi⟩, fun n hn => by
      simp only [List.mem_cons, List.not_mem_nil, or_false] at hn
      rcases hn with rfl | rfl <;> exact Nat.zero_le _⟩
  refine emit6 (p := ⟨0, 0, [.tick, .ret (-1)]⟩) (R := 0) (of := []) (slots := 0) (ap := 0) hp okP22 rfl (SliceIs.nil _ _) good22 (by decide) fun iv tv w2 hi ht x2 => ?_
  have hasm := (emitP_ok (applet := 0) okP22 rfl good22.ofOk).1
  obtain ⟨vs, ht1, ht2⟩ := ht
  obtain ⟨u, hu, sv, rfl, _⟩ := ht2 0 (.ret (-1)) rfl
  refine V_ext0.2 (V_ext1.2 ?_)
  obtain ⟨ia, ic, rfl⟩ := hi.shape
  obtain ⟨ta, tc, rfl⟩ := ht1.shape
  refine asK sa_33 rfl rfl fun w3 h3 x3 => ?_
  have h3 : Boxed w3 w2.heap.size [.slice ia _ ic, .slice ta 1 tc, i64 (4 * 0)] := Blk.boxed h3
  refine V_neqI.2 ?_
  rw [show decide ((0 : Int) ≠ 0) = false from rfl]
  refine gd_f.2 (V.ok (fa_33_1.ex _ _ _) (gd_f.2 ?_))
  obtain ⟨d1, hd1, ha1⟩ := l1_23.ex
  obtain ⟨d2, hd2, ha2⟩ := l1_3.ex
  obtain ⟨d3, hd3, ha3⟩ := l1_31.ex
  refine V.ok (r_load hd1 ha1 (h3 1 _ rfl)) (gd_f.2 (lnx xa_23 (ht1.ext x3) (gd_f.2 (V_neqI.2 (pickD_mk ?_)))))
  rw [if_neg (by decide), show decide ((((tableP ⟨0, 0, [.tick, .ret (-1)]⟩).length : Nat) : Int) ≠ 1) = false from rfl]
  refine gd_f.2 (V.ok (fa_33_2.ex _ _ _) (gd_f.2 (V.ok (r_load hd2 ha2 (h3 2 _ rfl)) (gd_f.2 (V_neqI.2 (pickD_mk ?_))))))
  rw [if_neg (by decide), show decide ((4 * 0 : Int) ≠ 0) = false from rfl]
  refine gd_f.2 (V.ok (fa_33_0.ex _ _ _) (gd_f.2 (V.ok (r_load hd3 ha3 (h3 0 _ rfl)) (gd_f.2 ?_))))
  refine right8 (l := emitP ⟨0, 0, [.tick, .ret (-1)]⟩ [] 0) (hi.ext x3) hasm fun w4 x4 => gd_f.2 (V_not.2 (pickD_mk ?_))
  rw [if_neg (by decide)]
  refine ifD_false.2 ?_
  refine ldB (h3.ext x4) fa_33_1 l1_23 rfl ?_
  refine ldx xa_23 l1_43 ((ht1.ext x3).ext x4) (by decide) (by decide) hu ?_
  obtain ⟨z, hz, _⟩ := ta_49.ex
  refine V.ok (hz w4 _ _ _) ?_
  rw [if_pos rfl]
  refine V_ext0.2 (V_ext1.2 ?_)
  refine asK sa_49 rfl rfl fun w5 h5 x5 => hk w5 ((((x1.trans x2).trans x3).trans x4).trans x5)
theorem srv_pk (n : GNode) : n.srvB = decide (11 ≤ n.pk) := by cases n <;> rfl
set_option maxHeartbeats 1000000 in
theorem table_law {lv : Value} {n : Nat} {regs params : Int} {w : World} (hl : RawsAre w lv n) (hb : BinsOk w) :
    callD Tryd.prog 3 #[lv, i64 regs, i64 params] w fun r w' => r = .bool true ∧ Ext w w' := by
  apply F3_wp
  unfold F3_den
  refine (tame_ok hl hb).mono fun r w1 ⟨⟨p, ns, vs, hr, hop, hok, hr1, hr2, hn41, hargs⟩, x1⟩ => ?_
  subst hr
  obtain ⟨R, hR⟩ : ∃ R : Nat, p.regs = R := ⟨p.regs.toNat, by omega⟩
  have hnl := hok.l1
  have hps : SliceIs w1 ns 1 p.nodes.length vs := SliceIs.of_own hop.1
  obtain ⟨na, nc, rfl⟩ := hps.shape
  have hpn : ∀ (i : Nat) m, p.nodes[i]? = some m → ∃ u, vs[i]? = some u ∧ NodeIs w1 u m := fun i m hi => by
    obtain ⟨u, h1, h2⟩ := hop.2 i m hi
    exact ⟨u, h1, h2.is⟩
  have hprog : ProgIs w1 (.agg #[i64 p.params, i64 p.regs, .slice na p.nodes.length nc]) p := ⟨_, rfl, ⟨vs, hps, hpn⟩, fun m hm => by have := hargs m hm; omega⟩
  refine asK sa_25 rfl rfl fun w2 hpb x2 => ?_
  have hpb : Boxed w2 w1.heap.size [i64 p.params, i64 p.regs, .slice na p.nodes.length nc] := Blk.boxed hpb
  refine ldA hpb la_25 rfl ?_
  have X2 := x1.trans x2
  refine (alloc_ok (hprog.ext x2) hok hR (Q := fun _ _ _ => True) trivial (fun _ _ _ _ _ _ _ _ _ _ _ => trivial)).mono fun r w3 ⟨⟨ov, of, s, hr, ho3, hgood, _⟩, x3⟩ => ?_
  subst hr
  refine asK sa_29 rfl (by have := oneC_ints ho3; show (oneC ov && (oneC (i64 s) && true)) = true; rw [this]; rfl) fun w4 hx x4 => ?_
  have hx : Boxed w4 w3.heap.size [ov, i64 s] := Blk.boxed hx
  have x24 := x3.trans x4
  refine ldA (hpb.ext x24) la_25 rfl (ldA hx la_29 rfl ?_)
  refine emit6 (ap := 1) (hprog.ext (x2.trans x24)) hok hR (ho3.ext x4) hgood (by decide) fun iv tv w5 hi ht x5 => ?_
  have hasm := (emitP_ok (applet := 1) hok hR hgood.ofOk).1
  obtain ⟨ts, ht1, ht2⟩ := ht
  obtain ⟨ia, ic, rfl⟩ := hi.shape
  obtain ⟨ta, tc, rfl⟩ := ht1.shape
  refine V_ext0.2 (V_ext1.2 ?_)
  refine asK sa_33 rfl rfl fun w6 h6 x6 => ?_
  have h6 : Boxed w6 w5.heap.size [.slice ia _ ic, .slice ta _ tc, i64 (4 * s)] := Blk.boxed h6
  refine known22 fun w7 x7 => V_not.2 ?_
  refine gd_f.2 (gd_f.2 (V_neqI.2 (pickD_mk ?_)))
  rw [if_neg (by decide), show decide ((0 : Int) ≠ 0) = false from rfl]
  obtain ⟨d3, hd3, ha3⟩ := l1_31.ex
  refine gd_f.2 (V.ok (fa_33_0.ex _ _ _) (gd_f.2 (V.ok (r_load hd3 ha3 (h6.ext x7 0 _ rfl)) (gd_f.2 ?_))))
  refine right8 (l := emitP p of 1) ((hi.ext x6).ext x7) hasm fun w8 x8 => gd_f.2 (V_not.2 (pickD_mk ?_))
  rw [if_neg (by decide)]
  refine ifD_false.2 ?_
  have x68 := x7.trans x8
  have x28 := (x24.trans x5).trans (x6.trans x68)
  have h68 := h6.ext x68
  have hp8 := hpb.ext x28
  have ht8 := (ht1.ext x6).ext x68
  have htn : ∀ (i : Nat) m, (tableP p)[i]? = some m → ∃ u, ts[i]? = some u ∧ NodeIs w8 u m := fun i m hi => by
    obtain ⟨u, h1, h2⟩ := ht2 i m hi
    exact ⟨u, h1, (h2.ext x6).ext x68⟩
  have hps8 := (hps.ext x2).ext x28
  refine ⟨fun n v w' => ∃ i : Nat, v = i64 i ∧ i ≤ p.nodes.length ∧ n = i64 ((srvN p.nodes i : Nat) : Int) ∧ Ext w8 w', fun _ v _ => p.nodes.length - (RowKit.intOf v).toNat, ⟨0, rfl, Nat.zero_le _, by simp [srvN], Ext.refl _⟩, ?_⟩
  rintro _ _ w9 ⟨i, rfl, hi', rfl, x9⟩ _
  refine ldB (hp8.ext x9) fa_25_2 l1_23 rfl (lnx xa_23 (hps8.ext x9) (V_lss.2 (ifD_dec (fun hlt => ?_) fun hge => ?_)))
  · obtain ⟨g, hgi⟩ := ex_get (l := p.nodes) (j := i) (by omega)
    obtain ⟨u, hu, hnu⟩ := hpn i g hgi
    have hag := hargs g (List.mem_of_getElem? hgi)
    have hnode : ∀ {w'}, Ext w9 w' → NodeIs w' u g := fun h => hnu.ext ((x2.trans x28).trans (x9.trans h))
    refine ldB (hp8.ext x9) fa_25_2 l1_23 rfl (ldx xa_23 l1_43 (hps8.ext x9) (by omega) (by omega) (by simpa using hu) ?_)
    refine (plainO_ok (hnode (Ext.refl _))).mono fun r w10 ⟨hpo, x10⟩ => ?_
    obtain ⟨m, sv, rfl, hsv⟩ := hpo.is (hnode x10)
    refine asK sa_40 rfl (by obtain ⟨a, c, rfl⟩ := hsv.shape; rfl) fun w11 h13 x11 => ?_
    have h13 : Blk w11 w10.heap.size (g.pcs m sv) 40 := h13
    have x91 := x10.trans x11
    have nx : ∀ {w' : World} {q : Nat}, q = srvN p.nodes (i + 1) → Ext w9 w' → V Tryd.prog (binOp .add 3 (i64 i) (i64 1)) w' fun t w12 => (∃ i' : Nat, t = i64 i' ∧ i' ≤ p.nodes.length ∧ i64 (q : Int) = i64 ((srvN p.nodes i' : Nat) : Int) ∧ Ext w8 w12) ∧ p.nodes.length - (RowKit.intOf t).toNat < p.nodes.length - (RowKit.intOf (i64 (i : Int))).toNat := fun hq hx => by
      refine V_add.2 ?_
      rw [wrap_id (by have := hok.l2; omega) (by have := hok.l2; omega), i64_succ]
      exact ⟨⟨i + 1, rfl, by omega, by rw [hq], x9.trans hx⟩, by simp only [intOf_i64]; omega⟩
    refine ldB h13.boxed fa_40_0 l1_3 rfl (V_lss.2 (ifD_dec (fun hk => ?_) fun hk => ?_))
    · have hs : g.srvB = false := by rw [srv_pk]; exact decide_eq_false (by omega)
      exact nx (by rw [srvN_succ hgi, hs]; rfl) x91
    · have hs : g.srvB = true := by rw [srv_pk]; exact decide_eq_true (by omega)
      have hta := table_at hgi hs
      have hlt2 := srvN_le hgi hs
      obtain ⟨u2, hu2, hn2⟩ := htn _ g hta
      have hle : (tableP p).length ≤ 250 := Nat.le_trans (List.length_filter_le _ _) hok.l2
      have D : Ext w11 w11.drew := (Ext.refl _).drew
      have x9D := x91.trans D
      have hbx : ∀ w', Ext w11.drew w' → Boxed w' w5.heap.size _ := fun w' hx => h68.ext ((x9.trans x9D).trans hx)
      refine drawD.mk' (fun w' => Ext w11.drew w') (Ext.refl _) ?_
      refine yfB hbx fa_33_1 l1_23 rfl ?_
      refine yLen xa_23 (ht8.ext (x9.trans x9D)) (yGeq ?_)
      rw [decide_eq_false (by show ¬ ((srvN p.nodes i : Int) ≥ ((tableP p).length : Int)); have : srvN p.nodes i < (tableP p).length := hlt2; omega)]
      simp only [gdY_f, gd_f]
      refine yfB hbx fa_33_1 l1_23 rfl ?_
      refine ySl xa_23 l1_43 (ht8.ext (x9.trans x9D)) (fun _ h => h) (by omega) (by have : srvN p.nodes i < (tableP p).length := hlt2; omega) (by simpa using hu2) ?_
      refine yA (fun w' hx => ((h13.ext D).ext hx).boxed) la_40 rfl ?_
      refine (plainO_ok (hn2.ext (x9.trans x9D))).mono fun r w12 ⟨hpo2, x12⟩ => ⟨x12, ?_⟩
      obtain ⟨m2, sv2, rfl, hsv2⟩ := hpo2.is (hn2.ext ((x9.trans x9D).trans x12))
      have h5 := (hok.nodes i g hgi).us5
      refine sameNode35 (g := g) (a := sv2) (b := sv) hsv2 (((hsv.ext x11).ext D).ext x12) (by omega) fun w13 x13 => ⟨x12.trans x13, ?_⟩
      refine yieldS.ok (fun _ _ => r_not) (pickD_mk ?_)
      rw [if_neg (by decide)]
      refine ifD_false.2 (V_add.2 ?_)
      rw [wrap_id (by omega) (by have : srvN p.nodes i < (tableP p).length := hlt2; omega), i64_succ]
      refine nx (by rw [srvN_succ hgi, hs]; rfl) ((x9D.trans x12).trans x13)
  · obtain rfl : i = p.nodes.length := by omega
    refine ldB (h68.ext x9) fa_33_1 l1_23 rfl (lnx xa_23 (ht8.ext x9) (V_eqlI.2 ⟨?_, ?_⟩))
    · rw [decide_eq_true]
      have := srvN_all p.nodes
      show (srvN p.nodes p.nodes.length : Int) = ((tableP p).length : Int)
      rw [this]; rfl
    · exact (X2.trans x28).trans x9
end Go.Proofs.YtjcmcfidblhnnaaDoor
namespace Go.Vc
open Go.ChangeShapes Go.WideShapes Go.ChangeAt Go.RowKit
variable {H : Type} {enc : TypeId × Value → H} {P : Program}
theorem post_of_ext {f : Func} {s : ChangeSpec} {apart fresh handsOn again : Bool} {W W' : World} {args : Array Value} {v : Value} {ds gs : List (DataW H)} {pa pv : List MemPlace}
    (hW : DataW.Whole enc P f.params.toList s.vars apart W args.toList ds gs (pa ++ pv)) (hx : Ext W W')
    (hr : ∀ b sp hd, DataW.TrodAll enc P W' b sp hd f.resultTypes.toList (v.resultList f.resultTypes.size) (s.fn H (ds ++ gs)).results [])
    (ha : ∀ sp : Nat → Bool, (∀ p ∈ pa ++ pv, sp p.block = true) → DataW.TrodAll enc P W' 0 sp true f.params.toList args.toList (s.fn H (ds ++ gs)).args pa)
    (hv : ∀ sp : Nat → Bool, (∀ p ∈ pa ++ pv, sp p.block = true) → DataW.TrodVars enc P W' sp s.vars (s.fn H (ds ++ gs)).vars pv)
    (hok : ∀ (j : Nat) (t : TypeId) (r : Value), f.resultTypes[j]? = some t → (v.resultList f.resultTypes.size)[j]? = some r → Value.okWide P W' .any 0 t r) :
    s.post enc P f apart fresh handsOn again W args v W' := by
  have hlt := hW.lt
  have hall : ∀ p ∈ pa ++ pv, (fun b => decide (b < W.heap.size)) p.block = true := fun p hp => decide_eq_true (hlt p hp)
  have hk := hx.below.frame (· ∈ pa ++ pv)
  refine ⟨ds, gs, pa ++ pv, [], pa, pv, hW, hr _ _ _, ha _ hall, hv _ hall, World.keptBut_mono (fun p hp => ⟨hp, .inr (by simpa using hp)⟩) hk, fun _ => ?_⟩
  obtain ⟨_, _, _, _, _, hz, hn⟩ := hW
  have h2 := trodAll_append (ha (fun _ => true) fun _ _ => rfl) (hr 0 (fun _ => true) true)
  refine ⟨hok, _, _, pa ++ pv, ⟨pa, pv, (by simpa using h2), hv _ fun _ _ => rfl, rfl, fun b off hp => ?_, hn⟩, fun p hp _ => hp⟩
  rw [hx.below.frozen (hlt _ hp)]
  exact hz b off hp
end Go.Vc
namespace Go.Vc
open Go.ChangeShapes Go.WideShapes Go.ChangeAt Go.RowKit
variable {H : Type} {enc : TypeId × Value → H} {P : Program}
theorem args_stay (hl : laidOutB P = true) {W W' : World} (hx : Ext W W') {sp : Nat → Bool} : ∀ {ts : List TypeId} {vs : List Value} {ds : List (DataW H)} {p : List MemPlace}, (ts.all fun t => P.readableRec t && decide (t < P.types.size)) = true →
    DataW.TrodAll enc P W 0 (fun _ => true) true ts vs ds p → (∀ x ∈ p, x.block < W.heap.size) → (∀ x ∈ p, sp x.block = true) → DataW.TrodAll enc P W' 0 sp true ts vs ds p
  | [], vs, ds, p, _, h, _, _ => by
    obtain ⟨rfl, rfl, rfl⟩ := trodAll_nil h
    exact trodAll_mk0
  | t :: ts, vs, ds, p, hr, h, hlt, hs => by
    simp only [List.all_cons, Bool.and_eq_true, decide_eq_true_eq] at hr
    obtain ⟨v, vs', d, ds', p1, p2, rfl, rfl, rfl, h1, h2⟩ := trodAll_cons h
    exact trodAll_cons_mk (WideElems.Trod_stays hl hr.1.1 hr.1.2 h1 (fun x hx' => hx.below.same (hlt x (by simp [hx']))) fun x hx' => hs x (by simp [hx']))
      (args_stay hl hx (by simpa using hr.2) h2 (fun x hx' => hlt x (by simp [hx'])) fun x hx' => hs x (by simp [hx']))
end Go.Vc
namespace Go.Vc
open Go.ChangeShapes
theorem laid_elem {P : Program} {W : World} {x : String} {ds : List (DataW Unit)} {g t e m : Nat} (hg : P.globalNamed x = some g) (ht : (P.globals[g]?).map (·.type) = some t) (hu : P.underlying t = some (.array m e)) {i : Nat} (hi : i < m) :
    ∀ {laid : List (String × DataW Unit)} {ps : List MemPlace}, DataW.LaidVars P W laid ps → (x, .agg ds) ∈ laid → ∃ (fuel : Nat) (q : List MemPlace) (cs : List Value) (d : DataW Unit), ds[i]? = some d ∧ DataW.trod (fun _ => ()) P W 0 (fun _ => true) false fuel e ((cs.drop (i * P.cellsOf e)).take (P.cellsOf e)) = some (d, q) ∧ ∀ j : Nat, W.cell? ⟨g, j, none⟩ = cs[j]?
  | [], _, _, hm => by cases hm
  | (n', d') :: r, ps, h, hm => by
    obtain ⟨g', t', cs, fuel, p, q, h1, h2, h3, h4, h5, _⟩ := h
    rcases List.mem_cons.1 hm with e1 | e1
    · cases e1
      obtain rfl := Option.some.inj (hg.symm.trans h1)
      obtain rfl := Option.some.inj (ht.symm.trans h2)
      obtain ⟨xs, m', _, ex, _, hxl, hel⟩ := DataW.trod_array hu h4
      have hE := hel i hi
      rw [List.getElem?_eq_getElem (by omega)] at hE
      refine ⟨m', (xs[i]'(by omega)).2, cs.toList, (xs[i]'(by omega)).1, ?_, hE, fun j => by rw [World.var?_cell hg h3 j, ← Array.getElem?_toList]⟩
      have : ds = xs.map (·.1) := by have := congrArg Prod.fst ex; simpa using this
      rw [this, List.getElem?_map, List.getElem?_eq_getElem (by omega)]; rfl
    · exact laid_elem hg ht hu hi h5 e1
theorem laid_int {P : Program} {W : World} {x : String} {ds : List (DataW Unit)} {g t e m : Nat} {k : IntKind} {laid : List (String × DataW Unit)} {ps : List MemPlace} (hg : P.globalNamed x = some g) (ht : (P.globals[g]?).map (·.type) = some t) (hu : P.underlying t = some (.array m e)) (he : P.underlying e = some (.int k)) (c1 : P.cellsOf e = 1)
    (h : DataW.LaidVars P W laid ps) (hm : (x, .agg ds) ∈ laid) {i : Nat} (hi : i < m) : ∃ z, ds[i]? = some (.lit (.int k z)) ∧ W.cell? ⟨g, i, none⟩ = some (.int k z) := by
  obtain ⟨fuel, q, cs, d, h1, h2, h3⟩ := laid_elem hg ht hu hi h hm
  rw [c1, Nat.mul_one] at h2
  obtain ⟨z, e1, e2, _⟩ := DataW.trod_int he h2
  cases e2
  refine ⟨z, h1, ?_⟩
  rw [h3 i]
  have h0 : ((cs.drop i).take 1)[0]? = some (.int k z) := by rw [e1]; rfl
  simpa using h0
end Go.Vc
