/- Reading, writing, allocating in the abstract memory, and in a world that it stands for. -/
import Derived.Test.YtmbeoehgpffneaaGreatDoorA1
import Derived.ArgAppend
import Derived.OwnWalk
import Derived.Below
import Derived.Laws.MakeOwn
namespace Go.Ab
noncomputable section

theorem heap_set_same (w : World) (g j : Nat) (c : Array Value) (e : TypeId) (fz : Nat × Nat) (u : Value) (h : w.heap[g]? = some (.cells c e fz)) :
    (w.setCell ⟨g, j, none⟩ u).heap[g]? = some (.cells (c.setIfInBounds j u) e fz) := by
  simp only [World.setCell, Array.getElem?_modify]
  rw [if_pos trivial, h]
  rfl
theorem heap_set_other (w : World) (g j g' : Nat) (u : Value) (h : g' ≠ g) : (w.setCell ⟨g, j, none⟩ u).heap[g']? = w.heap[g']? := by
  simp only [World.setCell, Array.getElem?_modify]
  rw [if_neg (fun he => h he.symm)]
theorem heap_set_size (w : World) (a : Addr) (u : Value) : (w.setCell a u).heap.size = w.heap.size := by simp [World.setCell]

theorem cellD_put (d : Value) (t : Tr Value) (o i : Nat) (v : Value) : cellD d (Tr.put (bits o) (some v) t) i = if i = o then v else cellD d t i := by
  unfold cellD
  by_cases h : i = o
  · subst h; rw [Tr.get_put]; simp
  · rw [Tr.get_put_ne _ _ _ _ (bits_ne h), if_neg h]

theorem ObR.cell {β : Beta} {size : Nat} {d : Value} {t : Tr Value} {r base lim : Nat} {w : World} (h : ObR β (.cells size d t) r base lim w) {o : Nat} (ho : o < size) :
    ∃ v, w.cell? ⟨r, base + o, none⟩ = some v ∧ RV β (cellD d t o) v := by
  obtain ⟨c, e, fz, h1, _, _, _, h5⟩ := h
  obtain ⟨v, h6, h7⟩ := h5 o ho
  exact ⟨v, by simp [World.cell?, h1, h6], h7⟩
theorem ObR.frz {β : Beta} {size : Nat} {d : Value} {t : Tr Value} {r base lim : Nat} {w : World} (h : ObR β (.cells size d t) r base lim w) {o : Nat} (ho : o < lim) : w.frozen? ⟨r, base + o, none⟩ = false := by
  obtain ⟨c, e, fz, h1, _, _, h4, _⟩ := h
  have : ¬ (fz.1 ≤ base + o ∧ base + o < fz.2) := by omega
  simp only [World.frozen?, h1]
  simpa using this
theorem ObR.isS {β : Beta} {size : Nat} {d : Value} {t : Tr Value} {r base lim : Nat} {w : World} (h : ObR β (.cells size d t) r base lim w) {o : Nat} (ho : o < lim) : (w.cell? ⟨r, base + o, none⟩).isSome = true := by
  obtain ⟨c, e, fz, h1, _, h3, _, _⟩ := h
  simp only [World.cell?, h1]
  have : base + o < c.size := by omega
  simp [this]
theorem ObR.le {β : Beta} {size : Nat} {d : Value} {t : Tr Value} {r base lim : Nat} {w : World} (h : ObR β (.cells size d t) r base lim w) : size ≤ lim := by
  obtain ⟨c, e, fz, _, h2, _⟩ := h; exact h2

theorem rd_inv {s : St} {b o : Nat} {v : Value} (h : rd s b o = some v) : ∃ size d t, (Tr.get (bits b) s.m = some (.cells size d t) ∨ Tr.get (bits b) s.m = some (.ro size d t)) ∧ o < size ∧ v = cellD d t o := by
  unfold rd at h
  split at h
  · rename_i size d t hg
    split at h
    · rename_i hb; cases h; exact ⟨size, d, t, .inl hg, by simpa [Nat.blt_eq] using hb, rfl⟩
    · cases h
  · rename_i size d t hg
    split at h
    · rename_i hb; cases h; exact ⟨size, d, t, .inr hg, by simpa [Nat.blt_eq] using hb, rfl⟩
    · cases h
  · cases h
theorem Rel.obj {G : Nat → Bool} {β : Beta} {s : St} {w : World} (h : Rel G β s w) {b r base lim : Nat} {ob : Ob} (hb : β b = .live r base lim) (hg : Tr.get (bits b) s.m = some ob) : ObR β ob r base lim w := by
  obtain ⟨ob', h1, h2⟩ := h.live b r base lim hb
  rw [hg] at h1; cases h1; exact h2
theorem Rel.rd {G : Nat → Bool} {β : Beta} {s : St} {w : World} (h : Rel G β s w) {b r base lim o : Nat} {v : Value} (hb : β b = .live r base lim) (hr : Ab.rd s b o = some v) :
    ∃ v', w.cell? ⟨r, base + o, none⟩ = some v' ∧ RV β v v' := by
  obtain ⟨size, d, t, hg, ho, rfl⟩ := rd_inv hr
  rcases hg with hg | hg
  · exact (h.obj hb hg).cell ho
  · obtain ⟨c, e, fz, h1, _, h5⟩ := h.obj hb hg
    obtain ⟨v, h6, h7⟩ := h5 o ho
    exact ⟨v, by simp [World.cell?, h1, h6], h7⟩
theorem rdN_len {s : St} {b : Nat} : ∀ {k o : Nat} {l : List Value}, rdN s b o k = some l → l.length = k
  | 0, _, _, h => by simp only [rdN, Option.some.injEq] at h; subst h; rfl
  | k + 1, o, l, h => by
    simp only [rdN] at h
    split at h
    · split at h
      · rename_i l' hl; cases h; simp [rdN_len hl]
      · cases h
    · cases h
theorem Rel.rdN {G : Nat → Bool} {β : Beta} {s : St} {w : World} (h : Rel G β s w) {b r base lim : Nat} (hb : β b = .live r base lim) : ∀ {k o : Nat} {l : List Value}, Ab.rdN s b o k = some l →
    ∃ l', RL β l l' ∧ ∀ (j : Nat) v', l'[j]? = some v' → w.cell? ⟨r, base + o + j, none⟩ = some v'
  | 0, _, _, hr => by simp only [Ab.rdN, Option.some.injEq] at hr; subst hr; exact ⟨[], .nil, fun j v' hv => by simp at hv⟩
  | k + 1, o, l, hr => by
    simp only [Ab.rdN] at hr
    split at hr
    · rename_i v hv
      split at hr
      · rename_i l1 hl
        cases hr
        obtain ⟨v', h1, h2⟩ := h.rd hb hv
        obtain ⟨l', h3, h4⟩ := Rel.rdN h hb hl
        refine ⟨v' :: l', .cons h2 h3, fun j u hu => ?_⟩
        cases j with
        | zero => simp at hu; subst hu; exact h1
        | succ j =>
          have := h4 j u (by simpa using hu)
          rw [show base + o + (j + 1) = base + (o + 1) + j from by omega]; exact this
      · cases hr
    · cases hr

theorem wr_inv {s s' : St} {b o : Nat} {v : Value} (h : wr s b o v = some s') : ∃ size d t, Tr.get (bits b) s.m = some (.cells size d t) ∧ o < size ∧ oneCell v = true ∧ s' = ⟨s.n, Tr.put (bits b) (some (.cells size d (Tr.put (bits o) (some v) t))) s.m⟩ := by
  unfold wr at h
  split at h
  · rename_i size d t hg
    split at h
    · rename_i hb
      cases h
      simp only [Bool.and_eq_true, Nat.blt_eq] at hb
      exact ⟨size, d, t, hg, hb.1, hb.2, rfl⟩
    · cases h
  · cases h
theorem ObR.set {β : Beta} {size : Nat} {d : Value} {t : Tr Value} {r base lim : Nat} {w : World} (h : ObR β (.cells size d t) r base lim w) {o : Nat} (ho : o < size) {v v' : Value} (hv : RV β v v') :
    ObR β (.cells size d (Tr.put (bits o) (some v) t)) r base lim (w.setCell ⟨r, base + o, none⟩ v') := by
  obtain ⟨c, e, fz, h1, h2, h3, h4, h5⟩ := h
  refine ⟨_, e, fz, heap_set_same w r (base + o) c e fz v' h1, h2, by simpa using h3, h4, fun i hi => ?_⟩
  rw [cellD_put]
  by_cases hio : i = o
  · subst hio
    rw [if_pos rfl]
    exact ⟨v', by have : base + i < c.size := by omega
                  simp [this], hv⟩
  · rw [if_neg hio]
    obtain ⟨u, h6, h7⟩ := h5 i hi
    exact ⟨u, by rw [Array.getElem?_setIfInBounds_ne (by omega)]; exact h6, h7⟩
theorem Rel.wr {G : Nat → Bool} {β : Beta} {s s' : St} {w : World} (h : Rel G β s w) {b r base lim o : Nat} {v v' : Value} (hb : β b = .live r base lim) (hr : Ab.wr s b o v = some s') (hv : RV β v v') :
    Ev G β s w β s' (w.setCell ⟨r, base + o, none⟩ v') := by
  obtain ⟨size, d, t, hg, ho, h1, rfl⟩ := wr_inv hr
  have hob := h.obj hb hg
  refine ⟨⟨h.n, fun b' r' base' lim' hb' => ?_, h.inj, h.glob, h.gn, fun b' hb' => ?_⟩, .refl β, by rw [heap_set_size]; exact Nat.le_refl _, fun r' hr' hn => ?_, fun _ _ _ _ hb' => .inl ⟨_, _, _, hb'⟩, Nat.le_refl _, fun b' hb' hf => ?_, ⟨rfl, rfl, rfl⟩, fun b' size' d' t' _ hg' => by
    have hbb : b' ≠ b := fun he => by subst he; rw [hg] at hg'; cases hg'
    exact ⟨by rw [Tr.get_put_ne _ _ _ _ (bits_ne hbb)]; exact hg', rfl, fun r' base' lim' hl => heap_set_other w r (base + o) r' v' fun he => hbb (h.inj b' b r base' lim' base lim (he ▸ hl) hb)⟩⟩
  · by_cases hbb : b' = b
    · subst hbb
      rw [hb] at hb'; cases hb'
      exact ⟨_, Tr.get_put _ _ _, hob.set ho hv⟩
    · obtain ⟨ob, h2, h3⟩ := h.live b' r' base' lim' hb'
      refine ⟨ob, by rw [Tr.get_put_ne _ _ _ _ (bits_ne hbb)]; exact h2, h3.mono (.refl β) ?_⟩
      exact heap_set_other w r (base + o) r' v' fun he => hbb (h.inj b' b r base' lim' base lim (he ▸ hb') hb)
  · have hbb : b' ≠ b := fun he => by subst he; rw [hb] at hb'; cases hb'
    rw [Tr.get_put_ne _ _ _ _ (bits_ne hbb)]; exact h.dead b' hb'
  · exact heap_set_other w r (base + o) r' v' fun he => hn b base lim (he ▸ hb)
  · have : b' ≠ b := fun he => by subst he; rw [hb] at hf; cases hf
    exact ⟨Tr.get_put_ne _ _ _ _ (bits_ne this), hf⟩
theorem wrN_inv {b : Nat} : ∀ {l : List Value} {o : Nat} {s s' : St}, wrN b o l s = some s' → l ≠ [] → ∃ size d t, Tr.get (bits b) s.m = some (.cells size d t) ∧ o + l.length ≤ size ∧ ∀ v ∈ l, oneCell v = true
  | [], _, _, _, _, h => absurd rfl h
  | v :: l, o, s, s', h, _ => by
    simp only [wrN] at h
    split at h
    · rename_i s1 h1
      obtain ⟨size, d, t, hg, ho, hc, rfl⟩ := wr_inv h1
      by_cases hl : l = []
      · subst hl; exact ⟨size, d, t, hg, by simp; omega, by simpa using hc⟩
      · obtain ⟨size', d', t', hg', ho', hc'⟩ := wrN_inv h hl
        rw [Tr.get_put] at hg'
        cases hg'
        exact ⟨size, d, t, hg, by simp; omega, fun u hu => by exact (List.mem_cons.1 hu).elim (fun he => he ▸ hc) (hc' u)⟩
    · cases h
theorem Rel.wrN {G : Nat → Bool} {β : Beta} {b r base lim : Nat} (hb : β b = .live r base lim) : ∀ {l l' : List Value} {o : Nat} {s s' : St} {w : World}, Rel G β s w → Ab.wrN b o l s = some s' → RL β l l' →
    Ev G β s w β s' (w.setCells r (base + o) l')
  | [], l', o, s, s', w, h, hr, hl => by
    simp only [Ab.wrN, Option.some.injEq] at hr
    subst hr
    obtain rfl := hl.inv_nil
    exact .refl h
  | v :: l, l', o, s, s', w, h, hr, hl => by
    simp only [Ab.wrN] at hr
    split at hr
    · rename_i s1 h1
      obtain ⟨v', l'', rfl, hv, hl'⟩ := hl.inv
      have e1 := h.wr hb h1 hv
      have e2 := Rel.wrN hb e1.rel hr hl'
      exact e1.trans e2
    · cases hr
theorem oneCell_eq (v : Value) : v.oneCell' = oneCell v := by cases v <;> rfl
/-- Cells are stored one by one. -/
theorem Rel.run_store {G : Nat → Bool} {β : Beta} {s s' : St} {w : World} {P : Program} (h : Rel G β s w) {b r base lim o : Nat} {l l' : List Value} (hb : β b = .live r base lim) (hr : Ab.wrN b o l s = some s') (hl : RL β l l') :
    (storeCells ⟨r, base + o, none⟩ l').run P w = .ok () (w.setCells r (base + o) l') := by
  by_cases he : l = []
  · subst he
    obtain rfl := hl.inv_nil
    rfl
  obtain ⟨size, d, t, hg, ho, hc⟩ := wrN_inv hr he
  have hob := h.obj hb hg
  have hle := hob.le
  refine run_storeCells_cells (P := P) r (base + o) l' 0 w (fun j hj => ?_) (fun j hj => ?_) fun v' hv' => ?_
  · rw [← hl.1] at hj
    rw [show base + o + 0 + j = base + (o + j) from by omega]
    exact hob.isS (by omega)
  · rw [← hl.1] at hj
    rw [show base + o + 0 + j = base + (o + j) from by omega]
    exact hob.frz (by omega)
  · obtain ⟨i, hi⟩ := List.getElem?_of_mem hv'
    have hi' : i < l.length := by rw [hl.1]; exact (List.getElem?_eq_some_iff.1 hi).1
    have hrv := hl.2 i l[i] v' (List.getElem?_eq_getElem hi') hi
    rw [oneCell_eq, hrv.one]
    exact hc _ (List.getElem_mem hi')

/-! ### New blocks -/
def upB (β : Beta) (b : Nat) (x : Bst) : Beta := fun j => if j = b then x else β j
theorem upB_same (β : Beta) (b : Nat) (x : Bst) : upB β b x b = x := by simp [upB]
theorem upB_ne (β : Beta) {b j : Nat} (x : Bst) (h : j ≠ b) : upB β b x j = β j := by simp [upB, h]
theorem le_up {β : Beta} {b : Nat} {x : Bst} (h : β b = .fresh) : Le β (upB β b x) := fun j => by
  by_cases hj : j = b
  · subst hj; exact .inl h
  · exact .inr (.inl (upB_ne β x hj))

/-- A new object. -/
theorem Rel.push {G : Nat → Bool} {β : Beta} {s : St} {w w' : World} (h : Rel G β s w) {obj : Obj} {ob : Ob} {lim : Nat} (hw : w'.heap = w.heap.push obj) (hoth : Oth w w')
    (ho : ∀ β', Le β β' → ObR β' ob w.heap.size 0 lim w') : Ev G β s w (upB β s.n (.live w.heap.size 0 lim)) (s.push ob) w' := by
  have hf := h.n s.n (Nat.le_refl _)
  have hle : Le β (upB β s.n (.live w.heap.size 0 lim)) := le_up hf
  have hold : ∀ r, r < w.heap.size → w'.heap[r]? = w.heap[r]? := fun r hr => by rw [hw, Array.getElem?_push_lt hr, Array.getElem?_eq_getElem hr]
  refine ⟨⟨fun b hb => ?_, fun b r base lim' hb => ?_, fun b b' r base lim1 base' lim2 hb hb' => ?_, fun g hg => ?_, fun g hg => Nat.lt_succ_of_lt (h.gn g hg), fun b hb => ?_⟩, hle, by rw [hw]; simp, fun r hr _ => hold r hr, fun b r base lim' hb => ?_, Nat.le_succ _, fun b hb hfr => ?_, hoth, fun b size d t hb hg => by
    have hbn : b ≠ s.n := by omega
    exact ⟨by rw [St.push, Tr.get_put_ne _ _ _ _ (bits_ne hbn)]; exact hg, upB_ne β _ hbn, fun r base lim hl => hold r (h.rlt hl)⟩⟩
  · have hb' : s.n + 1 ≤ b := hb
    rw [upB_ne β _ (by omega)]; exact h.n b (by omega)
  · by_cases hbn : b = s.n
    · subst hbn
      rw [upB_same] at hb; cases hb
      exact ⟨ob, Tr.get_put _ _ _, ho _ hle⟩
    · rw [upB_ne β _ hbn] at hb
      obtain ⟨ob', h1, h2⟩ := h.live b r base lim' hb
      exact ⟨ob', by rw [St.push, Tr.get_put_ne _ _ _ _ (bits_ne hbn)]; exact h1, h2.mono hle (hold r h2.lt)⟩
  · by_cases h1 : b = s.n
    · by_cases h2 : b' = s.n
      · omega
      · rw [h1, upB_same] at hb; cases hb
        rw [upB_ne β _ h2] at hb'
        have := h.rlt hb'; omega
    · rw [upB_ne β _ h1] at hb
      by_cases h2 : b' = s.n
      · rw [h2, upB_same] at hb'; cases hb'
        have := h.rlt hb; omega
      · rw [upB_ne β _ h2] at hb'
        exact h.inj b b' r _ _ _ _ hb hb'
  · have hgn : g ≠ s.n := by have := h.gn g hg; omega
    rw [upB_ne β _ hgn]
    exact h.glob g hg
  · have hbn : b ≠ s.n := fun he => by subst he; rw [upB_same] at hb; cases hb
    rw [upB_ne β _ hbn] at hb
    rw [St.push, Tr.get_put_ne _ _ _ _ (bits_ne hbn)]; exact h.dead b hb
  · by_cases hbn : b = s.n
    · subst hbn
      rw [upB_same] at hb; cases hb
      exact .inr (Nat.le_refl _)
    · rw [upB_ne β _ hbn] at hb
      exact .inl ⟨_, _, _, hb⟩
  · have hbn : b ≠ s.n := by omega
    exact ⟨by rw [St.push, Tr.get_put_ne _ _ _ _ (bits_ne hbn)], by rw [upB_ne β _ hbn]; exact hfr⟩

theorem trOf_get (d : Value) : ∀ (l : List Value) (o : Nat) (t : Tr Value) (i : Nat), cellD d (trOf o l t) i = if o ≤ i ∧ i < o + l.length then l.getD (i - o) d else cellD d t i
  | [], o, t, i => by
    have : ¬ (o ≤ i ∧ i < o + ([] : List Value).length) := by simp
    rw [if_neg this]; rfl
  | v :: l, o, t, i => by
    rw [trOf, trOf_get d l (o + 1), cellD_put]
    simp only [List.length_cons]
    by_cases h1 : o + 1 ≤ i ∧ i < o + 1 + l.length
    · rw [if_pos h1, if_pos (by omega)]
      rw [show i - o = (i - (o + 1)) + 1 from by omega]
      simp
    · rw [if_neg h1]
      by_cases h2 : i = o
      · subst h2; rw [if_pos rfl, if_pos (by omega)]; simp
      · rw [if_neg h2, if_neg (by omega)]
/-- A new row of related cells. -/
theorem ObR.new {β : Beta} {l l' : List Value} {r : Nat} {w : World} {e : TypeId} {fz : Nat × Nat} {c : Array Value} (h : RL β l l') (hw : w.heap[r]? = some (.cells c e fz)) (hc : ∀ (i : Nat) v, l'[i]? = some v → c[i]? = some v) {lim : Nat} (h1 : l.length ≤ lim) (h2 : lim ≤ c.size)
    (hfz : fz.1 = fz.2 ∨ lim ≤ fz.1) : ObR β (obOf l) r 0 lim w := by
  refine ⟨c, e, fz, hw, h1, by omega, by rw [Nat.zero_add]; exact hfz, fun i hi => ?_⟩
  rw [trOf_get]
  rw [if_pos (by omega)]
  obtain ⟨v', h3, h4⟩ := h.get (List.getElem?_eq_getElem hi)
  refine ⟨v', by rw [Nat.zero_add]; exact hc i v' h3, ?_⟩
  simpa [hi] using h4
end
end Go.Ab
