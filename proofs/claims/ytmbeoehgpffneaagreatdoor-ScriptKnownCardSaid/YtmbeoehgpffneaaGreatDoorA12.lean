/- append and copy. -/
import Derived.Test.YtmbeoehgpffneaaGreatDoorA11
import Derived.Lib.AppendZeros
namespace Go.Ab
noncomputable section
theorem heap_cells_other (r : Nat) : ∀ (vs : List Value) (o : Nat) (w : World) (r' : Nat), r' ≠ r → (w.setCells r o vs).heap[r']? = w.heap[r']?
  | [], _, _, _, _ => rfl
  | v :: vs, o, w, r', h => by
    rw [World.setCells, heap_cells_other r vs (o + 1) _ r' h]
    exact heap_set_other w r o r' v h
theorem heap_cells_size (r : Nat) : ∀ (vs : List Value) (o : Nat) (w : World), (w.setCells r o vs).heap.size = w.heap.size
  | [], _, _ => rfl
  | v :: vs, o, w => by rw [World.setCells, heap_cells_size r vs (o + 1), heap_set_size]
theorem oth_cells (r : Nat) : ∀ (vs : List Value) (o : Nat) (w : World), Oth w (w.setCells r o vs)
  | [], _, w => .refl w
  | v :: vs, o, w => (show Oth w (w.setCell ⟨r, o, none⟩ v) from ⟨rfl, rfl, rfl⟩).trans (oth_cells r vs (o + 1) _)
/-- Zeros behind the nil slice. -/
def appendZ (P : Program) (t tn : TypeId) (x y : Value) (s : St) : Option (Value × St) :=
  match P.underlying t with
  | some (.slice e) => match P.underlying tn with
    | some (.int _) => match P.info? e with
      | some i => match i.zero with
        | some z => match x with
          | .slice none 0 0 => match y with
            | .int _ (.ofNat n) => match Nat.beq z.cells.toList.length i.size && Nat.blt 0 i.size && Nat.blt 0 n && Nat.ble (n * i.bytes) 1099511627776 && Nat.ble n 16777216 && allB gnd1 z.cells.toList with
              | true => some (.slice (some ⟨s.n, 0, none⟩) n i.size, s.push (obOf (zerosL z.cells.toList (n * i.size))))
              | false => none
            | _ => none
          | _ => none
        | none => none
      | none => none
    | _ => none
  | _ => none
/-- The capacity of the nil slice. -/
def capE (P : Program) (t : TypeId) (x : Value) : Option Value :=
  match P.underlying t with
  | some (.slice _) => match x with | .slice none 0 0 => some (.int .i64 0) | _ => none
  | _ => none
/-- Bytes that are written as a constant string: the slice is as it was; the end of its row is marked. -/
def markE (P : Program) (t : TypeId) (x : Value) (s : St) : Option (Value × St) :=
  match x with
  | .slice (some ⟨b, o, none⟩) n sz => match Nat.blt 0 n with
    | true => match P.underlying t with
      | some (.slice e) => match P.underlying e with
        | some (.int .u8) => match Tr.get (bits b) s.m with
          | some (.cells _ _ _) => some (.slice (some ⟨b, o, none⟩) n sz, s)
          | _ => none
        | _ => none
      | _ => none
    | false => none
  | _ => none
theorem heap_cells_same (r : Nat) : ∀ (vs : List Value) (o : Nat) (w : World) (c : Array Value) (e : TypeId) (fz : Nat × Nat), w.heap[r]? = some (.cells c e fz) →
    ∃ c', (w.setCells r o vs).heap[r]? = some (.cells c' e fz) ∧ c'.size = c.size ∧ (∀ i, i < o ∨ o + vs.length ≤ i → c'[i]? = c[i]?) ∧ ∀ j, j < vs.length → o + j < c.size → c'[o + j]? = vs[j]?
  | [], o, w, c, e, fz, h => ⟨c, h, rfl, fun _ _ => rfl, fun j hj => by simp at hj⟩
  | v :: vs, o, w, c, e, fz, h => by
    obtain ⟨c', h1, h2, h3, h4⟩ := heap_cells_same r vs (o + 1) (w.setCell ⟨r, o, none⟩ v) _ e fz (heap_set_same w r o c e fz v h)
    refine ⟨c', h1, by rw [h2]; simp, fun i hi => ?_, fun j hj hjc => ?_⟩
    · rw [h3 i (by simp at hi; omega), Array.getElem?_setIfInBounds_ne (by simp at hi; omega)]
    · cases j with
      | zero =>
        rw [h3 (o + 0) (by omega)]
        simp only [Nat.add_zero] at hjc ⊢
        simp [hjc]
      | succ j =>
        have := h4 j (by simpa using hj) (by simp; omega)
        rw [show o + (j + 1) = o + 1 + j from by omega, this]
        simp
theorem RL.ones {β : Beta} {l l' : List Value} (h : RL β l l') (h1 : allB oneCell l = true) : ∀ u ∈ l', u.oneCell' = true := fun v' hv' => by
  obtain ⟨i, hi⟩ := List.getElem?_of_mem hv'
  have hi' : i < l.length := by rw [h.1]; exact (List.getElem?_eq_some_iff.1 hi).1
  have hrv := h.2 i l[i] v' (List.getElem?_eq_getElem hi') hi
  rw [oneCell_eq, hrv.one]
  exact allB_mem h1 _ (List.getElem_mem hi')
theorem appL_get (d : Value) {o n : Nat} {olds news : List Value} {t : Tr Value} (hol : o = 0 ∨ olds.length = n) (hv : ∀ j, j < olds.length → olds[j]? = some (cellD d t (o + j))) (i : Nat) :
    cellD d (match Nat.beq o 0 with | true => trOf n news t | false => trOf 0 (olds ++ news) .e) i = if i < n then (cellD d t (o + i)) else if i < n + news.length then news.getD (i - n) d else cellD d (match Nat.beq o 0 with | true => trOf n news t | false => trOf 0 (olds ++ news) .e) i := by
  cases ho : Nat.beq o 0 with
  | true =>
    have := Nat.eq_of_beq_eq_true ho
    subst this
    simp only []
    rw [trOf_get]
    by_cases h1 : i < n
    · rw [if_neg (by omega), if_pos h1, Nat.zero_add]
    · rw [if_neg h1]
      by_cases h2 : i < n + news.length
      · rw [if_pos (by omega), if_pos h2]
      · rw [if_neg (by omega), if_neg h2]
  | false =>
    have hlen : olds.length = n := by
      rcases hol with h | h
      · subst h; simp at ho
      · exact h
    simp only []
    rw [trOf_get]
    by_cases h1 : i < n
    · rw [if_pos (by simp; omega), if_pos h1]
      have := hv i (by omega)
      simp [List.getD_eq_getElem?_getD, List.getElem?_append_left (by omega : i < olds.length), this]
    · rw [if_neg h1]
      by_cases h2 : i < n + news.length
      · rw [if_pos (by simp; omega), if_pos h2]
        simp [List.getD_eq_getElem?_getD, List.getElem?_append_right (by omega : olds.length ≤ i), hlen]
      · rw [if_neg (by simp; omega), if_neg h2]
theorem rdN_get {s : St} {b : Nat} {size : Nat} {d : Value} {t : Tr Value} (hg : Tr.get (bits b) s.m = some (.cells size d t)) : ∀ {k o : Nat} {l : List Value}, rdN s b o k = some l → ∀ j, j < l.length → l[j]? = some (cellD d t (o + j))
  | 0, _, l, h, j, hj => by simp only [rdN, Option.some.injEq] at h; subst h; simp at hj
  | k + 1, o, l, h, j, hj => by
    simp only [rdN] at h
    split at h <;> try (cases h; done)
    rename_i v hv
    split at h <;> cases h
    rename_i l' hl
    cases j with
    | zero =>
      obtain ⟨sz, d', t', hg', _, rfl⟩ := rd_inv hv
      rcases hg' with hg' | hg' <;> rw [hg] at hg' <;> cases hg'
      rfl
    | succ j =>
      have := rdN_get hg hl j (by simpa using hj)
      rw [show o + (j + 1) = o + 1 + j from by omega]
      simpa using this
section
variable {P : Program} {G : Nat → Bool} {β : Beta} {s s' : St} {w : World}
theorem append_zero {t ty e : TypeId} {i : TypeInfo} {a b : Option Addr} {n c d : Nat} (ht : P.underlying t = some (.slice e)) (hi : P.info? e = some i) (hn : n ≤ c) :
    (Builtin.append_ #[t, t] ty #[.slice a n c, .slice b 0 d]).run P w = .ok (.slice a n c) w := by
  have h0 : (Builtin.firstCells i.size 0 (.slice b 0 d)).run P w = .ok #[] w := by cases b <;> simp [Builtin.firstCells, loadCells, loadCellsFrom]
  cases a <;> simp [Builtin.append_, run_underlying ht, sizeOf, typeInfo, hi, Builtin.lenOf, hn, h0, storeCells]
theorem drew_heap (w : World) : w.drew.heap = w.heap := rfl
theorem append_ef {t ty : TypeId} {x x' y y' v : Value} (h : appendE P G t x y s = some (v, s')) (hr : Rel G β s w) (hx : RV β x x') (hy : RV β y y') : Ef P G β s w (Builtin.append_ #[t, t] ty #[x', y']) v s' := by
  unfold appendE at h
  split at h <;> try (cases h; done)
  rename_i e ht
  split at h <;> try (cases h; done)
  rename_i i hi
  split at h <;> try (cases h; done)
  rename_i z hz
  split at h <;> try (cases h; done)
  rename_i hzc
  simp only [Bool.and_eq_true, Nat.blt_eq] at hzc
  have hzs := Nat.eq_of_beq_eq_true hzc.1
  have hzs' : z.cells.size = i.size := by rw [← hzs]; simp
  have hpos := hzc.2
  split at h <;> try (cases h; done)
  · rename_i l hsrc
    split at h <;> cases h
    have hn : ∃ a n c, x' = .slice a n c ∧ n ≤ c := by cases hx with
      | snil => exact ⟨_, _, _, rfl, Nat.le_refl _⟩
      | slc _ hc _ => exact ⟨_, _, _, rfl, hc⟩
      | dslc _ hc => exact ⟨_, _, _, rfl, hc⟩
    obtain ⟨a, n, c, rfl, hnc⟩ := hn
    rcases src_run hsrc hr hy with ⟨_, _, b, d, rfl⟩ | ⟨b, d, l', rfl, _, _, _⟩
    · exact ⟨_, w, β, append_zero ht hi hnc, .refl hr, hx⟩
    · exact ⟨_, w, β, append_zero ht hi hnc, .refl hr, hx⟩
  · rename_i news n hn0 hsrc
    have hnpos : 0 < n := by
      cases n with
      | zero => exact (hn0 rfl).elim
      | succ n => omega
    rcases src_run hsrc hr hy with ⟨h0, _⟩ | ⟨a, c, l', rfl, hl1, hl2, hl3⟩
    · omega
    have hnl : news.length = n * i.size := hl1.1.trans hl2
    split at h <;> try (cases h; done)
    · split at h <;> cases h
      rename_i hb
      simp only [Bool.and_eq_true, Nat.ble_eq] at hb
      cases hx
      have hrun := run_append_nil (P := P) w t ty e i z ht hi hz a n c l' hl2 hl3 hnpos (by omega) (by omega)
      generalize hcap : grownCap w n 0 e = cap at hrun
      have hge : n ≤ cap := by rw [← hcap]; exact grownCap_ge w n 0 e
      have hle : ∀ β', Le β β' → RL β' news l' := fun β' hl => hl1.mono hl
      have hnew := hr.push (w' := w.drew.alloc (.cells (l'.toArray ++ Builtin.zeroCells z.cells (cap - n)) e)) (ob := obOf news) (lim := cap * i.size) rfl ⟨rfl, rfl, rfl⟩ (fun β' hl =>
        ObR.new (l' := l') (hle β' hl) (push_get w.drew _) (fun j u hu => by
          rw [Array.getElem?_append_left (by simpa using (List.getElem?_eq_some_iff.1 hu).1)]; simpa using hu) (by rw [hnl]; exact Nat.mul_le_mul_right _ hge) (by
            simp [size_zeroCells, hl2, hzs', Nat.sub_mul]
            have := Nat.mul_le_mul_right i.size hge
            omega) (.inl rfl))
      exact ⟨_, _, _, hrun, hnew, .slc (upB_same _ _ _) hge (.inr ⟨by simp, by omega⟩)⟩
    · rename_i b o len sz
      split at h <;> try (cases h; done)
      rename_i hb
      simp only [Bool.and_eq_true, Nat.ble_eq] at hb
      obtain ⟨⟨⟨⟨hsz, hb1⟩, hb2⟩, hb3⟩, hG⟩ := hb
      have hG : G b = false := by rw [notB_eq] at hG; simpa using hG
      have := Nat.eq_of_beq_eq_true hsz
      subst this
      split at h <;> try (cases h; done)
      rename_i size d tr hg
      split at h <;> try (cases h; done)
      rename_i hsize
      rw [Nat.ble_eq] at hsize
      split at h <;> cases h
      rename_i olds hol
      have hones := hl1.ones hb3
      have hmul : ∀ {a b : Nat}, a ≤ b → a * i.size ≤ b * i.size := fun h => Nat.mul_le_mul_right _ h
      cases hx with
      | dslc hbd _ => rw [hr.dead _ hbd] at hg; cases hg
      | slc hbl hc hp =>
        rename_i r base lim cap a'
        have hob := hr.obj hbl hg
        have hle := hob.le
        have hcont := fun j => appL_get (news := news) (t := tr) d (o := o) (n := len * i.size) (olds := olds) (by
          cases ho : Nat.beq o 0 with
          | true => exact .inl (Nat.eq_of_beq_eq_true ho)
          | false => rw [ho] at hol; exact .inr (rdN_len hol)) (fun j hj => by
          cases ho : Nat.beq o 0 with
          | true => rw [ho] at hol; cases hol; simp at hj
          | false => rw [ho] at hol; exact rdN_get hg hol j hj) j
        by_cases hroom : len + n ≤ cap
        · -- in place
          rcases hp with h0 | ⟨rfl, hcl⟩
          · omega
          have hm1 := hmul hroom
          rw [Nat.add_mul] at hm1
          have hrun := run_append_room_cells (P := P) w t ty e i ht hi r (base + o) len cap a n c l' hl2 hl3 hones hroom (fun j hj => by
            rw [show base + o + len * i.size + j = base + (o + len * i.size + j) from by omega]; exact hob.isS (by omega)) (fun j hj => by
            rw [show base + o + len * i.size + j = base + (o + len * i.size + j) from by omega]; exact hob.frz (by omega))
          obtain ⟨cs, e0, fz, h1, h2, h3, h4, h5⟩ := hob
          obtain ⟨c', g1, g2, g3, g4⟩ := heap_cells_same r l' (base + o + len * i.size) w cs e0 fz h1
          have hmv := hr.move (hG := hG) (w' := w.setCells r (base + o + len * i.size) l') (base' := base + o) (lim' := lim - o) (ob := .cells ((len + n) * i.size) d (match Nat.beq o 0 with | true => trOf (len * i.size) news tr | false => trOf 0 (olds ++ news) .e)) hbl (heap_cells_size _ _ _ _) (fun r' hr' => heap_cells_other _ _ _ _ r' hr') (oth_cells r _ _ _) (fun _ _ _ hg' => by rw [hg] at hg'; cases hg') (fun β' hl => ⟨c', e0, fz, g1, by rw [Nat.add_mul]; omega, by rw [g2]; omega, by omega, fun j hj => by
              rw [Nat.add_mul] at hj
              rw [hcont j]
              by_cases hj1 : j < len * i.size
              · rw [if_pos hj1]
                obtain ⟨u, hu1, hu2⟩ := h5 (o + j) (by omega)
                refine ⟨u, ?_, hu2.mono hl⟩
                rw [g3 _ (by omega), show base + o + j = base + (o + j) from by omega]; exact hu1
              · rw [if_neg hj1, if_pos (by omega)]
                have hjn : j - len * i.size < news.length := by omega
                obtain ⟨u, hu1, hu2⟩ := hl1.get (List.getElem?_eq_getElem hjn)
                refine ⟨u, ?_, ?_⟩
                · have := g4 (j - len * i.size) (by omega) (by omega)
                  rw [show base + o + len * i.size + (j - len * i.size) = base + o + j from by omega] at this
                  rw [this]; exact hu1
                · simp [List.getD_eq_getElem?_getD, List.getElem?_eq_getElem hjn]
                  exact hu2.mono hl⟩)
          exact ⟨_, _, _, hrun, hmv, .slc (upB_same _ _ _) hroom (.inr ⟨by simp, by omega⟩)⟩
        · -- a new row
          have hlt : cap < len + n := by omega
          have holds : ∃ ol : List Value, ol.length = len * i.size ∧ (∀ (j : Nat) u, ol[j]? = some u → w.cell? (a'.add j) = some u) ∧ ∀ j, j < len * i.size → ∃ u, ol[j]? = some u ∧ RV β (cellD d tr (o + j)) u := by
            rcases hp with h0 | ⟨rfl, hcl⟩
            · have : len = 0 := by omega
              subst this
              exact ⟨[], by simp, fun j u hu => by simp at hu, fun j hj => by simp at hj⟩
            · have hlim : o + len * i.size ≤ lim := by have := hmul hc; omega
              obtain ⟨cs, e0, fz, h1, h2, h3, h4, h5⟩ := hob
              refine ⟨(cs.toList.drop (base + o)).take (len * i.size), by simp; omega, fun j u hu => ?_, fun j hj => ?_⟩
              · rw [add_lit]
                rw [List.getElem?_take] at hu
                split at hu
                · rw [List.getElem?_drop] at hu
                  simp only [World.cell?, h1]
                  simpa using hu
                · cases hu
              · obtain ⟨u, hu1, hu2⟩ := h5 (o + j) (by omega)
                refine ⟨u, ?_, hu2⟩
                rw [List.getElem?_take, if_pos hj, List.getElem?_drop, show base + o + j = base + (o + j) from by omega]
                simpa using hu1
          obtain ⟨ol, ho1, ho2, ho3⟩ := holds
          have hrun := run_append_grow (P := P) w t ty e i z ht hi hz a' len cap ol ho1 ho2 a n c l' hl2 hl3 hlt (by omega) (growslice_fits hlt (by omega))
          generalize hcap : grownCap w (len + n) cap e = ncap at hrun
          have hge : len + n ≤ ncap := by rw [← hcap]; exact grownCap_ge w (len + n) cap e
          have hk := hr.kill hG hbl (fun _ _ _ hg' => by rw [hg] at hg'; cases hg')
          have hm2 := hmul hge
          rw [Nat.add_mul] at hm2
          have hnew := hk.rel.push (w' := w.drew.alloc (.cells (ol.toArray ++ l'.toArray ++ Builtin.zeroCells z.cells (ncap - (len + n))) e)) (ob := .cells ((len + n) * i.size) d (match Nat.beq o 0 with | true => trOf (len * i.size) news tr | false => trOf 0 (olds ++ news) .e)) (lim := ncap * i.size) rfl ⟨rfl, rfl, rfl⟩ (fun β' hl => ⟨_, e, (0, 0), push_get w.drew _, by rw [Nat.add_mul]; omega, by
              simp [size_zeroCells, ho1, hl2, hzs', Nat.sub_mul, Nat.add_mul]; omega, .inl rfl, fun j hj => by
              rw [Nat.add_mul] at hj
              rw [hcont j, Nat.zero_add]
              by_cases hj1 : j < len * i.size
              · rw [if_pos hj1]
                obtain ⟨u, hu1, hu2⟩ := ho3 j hj1
                refine ⟨u, ?_, hu2.mono (hk.le.trans hl)⟩
                rw [Array.getElem?_append_left (by simp; omega), Array.getElem?_append_left (by simp; omega)]
                simpa using hu1
              · rw [if_neg hj1, if_pos (by omega)]
                have hjn : j - len * i.size < news.length := by omega
                obtain ⟨u, hu1, hu2⟩ := hl1.get (List.getElem?_eq_getElem hjn)
                refine ⟨u, ?_, ?_⟩
                · rw [Array.getElem?_append_left (by simp; omega), Array.getElem?_append_right (by simp; omega)]
                  simp [ho1]; exact hu1
                · simp [List.getD_eq_getElem?_getD, List.getElem?_eq_getElem hjn]
                  exact hu2.mono (hk.le.trans hl)⟩)
          exact ⟨_, _, _, hrun, hk.trans hnew, .slc (upB_same _ _ _) hge (.inr ⟨by simp, by omega⟩)⟩
theorem copy_ef {t t2 ty : TypeId} {x x' y y' v : Value} (h : copyE P t x y s = some (v, s')) (hr : Rel G β s w) (hx : RV β x x') (hy : RV β y y') : Ef P G β s w (Builtin.copy_ #[t, t2] ty #[x', y']) v s' := by
  unfold copyE at h
  split at h <;> try (cases h; done)
  rename_i e ht
  split at h <;> try (cases h; done)
  rename_i hsz
  have hs : (P.info? e).map (·.size) = some 1 := by
    unfold szOf at hsz
    split at hsz
    · rename_i i hi; rw [hi]; exact hsz
    · cases hsz
  have none0 : ∀ {d a : Option Addr} {dl dc sl sc : Nat}, Nat.min sl dl = 0 → x' = .slice d dl dc → y' = .slice a sl sc → Ef P G β s w (Builtin.copy_ #[t, t2] ty #[x', y']) (.int .i64 0) s := by
    intro d a dl dc sl sc hn hxe hye
    subst hxe hye
    exact ⟨_, w, β, run_copy_none (P := P) w t t2 ty e d a dl dc sl sc ht hs hn, .refl hr, .int _ _⟩
  split at h <;> try (cases h; done)
  · split at h <;> cases h
    cases hx
    cases hy <;> exact none0 (by simp) rfl rfl
  · rename_i b o len sz
    split at h <;> try (cases h; done)
    · cases h
      cases hy
      cases hx <;> exact none0 (by simp) rfl rfl
    · rename_i b2 o2 n sz2
      split at h <;> try (cases h; done)
      rename_i hb
      simp only [Bool.and_eq_true] at hb
      have := Nat.eq_of_beq_eq_true hb.1
      subst this
      have := Nat.eq_of_beq_eq_true hb.2
      subst this
      split at h
      · rename_i h0
        cases h
        rw [minN_eq] at h0
        cases hx <;> cases hy <;> exact none0 (by simpa using h0) rfl rfl
      · rename_i k hk0
        split at h <;> try (cases h; done)
        rename_i l hl
        split at h <;> cases h
        rename_i hw
        rw [minN_eq] at hk0 hl ⊢
        have hkpos : 0 < min n len := by
          cases hkm : min n len with
          | zero => exact (hk0 hkm).elim
          | succ m => omega
        have hll := rdN_len hl
        have hlne : l ≠ [] := fun he => by rw [he] at hll; simp at hll; omega
        have hrdn : ∀ {q : Nat}, β q = .dead → q ≠ b2 := fun hq he => by
          subst he
          cases hm : min n len with
          | zero => omega
          | succ m => rw [hm] at hl; simp only [rdN] at hl; rw [rd_none (hr.dead _ hq)] at hl; cases hl
        obtain ⟨size, d, tr, hg, hso, hone⟩ := wrN_inv hw hlne
        cases hx with
        | dslc hbd _ => rw [hr.dead _ hbd] at hg; cases hg
        | slc hbl hc hp =>
          cases hy with
          | dslc hbd _ => exact absurd rfl (hrdn hbd)
          | slc hbl2 hc2 hp2 =>
            rename_i r base lim cap a r2 base2 lim2 cap2 a2
            rcases hp with h0 | ⟨rfl, hcl⟩
            · omega
            rcases hp2 with h0 | ⟨rfl, hcl2⟩
            · omega
            obtain ⟨l', hl1, hl2⟩ := hr.rdN hbl2 hl
            have hob := hr.obj hbl hg
            have hle := hob.le
            have hlen' : l'.length = min n len := by rw [← hl1.1, hll]
            have hev := Rel.wrN hbl hr hw hl1
            have hones : ∀ u ∈ l', u.oneCell' = true := fun v' hv' => by
              obtain ⟨i, hi⟩ := List.getElem?_of_mem hv'
              have hi' : i < l.length := by rw [hl1.1]; exact (List.getElem?_eq_some_iff.1 hi).1
              have hrv := hl1.2 i l[i] v' (List.getElem?_eq_getElem hi') hi
              rw [oneCell_eq, hrv.one]
              exact hone _ (List.getElem_mem hi')
            refine ⟨_, _, β, run_copy_cells (P := P) w t t2 ty e r (base + o) len cap ⟨r2, base2 + o2, none⟩ n cap2 l' ht hs (by rw [hlen']) (fun j u hu => by rw [add_lit]; exact hl2 j u hu)
              (fun j hj => by rw [show base + o + j = base + (o + j) from by omega]; exact hob.isS (by omega)) (fun j hj => by rw [show base + o + j = base + (o + j) from by omega]; exact hob.frz (by omega)) hones, hev, ?_⟩
            rw [hlen']
            exact .int _ _
theorem zeroCells_rl {z : Array Value} (hg : allB gnd1 z.toList = true) (hpos : 0 < z.size) (n : Nat) : RL β (zerosL z.toList (n * z.size)) (Builtin.zeroCells z n).toList := by
  refine ⟨by simp [zerosL, Builtin.zeroCells], fun i v v' h1 h2 => ?_⟩
  have hi : i < n * z.size := by
    have := (List.getElem?_eq_some_iff.1 h1).1
    simpa [zerosL] using this
  have hlt : i % z.size < z.size := Nat.mod_lt _ hpos
  have e1 : v = z[i % z.size] := by
    unfold zerosL at h1
    rw [List.getElem?_map, List.getElem?_range hi] at h1
    simp [hlt] at h1
    exact h1.symm
  have e2 : v' = z[i % z.size] := by
    simp [Builtin.zeroCells, hi, hlt] at h2
    exact h2.symm
  rw [e1, e2]
  exact gnd1_rv (allB_mem hg _ (by simp))
theorem appendZ_ef {t tn ty : TypeId} {x x' y y' v : Value} (h : appendZ P t tn x y s = some (v, s')) (hr : Rel G β s w) (hx : RV β x x') (hy : RV β y y') : Ef P G β s w (Builtin.append_ #[t, tn] ty #[x', y']) v s' := by
  unfold appendZ at h
  split at h <;> try (cases h; done)
  rename_i e ht
  split at h <;> try (cases h; done)
  rename_i kn htn
  split at h <;> try (cases h; done)
  rename_i i hi
  split at h <;> try (cases h; done)
  rename_i z hz
  split at h <;> try (cases h; done)
  split at h <;> try (cases h; done)
  rename_i k n
  split at h <;> cases h
  rename_i hb
  simp only [Bool.and_eq_true, Nat.ble_eq, Nat.blt_eq] at hb
  obtain ⟨⟨⟨⟨⟨hzs, hb1⟩, hb2⟩, hb3⟩, hb4⟩, hg⟩ := hb
  have hzs := Nat.eq_of_beq_eq_true hzs
  have hzs' : z.cells.size = i.size := by simpa using hzs
  cases hx
  cases hy
  have hrun := Lib.run_append_nil_zeros (P := P) w t tn ty e i z k kn ht htn hi hz n hb2 hb1 (by omega) (by omega)
  generalize hcap : grownCap w n 0 e = cap at hrun
  have hge : n ≤ cap := by rw [← hcap]; exact grownCap_ge w n 0 e
  have hnl : (zerosL z.cells.toList (n * i.size)).length = n * i.size := by simp [zerosL]
  have hnew := hr.push (w' := w.drew.alloc (.cells (Builtin.zeroCells z.cells n ++ Builtin.zeroCells z.cells (cap - n)) e)) (ob := obOf (zerosL z.cells.toList (n * i.size))) (lim := cap * i.size) rfl ⟨rfl, rfl, rfl⟩ (fun β' hl =>
    ObR.new (l' := (Builtin.zeroCells z.cells n).toList) (by rw [← hzs']; exact zeroCells_rl hg (by omega) n) (push_get w.drew _) (fun j u hu => by
      rw [Array.getElem?_append_left (by simpa using (List.getElem?_eq_some_iff.1 hu).1)]; simpa using hu) (by rw [hnl]; exact Nat.mul_le_mul_right _ hge) (by
        simp [size_zeroCells, hzs', Nat.sub_mul]
        have := Nat.mul_le_mul_right i.size hge
        omega) (.inl rfl))
  exact ⟨_, _, _, hrun, hnew, .slc (upB_same _ _ _) hge (.inr ⟨by simp, by omega⟩)⟩
theorem cap_ef {t ty : TypeId} {ats : Array TypeId} {x x' v : Value} (h : capE P t x = some v) (hr : Rel G β s w) (hx : RV β x x') (ha : ats[0]? = some t) : Ef P G β s w (Builtin.cap_ ats ty #[x']) v s := by
  unfold capE at h
  split at h <;> try (cases h; done)
  rename_i e hs
  split at h <;> cases h
  cases hx with
  | snil => exact ⟨_, w, β, by simp [Builtin.cap_, ha, run_underlying hs, goInt], .refl hr, .int _ _⟩
theorem heap_freeze_same (w : World) (g k : Nat) (c : Array Value) (e : TypeId) (fz : Nat × Nat) (h : w.heap[g]? = some (.cells c e fz)) :
    (w.freeze ⟨g, k, none⟩ 1).heap[g]? = some (.cells c e (if fz.1 == fz.2 then (k, k + 1) else (min fz.1 k, max fz.2 (k + 1)))) := by
  obtain ⟨lo, hi⟩ := fz
  unfold World.freeze
  rw [if_neg (by decide)]
  simp only [Array.getElem?_modify]
  rw [if_pos trivial, h]
  rfl
theorem heap_freeze_other (w : World) (g k g' : Nat) (h : g' ≠ g) : (w.freeze ⟨g, k, none⟩ 1).heap[g']? = w.heap[g']? := by
  unfold World.freeze
  rw [if_neg (by decide)]
  simp only [Array.getElem?_modify]
  rw [if_neg (fun he => h he.symm)]
theorem heap_freeze_size (w : World) (a : Addr) : (w.freeze a 1).heap.size = w.heap.size := by
  unfold World.freeze
  rw [if_neg (by decide)]
  simp
/-- Bytes written as a constant are marked at their end. -/
theorem mark_ef {t : TypeId} {x x' v : Value} (h : markE P t x s = some (v, s')) (hr : Rel G β s w) (hx : RV β x x') : Ef P G β s w (convert t t x') v s' := by
  unfold markE at h
  split at h <;> try (cases h; done)
  rename_i b o n sz
  split at h <;> try (cases h; done)
  rename_i hn
  rw [Nat.blt_eq] at hn
  split at h <;> try (cases h; done)
  rename_i e ht
  split at h <;> try (cases h; done)
  rename_i he
  split at h <;> try (cases h; done)
  rename_i size d tr hg
  cases h
  cases hx with
  | dslc hb hc => rw [hr.dead _ hb] at hg; cases hg
  | slc hb hc hp =>
    rename_i r base lim cap a
    rcases hp with h0 | ⟨rfl, hcl⟩
    · omega
    obtain ⟨cs, e0, fz, h1, h2, h3, h4, h5⟩ := hr.obj hb hg
    have hsh : w.shape? r = some (e0, cs.size) := by
      unfold World.shape?
      rw [h1]
    refine ⟨_, w.freeze ⟨r, cs.size, none⟩ 1, β, ?_, ?_, .slc hb hc (.inr ⟨rfl, hcl⟩)⟩
    · simp [convert, run_underlying ht, run_underlying he, markStringish, hsh]
    · refine ⟨⟨hr.n, fun b' r' base' lim' hb' => ?_, hr.inj, hr.glob, hr.gn, hr.dead⟩, .refl β, by rw [heap_freeze_size]; exact Nat.le_refl _, fun r' hr' hn' => heap_freeze_other w r cs.size r' fun he' => hn' b base lim (he' ▸ hb), fun _ _ _ _ hb' => .inl ⟨_, _, _, hb'⟩, Nat.le_refl _, fun _ _ hf => ⟨rfl, hf⟩, ⟨rfl, rfl, rfl⟩, fun b' size' d' t' _ hg' => ?_⟩
      · by_cases hbb : b' = b
        · subst hbb
          rw [hb] at hb'; cases hb'
          refine ⟨_, hg, cs, e0, _, heap_freeze_same w r cs.size cs e0 fz h1, h2, h3, ?_, h5⟩
          by_cases hz : fz.1 = fz.2
          · rw [if_pos (by simpa using hz)]; exact .inr h3
          · rw [if_neg (by simpa using hz)]
            refine .inr ?_
            show base + lim ≤ min fz.1 cs.size
            rcases h4 with h4 | h4
            · exact absurd h4 hz
            · omega
        · obtain ⟨ob, g1, g2⟩ := hr.live b' r' base' lim' hb'
          exact ⟨ob, g1, g2.mono (.refl β) (heap_freeze_other w r cs.size r' fun he' => hbb (hr.inj b' b r base' lim' base lim (he' ▸ hb') hb))⟩
      · have hbb : b' ≠ b := fun he' => by subst he'; rw [hg] at hg'; cases hg'
        exact ⟨hg', rfl, fun r' base' lim' hl => heap_freeze_other w r cs.size r' fun he' => hbb (hr.inj b' b r base' lim' base lim (he' ▸ hl) hb)⟩
end
end
end Go.Ab
