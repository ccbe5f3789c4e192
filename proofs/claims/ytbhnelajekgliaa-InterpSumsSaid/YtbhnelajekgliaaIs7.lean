/- InterpSums: a machine of any code is made and run. -/
import Derived.Test.YtbhnelajekgliaaIs6
namespace Go.Ab
noncomputable section
open Go.Vc
/-- A block that is there already. -/
theorem Rel.addB {β : Beta} {s : St} {w : World} {r lim : Nat} {ob : Ob} (h : Rel noG β s w) (hr : ∀ b base l', β b ≠ .live r base l') (ho : ∀ β', Le β β' → ObR β' ob r 0 lim w) : Rel noG (upB β s.n (.live r 0 lim)) (s.push ob) w ∧ Le β (upB β s.n (.live r 0 lim)) := by
  have hf := h.n s.n (Nat.le_refl _)
  have hle : Le β (upB β s.n (.live r 0 lim)) := le_up hf
  refine ⟨⟨fun b hb => ?_, fun b r' base lim' hb => ?_, fun b b' r' base lim1 base' lim2 hb hb' => ?_, fun g hg => (by cases hg), fun g hg => (by cases hg), fun b hb => ?_⟩, hle⟩
  · have hb' : s.n + 1 ≤ b := hb
    rw [upB_ne β _ (by omega)]; exact h.n b (by omega)
  · by_cases hbn : b = s.n
    · subst hbn
      rw [upB_same] at hb; cases hb
      exact ⟨ob, Tr.get_put _ _ _, ho _ hle⟩
    · rw [upB_ne β _ hbn] at hb
      obtain ⟨ob', h1, h2⟩ := h.live b r' base lim' hb
      exact ⟨ob', by rw [St.push, Tr.get_put_ne _ _ _ _ (bits_ne hbn)]; exact h1, h2.mono hle rfl⟩
  · by_cases h1 : b = s.n
    · by_cases h2 : b' = s.n
      · omega
      · rw [h1, upB_same] at hb; cases hb
        rw [upB_ne β _ h2] at hb'
        exact absurd hb' (hr _ _ _)
    · rw [upB_ne β _ h1] at hb
      by_cases h2 : b' = s.n
      · rw [h2, upB_same] at hb'; cases hb'
        exact absurd hb (hr _ _ _)
      · rw [upB_ne β _ h2] at hb'
        exact h.inj b b' r' _ _ _ _ hb hb'
  · have hbn : b ≠ s.n := fun he => by subst he; rw [upB_same] at hb; cases hb
    rw [upB_ne β _ hbn] at hb
    rw [St.push, Tr.get_put_ne _ _ _ _ (bits_ne hbn)]; exact h.dead b hb
theorem rv_agg {β : Beta} {l l' : List Value} (h : RL β l l') : RV β (.agg l.toArray) (.agg l'.toArray) := .agg (by simp [h.1]) fun i v v' h1 h2 => h.2 i v v' (by simpa using h1) (by simpa using h2)
theorem RL.intsA {β : Beta} : ∀ {l l' : List Value}, (∀ v ∈ l, ∃ k n, v = .int k n) → RL β l l' → l' = l
  | [], l', _, h => h.inv_nil
  | v :: l, l', hi, h => by
    obtain ⟨v', l1, rfl, hv, h1⟩ := h.inv
    obtain ⟨k, n, rfl⟩ := hi _ (List.mem_cons_self ..)
    rw [RV.int_inv' hv, RL.intsA (fun v hv => hi v (List.mem_cons_of_mem _ hv)) h1]
theorem RL.self {β : Beta} : ∀ {l : List Value}, (∀ v ∈ l, ∃ k n, v = .int k n) → RL β l l
  | [], _ => .nil
  | v :: l, hi => by
    obtain ⟨k, n, rfl⟩ := hi _ (List.mem_cons_self ..)
    exact RL.cons (.int _ _) (RL.self fun v hv => hi v (List.mem_cons_of_mem _ hv))
theorem RV.ptr_some {β : Beta} {b o : Nat} {v : Value} (h : RV β (.pointer (some ⟨b, o, none⟩)) v) : ∃ a, v = .pointer (some a) := by
  cases h with
  | ptr hb => exact ⟨_, rfl⟩
  | dptr hb => exact ⟨_, rfl⟩
theorem RL.one1 {β : Beta} {a : Value} {l : List Value} (h : RL β [a] l) : ∃ a', l = [a'] ∧ RV β a a' := by
  obtain ⟨a', l1, rfl, ha, h1⟩ := h.inv
  have := h1.inv_nil
  subst this
  exact ⟨_, rfl, ha⟩
theorem RL.fiveA {β : Beta} {a b c d e : Value} {l : List Value} (h : RL β [a, b, c, d, e] l) : ∃ a' b' c' d' e', l = [a', b', c', d', e'] ∧ RV β a a' ∧ RV β b b' ∧ RV β c c' ∧ RV β d d' ∧ RV β e e' := by
  obtain ⟨a', l1, rfl, ha, h1⟩ := h.inv
  obtain ⟨b', l2, rfl, hb, h2⟩ := h1.inv
  obtain ⟨c', l3, rfl, hc, h3⟩ := h2.inv
  obtain ⟨d', l4, rfl, hd, h4⟩ := h3.inv
  obtain ⟨e', l5, rfl, he, h5⟩ := h4.inv
  have := h5.inv_nil
  subst this
  exact ⟨_, _, _, _, _, rfl, ha, hb, hc, hd, he⟩
theorem RL.nineA {β : Beta} {a b c d e f g i j : Value} {l : List Value} (h : RL β [a, b, c, d, e, f, g, i, j] l) : ∃ a' b' c' d' e' f' g' i' j', l = [a', b', c', d', e', f', g', i', j'] ∧ RV β a a' ∧ RV β b b' ∧ RV β c c' ∧ RV β d d' ∧ RV β e e' ∧ RV β f f' ∧ RV β g g' ∧ RV β i i' ∧ RV β j j' := by
  obtain ⟨a', l1, rfl, ha, h1⟩ := h.inv
  obtain ⟨b', l2, rfl, hb, h2⟩ := h1.inv
  obtain ⟨c', l3, rfl, hc, h3⟩ := h2.inv
  obtain ⟨d', l4, rfl, hd, h4⟩ := h3.inv
  obtain ⟨e', f', g', i', j', rfl, he, hf, hg, hi, hj⟩ := h4.fiveA
  exact ⟨_, _, _, _, _, _, _, _, _, rfl, ha, hb, hc, hd, he, hf, hg, hi, hj⟩
end
end Go.Ab
namespace Go.Proofs.Ytbhnelajekgliaa
open Go.Vc Go.Ab
theorem codeV_int {m : Nat} {o a : Nat → Int} : ∀ v ∈ codeV m o a, ∃ k n, v = Value.int k n := fun v hv => by
  obtain ⟨i, _, hi⟩ := List.mem_flatMap.1 hv
  simp only [List.mem_cons, List.not_mem_nil, or_false] at hi
  rcases hi with rfl | rfl | rfl <;> exact ⟨_, _, rfl⟩
set_option maxHeartbeats 1600000 in
/-- What the store tells of the machine. -/
theorem pre_mach {m : Nat} {o a : Nat → Int} {s : Go.Ab.St} {β : Beta} {w : World} {mv rv : Value} {H : Nat → Prop} (hm : 0 < m) (h : Rel noG β s w) (hmv : RV β (pt 24) mv) (hrv : RV β (pt 2) rv)
    (f1 : objL s 24 = some [pt 2, pt 23, .slice (some ⟨41, 0, none⟩) 1 1, .int .i64 200, .int .i64 0]) (f2 : objL s 2 = some [pt 1, .slice (some ⟨19, 0, none⟩) 1 5, .slice (some ⟨22, 0, none⟩) 1 1, nl, nl]) (f3 : objL s 23 = some [nl]) (f4 : objL s 41 = some [pt 39])
    (f5 : objL s 39 = some [.int .i64 0, .int .i64 0, .int .i64 0, nl, .int .i64 0, .slice (some ⟨33, 0, none⟩) 1 1, .slice (some ⟨35, 0, none⟩) m 3, .slice (some ⟨38, 0, none⟩) 1 1, nl]) (f6 : objL s 35 = some (codeV m o a)) (f7 : objL s 22 = some [.slice (some ⟨20, 0, none⟩) 1 1]) (f8 : objL s 20 = some [.int .i32 0])
    (hH : ∀ b r base lim, b ≠ 3 → β b = .live r base lim → ¬ H r) (hlt : ∀ i, H i → i < w.heap.size) :
    ∃ p : Mch, mv = p.pm ∧ rv = p.pr ∧ p.n = m ∧ MS p o a H w 1 0 200 0 0 [] 0 := by
  obtain ⟨r24, b24, l24, k24, rfl⟩ := RV.ptr_inv (h.gone f1) hmv
  obtain ⟨r2, b2, l2, k2, rfl⟩ := RV.ptr_inv (h.gone f2) hrv
  obtain ⟨c24, s24, q24⟩ := h.seg k24 f1
  obtain ⟨v1, v2, v3, v4, v5, rfl, i1, i2, i3, i4, i5⟩ := RL.fiveA q24
  obtain rfl := RV.int_inv' i4
  obtain rfl := RV.int_inv' i5
  obtain ⟨r2', b2', l2', k2', rfl⟩ := RV.ptr_inv (h.gone f2) i1
  rw [k2] at k2'
  cases k2'
  obtain ⟨r23, b23, l23, k23, rfl⟩ := RV.ptr_inv (h.gone f3) i2
  obtain ⟨r41, b41, l41, c41, k41, rfl, hc41, _⟩ := RV.slice_inv (h.gone f4) i3 (by omega)
  obtain ⟨c2, s2, q2⟩ := h.seg k2 f2
  obtain ⟨hv, iv, fv, pv, sv, rfl, _, _, j3, _, _⟩ := RL.fiveA q2
  obtain ⟨r22, b22, l22, c22, k22, rfl, _, _⟩ := RV.slice_inv (h.gone f7) j3 (by omega)
  obtain ⟨c23, s23, q23⟩ := h.seg k23 f3
  obtain ⟨tv, rfl, t1⟩ := RL.one1 q23
  cases t1
  obtain ⟨d41, s41, q41⟩ := h.seg k41 f4
  obtain ⟨fp, rfl, t2⟩ := RL.one1 q41
  obtain ⟨r39, b39, l39, k39, rfl⟩ := RV.ptr_inv (h.gone f5) t2
  obtain ⟨c39, s39, q39⟩ := h.seg k39 f5
  obtain ⟨u1, u2, u3, u4, u5, u6, u7, u8, u9, rfl, x1, x2, x3, x4, x5, x6, x7, x8, x9⟩ := RL.nineA q39
  obtain rfl := RV.int_inv' x1
  obtain rfl := RV.int_inv' x2
  obtain rfl := RV.int_inv' x3
  obtain rfl := RV.int_inv' x5
  cases x9
  obtain ⟨r35, b35, l35, c35, k35, rfl, hc35, _⟩ := RV.slice_inv (h.gone f6) x7 hm
  obtain ⟨d35, s35, q35⟩ := h.seg k35 f6
  rw [RL.intsA codeV_int q35] at s35
  obtain ⟨d22, s22, q22⟩ := h.seg k22 f7
  obtain ⟨fz, rfl, t3⟩ := RL.one1 q22
  obtain ⟨r20, b20, l20, c20, k20, rfl, _, _⟩ := RV.slice_inv (h.gone f8) t3 (by omega)
  obtain ⟨d20, s20, q20⟩ := h.seg k20 f8
  obtain ⟨zv, rfl, t4⟩ := RL.one1 q20
  obtain rfl := RV.int_inv' t4
  have ne : ∀ {b b' r r' a l a' l' : Nat}, β b = .live r a l → β b' = .live r' a' l' → b ≠ b' → r ≠ r' := fun hb hb' hn he => by
    subst he
    exact hn (h.inj _ _ _ _ _ _ _ hb hb')
  have nh : ∀ {b r x l : Nat}, β b = .live r x l → b ≠ 3 → ∀ i, H i → i ≠ r := fun hb hn i hi he => hH _ _ _ _ hn hb (he ▸ hi)
  refine ⟨⟨r24, b24 + 0, r41, b41 + 0, c41, r39, b39 + 0, r35, b35 + 0, m, c35, r23, b23 + 0, r2, b2 + 0, r22, b22 + 0, c22, r20, b20 + 0, c20, 0, hv, iv, pv, sv, u8, u4, u6⟩, rfl, rfl, rfl, ⟨nl, nl, [], ⟨s24, s41, s39, s35, s23, s2, s22, s20, ⟨ne k24 k41 (by decide), ne k24 k39 (by decide), ne k24 k35 (by decide), ne k24 k23 (by decide), ne k24 k2 (by decide), ne k24 k22 (by decide), ne k24 k20 (by decide), ne k41 k39 (by decide), ne k41 k35 (by decide), ne k41 k23 (by decide), ne k41 k2 (by decide), ne k41 k22 (by decide), ne k41 k20 (by decide), ne k39 k35 (by decide), ne k39 k23 (by decide), ne k39 k2 (by decide), ne k39 k22 (by decide), ne k39 k20 (by decide), ne k35 k23 (by decide), ne k35 k2 (by decide), ne k35 k22 (by decide), ne k35 k20 (by decide), ne k23 k2 (by decide), ne k23 k22 (by decide), ne k23 k20 (by decide), ne k2 k22 (by decide), ne k2 k20 (by decide), ne k22 k20 (by decide)⟩, Nat.zero_le _, ⟨hc41, hc35⟩⟩, World.ownsRow_nil _ _ _ _, World.ownsRow_nil _ _ _ _, rfl, (fun i hi => by cases hi), (fun i hi => by cases hi), (fun i hi => by cases hi), fun i hi => ⟨hlt i hi, ⟨nh k24 (by decide) i hi, nh k41 (by decide) i hi, nh k39 (by decide) i hi, nh k35 (by decide) i hi, nh k23 (by decide) i hi, nh k2 (by decide) i hi, nh k22 (by decide) i hi, nh k20 (by decide) i hi⟩, (fun he => by cases he), (fun he => by cases he)⟩⟩⟩
end Go.Proofs.Ytbhnelajekgliaa
