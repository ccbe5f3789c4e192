/- InterpSums: run, whole. -/
import Derived.Test.YtbhnelajekgliaaIs7
namespace Go.Proofs.Ytbhnelajekgliaa
open Go.Vc Go.Ab
theorem newS_inv {y : Value × Go.Ab.St} (h : newS = some y) : ∃ v e, run1 12 [.int .i64 200] ⟨0, .e⟩ = some (v, y.2) ∧ two v = some (y.1, e) ∧ e = .int .i64 0 := by
  unfold newS at h
  obtain ⟨⟨v, s⟩, h1, h2⟩ := Option.bind_eq_some_iff.1 h
  obtain ⟨⟨p, e⟩, h3, h4⟩ := Option.bind_eq_some_iff.1 h2
  split at h4
  · rename_i hi
    cases h4
    exact ⟨v, e, h1, h3, intIs_inv hi⟩
  · cases h4
theorem preM_inv {m : Nat} {o a : Nat → Int} {x : Value × Value × Go.Ab.St} (h : preM m o a = some x) : ∃ y r s1 t e, newS = some y ∧ run1 13 [y.1, imgS y.2] (pushS m o a y.2) = some (r, s1) ∧ run1 14 [y.1, .int .i64 0, .int .i64 200] s1 = some (t, x.2.2) ∧ two t = some (x.2.1, e) ∧ e = .int .i64 0 ∧ x.1 = y.1 := by
  unfold preM at h
  obtain ⟨y, h1, h⟩ := Option.bind_eq_some_iff.1 h
  obtain ⟨⟨r, s1⟩, h2, h⟩ := Option.bind_eq_some_iff.1 h
  obtain ⟨⟨t, s2⟩, h3, h⟩ := Option.bind_eq_some_iff.1 h
  obtain ⟨⟨q, e⟩, h4, h⟩ := Option.bind_eq_some_iff.1 h
  split at h
  · rename_i hi
    cases h
    exact ⟨y, r, s1, t, e, h1, h2, h3, h4, intIs_inv hi, rfl⟩
  · cases h
theorem cdC_int {cd : List (Int × Int)} : ∀ v ∈ cdC cd, ∃ k n, v = Value.int k n := fun v hv => by
  obtain ⟨q, _, hi⟩ := List.mem_flatMap.1 hv
  simp only [List.mem_cons, List.not_mem_nil, or_false] at hi
  rcases hi with rfl | rfl | rfl <;> exact ⟨_, _, rfl⟩
/-- The whole code. -/
def whole (c : List (Int × Int)) : List (Int × Int) := c ++ [(34, 0), (39, 0)]
set_option maxHeartbeats 3200000 in
theorem runAll_ok {c : List (Int × Int)} {v : Int} (hP : Prep c v) (hodd : (c.length + 2) % 2 = 1) (hlen : c.length + 2 ≤ 51) {w : World} {B : Nat} {cv : Value} (hcv : w.ownsRow B 27 3 cv (c.length + 2) (cdC (whole c))) :
    callD Try.prog 6 #[i64 200, cv] w fun r w' => (∃ p o a H pc tn, r = .tuple #[p.pm, p.pr] ∧ MS p o a H w' 0 pc (200 - ((c.length + 2 : Nat) : Int)) 36864 v [] tn) ∧ Ext w w' := by
  have h3 : 3 ≤ c.length + 2 := by
    obtain ⟨S, _, _, h, _⟩ := prep_S hP
    omega
  have hwl : (whole c).length = c.length + 2 := by simp [whole]
  obtain ⟨g, cap, cur, rfl, hBg, hgc, hncap, hcm, hcs, hct⟩ : ∃ g cap cur, cv = .slice (some ⟨g, 0, none⟩) (c.length + 2) cap ∧ B ≤ g ∧ w.heap[g]? = some (.cells cur 27 (0, 0)) ∧ c.length + 2 ≤ cap ∧ cap ≤ maxLen ∧ cur.size = cap * 3 ∧ cur.toList.take ((c.length + 2) * 3) = cdC (whole c) := by
    rcases hcv.2 with ⟨_, h0⟩ | h
    · omega
    · exact h
  have hgl : g < w.heap.size := (Array.getElem?_eq_some_iff.1 hgc).1
  have hfm := fm_all hodd h3 hlen (oF (whole c)) (aF (whole c))
  generalize hm : c.length + 2 = m at *
  obtain ⟨x, hx, hfx⟩ := Option.map_eq_some_iff.1 hfm
  simp only [Prod.mk.injEq] at hfx
  obtain ⟨g0, g1, f1, f2, f3, f4, f5, f6, f7, f8⟩ := hfx
  obtain ⟨y, rA, s1, t, e, hy, hAdd, hNew, h2t, he0, hxy⟩ := preM_inv hx
  obtain ⟨v0, e0, hr, h2, he⟩ := newS_inv hy
  have hy1 : y.1 = pt 2 := hxy.symm.trans g0
  apply F6_wp
  suffices key : ∀ R : Value → World → Prop, (∀ r w', (∃ p o a H pc tn, r = .tuple #[p.pm, p.pr] ∧ MS p o a H w' 0 pc (200 - ((m : Nat) : Int)) 36864 v [] tn) → Ext w w' → R r w') → F6_den (i64 200) (.slice (some ⟨g, 0, none⟩) m cap) w R from key _ fun r w' h1 h2 => ⟨h1, h2⟩
  intro R hR
  unfold F6_den
  refine (run1_ok (args' := [i64 200]) hr (rel_empty w) (RL.cons (.int _ _) .nil)).mono fun r w1 ⟨β1, ev1, rv1⟩ => ?_
  obtain ⟨rv, e', rfl, hrv, he'⟩ := two_rv h2 rv1
  rw [he] at he'
  obtain rfl := RV.int_inv' he'
  refine V_ext0.2 (V_ext1.2 ?_)
  simp only [V_neqI, ne_eq, not_true_eq_false, V_neqI, gd_f, pickD_iff, reduceIte, Bool.false_eq_true, decide_false]
  obtain ⟨ra, hra⟩ := RV.ptr_some (hy1 ▸ hrv)
  subst hra
  refine V.ok (r_eqPtr Try.underlying31) ?_
  simp only [ifD_false]
  have x1 : Ext w w1 := ev1.ext
  have past1 : ∀ {b r base lim : Nat}, β1 b = .live r base lim → w.heap.size ≤ r := fun {b r base lim} hb => by
    rcases ev1.new b r base lim hb with ⟨b0, base0, lim0, h0⟩ | h0
    · cases h0
    · exact h0
  have hgc1 : w1.heap[g]? = some (.cells cur 27 (0, 0)) := (x1.block g hgl (by simp)).trans hgc
  obtain ⟨relA, leA⟩ := Rel.addB (ob := .ro (codeV m (oF (whole c)) (aF (whole c))).length .nilIface (trOf 0 (codeV m (oF (whole c)) (aF (whole c))) .e)) (lim := cap * 3) ev1.rel (r := g) (fun b base l' hb => by have := past1 hb; omega) fun β' hle => by
    have hcode : codeV m (oF (whole c)) (aF (whole c)) = cdC (whole c) := by rw [← hwl]; exact cdC_eq _
    rw [hcode]
    have hll : (cdC (whole c)).length = m * 3 := by rw [← hct]; simp; omega
    have hO : ObR β' (obOf (cdC (whole c))) g 0 (cap * 3) w1 := ObR.new (l' := cdC (whole c)) (RL.self cdC_int) hgc1 (fun i u hi => by
      rw [← hct, List.getElem?_take] at hi
      split at hi
      · simpa using hi
      · cases hi) (by rw [hll]; omega) (by omega) (.inl rfl)
    obtain ⟨c', e', fz', q1, q2, q3, q4, q5⟩ := hO
    exact ⟨c', e', fz', q1, by omega, q5⟩
  generalize hβA : upB β1 y.2.n (.live g 0 (cap * 3)) = βA at relA leA
  have liveA : βA y.2.n = .live g 0 (cap * 3) := by rw [← hβA]; exact upB_same _ _ _
  have pastA : ∀ {b r base lim : Nat}, βA b = .live r base lim → w.heap.size ≤ r ∨ r = g := fun {b r base lim} hb => by
    rw [← hβA] at hb
    by_cases hbn : b = y.2.n
    · subst hbn
      rw [upB_same] at hb
      cases hb
      exact .inr rfl
    · rw [upB_ne _ _ hbn] at hb
      exact .inl (past1 hb)
  -- the fields' row
  refine V.ok (v := .slice (some ⟨w1.heap.size, 0, none⟩) 1 1) (w' := w1.alloc (.cells ([i64 1] : List Value).toArray 3)) (by kernel_rfl) ?_
  have evB := Rel.push relA (w' := w1.alloc (.cells ([i64 1] : List Value).toArray 3)) (obj := .cells ([i64 1] : List Value).toArray 3 (0, 0)) (ob := obOf [i64 1]) (lim := 1) rfl ⟨rfl, rfl, rfl⟩ (obOf_new (l := [i64 1]) (RL.cons (.int _ _) .nil) rfl (.inl rfl))
  have xB : Ext w1 (w1.alloc (.cells ([i64 1] : List Value).toArray 3)) := (Ext.refl _).alloc _
  generalize w1.alloc (.cells ([i64 1] : List Value).toArray 3) = w2 at evB xB ⊢
  -- the locals' row
  refine V.ok (v := .slice (some ⟨w2.heap.size, 0, none⟩) 1 1) (w' := w2.alloc (.cells ([i64 1] : List Value).toArray 3)) (by kernel_rfl) ?_
  have evC := Rel.push evB.rel (w' := w2.alloc (.cells ([i64 1] : List Value).toArray 3)) (obj := .cells ([i64 1] : List Value).toArray 3 (0, 0)) (ob := obOf [i64 1]) (lim := 1) rfl ⟨rfl, rfl, rfl⟩ (obOf_new (l := [i64 1]) (RL.cons (.int _ _) .nil) rfl (.inl rfl))
  have xC : Ext w2 (w2.alloc (.cells ([i64 1] : List Value).toArray 3)) := (Ext.refl _).alloc _
  generalize w2.alloc (.cells ([i64 1] : List Value).toArray 3) = w3 at evC xC ⊢
  refine bld bd_48 [(2, .slice (some ⟨w2.heap.size, 0, none⟩) 1 1), (3, .slice (some ⟨g, 0, none⟩) m cap)] rfl rfl ?_
  -- the methods' row
  refine V.ok (v := .slice (some ⟨w3.heap.size, 0, none⟩) 1 1) (w' := w3.alloc (.cells ([nl, i64 0, .slice (some ⟨w2.heap.size, 0, none⟩) 1 1, .slice (some ⟨g, 0, none⟩) m cap] : List Value).toArray 48)) (by kernel_rfl) ?_
  have rvF : RV (upB βA (y.2.n + 1) (.live w1.heap.size 0 1)) (.slice (some ⟨y.2.n + 1, 0, none⟩) 1 1) (.slice (some ⟨w1.heap.size, 0, none⟩) 1 1) := .slc (base := 0) (lim := 1) (upB_same _ _ _) (Nat.le_refl _) (.inr ⟨rfl, by decide⟩)
  have rvL : RV (upB (upB βA (y.2.n + 1) (.live w1.heap.size 0 1)) (y.2.n + 2) (.live w2.heap.size 0 1)) (.slice (some ⟨y.2.n + 2, 0, none⟩) 1 1) (.slice (some ⟨w2.heap.size, 0, none⟩) 1 1) := .slc (base := 0) (lim := 1) (upB_same _ _ _) (Nat.le_refl _) (.inr ⟨rfl, by decide⟩)
  have rvC : RV βA (.slice (some ⟨y.2.n, 0, none⟩) m 3) (.slice (some ⟨g, 0, none⟩) m cap) := .slc (base := 0) (lim := cap * 3) liveA hncap (.inr ⟨rfl, by omega⟩)
  have rlD : RL (upB (upB βA (y.2.n + 1) (.live w1.heap.size 0 1)) (y.2.n + 2) (.live w2.heap.size 0 1)) [nl, .int .i64 0, .slice (some ⟨y.2.n + 2, 0, none⟩) 1 1, .slice (some ⟨y.2.n, 0, none⟩) m 3] [nl, i64 0, .slice (some ⟨w2.heap.size, 0, none⟩) 1 1, .slice (some ⟨g, 0, none⟩) m cap] :=
    RL.cons .snil (RL.cons (.int _ _) (RL.cons rvL (RL.cons ((rvC.mono evB.le).mono evC.le) .nil)))
  have evD := Rel.push evC.rel (w' := w3.alloc (.cells ([nl, i64 0, .slice (some ⟨w2.heap.size, 0, none⟩) 1 1, .slice (some ⟨g, 0, none⟩) m cap] : List Value).toArray 48)) (obj := .cells ([nl, i64 0, .slice (some ⟨w2.heap.size, 0, none⟩) 1 1, .slice (some ⟨g, 0, none⟩) m cap] : List Value).toArray 48 (0, 0)) (lim := 4) rfl ⟨rfl, rfl, rfl⟩ (obOf_new rlD rfl (.inl rfl))
  have xD : Ext w3 (w3.alloc (.cells ([nl, i64 0, .slice (some ⟨w2.heap.size, 0, none⟩) 1 1, .slice (some ⟨g, 0, none⟩) m cap] : List Value).toArray 48)) := (Ext.refl _).alloc _
  generalize w3.alloc (.cells ([nl, i64 0, .slice (some ⟨w2.heap.size, 0, none⟩) 1 1, .slice (some ⟨g, 0, none⟩) m cap] : List Value).toArray 48) = w4 at evD xD ⊢
  refine bld bd_52 [(0, .string { data := #[97] }), (1, .slice (some ⟨w1.heap.size, 0, none⟩) 1 1), (3, .slice (some ⟨w3.heap.size, 0, none⟩) 1 1)] rfl rfl ?_
  have rvM : RV (upB (upB (upB βA (y.2.n + 1) (.live w1.heap.size 0 1)) (y.2.n + 2) (.live w2.heap.size 0 1)) (y.2.n + 3) (.live w3.heap.size 0 4)) (.slice (some ⟨y.2.n + 3, 0, none⟩) 1 4) (.slice (some ⟨w3.heap.size, 0, none⟩) 1 1) := .slc (base := 0) (lim := 4) (upB_same _ _ _) (Nat.le_refl _) (.inr ⟨rfl, by decide⟩)
  have evBD := (evB.trans evC).trans evD
  have himg : RV (upB (upB (upB βA (y.2.n + 1) (.live w1.heap.size 0 1)) (y.2.n + 2) (.live w2.heap.size 0 1)) (y.2.n + 3) (.live w3.heap.size 0 4)) (imgS y.2) (.agg ([.string { data := #[97] }, .slice (some ⟨w1.heap.size, 0, none⟩) 1 1, nl, .slice (some ⟨w3.heap.size, 0, none⟩) 1 1, nl] : List Value).toArray) :=
    rv_agg (l := [.string { data := #[97] }, .slice (some ⟨y.2.n + 1, 0, none⟩) 1 1, nl, .slice (some ⟨y.2.n + 3, 0, none⟩) 1 4, nl]) (RL.cons (.string _) (RL.cons ((rvF.mono evC.le).mono evD.le) (RL.cons .snil (RL.cons rvM (RL.cons .snil .nil)))))
  have hrvD := (hrv.mono leA).mono evBD.le
  refine (run1_ok (args' := [.pointer (some ra), .agg ([.string { data := #[97] }, .slice (some ⟨w1.heap.size, 0, none⟩) 1 1, nl, .slice (some ⟨w3.heap.size, 0, none⟩) 1 1, nl] : List Value).toArray]) hAdd evD.rel (RL.cons hrvD (RL.cons himg .nil))).mono fun _ w5 ⟨β5, ev5, _⟩ => ?_
  refine (run1_ok (args' := [.pointer (some ra), i64 0, i64 200]) hNew ev5.rel (RL.cons (hrvD.mono ev5.le) (RL.cons (.int _ _) (RL.cons (.int _ _) .nil)))).mono fun r w6 ⟨β6, ev6, rv6⟩ => ?_
  obtain ⟨mv, e'', rfl, hmv, he''⟩ := two_rv h2t rv6
  rw [he0] at he''
  obtain rfl := RV.int_inv' he''
  refine V_ext0.2 (V_ext1.2 ?_)
  simp only [V_neqI, ne_eq, not_true_eq_false, V_neqI, gd_f, pickD_iff, reduceIte, Bool.false_eq_true, decide_false]
  have EV := (evBD.trans ev5).trans ev6
  have hrv6 := hrvD.mono (ev5.trans ev6).le
  rw [hy1] at hrv6
  rw [g1] at hmv
  -- what lies where
  have n3 : y.2.n = 3 := by
    have hn : newS.map (fun y => y.2.n) = some 3 := by kernel_rfl
    rw [hy] at hn
    simpa using hn
  have ro := EV.ro y.2.n _ _ _ (Nat.lt_succ_self _) (Tr.get_put _ _ _)
  have live3 : β6 3 = .live g 0 (cap * 3) := by
    have l := ro.2.1.trans liveA
    rw [n3] at l
    exact l
  have X6 : Ext w w6 := by
    have f : Fr (fun i => w.heap.size ≤ i) w1 w6 := ⟨EV.oth.1, EV.oth.2.1, EV.oth.2.2, EV.sz, fun i hi hn => by
      by_cases hig : i = g
      · subst hig
        exact ro.2.2 _ _ _ liveA
      · exact EV.out i hi fun b base lim hb => by
          rcases pastA hb with h | h
          · exact hn h
          · exact hig h⟩
    exact f.ext x1 fun i hi => hi
  obtain ⟨p, e1, e2, hpn, hM⟩ := pre_mach (m := m) (H := fun i => i < w.heap.size) (by omega) EV.rel hmv hrv6 f1 f2 f3 f4 f5 f6 f7 f8 (fun b r base lim hb3 hb hr => by
    rcases EV.new b r base lim hb with ⟨b0, base0, lim0, h0⟩ | h0
    · rcases pastA h0 with h | h
      · exact absurd hr (Nat.not_lt.2 h)
      · subst h
        exact hb3 (EV.rel.inj _ _ _ _ _ _ _ hb live3)
    · exact absurd hr (Nat.not_lt.2 (Nat.le_trans x1.size h0))) (fun i hi => by have := X6.size; omega)
  subst e1
  rw [e2]
  refine V.ok (r_eqPtr Try.underlying30) ?_
  simp only [ifD_false]
  refine (run_ok hP (by omega) (by omega) hM).mono fun _ w7 ⟨⟨pc, tn, h7⟩, k7⟩ => ?_
  refine hR _ _ ⟨p, oF (whole c), aF (whole c), fun i => i < w.heap.size, pc, tn, rfl, ?_⟩ (k7.ext X6 fun i hi => Nat.not_lt.1 hi)
  rw [← hm]
  exact h7
end Go.Proofs.Ytbhnelajekgliaa
