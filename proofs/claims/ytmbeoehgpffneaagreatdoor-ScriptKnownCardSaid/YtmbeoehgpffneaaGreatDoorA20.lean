/- A region whose order is drawn: the theorem. -/
import Derived.Test.YtmbeoehgpffneaaGreatDoorA19
set_option linter.unusedVariables false
namespace Go.Ab
noncomputable section
open Go.Vc (ev mapA callD putE vcOps okOps okOp mkAct opG opG_sound okOps_get guardSlot upd gd)

def cu (f : Nat → Bool) : Nat → Nat
  | 0 => 0
  | n + 1 => cu f n + if f n then 0 else 1
theorem cu_le {f g : Nat → Bool} (h : ∀ j, f j = true → g j = true) : ∀ n, cu g n ≤ cu f n
  | 0 => Nat.le_refl _
  | n + 1 => by
    have := cu_le h n
    unfold cu
    have hj := h n
    cases hf : f n <;> cases hg : g n <;> simp [hf, hg] at hj ⊢ <;> omega
theorem cu_lt {f g : Nat → Bool} (h : ∀ j, f j = true → g j = true) {i : Nat} (hf : f i = false) (hg : g i = true) : ∀ n, i < n → cu g n < cu f n
  | 0, hi => by omega
  | n + 1, hi => by
    unfold cu
    by_cases he : i = n
    · subst he
      have := cu_le h i
      simp [hf, hg]; omega
    · have := cu_lt h hf hg n (by omega)
      have hj := h n
      cases h1 : f n <;> cases h2 : g n <;> simp [h1, h2] at hj ⊢ <;> omega
theorem cu_zero {f : Nat → Bool} : ∀ {n}, cu f n = 0 → ∀ j, j < n → f j = true
  | 0, _, j, hj => by omega
  | n + 1, h, j, hj => by
    unfold cu at h
    by_cases he : j = n
    · subst he
      cases hf : f j with
      | true => rfl
      | false => rw [hf] at h; simp at h
    · exact cu_zero (n := n) (by omega) j (by omega)

section
variable {P : Program} {G : Nat → Bool} {call : FuncId → List Value → St → Option (Value × St)} {I : Inf} {all : List Oper}
/-- So far. -/
structure Good (P : Program) (G : Nat → Bool) (I : Inf) (all : List Oper) (l : List Lg) (S : List St) (β0 : Beta) (s0 : St) (w0 : World) (env0 : En) (D : Dn) (k : Nat) (β : Beta) (ρ : Go.Vc.Env) (w : World) : Prop where
  ev : ∃ Sk, S[k]? = some Sk ∧ Ev G β0 s0 w0 β Sk w ∧ ∀ x ∈ l, ∀ ob, Mk P G all x ob → nth I.es x.i = 0 → nth I.los x.i ≤ k → ¬ D x.i → β x.s.n = .fresh ∧ x.s.n < Sk.n ∧ Tr.get (bits x.s.n) Sk.m = some ob
  sl : ∀ x ∈ l, D x.i → ∀ t, dstOf all x.i = some t → RV β x.v (ρ t)
  ol : ∀ t, (∀ x ∈ l, D x.i → dstOf all x.i ≠ some t) → ∀ u, Tr.get (bits t) env0 = some u → RV β u (ρ t)
  cl : Closed all D
  up : Upto all I D k
theorem E_ne (hI : InfOk all I) : ∀ {l : List Lg} {mask cnt : Nat} {env env' : En} {s s' : St}, Run P G call I all l mask cnt env s env' s' → ∀ x ∈ l, ∀ y ∈ l, nth I.es x.i ≠ 0 → nth I.es x.i = nth I.es y.i → x.i = y.i
  | [], _, _, _, _, _, _, _, x, hx, _, _, _, _ => by simp at hx
  | z :: l, mask, cnt, env, env', s, s', h, x, hx, y, hy, h0, he => by
    obtain ⟨o, ho, hok, henv, hs, hse, hv, hn, hrec⟩ := h
    have later : ∀ q ∈ l, nth I.es z.i ≠ 0 → nth I.es q.i ≠ 0 → nth I.es q.i ≠ nth I.es z.i := fun q hq hz hq0 hqe => by
      have hze := (okAt_inv hok).2.2.2 hz
      rw [cnt_1 hz hok] at hrec
      have := (S_E hI hrec q hq (nth I.es q.i - 1) (by omega)).1
      omega
    rcases List.mem_cons.1 hx with rfl | hx'
    · rcases List.mem_cons.1 hy with rfl | hy'
      · rfl
      · exact absurd he.symm (later y hy' h0 (by omega))
    · rcases List.mem_cons.1 hy with rfl | hy'
      · exact absurd he (later x hx' (by omega) h0)
      · exact E_ne hI hrec x hx' y hy' h0 he
variable {l : List Lg} {S : List St} {β0 : Beta} {s0 s' : St} {w0 : World} {env0 env' : En} {D : Dn} {k : Nat} {β : Beta} {ρ : Go.Vc.Env} {w : World}
theorem good_env (hI : InfOk all I) (hrd : rdAll I all all 0 = true) (hrun : Run P G call I all l 0 0 env0 s0 env' s') (hg : Good P G I all l S β0 s0 w0 env0 D k β ρ w) {x : Lg} (hx : x ∈ l) {o : Oper} (ho : all[x.i]? = some o) (hnd : ¬ D x.i) (hp : ∀ p ∈ predsOf o, D p) :
    EnvR β x.env ρ := by
  intro t u ht
  obtain ⟨o', ho', hlk, h⟩ := R_env hrun x hx t u ht
  rw [ho] at ho'; cases ho'
  have hown := R_own hrun x hx
  have hcls := cls_preds hI hg.cl ho hp
  have hrdx := rdAll_get hrd x.i o ho
  rw [Nat.zero_add] at hrdx
  have tri : ∀ z ∈ l, dstOf all z.i = some t → (nth I.cls x.i).testBit z.i = true ∨ z.i = x.i ∨ (nth I.cls z.i).testBit x.i = true := fun z hz hd => by
    obtain ⟨oz, hoz⟩ := get_ex (R_mem hrun z hz).1
    have hdz : oz.dst = some t := by simpa [dstOf, hoz] using hd
    have := rdOk_get hrdx z.i oz t hoz hdz hlk
    simpa using this
  rcases h with ⟨y, hy, h1, h2, h3⟩ | ⟨h1, h2⟩
  · have hDy : D y.i := by
      rcases tri y hy h2 with h | h | h
      · exact hcls _ h
      · rw [h] at h1; rw [hown.2.1] at h1; cases h1
      · have := R_trans hrun x hx y hy h1 x.i ((R_own hrun y hy).1 x.i h)
        rw [hown.2.1] at this; cases this
    have := hg.sl y hy hDy t h2
    rwa [h3] at this
  · refine hg.ol t (fun z hz hDz hd => ?_) u h1
    rcases tri z hz hd with h | h | h
    · exact h2 z hz (hown.1 _ h) hd
    · exact hnd (h ▸ hDz)
    · exact hnd (cls_done hI hg.cl z.i (R_mem hrun z hz).1 hDz x.i h)
/-- One more is done. -/
theorem good_add (hI : InfOk all I) (hdi : distinctB all = true) (hrun : Run P G call I all l 0 0 env0 s0 env' s') (hg : Good P G I all l S β0 s0 w0 env0 D k β ρ w) {x : Lg} (hx : x ∈ l) {o : Oper} (ho : all[x.i]? = some o) (hp : ∀ p ∈ predsOf o, D p)
    {k' : Nat} {β' : Beta} {v' : Value} {w' : World} (hle : Le β β') (hv : RV β' x.v v') (hup : Upto all I (fun j => D j ∨ j = x.i) k')
    (hev : ∃ Sk, S[k']? = some Sk ∧ Ev G β0 s0 w0 β' Sk w' ∧ ∀ y ∈ l, ∀ ob, Mk P G all y ob → nth I.es y.i = 0 → nth I.los y.i ≤ k' → ¬ (D y.i ∨ y.i = x.i) → β' y.s.n = .fresh ∧ y.s.n < Sk.n ∧ Tr.get (bits y.s.n) Sk.m = some ob) :
    Good P G I all l S β0 s0 w0 env0 (fun j => D j ∨ j = x.i) k' β' (putE ρ o.dst v') w' := by
  have hdx : dstOf all x.i = o.dst := by simp [dstOf, ho]
  have put_ne : ∀ t, o.dst ≠ some t → putE ρ o.dst v' t = ρ t := fun t ht => by
    cases hd : o.dst with
    | none => rfl
    | some d =>
      have hne : t ≠ d := fun he => ht (by rw [hd, he])
      have : Nat.beq t d = false := by
        cases hb : Nat.beq t d with
        | false => rfl
        | true => exact absurd (Nat.eq_of_beq_eq_true hb) hne
      simp [putE, upd, this]
  have put_eq : ∀ t, o.dst = some t → putE ρ o.dst v' t = v' := fun t ht => by rw [ht]; simp [putE, upd]
  refine ⟨hev, fun y hy hD t hd => ?_, fun t ht u hu => ?_, fun i q hq hD p hpq => ?_, hup⟩
  · by_cases hyx : y.i = x.i
    · obtain rfl := R_uniq hrun y hy x hx hyx
      rw [hdx] at hd
      rw [put_eq t hd]; exact hv
    · have hDy : D y.i := hD.resolve_right hyx
      have hne : o.dst ≠ some t := fun he => by
        obtain ⟨oy, hoy⟩ := get_ex (R_mem hrun y hy).1
        exact hyx (distinct_get hdi y.i x.i oy o t hoy ho (by simpa [dstOf, hoy] using hd) he)
      rw [put_ne t hne]
      exact (hg.sl y hy hDy t hd).mono hle
  · have hne : o.dst ≠ some t := by rw [← hdx]; exact ht x hx (.inr rfl)
    rw [put_ne t hne]
    exact (hg.ol t (fun z hz hDz => ht z hz (.inl hDz)) u hu).mono hle
  · rcases hD with hD | rfl
    · exact .inl (hg.cl i q hq hD p hpq)
    · rw [ho] at hq; cases hq
      exact .inl (hp p hpq)
theorem upto_0 (hu : Upto all I D k) {i : Nat} (h0 : nth I.es i = 0) : Upto all I (fun j => D j ∨ j = i) k := fun j o ho hj => by
  have hji : j ≠ i := fun he => by subst he; exact hj h0
  rw [← hu j o ho hj]
  exact ⟨fun h => h.resolve_right hji, .inl⟩
theorem hi_ge (hI : InfOk all I) (hlen : I.es.length = all.length) (hrun : Run P G call I all l 0 0 env0 s0 env' s') (hS : S = stgsOf I l s') (hg : Good P G I all l S β0 s0 w0 env0 D k β ρ w) {i : Nat} (hnd : ¬ D i) : k ≤ hiOf I i := by
  obtain ⟨m, h1, h2, h3⟩ := S_len hrun
  obtain ⟨Sk, hSk, _⟩ := hg.ev
  have hkm : k ≤ m := by
    have := (List.getElem?_eq_some_iff.1 hSk).1
    rw [hS, h1] at this; omega
  have hmc : m ≤ countE I := by
    rcases Nat.eq_zero_or_pos m with rfl | hm
    · exact Nat.zero_le _
    · obtain ⟨x, hx, he⟩ := h3 hm
      have hxl := (R_mem hrun x hx).1
      have hget : I.es[x.i]? = some (nth I.es x.i) := by
        have hlt : x.i < I.es.length := by omega
        rw [List.getElem?_eq_getElem hlt]; simp [nth, hlt]
      have := (foldMax I.es 0).2 _ (List.mem_of_getElem? hget)
      unfold countE
      omega
  refine hiFrom_ge (all := all) (Nat.le_trans hkm hmc) I.es 0 fun q e hq hb => ?_
  rw [Nat.zero_add] at hb
  have hql : q < all.length := by have := (List.getElem?_eq_some_iff.1 hq).1; omega
  obtain ⟨oq, hoq⟩ := get_ex hql
  have heq : nth I.es q = e + 1 := nth_of hq
  rcases Nat.lt_or_ge e k with hlt | hge
  · have hDq : D q := (hg.up q oq hoq (by omega)).2 (by omega)
    exact absurd (cls_done hI hg.cl q hql hDq i hb) hnd
  · exact hge
theorem good_step (hc : CallOk P G call) (hI : InfOk all I) (hlen : I.es.length = all.length) (hrd : rdAll I all all 0 = true) (hdi : distinctB all = true) (hrun : Run P G call I all l 0 0 env0 s0 env' s') (hS : S = stgsOf I l s') (hchk : checkL P G I all S l = true)
    (hg : Good P G I all l S β0 s0 w0 env0 D k β ρ w) {x : Lg} (hx : x ∈ l) {o : Oper} (ho : all[x.i]? = some o) (hnd : ¬ D x.i) (hp : ∀ p ∈ predsOf o, D p) :
    opG P all o ρ w fun v' w' => ∃ k' β', Good P G I all l S β0 s0 w0 env0 (fun j => D j ∨ j = x.i) k' β' (putE ρ o.dst v') w' := by
  have henv := good_env hI hrd hrun hg hx ho hnd hp
  obtain ⟨_, _, o', ho', hv, _⟩ := R_own hrun x hx
  rw [ho] at ho'; cases ho'
  have hlos := los_le hI hg.up hg.cl ho hp
  obtain ⟨Sk, hSk, hE, hmk⟩ := hg.ev
  by_cases h0 : nth I.es x.i = 0
  · have hE0 := es0 hI ho h0
    -- it leaves what is there
    have same : evG P G call all x.env o Sk = some (x.v, Sk) → opG P all o ρ w fun v' w' => ∃ k' β', Good P G I all l S β0 s0 w0 env0 (fun j => D j ∨ j = x.i) k' β' (putE ρ o.dst v') w' := by
      intro hsk
      refine evG_ok hc hsk hE.rel henv fun v' w' β' hE' hv' => ⟨k, β', ?_⟩
      refine good_add hI hdi hrun hg hx ho hp hE'.le hv' (upto_0 hg.up h0) ⟨Sk, hSk, hE.trans hE', fun y hy ob hob hy0 hyl hyd => ?_⟩
      obtain ⟨g1, g2, g3⟩ := hmk y hy ob hob hy0 hyl (fun h => hyd (.inl h))
      obtain ⟨g4, g5⟩ := hE'.abs _ g2 g1
      exact ⟨g5, g2, g3⟩
    rcases notE ho hE0 hv with ⟨_, ⟨hw, hu⟩ | ⟨hw, hu | ⟨hpn, hu⟩⟩⟩ | ⟨ob, hob⟩
    · exact same (by simp only [evG, hw, hu])
    · exact same (by simp only [evG, hw, evOp, hu])
    · have := checkL_get hchk x hx h0 o ho hw hpn x.v hu k Sk hlos (hi_ge hI hlen hrun hS hg hnd) hSk
      exact same (by simp only [evG, hw, evOp, hpn, this])
    · obtain ⟨q, mk, hq, hw, hpn, hrn, ha, hxv, hpost⟩ := hob
      have hob' : Mk P G all x ob := ⟨q, mk, hq, hw, hpn, hrn, ha, hxv, hpost⟩
      rw [ho] at hq; cases hq
      obtain ⟨g1, g2, g3⟩ := hmk x hx ob hob' h0 hlos hnd
      obtain ⟨sem, hs, v', w', obj, lim, hr, hheap, hoth, hobr, hmkv⟩ := evA_ok (o := o) (w := w) ha henv hE.rel.glob
      have hfill := hE.fill g1 g2 g3 (R_n hrun x hx) hheap hoth hobr
      have K : ∃ k' β', Good P G I all l S β0 s0 w0 env0 (fun j => D j ∨ j = x.i) k' β' (putE ρ o.dst v') w' := by
        refine ⟨k, _, good_add hI hdi hrun hg hx ho hp (le_up g1) (by rw [hxv]; exact hmkv _ _ (upB_same _ _ _)) (upto_0 hg.up h0) ⟨Sk, hSk, hfill, fun y hy ob2 hob2 hy0 hyl hyd => ?_⟩⟩
        obtain ⟨e1, e2, e3⟩ := hmk y hy ob2 hob2 hy0 hyl (fun h => hyd (.inl h))
        obtain ⟨_, _, _, _, _, _, _, _, hpost2⟩ := hob2
        have hne := A_ne hrun y hy x hx ob2 ob hpost2 hpost (fun he => hyd (.inr he))
        exact ⟨by rw [upB_ne β _ hne]; exact e1, e2, e3⟩
      have hov := opVc_of_sem (K := fun v' w' => ∃ k' β', Good P G I all l S β0 s0 w0 env0 (fun j => D j ∨ j = x.i) k' β' (putE ρ o.dst v') w') hs (fun y hy => absurd hy (evA_nil ha y)) hr K
      unfold opG
      rcases want_ok hw henv with ⟨hgd, _⟩ | ⟨j, want, t, hgd, ht, hb⟩
      · rw [hgd]; exact hov
      · rw [hgd]
        simp only [ht]
        exact ⟨⟨fun _ => hov, fun hn => absurd (hb.1 rfl) hn⟩⟩
  · -- an action
    have hEo : isE o.op = true := by
      cases he : isE o.op with
      | true => rfl
      | false => exact absurd (hI.ne x.i o ho he) h0
    have hes := hI.eq x.i o ho hEo
    have hk1 : nth I.es x.i = k + 1 := by
      have : ¬ nth I.es x.i ≤ k := fun h => hnd ((hg.up x.i o ho h0).2 h)
      omega
    obtain ⟨_, hs1, S1, hs2, hgo⟩ := S_E hI hrun x hx k hk1
    rw [← hS, Nat.sub_zero] at hs1 hs2
    rw [hSk] at hs1
    have hSx : Sk = x.s := by simpa using hs1
    rw [← hSx] at hv
    refine evG_ok hc hv hE.rel henv fun v' w' β' hE' hv' => ⟨k + 1, β', ?_⟩
    refine good_add hI hdi hrun hg hx ho hp hE'.le hv' (fun j oj hoj hj0 => ?_) ⟨S1, hs2, (hE.trans hE').goes hgo, fun y hy ob hob hy0 hyl hyd => ?_⟩
    · obtain ⟨y, hy, hyj⟩ := R_all hrun j (get_lt hoj) (by simp)
      show (D j ∨ j = x.i) ↔ _
      rw [hg.up j oj hoj hj0]
      constructor
      · rintro (h | h)
        · omega
        · subst h; omega
      · intro h
        rcases Nat.lt_or_ge k (nth I.es j) with h' | h'
        · refine .inr ?_
          have := E_ne hI hrun y hy x hx (by rw [hyj]; exact hj0) (by rw [hyj]; omega)
          omega
        · exact .inl h'
    · have hpost : y.post = y.s.push ob := by obtain ⟨_, _, _, _, _, _, _, _, h⟩ := hob; exact h
      rcases Nat.lt_or_ge k (nth I.los y.i) with hlt | hge
      · obtain ⟨_, ⟨SL, a1, a2, a3⟩, a4⟩ := S_A hI hrun y hy hy0 ob hpost
        rw [← hS, Nat.sub_zero, show nth I.los y.i = k + 1 from by omega, hs2] at a1
        have hSL : S1 = SL := by simpa using a1
        subst hSL
        rcases a4 with a4 | ⟨z, hz, hz1, hz2⟩
        · omega
        · have hzx := E_ne hI hrun z hz x hx (by omega) (by omega)
          obtain rfl := R_uniq hrun z hz x hx hzx
          exact ⟨hE'.rel.n _ hz2, a2, a3⟩
      · obtain ⟨g1, g2, g3⟩ := hmk y hy ob hob hy0 hge (fun h => hyd (.inl h))
        obtain ⟨g4, g5⟩ := hE'.abs _ g2 g1
        have h5 : y.s.n < x.post.n := Nat.lt_of_lt_of_le g2 hE'.sn
        exact ⟨g5, Nat.lt_of_lt_of_le h5 hgo.1, (hgo.2 _ h5).trans (g4.trans g3)⟩
end
theorem draw_ok {P : Program} {G : Nat → Bool} (hm : P.follows .mixedOrders = true) (call : FuncId → List Value → St → Option (Value × St)) (hc : CallOk P G call) : DrawOk P G call := by
  intro id ops n env env' s s' β ρ w hok h hr he
  unfold evDraw at h
  split at h <;> try (cases h; done)
  rename_i I hinf
  split at h <;> try (cases h; done)
  rename_i l env1 s1 hseq
  split at h <;> cases h
  rename_i hchk
  obtain ⟨hI, hrd, hdi⟩ := infOk_ok hinf
  have hlen : I.es.length = ops.toList.length := by
    unfold infOk at hinf
    split at hinf <;> try (cases hinf; done)
    rename_i J hJ
    split at hinf <;> cases hinf
    have := infOf_len _ _ _ _ _ hJ
    simpa using this
  have hrun := evSeq_run hseq
  have hNl : ops.toList.length = ops.size := by simp
  refine wp_region_any hm ?_
  generalize hSd : stgsOf I l s' = S at hchk
  have hr' : Rel G β s { w with drawn := w.drawn + 1 } := Rel.heap (w := w) (w' := { w with drawn := w.drawn + 1 }) rfl hr
  have key : ∀ (fuel : Nat) (listed : Array Bool) (k : Nat) (β1 : Beta) (ρ1 : Go.Vc.Env) (w1 : World), listed.size = ops.size → cu (fun i => listed.getD i false) ops.size ≤ fuel →
      Good P G I ops.toList l S β s { w with drawn := w.drawn + 1 } env (fun i => listed.getD i false = true) k β1 ρ1 w1 →
      wpAny P .any ops (Pst G n β s w .normal env' s') fuel listed (mkAct n ρ1) w1 := by
    intro fuel
    have fin : ∀ (listed : Array Bool) (k : Nat) (β1 : Beta) (ρ1 : Go.Vc.Env) (w1 : World), (∀ i, i < ops.size → listed.getD i false = true) → Good P G I ops.toList l S β s { w with drawn := w.drawn + 1 } env (fun i => listed.getD i false = true) k β1 ρ1 w1 →
        Pst G n β s w .normal env' s' .normal (mkAct n ρ1) w1 := by
      intro listed k β1 ρ1 w1 hall hg
      obtain ⟨Sk, hSk, hE, _⟩ := hg.ev
      obtain ⟨m, h1, h2, h3⟩ := S_len hrun
      have hkm : k = m := by
        have hk := (List.getElem?_eq_some_iff.1 hSk).1
        rw [← hSd, h1] at hk
        rcases Nat.eq_zero_or_pos m with rfl | hmp
        · omega
        · obtain ⟨x, hx, hxe⟩ := h3 hmp
          obtain ⟨o, ho⟩ := get_ex (R_mem hrun x hx).1
          have := (hg.up x.i o ho (by omega)).1 (hall x.i (by have := get_lt ho; omega))
          omega
      subst hkm
      rw [hSd, hSk] at h2
      have hs1 : Sk = s' := by simpa using h2
      subst hs1
      refine ⟨rfl, ρ1, β1, rfl, ⟨hE.rel, hE.le, hE.sz, hE.out, hE.new, hE.sn, hE.abs, hE.oth, hE.ro⟩, fun t u ht => ?_⟩
      rcases R_fin hrun t u ht with ⟨y, hy, hd, hv⟩ | ⟨hv, hn⟩
      · have := hg.sl y hy (hall y.i (by have := (R_mem hrun y hy).1; omega)) t hd
        rwa [hv] at this
      · exact hg.ol t (fun z hz _ => hn z hz) u hv
    have ready_all : ∀ (listed : Array Bool), listed.size = ops.size → Region.ready .any ops listed = [] → ∀ i, i < ops.size → listed.getD i false = true := by
      intro listed hls hnil i
      induction i using Nat.strongRecOn with
      | _ i ih =>
        intro hi
        cases hb : listed.getD i false with
        | true => rfl
        | false =>
          have hmem : i ∈ Region.ready .any ops listed := by
            rw [mem_ready]
            have ho : ops[i]? = some ops[i] := by simp [hi]
            refine ⟨?_, ops[i], ho, fun e hem heb => ?_⟩
            · have hi' : i < listed.size := by omega
              simp [Array.getD_eq_getD_getElem?, hi'] at hb ⊢; exact hb
            · have hpm : e.on ∈ predsOf ops[i] := preds_mem.2 ⟨e, hem, heb, rfl⟩
              have hlt := hI.lt i ops[i] (by simp [hi]) e.on hpm
              exact ih e.on hlt (by omega)
          rw [hnil] at hmem; cases hmem
    induction fuel with
    | zero =>
      intro listed k β1 ρ1 w1 hls hcu hg
      have hall := cu_zero (f := fun i => listed.getD i false) (Nat.le_zero.1 hcu)
      refine ⟨List.eq_nil_iff_forall_not_mem.2 fun i hi => ?_, fin listed k β1 ρ1 w1 hall hg⟩
      obtain ⟨h1, o, ho, _⟩ := mem_ready.1 hi
      have hlt := (Array.getElem?_eq_some_iff.1 ho).1
      have h2 := hall i hlt
      have hi' : i < listed.size := by omega
      simp [Array.getD_eq_getD_getElem?, hi'] at h1 h2
      rw [h1] at h2; cases h2
    | succ fuel ih =>
      intro listed k β1 ρ1 w1 hls hcu hg
      refine ⟨fun hnil => fin listed k β1 ρ1 w1 (ready_all listed hls hnil) hg, fun i hi => ?_⟩
      obtain ⟨h1, o, ho, hpre⟩ := mem_ready.1 hi
      have hlt := (Array.getElem?_eq_some_iff.1 ho).1
      have hi' : i < listed.size := by omega
      have hnd : listed.getD i false = false := by
        simp [Array.getD_eq_getD_getElem?, hi'] at h1 ⊢; exact h1
      obtain ⟨x, hx, hxi⟩ := R_all hrun i (by omega) (by simp)
      subst hxi
      have hol : ops.toList[x.i]? = some o := by simpa using ho
      have hp : ∀ p ∈ predsOf o, listed.getD p false = true := fun p hp => by
        obtain ⟨e, h2, h3, h4⟩ := preds_mem.1 hp
        subst h4; exact hpre e h2 h3
      have hstep := good_step hc hI hlen hrd hdi hrun hSd.symm hchk hg hx hol (by rw [hnd]; simp) hp
      refine opG_sound hok ho hstep ?_
      rintro v' w' ⟨k', β', hg'⟩
      refine ih _ k' β' _ w' (by simp [hls]) ?_ ?_
      · have := cu_lt (f := fun i => listed.getD i false) (g := fun i => (listed.setIfInBounds x.i true).getD i false) (fun j hj => getD_set_true hj) (i := x.i) hnd (by simp [Array.getD_eq_getD_getElem?, hi']) ops.size hlt
        omega
      · have hDe : (fun i => (listed.setIfInBounds x.i true).getD i false = true) = (fun j => listed.getD j false = true ∨ j = x.i) := by
          funext j
          apply propext
          by_cases hj : j = x.i
          · subst hj; simp [Array.getD_eq_getD_getElem?, hi']
          · rw [getD_set_ne false (Ne.symm hj)]; simp [hj]
        rw [hDe]; exact hg'
  refine key ops.size _ 0 β ρ _ (by simp) ?_ ?_
  · have : ∀ (f : Nat → Bool) n, cu f n ≤ n := by
      intro f n
      induction n with
      | zero => exact Nat.le_refl _
      | succ n ih => unfold cu; split <;> omega
    exact this _ _
  · have hno : ∀ i, ¬ ((Array.replicate ops.size false).getD i false = true) := fun i => by
      by_cases hi : i < ops.size <;> simp [Array.getD_eq_getD_getElem?, hi]
    obtain ⟨S0, rest, h1, h2⟩ := S_head hI hrun
    refine ⟨⟨S0, by rw [← hSd, h1]; rfl, (Ev.refl hr').goes h2, fun x hx ob hob h0 hl _ => ?_⟩, fun x hx hD => absurd hD (hno _), fun t _ u hu => he t u hu, fun i o ho hD => absurd hD (hno _), fun i o ho h0 => ⟨fun hD => absurd hD (hno _), fun hl => by omega⟩⟩
    have hpost : x.post = x.s.push ob := by obtain ⟨_, _, _, _, _, _, _, _, h⟩ := hob; exact h
    obtain ⟨_, ⟨SL, a1, a2, a3⟩, _⟩ := S_A hI hrun x hx h0 ob hpost
    rw [Nat.sub_zero, show nth I.los x.i = 0 from by omega, h1] at a1
    have hSL : S0 = SL := by simpa using a1
    subst hSL
    exact ⟨hr.n _ (R_n hrun x hx), a2, a3⟩
/-- Calls are as they are evaluated. -/
theorem callE_sound {P : Program} {G : Nat → Bool} (hm : P.follows .mixedOrders = true) (fuel n : Nat) : CallOk P G (callE P G fuel n) := callE_ok hm (fun call hc => draw_ok hm call hc) fuel n
end
end Go.Ab
