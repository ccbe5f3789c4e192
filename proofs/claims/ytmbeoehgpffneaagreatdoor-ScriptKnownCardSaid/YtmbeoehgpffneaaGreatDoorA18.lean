/- A region whose order is drawn: what its run in the order of the text tells. -/
import Derived.Test.YtmbeoehgpffneaaGreatDoorA17
namespace Go.Ab
noncomputable section
section
variable (P : Program) (G : Nat → Bool) (call : FuncId → List Value → St → Option (Value × St))
def Run (I : Inf) (all : List Oper) : List Lg → Nat → Nat → En → St → En → St → Prop
  | [], mask, _, env, s, env', s' => mask + 1 = 2 ^ all.length ∧ env' = env ∧ s' = s
  | x :: l, mask, cnt, env, s, env', s' => ∃ o, all[x.i]? = some o ∧ okAt I x.i mask cnt = true ∧ x.env = restr (looks all o) env ∧ x.s = s ∧ x.seen = mask ∧ evG P G call all x.env o s = some (x.v, x.post) ∧ s.n ≤ x.post.n ∧
      Run I all l (mask ||| 2 ^ x.i) (cntAt I x.i cnt) (putEn env o.dst x.v) x.post env' s'
end
section
variable {P : Program} {G : Nat → Bool} {call : FuncId → List Value → St → Option (Value × St)} {I : Inf} {all : List Oper}
theorem evSeq_run : ∀ {is : List Nat} {mask cnt : Nat} {env env' : En} {s s' : St} {l : List Lg}, evSeq P G call I all is mask cnt env s = some (l, env', s') → Run P G call I all l mask cnt env s env' s'
  | [], mask, cnt, env, env', s, s', l, h => by
    simp only [evSeq] at h
    split at h <;> cases h
    rename_i hb
    exact ⟨Nat.eq_of_beq_eq_true hb, rfl, rfl⟩
  | i :: is, mask, cnt, env, env', s, s', l, h => by
    simp only [evSeq] at h
    split at h <;> try (cases h; done)
    rename_i o ho
    split at h <;> try (cases h; done)
    rename_i hok
    split at h <;> try (cases h; done)
    rename_i v s1 hv
    split at h <;> try (cases h; done)
    rename_i hn
    rw [Nat.ble_eq] at hn
    split at h <;> cases h
    rename_i hrec
    exact ⟨o, ho, hok, rfl, rfl, rfl, hv, hn, evSeq_run hrec⟩
theorem okAt_inv {i mask cnt : Nat} (h : okAt I i mask cnt = true) : (∀ j, (nth I.cls i).testBit j = true → mask.testBit j = true) ∧ mask.testBit i = false ∧ (nth I.es i = 0 → nth I.los i = cnt) ∧ (nth I.es i ≠ 0 → nth I.es i = cnt + 1) := by
  simp only [okAt, Bool.and_eq_true] at h
  obtain ⟨⟨h1, h2⟩, h3⟩ := h
  have h1 : nth I.cls i &&& mask = nth I.cls i := Nat.eq_of_beq_eq_true h1
  refine ⟨fun j hj => ?_, by rw [notB_eq] at h2; simpa using h2, fun h0 => ?_, fun h0 => ?_⟩
  · rw [← h1, Nat.testBit_and, Bool.and_eq_true] at hj; exact hj.2
  · rw [h0] at h3; exact Nat.eq_of_beq_eq_true h3
  · split at h3
    · rename_i he; exact absurd he h0
    · exact Nat.eq_of_beq_eq_true h3
theorem cnt_0 {i cnt : Nat} (h : nth I.es i = 0) : cntAt I i cnt = cnt := by simp [cntAt, h]
theorem cnt_1 {i cnt mask : Nat} (h : nth I.es i ≠ 0) (hok : okAt I i mask cnt = true) : cntAt I i cnt = cnt + 1 := by
  have := (okAt_inv hok).2.2.2 h
  unfold cntAt
  split
  · rename_i he; exact absurd he h
  · exact this
theorem bit_or {m i j : Nat} : (m ||| 2 ^ i).testBit j = (m.testBit j || decide (i = j)) := by rw [Nat.testBit_or, tb_two]
theorem restr_get : ∀ {ts : List Nat} {env : En} {t : Nat} {u : Value}, Tr.get (bits t) (restr ts env) = some u → t ∈ ts ∧ Tr.get (bits t) env = some u
  | [], env, t, u, h => by rw [restr, Tr.get_e] at h; cases h
  | q :: ts, env, t, u, h => by
    simp only [restr] at h
    split at h
    · rename_i v hv
      by_cases htq : t = q
      · subst htq
        rw [Tr.get_put] at h; cases h
        exact ⟨by simp, hv⟩
      · rw [Tr.get_put_ne _ _ _ _ (bits_ne htq)] at h
        obtain ⟨h1, h2⟩ := restr_get h
        exact ⟨by simp [h1], h2⟩
    · obtain ⟨h1, h2⟩ := restr_get h
      exact ⟨by simp [h1], h2⟩
def dstOf (all : List Oper) (i : Nat) : Option Tmp := (all[i]?).bind (·.dst)
theorem putEn_get {env : En} {d : Option Tmp} {v u : Value} {t : Nat} (h : Tr.get (bits t) (putEn env d v) = some u) : (d = some t ∧ v = u) ∨ (d ≠ some t ∧ Tr.get (bits t) env = some u) := by
  cases d with
  | none => exact .inr ⟨by simp, h⟩
  | some d =>
    simp only [putEn] at h
    by_cases hd : t = d
    · subst hd; rw [Tr.get_put] at h; cases h; exact .inl ⟨rfl, rfl⟩
    · rw [Tr.get_put_ne _ _ _ _ (bits_ne hd)] at h
      exact .inr ⟨fun he => by cases he; exact hd rfl, h⟩

theorem R_mem : ∀ {l : List Lg} {mask cnt : Nat} {env env' : En} {s s' : St}, Run P G call I all l mask cnt env s env' s' → ∀ x ∈ l, x.i < all.length ∧ mask.testBit x.i = false ∧ ∀ j, mask.testBit j = true → x.seen.testBit j = true
  | [], _, _, _, _, _, _, _, x, hx => by simp at hx
  | z :: l, mask, cnt, env, env', s, s', h, x, hx => by
    obtain ⟨o, ho, hok, _, _, hse, _, _, hrec⟩ := h
    rcases List.mem_cons.1 hx with rfl | hx
    · exact ⟨get_lt ho, (okAt_inv hok).2.1, fun j hj => by rw [hse]; exact hj⟩
    · obtain ⟨h1, h2, h3⟩ := R_mem hrec x hx
      rw [bit_or, Bool.or_eq_false_iff] at h2
      exact ⟨h1, h2.1, fun j hj => h3 j (by rw [bit_or, hj]; rfl)⟩
theorem R_all : ∀ {l : List Lg} {mask cnt : Nat} {env env' : En} {s s' : St}, Run P G call I all l mask cnt env s env' s' → ∀ i, i < all.length → mask.testBit i = false → ∃ x ∈ l, x.i = i
  | [], mask, _, _, _, _, _, h, i, hi, hb => by
    have hm : mask = 2 ^ all.length - 1 := by have := h.1; omega
    rw [hm, Nat.testBit_two_pow_sub_one] at hb
    simp [hi] at hb
  | z :: l, mask, cnt, env, env', s, s', h, i, hi, hb => by
    obtain ⟨o, _, _, _, _, _, _, _, hrec⟩ := h
    by_cases hz : z.i = i
    · exact ⟨z, by simp, hz⟩
    · obtain ⟨x, hx, he⟩ := R_all hrec i hi (by rw [bit_or, hb]; simp [hz])
      exact ⟨x, by simp [hx], he⟩
theorem R_own : ∀ {l : List Lg} {mask cnt : Nat} {env env' : En} {s s' : St}, Run P G call I all l mask cnt env s env' s' → ∀ x ∈ l, (∀ j, (nth I.cls x.i).testBit j = true → x.seen.testBit j = true) ∧ x.seen.testBit x.i = false ∧
    ∃ o, all[x.i]? = some o ∧ evG P G call all x.env o x.s = some (x.v, x.post) ∧ x.s.n ≤ x.post.n
  | [], _, _, _, _, _, _, _, x, hx => by simp at hx
  | z :: l, mask, cnt, env, env', s, s', h, x, hx => by
    obtain ⟨o, ho, hok, _, hs, hse, hv, hn, hrec⟩ := h
    rcases List.mem_cons.1 hx with rfl | hx
    · have := okAt_inv hok
      exact ⟨fun j hj => by rw [hse]; exact this.1 j hj, by rw [hse]; exact this.2.1, o, ho, by rw [hs]; exact hv, by rw [hs]; exact hn⟩
    · exact R_own hrec x hx
theorem R_trans : ∀ {l : List Lg} {mask cnt : Nat} {env env' : En} {s s' : St}, Run P G call I all l mask cnt env s env' s' → ∀ x ∈ l, ∀ y ∈ l, x.seen.testBit y.i = true → ∀ j, y.seen.testBit j = true → x.seen.testBit j = true
  | [], _, _, _, _, _, _, _, x, hx, _, _, _, _, _ => by simp at hx
  | z :: l, mask, cnt, env, env', s, s', h, x, hx, y, hy, hxy, j, hj => by
    have hall := R_mem h
    obtain ⟨o, ho, hok, _, _, hse, _, _, hrec⟩ := h
    rcases List.mem_cons.1 hx with rfl | hx'
    · rw [hse] at hxy
      have := (hall y hy).2.1
      rw [hxy] at this; cases this
    · rcases List.mem_cons.1 hy with rfl | hy'
      · rw [hse] at hj
        exact (R_mem hrec x hx').2.2 j (by rw [bit_or, hj]; rfl)
      · exact R_trans hrec x hx' y hy' hxy j hj
theorem R_uniq : ∀ {l : List Lg} {mask cnt : Nat} {env env' : En} {s s' : St}, Run P G call I all l mask cnt env s env' s' → ∀ x ∈ l, ∀ y ∈ l, x.i = y.i → x = y
  | [], _, _, _, _, _, _, _, x, hx, _, _, _ => by simp at hx
  | z :: l, mask, cnt, env, env', s, s', h, x, hx, y, hy, he => by
    obtain ⟨o, ho, hok, _, _, hse, _, _, hrec⟩ := h
    have bad : ∀ q ∈ l, q.i ≠ z.i := fun q hq he => by
      have := (R_mem hrec q hq).2.1
      rw [bit_or, he] at this; simp at this
    rcases List.mem_cons.1 hx with rfl | hx'
    · rcases List.mem_cons.1 hy with rfl | hy'
      · rfl
      · exact absurd he.symm (bad y hy')
    · rcases List.mem_cons.1 hy with rfl | hy'
      · exact absurd he (bad x hx')
      · exact R_uniq hrec x hx' y hy' he
theorem R_env : ∀ {l : List Lg} {mask cnt : Nat} {env env' : En} {s s' : St}, Run P G call I all l mask cnt env s env' s' → ∀ x ∈ l, ∀ t u, Tr.get (bits t) x.env = some u →
    ∃ o, all[x.i]? = some o ∧ t ∈ looks all o ∧ ((∃ y ∈ l, x.seen.testBit y.i = true ∧ dstOf all y.i = some t ∧ y.v = u) ∨ (Tr.get (bits t) env = some u ∧ ∀ y ∈ l, x.seen.testBit y.i = true → dstOf all y.i ≠ some t))
  | [], _, _, _, _, _, _, _, x, hx, _, _, _ => by simp at hx
  | z :: l, mask, cnt, env, env', s, s', h, x, hx, t, u, ht => by
    have hall := R_mem h
    obtain ⟨o, ho, hok, henv, _, hse, _, _, hrec⟩ := h
    rcases List.mem_cons.1 hx with rfl | hx
    · rw [henv] at ht
      obtain ⟨h1, h2⟩ := restr_get ht
      refine ⟨o, ho, h1, .inr ⟨h2, fun y hy hyb => ?_⟩⟩
      rw [hse] at hyb
      have := (hall y hy).2.1
      rw [hyb] at this; cases this
    · obtain ⟨q, hq, hl, h1⟩ := R_env hrec x hx t u ht
      refine ⟨q, hq, hl, ?_⟩
      have hzs : x.seen.testBit z.i = true := (R_mem hrec x hx).2.2 z.i (by rw [bit_or]; simp)
      have hzd : dstOf all z.i = o.dst := by simp [dstOf, ho]
      rcases h1 with ⟨y, hy, h2, h3, h4⟩ | ⟨h2, h3⟩
      · exact .inl ⟨y, by simp [hy], h2, h3, h4⟩
      · rcases putEn_get h2 with ⟨hd, hv⟩ | ⟨hd, hv⟩
        · exact .inl ⟨z, by simp, hzs, by rw [hzd]; exact hd, hv⟩
        · refine .inr ⟨hv, fun y hy hyb => ?_⟩
          rcases List.mem_cons.1 hy with rfl | hy
          · rw [hzd]; exact hd
          · exact h3 y hy hyb
theorem R_fin : ∀ {l : List Lg} {mask cnt : Nat} {env env' : En} {s s' : St}, Run P G call I all l mask cnt env s env' s' → ∀ t u, Tr.get (bits t) env' = some u →
    (∃ y ∈ l, dstOf all y.i = some t ∧ y.v = u) ∨ (Tr.get (bits t) env = some u ∧ ∀ y ∈ l, dstOf all y.i ≠ some t)
  | [], _, _, _, _, _, _, h, t, u, ht => .inr ⟨by rw [h.2.1] at ht; exact ht, fun y hy => by simp at hy⟩
  | z :: l, mask, cnt, env, env', s, s', h, t, u, ht => by
    obtain ⟨o, ho, hok, henv, _, hse, _, _, hrec⟩ := h
    have hzd : dstOf all z.i = o.dst := by simp [dstOf, ho]
    rcases R_fin hrec t u ht with ⟨y, hy, h1, h2⟩ | ⟨h1, h2⟩
    · exact .inl ⟨y, by simp [hy], h1, h2⟩
    · rcases putEn_get h1 with ⟨hd, hv⟩ | ⟨hd, hv⟩
      · exact .inl ⟨z, by simp, by rw [hzd]; exact hd, hv⟩
      · refine .inr ⟨hv, fun y hy => ?_⟩
        rcases List.mem_cons.1 hy with rfl | hy
        · rw [hzd]; exact hd
        · exact h2 y hy
theorem R_n : ∀ {l : List Lg} {mask cnt : Nat} {env env' : En} {s s' : St}, Run P G call I all l mask cnt env s env' s' → ∀ x ∈ l, s.n ≤ x.s.n
  | [], _, _, _, _, _, _, _, x, hx => by simp at hx
  | z :: l, mask, cnt, env, env', s, s', h, x, hx => by
    obtain ⟨o, ho, hok, henv, hs, hse, _, hn, hrec⟩ := h
    rcases List.mem_cons.1 hx with rfl | hx
    · rw [hs]; exact Nat.le_refl _
    · have := R_n hrec x hx; omega

/-- One memory goes on in another. -/
def Goes (s S : St) : Prop := s.n ≤ S.n ∧ ∀ b, b < s.n → Tr.get (bits b) S.m = Tr.get (bits b) s.m
theorem Goes.refl (s : St) : Goes s s := ⟨Nat.le_refl _, fun _ _ => rfl⟩
theorem Goes.trans {a b c : St} (h : Goes a b) (k : Goes b c) : Goes a c := ⟨Nat.le_trans h.1 k.1, fun x hx => (k.2 x (Nat.lt_of_lt_of_le hx h.1)).trans (h.2 x hx)⟩
theorem Goes.push (s : St) (ob : Ob) : Goes s (s.push ob) := ⟨Nat.le_succ _, fun b hb => by rw [St.push, Tr.get_put_ne _ _ _ _ (bits_ne (by omega))]⟩
/-- An operation that makes a block. -/
def Mk (P : Program) (G : Nat → Bool) (all : List Oper) (x : Lg) (ob : Ob) : Prop := ∃ o mk, all[x.i]? = some o ∧ wantV all x.env o.guard = some true ∧ evP P G x.env o.op = none ∧ evR P G x.env o.op x.s = none ∧ evA P G x.env o.op = some (ob, mk) ∧ x.v = mk x.s.n ∧ x.post = x.s.push ob
theorem evE_none {env : En} {op : Op} {s : St} (h : isE op = false) : evE P G env call op s = none := by
  unfold evE
  split <;> first | rfl | (simp [isE] at h; done) | (simp only [isE] at h; rw [h])
/-- What does not act turns nothing that was there. -/
theorem notE {x : Lg} {o : Oper} (ho : all[x.i]? = some o) (he : isE o.op = false) (h : evG P G call all x.env o x.s = some (x.v, x.post)) :
    (x.post = x.s ∧ ((wantV all x.env o.guard = some false ∧ x.v = undefV) ∨ (wantV all x.env o.guard = some true ∧ (evP P G x.env o.op = some x.v ∨ (evP P G x.env o.op = none ∧ evR P G x.env o.op x.s = some x.v))))) ∨ ∃ ob, Mk P G all x ob := by
  unfold evG at h
  split at h <;> try (cases h; done)
  · rename_i hw
    unfold evOp at h
    split at h
    · rename_i v hv
      simp only [Option.some.injEq, Prod.mk.injEq] at h
      exact .inl ⟨h.2.symm, .inr ⟨hw, .inl (by rw [hv, h.1])⟩⟩
    · rename_i hp
      split at h
      · rename_i v hv
        simp only [Option.some.injEq, Prod.mk.injEq] at h
        exact .inl ⟨h.2.symm, .inr ⟨hw, .inr ⟨hp, by rw [hv, h.1]⟩⟩⟩
      · rename_i hr
        split at h
        · rename_i ob mk ha
          simp only [Option.some.injEq, Prod.mk.injEq] at h
          exact .inr ⟨ob, o, mk, ho, hw, hp, hr, ha, h.1.symm, h.2.symm⟩
        · rw [evE_none he] at h; cases h
  · rename_i hw
    simp only [Option.some.injEq, Prod.mk.injEq] at h
    exact .inl ⟨h.2.symm, .inl ⟨hw, h.1.symm⟩⟩
theorem notE_goes {x : Lg} {o : Oper} (ho : all[x.i]? = some o) (he : isE o.op = false) (h : evG P G call all x.env o x.s = some (x.v, x.post)) : Goes x.s x.post := by
  rcases notE ho he h with ⟨hp, _⟩ | ⟨ob, o', mk, _, _, _, _, _, _, hp⟩
  · rw [hp]; exact .refl _
  · rw [hp]; exact .push _ _
theorem es0 (hI : InfOk all I) {i : Nat} {o : Oper} (ho : all[i]? = some o) (h : nth I.es i = 0) : isE o.op = false := by
  cases he : isE o.op with
  | false => rfl
  | true => have := hI.eq i o ho he; omega
theorem S_head (hI : InfOk all I) : ∀ {l : List Lg} {mask cnt : Nat} {env env' : En} {s s' : St}, Run P G call I all l mask cnt env s env' s' → ∃ S0 rest, stgsOf I l s' = S0 :: rest ∧ Goes s S0
  | [], _, _, _, _, s, s', h => ⟨s', [], rfl, by rw [h.2.2]; exact .refl _⟩
  | z :: l, mask, cnt, env, env', s, s', h => by
    obtain ⟨o, ho, hok, henv, hs, hse, hv, hn, hrec⟩ := h
    by_cases h0 : nth I.es z.i = 0
    · obtain ⟨S0, rest, h1, h2⟩ := S_head hI hrec
      refine ⟨S0, rest, by simp only [stgsOf, h0]; exact h1, ?_⟩
      have := notE_goes ho (es0 hI ho h0) (by rw [hs]; exact hv)
      rw [hs] at this
      exact this.trans h2
    · refine ⟨z.s, stgsOf I l s', ?_, by rw [hs]; exact .refl _⟩
      simp only [stgsOf]
theorem stg_1 {z : Lg} {l : List Lg} {s' : St} (h : nth I.es z.i ≠ 0) : stgsOf I (z :: l) s' = z.s :: stgsOf I l s' := by
  simp only [stgsOf]
theorem stg_0 {z : Lg} {l : List Lg} {s' : St} (h : nth I.es z.i = 0) : stgsOf I (z :: l) s' = stgsOf I l s' := by simp only [stgsOf, h]
theorem S_E (hI : InfOk all I) : ∀ {l : List Lg} {mask cnt : Nat} {env env' : En} {s s' : St}, Run P G call I all l mask cnt env s env' s' → ∀ x ∈ l, ∀ e, nth I.es x.i = e + 1 →
    cnt ≤ e ∧ (stgsOf I l s')[e - cnt]? = some x.s ∧ ∃ S1, (stgsOf I l s')[e + 1 - cnt]? = some S1 ∧ Goes x.post S1
  | [], _, _, _, _, _, _, _, x, hx, _, _ => by simp at hx
  | z :: l, mask, cnt, env, env', s, s', h, x, hx, e, he => by
    obtain ⟨o, ho, hok, henv, hs, hse, hv, hn, hrec⟩ := h
    rcases List.mem_cons.1 hx with rfl | hx
    · have h0 : nth I.es x.i ≠ 0 := by omega
      have h1 := (okAt_inv hok).2.2.2 h0
      have hec : e = cnt := by omega
      subst hec
      rw [stg_1 h0]
      obtain ⟨S0, rest, h2, h3⟩ := S_head hI hrec
      exact ⟨Nat.le_refl _, by simp, S0, by rw [show e + 1 - e = 0 + 1 from by omega, List.getElem?_cons_succ, h2]; rfl, h3⟩
    · by_cases h0 : nth I.es z.i = 0
      · rw [stg_0 h0]
        rw [cnt_0 h0] at hrec
        exact S_E hI hrec x hx e he
      · rw [stg_1 h0]
        rw [cnt_1 h0 hok] at hrec
        obtain ⟨h1, h2, S1, h3, h4⟩ := S_E hI hrec x hx e he
        refine ⟨by omega, ?_, S1, ?_, h4⟩
        · rw [show e - cnt = (e - (cnt + 1)) + 1 from by omega, List.getElem?_cons_succ]; exact h2
        · rw [show e + 1 - cnt = (e + 1 - (cnt + 1)) + 1 from by omega, List.getElem?_cons_succ]; exact h3
theorem S_A (hI : InfOk all I) : ∀ {l : List Lg} {mask cnt : Nat} {env env' : En} {s s' : St}, Run P G call I all l mask cnt env s env' s' → ∀ x ∈ l, nth I.es x.i = 0 → ∀ ob, x.post = x.s.push ob →
    cnt ≤ nth I.los x.i ∧ (∃ SL, (stgsOf I l s')[nth I.los x.i - cnt]? = some SL ∧ x.s.n < SL.n ∧ Tr.get (bits x.s.n) SL.m = some ob) ∧ (nth I.los x.i = cnt ∨ ∃ y ∈ l, nth I.es y.i = nth I.los x.i ∧ y.post.n ≤ x.s.n)
  | [], _, _, _, _, _, _, _, x, hx, _, _, _ => by simp at hx
  | z :: l, mask, cnt, env, env', s, s', h, x, hx, h0, ob, hp => by
    obtain ⟨o, ho, hok, henv, hs, hse, hv, hn, hrec⟩ := h
    rcases List.mem_cons.1 hx with rfl | hx
    · have h1 := (okAt_inv hok).2.2.1 h0
      obtain ⟨S0, rest, h2, h3⟩ := S_head hI hrec
      rw [hp] at h3
      rw [stg_0 h0, h2, h1]
      refine ⟨Nat.le_refl _, ⟨S0, by simp, h3.1, ?_⟩, .inl rfl⟩
      rw [h3.2 x.s.n (by show x.s.n < x.s.n + 1; omega), St.push, Tr.get_put]
    · by_cases hz : nth I.es z.i = 0
      · rw [stg_0 hz]
        rw [cnt_0 hz] at hrec
        obtain ⟨h1, h2, h3⟩ := S_A hI hrec x hx h0 ob hp
        refine ⟨h1, h2, h3.imp id ?_⟩
        rintro ⟨y, hy, h4⟩; exact ⟨y, by simp [hy], h4⟩
      · rw [stg_1 hz]
        have hzn := R_n hrec x hx
        have hze := (okAt_inv hok).2.2.2 hz
        rw [cnt_1 hz hok] at hrec
        obtain ⟨h1, ⟨SL, h2, h2'⟩, h3⟩ := S_A hI hrec x hx h0 ob hp
        refine ⟨by omega, ⟨SL, ?_, h2'⟩, .inr ?_⟩
        · rw [show nth I.los x.i - cnt = (nth I.los x.i - (cnt + 1)) + 1 from by omega, List.getElem?_cons_succ]; exact h2
        · rcases h3 with h3 | ⟨y, hy, h4⟩
          · exact ⟨z, by simp, by omega, hzn⟩
          · exact ⟨y, by simp [hy], h4⟩
theorem A_ne : ∀ {l : List Lg} {mask cnt : Nat} {env env' : En} {s s' : St}, Run P G call I all l mask cnt env s env' s' → ∀ x ∈ l, ∀ y ∈ l, ∀ ob ob', x.post = x.s.push ob → y.post = y.s.push ob' → x.i ≠ y.i → x.s.n ≠ y.s.n
  | [], _, _, _, _, _, _, _, x, hx, _, _, _, _, _, _, _ => by simp at hx
  | z :: l, mask, cnt, env, env', s, s', h, x, hx, y, hy, ob, ob', hpx, hpy, hne => by
    obtain ⟨o, ho, hok, henv, hs, hse, hv, hn, hrec⟩ := h
    rcases List.mem_cons.1 hx with rfl | hx'
    · rcases List.mem_cons.1 hy with rfl | hy'
      · exact absurd rfl hne
      · have := R_n hrec y hy'
        rw [hpx] at this
        have : x.s.n + 1 ≤ y.s.n := this
        omega
    · rcases List.mem_cons.1 hy with rfl | hy'
      · have := R_n hrec x hx'
        rw [hpy] at this
        have : y.s.n + 1 ≤ x.s.n := this
        omega
      · exact A_ne hrec x hx' y hy' ob ob' hpx hpy hne
theorem S_len : ∀ {l : List Lg} {mask cnt : Nat} {env env' : En} {s s' : St}, Run P G call I all l mask cnt env s env' s' → ∃ m, (stgsOf I l s').length = m + 1 ∧ (stgsOf I l s')[m]? = some s' ∧ (0 < m → ∃ x ∈ l, nth I.es x.i = cnt + m)
  | [], _, _, _, _, _, s', h => ⟨0, rfl, rfl, fun h => by omega⟩
  | z :: l, mask, cnt, env, env', s, s', h => by
    obtain ⟨o, ho, hok, henv, hs, hse, hv, hn, hrec⟩ := h
    obtain ⟨m, h1, h2, h3⟩ := S_len hrec
    by_cases hz : nth I.es z.i = 0
    · rw [stg_0 hz]
      refine ⟨m, h1, h2, fun hm => ?_⟩
      obtain ⟨x, hx, he⟩ := h3 hm
      rw [cnt_0 hz] at he
      exact ⟨x, by simp [hx], he⟩
    · rw [stg_1 hz]
      refine ⟨m + 1, by simp [h1], by simpa using h2, fun _ => ?_⟩
      rcases Nat.eq_zero_or_pos m with rfl | hm
      · exact ⟨z, by simp, (okAt_inv hok).2.2.2 hz⟩
      · obtain ⟨x, hx, he⟩ := h3 hm
        rw [cnt_1 hz hok] at he
        exact ⟨x, by simp [hx], by omega⟩
end
end
end Go.Ab
