/- Calls whose run is known already: each is told once, in pieces of its own, and answered from then on. -/
import Derived.Test.YtddbpleocbpjdaaGreatDoorA24
namespace Go.Ab
noncomputable section
open Go.Vc (callD Ext mkAct)
/-! Short names for printed states. -/
def vi (n : Nat) : Value := .int .i64 (.ofNat n)
def tt : Value := .bool true
def ff : Value := .bool false
def pp (b o : Nat) : Value := .pointer (some ⟨b, o, none⟩)
def n1 {α : Type} (l : Tr α) (v : α) (r : Tr α) : Tr α := .n l (some v) r
def n2 {α : Type} (l r : Tr α) : Tr α := .n l none r
def n3 {α : Type} (v : α) : Tr α := .n .e (some v) .e
def cl (n : Nat) (d : Value) (t : Tr Value) : Ob := .cells n d t
/-- A call that is known: of f at args in the store s; it answers v and leaves s'. -/
structure Mm where
  f : FuncId
  args : List Value
  s : St
  v : Value
  s' : St
def hit (e : Mm) (f : FuncId) (args : List Value) (s : St) : Bool := match Nat.beq e.f f with
  | true => veq.veqL (veq 30) args e.args && (Nat.beq s.n e.s.n && eqTr obEq s.m e.s.m)
  | false => false
def findM : List Mm → FuncId → List Value → St → Option (Value × St)
  | [], _, _, _ => none
  | e :: l, f, args, s => match hit e f args s with | true => some (e.v, e.s') | false => findM l f args s
def callM (M : List Mm) (T : Nat → Bool) (P : Program) (G : Nat → Bool) (fuel : Nat) : Nat → FuncId → List Value → St → Option (Value × St)
  | 0, _, _, _ => none
  | n + 1, f, args, s => match findM M f args s with
    | some r => some r
    | none => match T f with
      | true => match args with | [] => some (.bool true, s) | _ => none
      | false => stepE P G fuel (callM M T P G fuel n) f args s
def MmOk (P : Program) (G : Nat → Bool) (e : Mm) : Prop := ∀ (β : Beta) (w : World) (args' : Array Value), Rel G β e.s w → RL β e.args args'.toList → callD P e.f args' w fun v' w' => ∃ β', Ev G β e.s w β' e.s' w' ∧ RV β' e.v v'
def MmsOk (P : Program) (G : Nat → Bool) : List Mm → Prop
  | [] => True
  | e :: l => MmOk P G e ∧ MmsOk P G l
theorem hit_eq {e : Mm} {f : FuncId} {args : List Value} {s : St} (h : hit e f args s = true) : f = e.f ∧ args = e.args ∧ s = e.s := by
  unfold hit at h
  split at h <;> try (cases h; done)
  rename_i hf
  simp only [Bool.and_eq_true] at h
  obtain ⟨h1, h2, h3⟩ := h
  refine ⟨(Nat.eq_of_beq_eq_true hf).symm, veqL_eq (fun a b => veq_eq) h1, ?_⟩
  obtain ⟨n, m⟩ := s
  obtain ⟨f', a', ⟨n', m'⟩, v', s'⟩ := e
  simp only at h2 h3 ⊢
  rw [Nat.eq_of_beq_eq_true h2, eqTr_eq obEq_eq h3]
theorem findM_ok {P : Program} {G : Nat → Bool} : ∀ {M : List Mm}, MmsOk P G M → ∀ {f args s r}, findM M f args s = some r → ∃ e, MmOk P G e ∧ f = e.f ∧ args = e.args ∧ s = e.s ∧ r = (e.v, e.s')
  | [], _, f, args, s, r, h => by cases h
  | e :: l, hM, f, args, s, r, h => by
    simp only [findM] at h
    split at h
    · rename_i hh
      cases h
      obtain ⟨h1, h2, h3⟩ := hit_eq hh
      exact ⟨e, hM.1, h1, h2, h3, rfl⟩
    · exact findM_ok hM.2 h
theorem callM_ok {P : Program} {G : Nat → Bool} {M : List Mm} {T : Nat → Bool} (hm : P.follows .mixedOrders = true) (hM : MmsOk P G M) (hT : Known P T) (fuel : Nat) : ∀ n, CallOk P G (callM M T P G fuel n)
  | 0 => fun β s w f args args' v s' h _ _ => by cases h
  | n + 1 => fun β s w f args args' v s' h hr hl => by
    have ih := callM_ok (G := G) hm hM hT fuel n
    simp only [callM] at h
    split at h
    · rename_i r hf
      cases h
      obtain ⟨e, he, h1, h2, h3, h4⟩ := findM_ok hM hf
      cases h4
      subst h1 h2 h3
      exact he β w args' hr hl
    · split at h
      · rename_i hf
        split at h <;> cases h
        have ha : args' = #[] := by have := hl.1; exact Array.eq_empty_of_size_eq_zero (by simpa using this.symm)
        subst ha
        exact callD.mono' (hT f hf w) fun v' w' ⟨h1, h2⟩ => ⟨β, hr.ext h2, by rw [h1]; exact .bool true⟩
      · exact stepE_ok hm ih (draw_ok hm _ ih) fuel β s w f args args' v s' h hr hl
theorem known_none {P : Program} : Known P (fun _ => false) := fun _ h => by cases h

/-! ### A known call, in pieces: nothing of what was there ahead of it may be forgotten -/
def keepsLow : Nat → Tr Ob → Tr Ob → Bool
  | 0, _, _ => true
  | n + 1, a, m => (match Tr.get (bits n) a with
    | none => true
    | some _ => match Tr.get (bits n) m with | some _ => true | none => false) && keepsLow n a m
theorem keepsLow_get {a m : Tr Ob} : ∀ {n : Nat}, keepsLow n a m = true → ∀ b, b < n → ∀ ob, Tr.get (bits b) a = some ob → ∃ ob', Tr.get (bits b) m = some ob'
  | 0, _, b, hb, _, _ => absurd hb (Nat.not_lt_zero b)
  | n + 1, h, b, hb, ob, hob => by
    simp only [keepsLow, Bool.and_eq_true] at h
    rcases Nat.lt_or_ge b n with h' | h'
    · exact keepsLow_get h.2 b h' ob hob
    · have : b = n := Nat.le_antisymm (Nat.lt_succ_iff.1 hb) h'
      subst this
      have h1 := h.1
      rw [hob] at h1
      simp only [] at h1
      split at h1
      · exact ⟨_, by assumption⟩
      · cases h1
abbrev EvAt (G : Nat → Bool) (β0 : Beta) (s0 : St) (w0 : World) : Beta → St → World → Prop := fun β s w => Ev G β0 s0 w0 β s w
theorem walkEv {G : Nat → Bool} {β0 : Beta} {s0 : St} {w0 : World} : Walk G (EvAt G β0 s0 w0) := ⟨fun h => h.rel, fun h k => h.trans k⟩
theorem Ev.keep {G : Nat → Bool} {β0 β : Beta} {s0 s : St} {w0 w : World} (h : Ev G β0 s0 w0 β s w) {m : Tr Ob} (hs : subTr obEq s.m m = true) (hl : keepsLow s0.n s.m m = true) (hg : ∀ g, G g = true → ∃ ob, Tr.get (bits g) m = some ob) : Ev G β0 s0 w0 (keepB β m) ⟨s.n, m⟩ w := by
  have hsub := fun p => subTr_get obEq_eq (t := s.m) (u := m) p hs
  have same : ∀ b, b < s0.n → Tr.get (bits b) m = Tr.get (bits b) s.m := fun b hb => by
    rcases hsub (bits b) with h1 | h1
    · cases hsm : Tr.get (bits b) s.m with
      | none => exact h1
      | some ob =>
        obtain ⟨ob', h2⟩ := keepsLow_get hl b hb ob hsm
        rw [h2] at h1; cases h1
    · exact h1
  refine ⟨((Wk.refl h.rel).keep hs hg).rel, h.le.trans (keep_le β m), h.sz, h.out, fun b r base lim hb => h.new b r base lim (keep_live hb).1, h.sn, fun b hb hf => ?_, h.oth, fun b size d t hb hgt => ?_⟩
  · obtain ⟨h1, h2⟩ := h.abs b hb hf
    refine ⟨(same b hb).trans h1, ?_⟩
    unfold keepB
    split
    · exact h2
    · rw [h2]
  · obtain ⟨h1, h2, h3⟩ := h.ro b _ _ _ hb hgt
    have h4 := (same b hb).trans h1
    exact ⟨h4, by unfold keepB; rw [h4]; exact h2, h3⟩
section
variable {P : Program} {G : Nat → Bool} {call : FuncId → List Value → St → Option (Value × St)} {fuel : Nat} {R0 : Value → World → Prop}
def chunkL (P : Program) (G : Nat → Bool) (call : FuncId → List Value → St → Option (Value × St)) (fuel lo : Nat) (cs : List Cm) (a b : Sg) : Bool :=
  match runG P G call fuel cs a with
  | some g => subSg g b && keepsLow lo g.s.m b.s.m
  | none => false
theorem chunkL_ok {β0 : Beta} {s0 : St} {w0 : World} {lo : Nat} (hlo : s0.n = lo) (hm : P.follows .mixedOrders = true) (hc : CallOk P G call) {cs : List Cm} {a b : Sg} (hg : ∀ g, G g = true → ∃ ob, Tr.get (bits g) b.s.m = some ob) (h : chunkL P G call fuel lo cs a b = true) (hs : Stg P (EvAt G β0 s0 w0) R0 b) : Stg P (EvAt G β0 s0 w0) R0 a := by
  subst hlo
  unfold chunkL at h
  split at h <;> try (cases h; done)
  rename_i g hr
  simp only [Bool.and_eq_true] at h
  exact runG_ok walkEv hm hc hr (sub_ok (fun hw hsub => Ev.keep hw hsub h.2 hg) h.1 hs)
/-- The end of a known call. -/
def lastM (P : Program) (G : Nat → Bool) (call : FuncId → List Value → St → Option (Value × St)) (fuel lo : Nat) (cs : List Cm) (a : Sg) (v : Value) (s' : St) : Bool :=
  match runG P G call fuel cs a with
  | some ⟨[], f, none, k, env, s⟩ => match okFn P f with
    | false => false
    | true => match evKr P G call fuel (fnB P f) k .normal env s with
      | some (.exit _, _, _) => false
      | some (_, env', s2) => match resV P env' s2 (fnR P f) with
        | some vs => veqT (oneV vs) v && (Nat.beq s2.n s'.n && (subTr obEq s2.m s'.m && keepsLow lo s2.m s'.m))
        | none => false
      | none => false
  | _ => false
theorem lastM_ok {β0 : Beta} {s0 : St} {w0 : World} {lo : Nat} (hlo : s0.n = lo) (hm : P.follows .mixedOrders = true) (hc : CallOk P G call) {cs : List Cm} {a : Sg} {v : Value} {s' : St} (hg : ∀ g, G g = true → ∃ ob, Tr.get (bits g) s'.m = some ob) (h : lastM P G call fuel lo cs a v s' = true) :
    Stg P (EvAt G β0 s0 w0) (fun v' w' => ∃ β', Ev G β0 s0 w0 β' s' w' ∧ RV β' v v') a := by
  subst hlo
  unfold lastM at h
  split at h <;> try (cases h; done)
  rename_i f k env s hr
  refine runG_ok walkEv hm hc hr ?_
  intro β ρ ρs w hw he hes
  split at h <;> try (cases h; done)
  rename_i hok
  obtain ⟨fn, hf, hb, _, _, hokc, hokr, _⟩ := okFn_inv hok
  have fin : ∀ {e : Ex} {env' : En} {s2 : St} {vs : List Value}, e = .normal ∨ e = .ret → evKr P G call fuel (fnB P f) k .normal env s = some (e, env', s2) → resV P env' s2 (fnR P f) = some vs →
      (veqT (oneV vs) v && (Nat.beq s2.n s'.n && (subTr obEq s2.m s'.m && keepsLow s0.n s2.m s'.m))) = true →
      contW P (fnB P f) k (stkQ P (fun v' w' => ∃ β', Ev G β0 s0 w0 β' s' w' ∧ RV β' v v') [] ρs f) .normal (mkAct (fnN P f) ρ) w := by
    intro e env' s2 vs hex hev hres hch
    simp only [Bool.and_eq_true] at hch
    obtain ⟨h1, h2, h3, h4⟩ := hch
    refine evKr_ok hm hc hokc k (e := .normal) hev hw.rel he fun β' ρ' w' hE he' => ?_
    refine retQ_of hokr hex hres hE.rel he' fun v' hv' => ?_
    have hn := Nat.eq_of_beq_eq_true h2
    have hk := Ev.keep (hw.trans hE) h3 h4 hg
    obtain ⟨n', m'⟩ := s'
    simp only at hn hk
    rw [hn] at hk
    refine ⟨keepB β' m', hk, ?_⟩
    rw [veqT_eq h1] at hv'
    exact hv'.mono (keep_le β' m')
  split at h <;> try (cases h; done)
  rename_i e env' s2 hne hev
  split at h <;> try (cases h; done)
  rename_i vs hres
  refine fin ?_ hev hres h
  cases e with
  | normal => exact .inl rfl
  | ret => exact .inr rfl
  | exit id => exact (hne _ rfl).elim
theorem memo_ok {e : Mm} (hok : (okFn P e.f && Nat.ble e.args.length (fnN P e.f)) = true) (h : ∀ β0 w0, Stg P (EvAt G β0 e.s w0) (fun v' w' => ∃ β', Ev G β0 e.s w0 β' e.s' w' ∧ RV β' e.v v') ⟨[], e.f, none, [.c []], envOf 0 e.args .e, e.s⟩) : MmOk P G e := fun β w args' hr hl => by
  simp only [Bool.and_eq_true] at hok
  refine enter_ok hok.1 (Nat.le_of_ble_eq_true hok.2) hl fun ρ he => ?_
  exact h β w β ρ [] w (.refl hr) he trivial
end
end
end Go.Ab
