/- A run in pieces: what is still to be done, by places in a body; memory without what is no longer asked for. -/
import Derived.Test.YtddbpleocbpjdaaGreatDoorA23
set_option linter.unusedVariables false
namespace Go.Ab
noncomputable section
open Go.Vc (opVc ev mapA mapA_eq callD putE vcOps vcOps_cons opG okOps okOp okOperand mkAct Off ops_sound ev_mk okRes argEnv argEnv_getD mkAct_getD Ext)

/-! ### Places in code -/
def child : Nat → Code → Code
  | 0, .seq x _ => x
  | _ + 1, .seq _ y => y
  | 0, .cond _ x _ => x
  | _ + 1, .cond _ _ y => y
  | _, .block _ x => x
  | _, .loop x => x
  | _, _ => .skip
def subAt : List Nat → Code → Code
  | [], c => c
  | i :: p, c => child i (subAt p c)
inductive Kt where
  | c (p : List Nat)
  | again (p : List Nat) (n : Nat)
  | endB (id : Nat)
/-- A region's operations. -/
def opsAt (p : List Nat) (B : Code) : List Oper := match subAt p B with | .region _ ops false => ops.toList | _ => []
theorem okC_child {n : Nat} {i : Nat} {c : Code} (h : okC n c = true) : okC n (child i c) = true := by
  cases c <;> cases i <;> simp_all [okC, child]
theorem okC_sub {n : Nat} {B : Code} (h : okC n B = true) : ∀ p, okC n (subAt p B) = true
  | [] => h
  | i :: p => okC_child (okC_sub h p)

/-! ### What is still to be done -/
def contW (P : Program) (B : Code) : List Kt → (Exit → Act → World → Prop) → Exit → Act → World → Prop
  | [], Q => Q
  | .c p :: k, Q => Exit.then ((subAt p B).wp P (contW P B k Q)) (contW P B k Q)
  | .again p m :: k, Q => Exit.then (Code.rounds P (subAt p B) (contW P B k Q) m) (contW P B k Q)
  | .endB id :: k, Q => Exit.inBlock id (contW P B k Q)
def unwind (id : Nat) : List Kt → Option (List Kt)
  | .endB j :: k => match Nat.beq id j with | true => some k | false => unwind id k
  | _ :: k => unwind id k
  | [] => none
section
variable (P : Program) (G : Nat → Bool) (call : FuncId → List Value → St → Option (Value × St)) (fuel : Nat) (B : Code)
def stepK (K : List Kt) (env : En) (s : St) : Option (List Kt × En × St) :=
  match K with
  | .c p :: k => match subAt p B with
    | .seq _ _ => some (.c (0 :: p) :: .c (1 :: p) :: k, env, s)
    | .block id _ => some (.c (0 :: p) :: .endB id :: k, env, s)
    | .loop _ => some (.again (0 :: p) fuel :: k, env, s)
    | .cond c _ _ => match evX G env c with
      | some (.bool true) => some (.c (0 :: p) :: k, env, s)
      | some (.bool false) => some (.c (1 :: p) :: k, env, s)
      | _ => none
    | .exit id => match unwind id k with | some k' => some (k', env, s) | none => none
    | x => match evC P G call fuel x env s with
      | some (.normal, env', s') => some (k, env', s')
      | _ => none
  | .again p (n + 1) :: k => some (.c p :: .again p n :: k, env, s)
  | .endB _ :: k => some (k, env, s)
  | _ => none
def stepsK : Nat → List Kt → En → St → Option (List Kt × En × St)
  | 0, K, env, s => some (K, env, s)
  | m + 1, K, env, s => match stepK P G call fuel B K env s with
    | some (K', env', s') => stepsK m K' env' s'
    | none => none
/-- To the end. -/
def evKr : List Kt → Ex → En → St → Option (Ex × En × St)
  | [], e, env, s => some (e, env, s)
  | .c p :: k, e, env, s => match e with
    | .normal => match evC P G call fuel (subAt p B) env s with
      | some (e', env', s') => evKr k e' env' s'
      | none => none
    | e => evKr k e env s
  | .again p n :: k, e, env, s => match e with
    | .normal => match evLoop (evC P G call fuel (subAt p B)) n env s with
      | some (e', env', s') => evKr k e' env' s'
      | none => none
    | e => evKr k e env s
  | .endB id :: k, e, env, s => match e with
    | .exit j => match Nat.beq j id with | true => evKr k .normal env s | false => evKr k (.exit j) env s
    | e => evKr k e env s
end
section
variable {P : Program} {G : Nat → Bool} {call : FuncId → List Value → St → Option (Value × St)} {B : Code} {n fuel : Nat} {Q : Exit → Act → World → Prop}
theorem unwind_ok {id : Nat} : ∀ {k k' : List Kt} {a : Act} {w : World}, unwind id k = some k' → contW P B k' Q .normal a w → contW P B k Q (.exit id) a w
  | [], k', a, w, h, _ => by cases h
  | .endB j :: k, k', a, w, h, hc => by
    simp only [unwind] at h
    show Exit.inBlock j (contW P B k Q) (.exit id) a w
    split at h
    · rename_i hj
      cases h
      have := Nat.eq_of_beq_eq_true hj
      subst this
      simp only [Exit.inBlock, if_true]
      exact hc
    · rename_i hj
      have : id ≠ j := fun he => by subst he; simp at hj
      simp only [Exit.inBlock, if_neg this]
      exact unwind_ok h hc
  | .c p :: k, k', a, w, h, hc => by
    simp only [unwind] at h
    exact unwind_ok (k := k) h hc
  | .again p m :: k, k', a, w, h, hc => by
    simp only [unwind] at h
    exact unwind_ok (k := k) h hc
theorem rounds_mono' {x : Code} : ∀ (m : Nat) {Q Q' : Exit → Act → World → Prop}, (∀ e a w, Q e a w → Q' e a w) → ∀ a w, Code.rounds P x Q m a w → Code.rounds P x Q' m a w
  | 0, _, _, _, _, _, h => h
  | m + 1, Q, Q', hq, a, w, h => by
    rw [rounds_succ] at h ⊢
    refine wp_mono h fun e a w he => ?_
    cases e with
    | normal => exact rounds_mono' m hq a w he
    | _ => exact hq _ _ _ he
theorem then_same {next : Act → World → Prop} {R R' : Exit → Act → World → Prop} (hn : ∀ a w, next a w → R' .normal a w) (h : ∀ e a w, e ≠ .normal → R e a w → R' e a w) {e : Exit} {a : Act} {w : World} (ht : Exit.then next R e a w) : R' e a w := by
  cases e with
  | normal => exact hn _ _ ht
  | _ => exact h _ _ _ (by simp) ht
theorem stepK_ok (hm : P.follows .mixedOrders = true) (hc : CallOk P G call) (hok : okC n B = true) {K K' : List Kt} {env env' : En} {s s' : St} {β : Beta} {ρ : Go.Vc.Env} {w : World} (h : stepK P G call fuel B K env s = some (K', env', s')) (hr : Rel G β s w) (he : EnvR β env ρ)
    (hk : ∀ β' ρ' w', Ev G β s w β' s' w' → EnvR β' env' ρ' → contW P B K' Q .normal (mkAct n ρ') w') : contW P B K Q .normal (mkAct n ρ) w := by
  have hd := draw_ok hm call hc
  unfold stepK at h
  split at h
  · rename_i p k
    have hp := okC_sub hok p
    show (subAt p B).wp P (contW P B k Q) (mkAct n ρ) w
    split at h
    · rename_i x y hx
      cases h
      have hk' := hk β ρ w (.refl hr) he
      rw [hx]
      have e0 : subAt (0 :: p) B = x := by show child 0 (subAt p B) = x; rw [hx]; rfl
      have e1 : subAt (1 :: p) B = y := by show child 1 (subAt p B) = y; rw [hx]; rfl
      have hk2 : (subAt (0 :: p) B).wp P (contW P B (.c (1 :: p) :: k) Q) (mkAct n ρ) w := hk'
      rw [e0] at hk2
      refine wp_seq (wp_mono hk2 fun e a w hq => ?_)
      have hq' : Exit.then ((subAt (1 :: p) B).wp P (contW P B k Q)) (contW P B k Q) e a w := hq
      rw [e1] at hq'
      exact hq'
    · rename_i id x hx
      cases h
      have hk' := hk β ρ w (.refl hr) he
      rw [hx]
      have e0 : subAt (0 :: p) B = x := by show child 0 (subAt p B) = x; rw [hx]; rfl
      have hk2 : (subAt (0 :: p) B).wp P (contW P B (.endB id :: k) Q) (mkAct n ρ) w := hk'
      rw [e0] at hk2
      exact wp_block hk2
    · rename_i x hx
      cases h
      have hk' := hk β ρ w (.refl hr) he
      rw [hx]
      have e0 : subAt (0 :: p) B = x := by show child 0 (subAt p B) = x; rw [hx]; rfl
      have hk2 : Code.rounds P (subAt (0 :: p) B) (contW P B k Q) fuel (mkAct n ρ) w := hk'
      rw [e0] at hk2
      exact wp_loop_rounds fuel hk2
    · rename_i c x y hx
      rw [hx] at hp
      simp only [okC, Bool.and_eq_true] at hp
      have e0 : subAt (0 :: p) B = x := by show child 0 (subAt p B) = x; rw [hx]; rfl
      have e1 : subAt (1 :: p) B = y := by show child 1 (subAt p B) = y; rw [hx]; rfl
      rw [hx]
      split at h <;> try (cases h; done)
      · rename_i hcv
        cases h
        have hk2 : (subAt (0 :: p) B).wp P (contW P B k Q) (mkAct n ρ) w := hk β ρ w (.refl hr) he
        rw [e0] at hk2
        exact wp_cond (t := true) (by rw [ev_mk hp.1.1]; exact RV.bool_inv (evX_ok hcv he hr.glob)) hk2
      · rename_i hcv
        cases h
        have hk2 : (subAt (1 :: p) B).wp P (contW P B k Q) (mkAct n ρ) w := hk β ρ w (.refl hr) he
        rw [e1] at hk2
        exact wp_cond (t := false) (by rw [ev_mk hp.1.1]; exact RV.bool_inv (evX_ok hcv he hr.glob)) hk2
    · rename_i id hx
      split at h <;> cases h
      rename_i hu
      rw [hx]
      exact wp_exit (unwind_ok hu (hk β ρ w (.refl hr) he))
    · split at h <;> cases h
      rename_i hx
      refine wp_mono (evC_ok hm hc hd _ hp hx hr he) ?_
      rintro x' a w' ⟨rfl, ρ', β', rfl, hE, he'⟩
      exact hk β' ρ' w' hE he'
  · rename_i p m k
    cases h
    show Code.rounds P (subAt p B) (contW P B k Q) (m + 1) (mkAct n ρ) w
    rw [rounds_succ]
    exact hk β ρ w (.refl hr) he
  · rename_i id k
    cases h
    exact hk β ρ w (.refl hr) he
  · cases h
theorem stepsK_ok (hm : P.follows .mixedOrders = true) (hc : CallOk P G call) (hok : okC n B = true) : ∀ (m : Nat) {K K' : List Kt} {env env' : En} {s s' : St} {β : Beta} {ρ : Go.Vc.Env} {w : World}, stepsK P G call fuel B m K env s = some (K', env', s') → Rel G β s w → EnvR β env ρ →
    (∀ β' ρ' w', Ev G β s w β' s' w' → EnvR β' env' ρ' → contW P B K' Q .normal (mkAct n ρ') w') → contW P B K Q .normal (mkAct n ρ) w
  | 0, K, K', env, env', s, s', β, ρ, w, h, hr, he, hk => by
    simp only [stepsK, Option.some.injEq, Prod.mk.injEq] at h
    obtain ⟨rfl, rfl, rfl⟩ := h
    exact hk β ρ w (.refl hr) he
  | m + 1, K, K', env, env', s, s', β, ρ, w, h, hr, he, hk => by
    simp only [stepsK] at h
    split at h <;> try (cases h; done)
    rename_i K1 env1 s1 h1
    refine stepK_ok hm hc hok h1 hr he fun β1 ρ1 w1 hE he1 => ?_
    exact stepsK_ok hm hc hok m h hE.rel he1 fun β2 ρ2 w2 hE2 he2 => hk β2 ρ2 w2 (hE.trans hE2) he2
theorem contW_ne {p : List Nat} {k : List Kt} {e : Exit} {a : Act} {w : World} (hne : e ≠ .normal) (h : contW P B k Q e a w) : contW P B (.c p :: k) Q e a w := by
  show Exit.then _ (contW P B k Q) e a w
  cases e with
  | normal => exact absurd rfl hne
  | _ => exact h
theorem contW_ne2 {p : List Nat} {m : Nat} {k : List Kt} {e : Exit} {a : Act} {w : World} (hne : e ≠ .normal) (h : contW P B k Q e a w) : contW P B (.again p m :: k) Q e a w := by
  show Exit.then _ (contW P B k Q) e a w
  cases e with
  | normal => exact absurd rfl hne
  | _ => exact h
theorem evKr_ok (hm : P.follows .mixedOrders = true) (hc : CallOk P G call) (hok : okC n B = true) : ∀ (K : List Kt) {e e' : Ex} {env env' : En} {s s' : St} {β : Beta} {ρ : Go.Vc.Env} {w : World}, evKr P G call fuel B K e env s = some (e', env', s') → Rel G β s w → EnvR β env ρ →
    (∀ β' ρ' w', Ev G β s w β' s' w' → EnvR β' env' ρ' → Q (toExit e') (mkAct n ρ') w') → contW P B K Q (toExit e) (mkAct n ρ) w
  | [], e, e', env, env', s, s', β, ρ, w, h, hr, he, hk => by
    simp only [evKr, Option.some.injEq, Prod.mk.injEq] at h
    obtain ⟨rfl, rfl, rfl⟩ := h
    exact hk β ρ w (.refl hr) he
  | .c p :: k, e, e', env, env', s, s', β, ρ, w, h, hr, he, hk => by
    simp only [evKr] at h
    split at h
    · split at h <;> try (cases h; done)
      rename_i e1 env1 s1 h1
      show (subAt p B).wp P (contW P B k Q) (mkAct n ρ) w
      refine wp_mono (evC_ok hm hc (draw_ok hm call hc) _ (okC_sub hok p) h1 hr he) ?_
      rintro x' a w' ⟨rfl, ρ', β', rfl, hE, he'⟩
      exact evKr_ok hm hc hok k h hE.rel he' fun β2 ρ2 w2 hE2 he2 => hk β2 ρ2 w2 (hE.trans hE2) he2
    · rename_i hne
      exact contW_ne (by cases e <;> simp_all [toExit]) (evKr_ok hm hc hok k h hr he hk)
  | .again p m :: k, e, e', env, env', s, s', β, ρ, w, h, hr, he, hk => by
    simp only [evKr] at h
    split at h
    · split at h <;> try (cases h; done)
      rename_i e1 env1 s1 h1
      show Code.rounds P (subAt p B) (contW P B k Q) m (mkAct n ρ) w
      refine rounds_mono' m ?_ _ _ (evLoop_ok (n := n) (x := subAt p B) (fun env s e env' s' β ρ w h hr he => evC_ok hm hc (draw_ok hm call hc) _ (okC_sub hok p) h hr he) m h1 hr he)
      rintro x' a w' ⟨rfl, ρ', β', rfl, hE, he'⟩
      exact evKr_ok hm hc hok k h hE.rel he' fun β2 ρ2 w2 hE2 he2 => hk β2 ρ2 w2 (hE.trans hE2) he2
    · rename_i hne
      exact contW_ne2 (by cases e <;> simp_all [toExit]) (evKr_ok hm hc hok k h hr he hk)
  | .endB id :: k, e, e', env, env', s, s', β, ρ, w, h, hr, he, hk => by
    simp only [evKr] at h
    show Exit.inBlock id (contW P B k Q) (toExit e) (mkAct n ρ) w
    split at h
    · rename_i j
      show if j = id then contW P B k Q .normal (mkAct n ρ) w else contW P B k Q (.exit j) (mkAct n ρ) w
      split at h
      · rename_i hj
        rw [if_pos (Nat.eq_of_beq_eq_true hj)]
        exact evKr_ok hm hc hok k (e := .normal) h hr he hk
      · rename_i hj
        have : j ≠ id := fun he' => by subst he'; simp at hj
        rw [if_neg this]
        exact evKr_ok hm hc hok k (e := .exit j) h hr he hk
    · rename_i hne
      have := evKr_ok hm hc hok k h hr he hk
      cases e with
      | normal => exact this
      | ret => exact this
      | exit j => exact absurd rfl (hne j)
end

/-! ### Memory without what is no longer asked for -/
def eqTr {α : Type} (r : α → α → Bool) : Tr α → Tr α → Bool
  | .e, .e => true
  | .n l v t, .n l' v' t' => eqTr r l l' && (eqTr r t t' && (match v with
    | none => (match v' with | none => true | some _ => false)
    | some x => (match v' with | some y => r x y | none => false)))
  | _, _ => false
theorem eqTr_eq {α : Type} {r : α → α → Bool} (hr : ∀ a b, r a b = true → a = b) : ∀ {t u : Tr α}, eqTr r t u = true → t = u
  | .e, .e, _ => rfl
  | .n l v t, .n l' v' t', h => by
    simp only [eqTr, Bool.and_eq_true] at h
    obtain ⟨h1, h2, h3⟩ := h
    rw [eqTr_eq hr h1, eqTr_eq hr h2]
    cases v with
    | none => cases v' with
      | none => rfl
      | some _ => cases h3
    | some x => cases v' with
      | none => cases h3
      | some y => rw [hr x y h3]
  | .e, .n _ _ _, h => by cases h
  | .n _ _ _, .e, h => by cases h
def obEq : Ob → Ob → Bool
  | .cells n d t, .cells n' d' t' => Nat.beq n n' && (veq 30 d d' && eqTr (veq 30) t t')
  | .iter s p, .iter s' p' => eqBs (strL s) (strL s') && Nat.beq p p'
  | .ro n d t, .ro n' d' t' => Nat.beq n n' && (veq 30 d d' && eqTr (veq 30) t t')
  | _, _ => false
theorem obEq_eq : ∀ a b : Ob, obEq a b = true → a = b := fun a b h => by
  unfold obEq at h
  split at h
  · simp only [Bool.and_eq_true] at h
    rw [Nat.eq_of_beq_eq_true h.1, veq_eq h.2.1, eqTr_eq (fun a b => veq_eq) h.2.2]
  · simp only [Bool.and_eq_true] at h
    rw [Nat.eq_of_beq_eq_true h.2]
    have := h.1
    rw [eqBs_eq] at this
    rw [Go.WideShapes.bytes_inj (beq_iff_eq.1 this)]
  · simp only [Bool.and_eq_true] at h
    rw [Nat.eq_of_beq_eq_true h.1, veq_eq h.2.1, eqTr_eq (fun a b => veq_eq) h.2.2]
  · cases h
/-- The second one is part of the first. -/
def subTr {α : Type} (r : α → α → Bool) : Tr α → Tr α → Bool
  | _, .e => true
  | .n l v t, .n l' v' t' => subTr r l l' && (subTr r t t' && (match v' with
    | none => true
    | some y => (match v with | some x => r x y | none => false)))
  | .e, .n _ _ _ => false
theorem subTr_get {α : Type} {r : α → α → Bool} (hr : ∀ a b, r a b = true → a = b) : ∀ {t u : Tr α} (p : List Bool), subTr r t u = true → Tr.get p u = none ∨ Tr.get p u = Tr.get p t
  | _, .e, p, _ => .inl (Tr.get_e p)
  | .n l v t, .n l' v' t', p, h => by
    simp only [subTr, Bool.and_eq_true] at h
    obtain ⟨h1, h2, h3⟩ := h
    match p with
    | [] =>
      show v' = none ∨ v' = v
      cases v' with
      | none => exact .inl rfl
      | some y => cases v with
        | none => cases h3
        | some x => exact .inr (by rw [hr x y h3])
    | true :: q => exact subTr_get hr q h2
    | false :: q => exact subTr_get hr q h1
  | .e, .n _ _ _, p, h => by cases h

/-- From one world to another one; blocks may be forgotten. -/
structure Wk (G : Nat → Bool) (β : Beta) (s : St) (w : World) (β' : Beta) (s' : St) (w' : World) : Prop where
  rel : Rel G β' s' w'
  sz : w.heap.size ≤ w'.heap.size
  out : ∀ r, r < w.heap.size → (∀ b base lim, β b ≠ .live r base lim) → w'.heap[r]? = w.heap[r]?
  new : ∀ b r base lim, β' b = .live r base lim → (∃ b0 base0 lim0, β b0 = .live r base0 lim0) ∨ w.heap.size ≤ r
  oth : Oth w w'
  ro : ∀ b size d t, G b = true → Tr.get (bits b) s.m = some (.ro size d t) → Tr.get (bits b) s'.m = some (.ro size d t) ∧ β' b = β b ∧ ∀ r base lim, β b = .live r base lim → w'.heap[r]? = w.heap[r]?
theorem Wk.refl {G : Nat → Bool} {β : Beta} {s : St} {w : World} (h : Rel G β s w) : Wk G β s w β s w :=
  ⟨h, Nat.le_refl _, fun _ _ _ => rfl, fun _ _ _ _ hb => .inl ⟨_, _, _, hb⟩, .refl w, fun _ _ _ _ _ h => ⟨h, rfl, fun _ _ _ _ => rfl⟩⟩
theorem Wk.step {G : Nat → Bool} {β0 β1 β2 : Beta} {s0 s1 s2 : St} {w0 w1 w2 : World} (h : Wk G β0 s0 w0 β1 s1 w1) (k : Ev G β1 s1 w1 β2 s2 w2) : Wk G β0 s0 w0 β2 s2 w2 := by
  refine ⟨k.rel, Nat.le_trans h.sz k.sz, fun r hr hn => ?_, fun b r base lim hb => ?_, h.oth.trans k.oth, fun b size d t hG hg => ?_⟩
  · refine (k.out r (Nat.lt_of_lt_of_le hr h.sz) fun b base lim hb => ?_).trans (h.out r hr hn)
    rcases h.new b r base lim hb with ⟨b0, base0, lim0, h0⟩ | h0
    · exact hn _ _ _ h0
    · omega
  · rcases k.new b r base lim hb with ⟨b0, base0, lim0, h0⟩ | h0
    · exact h.new _ _ _ _ h0
    · exact .inr (Nat.le_trans h.sz h0)
  · obtain ⟨h1, h2, h3⟩ := h.ro b _ _ _ hG hg
    obtain ⟨k1, k2, k3⟩ := k.ro b _ _ _ (h.rel.gn b hG) h1
    exact ⟨k1, k2.trans h2, fun r base lim hl => (k3 r base lim (h2.trans hl)).trans (h3 r base lim hl)⟩
/-- A temp may hold several results. -/
def veqT (a b : Value) : Bool := match a with
  | .tuple ⟨x⟩ => (match b with | .tuple ⟨y⟩ => veq.veqL (veq 30) x y | _ => false)
  | _ => veq 30 a b
theorem veqT_eq {a b : Value} (h : veqT a b = true) : a = b := by
  unfold veqT at h
  split at h
  · split at h <;> try (cases h; done)
    rw [veqL_eq (fun a b => veq_eq) h]
  · exact veq_eq h
/-- What is known of blocks that are kept. -/
def keepB (β : Beta) (m : Tr Ob) : Beta := fun b => match Tr.get (bits b) m with
  | some _ => β b
  | none => match β b with | .fresh => .fresh | _ => .dead
theorem keep_le (β : Beta) (m : Tr Ob) : Le β (keepB β m) := fun b => by
  unfold keepB
  split
  · exact .inr (.inl rfl)
  · cases h : β b with
    | fresh => exact .inl rfl
    | live r base lim => exact .inr (.inr ⟨rfl, by simp⟩)
    | dead => exact .inr (.inr ⟨rfl, by simp⟩)
theorem keep_live {β : Beta} {m : Tr Ob} {b r base lim : Nat} (h : keepB β m b = .live r base lim) : β b = .live r base lim ∧ ∃ ob, Tr.get (bits b) m = some ob := by
  unfold keepB at h
  split at h
  · rename_i ob hg; exact ⟨h, ob, hg⟩
  · split at h <;> cases h
theorem Wk.keep {G : Nat → Bool} {β0 β : Beta} {s0 s : St} {w0 w : World} (h : Wk G β0 s0 w0 β s w) {m : Tr Ob} (hs : subTr obEq s.m m = true) (hg : ∀ g, G g = true → ∃ ob, Tr.get (bits g) m = some ob) : Wk G β0 s0 w0 (keepB β m) ⟨s.n, m⟩ w := by
  have hsub := fun p => subTr_get obEq_eq (t := s.m) (u := m) p hs
  have same : ∀ b ob, Tr.get (bits b) m = some ob → Tr.get (bits b) s.m = some ob := fun b ob hb => by
    rcases hsub (bits b) with h1 | h1
    · rw [hb] at h1; cases h1
    · rw [← h1]; exact hb
  refine ⟨⟨fun b hb => ?_, fun b r base lim hb => ?_, fun b b' r base lim base' lim' hb hb' => ?_, fun g hG => ?_, h.rel.gn, fun b hb => ?_⟩, h.sz, h.out, fun b r base lim hb => h.new b r base lim (keep_live hb).1, h.oth, fun b size d t hG hgt => ?_⟩
  · have := h.rel.n b hb
    unfold keepB
    split
    · exact this
    · rw [this]
  · obtain ⟨h1, ob, h2⟩ := keep_live hb
    obtain ⟨ob', h3, h4⟩ := h.rel.live b r base lim h1
    rw [same b ob h2] at h3; cases h3
    exact ⟨ob, h2, h4.mono (keep_le β m) rfl⟩
  · exact h.rel.inj b b' r base lim base' lim' (keep_live hb).1 (keep_live hb').1
  · obtain ⟨lim, hl⟩ := h.rel.glob g hG
    obtain ⟨ob, hob⟩ := hg g hG
    exact ⟨lim, by unfold keepB; rw [hob]; exact hl⟩
  · cases hm : Tr.get (bits b) m with
    | none => exact hm ▸ rfl
    | some ob =>
      exfalso
      have hb2 : β b = .dead := by
        unfold keepB at hb; rw [hm] at hb; exact hb
      have := h.rel.dead b hb2
      rw [same b ob hm] at this; cases this
  · obtain ⟨h1, h2, h3⟩ := h.ro b _ _ _ hG hgt
    obtain ⟨ob, hob⟩ := hg b hG
    have h4 := same b ob hob
    rw [h1] at h4; cases h4
    exact ⟨hob, by unfold keepB; rw [hob]; exact h2, h3⟩
def eqP : List Nat → List Nat → Bool
  | [], [] => true
  | a :: p, b :: q => Nat.beq a b && eqP p q
  | _, _ => false
theorem eqP_eq : ∀ {p q : List Nat}, eqP p q = true → p = q
  | [], [], _ => rfl
  | a :: p, b :: q, h => by
    simp only [eqP, Bool.and_eq_true] at h
    rw [Nat.eq_of_beq_eq_true h.1, eqP_eq h.2]
  | [], _ :: _, h => by cases h
  | _ :: _, [], h => by cases h
def eqKt : Kt → Kt → Bool
  | .c p, x => (match x with | .c q => eqP p q | _ => false)
  | .again p m, x => (match x with | .again q m' => eqP p q && Nat.beq m m' | _ => false)
  | .endB i, x => (match x with | .endB j => Nat.beq i j | _ => false)
theorem eqKt_eq : ∀ {x y : Kt}, eqKt x y = true → x = y := fun {x y} h => by
  cases x <;> cases y <;> simp only [eqKt, Bool.and_eq_true, Bool.false_eq_true] at h
  · rw [eqP_eq h]
  · rw [eqP_eq h.1, Nat.eq_of_beq_eq_true h.2]
  · rw [Nat.eq_of_beq_eq_true h]
def eqK : List Kt → List Kt → Bool
  | [], [] => true
  | x :: k, y :: l => eqKt x y && eqK k l
  | _, _ => false
theorem eqK_eq : ∀ {k l : List Kt}, eqK k l = true → k = l
  | [], [], _ => rfl
  | x :: k, y :: l, h => by
    simp only [eqK, Bool.and_eq_true] at h
    rw [eqKt_eq h.1, eqK_eq h.2]
  | [], _ :: _, h => by cases h
  | _ :: _, [], h => by cases h

/-! ### Pieces -/
/-- A function that waits for what operation j of a region calls. -/
structure Fr where
  f : FuncId
  p : List Nat
  j : Nat
  k : List Kt
  env : En
structure Sg where
  st : List Fr
  f : FuncId
  /-- the region that is being done, and how far -/
  at_ : Option (List Nat × Nat)
  k : List Kt
  env : En
  s : St
def fnB (P : Program) (f : FuncId) : Code := match P.funcs[f]? with | some fn => (match fn.body with | some c => c | none => .skip) | none => .skip
def fnN (P : Program) (f : FuncId) : Nat := match P.funcs[f]? with | some fn => fn.ntmps | none => 0
def fnR (P : Program) (f : FuncId) : List ResultVar := match P.funcs[f]? with | some fn => fn.results.toList | none => []
/-- A function that may be walked. -/
def okFn (P : Program) (f : FuncId) : Bool :=
  match P.funcs[f]? with
  | some fn => match fn.body with
    | some c => okC fn.ntmps c && (okRes fn.ntmps fn.results.toList && notB (fn.name == "runtime.NumGoroutine"))
    | none => false
  | none => false
theorem okFn_inv {P : Program} {f : FuncId} (h : okFn P f = true) : ∃ fn, P.funcs[f]? = some fn ∧ fn.body = some (fnB P f) ∧ fnN P f = fn.ntmps ∧ fnR P f = fn.results.toList ∧ okC (fnN P f) (fnB P f) = true ∧ okRes (fnN P f) (fnR P f) = true ∧ ¬ fn.name = "runtime.NumGoroutine" := by
  unfold okFn at h
  split at h <;> try (cases h; done)
  rename_i fn hf
  split at h <;> try (cases h; done)
  rename_i c hb
  simp only [Bool.and_eq_true] at h
  have e1 : fnB P f = c := by unfold fnB; rw [hf]; simp only []; rw [hb]
  have e2 : fnN P f = fn.ntmps := by unfold fnN; rw [hf]
  have e3 : fnR P f = fn.results.toList := by unfold fnR; rw [hf]
  refine ⟨fn, hf, by rw [e1]; exact hb, e2, e3, by rw [e1, e2]; exact h.1, by rw [e2, e3]; exact h.2.1, ?_⟩
  have := h.2.2
  rw [notB_eq] at this
  simpa using this
/-- The end of a function: its results. -/
def retQ (P : Program) (f : FuncId) (R : Value → World → Prop) : Exit → Act → World → Prop
  | .normal, a, w | .ret, a, w => a.defers = [] ∧ ∃ v, (do
      let vs ← (fnR P f).mapM fun | .tmp t => pure (a.tmps.getD t undef) | .cell b t => do loadVar t (← asAddr (a.tmps.getD b undef))
      pure (Go.Vc.one vs) : Sem Value).run P w = .ok v w ∧ R v w
  | _, _, _ => False
def slotJ (P : Program) (fr : Fr) : Option Tmp := match (opsAt fr.p (fnB P fr.f))[fr.j]? with | some o => o.dst | none => none
def stkQ (P : Program) (R0 : Value → World → Prop) : List Fr → List Go.Vc.Env → FuncId → Exit → Act → World → Prop
  | [], _, f => retQ P f R0
  | fr :: st, ρ :: ρs, f => retQ P f fun v w' => vcOps P (opsAt fr.p (fnB P fr.f)) ((opsAt fr.p (fnB P fr.f)).drop (fr.j + 1)) (putE ρ (slotJ P fr) v) w' fun ρ' w'' =>
      contW P (fnB P fr.f) fr.k (stkQ P R0 st ρs fr.f) .normal (mkAct (fnN P fr.f) ρ') w''
  | _ :: _, [], _ => fun _ _ _ => False
def EnvRs (β : Beta) : List Fr → List Go.Vc.Env → Prop
  | [], [] => True
  | fr :: st, ρ :: ρs => EnvR β fr.env ρ ∧ EnvRs β st ρs
  | _, _ => False
theorem EnvRs.mono {β β' : Beta} (hle : Le β β') : ∀ {st : List Fr} {ρs : List Go.Vc.Env}, EnvRs β st ρs → EnvRs β' st ρs
  | [], [], _ => trivial
  | _ :: _, _ :: _, h => ⟨h.1.mono hle, EnvRs.mono hle h.2⟩
/-- From here on all goes well. -/
def Stg (P : Program) (W : Beta → St → World → Prop) (R0 : Value → World → Prop) (g : Sg) : Prop :=
  ∀ β ρ ρs w, W β g.s w → EnvR β g.env ρ → EnvRs β g.st ρs →
    match g.at_ with
    | none => contW P (fnB P g.f) g.k (stkQ P R0 g.st ρs g.f) .normal (mkAct (fnN P g.f) ρ) w
    | some (p, j) => vcOps P (opsAt p (fnB P g.f)) ((opsAt p (fnB P g.f)).drop j) ρ w fun ρ' w' => contW P (fnB P g.f) g.k (stkQ P R0 g.st ρs g.f) .normal (mkAct (fnN P g.f) ρ') w'
/-- How the world that is reached stands to the first one. -/
structure Walk (G : Nat → Bool) (W : Beta → St → World → Prop) : Prop where
  rel : ∀ {β s w}, W β s w → Rel G β s w
  step : ∀ {β s w β' s' w'}, W β s w → Ev G β s w β' s' w' → W β' s' w'
inductive Cm where
  | go (m : Nat)
  | openR
  | op (m : Nat)
  | close
  | enter
  | ret
section
variable (P : Program) (G : Nat → Bool) (call : FuncId → List Value → St → Option (Value × St)) (fuel : Nat)
def opsM (all : List Oper) : Nat → Nat → En → St → Option (Nat × En × St)
  | 0, j, env, s => some (j, env, s)
  | m + 1, j, env, s => match all[j]? with
    | none => none
    | some o => match evG P G call all env o s with
      | some (v, s') => opsM all m (j + 1) (putEn env o.dst v) s'
      | none => none
def stepG (c : Cm) (g : Sg) : Option Sg :=
  match g with
  | ⟨st, f, none, k, env, s⟩ => match okFn P f with
    | false => none
    | true => match c with
      | .go m => match stepsK P G call fuel (fnB P f) m k env s with
        | some (k', env', s') => some ⟨st, f, none, k', env', s'⟩
        | none => none
      | .openR => match k with
        | .c p :: k' => match subAt p (fnB P f) with
          | .region _ _ false => some ⟨st, f, some (p, 0), k', env, s⟩
          | _ => none
        | _ => none
      | .ret => match st with
        | [] => none
        | fr :: st' => match evKr P G call fuel (fnB P f) k .normal env s with
          | some (.exit _, _, _) => none
          | some (_, env', s') => match resV P env' s' (fnR P f) with
            | some vs => some ⟨st', fr.f, some (fr.p, fr.j + 1), fr.k, putEn fr.env (slotJ P fr) (oneV vs), s'⟩
            | none => none
          | none => none
      | _ => none
  | ⟨st, f, some (p, j), k, env, s⟩ => match c with
    | .op m => match opsM P G call (opsAt p (fnB P f)) m j env s with
      | some (j', env', s') => some ⟨st, f, some (p, j'), k, env', s'⟩
      | none => none
    | .close => match Nat.ble (opsAt p (fnB P f)).length j with
      | true => some ⟨st, f, none, k, env, s⟩
      | false => none
    | .enter => match (opsAt p (fnB P f))[j]? with
      | some o => match wantV (opsAt p (fnB P f)) env o.guard with
        | some true => match o.op with
          | .call ⟨.value (.func h), args, _⟩ => match evXs G env args.toList with
            | some l => match okFn P h && Nat.ble l.length (fnN P h) with
              | true => some ⟨⟨f, p, j, k, env⟩ :: st, h, none, [.c []], envOf 0 l .e, s⟩
              | false => none
            | none => none
          | _ => none
        | _ => none
      | none => none
    | _ => none
def runG : List Cm → Sg → Option Sg
  | [], g => some g
  | c :: cs, g => match stepG P G call fuel c g with
    | some g' => runG cs g'
    | none => none
end
section
variable {P : Program} {G : Nat → Bool} {call : FuncId → List Value → St → Option (Value × St)} {fuel : Nat} {R0 : Value → World → Prop} {W : Beta → St → World → Prop}
theorem opsM_ok (hc : CallOk P G call) {all : List Oper} : ∀ {m j j' : Nat} {env env' : En} {s s' : St} {β : Beta} {ρ : Go.Vc.Env} {w : World} {K : Go.Vc.Env → World → Prop}, opsM P G call all m j env s = some (j', env', s') → Rel G β s w → EnvR β env ρ →
    (∀ ρ' w' β', Ev G β s w β' s' w' → EnvR β' env' ρ' → vcOps P all (all.drop j') ρ' w' K) → vcOps P all (all.drop j) ρ w K
  | 0, j, j', env, env', s, s', β, ρ, w, K, h, hr, he, hk => by
    simp only [opsM, Option.some.injEq, Prod.mk.injEq] at h
    obtain ⟨rfl, rfl, rfl⟩ := h
    exact hk _ _ β (.refl hr) he
  | m + 1, j, j', env, env', s, s', β, ρ, w, K, h, hr, he, hk => by
    simp only [opsM] at h
    split at h <;> try (cases h; done)
    rename_i o ho
    split at h <;> try (cases h; done)
    rename_i v s1 hv
    have hj : j < all.length := (List.getElem?_eq_some_iff.1 ho).1
    have hd : all.drop j = o :: all.drop (j + 1) := by
      rw [List.drop_eq_getElem_cons hj]
      congr 1
      exact (List.getElem?_eq_some_iff.1 ho).2
    rw [hd, vcOps_cons]
    exact evG_ok hc hv hr he fun v' w' β' hev hrv => opsM_ok hc h hev.rel ((he.mono hev.le).put hrv) fun ρ' w2 β2 hev2 he2 => hk _ _ β2 (hev.trans hev2) he2
theorem retQ_body {f : FuncId} {fn : Func} (hf : P.funcs[f]? = some fn) {R : Value → World → Prop} {e : Exit} {a : Act} {w : World} (h : retQ P f R e a w) : bodyPost P fn (fun e w' => ∃ v, e = .returned v ∧ R v w') e a w := by
  have e3 : fnR P f = fn.results.toList := by unfold fnR; rw [hf]
  have key : ∀ {a : Act} {w : World}, (a.defers = [] ∧ ∃ v, (do
      let vs ← (fnR P f).mapM fun | .tmp t => pure (a.tmps.getD t undef) | .cell b t => do loadVar t (← asAddr (a.tmps.getD b undef))
      pure (Go.Vc.one vs) : Sem Value).run P w = .ok v w ∧ R v w) → a.defers = [] ∧ ∃ v, (results fn a.tmps).run P w = .ok v w ∧ ∃ u, Ending.returned v = .returned u ∧ R u w := by
    rintro a w ⟨h1, v, h2, h3⟩
    refine ⟨h1, v, ?_, v, rfl, h3⟩
    rw [e3] at h2
    unfold results
    simp only [Sem.run_bind, Array.mapM_eq_mapM_toList, Sem.run_map, Sem.run_pure] at h2 ⊢
    generalize hg : (List.mapM (m := Sem) _ fn.results.toList).run P w = r at h2
    cases r with
    | ok vs w1 =>
      simp only [Result.andThen_ok] at h2 ⊢
      rw [← h2]
      match vs with
      | [] => rfl
      | [v] => rfl
      | _ :: _ :: _ => simp [Go.Vc.one]
    | _ => simp [Result.andThen] at h2
  cases e with
  | normal => exact key h
  | ret => exact key h
  | _ => exact h.elim
theorem retQ_of {f : FuncId} {R : Value → World → Prop} {e : Ex} {env : En} {s : St} {vs : List Value} {β : Beta} {ρ : Go.Vc.Env} {w : World} (hok : okRes (fnN P f) (fnR P f) = true) (hex : e = .normal ∨ e = .ret) (hres : resV P env s (fnR P f) = some vs) (hr : Rel G β s w) (he : EnvR β env ρ)
    (hk : ∀ v', RV β (oneV vs) v' → R v' w) : retQ P f R (toExit e) (mkAct (fnN P f) ρ) w := by
  obtain ⟨vs', h1, h2⟩ := resV_ok (P := P) (n := fnN P f) hr he hok hres
  have key : (mkAct (fnN P f) ρ).defers = [] ∧ ∃ v, (do
      let vs ← (fnR P f).mapM fun | .tmp t => pure ((mkAct (fnN P f) ρ).tmps.getD t undef) | .cell b t => do loadVar t (← asAddr ((mkAct (fnN P f) ρ).tmps.getD b undef))
      pure (Go.Vc.one vs) : Sem Value).run P w = .ok v w ∧ R v w := by
    refine ⟨rfl, Go.Vc.one vs', ?_, hk _ (oneV_rv h2)⟩
    simp only [Sem.run_bind]
    erw [h1]
    simp only [Result.andThen_ok, Sem.run_pure]
  rcases hex with rfl | rfl
  · exact key
  · exact key
theorem enter_ok {f : FuncId} {l : List Value} {args : Array Value} {β : Beta} {w : World} {R : Value → World → Prop} (hok : okFn P f = true) (hlen : l.length ≤ fnN P f) (hl : RL β l args.toList)
    (h : ∀ ρ, EnvR β (envOf 0 l .e) ρ → contW P (fnB P f) [.c []] (retQ P f R) .normal (mkAct (fnN P f) ρ) w) : callD P f args w R := by
  obtain ⟨fn, hf, hb, h1, h2, _, _, hn⟩ := okFn_inv hok
  have henter : ∀ (args : Array Value) w, (callFunc f args).run P w = .ok (.enter f args) w := fun args w => by simp [callFunc, program, Sem.run, hf, hn, hb]
  refine ⟨⟨henter, ?_⟩⟩
  refine calls_of_wp hf hb ?_
  have hsz : args.size = l.length := by have := hl.1; simpa using this.symm
  have hact : ({ tmps := args ++ Array.replicate (fn.ntmps - args.size) undef, defers := [] } : Act) = mkAct fn.ntmps (argEnv args.toList) := by
    simp only [mkAct]
    congr 1
    apply Array.ext
    · simp; omega
    · intro i h1 h2
      simp [argEnv_getD, Array.getElem_append]
      split
      · rename_i hi; simp [hi]
      · rename_i hi; simp [Array.getElem?_eq_none (by omega : args.size ≤ i)]
  have henv : EnvR β (envOf 0 l .e) (argEnv args.toList) := envOf_ok hl (fun t v hv => by rw [Tr.get_e] at hv; cases hv) (fun j v _ hv => by rw [Tr.get_e] at hv; cases hv) (fun j => by rw [Nat.zero_add, argEnv_getD])
  rw [hact, ← h1]
  have h3 : (fnB P f).wp P (retQ P f R) (mkAct (fnN P f) (argEnv args.toList)) w := h _ henv
  exact wp_mono h3 fun e a w' hq => retQ_body hf hq
theorem drop_at {all : List Oper} {j : Nat} {o : Oper} (ho : all[j]? = some o) : all.drop j = o :: all.drop (j + 1) := by
  have hj : j < all.length := (List.getElem?_eq_some_iff.1 ho).1
  rw [List.drop_eq_getElem_cons hj]
  congr 1
  exact (List.getElem?_eq_some_iff.1 ho).2
theorem stepG_ok (hW : Walk G W) (hm : P.follows .mixedOrders = true) (hc : CallOk P G call) {c : Cm} {g g' : Sg} (h : stepG P G call fuel c g = some g') (hs : Stg P W R0 g') : Stg P W R0 g := by
  intro β ρ ρs w hw he hes
  obtain ⟨st, f, at_, k, env, s⟩ := g
  cases at_ with
  | none =>
    show contW P (fnB P f) k (stkQ P R0 st ρs f) .normal (mkAct (fnN P f) ρ) w
    simp only [stepG] at h
    split at h <;> try (cases h; done)
    rename_i hok
    obtain ⟨fn, hf, hb, _, _, hokc, hokr, _⟩ := okFn_inv hok
    cases c with
    | go m =>
      simp only [] at h
      split at h <;> cases h
      rename_i k' env' s' hst
      exact stepsK_ok hm hc hokc m hst (hW.rel hw) he fun β' ρ' w' hE he' => hs β' ρ' ρs w' (hW.step hw hE) he' (hes.mono hE.le)
    | openR =>
      simp only [] at h
      split at h <;> try (cases h; done)
      rename_i p k'
      split at h <;> cases h
      rename_i id ops hx
      have hp := okC_sub hokc p
      rw [hx] at hp
      simp only [okC] at hp
      have hv : vcOps P (opsAt p (fnB P f)) ((opsAt p (fnB P f)).drop 0) ρ w fun ρ' w' => contW P (fnB P f) k' (stkQ P R0 st ρs f) .normal (mkAct (fnN P f) ρ') w' := hs β ρ ρs w hw he hes
      have ho : opsAt p (fnB P f) = ops.toList := by unfold opsAt; rw [hx]
      rw [ho, List.drop_zero] at hv
      show (subAt p (fnB P f)).wp P _ _ w
      rw [hx]
      refine wp_region ?_
      have := ops_sound (P := P) (Q := contW P (fnB P f) k' (stkQ P R0 st ρs f)) hp ρ (fun ρ' w' hq _ => hq) ops.toList 0 ρ w rfl hv (Off.refl _ _)
      simpa [List.range_eq_range'] using this
    | ret =>
      simp only [] at h
      split at h <;> try (cases h; done)
      rename_i fr st'
      cases ρs with
      | nil => exact hes.elim
      | cons ρ1 ρs' =>
        have fin : ∀ {e : Ex} {env' : En} {s' : St} {vs : List Value}, e = .normal ∨ e = .ret → evKr P G call fuel (fnB P f) k .normal env s = some (e, env', s') → resV P env' s' (fnR P f) = some vs →
            g' = ⟨st', fr.f, some (fr.p, fr.j + 1), fr.k, putEn fr.env (slotJ P fr) (oneV vs), s'⟩ → contW P (fnB P f) k (stkQ P R0 (fr :: st') (ρ1 :: ρs') f) .normal (mkAct (fnN P f) ρ) w := by
          intro e env' s' vs hex hev hres hg
          subst hg
          refine evKr_ok hm hc hokc k (e := .normal) hev (hW.rel hw) he fun β' ρ' w' hE he' => ?_
          refine retQ_of hokr hex hres hE.rel he' fun v' hv' => ?_
          exact hs β' (putE ρ1 (slotJ P fr) v') ρs' w' (hW.step hw hE) (EnvR.put (hes.1.mono hE.le) hv') (hes.2.mono hE.le)
        split at h <;> try (cases h; done)
        rename_i e env' s' hne hev
        split at h <;> try (cases h; done)
        rename_i vs hres
        refine fin ?_ hev hres (Option.some.inj h).symm
        cases e with
        | normal => exact .inl rfl
        | ret => exact .inr rfl
        | exit id => exact (hne _ rfl).elim
    | op m => cases h
    | close => cases h
    | enter => cases h
  | some pj =>
    obtain ⟨p, j⟩ := pj
    show vcOps P (opsAt p (fnB P f)) ((opsAt p (fnB P f)).drop j) ρ w fun ρ' w' => contW P (fnB P f) k (stkQ P R0 st ρs f) .normal (mkAct (fnN P f) ρ') w'
    cases c with
    | op m =>
      simp only [stepG] at h
      split at h <;> cases h
      rename_i j' env' s' hops
      exact opsM_ok hc hops (hW.rel hw) he fun ρ' w' β' hE he' => hs β' ρ' ρs w' (hW.step hw hE) he' (hes.mono hE.le)
    | close =>
      simp only [stepG] at h
      split at h <;> cases h
      rename_i hle
      rw [List.drop_eq_nil_of_le (Nat.le_of_ble_eq_true hle)]
      exact hs β ρ ρs w hw he hes
    | enter =>
      simp only [stepG] at h
      split at h <;> try (cases h; done)
      rename_i o ho
      split at h <;> try (cases h; done)
      rename_i hwant
      split at h <;> try (cases h; done)
      rename_i h' args ats hop
      split at h <;> try (cases h; done)
      rename_i l hl
      split at h <;> cases h
      rename_i hcheck
      simp only [Bool.and_eq_true, Nat.ble_eq] at hcheck
      rw [drop_at ho, vcOps_cons]
      have hcall : opVc P o ρ w fun v w' => vcOps P (opsAt p (fnB P f)) ((opsAt p (fnB P f)).drop (j + 1)) (putE ρ o.dst v) w' fun ρ' w'' => contW P (fnB P f) k (stkQ P R0 st ρs f) .normal (mkAct (fnN P f) ρ') w'' := by
        unfold opVc
        rw [hop]
        refine enter_ok hcheck.1 hcheck.2 (l := l) (β := β) (by simpa [mapA] using evXs_ok hl he (hW.rel hw).glob) fun ρ' he' => ?_
        have hslot : slotJ P ⟨f, p, j, k, env⟩ = o.dst := by unfold slotJ; simp only []; rw [ho]
        have := hs β ρ' (ρ :: ρs) w hw he' ⟨he, hes⟩
        simp only [stkQ, hslot] at this
        exact this
      unfold opG
      rcases want_ok hwant he with ⟨hg, _⟩ | ⟨j', want, t, hg, ht, hb⟩
      · rw [hg]; exact hcall
      · rw [hg]
        simp only [ht]
        exact ⟨⟨fun _ => hcall, fun hn => absurd (hb.1 rfl) hn⟩⟩
    | go m => cases h
    | openR => cases h
    | ret => cases h
theorem runG_ok (hW : Walk G W) (hm : P.follows .mixedOrders = true) (hc : CallOk P G call) : ∀ {cs : List Cm} {g g' : Sg}, runG P G call fuel cs g = some g' → Stg P W R0 g' → Stg P W R0 g
  | [], g, g', h, hs => by
    simp only [runG, Option.some.injEq] at h
    subst h; exact hs
  | c :: cs, g, g', h, hs => by
    simp only [runG] at h
    split at h <;> try (cases h; done)
    rename_i g1 h1
    exact stepG_ok hW hm hc h1 (runG_ok hW hm hc h hs)
end

/-! ### A piece's check -/
def subFr : List Fr → List Fr → Bool
  | [], [] => true
  | a :: l, b :: m => Nat.beq a.f b.f && (eqP a.p b.p && (Nat.beq a.j b.j && (eqK a.k b.k && (subTr veqT a.env b.env && subFr l m))))
  | _, _ => false
def eqAt : Option (List Nat × Nat) → Option (List Nat × Nat) → Bool
  | none, x => (match x with | none => true | some _ => false)
  | some (p, j), x => (match x with | none => false | some (q, i) => eqP p q && Nat.beq j i)
def subSg (a b : Sg) : Bool := subFr a.st b.st && (Nat.beq a.f b.f && (eqAt a.at_ b.at_ && (eqK a.k b.k && (subTr veqT a.env b.env && (Nat.beq a.s.n b.s.n && subTr obEq a.s.m b.s.m)))))
def chunkB (P : Program) (G : Nat → Bool) (call : FuncId → List Value → St → Option (Value × St)) (fuel : Nat) (cs : List Cm) (a b : Sg) : Bool :=
  match runG P G call fuel cs a with
  | some g => subSg g b
  | none => false
section
variable {P : Program} {G : Nat → Bool} {call : FuncId → List Value → St → Option (Value × St)} {fuel : Nat} {R0 : Value → World → Prop} {W : Beta → St → World → Prop}
theorem sub_env {β : Beta} {env env' : En} {ρ : Go.Vc.Env} {m : Tr Ob} (h : subTr veqT env env' = true) (he : EnvR β env ρ) : EnvR (keepB β m) env' ρ := fun t v hv => by
  rcases subTr_get (fun a b => veqT_eq) (bits t) h with h5 | h5
  · rw [hv] at h5; cases h5
  · exact (he t v (by rw [← h5]; exact hv)).mono (keep_le β m)
theorem eqAt_eq {a b : Option (List Nat × Nat)} (h : eqAt a b = true) : a = b := by
  cases a with
  | none => cases b with
    | none => rfl
    | some _ => cases h
  | some x => cases b with
    | none => cases h
    | some y =>
      obtain ⟨p, j⟩ := x
      obtain ⟨q, i⟩ := y
      simp only [eqAt, Bool.and_eq_true] at h
      rw [eqP_eq h.1, Nat.eq_of_beq_eq_true h.2]
theorem stk_same {R0 : Value → World → Prop} : ∀ {l m : List Fr} {ρs : List Go.Vc.Env} {f : FuncId}, subFr l m = true → stkQ P R0 l ρs f = stkQ P R0 m ρs f
  | [], [], ρs, f, _ => rfl
  | a :: l, b :: m, [], f, _ => rfl
  | a :: l, b :: m, ρ :: ρs, f, h => by
    obtain ⟨af, ap, aj, ak, ae⟩ := a
    obtain ⟨bf, bp, bj, bk, be⟩ := b
    simp only [subFr, Bool.and_eq_true] at h
    obtain ⟨h1, h2, h3, h4, _, h6⟩ := h
    have e1 := Nat.eq_of_beq_eq_true h1
    have e2 := eqP_eq h2
    have e3 := Nat.eq_of_beq_eq_true h3
    have e4 := eqK_eq h4
    subst e1 e2 e3 e4
    simp only [stkQ, stk_same h6]
    rfl
  | [], _ :: _, _, _, h => by cases h
  | _ :: _, [], _, _, h => by cases h
theorem stk_envs {β : Beta} {mm : Tr Ob} : ∀ {l m : List Fr} {ρs : List Go.Vc.Env}, subFr l m = true → EnvRs β l ρs → EnvRs (keepB β mm) m ρs
  | [], [], [], _, _ => trivial
  | a :: l, b :: m, ρ :: ρs, h, he => by
    simp only [subFr, Bool.and_eq_true] at h
    exact ⟨sub_env h.2.2.2.2.1 he.1, stk_envs h.2.2.2.2.2 he.2⟩
  | [], [], _ :: _, _, he => he.elim
  | _ :: _, _ :: _, [], _, he => he.elim
  | [], _ :: _, _, h, _ => by cases h
  | _ :: _, [], _, h, _ => by cases h
theorem sub_ok {a b : Sg} (hkeep : ∀ {β w}, W β a.s w → subTr obEq a.s.m b.s.m = true → W (keepB β b.s.m) ⟨a.s.n, b.s.m⟩ w) (h : subSg a b = true) (hs : Stg P W R0 b) : Stg P W R0 a := by
  intro β ρ ρs w hw he hes
  obtain ⟨ast, af, aat, ak, aenv, as⟩ := a
  obtain ⟨bst, bf, bat, bk, benv, bs⟩ := b
  simp only [subSg, Bool.and_eq_true] at h
  obtain ⟨h1, h2, h3, h4, h5, h6, h7⟩ := h
  have e2 := Nat.eq_of_beq_eq_true h2
  have e3 := eqAt_eq h3
  have e4 := eqK_eq h4
  have e6 := Nat.eq_of_beq_eq_true h6
  subst e2 e3 e4
  have hk := hkeep hw h7
  have e : bs = ⟨as.n, bs.m⟩ := by rw [e6]
  have := hs (keepB β bs.m) ρ ρs w (by simp only []; rw [e]; exact hk) (sub_env h5 he) (stk_envs h1 hes)
  simp only [← stk_same (P := P) (R0 := R0) h1] at this
  exact this
/-- The world that is reached from w0, where blocks may have been forgotten. -/
abbrev WkAt (G : Nat → Bool) (β0 : Beta) (s0 : St) (w0 : World) : Beta → St → World → Prop := fun β s w => Wk G β0 s0 w0 β s w
theorem walkWk {β0 : Beta} {s0 : St} {w0 : World} : Walk G (WkAt G β0 s0 w0) := ⟨fun h => h.rel, fun h k => h.step k⟩
theorem chunk_ok {β0 : Beta} {s0 : St} {w0 : World} (hm : P.follows .mixedOrders = true) (hc : CallOk P G call) {cs : List Cm} {a b : Sg} (hg : ∀ g, G g = true → ∃ ob, Tr.get (bits g) b.s.m = some ob) (h : chunkB P G call fuel cs a b = true) (hs : Stg P (WkAt G β0 s0 w0) R0 b) : Stg P (WkAt G β0 s0 w0) R0 a := by
  unfold chunkB at h
  split at h <;> try (cases h; done)
  rename_i g hr
  exact runG_ok walkWk hm hc hr (sub_ok (fun hw h => hw.keep h hg) h hs)
/-- The last piece: the law answers true. -/
def lastB (P : Program) (G : Nat → Bool) (call : FuncId → List Value → St → Option (Value × St)) (fuel : Nat) (cs : List Cm) (a : Sg) : Bool :=
  match runG P G call fuel cs a with
  | some ⟨[], f, none, k, env, s⟩ => match okFn P f with
    | false => false
    | true => match evKr P G call fuel (fnB P f) k .normal env s with
      | some (.exit _, _, _) => false
      | some (_, env', s') => match resV P env' s' (fnR P f) with
        | some [.bool true] => true
        | _ => false
      | none => false
  | _ => false
theorem last_ok {β0 : Beta} {s0 : St} {w0 : World} (hm : P.follows .mixedOrders = true) (hc : CallOk P G call) {cs : List Cm} {a : Sg} (h : lastB P G call fuel cs a = true) : Stg P (WkAt G β0 s0 w0) (fun v w' => v = .bool true ∧ ∃ β' s', Wk G β0 s0 w0 β' s' w') a := by
  unfold lastB at h
  split at h <;> try (cases h; done)
  rename_i f k env s hr
  refine runG_ok walkWk hm hc hr ?_
  intro β ρ ρs w hw he hes
  split at h <;> try (cases h; done)
  rename_i hok
  obtain ⟨fn, hf, hb, _, _, hokc, hokr, _⟩ := okFn_inv hok
  have fin : ∀ {e : Ex} {env' : En} {s' : St}, e = .normal ∨ e = .ret → evKr P G call fuel (fnB P f) k .normal env s = some (e, env', s') → resV P env' s' (fnR P f) = some [.bool true] →
      contW P (fnB P f) k (stkQ P (fun v w' => v = .bool true ∧ ∃ β' s', Wk G β0 s0 w0 β' s' w') [] ρs f) .normal (mkAct (fnN P f) ρ) w := by
    intro e env' s' hex hev hres
    refine evKr_ok hm hc hokc k (e := .normal) hev hw.rel he fun β' ρ' w' hE he' => ?_
    exact retQ_of hokr hex hres hE.rel he' fun v' hv' => ⟨RV.bool_inv hv', _, _, hw.step hE⟩
  split at h <;> try (cases h; done)
  rename_i e env' s' hne hev
  split at h <;> try (cases h; done)
  rename_i hres
  refine fin ?_ hev hres
  cases e with
  | normal => exact .inl rfl
  | ret => exact .inr rfl
  | exit id => exact (hne _ rfl).elim
/-- A function without parameters whose pieces go well. -/
theorem pieces_true {f : Nat} {β0 : Beta} {s0 : St} (hok : okFn P f = true) {R : Value → World → Prop} {w : World} (hr : Rel G β0 s0 w) (h : Stg P (WkAt G β0 s0 w) R ⟨[], f, none, [.c []], .e, s0⟩) : callD P f #[] w R := by
  refine enter_ok (l := []) (β := β0) hok (Nat.zero_le _) .nil fun ρ he => ?_
  exact h β0 ρ [] w (.refl hr) (fun t v hv => by rw [Tr.get_e] at hv; cases hv) trivial
theorem Wk.ext {β' : Beta} {s s' : St} {w w' : World} (h : Wk G (fun _ => .fresh) s w β' s' w') : Ext w w' :=
  ⟨h.oth.1, h.oth.2.1, h.oth.2.2, h.sz, fun k hk _ => h.out k hk fun b base lim hb => by cases hb⟩
theorem Wk.ext1 {g : Nat} {l : List Value} {β' : Beta} {s' : St} {w w' : World} (h : Wk (G1 g) (upB (fun _ => .fresh) g (.live g 0 l.length)) (st1 g l) w β' s' w') : Ext w w' := by
  refine ⟨h.oth.1, h.oth.2.1, h.oth.2.2, h.sz, fun k hk _ => ?_⟩
  by_cases hkg : k = g
  · subst hkg
    exact (h.ro k _ _ _ (by unfold G1; simp) (Tr.get_put (bits k) (some (roOf l)) .e)).2.2 k 0 l.length (upB_same _ _ _)
  · refine h.out k hk fun b base lim hb => ?_
    by_cases hbg : b = g
    · subst hbg; rw [upB_same] at hb; cases hb; exact hkg rfl
    · rw [upB_ne _ _ hbg] at hb; cases hb
end
end
end Go.Ab
