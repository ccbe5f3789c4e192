/- Code and calls are as they are evaluated (regions that draw: by hypothesis). -/
import Derived.Test.YtmbeoehgpffneaaGreatDoorA15
set_option linter.unusedVariables false
namespace Go.Ab
noncomputable section
open Go.Vc (ev mapA callD putE vcOps okOps okOp okOperand mkAct Off ops_sound ev_mk okRes argEnv argEnv_getD mkAct_getD)

def toExit : Ex → Exit
  | .normal => .normal
  | .exit id => .exit id
  | .ret => .ret
/-- Behind some code. -/
def Pst (G : Nat → Bool) (n : Nat) (β : Beta) (s : St) (w : World) (e : Ex) (env' : En) (s' : St) : Exit → Act → World → Prop :=
  fun x a w' => x = toExit e ∧ ∃ ρ' β', a = mkAct n ρ' ∧ Ev G β s w β' s' w' ∧ EnvR β' env' ρ'
def DrawOk (P : Program) (G : Nat → Bool) (call : FuncId → List Value → St → Option (Value × St)) : Prop :=
  ∀ (id : Nat) (ops : Array Oper) (n : Nat) (env env' : En) (s s' : St) (β : Beta) (ρ : Go.Vc.Env) (w : World), okOps n ops.toList = true → evDraw P G call ops.toList env s = some (env', s') → Rel G β s w → EnvR β env ρ →
    (Code.region id ops true).wp P (Pst G n β s w .normal env' s') (mkAct n ρ) w

section
variable {P : Program} {G : Nat → Bool} {call : FuncId → List Value → St → Option (Value × St)}
theorem Pst.trans {n : Nat} {β β1 : Beta} {s s1 s' : St} {w w1 : World} {e : Ex} {env' : En} {x : Exit} {a : Act} {w' : World} (h : Ev G β s w β1 s1 w1) (k : Pst G n β1 s1 w1 e env' s' x a w') : Pst G n β s w e env' s' x a w' := by
  obtain ⟨rfl, ρ', β', rfl, h1, h2⟩ := k
  exact ⟨rfl, ρ', β', rfl, h.trans h1, h2⟩
theorem then_of {n : Nat} {β : Beta} {s s' : St} {w : World} {e : Ex} {env' : En} {next : Act → World → Prop} {Q : Exit → Act → World → Prop} (hne : e ≠ .normal) (hQ : ∀ x a w', Pst G n β s w e env' s' x a w' → Q x a w') :
    ∀ x a w', Pst G n β s w e env' s' x a w' → Exit.then next Q x a w' := by
  intro x a w' h
  have h' := hQ x a w' h
  obtain ⟨rfl, _⟩ := h
  cases e with
  | normal => exact absurd rfl hne
  | exit id => exact h'
  | ret => exact h'
theorem evLoop_ok {n : Nat} {x : Code} {body : En → St → Option (Ex × En × St)}
    (hb : ∀ env s e env' s' β ρ w, body env s = some (e, env', s') → Rel G β s w → EnvR β env ρ → x.wp P (Pst G n β s w e env' s') (mkAct n ρ) w) :
    ∀ (k : Nat) {env env' : En} {s s' : St} {e : Ex} {β : Beta} {ρ : Go.Vc.Env} {w : World}, evLoop body k env s = some (e, env', s') → Rel G β s w → EnvR β env ρ →
      Code.rounds P x (Pst G n β s w e env' s') k (mkAct n ρ) w
  | 0, env, env', s, s', e, β, ρ, w, h, _, _ => by cases h
  | k + 1, env, env', s, s', e, β, ρ, w, h, hr, he => by
    simp only [evLoop] at h
    rw [rounds_succ]
    split at h
    · rename_i env1 s1 h1
      refine wp_mono (hb _ _ _ _ _ _ _ _ h1 hr he) ?_
      rintro y a w' ⟨rfl, ρ1, β1, rfl, hev, he1⟩
      have := evLoop_ok hb k h hev.rel he1
      have hmono : ∀ (m : Nat) {Q Q' : Exit → Act → World → Prop}, (∀ e a w, Q e a w → Q' e a w) → ∀ a w, Code.rounds P x Q m a w → Code.rounds P x Q' m a w := by
        intro m Q Q' hq
        induction m with
        | zero => intro a w h; exact h
        | succ m ih =>
          intro a w h
          rw [rounds_succ] at h ⊢
          refine wp_mono h fun e a w he => ?_
          cases e with
          | normal => exact ih a w he
          | _ => exact hq _ _ _ he
      exact hmono k (fun _ _ _ hp => Pst.trans hev hp) _ _ this
    · rename_i hne
      have hne' : e ≠ .normal := fun he' => by subst he'; exact hne _ _ h
      exact wp_mono (hb _ _ _ _ _ _ _ _ h hr he) (then_of hne' fun _ _ _ hp => hp)
theorem evC_ok (hm : P.follows .mixedOrders = true) (hc : CallOk P G call) (hd : DrawOk P G call) {n fuel : Nat} : ∀ (c : Code) {env env' : En} {s s' : St} {e : Ex} {β : Beta} {ρ : Go.Vc.Env} {w : World},
    okC n c = true → evC P G call fuel c env s = some (e, env', s') → Rel G β s w → EnvR β env ρ → c.wp P (Pst G n β s w e env' s') (mkAct n ρ) w := by
  intro c
  induction c with
  | skip => intro env env' s s' e β ρ w _ h hr he; simp only [evC, Option.some.injEq, Prod.mk.injEq] at h; obtain ⟨rfl, rfl, rfl⟩ := h; exact wp_skip ⟨rfl, ρ, β, rfl, .refl hr, he⟩
  | label l => intro env env' s s' e β ρ w _ h hr he; simp only [evC, Option.some.injEq, Prod.mk.injEq] at h; obtain ⟨rfl, rfl, rfl⟩ := h; exact wp_label ⟨rfl, ρ, β, rfl, .refl hr, he⟩
  | exit id => intro env env' s s' e β ρ w _ h hr he; simp only [evC, Option.some.injEq, Prod.mk.injEq] at h; obtain ⟨rfl, rfl, rfl⟩ := h; exact wp_exit ⟨rfl, ρ, β, rfl, .refl hr, he⟩
  | ret => intro env env' s s' e β ρ w _ h hr he; simp only [evC, Option.some.injEq, Prod.mk.injEq] at h; obtain ⟨rfl, rfl, rfl⟩ := h; exact wp_ret ⟨rfl, ρ, β, rfl, .refl hr, he⟩
  | goto l => intro env env' s s' e β ρ w _ h _ _; simp [evC] at h
  | rangeFunc _ _ _ _ _ _ => intro env env' s s' e β ρ w _ h _ _; simp [evC] at h
  | scope _ _ => intro env env' s s' e β ρ w _ h _ _; simp [evC] at h
  | refuse _ => intro env env' s s' e β ρ w _ h _ _; simp [evC] at h
  | region id ops draw =>
    intro env env' s s' e β ρ w hok h hr he
    simp only [okC] at hok
    cases draw with
    | false =>
      simp only [evC] at h
      split at h <;> cases h
      rename_i hops
      have hv := evOps_ok (K := fun ρ' w' => ∃ β', Ev G β s w β' s' w' ∧ EnvR β' env' ρ') hc hops hr he (fun ρ' w' β' h1 h2 => ⟨β', h1, h2⟩)
      refine wp_region ?_
      have := ops_sound (P := P) (Q := Pst G n β s w .normal env' s') hok ρ (fun ρ' w' ⟨β', h1, h2⟩ _ => ⟨rfl, ρ', β', rfl, h1, h2⟩) ops.toList 0 ρ w rfl hv (Off.refl _ _)
      simpa [List.range_eq_range'] using this
    | true =>
      simp only [evC] at h
      split at h <;> cases h
      rename_i hops
      exact hd id ops n env env' s s' β ρ w hok hops hr he
  | seq x y ihx ihy =>
    intro env env' s s' e β ρ w hok h hr he
    simp only [okC, Bool.and_eq_true] at hok
    simp only [evC] at h
    refine wp_seq ?_
    split at h
    · rename_i env1 s1 h1
      refine wp_mono (ihx hok.1 h1 hr he) ?_
      rintro y' a w' ⟨rfl, ρ1, β1, rfl, hev, he1⟩
      exact wp_mono (ihy hok.2 h hev.rel he1) fun _ _ _ hp => Pst.trans hev hp
    · rename_i hne
      have hne' : e ≠ .normal := fun he' => by subst he'; exact hne _ _ h
      exact wp_mono (ihx hok.1 h hr he) (then_of hne' fun _ _ _ hp => hp)
  | cond c x y ihx ihy =>
    intro env env' s s' e β ρ w hok h hr he
    simp only [okC, Bool.and_eq_true] at hok
    simp only [evC] at h
    split at h <;> try (cases h; done)
    · rename_i hcv
      have := RV.bool_inv (evX_ok hcv he hr.glob)
      exact wp_cond (t := true) (by rw [ev_mk hok.1.1]; exact this) (ihx hok.1.2 h hr he)
    · rename_i hcv
      have := RV.bool_inv (evX_ok hcv he hr.glob)
      exact wp_cond (t := false) (by rw [ev_mk hok.1.1]; exact this) (ihy hok.2 h hr he)
  | block id x ih =>
    intro env env' s s' e β ρ w hok h hr he
    simp only [okC] at hok
    simp only [evC] at h
    refine wp_block ?_
    split at h
    · rename_i j env1 s1 h1
      refine wp_mono (ih hok h1 hr he) ?_
      rintro y' a w' ⟨rfl, ρ1, β1, rfl, hev, he1⟩
      simp only [toExit, Exit.inBlock]
      split at h
      · rename_i hj
        have := Nat.eq_of_beq_eq_true hj
        subst this
        cases h
        rw [if_pos rfl]
        exact ⟨rfl, ρ1, β1, rfl, hev, he1⟩
      · rename_i hj
        have : j ≠ id := fun he' => by subst he'; simp at hj
        cases h
        rw [if_neg this]
        exact ⟨rfl, ρ1, β1, rfl, hev, he1⟩
    · rename_i hne
      refine wp_mono (ih hok h hr he) ?_
      rintro y' a w' hp
      have hp' := hp
      obtain ⟨rfl, _⟩ := hp
      cases e with
      | normal => exact hp'
      | ret => exact hp'
      | exit j => exact (hne _ _ _ h).elim
  | loop x ih =>
    intro env env' s s' e β ρ w hok h hr he
    simp only [okC] at hok
    simp only [evC] at h
    exact wp_loop_rounds fuel (evLoop_ok (fun env s e env' s' β ρ w h hr he => ih hok h hr he) fuel h hr he)

theorem envOf_ok {β : Beta} : ∀ {args args' : List Value} {i : Nat} {env : En} {ρ : Go.Vc.Env}, RL β args args' → EnvR β env (fun j => if j < i then ρ j else undef) → (∀ j v, i ≤ j → Tr.get (bits j) env ≠ some v) →
    (∀ j, ρ (i + j) = args'.getD j undef) → EnvR β (envOf i args env) ρ
  | [], args', i, env, ρ, hl, he, hn, hρ => by
    intro t v hv
    simp only [envOf] at hv
    by_cases ht : t < i
    · have := he t v hv; simp only [ht, if_true] at this; exact this
    · exact absurd hv (hn t v (by omega))
  | a :: l, args', i, env, ρ, hl, he, hn, hρ => by
    obtain ⟨a', l', rfl, ha, hl'⟩ := hl.inv
    refine envOf_ok (i := i + 1) hl' ?_ ?_ fun j => ?_
    · intro t v hv
      by_cases ht : t = i
      · subst ht
        rw [Tr.get_put] at hv; cases hv
        have := hρ 0
        simp at this
        simp [this, ha]
      · rw [Tr.get_put_ne _ _ _ _ (bits_ne ht)] at hv
        have h0 := he t v hv
        by_cases hlt : t < i
        · simp only [hlt, if_true] at h0; simp only [show t < i + 1 from by omega, if_true]; exact h0
        · exact absurd hv (hn t v (by omega))
    · intro j v hj
      rw [Tr.get_put_ne _ _ _ _ (bits_ne (by omega))]; exact hn j v (by omega)
    · have := hρ (j + 1)
      rw [show i + 1 + j = i + (j + 1) from by omega, this]; simp
theorem resV_ok {n : Nat} {β : Beta} {env : En} {s : St} {w : World} {ρ : Go.Vc.Env} (hr : Rel G β s w) (he : EnvR β env ρ) : ∀ {rs : List ResultVar} {vs : List Value}, okRes n rs = true → resV P env s rs = some vs →
    ∃ vs', (rs.mapM fun | .tmp t => pure ((mkAct n ρ).tmps.getD t undef) | .cell a t => do loadVar t (← asAddr ((mkAct n ρ).tmps.getD a undef)) : Sem (List Value)).run P w = .ok vs' w ∧ RL β vs vs'
  | [], vs, _, h => by simp only [resV, Option.some.injEq] at h; subst h; exact ⟨[], by simp, .nil⟩
  | .tmp t :: rs, vs, hok, h => by
    simp only [okRes, List.all_cons, Bool.and_eq_true] at hok
    simp only [resV] at h
    split at h <;> try (cases h; done)
    rename_i v hv
    split at h <;> cases h
    rename_i r hrs
    obtain ⟨vs', h1, h2⟩ := resV_ok (n := n) hr he hok.2 hrs
    refine ⟨ρ t :: vs', ?_, .cons (he t v hv) h2⟩
    simp only [List.mapM_cons, Sem.run_bind, Sem.run_pure, Result.andThen_ok, h1, mkAct_getD (by simpa [Nat.blt_eq] using hok.1)]
  | .cell a t :: rs, vs, hok, h => by
    simp only [okRes, List.all_cons, Bool.and_eq_true] at hok
    simp only [resV] at h
    split at h <;> try (cases h; done)
    rename_i x hx
    split at h <;> try (cases h; done)
    rename_i v hv
    split at h <;> cases h
    rename_i r hrs
    obtain ⟨vs', h1, h2⟩ := resV_ok (n := n) hr he hok.2 hrs
    obtain ⟨v', h3, h4⟩ := load_rd (P := P) hv hr (he a x hx)
    refine ⟨v' :: vs', ?_, .cons h4 h2⟩
    have hg := mkAct_getD (ρ := ρ) (i := a) (n := n) (by simpa [Nat.blt_eq] using hok.1)
    simp only [List.mapM_cons, Sem.run_bind, hg]
    have h5 : ∃ p, ρ a = .pointer (some p) := by
      unfold loadV at hv
      split at hv <;> try (cases hv; done)
      split at hv <;> try (cases hv; done)
      exact ptr_inv (he a _ hx)
    obtain ⟨p, hp⟩ := h5
    rw [hp] at h3 ⊢
    have ha : (asAddr (.pointer (some p))).run P w = .ok p w := by simp [asAddr]
    have h6 : (loadVar t p).run P w = .ok v' w := by simpa [Instr.loadAt, Instr.sureAddr] using h3
    simp only [ha, Result.andThen_ok]
    rw [h6]
    simp only [Result.andThen_ok]
    rw [h1]
    rfl
theorem oneV_rv {β : Beta} {vs vs' : List Value} (h : RL β vs vs') : RV β (oneV vs) (Go.Vc.one vs') := by
  match vs, vs', h with
  | [], vs', h => rw [h.inv_nil]; exact RV.tuple_of .nil
  | [v], vs', h =>
    obtain ⟨v', l, rfl, hv, hl⟩ := h.inv
    rw [hl.inv_nil]; exact hv
  | a :: b :: l, vs', h =>
    obtain ⟨a', l1, rfl, ha, hl⟩ := h.inv
    obtain ⟨b', l2, rfl, hb, hl2⟩ := hl.inv
    exact RV.tuple_of (.cons ha (.cons hb hl2))
theorem stepE_ok (hm : P.follows .mixedOrders = true) {call : FuncId → List Value → St → Option (Value × St)} (ih : CallOk P G call) (hd : DrawOk P G call) (fuel : Nat) : CallOk P G (stepE P G fuel call) :=
  fun β s w f args args' v s' h hr hl => by
    simp only [stepE] at h
    split at h <;> try (cases h; done)
    rename_i fn hf
    split at h <;> try (cases h; done)
    rename_i c hb
    split at h <;> try (cases h; done)
    rename_i hok
    simp only [Bool.and_eq_true, Nat.ble_eq] at hok
    obtain ⟨⟨⟨hok1, hok2⟩, hok3⟩, hok4⟩ := hok
    have hname : ¬ fn.name = "runtime.NumGoroutine" := by rw [notB_eq] at hok4; simpa using hok4
    have henter : ∀ (args : Array Value) w, (callFunc f args).run P w = .ok (.enter f args) w := fun args w => by
      simp [callFunc, program, Sem.run, hf, hname, hb]
    refine ⟨⟨henter, ?_⟩⟩
    have hsz : args'.size = args.length := by have := hl.1; simpa using this.symm
    have hact : ({ tmps := args' ++ Array.replicate (fn.ntmps - args'.size) undef, defers := [] } : Act) = mkAct fn.ntmps (argEnv args'.toList) := by
      simp only [mkAct]
      congr 1
      apply Array.ext
      · simp; omega
      · intro i h1 h2
        simp [argEnv_getD, Array.getElem_append]
        split
        · rename_i hi; simp [hi]
        · rename_i hi; simp [Array.getElem?_eq_none (by omega : args'.size ≤ i)]
    have henv : EnvR β (envOf 0 args .e) (argEnv args'.toList) := envOf_ok hl (fun t v hv => by rw [Tr.get_e] at hv; cases hv) (fun j v _ hv => by rw [Tr.get_e] at hv; cases hv) (fun j => by rw [Nat.zero_add, argEnv_getD])
    refine calls_of_wp hf hb ?_
    rw [hact]
    have fin : ∀ {e : Ex} {env : En} {s1 : St} {vs : List Value}, evC P G call fuel c (envOf 0 args .e) s = some (e, env, s1) → e = .normal ∨ e = .ret → resV P env s1 fn.results.toList = some vs → v = oneV vs → s' = s1 →
        c.wp P (bodyPost P fn fun e w' => ∃ v', e = .returned v' ∧ ∃ β', Ev G β s w β' s' w' ∧ RV β' v v') (mkAct fn.ntmps (argEnv args'.toList)) w := by
      intro e env s1 vs hev hex hres hv hs
      subst hv hs
      refine wp_mono (evC_ok hm ih hd c hok1 hev hr henv) ?_
      rintro x a w' ⟨rfl, ρ', β', rfl, hE, he'⟩
      have key : ∃ v', (results fn (mkAct fn.ntmps ρ').tmps).run P w' = .ok v' w' ∧ ∃ u, Ending.returned v' = .returned u ∧ ∃ β', Ev G β s w β' s' w' ∧ RV β' (oneV vs) u := by
        obtain ⟨vs', h1, h2⟩ := resV_ok (P := P) (n := fn.ntmps) hE.rel he' hok3 hres
        refine ⟨Go.Vc.one vs', ?_, _, rfl, β', hE, oneV_rv h2⟩
        unfold results
        simp only [Sem.run_bind, Array.mapM_eq_mapM_toList, Sem.run_map]
        erw [h1]
        simp only [Result.andThen_ok, Sem.run_pure, List.size_toArray]
        congr 1
        match vs' with
        | [] => rfl
        | [v] => rfl
        | _ :: _ :: _ => simp [Go.Vc.one]
      rcases hex with rfl | rfl
      · exact ⟨rfl, key⟩
      · exact ⟨rfl, key⟩
    split at h <;> try (cases h; done)
    rename_i e env s1 hne hev
    split at h <;> cases h
    rename_i vs hres
    refine fin hev ?_ hres rfl rfl
    cases e with
    | normal => exact .inl rfl
    | ret => exact .inr rfl
    | exit id => exact (hne _ rfl).elim
theorem callE_ok (hm : P.follows .mixedOrders = true) (hd : ∀ call, CallOk P G call → DrawOk P G call) (fuel : Nat) : ∀ n, CallOk P G (callE P G fuel n)
  | 0 => fun β s w f args args' v s' h _ _ => by cases h
  | n + 1 => stepE_ok hm (callE_ok hm hd fuel n) (hd _ (callE_ok hm hd fuel n)) fuel
end
end
end Go.Ab
