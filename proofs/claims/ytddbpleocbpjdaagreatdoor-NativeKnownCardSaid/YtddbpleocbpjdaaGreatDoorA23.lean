/- A call in two parts, each over calls of its own; a function of whole numbers by its contract. -/
import Derived.Test.YtddbpleocbpjdaaGreatDoorA22
namespace Go.Ab
noncomputable section
open Go.Vc (ev mapA callD putE vcOps okOps okOp okOperand mkAct Off ops_sound ev_mk okRes argEnv argEnv_getD mkAct_getD Ext)
section
variable (P : Program) (G : Nat → Bool)
/-- The first k parts of some code are done; what is left. -/
def pre (call : FuncId → List Value → St → Option (Value × St)) (fuel : Nat) : Nat → Code → En → St → Option (En × St × Code)
  | 0, c, env, s => some (env, s, c)
  | k + 1, c, env, s => match c with
    | .seq x y => match evC P G call fuel x env s with
      | some (.normal, env', s') => pre call fuel k y env' s'
      | _ => none
    | _ => none
def step2 (fuel k : Nat) (call1 call2 : FuncId → List Value → St → Option (Value × St)) (f : FuncId) (args : List Value) (s : St) : Option (Value × St) :=
  match P.funcs[f]? with
  | none => none
  | some fn => match fn.body with
    | none => none
    | some c => match okC fn.ntmps c && Nat.ble args.length fn.ntmps && Go.Vc.okRes fn.ntmps fn.results.toList && notB (fn.name == "runtime.NumGoroutine") with
      | false => none
      | true => match pre P G call1 fuel k c (envOf 0 args .e) s with
        | none => none
        | some (env0, s0, c0) => match evC P G call2 fuel c0 env0 s0 with
          | some (.exit _, _, _) => none
          | some (_, env, s') => match resV P env s' fn.results.toList with
            | some vs => some (oneV vs, s')
            | none => none
          | none => none
end
section
variable {P : Program} {G : Nat → Bool}
theorem pre_ok (hm : P.follows .mixedOrders = true) {call1 call2 : FuncId → List Value → St → Option (Value × St)} (h1 : CallOk P G call1) (d1 : DrawOk P G call1) (h2 : CallOk P G call2) (d2 : DrawOk P G call2) {n fuel : Nat} : ∀ (k : Nat) {c c0 : Code} {env env0 env' : En} {s s0 s' : St} {e : Ex} {β : Beta} {ρ : Go.Vc.Env} {w : World},
    okC n c = true → pre P G call1 fuel k c env s = some (env0, s0, c0) → evC P G call2 fuel c0 env0 s0 = some (e, env', s') → Rel G β s w → EnvR β env ρ → c.wp P (Pst G n β s w e env' s') (mkAct n ρ) w
  | 0, c, c0, env, env0, env', s, s0, s', e, β, ρ, w, hok, hp, h, hr, he => by
    simp only [pre, Option.some.injEq, Prod.mk.injEq] at hp
    obtain ⟨rfl, rfl, rfl⟩ := hp
    exact evC_ok hm h2 d2 _ hok h hr he
  | k + 1, c, c0, env, env0, env', s, s0, s', e, β, ρ, w, hok, hp, h, hr, he => by
    simp only [pre] at hp
    split at hp <;> try (cases hp; done)
    rename_i x y
    split at hp <;> try (cases hp; done)
    rename_i env1 s1 hx
    simp only [okC, Bool.and_eq_true] at hok
    refine wp_seq ?_
    refine wp_mono (evC_ok hm h1 d1 x hok.1 hx hr he) ?_
    rintro y' a w' ⟨rfl, ρ1, β1, rfl, hev, he1⟩
    exact wp_mono (pre_ok hm h1 d1 h2 d2 k hok.2 hp h hev.rel he1) fun _ _ _ hp => Pst.trans hev hp
theorem step2_ok (hm : P.follows .mixedOrders = true) {call1 call2 : FuncId → List Value → St → Option (Value × St)} (ih1 : CallOk P G call1) (hd1 : DrawOk P G call1) (ih : CallOk P G call2) (hd : DrawOk P G call2) (fuel k : Nat) : CallOk P G (step2 P G fuel k call1 call2) :=
  fun β s w f args args' v s' h hr hl => by
    simp only [step2] at h
    split at h <;> try (cases h; done)
    rename_i fn hf
    split at h <;> try (cases h; done)
    rename_i c hb
    split at h <;> try (cases h; done)
    rename_i hok
    simp only [Bool.and_eq_true, Nat.ble_eq] at hok
    obtain ⟨⟨⟨hok1, hok2⟩, hok3⟩, hok4⟩ := hok
    have hname : ¬ fn.name = "runtime.NumGoroutine" := by rw [notB_eq] at hok4; simpa using hok4
    have henter : ∀ (args : Array Value) w, (callFunc f args).run P w = .ok (.enter f args) w := fun args w => by
      simp [callFunc, program, Sem.run, hf, hname, hb]
    refine ⟨⟨henter, ?_⟩⟩
    have hsz : args'.size = args.length := by have := hl.1; simpa using this.symm
    have hact : ({ tmps := args' ++ Array.replicate (fn.ntmps - args'.size) undef, defers := [] } : Act) = mkAct fn.ntmps (argEnv args'.toList) := by
      simp only [mkAct]
      congr 1
      apply Array.ext
      · simp; omega
      · intro i h1 h2
        simp [argEnv_getD, Array.getElem_append]
        split
        · rename_i hi; simp [hi]
        · rename_i hi; simp [Array.getElem?_eq_none (by omega : args'.size ≤ i)]
    have henv : EnvR β (envOf 0 args .e) (argEnv args'.toList) := envOf_ok hl (fun t v hv => by rw [Tr.get_e] at hv; cases hv) (fun j v _ hv => by rw [Tr.get_e] at hv; cases hv) (fun j => by rw [Nat.zero_add, argEnv_getD])
    refine calls_of_wp hf hb ?_
    rw [hact]
    have fin : ∀ {e : Ex} {env env0 : En} {s0 s1 : St} {c0 : Code} {vs : List Value}, pre P G call1 fuel k c (envOf 0 args .e) s = some (env0, s0, c0) → evC P G call2 fuel c0 env0 s0 = some (e, env, s1) → e = .normal ∨ e = .ret → resV P env s1 fn.results.toList = some vs → v = oneV vs → s' = s1 →
        c.wp P (bodyPost P fn fun e w' => ∃ v', e = .returned v' ∧ ∃ β', Ev G β s w β' s' w' ∧ RV β' v v') (mkAct fn.ntmps (argEnv args'.toList)) w := by
      intro e env env0 s0 s1 c0 vs hpre hev hex hres hv hs
      subst hv hs
      refine wp_mono (pre_ok hm ih1 hd1 ih hd k hok1 hpre hev hr henv) ?_
      rintro x a w' ⟨rfl, ρ', β', rfl, hE, he'⟩
      have key : ∃ v', (results fn (mkAct fn.ntmps ρ').tmps).run P w' = .ok v' w' ∧ ∃ u, Ending.returned v' = .returned u ∧ ∃ β', Ev G β s w β' s' w' ∧ RV β' (oneV vs) u := by
        obtain ⟨vs', h1, h2⟩ := resV_ok (P := P) (n := fn.ntmps) hE.rel he' hok3 hres
        refine ⟨Go.Vc.one vs', ?_, _, rfl, β', hE, oneV_rv h2⟩
        unfold results
        simp only [Sem.run_bind, Array.mapM_eq_mapM_toList, Sem.run_map]
        erw [h1]
        simp only [Result.andThen_ok, Sem.run_pure, List.size_toArray]
        congr 1
        match vs' with
        | [] => rfl
        | [v] => rfl
        | _ :: _ :: _ => simp [Go.Vc.one]
      rcases hex with rfl | rfl
      · exact ⟨rfl, key⟩
      · exact ⟨rfl, key⟩
    split at h <;> try (cases h; done)
    rename_i env0 s0 c0 hpre
    split at h <;> try (cases h; done)
    rename_i e env s1 hne hev
    split at h <;> cases h
    rename_i vs hres
    refine fin hpre hev ?_ hres rfl rfl
    cases e with
    | normal => exact .inl rfl
    | ret => exact .inr rfl
    | exit id => exact (hne _ rfl).elim

/-- A function of a whole number and a fixed one. -/
def callS (p : Int → Int) (g : Nat) (m : Int) (f : FuncId) (args : List Value) (s : St) : Option (Value × St) :=
  match Nat.beq f g with
  | true => match args with
    | [.int .i64 a, .int .i64 b] => match eqI b m with | true => some (.int .i64 (p a), s) | false => none
    | _ => none
  | false => none
theorem callS_ok {p : Int → Int} {g : Nat} {m : Int} (h : ∀ a w, callD P g #[.int .i64 a, .int .i64 m] w fun v w' => v = .int .i64 (p a) ∧ Ext w w') : CallOk P G (callS p g m) := fun β s w f args args' v s' hc hr hl => by
  unfold callS at hc
  split at hc <;> try (cases hc; done)
  rename_i hf
  have := Nat.eq_of_beq_eq_true hf
  subst this
  split at hc <;> try (cases hc; done)
  rename_i a b
  split at hc <;> cases hc
  rename_i hb
  rw [eqI_eq] at hb
  have hb' : b = m := by simpa using hb
  subst hb'
  obtain ⟨x, l1, e1, hx, hl1⟩ := hl.inv
  obtain ⟨y, l2, rfl, hy, hl2⟩ := hl1.inv
  have := hl2.inv_nil
  subst this
  cases hx
  cases hy
  have : args' = #[.int .i64 a, .int .i64 b] := Array.toList_inj.1 e1
  subst this
  exact callD.mono' (h a w) fun v' w' ⟨h1, h2⟩ => ⟨β, hr.ext h2, by rw [h1]; exact .int _ _⟩
theorem two_true (hm : P.follows .mixedOrders = true) {call1 call2 : FuncId → List Value → St → Option (Value × St)} (h1 : CallOk P noG call1) (h2 : CallOk P noG call2) {fuel k f : Nat} {n : Int}
    (h : okTrue (step2 P noG fuel k call1 call2 f [.int .i64 n] ⟨0, .e⟩) = true) (w : World) : callD P f #[.int .i64 n] w fun v w' => v = .bool true ∧ Ext w w' := by
  generalize hr : step2 P noG fuel k call1 call2 f [.int .i64 n] ⟨0, .e⟩ = r at h
  unfold okTrue at h
  split at h <;> try (cases h; done)
  exact callD.mono' (step2_ok hm h1 (draw_ok hm _ h1) h2 (draw_ok hm _ h2) fuel k _ _ w f [.int .i64 n] #[.int .i64 n] _ _ hr (rel_empty w) (.cons (.int _ _) .nil)) fun v' w' ⟨β', h1, h2⟩ => ⟨RV.bool_inv h2, h1.ext⟩
end
end
end Go.Ab
