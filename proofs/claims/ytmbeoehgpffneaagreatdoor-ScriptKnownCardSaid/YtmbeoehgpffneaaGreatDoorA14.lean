/- Operations one behind the other. -/
import Derived.Test.YtmbeoehgpffneaaGreatDoorA13
namespace Go.Ab
noncomputable section
open Go.Vc (opVc ev mapA mapA_eq callD dynD invD upd putE isEq vcOps vcOps_cons opG guardSlot gd V U pickD)

section
variable (P : Program) (G : Nat → Bool) (call : FuncId → List Value → St → Option (Value × St))
def evOp (env : En) (op : Op) (s : St) : Option (Value × St) :=
  match evP P G env op with
  | some v => some (v, s)
  | none => match evR P G env op s with
    | some v => some (v, s)
    | none => match evA P G env op with
      | some (ob, mk) => some (mk s.n, s.push ob)
      | none => evE P G env call op s
def putEn (env : En) (d : Option Tmp) (v : Value) : En := match d with | none => env | some d => Tr.put (bits d) (some v) env
def slotOf : List Oper → Nat → Option Tmp
  | [], _ => none
  | o :: _, 0 => o.dst
  | _ :: l, j + 1 => slotOf l j
/-- Is the operation wanted? -/
def wantV (all : List Oper) (env : En) (g : Option (Nat × Bool)) : Option Bool :=
  match g with
  | none => some true
  | some (j, want) => match slotOf all j with
    | none => none
    | some t => match Tr.get (bits t) env with
      | some (.bool b) => match b with | true => some want | false => some (notB want)
      | some (.tuple _) => some false
      | _ => none
def evG (all : List Oper) (env : En) (o : Oper) (s : St) : Option (Value × St) :=
  match wantV all env o.guard with
  | some true => evOp P G call env o.op s
  | some false => some (undefV, s)
  | none => none
def evOps (all : List Oper) : List Oper → En → St → Option (En × St)
  | [], env, s => some (env, s)
  | o :: os, env, s => match evG P G call all env o s with
    | some (v, s') => evOps all os (putEn env o.dst v) s'
    | none => none
end

/-- Calls are as they are evaluated. -/
def CallOk (P : Program) (G : Nat → Bool) (call : FuncId → List Value → St → Option (Value × St)) : Prop :=
  ∀ β s w f args args' v s', call f args s = some (v, s') → Rel G β s w → RL β args (Array.toList args') → callD P f args' w fun v' w' => ∃ β', Ev G β s w β' s' w' ∧ RV β' v v'

section
variable {P : Program} {G : Nat → Bool} {call : FuncId → List Value → St → Option (Value × St)} {β : Beta} {env : En} {ρ : Go.Vc.Env} {s s' : St} {w : World}
theorem opVc_of_sem {o : Oper} {sem : Sem Value} {K : Value → World → Prop} (h : semP P ρ o = some sem) (hn : ∀ x, o.op = .nilCheck x → Go.Vc.Safe (ev ρ x)) {v : Value} {w' : World} (hr : sem.run P w = .ok v w') (hk : K v w') : opVc P o ρ w K := by
  obtain ⟨dst, op, ty, pos, aft, gd⟩ := o
  cases op with
  | move x | assign x =>
    simp only [semP, Option.some.injEq] at h
    subst h
    simp at hr
    obtain ⟨rfl, rfl⟩ := hr
    exact hk
  | nilCheck x =>
    simp only [semP, Option.some.injEq] at h
    subst h
    simp at hr
    obtain ⟨rfl, rfl⟩ := hr
    exact ⟨hn x rfl, hk⟩
  | pick c a b =>
    simp only [semP, Option.some.injEq] at h
    subst h
    cases hc : ev ρ c with
    | bool t =>
      rw [hc] at hr
      simp [asBool] at hr
      obtain ⟨rfl, rfl⟩ := hr
      exact ⟨⟨t, hc, hk⟩⟩
    | _ => rw [hc] at hr; simp [asBool, stuck, Sem.run] at hr
  | binOp op t x y u =>
    simp only [semP, Option.some.injEq] at h
    subst h
    simp only [opVc]
    split
    · exact ⟨⟨v, w', hr, hk⟩⟩
    · rename_i hne
      refine ⟨⟨v, w', ?_, hk⟩⟩
      have hg : (eqGuard op t x y (ev ρ x) (ev ρ y)) = (pure () : Sem Unit) := by
        cases op <;> first | rfl | (exact absurd rfl hne)
      rw [hg] at hr
      exact hr
  | call c =>
    obtain ⟨callee, args, ats⟩ := c
    cases callee with
    | builtin b =>
      cases b <;> simp only [semP, Option.some.injEq, reduceCtorEq] at h
      all_goals (subst h; exact ⟨⟨v, w', hr, hk⟩⟩)
    | _ => simp [semP] at h
  | _ => first | (simp only [semP, Option.some.injEq] at h; subst h; exact ⟨⟨v, w', hr, hk⟩⟩) | (simp [semP] at h; done)
theorem ptr_inv {a : Addr} {v : Value} (h : RV β (.pointer (some a)) v) : ∃ a', v = .pointer (some a') := by cases h <;> exact ⟨_, rfl⟩
theorem iface_inv {t : TypeId} {u v : Value} (h : RV β (.iface t u) v) : ∃ u', v = .iface t u' := by cases h; exact ⟨_, rfl⟩
theorem nil_of {op : Op} {v : Value} (h : evP P G env op = some v) (he : EnvR β env ρ) (hg : Gl G β) : ∀ x, op = .nilCheck x → Go.Vc.Safe (ev ρ x) := by
  intro x hx
  subst hx
  simp only [evP] at h
  split at h <;> try (cases h; done)
  · rename_i a ha
    exact .inl (ptr_inv (evX_ok ha he hg))
  · rename_i t u ha
    exact .inr ⟨t, iface_inv (evX_ok ha he hg)⟩
theorem evR_nil {op : Op} {v : Value} (h : evR P G env op s = some v) : ∀ x, op ≠ .nilCheck x := by
  intro x hx; subst hx; simp [evR] at h
theorem evA_nil {op : Op} {v : Ob × (Nat → Value)} (h : evA P G env op = some v) : ∀ x, op ≠ .nilCheck x := by
  intro x hx; subst hx; simp [evA] at h
theorem callD.mono' {f : FuncId} {args : Array Value} {R K : Value → World → Prop} (h : callD P f args w R) (hk : ∀ v w', R v w' → K v w') : callD P f args w K :=
  ⟨⟨h.ex.1, Calls.mono h.ex.2 fun _ _ ⟨v, he, hr⟩ => ⟨v, he, hk v _ hr⟩⟩⟩
theorem meth_run {r r' : Value} {m : String} {f : FuncId} {v : Value} (h : methV P r m s = some (f, v)) (hr : RV β r r') : ∃ v', RV β v v' ∧ ∀ (args : Array Value) w, (callMethod r' m args).run P w = (callFunc f (#[v'] ++ args)).run P w := by
  unfold methV at h
  split at h <;> try (cases h; done)
  rename_i t u
  split at h <;> try (cases h; done)
  rename_i i hi
  split at h <;> try (cases h; done)
  rename_i me hme
  split at h <;> try (cases h; done)
  rename_i hpath
  split at h <;> try (cases h; done)
  rename_i f' ptr hf
  cases hr with
  | iface _ hu =>
    rename_i u'
    have hfind : i.methods.find? (fun x => x.name == m) = some me := by rw [← Array.find?_toList]; exact hme
    have hfu : ∃ k, P.types.size + Made.depth = k + 1 := ⟨P.types.size + (Made.depth - 1), by simp [Made.depth]⟩
    obtain ⟨k, hk⟩ := hfu
    have key : ∀ w, (receiverAt t (.val u') ptr (if me.path.isEmpty then some ((m.splitOn ".").getLastD m) else none)).run P w = .ok u' w → (∀ (args : Array Value), (callMethod (.iface t u') m args).run P w = (callFunc f' (#[u'] ++ args)).run P w) := by
      intro w hrec args
      simp only [callMethod, Sem.run_bind, run_program, Result.andThen_ok, hk, method, run_info hi, hfind, hpath, follow, Sem.run_pure, hf, hrec]
    split at h <;> try (cases h; done)
    · rename_i e hd
      split at h <;> cases h
      exact ⟨u', hu, fun args w => key w (by simp [receiverAt, run_underlying hd, Place.get]) args⟩
    · rename_i d hnp hd
      split at h <;> cases h
      refine ⟨u', hu, fun args w => key w ?_ args⟩
      simp only [receiverAt, Sem.run_bind, run_underlying hd, Result.andThen_ok]
      simp [Place.get]
theorem evOp_ok {o : Oper} {v : Value} {K : Value → World → Prop} (hc : CallOk P G call) (h : evOp P G call env o.op s = some (v, s')) (hr : Rel G β s w) (he : EnvR β env ρ)
    (hk : ∀ v' w' β', Ev G β s w β' s' w' → RV β' v v' → K v' w') : opVc P o ρ w K := by
  have hg : Gl G β := hr.glob
  unfold evOp at h
  split at h
  · rename_i u hu
    cases h
    obtain ⟨sem, hs, v', hrun, hv⟩ := evP_ok (o := o) hu he hg
    exact opVc_of_sem hs (nil_of hu he hg) (hrun w) (hk _ _ β (.refl hr) hv)
  split at h
  · rename_i u hu
    cases h
    obtain ⟨sem, hs, v', hrun, hv⟩ := evR_ok (o := o) hu he hr
    exact opVc_of_sem hs (fun x hx => absurd hx (evR_nil hu x)) hrun (hk _ _ β (.refl hr) hv)
  split at h
  · rename_i ob mk hu
    cases h
    obtain ⟨sem, hs, v', w', obj, lim, hrun, hheap, hoth, hob, hmk⟩ := evA_ok (o := o) (w := w) hu he hg
    exact opVc_of_sem hs (fun x hx => absurd hx (evA_nil hu x)) hrun (hk _ _ _ (hr.push hheap hoth hob) (hmk _ _ (upB_same _ _ _)))
  · obtain ⟨dst, op, ty, pos, aft, gd⟩ := o
    simp only at h
    unfold evE at h
    split at h <;> try (cases h; done)
    · split at h <;> try (cases h; done)
      rename_i a ha
      split at h <;> try (cases h; done)
      rename_i b hb
      split at h <;> cases h
      rename_i hst
      obtain ⟨w', hrun, hev⟩ := store_ef (P := P) hst hr (evX_ok ha he hg) (evX_ok hb he hg)
      exact ⟨⟨w', hrun, hk _ _ β hev (RV.tuple_of .nil)⟩⟩
    · split at h <;> try (cases h; done)
      rename_i a ha
      obtain ⟨v', w', β', hrun, hev, hv⟩ := next_ef (P := P) h hr (evX_ok ha he hg)
      exact ⟨⟨v', w', hrun, hk _ _ β' hev hv⟩⟩
    · split at h
      · rename_i htu
        have := Nat.eq_of_beq_eq_true htu
        subst this
        split at h <;> try (cases h; done)
        rename_i a ha
        split at h <;> try (cases h; done)
        rename_i b hb
        obtain ⟨v', w', β', hrun, hev, hv⟩ := append_ef (P := P) h hr (evX_ok ha he hg) (evX_ok hb he hg)
        exact ⟨⟨v', w', hrun, hk _ _ β' hev hv⟩⟩
      · split at h <;> try (cases h; done)
        rename_i a ha
        split at h <;> try (cases h; done)
        rename_i b hb
        obtain ⟨v', w', β', hrun, hev, hv⟩ := appendZ_ef (P := P) h hr (evX_ok ha he hg) (evX_ok hb he hg)
        exact ⟨⟨v', w', hrun, hk _ _ β' hev hv⟩⟩
    · split at h <;> try (cases h; done)
      rename_i a ha
      split at h <;> try (cases h; done)
      rename_i b hb
      obtain ⟨v', w', β', hrun, hev, hv⟩ := copy_ef (P := P) h hr (evX_ok ha he hg) (evX_ok hb he hg)
      exact ⟨⟨v', w', hrun, hk _ _ β' hev hv⟩⟩
    · split at h <;> try (cases h; done)
      rename_i l hl
      exact callD.mono' (hc _ _ _ _ _ (mapA (ev ρ) _) _ _ h hr (by simpa [mapA] using evXs_ok hl he hg)) fun v' w' ⟨β', h1, h2⟩ => hk _ _ β' h1 h2
    · split at h <;> try (cases h; done)
      rename_i x args ats _ _ _ _ f cap hx
      split at h <;> try (cases h; done)
      rename_i l hl
      have hfv := he x _ hx
      generalize hfe : ρ x = fv at hfv
      cases hfv with
      | func _ hsz hcp =>
        rename_i cap'
        refine ⟨⟨f, cap', hfe, callD.mono' (hc _ _ _ _ _ (mapA (ev ρ) args ++ cap') _ _ h hr ?_) fun v' w' ⟨β', h1, h2⟩ => hk _ _ β' h1 h2⟩⟩
        have h1 := evXs_ok hl he hg
        have h2 : RL β cap.toList cap'.toList := ⟨by simpa using hsz, fun i v v' g1 g2 => hcp i v v' (by simpa using g1) (by simpa using g2)⟩
        simpa [mapA] using h1.append h2
    · split at h <;> try (cases h; done)
      rename_i r m args ats _ _ _ _ rv hrv
      split at h <;> try (cases h; done)
      rename_i f v0 hm
      split at h <;> try (cases h; done)
      rename_i l hl
      obtain ⟨v', hv', hrun⟩ := meth_run (P := P) hm (evX_ok hrv he hg)
      have h1 := evXs_ok hl he hg
      have hcd := callD.mono' (K := K) (hc _ _ _ f (v0 :: l) (#[v'] ++ mapA (ev ρ) args) _ _ h hr (by simpa [mapA] using RL.cons hv' h1)) fun v' w' ⟨β', h1, h2⟩ => hk _ _ β' h1 h2
      exact ⟨⟨f, _, (hrun _ w).trans (hcd.ex.1 _ w), hcd.ex.2⟩⟩
    · split at h <;> try (cases h; done)
      rename_i xx tt tl _ _ _ _ a ha
      split at h <;> cases h
      rename_i hcv
      obtain ⟨v', w', β', hrun, hev, hv⟩ := cap_ef (P := P) (ty := ty) (ats := ⟨tt :: tl⟩) hcv hr (evX_ok ha he hg) rfl
      exact ⟨⟨v', w', hrun, hk _ _ β' hev hv⟩⟩
    · split at h <;> try (cases h; done)
      rename_i htu
      have := Nat.eq_of_beq_eq_true htu
      subst this
      split at h <;> try (cases h; done)
      rename_i a ha
      obtain ⟨v', w', β', hrun, hev, hv⟩ := mark_ef (P := P) h hr (evX_ok ha he hg)
      exact ⟨⟨v', w', hrun, hk _ _ β' hev hv⟩⟩
theorem EnvR.put {d : Option Tmp} {v v' : Value} (he : EnvR β env ρ) (hv : RV β v v') : EnvR β (putEn env d v) (putE ρ d v') := by
  cases d with
  | none => exact he
  | some d =>
    intro t u hu
    simp only [putEn] at hu
    simp only [putE, upd]
    by_cases hd : t = d
    · subst hd
      rw [Tr.get_put] at hu; cases hu
      simpa using hv
    · rw [Tr.get_put_ne _ _ _ _ (bits_ne hd)] at hu
      have : Nat.beq t d = false := by
        cases hb : Nat.beq t d with
        | false => rfl
        | true => exact absurd (Nat.eq_of_beq_eq_true hb) hd
      simp only [this, cond_false]
      exact he t u hu
theorem slotOf_eq : ∀ (l : List Oper) (j : Nat), slotOf l j = guardSlot l j
  | [], j => by simp [slotOf, guardSlot]
  | o :: l, 0 => by simp [slotOf, guardSlot]
  | o :: l, j + 1 => by simpa [slotOf, guardSlot] using slotOf_eq l j
theorem want_ok {all : List Oper} {g : Option (Nat × Bool)} {b : Bool} (h : wantV all env g = some b) (he : EnvR β env ρ) :
    (g = none ∧ b = true) ∨ ∃ j want t, g = some (j, want) ∧ guardSlot all j = some t ∧ (b = true ↔ ρ t = .bool want) := by
  unfold wantV at h
  cases g with
  | none => simp at h; exact .inl ⟨rfl, h⟩
  | some jw =>
    obtain ⟨j, want⟩ := jw
    simp only at h
    split at h <;> try (cases h; done)
    rename_i t ht
    rw [slotOf_eq] at ht
    refine .inr ⟨j, want, t, rfl, ht, ?_⟩
    split at h <;> try (cases h; done)
    · rename_i c hc
      have := RV.bool_inv (he t _ hc)
      rw [this]
      cases c <;> cases want <;> simp [notB] at h ⊢ <;> simp [← h]
    · rename_i l hl
      cases h
      obtain ⟨l', hl', _⟩ := RL.of_tuple (he t _ hl)
      rw [hl']
      simp
theorem undef_rv : RV β undefV undef := RV.tuple_of .nil
theorem evG_ok {all : List Oper} {o : Oper} {v : Value} {K : Value → World → Prop} (hc : CallOk P G call) (h : evG P G call all env o s = some (v, s')) (hr : Rel G β s w) (he : EnvR β env ρ)
    (hk : ∀ v' w' β', Ev G β s w β' s' w' → RV β' v v' → K v' w') : opG P all o ρ w K := by
  unfold evG at h
  unfold opG
  split at h <;> try (cases h; done)
  · rename_i hw
    rcases want_ok hw he with ⟨hg, _⟩ | ⟨j, want, t, hg, ht, hb⟩
    · rw [hg]; exact evOp_ok hc h hr he hk
    · rw [hg]
      simp only [ht]
      exact ⟨⟨fun _ => evOp_ok hc h hr he hk, fun hn => absurd (hb.1 rfl) hn⟩⟩
  · rename_i hw
    cases h
    rcases want_ok hw he with ⟨hg, hb⟩ | ⟨j, want, t, hg, ht, hb⟩
    · cases hb
    · rw [hg]
      simp only [ht]
      exact ⟨⟨fun hy => absurd (hb.2 hy) (by simp), fun _ => hk _ _ β (.refl hr) undef_rv⟩⟩
theorem evOps_ok {all : List Oper} (hc : CallOk P G call) : ∀ {os : List Oper} {env env' : En} {s s' : St} {β : Beta} {ρ : Go.Vc.Env} {w : World} {K : Go.Vc.Env → World → Prop}, evOps P G call all os env s = some (env', s') → Rel G β s w → EnvR β env ρ →
    (∀ ρ' w' β', Ev G β s w β' s' w' → EnvR β' env' ρ' → K ρ' w') → vcOps P all os ρ w K
  | [], env, env', s, s', β, ρ, w, K, h, hr, he, hk => by
    simp only [evOps, Option.some.injEq, Prod.mk.injEq] at h
    obtain ⟨rfl, rfl⟩ := h
    exact hk _ _ β (.refl hr) he
  | o :: os, env, env', s, s', β, ρ, w, K, h, hr, he, hk => by
    simp only [evOps] at h
    split at h <;> try (cases h; done)
    rename_i v s1 hv
    rw [vcOps_cons]
    exact evG_ok hc hv hr he fun v' w' β' hev hrv => evOps_ok hc h hev.rel ((he.mono hev.le).put hrv) fun ρ' w2 β2 hev2 he2 => hk _ _ β2 (hev.trans hev2) he2
end
end
end Go.Ab
