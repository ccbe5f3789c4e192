/- One operation: the evaluator, and the condition that it meets. -/
import Derived.Test.YtmbeoehgpffneaaGreatDoorVc
import Derived.Test.YtmbeoehgpffneaaGreatDoorA12
set_option linter.unusedVariables false
namespace Go.Ab
noncomputable section
open Go.Vc (opVc ev mapA mapA_eq callD dynD invD upd putE isEq)

abbrev En := Tr Value
def evX (G : Nat → Bool) (env : En) : Operand → Option Value
  | .tmp t => Tr.get (bits t) env
  | .const v => match gnd v with | true => some v | false => none
  | .global g => match G g with | true => some (.pointer (some ⟨g, 0, none⟩)) | false => none
  | .func f => some (.func (.func f) ⟨[]⟩ ⟨[]⟩)
def evXs (G : Nat → Bool) (env : En) : List Operand → Option (List Value)
  | [] => some []
  | x :: l => match evX G env x with
    | some v => match evXs G env l with | some r => some (v :: r) | none => none
    | none => none
def evParts (G : Nat → Bool) (env : En) : List (Nat × Operand) → Option (List (Nat × Value))
  | [] => some []
  | (i, x) :: l => match evX G env x with
    | some v => match evParts G env l with | some r => some ((i, v) :: r) | none => none
    | none => none
def evO (G : Nat → Bool) (env : En) : Option Operand → Option (Option Value)
  | none => some none
  | some x => match evX G env x with | some v => some (some v) | none => none
def undefV : Value := .tuple ⟨[]⟩

section
variable (P : Program) (G : Nat → Bool) (env : En)
/-- What neither reads nor writes. -/
def evP (op : Op) : Option Value :=
  match op with
  | .move x | .assign x => evX G env x
  | .pick c a b => match evX G env c with
    | some (.bool true) => evX G env a
    | some (.bool false) => evX G env b
    | _ => none
  | .build t parts => match evParts G env parts.toList with | some l => buildV P t l | none => none
  | .binOp op t x y _ => match evX G env x with
    | some a => match evX G env y with | some b => binV P op t x y a b | none => none
    | none => none
  | .unOp op _ x => match evX G env x with | some a => unV op a | none => none
  | .convert s d x => match evX G env x with | some a => convV P s d a | none => none
  | .makeInterface t x => match evX G env x with | some a => makeIfaceV P t a | none => none
  | .makeFunc (.func f) ⟨[]⟩ captured => match evXs G env captured.toList with | some l => some (.func (.func f) ⟨[]⟩ ⟨l⟩) | none => none
  | .slice t x lo hi none => match evX G env x with
    | some a => match evO G env lo with
      | some l => match evO G env hi with | some h => sliceV P t a l h | none => none
      | none => none
    | none => none
  | .fieldAddr s x f => match evX G env x with | some a => fieldAtV P s a f | none => none
  | .field t x f => match evX G env x with | some a => fieldV P t a f | none => none
  | .indexAddr t x i => match evX G env x with
    | some a => match evX G env i with | some b => indexAtV P t a b | none => none
    | none => none
  | .index t x i => match evX G env x with
    | some a => match evX G env i with | some b => indexV P t a b | none => none
    | none => none
  | .nilCheck x => match evX G env x with
    | some (.pointer (some a)) => some (.pointer (some a))
    | some (.iface t u) => some (.iface t u)
    | _ => none
  | .typeAssert x _ u ok => match evX G env x with | some a => assertV P a u ok | none => none
  | .extract x i => match evX G env x with | some a => extractV a i | none => none
  | .call ⟨.builtin .len, ⟨[x]⟩, ⟨t :: _⟩⟩ => match evX G env x with | some a => lenV P t a | none => none
  | .call ⟨.builtin .min, args, _⟩ => match evXs G env args.toList with | some (a :: l) => foldV min2V a l | _ => none
  | .call ⟨.builtin .max, args, _⟩ => match evXs G env args.toList with | some (a :: l) => foldV max2V a l | _ => none
  | _ => none
/-- What reads. -/
def evR (op : Op) (s : St) : Option Value :=
  match op with
  | .load t x => match evX G env x with | some a => loadV P t a s | none => none
  | .slice t x lo hi none => match evX G env x with
    | some a => match evO G env lo with
      | some l => match evO G env hi with | some h => sliceArrV P t a l h s | none => none
      | none => none
    | none => none
  | .convert sT d x => match evX G env x with | some a => toStrV P sT d a s | none => none
  | _ => none
/-- What makes a block. -/
def evA (op : Op) : Option (Ob × (Nat → Value)) :=
  match op with
  | .alloc t => match allocA P t with | some ob => some (ob, ptrTo) | none => none
  | .box _ x => match evX G env x with | some a => some (boxA a, ptrTo) | none => none
  | .buildSlice t len parts => match evParts G env parts.toList with
    | some l => match buildSliceA P t len l with | some (ob, m) => some (ob, fun id => .slice (some ⟨id, 0, none⟩) len m) | none => none
    | none => none
  | .makeSlice t l c => match evX G env l with
    | some a => match evX G env c with
      | some b => match makeSliceA P t a b with | some (ob, n, m) => some (ob, fun id => .slice (some ⟨id, 0, none⟩) n m) | none => none
      | none => none
    | none => none
  | .convert sT d x => match evX G env x with
    | some a => match toBytesA P sT d a with | some (ob, n) => some (ob, fun id => .slice (some ⟨id, 0, none⟩) n 1) | none => none
    | none => none
  | .range t x => match evX G env x with
    | some a => match rangeA P t a with | some ob => some (ob, ptrTo) | none => none
    | none => none
  | _ => none
/-- The function that a method of an interface value is, and its receiver. -/
def methV (r : Value) (m : String) (s : St) : Option (FuncId × Value) :=
  match r with
  | .iface t v => match P.info? t with
    | some i => match i.methods.toList.find? (fun x => x.name == m) with
      | some me => match me.path.toList with
        | [] => match me.func with
          | some (f, ptr) => match P.underlying t with
            | some (.pointer _) => match ptr with | true => some (f, v) | false => none
            | some _ => match ptr with | true => none | false => some (f, v)
            | none => none
          | none => none
        | _ => none
      | none => none
    | none => none
  | _ => none
def evE (call : FuncId → List Value → St → Option (Value × St)) (op : Op) (s : St) : Option (Value × St) :=
  match op with
  | .store t x v => match evX G env x with
    | some a => match evX G env v with
      | some b => match storeE P t a b s with | some s' => some (undefV, s') | none => none
      | none => none
    | none => none
  | .next x true => match evX G env x with | some a => nextE a s | none => none
  | .call ⟨.builtin .append, ⟨[x, y]⟩, ⟨[t, u]⟩⟩ => match Nat.beq t u with
    | true => match evX G env x with
      | some a => match evX G env y with | some b => appendE P G t a b s | none => none
      | none => none
    | false => match evX G env x with
      | some a => match evX G env y with | some b => appendZ P t u a b s | none => none
      | none => none
  | .call ⟨.builtin .copy, ⟨[x, y]⟩, ⟨[t, _]⟩⟩ => match evX G env x with
    | some a => match evX G env y with | some b => copyE P t a b s | none => none
    | none => none
  | .call ⟨.value (.func f), args, _⟩ => match evXs G env args.toList with | some l => call f l s | none => none
  | .call ⟨.value (.tmp x), args, _⟩ => match Tr.get (bits x) env with
    | some (.func (.func f) ⟨[]⟩ cap) => match evXs G env args.toList with | some l => call f (l ++ cap.toList) s | none => none
    | _ => none
  | .call ⟨.invoke r m, args, _⟩ => match evX G env r with
    | some v => match methV P v m s with
      | some (f, rv) => match evXs G env args.toList with | some l => call f (rv :: l) s | none => none
      | none => none
    | none => none
  | .call ⟨.builtin .cap, ⟨[x]⟩, ⟨t :: _⟩⟩ => match evX G env x with
    | some a => match capE P t a with | some v => some (v, s) | none => none
    | none => none
  | .convert sT d x => match Nat.beq sT d with
    | true => match evX G env x with | some a => markE P sT a s | none => none
    | false => none
  | _ => none
end

/-! ### It meets its condition -/
def EnvR (β : Beta) (env : En) (ρ : Go.Vc.Env) : Prop := ∀ t v, Tr.get (bits t) env = some v → RV β v (ρ t)
theorem EnvR.mono {β β' : Beta} {env : En} {ρ : Go.Vc.Env} (h : Le β β') (he : EnvR β env ρ) : EnvR β' env ρ := fun t v hv => (he t v hv).mono h
def Gl (G : Nat → Bool) (β : Beta) : Prop := ∀ g, G g = true → ∃ lim, β g = .live g 0 lim
section
variable {P : Program} {G : Nat → Bool} {β : Beta} {env : En} {ρ : Go.Vc.Env}
theorem RV.bool_inv {b : Bool} {v : Value} (h : RV β (.bool b) v) : v = .bool b := by cases h; rfl
theorem evX_ok {x : Operand} {v : Value} (h : evX G env x = some v) (he : EnvR β env ρ) (hg : Gl G β) : RV β v (ev ρ x) := by
  cases x with
  | tmp t => exact he t v h
  | const u =>
    simp only [evX] at h
    split at h <;> cases h
    rename_i hgn
    exact gnd_rv hgn
  | global g =>
    simp only [evX] at h
    split at h <;> cases h
    rename_i hgg
    obtain ⟨lim, hl⟩ := hg g hgg
    have := RV.ptr (o := 0) hl
    simpa [ev] using this
  | func f =>
    simp only [evX, Option.some.injEq] at h
    subst h
    exact .func f rfl fun i v v' h _ => by simp at h
theorem evXs_ok : ∀ {l : List Operand} {vs : List Value}, evXs G env l = some vs → EnvR β env ρ → Gl G β → RL β vs (l.map (ev ρ))
  | [], vs, h, _, _ => by simp only [evXs, Option.some.injEq] at h; subst h; exact .nil
  | x :: l, vs, h, he, hg => by
    simp only [evXs] at h
    split at h <;> try (cases h; done)
    rename_i v hv
    split at h <;> cases h
    rename_i r hr
    exact .cons (evX_ok hv he hg) (evXs_ok hr he hg)
theorem evParts_ok : ∀ {l : List (Nat × Operand)} {vs : List (Nat × Value)}, evParts G env l = some vs → EnvR β env ρ → Gl G β →
    vs.map (·.1) = (l.map fun (i, x) => (i, ev ρ x)).map (·.1) ∧ RL β (vs.map (·.2)) ((l.map fun (i, x) => (i, ev ρ x)).map (·.2))
  | [], vs, h, _, _ => by simp only [evParts, Option.some.injEq] at h; subst h; exact ⟨rfl, .nil⟩
  | (i, x) :: l, vs, h, he, hg => by
    simp only [evParts] at h
    split at h <;> try (cases h; done)
    rename_i v hv
    split at h <;> cases h
    rename_i r hr
    obtain ⟨h1, h2⟩ := evParts_ok hr he hg
    exact ⟨by simp at h1 ⊢; exact h1, by simpa using RL.cons (evX_ok hv he hg) (by simpa using h2)⟩
theorem evO_ok {x : Option Operand} {v : Option Value} (h : evO G env x = some v) (he : EnvR β env ρ) (hg : Gl G β) : v = none ∧ x.map (ev ρ) = none ∨ ∃ u u', v = some u ∧ x.map (ev ρ) = some u' ∧ RV β u u' := by
  cases x with
  | none => simp only [evO, Option.some.injEq] at h; subst h; exact .inl ⟨rfl, rfl⟩
  | some x =>
    simp only [evO] at h
    split at h <;> cases h
    rename_i v hv
    exact .inr ⟨v, _, rfl, rfl, evX_ok hv he hg⟩
/-- What an operation that neither reads nor writes is, as the model runs it. -/
def semP (P : Program) (ρ : Go.Vc.Env) (o : Oper) : Option (Sem Value) :=
  match o.op with
  | .move x | .assign x => some (pure (ev ρ x))
  | .pick c a b => some (do pure (if ← asBool (ev ρ c) then ev ρ a else ev ρ b))
  | .build t parts => some (Instr.build t (mapA (fun (i, x) => (i, ev ρ x)) parts))
  | .binOp op t x y _ => some (do eqGuard op t x y (ev ρ x) (ev ρ y); binOp op t (ev ρ x) (ev ρ y))
  | .unOp op _ x => some (Op.unary op (ev ρ x))
  | .convert s d x => some (convert s d (ev ρ x))
  | .makeInterface t x => some (Instr.makeInterface t (ev ρ x))
  | .makeFunc fn first captured => some (Instr.makeFunc fn (mapA (ev ρ) first) (mapA (ev ρ) captured))
  | .slice t x lo hi mx => some (Instr.sliceAt t (ev ρ x) (lo.map (ev ρ)) (hi.map (ev ρ)) (mx.map (ev ρ)))
  | .fieldAddr s x f => some (Instr.fieldAt s (ev ρ x) f)
  | .field t x f => some (Instr.field t (ev ρ x) f)
  | .indexAddr t x i => some (Instr.indexAt t (ev ρ x) (ev ρ i))
  | .index t x i => some (Instr.index t (ev ρ x) (ev ρ i))
  | .nilCheck x => some (pure (ev ρ x))
  | .typeAssert x t u ok => some (Instr.typeAssert (ev ρ x) t u ok)
  | .extract t i => some (Instr.extract (ev ρ t) i)
  | .load t a => some (Instr.loadAt t (ev ρ a))
  | .alloc t => some (Instr.alloc t true (.tuple #[]))
  | .box t x => some (Instr.box t (ev ρ x))
  | .buildSlice t len parts => some (Instr.buildSlice t len (mapA (fun (i, x) => (i, ev ρ x)) parts))
  | .makeSlice t l c => some (Instr.makeSlice t (ev ρ l) (ev ρ c))
  | .range t x => some (Instr.range t (ev ρ x))
  | .call { callee := .builtin .len, args, argTypes } => some (Builtin.len_ argTypes o.type (mapA (ev ρ) args))
  | .call { callee := .builtin .min, args, argTypes } => some (Builtin.min_ argTypes o.type (mapA (ev ρ) args))
  | .call { callee := .builtin .max, args, argTypes } => some (Builtin.max_ argTypes o.type (mapA (ev ρ) args))
  | _ => none
theorem evP_ok {o : Oper} {v : Value} (h : evP P G env o.op = some v) (he : EnvR β env ρ) (hg : Gl G β) : ∃ sem, semP P ρ o = some sem ∧ Pu P β sem v := by
  obtain ⟨dst, op, ty, pos, aft, gd⟩ := o
  simp only at h
  unfold evP at h
  split at h <;> try (cases h; done)
  · exact ⟨_, rfl, pu (fun w => by simp) (evX_ok h he hg)⟩
  · exact ⟨_, rfl, pu (fun w => by simp) (evX_ok h he hg)⟩
  · split at h <;> try (cases h; done)
    · rename_i c a b hc
      have hce := RV.bool_inv (evX_ok hc he hg)
      exact ⟨_, rfl, pu (fun w => by simp [hce, asBool]) (evX_ok h he hg)⟩
    · rename_i c a b hc
      have hce := RV.bool_inv (evX_ok hc he hg)
      exact ⟨_, rfl, pu (fun w => by simp [hce, asBool]) (evX_ok h he hg)⟩
  · split at h <;> try (cases h; done)
    rename_i l hl
    obtain ⟨h1, h2⟩ := evParts_ok hl he hg
    exact ⟨_, rfl, build_pu h (by simpa [mapA] using h1) (by simpa [mapA] using h2)⟩
  · split at h <;> try (cases h; done)
    rename_i a ha
    split at h <;> try (cases h; done)
    rename_i b hb
    exact ⟨_, rfl, bin_pu h (evX_ok ha he hg) (evX_ok hb he hg)⟩
  · split at h <;> try (cases h; done)
    rename_i a ha
    exact ⟨_, rfl, un_pu h (evX_ok ha he hg)⟩
  · split at h <;> try (cases h; done)
    rename_i a ha
    exact ⟨_, rfl, conv_pu h (evX_ok ha he hg)⟩
  · split at h <;> try (cases h; done)
    rename_i a ha
    exact ⟨_, rfl, makeIface_pu h (evX_ok ha he hg)⟩
  · split at h <;> cases h
    rename_i f cap _ l hl
    have := evXs_ok hl he hg
    refine ⟨_, rfl, pu (v' := .func (.func f) #[] (mapA (ev ρ) cap)) (fun w => by simp [Instr.makeFunc, mapA]) (.func f (by have := this.1; simpa [mapA] using this) fun i v v' h1 h2 => this.2 i v v' (by simpa using h1) (by simpa [mapA] using h2))⟩
  · split at h <;> try (cases h; done)
    rename_i a ha
    split at h <;> try (cases h; done)
    rename_i l hl
    split at h <;> try (cases h; done)
    rename_i hh hhh
    exact ⟨_, rfl, slice_pu h (evX_ok ha he hg) (evO_ok hl he hg) (evO_ok hhh he hg)⟩
  · split at h <;> try (cases h; done)
    rename_i a ha
    exact ⟨_, rfl, fieldAt_pu h (evX_ok ha he hg)⟩
  · split at h <;> try (cases h; done)
    rename_i a ha
    exact ⟨_, rfl, field_pu h (evX_ok ha he hg)⟩
  · split at h <;> try (cases h; done)
    rename_i a ha
    split at h <;> try (cases h; done)
    rename_i b hb
    exact ⟨_, rfl, indexAt_pu h (evX_ok ha he hg) (evX_ok hb he hg)⟩
  · split at h <;> try (cases h; done)
    rename_i a ha
    split at h <;> try (cases h; done)
    rename_i b hb
    exact ⟨_, rfl, index_pu h (evX_ok ha he hg) (evX_ok hb he hg)⟩
  · split at h <;> cases h
    · rename_i x a ha
      exact ⟨_, rfl, pu (fun w => by simp) (evX_ok ha he hg)⟩
    · rename_i x t u ha
      exact ⟨_, rfl, pu (fun w => by simp) (evX_ok ha he hg)⟩
  · split at h <;> try (cases h; done)
    rename_i a ha
    exact ⟨_, rfl, assert_pu h (evX_ok ha he hg)⟩
  · split at h <;> try (cases h; done)
    rename_i a ha
    exact ⟨_, rfl, extract_pu h (evX_ok ha he hg)⟩
  · split at h <;> try (cases h; done)
    rename_i x t l a ha
    exact ⟨_, rfl, len_pu h (evX_ok ha he hg) (by simp)⟩
  · split at h <;> try (cases h; done)
    rename_i args ats a l hl
    exact ⟨_, rfl, min_pu h (by simpa [mapA] using evXs_ok hl he hg)⟩
  · split at h <;> try (cases h; done)
    rename_i args ats a l hl
    exact ⟨_, rfl, max_pu h (by simpa [mapA] using evXs_ok hl he hg)⟩
theorem evR_ok {o : Oper} {v : Value} {s : St} {w : World} (h : evR P G env o.op s = some v) (he : EnvR β env ρ) (hr : Rel G β s w) : ∃ sem, semP P ρ o = some sem ∧ Rd P β w sem v := by
  obtain ⟨dst, op, ty, pos, aft, gd⟩ := o
  simp only at h
  unfold evR at h
  have hg : Gl G β := hr.glob
  split at h <;> try (cases h; done)
  · split at h <;> try (cases h; done)
    rename_i a ha
    exact ⟨_, rfl, load_rd h hr (evX_ok ha he hg)⟩
  · split at h <;> try (cases h; done)
    rename_i a ha
    split at h <;> try (cases h; done)
    rename_i l hl
    split at h <;> try (cases h; done)
    rename_i hh hhh
    exact ⟨_, rfl, sliceArr_rd h hr (evX_ok ha he hg) (evO_ok hl he hg) (evO_ok hhh he hg)⟩
  · split at h <;> try (cases h; done)
    rename_i a ha
    exact ⟨_, rfl, toStr_rd h hr (evX_ok ha he hg)⟩
theorem evA_ok {o : Oper} {ob : Ob} {mk : Nat → Value} {w : World} (h : evA P G env o.op = some (ob, mk)) (he : EnvR β env ρ) (hg : Gl G β) : ∃ sem, semP P ρ o = some sem ∧ Nw P β w sem ob mk := by
  obtain ⟨dst, op, ty, pos, aft, gd⟩ := o
  simp only at h
  unfold evA at h
  split at h <;> try (cases h; done)
  · split at h <;> cases h
    rename_i ob hob
    exact ⟨_, rfl, alloc_nw hob⟩
  · split at h <;> cases h
    rename_i a ha
    exact ⟨_, rfl, box_nw (evX_ok ha he hg)⟩
  · split at h <;> try (cases h; done)
    rename_i l hl
    split at h <;> cases h
    rename_i m hm
    obtain ⟨h1, h2⟩ := evParts_ok hl he hg
    exact ⟨_, rfl, buildSlice_nw hm (by simpa [mapA] using h1) (by simpa [mapA] using h2)⟩
  · split at h <;> try (cases h; done)
    rename_i a ha
    split at h <;> try (cases h; done)
    rename_i b hb
    split at h <;> cases h
    rename_i n m hm
    exact ⟨_, rfl, makeSlice_nw hm (evX_ok ha he hg) (evX_ok hb he hg)⟩
  · split at h <;> try (cases h; done)
    rename_i a ha
    split at h <;> cases h
    rename_i n hm
    exact ⟨_, rfl, toBytes_nw hm (evX_ok ha he hg)⟩
  · split at h <;> try (cases h; done)
    rename_i a ha
    split at h <;> cases h
    rename_i hm
    exact ⟨_, rfl, range_nw hm (evX_ok ha he hg)⟩
end
end
end Go.Ab
