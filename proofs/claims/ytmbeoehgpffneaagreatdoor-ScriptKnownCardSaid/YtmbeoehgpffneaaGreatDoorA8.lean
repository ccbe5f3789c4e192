/- Equality; two operands. -/
import Derived.Test.YtmbeoehgpffneaaGreatDoorA7
namespace Go.Ab
noncomputable section
section
variable (P : Program)
def eqV : Nat → TypeId → Value → Value → Option Bool
  | 0, _, _, _ => none
  | d + 1, t, x, y =>
    match P.underlying t with
    | some .bool => match x, y with | .bool a, .bool b => some (match a with | true => b | false => notB b) | _, _ => none
    | some (.int _) => match x, y with | .int k a, .int k' b => (match kindEq k k' with | true => some (eqI a b) | false => none) | _, _ => none
    | some .string => match x, y with | .string a, .string b => some (eqBs (strL a) (strL b)) | _, _ => none
    | some (.pointer _) => match x, y with
      | .pointer none, .pointer none => some true
      | .pointer none, .pointer (some _) => some false
      | .pointer (some _), .pointer none => some false
      | _, _ => none
    | some (.interface _) => match x, y with
      | .nilIface, .nilIface => some true
      | .nilIface, .iface _ _ => some false
      | .iface _ _, .nilIface => some false
      | .iface tx vx, .iface ty vy => match Nat.beq tx ty with
        | false => some false
        | true => match P.info? tx with
          | some i => match i.comparable with | true => eqV d tx vx vy | false => none
          | none => none
      | _, _ => none
    | some (.struct fs) => match x, y with
      | .agg xs, .agg ys => match P.stoodInHeld t with
        | true => none
        | false => eqFs (eqV d) xs.toList ys.toList fs.toList
      | _, _ => none
    | some (.slice _) => match x, y with
      | .slice none _ _, .slice none _ _ => some true
      | .slice none _ _, .slice (some _) _ _ => some false
      | .slice (some _) _ _, .slice none _ _ => some false
      | _, _ => none
    | some (.func _ _ _) => match x, y with
      | .nilFunc, .nilFunc => some true
      | .nilFunc, .func _ _ _ => some false
      | .func _ _ _, .nilFunc => some false
      | _, _ => none
    | _ => none
where
  eqFs (rec : TypeId → Value → Value → Option Bool) (xs ys : List Value) : List Field → Option Bool
    | [] => some true
    | f :: fs => match decide (f.name ≠ "_") with
      | false => eqFs rec xs ys fs
      | true => match partL P f.type xs f.offset, partL P f.type ys f.offset with
        | some a, some b => match rec f.type a b with
          | some true => eqFs rec xs ys fs
          | some false => some false
          | none => none
        | _, _ => none
end
section
variable {P : Program} {β : Beta}
theorem eqFs_run {d D : Nat} (rec : TypeId → Value → Value → Option Bool) (hrec : ∀ t x y x' y' r, rec t x y = some r → RV β x x' → RV β y y' → ∀ w, (Op.equalIn D t x' y').run P w = .ok r w) {xs ys xs' ys' : List Value} (hx : RL β xs xs') (hy : RL β ys ys') :
    ∀ {fs : List Field} {r : Bool} (w : World), eqV.eqFs P rec xs ys fs = some r → (Op.eqFields D ⟨xs'⟩ ⟨ys'⟩ fs).run P w = .ok r w
  | [], r, w, h => by simp only [eqV.eqFs, Option.some.injEq] at h; subst h; simp [Op.eqFields]
  | f :: fs, r, w, h => by
    simp only [eqV.eqFs] at h
    split at h
    · rename_i hn
      have hn' : ¬ (f.name ≠ "_") := by simpa using hn
      simp only [Op.eqFields, if_neg hn']
      exact eqFs_run (d := d) rec hrec hx hy w h
    · rename_i hn
      have hn' : f.name ≠ "_" := by simpa using hn
      simp only [Op.eqFields, if_pos hn']
      split at h <;> try (cases h; done)
      rename_i a b ha hb
      obtain ⟨a', h1, h2⟩ := partL_run ha hx
      obtain ⟨b', h3, h4⟩ := partL_run hb hy
      split at h <;> try (cases h; done)
      · rename_i hr
        have := hrec _ _ _ _ _ _ hr h2 h4 w
        simp only [Sem.run_bind, h1, h3, this, Result.andThen_ok, Bool.not_true, Bool.false_eq_true, if_false]
        exact eqFs_run (d := d) rec hrec hx hy w h
      · rename_i hr
        cases h
        have := hrec _ _ _ _ _ _ hr h2 h4 w
        simp [h1, h3, this]
theorem eq_ptr {t e : TypeId} {a b : Option Addr} {D : Nat} {w : World} (hs : P.underlying t = some (.pointer e)) (h : a = none ∨ b = none) : (Op.equalIn (D + 1) t (.pointer a) (.pointer b)).run P w = .ok (a.isNone && b.isNone) w := by
  simp only [Op.equalIn, Sem.run_bind, run_underlying hs, Result.andThen_ok]
  cases a <;> cases b <;> simp at h ⊢
theorem eq_slc {t e : TypeId} {a b : Option Addr} {m n c d : Nat} {D : Nat} {w : World} (hs : P.underlying t = some (.slice e)) (h : a = none ∨ b = none) : (Op.equalIn (D + 1) t (.slice a m c) (.slice b n d)).run P w = .ok (a.isNone && b.isNone) w := by
  simp only [Op.equalIn, Sem.run_bind, run_underlying hs, Result.andThen_ok]
  cases a <;> cases b <;> simp at h ⊢
theorem eq_fn1 {t : TypeId} {p r : Array TypeId} {vr : Bool} {D : Nat} {w : World} (hs : P.underlying t = some (.func p r vr)) : (Op.equalIn (D + 1) t .nilFunc .nilFunc).run P w = .ok true w := by
  simp only [Op.equalIn, Sem.run_bind, run_underlying hs, Result.andThen_ok, Sem.run_pure]
theorem eq_fn2 {t : TypeId} {p r : Array TypeId} {vr : Bool} {f : Fn} {x y : Array Value} {D : Nat} {w : World} (hs : P.underlying t = some (.func p r vr)) : (Op.equalIn (D + 1) t .nilFunc (.func f x y)).run P w = .ok false w := by
  simp only [Op.equalIn, Sem.run_bind, run_underlying hs, Result.andThen_ok, Sem.run_pure]
theorem eq_fn3 {t : TypeId} {p r : Array TypeId} {vr : Bool} {f : Fn} {x y : Array Value} {D : Nat} {w : World} (hs : P.underlying t = some (.func p r vr)) : (Op.equalIn (D + 1) t (.func f x y) .nilFunc).run P w = .ok false w := by
  simp only [Op.equalIn, Sem.run_bind, run_underlying hs, Result.andThen_ok, Sem.run_pure]
theorem eqV_run : ∀ {d D : Nat} {t : TypeId} {x y x' y' : Value} {r : Bool}, d ≤ D → eqV P d t x y = some r → RV β x x' → RV β y y' → ∀ w, (Op.equalIn D t x' y').run P w = .ok r w
  | 0, D, t, x, y, x', y', r, _, h, _, _ => by cases h
  | d + 1, 0, t, x, y, x', y', r, hD, h, _, _ => by omega
  | d + 1, D + 1, t, x, y, x', y', r, hD, h, hx, hy => by
    intro w
    unfold eqV at h
    split at h <;> try (cases h; done)
    · rename_i hs
      split at h <;> try (cases h; done)
      cases hx; cases hy
      rename_i a b
      cases h
      simp only [Op.equalIn, Sem.run_bind, run_underlying hs, Result.andThen_ok, Sem.run_pure]
      cases a <;> cases b <;> rfl
    · rename_i hs
      split at h <;> try (cases h; done)
      cases hx; cases hy
      split at h <;> try (cases h; done)
      rename_i hk
      cases h
      have := kindEq_eq hk
      subst this
      simp [Op.equalIn, run_underlying hs, eqI_eq]
    · rename_i hs
      split at h <;> try (cases h; done)
      cases hx; cases hy
      cases h
      simp [Op.equalIn, run_underlying hs, beq_toListBytes, eqBs_eq, strL_eq]
    · rename_i hs
      split at h <;> try (cases h; done)
      · cases h; cases hx; cases hy; exact eq_ptr hs (.inl rfl)
      · cases h; cases hx; cases hy <;> exact eq_ptr hs (.inl rfl)
      · cases h; cases hy; cases hx <;> exact eq_ptr hs (.inr rfl)
    · rename_i hs
      split at h <;> try (cases h; done)
      · cases h; cases hx; cases hy; simp [Op.equalIn, run_underlying hs]
      · cases h; cases hx; cases hy; simp [Op.equalIn, run_underlying hs]
      · cases h; cases hx; cases hy; simp [Op.equalIn, run_underlying hs]
      · rename_i tx vx ty vy
        cases hx with
        | iface _ hvx =>
          cases hy with
          | iface _ hvy =>
            split at h
            · rename_i ht
              cases h
              have hne : tx ≠ ty := fun he => by subst he; simp at ht
              simp [Op.equalIn, run_underlying hs, hne]
            · rename_i ht
              have := Nat.eq_of_beq_eq_true ht
              subst this
              split at h <;> try (cases h; done)
              rename_i i hi
              split at h <;> try (cases h; done)
              rename_i hc
              have := eqV_run (by omega : d ≤ D) h hvx hvy w
              simp [Op.equalIn, run_underlying hs, run_info hi, hc, this]
    · rename_i fs hs
      split at h <;> try (cases h; done)
      split at h <;> try (cases h; done)
      rename_i hst
      obtain ⟨xs', rfl, hxl⟩ := RL.of_agg hx
      obtain ⟨ys', rfl, hyl⟩ := RL.of_agg hy
      have hf : P.fieldsOf t = fs := by simp [Program.fieldsOf, hs]
      rw [run_equalIn_struct w D t xs' ys' (by rw [hf]; exact hs) hst, hf]
      exact eqFs_run (d := d) (eqV P d) (fun t x y x' y' r hr h1 h2 w => eqV_run (by omega) hr h1 h2 w) hxl hyl w h
    · rename_i hs
      split at h <;> try (cases h; done)
      · cases h; cases hx; cases hy; exact eq_slc hs (.inl rfl)
      · cases h; cases hx; cases hy <;> exact eq_slc hs (.inl rfl)
      · cases h; cases hy; cases hx <;> exact eq_slc hs (.inr rfl)
    · rename_i hs
      split at h <;> try (cases h; done)
      · cases h; cases hx; cases hy; exact eq_fn1 hs
      · cases h; cases hx; cases hy; exact eq_fn2 hs
      · cases h; cases hy; cases hx; exact eq_fn3 hs
end

section
variable (P : Program)
def isEqOp : BinOp → Bool
  | .eql | .neq => true
  | _ => false
def isConst : Operand → Bool
  | .const _ => true
  | _ => false
/-- Is what is asked ahead of == answered? -/
def guardV (t : TypeId) (x y : Operand) (a b : Value) : Bool :=
  match a, b with
  | .nilIface, .nilIface => isConst x || isConst y
  | .agg _, .agg _ => notB (P.eqGuardType P.depth t)
  | _, _ => true
def binV (op : BinOp) (t : TypeId) (x y : Operand) (a b : Value) : Option Value :=
  match a, b with
  | .int k m, .int k' n => match op with
    | .shl | .shr => shiftF op k m n
    | _ => match kindEq k k' with | true => arith op k m n | false => none
  | .string m, .string n => strOp op m n
  | a, b => match guardV P t x y a b with
    | true => match op with
      | .eql => match eqV P 40 t a b with | some r => some (.bool r) | none => none
      | .neq => match eqV P 40 t a b with | some r => some (.bool (notB r)) | none => none
      | _ => none
    | false => none
end
section
variable {P : Program} {β : Beta}
theorem guard_run {op : BinOp} {t : TypeId} {x y : Operand} {a b a' b' : Value} (h : guardV P t x y a b = true) (ha : RV β a a') (hb : RV β b b') (w : World) : (eqGuard op t x y a' b').run P w = .ok () w := by
  cases ha <;> cases hb <;> first
    | (cases op <;> (simp [eqGuard]; done))
    | (simp only [guardV, Bool.or_eq_true] at h
       rcases h with h | h
       · cases x <;> first | (cases op <;> simp [eqGuard]; done) | cases h
       · cases y <;> first | (cases op <;> simp [eqGuard]; done) | cases h)
    | (simp only [guardV, notB_eq, Bool.not_eq_true'] at h
       exact run_eqGuard_agg w op t x y _ _ h)
theorem bin_pu {op : BinOp} {t : TypeId} {x y : Operand} {a b a' b' v : Value} (h : binV P op t x y a b = some v) (ha : RV β a a') (hb : RV β b b') : Pu P β (do eqGuard op t x y a' b'; binOp op t a' b') v := by
  have gi : ∀ {k k' : IntKind} {m n : Int} (w : World), (eqGuard op t x y (.int k m) (.int k' n)).run P w = .ok () w := fun w => by cases op <;> simp [eqGuard]
  have gs : ∀ {m n : ByteArray} (w : World), (eqGuard op t x y (.string m) (.string n)).run P w = .ok () w := fun w => by cases op <;> simp [eqGuard]
  unfold binV at h
  split at h
  · rename_i k m k' n
    cases ha; cases hb
    split at h
    · have : ∃ v', v = v' ∧ RV β v v' := by
        unfold shiftF at h
        split at h <;> try (cases h; done)
        simp only [Option.some.injEq] at h
        subst h; exact ⟨_, rfl, .int _ _⟩
      obtain ⟨v', rfl, hv⟩ := this
      exact pu (fun w => by simp only [Sem.run_bind, gi, Result.andThen_ok]; exact shiftF_run h) hv
    · have : ∃ v', v = v' ∧ RV β v v' := by
        unfold shiftF at h
        split at h <;> try (cases h; done)
        simp only [Option.some.injEq] at h
        subst h; exact ⟨_, rfl, .int _ _⟩
      obtain ⟨v', rfl, hv⟩ := this
      exact pu (fun w => by simp only [Sem.run_bind, gi, Result.andThen_ok]; exact shiftF_run h) hv
    · split at h <;> try (cases h; done)
      rename_i hk
      have := kindEq_eq hk
      subst this
      have hv : RV β v v := by
        cases op <;> simp only [arith, Option.some.injEq, Option.map_eq_some_iff, reduceCtorEq] at h
        all_goals first
          | (subst h; constructor; done)
          | (obtain ⟨r, _, rfl⟩ := h; constructor; done)
          | (split at h <;> first | (cases h; done) | (cases h; constructor))
      exact pu (fun w => by simp only [Sem.run_bind, gi, Result.andThen_ok]; exact arith_run h) hv
  · cases ha; cases hb
    have hv : RV β v v := by
      cases op <;> simp only [strOp, Option.some.injEq, reduceCtorEq] at h
      all_goals first
        | (subst h; constructor; done)
        | (split at h <;> first | (cases h; done) | (cases h; constructor))
    exact pu (fun w => by
      simp only [Sem.run_bind, gs, Result.andThen_ok]
      have := strOp_run (P := P) (w := w) h
      cases op <;> exact this) hv
  · rename_i hni hns
    split at h <;> try (cases h; done)
    rename_i hg
    have key : ∀ r, eqV P 40 t a b = some r → ∀ w, (Op.equal t a' b').run P w = .ok r w := fun r hr w => eqV_run (by decide) hr ha hb w
    have hb1 : ∀ w r, eqV P 40 t a b = some r → (binOp .eql t a' b').run P w = .ok (.bool r) w := by
      intro w r hr
      have := key r hr w
      cases ha <;> cases hb <;> first
        | (exact absurd rfl (hni _ _ _ _ rfl); done)
        | (exact (hni _ _ _ _ rfl rfl).elim)
        | (exact (hns _ _ rfl rfl).elim)
        | (simp [binOp, this]; done)
    have hb2 : ∀ w r, eqV P 40 t a b = some r → (binOp .neq t a' b').run P w = .ok (.bool (!r)) w := by
      intro w r hr
      have := key r hr w
      cases ha <;> cases hb <;> first
        | (exact (hni _ _ _ _ rfl rfl).elim)
        | (exact (hns _ _ rfl rfl).elim)
        | (simp [binOp, this]; done)
    split at h <;> try (cases h; done)
    · split at h <;> cases h
      rename_i r hr
      exact pu (fun w => by simp only [Sem.run_bind, guard_run hg ha hb, Result.andThen_ok]; exact hb1 w r hr) (.bool _)
    · split at h <;> cases h
      rename_i r hr
      exact pu (fun w => by simp only [Sem.run_bind, guard_run hg ha hb, Result.andThen_ok, notB_eq]; exact hb2 w r hr) (.bool _)
end
end
end Go.Ab
