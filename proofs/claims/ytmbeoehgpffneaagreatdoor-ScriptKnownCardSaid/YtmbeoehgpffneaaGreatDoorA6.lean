/- Operations that neither read nor write: the rest. -/
import Derived.Test.YtmbeoehgpffneaaGreatDoorA5
namespace Go.Ab
noncomputable section
section
variable {P : Program} {β : Beta}

theorem bounds_run {isS : Bool} {len cap l h : Nat} {lo hi : Option Value} {w : World} (hh : ((match hi with | some v => Instr.sliceBound v cap (if isS then .sliceAcap else .sliceAlen) | none => pure len : Sem Nat)).run P w = .ok h w)
    (hl : ((match lo with | some v => Instr.sliceBound v h .sliceB | none => pure 0 : Sem Nat)).run P w = .ok l w) : (Instr.sliceBounds isS len cap lo hi none).run P w = .ok (l, h, cap) w := by
  cases hi with
  | none =>
    have : len = h := by simpa using hh
    subst this
    cases lo with
    | none => have : 0 = l := by simpa using hl
              subst this; simp [Instr.sliceBounds]
    | some v => simp only at hl; simp [Instr.sliceBounds, hl]
  | some u =>
    simp only at hh
    cases lo with
    | none => have : 0 = l := by simpa using hl
              subst this; simp [Instr.sliceBounds, hh]
    | some v => simp only at hl; simp [Instr.sliceBounds, hh, hl]
theorem bound_le {x : Option Value} {d m n : Nat} (h : boundV x d m = some n) (hd : d ≤ m) : n ≤ m := by
  unfold boundV at h
  split at h
  · cases h; exact hd
  · split at h
    · split at h
      · rename_i hb; rw [Nat.ble_eq] at hb; cases h; exact hb
      · cases h
    · cases h
  · cases h
theorem slice_pu {t : TypeId} {x x' v : Value} {lo lo' hi hi' : Option Value} (h : sliceV P t x lo hi = some v) (hx : RV β x x')
    (hlo : lo = none ∧ lo' = none ∨ ∃ v v', lo = some v ∧ lo' = some v' ∧ RV β v v') (hhi : hi = none ∧ hi' = none ∨ ∃ v v', hi = some v ∧ hi' = some v' ∧ RV β v v') : Pu P β (Instr.sliceAt t x' lo' hi' none) v := by
  unfold sliceV at h
  split at h <;> try (cases h; done)
  · rename_i hs
    split at h <;> try (cases h; done)
    rename_i s
    split at h <;> try (cases h; done)
    rename_i hh hb1
    split at h <;> try (cases h; done)
    rename_i ll hb2
    cases h
    cases hx
    rw [strSize_eq] at hb1
    have h3 := bound_le hb1 (Nat.le_refl _)
    have h4 := bound_le hb2 (Nat.zero_le _)
    refine pu (v' := .string (s.extract ll hh)) (fun w => ?_) ?_
    · have := bounds_run (isS := false) (P := P) (w := w) (bound_run (code := .sliceAlen) hb1 hhi (Nat.le_refl _) w) (bound_run (code := .sliceB) hb2 hlo (Nat.le_refl _) w)
      simp [Instr.sliceAt, Instr.slice, run_underlying hs, this]
    · have : s.extract ll hh = ⟨⟨((strL s).drop ll).take (hh - ll)⟩⟩ := by
        apply Go.WideShapes.bytes_inj
        simp [strL, ByteArray.data_extract, List.take_drop]
      rw [this]; exact .string _
  · rename_i e hs
    split at h <;> try (cases h; done)
    · split at h <;> try (cases h; done)
      rename_i hh hb1
      split at h <;> try (cases h; done)
      rename_i ll hb2
      split at h <;> try (cases h; done)
      rename_i mm hmm
      have hms : ∃ m, szOf P e = some m := ⟨mm, hmm⟩
      cases h
      cases hx
      have h3 := bound_le hb1 (Nat.le_refl _)
      obtain rfl : hh = 0 := by omega
      have h4 := bound_le hb2 (Nat.le_refl _)
      obtain rfl : ll = 0 := by omega
      refine pu (v' := .slice none 0 0) (fun w => ?_) .snil
      have hm : ∃ m, szOf P e = some m := hms
      obtain ⟨m, hm⟩ := hm
      have := bounds_run (isS := true) (P := P) (w := w) (bound_run (code := .sliceAcap) hb1 hhi (Nat.le_refl _) w) (bound_run (code := .sliceB) hb2 hlo (Nat.le_refl _) w)
      simp [Instr.sliceAt, Instr.slice, run_underlying hs, this, run_szOf hm]
    · rename_i b o len sz
      split at h <;> try (cases h; done)
      rename_i hh hb1
      split at h <;> try (cases h; done)
      rename_i ll hb2
      split at h <;> try (cases h; done)
      rename_i m hm
      split at h <;> try (cases h; done)
      rename_i hms
      have := Nat.eq_of_beq_eq_true hms
      subst this
      cases h
      have h3 := bound_le hb1 (Nat.le_refl _)
      have h4 := bound_le hb2 (Nat.zero_le _)
      have key : ∀ (a : Addr) (cap : Nat), len ≤ cap → ∀ w, (Instr.sliceAt t (.slice (some a) len cap) lo' hi' none).run P w = .ok (.slice (some (if cap = ll then a else a.add (ll * m))) (hh - ll) (cap - ll)) w := by
        intro a cap hc w
        have := bounds_run (isS := true) (P := P) (w := w) (bound_run (code := .sliceAcap) hb1 hhi hc w) (bound_run (code := .sliceB) hb2 hlo (Nat.le_refl _) w)
        simp [Instr.sliceAt, Instr.slice, run_underlying hs, this, run_szOf hm]
        split <;> rfl
      cases hx with
      | slc hb hc hp =>
        refine pu (key _ _ hc) (.slc hb (by omega) ?_)
        rcases hp with h0 | ⟨rfl, hl⟩
        · exact .inl (by omega)
        · rename_i cap
          by_cases he : cap = ll
          · exact .inl (by omega)
          · refine .inr ⟨?_, ?_⟩
            · rw [if_neg he, add_lit, Nat.add_assoc]
            · rw [Nat.sub_mul]
              have := Nat.mul_le_mul_right m (show ll ≤ cap by omega)
              omega
      | dslc hb hc => exact pu (key _ _ hc) (.dslc hb (by omega))
theorem makeIface_pu {t : TypeId} {x x' v : Value} (h : makeIfaceV P t x = some v) (hx : RV β x x') : Pu P β (Instr.makeInterface t x') v := by
  unfold makeIfaceV at h
  split at h <;> try (cases h; done)
  rename_i d hn hd
  cases h
  refine pu (fun w => ?_) (.iface t hx)
  simp only [Instr.makeInterface, Sem.run_bind, run_underlying hd, Result.andThen_ok]
  simp
theorem ta_same {x u : TypeId} {v : Value} {d : TypeDesc} {ok : Bool} (hu : P.underlying u = some d) (hd : notIfaceD d = true) (w : World) :
    (Instr.typeAssert (.iface u v) x u ok).run P w = .ok (if ok then .tuple #[v, .bool true] else v) w := by
  simp only [Instr.typeAssert, Sem.run_bind, run_underlying hu, Result.andThen_ok]
  cases d with
  | interface _ => cases hd
  | _ => simp
theorem ta_other {x u t : TypeId} {v z : Value} {d : TypeDesc} (hu : P.underlying u = some d) (hd : notIfaceD d = true) (hne : t ≠ u) (w : World) (hz : (zeroValue u).run P w = .ok z w) :
    (Instr.typeAssert (.iface t v) x u true).run P w = .ok (.tuple #[z, .bool false]) w := by
  simp only [Instr.typeAssert, Sem.run_bind, run_underlying hu, Result.andThen_ok]
  cases d with
  | interface _ => cases hd
  | _ => simp [hne, hz]
theorem ta_nil {x u : TypeId} {z : Value} {d : TypeDesc} (hu : P.underlying u = some d) (hd : notIfaceD d = true) (w : World) (hz : (zeroValue u).run P w = .ok z w) :
    (Instr.typeAssert .nilIface x u true).run P w = .ok (.tuple #[z, .bool false]) w := by
  simp only [Instr.typeAssert, Sem.run_bind, run_underlying hu, Result.andThen_ok]
  cases d with
  | interface _ => cases hd
  | _ => simp [hz]
theorem assert_pu {x x' v : Value} {xT u : TypeId} {ok : Bool} (h : assertV P x u ok = some v) (hx : RV β x x') : Pu P β (Instr.typeAssert x' xT u ok) v := by
  unfold assertV at h
  split at h <;> try (cases h; done)
  rename_i d hd
  split at h <;> try (cases h; done)
  rename_i hni
  have hz : ∀ {z : Value}, zeroV P u = some z → ∀ w, (zeroValue u).run P w = .ok z w := fun hz w => by
    obtain ⟨i, h1, h2, _⟩ := zeroV_inv hz
    exact run_zeroV h1 h2
  have tup : ∀ {a a' : Value} {b : Bool}, RV β a a' → RV β (.tuple ⟨[a, .bool b]⟩) (.tuple #[a', .bool b]) := fun ha => RV.tuple_of (.cons ha (.cons (.bool _) .nil))
  split at h <;> try (cases h; done)
  · rename_i t y
    cases hx with
    | iface t hy =>
      rename_i y'
      split at h
      · rename_i ht
        have := Nat.eq_of_beq_eq_true ht
        subst this
        split at h <;> cases h
        · exact pu (fun w => ta_same hd hni w) (tup hy)
        · exact pu (fun w => ta_same hd hni w) hy
      · rename_i ht
        have hne : t ≠ u := fun he => by subst he; simp at ht
        split at h <;> try (cases h; done)
        split at h <;> try (cases h; done)
        rename_i z hz'
        cases h
        obtain ⟨i, _, _, hg⟩ := zeroV_inv hz'
        exact pu (fun w => ta_other hd hni hne w (hz hz' w)) (tup (gnd_rv hg))
  · cases hx
    split at h <;> try (cases h; done)
    split at h <;> try (cases h; done)
    rename_i z hz'
    cases h
    obtain ⟨i, _, _, hg⟩ := zeroV_inv hz'
    exact pu (fun w => ta_nil hd hni w (hz hz' w)) (tup (gnd_rv hg))
theorem extract_pu {x x' v : Value} {i : Nat} (h : extractV x i = some v) (hx : RV β x x') : Pu P β (Instr.extract x' i) v := by
  unfold extractV at h
  split at h <;> try (cases h; done)
  obtain ⟨l', rfl, hl⟩ := RL.of_tuple hx
  obtain ⟨v', h1, h2⟩ := hl.get h
  have h1' : l'[i]? = some v' := by simpa using h1
  exact pu (fun w => by simp [Instr.extract, h1']) h2
theorem len_pu {t ty : TypeId} {ats : Array TypeId} {x x' v : Value} (h : lenV P t x = some v) (hx : RV β x x') (ha : ats[0]? = some t) : Pu P β (Builtin.len_ ats ty #[x']) v := by
  unfold lenV at h
  split at h <;> try (cases h; done)
  · rename_i hs
    split at h <;> cases h
    cases hx
    exact pu (fun w => by simp [Builtin.len_, ha, run_underlying hs, goInt, strSize_eq]) (.int _ _)
  · rename_i e hs
    split at h <;> cases h
    cases hx <;> exact pu (fun w => by simp [Builtin.len_, ha, run_underlying hs, goInt]) (.int _ _)
  · rename_i n e hs
    cases h
    exact pu (fun w => by simp [Builtin.len_, ha, run_underlying hs, goInt]) (.int _ _)
  · rename_i a hs
    split at h <;> cases h
    rename_i n e hs2
    exact pu (fun w => by simp [Builtin.len_, ha, run_underlying hs, run_underlying hs2, goInt]) (.int _ _)
end
end
end Go.Ab
