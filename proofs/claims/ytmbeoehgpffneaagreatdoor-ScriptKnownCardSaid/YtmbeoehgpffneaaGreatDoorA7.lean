/- Operations that neither read nor write: conversions, literals, the rest. -/
import Derived.Test.YtmbeoehgpffneaaGreatDoorA6
namespace Go.Ab
noncomputable section
section
variable {P : Program} {β : Beta}
theorem conv_pu {s d : TypeId} {x x' v : Value} (h : convV P s d x = some v) (hx : RV β x x') : Pu P β (convert s d x') v := by
  unfold convV at h
  split at h <;> try (cases h; done)
  rename_i ds hs
  split at h <;> try (cases h; done)
  · rename_i k hd
    split at h <;> cases h
    cases hx
    exact pu (fun w => by simp [convert, run_underlying hs, run_underlying hd, Conv.intToInt, wrapF_eq]) (.int _ _)
  · rename_i hd
    split at h <;> cases h
    · cases hx
      exact pu (fun w => by simp [convert, run_underlying hs, run_underlying hd]) (.string _)
    · cases hx
      exact pu (fun w => by simp [convert, run_underlying hs, run_underlying hd, Conv.intToString]) (.string _)
theorem build_pu {t : TypeId} {parts : List (Nat × Value)} {parts' : Array (Nat × Value)} {v : Value} (h : buildV P t parts = some v) (hi : parts.map (·.1) = parts'.toList.map (·.1)) (hv : RL β (parts.map (·.2)) (parts'.toList.map (·.2))) :
    Pu P β (Instr.build t parts') v := by
  unfold buildV at h
  split at h <;> try (cases h; done)
  rename_i z hz
  obtain ⟨i, zz, h1, h2, h3, h4⟩ := zeroL_inv hz
  have hrl : RL β z zz.cells.toList := by rw [h3]; exact gndL_rl h4
  split at h <;> try (cases h; done)
  · rename_i fs hs
    split at h <;> try (cases h; done)
    rename_i pl hpl
    split at h <;> try (cases h; done)
    rename_i l hl
    cases h
    obtain ⟨r', h5, h6⟩ := fillL_run hl hrl hi hv
    refine pu (v' := .agg r') (fun w => ?_) (RV.agg_of (l' := r'.toList) h6)
    have hm := placesL_run (P := P) w hpl
    simp only [Instr.build, Sem.run_bind, run_zeroV h1 h2, Result.andThen_ok, run_underlying hs, Array.mapM_eq_mapM_toList, Sem.run_map]
    erw [hm]
    simp [h5]
  · rename_i n e hs
    split at h <;> try (cases h; done)
    rename_i m hm
    split at h <;> try (cases h; done)
    rename_i l hl
    cases h
    obtain ⟨r', h5, h6⟩ := fillL_run hl hrl hi hv
    refine pu (v' := .agg r') (fun w => ?_) (RV.agg_of (l' := r'.toList) h6)
    simp [Instr.build, run_zeroV h1 h2, run_underlying hs, run_szOf hm, h5]
theorem un_pu {op : UnOp} {x x' v : Value} (h : unV op x = some v) (hx : RV β x x') : Pu P β (Op.unary op x') v := by
  unfold unV at h
  split at h <;> try (cases h; done)
  · cases h; cases hx
    exact pu (fun w => by simp [Op.unary, Op.intArith, wrapF_eq]) (.int _ _)
  · split at h <;> cases h
    rename_i r hr
    cases hx
    exact pu (fun w => by simp only [Op.unary]; exact bitsOp_run hr) (.int _ _)
  · cases h; cases hx
    exact pu (fun w => by simp [Op.unary, notB_eq]) (.bool _)
theorem fold_pu {f : Value → Value → Option Value} {g : Value → Value → Sem Value} (hf : ∀ a b v a' b', f a b = some v → RV β a a' → RV β b b' → Pu P β (g a' b') v) : ∀ {l l' : List Value} {a a' v : Value}, foldV f a l = some v → RV β a a' → RL β l l' → Pu P β (l'.foldlM g a') v
  | [], l', a, a', v, h, ha, hl => by
    simp only [foldV, Option.some.injEq] at h
    subst h
    obtain rfl := hl.inv_nil
    exact pu (fun w => by simp) ha
  | x :: l, l', a, a', v, h, ha, hl => by
    simp only [foldV] at h
    split at h <;> try (cases h; done)
    rename_i c hc
    obtain ⟨x', l'', rfl, hx, hl'⟩ := hl.inv
    obtain ⟨c', h1, h2⟩ := hf _ _ _ _ _ hc ha hx
    obtain ⟨v', h3, h4⟩ := fold_pu hf h h2 hl'
    exact pu (fun w => by simp [List.foldlM_cons, h1, h3]) h4
theorem min_pu {ats : Array TypeId} {ty : TypeId} {l : List Value} {l' : Array Value} {a v : Value} (h : foldV min2V a l = some v) (hl : RL β (a :: l) l'.toList) : Pu P β (Builtin.min_ ats ty l') v := by
  obtain ⟨a', l'', he, ha, hl'⟩ := hl.inv
  have := fold_pu (P := P) (β := β) (f := min2V) (g := Builtin.min2) (fun a b v a' b' h ha hb => by
    unfold min2V at h
    split at h <;> cases h
    cases ha; cases hb
    exact pu (fun w => by rename_i _ x _ y; by_cases hxy : y < x <;> simp [Builtin.min2, ltI_eq, hxy]) (.int _ _)) h ha hl'
  unfold Builtin.min_
  rw [he]; exact this
theorem max_pu {ats : Array TypeId} {ty : TypeId} {l : List Value} {l' : Array Value} {a v : Value} (h : foldV max2V a l = some v) (hl : RL β (a :: l) l'.toList) : Pu P β (Builtin.max_ ats ty l') v := by
  obtain ⟨a', l'', he, ha, hl'⟩ := hl.inv
  have := fold_pu (P := P) (β := β) (f := max2V) (g := Builtin.max2) (fun a b v a' b' h ha hb => by
    unfold max2V at h
    split at h <;> cases h
    cases ha; cases hb
    exact pu (fun w => by rename_i _ x _ y; by_cases hxy : x < y <;> simp [Builtin.max2, ltI_eq, hxy]) (.int _ _)) h ha hl'
  unfold Builtin.max_
  rw [he]; exact this
end
end
end Go.Ab
