/- Slices that are made; texts as bytes; append, copy, store; a range over a text. -/
import Derived.Test.YtmbeoehgpffneaaGreatDoorA10
namespace Go.Ab
noncomputable section
section
variable {P : Program} {β : Beta} {w : World}
theorem madeCells_one (v : Value) (n i : Nat) (h : i < n) : (madeCells #[v] n)[i]? = some v := by simp [madeCells, h, Nat.mod_one]
theorem makeSlice_nw {t : TypeId} {l l' c c' : Value} {ob : Ob} {n m : Nat} (h : makeSliceA P t l c = some (ob, n, m)) (hl : RV β l l') (hc : RV β c c') :
    Nw P β w (Instr.makeSlice t l' c') ob (fun id => .slice (some ⟨id, 0, none⟩) n m) := by
  unfold makeSliceA at h
  split at h <;> try (cases h; done)
  cases hl
  rename_i k l
  split at h <;> try (cases h; done)
  rename_i ln hln
  split at h <;> try (cases h; done)
  cases hc
  rename_i k2 c
  split at h <;> try (cases h; done)
  rename_i cn hcn
  split at h <;> try (cases h; done)
  rename_i e hs
  split at h <;> try (cases h; done)
  rename_i i hi
  split at h <;> try (cases h; done)
  rename_i z hz
  split at h <;> try (cases h; done)
  rename_i hb
  simp only [Bool.and_eq_true, Nat.ble_eq] at hb
  split at h <;> try (cases h; done)
  rename_i hg
  have := toN_eq hln
  subst this
  have := toN_eq hcn
  subst this
  have hrun := run_make (P := P) w t e i z hs hi hz k k2 ln cn (by omega) (by omega) (by rw [← Int.natCast_mul]; omega) (by omega)
  simp only [Int.toNat_natCast] at hrun
  split at h
  · cases h
  · rename_i v hv
    split at h <;> cases h
    rename_i hsz
    have hsz := Nat.eq_of_beq_eq_true hsz
    have hzc : z.cells = #[v] := by apply Array.toList_inj.1; rw [hv]
    rw [hzc, hsz, Nat.mul_one] at hrun
    have hgv : gnd1 v = true := allB_mem hg v (by rw [hv]; simp)
    refine ⟨_, _, .cells (madeCells #[v] cn) e, cn, hrun, rfl, ⟨rfl, rfl, rfl⟩, fun β' _ => ⟨_, e, (0, 0), push_get w _, Nat.le_refl _, by simp [size_madeCells], .inl rfl, fun i hi => ⟨v, by rw [Nat.zero_add]; exact madeCells_one v cn i hi, ?_⟩⟩, fun β' id hid => .slc hid hb.1.1 (.inr ⟨by simp, by omega⟩)⟩
    have : cellD v .e i = v := by unfold cellD; rw [Tr.get_e]
    rw [this]
    exact gnd1_rv hgv
  · rename_i hne1 hne2
    cases h
    have hzr := zeros_rl (β := β) (z := z.cells.toList) rfl hg (cn * i.size)
    have hn : 0 < z.cells.toList.length := by
      cases hzl : z.cells.toList with
      | nil => exact (hne1 hzl).elim
      | cons _ _ => simp
    exact ⟨_, _, .cells (madeCells z.cells (cn * i.size)) e, (madeCells z.cells (cn * i.size)).size, hrun, rfl, ⟨rfl, rfl, rfl⟩, obOf_new (hzr (.inl hn)) rfl (.inl rfl), fun β' id hid => .slc hid hb.1.1 (.inr ⟨by simp, by rw [size_madeCells]; omega⟩)⟩
theorem toBytes_nw {sT d : TypeId} {x x' : Value} {ob : Ob} {n : Nat} (h : toBytesA P sT d x = some (ob, n)) (hx : RV β x x') : Nw P β w (convert sT d x') ob (fun id => .slice (some ⟨id, 0, none⟩) n 1) := by
  unfold toBytesA at h
  split at h <;> try (cases h; done)
  rename_i hs
  split at h <;> try (cases h; done)
  rename_i e hd
  split at h <;> try (cases h; done)
  rename_i he
  split at h <;> try (cases h; done)
  rename_i s
  split at h <;> try (cases h; done)
  rename_i m hm
  split at h <;> cases h
  rename_i hm1
  cases hx
  have hrun := run_bytes_of_string (P := P) w sT d e s hs hd he
  have hge := grownCap_ge w s.size 0 e
  generalize hcap : grownCap w s.size 0 e = cap at hrun hge
  have hsz : (bytesRow s cap).size = cap := by
    have : s.data.size = s.size := rfl
    simp [bytesRow, this]; omega
  refine ⟨_, _, _, cap, hrun, rfl, ⟨rfl, rfl, rfl⟩, fun β' hle => ?_, fun β' id hid => .slc hid (by rw [strSize_eq]; exact hge) (.inr ⟨by simp, by omega⟩)⟩
  refine ObR.new (l' := (strL s).map fun b => .int .u8 (.ofNat (u8 b))) ⟨rfl, fun i v v' h1 h2 => ?_⟩ (push_get w.drew _) (fun i v hv => ?_) (by simp [strL]; exact hge) (by rw [hsz]; exact Nat.le_refl _) (.inr (by rw [hsz]; exact Nat.le_refl _))
  · rw [h1] at h2; cases h2
    simp only [List.getElem?_map, Option.map_eq_some_iff] at h1
    obtain ⟨b, _, rfl⟩ := h1
    exact .int _ _
  · simp only [List.getElem?_map, Option.map_eq_some_iff] at hv
    obtain ⟨b, hb, rfl⟩ := hv
    have hi : i < s.data.size := by have := (List.getElem?_eq_some_iff.1 hb).1; simpa [strL] using this
    rw [bytesRow_at s cap i hi]
    have := (List.getElem?_eq_some_iff.1 hb).2
    simp only [strL, Array.getElem_toList] at this
    rw [this]; rfl
theorem range_nw {t : TypeId} {x x' : Value} {ob : Ob} (h : rangeA P t x = some ob) (hx : RV β x x') : Nw P β w (Instr.range t x') ob ptrTo := by
  unfold rangeA at h
  split at h <;> try (cases h; done)
  rename_i hs
  split at h <;> cases h
  cases hx
  rename_i s
  refine ⟨_, _, _, 0, run_range_string (P := P) w t s hs, rfl, ⟨rfl, rfl, rfl⟩, fun β' _ => ⟨World.iter_heap w s 0, rfl⟩, fun β' id hid => ?_⟩
  have := RV.ptr (o := 0) hid; simpa [ptrTo] using this
end

/-! ### Writing -/
section
variable (P : Program)
def storeE (t : TypeId) (x v : Value) (s : St) : Option St :=
  match x with
  | .pointer (some ⟨b, o, none⟩) => match szOf P t with
    | some n => match Nat.beq v.cells.toList.length n with
      | true => match Nat.beq n 0 with | true => some s | false => wrN b o v.cells.toList s
      | false => none
    | none => none
  | _ => none
/-- The cells of what is appended, or copied. -/
def srcE (m : Nat) (y : Value) (s : St) : Option (List Value × Nat) :=
  match y with
  | .slice none 0 0 => some ([], 0)
  | .slice (some ⟨b, o, none⟩) n sz => match Nat.beq sz m with
    | true => match rdN s b o (n * m) with | some l => some (l, n) | none => none
    | false => none
  | _ => none
def appT (o : Nat) (olds news : List Value) (t : Tr Value) : Tr Value :=
  match Nat.beq o 0 with
  | true => trOf olds.length news t
  | false => trOf 0 (olds ++ news) .e
def appendE (G : Nat → Bool) (t : TypeId) (x y : Value) (s : St) : Option (Value × St) :=
  match P.underlying t with
  | some (.slice e) => match P.info? e with
    | some i => match i.zero with
      | some z => match Nat.beq z.cells.toList.length i.size && Nat.blt 0 i.size with
        | true => match srcE i.size y s with
          | some (_, 0) => match x with | .slice _ _ _ => some (x, s) | _ => none
          | some (news, n) => match x with
            | .slice none 0 0 => match Nat.ble (n * i.bytes) 1099511627776 && Nat.ble n 1099511627776 && allB oneCell news with
              | true => some (.slice (some ⟨s.n, 0, none⟩) n i.size, s.push (obOf news))
              | false => none
            | .slice (some ⟨b, o, none⟩) len sz => match Nat.beq sz i.size && Nat.ble ((len + n) * i.bytes) 1099511627776 && Nat.ble (len + n) 1099511627776 && allB oneCell news && notB (G b) with
              | true => match Tr.get (bits b) s.m with
                | some (.cells size d tr) => match Nat.ble (o + len * i.size) size with
                  | true => match (match Nat.beq o 0 with | true => some [] | false => rdN s b o (len * i.size)) with
                    | some olds => some (.slice (some ⟨s.n, 0, none⟩) (len + n) i.size,
                        (s.kill b).push (.cells ((len + n) * i.size) d (match Nat.beq o 0 with | true => trOf (len * i.size) news tr | false => trOf 0 (olds ++ news) .e)))
                    | none => none
                  | false => none
                | _ => none
              | false => none
            | _ => none
          | none => none
        | false => none
      | none => none
    | none => none
  | _ => none
def copyE (t : TypeId) (x y : Value) (s : St) : Option (Value × St) :=
  match P.underlying t with
  | some (.slice e) => match szOf P e with
    | some 1 => match x with
      | .slice none 0 0 => match y with | .slice _ _ _ => some (.int .i64 0, s) | _ => none
      | .slice (some ⟨b, o, none⟩) len sz => match y with
        | .slice none 0 0 => some (.int .i64 0, s)
        | .slice (some ⟨b2, o2, none⟩) n sz2 => match Nat.beq sz 1 && Nat.beq sz2 1 with
          | true => match minN n len with
            | 0 => some (.int .i64 0, s)
            | k => match rdN s b2 o2 k with
              | some l => match wrN b o l s with | some s' => some (.int .i64 (.ofNat k), s') | none => none
              | none => none
          | false => none
        | _ => none
      | _ => none
    | _ => none
  | _ => none
def nextE (x : Value) (s : St) : Option (Value × St) :=
  match x with
  | .pointer (some ⟨b, 0, none⟩) => match Tr.get (bits b) s.m with
    | some (.iter str pos) => match Nat.blt pos (strSize str) with
      | true => some (.tuple ⟨[.bool true, .int .i64 (.ofNat pos), .int .i32 (.ofNat (Utf8.decode str pos).1)]⟩, ⟨s.n, Tr.put (bits b) (some (.iter str (pos + (Utf8.decode str pos).2))) s.m⟩)
      | false => some (.tuple ⟨[.bool false]⟩, s)
    | _ => none
  | _ => none
end
/-- It runs, and the memory goes along. -/
def Ef (P : Program) (G : Nat → Bool) (β : Beta) (s : St) (w : World) (sem : Sem Value) (v : Value) (s' : St) : Prop :=
  ∃ v' w' β', sem.run P w = .ok v' w' ∧ Ev G β s w β' s' w' ∧ RV β' v v'
section
variable {P : Program} {G : Nat → Bool} {β : Beta} {s s' : St} {w : World}
theorem store_ef {t : TypeId} {x x' v v' : Value} (h : storeE P t x v s = some s') (hr : Rel G β s w) (hx : RV β x x') (hv : RV β v v') :
    ∃ w', (Instr.storeAt t x' v').run P w = .ok () w' ∧ Ev G β s w β s' w' := by
  unfold storeE at h
  split at h <;> try (cases h; done)
  rename_i b o
  split at h <;> try (cases h; done)
  rename_i n hn
  split at h <;> try (cases h; done)
  rename_i hl
  have hl := Nat.eq_of_beq_eq_true hl
  have hvc := hv.cells
  have hsz : v'.cells.size = n := by rw [← hl, hvc.1]; simp
  split at h
  · rename_i hn0
    have hn0 := Nat.eq_of_beq_eq_true hn0
    cases h
    have : v'.cells.toList = [] := List.eq_nil_of_length_eq_zero (by rw [Array.length_toList]; omega)
    obtain ⟨a, rfl⟩ : ∃ a, x' = .pointer (some a) := by cases hx <;> exact ⟨_, rfl⟩
    exact ⟨w, by simp [Instr.storeAt, Instr.sureAddr, storeVar, run_szOf hn, hsz, this, storeCells], .refl hr⟩
  · rename_i hn0
    cases hx with
    | ptr hb =>
      rename_i r base lim
      exact ⟨_, by simp [Instr.storeAt, Instr.sureAddr, storeVar, run_szOf hn, hsz, hr.run_store hb h hvc], Rel.wrN hb hr h hvc⟩
    | dptr hb =>
      have hne : v.cells.toList ≠ [] := fun he => by rw [he] at hl; simp at hl; subst hl; cases hn0
      obtain ⟨size, d, t', hg, _⟩ := wrN_inv h hne
      rw [hr.dead _ hb] at hg; cases hg
theorem src_run {m n : Nat} {y y' : Value} {l : List Value} (h : srcE m y s = some (l, n)) (hr : Rel G β s w) (hy : RV β y y') :
    (n = 0 ∧ l = [] ∧ ∃ a c, y' = .slice a 0 c) ∨ ∃ a c l', y' = .slice (some a) n c ∧ RL β l l' ∧ l'.length = n * m ∧ ∀ (j : Nat) u, l'[j]? = some u → w.cell? (a.add j) = some u := by
  unfold srcE at h
  split at h <;> try (cases h; done)
  · cases h; cases hy; exact .inl ⟨rfl, rfl, _, _, rfl⟩
  · rename_i b o n' sz
    split at h <;> try (cases h; done)
    rename_i hsz
    have := Nat.eq_of_beq_eq_true hsz
    subst this
    split at h <;> cases h
    rename_i hl
    have zero : ∀ a c, n = 0 → y' = .slice (some a) n c → (n = 0 ∧ l = [] ∧ ∃ a c, y' = .slice a 0 c) := fun a c h0 he => by
      subst h0 he
      have := rdN_len hl
      exact ⟨rfl, List.eq_nil_of_length_eq_zero (by simpa using this), _, _, rfl⟩
    cases hy with
    | slc hb hc hp =>
      rcases hp with h0 | ⟨rfl, _⟩
      · exact .inl (zero _ _ (by omega) rfl)
      · obtain ⟨l', h1, h2⟩ := hr.rdN hb hl
        exact .inr ⟨_, _, l', rfl, h1, by rw [← h1.1, rdN_len hl], fun j u hu => by rw [add_lit]; exact h2 j u hu⟩
    | dslc hb hc =>
      cases hn : n * sz with
      | zero =>
        rw [hn] at hl
        simp only [rdN, Option.some.injEq] at hl
        subst hl
        exact .inr ⟨_, _, [], rfl, .nil, by simp, fun j u hu => by simp at hu⟩
      | succ k =>
        rw [hn] at hl
        simp only [rdN] at hl
        rw [rd_none (hr.dead _ hb)] at hl
        cases hl
theorem next_ef {x x' v : Value} {ty : TypeId} (h : nextE x s = some (v, s')) (hr : Rel G β s w) (hx : RV β x x') : Ef P G β s w (Instr.next x' true ty) v s' := by
  unfold nextE at h
  split at h <;> try (cases h; done)
  rename_i b
  split at h <;> try (cases h; done)
  rename_i str pos hg
  cases hx with
  | dptr hb => rw [hr.dead _ hb] at hg; cases hg
  | ptr hb =>
    rename_i r base lim
    obtain ⟨ho, rfl⟩ := hr.obj hb hg
    have hobj : (getObj r).run P w = .ok (.stringIter str pos) w := by simp [getObj, Sem.run, ho]
    split at h
    · rename_i hlt
      rw [Nat.blt_eq, strSize_eq] at hlt
      simp only [Option.some.injEq, Prod.mk.injEq] at h
      obtain ⟨rfl, rfl⟩ := h
      generalize hd : Utf8.decode str pos = cw
      obtain ⟨c, wd⟩ := cw
      have hrun : (Instr.next (.pointer (some ⟨r, 0 + 0, none⟩)) true ty).run P w = .ok (.tuple #[.bool true, .int .i64 pos, .int .i32 c]) { w with heap := w.heap.setIfInBounds r (.stringIter str (pos + wd)) } := by
        simp [Instr.next, hobj, hlt, hd, setObj, Sem.run, ho, goInt]
      refine ⟨_, _, β, hrun, ?_, RV.tuple_of (.cons (.bool _) (.cons (.int _ _) (.cons (.int _ _) .nil)))⟩
      have hrl := hr.rlt hb
      have hother : ∀ r', r' ≠ r → (w.heap.setIfInBounds r (.stringIter str (pos + wd)))[r']? = w.heap[r']? := fun r' hne => Array.getElem?_setIfInBounds_ne (Ne.symm hne)
      refine ⟨⟨hr.n, fun b' r' base' lim' hb' => ?_, hr.inj, hr.glob, hr.gn, fun b' hb' => ?_⟩, .refl β, by simp, fun r' hr' hn => hother r' fun he => hn b _ _ (he ▸ hb), fun _ _ _ _ hb' => .inl ⟨_, _, _, hb'⟩, Nat.le_refl _, fun b' hb' hf => ?_, ⟨rfl, rfl, rfl⟩, fun b' size d t _ hg' => by
        have hbb : b' ≠ b := fun he => by subst he; rw [hg] at hg'; cases hg'
        exact ⟨by rw [Tr.get_put_ne _ _ _ _ (bits_ne hbb)]; exact hg', rfl, fun r' base' lim' hl => hother r' fun he => hbb (hr.inj b' b r _ _ _ _ (he ▸ hl) hb)⟩⟩
      · by_cases hbb : b' = b
        · subst hbb
          rw [hb] at hb'; cases hb'
          exact ⟨_, Tr.get_put _ _ _, by simp [hrl], rfl⟩
        · obtain ⟨ob, h2, h3⟩ := hr.live b' r' base' lim' hb'
          refine ⟨ob, by rw [Tr.get_put_ne _ _ _ _ (bits_ne hbb)]; exact h2, h3.mono (.refl β) (hother r' fun he => hbb (hr.inj b' b r _ _ _ _ (he ▸ hb') hb))⟩
      · have hbb : b' ≠ b := fun he => by subst he; rw [hb] at hb'; cases hb'
        rw [Tr.get_put_ne _ _ _ _ (bits_ne hbb)]; exact hr.dead b' hb'
      · have : b' ≠ b := fun he => by subst he; rw [hb] at hf; cases hf
        exact ⟨Tr.get_put_ne _ _ _ _ (bits_ne this), hf⟩
    · rename_i hlt
      have hlt' : ¬ pos < str.size := fun h' => by rw [← strSize_eq, ← Nat.blt_eq, hlt] at h'; cases h'
      cases h
      exact ⟨_, w, β, by simp [Instr.next, hobj, hlt'], .refl hr, RV.tuple_of (.cons (.bool _) .nil)⟩
end
end
end Go.Ab
