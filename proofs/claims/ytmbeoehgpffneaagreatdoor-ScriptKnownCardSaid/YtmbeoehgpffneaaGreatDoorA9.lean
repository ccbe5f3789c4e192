/- Operations that read, that make new blocks, that write. -/
import Derived.Test.YtmbeoehgpffneaaGreatDoorA8
import Derived.Laws.RangeString
namespace Go.Ab
noncomputable section

/-! ### A block is given up; its row is another one's -/
theorem le_kill {β : Beta} {b r base lim : Nat} (hb : β b = .live r base lim) : Le β (upB β b .dead) := fun j => by
  by_cases hj : j = b
  · subst hj; exact .inr (.inr ⟨upB_same _ _ _, by rw [hb]; exact Bst.noConfusion⟩)
  · exact .inr (.inl (upB_ne β _ hj))
theorem Rel.kill {G : Nat → Bool} {β : Beta} {s : St} {w : World} (h : Rel G β s w) {b r base lim : Nat} (hG : G b = false) (hb : β b = .live r base lim) (hnr : ∀ size d t, Tr.get (bits b) s.m ≠ some (.ro size d t)) : Ev G β s w (upB β b .dead) (s.kill b) w := by
  have hle := le_kill hb
  have hbn := h.lt hb
  refine ⟨⟨fun j hj => ?_, fun j r' base' lim' hj => ?_, fun j j' r' b1 l1 b2 l2 hj hj' => ?_, fun g hg => ?_, h.gn, fun j hj => ?_⟩, hle, Nat.le_refl _, fun _ _ _ => rfl, fun j r' base' lim' hj => ?_, Nat.le_refl _, fun j hj hf => ?_, .refl w, fun j size d t _ hg => by
    have hjb : j ≠ b := fun he => hnr _ _ _ (he ▸ hg)
    exact ⟨by rw [St.kill, Tr.get_put_ne _ _ _ _ (bits_ne hjb)]; exact hg, upB_ne β _ hjb, fun _ _ _ _ => rfl⟩⟩
  · have hj' : s.n ≤ j := hj
    rw [upB_ne β _ (by omega)]; exact h.n j hj'
  · by_cases hjb : j = b
    · subst hjb; rw [upB_same] at hj; cases hj
    · rw [upB_ne β _ hjb] at hj
      obtain ⟨ob, h1, h2⟩ := h.live j r' base' lim' hj
      exact ⟨ob, by rw [St.kill, Tr.get_put_ne _ _ _ _ (bits_ne hjb)]; exact h1, h2.mono hle rfl⟩
  · have n1 : j ≠ b := fun he => by subst he; rw [upB_same] at hj; cases hj
    have n2 : j' ≠ b := fun he => by subst he; rw [upB_same] at hj'; cases hj'
    rw [upB_ne β _ n1] at hj
    rw [upB_ne β _ n2] at hj'
    exact h.inj j j' r' _ _ _ _ hj hj'
  · have hgb : g ≠ b := fun he => by subst he; rw [hg] at hG; cases hG
    rw [upB_ne β _ hgb]; exact h.glob g hg
  · by_cases hjb : j = b
    · subst hjb; exact Tr.get_put _ _ _
    · rw [upB_ne β _ hjb] at hj
      rw [St.kill, Tr.get_put_ne _ _ _ _ (bits_ne hjb)]; exact h.dead j hj
  · by_cases hjb : j = b
    · subst hjb; rw [upB_same] at hj; cases hj
    · rw [upB_ne β _ hjb] at hj; exact .inl ⟨_, _, _, hj⟩
  · have hjb : j ≠ b := fun he => by subst he; rw [hb] at hf; cases hf
    exact ⟨by rw [St.kill, Tr.get_put_ne _ _ _ _ (bits_ne hjb)], by rw [upB_ne β _ hjb]; exact hf⟩
/-- The block's row goes on as another block's. -/
theorem Rel.move {G : Nat → Bool} {β : Beta} {s : St} {w w' : World} (h : Rel G β s w) {b r base lim base' lim' : Nat} {ob : Ob} (hG : G b = false) (hb : β b = .live r base lim) (hsz : w'.heap.size = w.heap.size) (hw : ∀ r', r' ≠ r → w'.heap[r']? = w.heap[r']?) (hoth : Oth w w') (hnr : ∀ size d t, Tr.get (bits b) s.m ≠ some (.ro size d t))
    (ho : ∀ β', Le β β' → ObR β' ob r base' lim' w') : Ev G β s w (upB (upB β b .dead) s.n (.live r base' lim')) ((s.kill b).push ob) w' := by
  have hk := h.kill hG hb hnr
  have hf : (upB β b .dead) s.n = .fresh := hk.rel.n s.n (Nat.le_refl _)
  have hle2 : Le (upB β b .dead) (upB (upB β b .dead) s.n (.live r base' lim')) := le_up hf
  have hle := hk.le.trans hle2
  have hbn := h.lt hb
  have hne : ∀ j r' base' lim', (upB β b .dead) j = .live r' base' lim' → r' ≠ r := fun j r' base' lim' hj he => by
    have hjb : j ≠ b := fun e => by subst e; rw [upB_same] at hj; cases hj
    rw [upB_ne β _ hjb] at hj
    exact hjb (h.inj j b r base' lim' base lim (he ▸ hj) hb)
  refine ⟨⟨fun j hj => ?_, fun j r' base1 lim1 hj => ?_, fun j j' r' b1 l1 b2 l2 hj hj' => ?_, fun g hg => ?_, fun g hg => Nat.lt_succ_of_lt (h.gn g hg), fun j hj => ?_⟩, hle, by rw [hsz]; exact Nat.le_refl _, fun r' hr' hn => hw r' fun he => hn b base lim (he ▸ hb), fun j r' base1 lim1 hj => ?_, Nat.le_succ _, fun j hj hfr => ?_, hoth, fun j size d t hj hg => by
    have n1 : j ≠ b := fun he => hnr _ _ _ (he ▸ hg)
    have n2 : j ≠ s.n := by omega
    exact ⟨by rw [St.push, Tr.get_put_ne _ _ _ _ (bits_ne (show j ≠ (s.kill b).n from n2)), St.kill, Tr.get_put_ne _ _ _ _ (bits_ne n1)]; exact hg, by rw [upB_ne _ _ n2, upB_ne _ _ n1], fun r' base1 lim1 hl => hw r' fun he => n1 (h.inj j b r base1 lim1 base lim (he ▸ hl) hb)⟩⟩
  · have hj' : s.n + 1 ≤ j := hj
    rw [upB_ne _ _ (by omega)]; exact hk.rel.n j (by show s.n ≤ j; omega)
  · by_cases hjn : j = s.n
    · subst hjn
      rw [upB_same] at hj; cases hj
      exact ⟨ob, Tr.get_put _ _ _, ho _ hle⟩
    · rw [upB_ne _ _ hjn] at hj
      obtain ⟨ob', h1, h2⟩ := hk.rel.live j r' base1 lim1 hj
      exact ⟨ob', by rw [St.push, Tr.get_put_ne _ _ _ _ (bits_ne (show j ≠ (s.kill b).n from hjn))]; exact h1, h2.mono hle2 (hw r' (hne j r' _ _ hj))⟩
  · by_cases e1 : j = s.n
    · by_cases e2 : j' = s.n
      · omega
      · rw [e1, upB_same] at hj; cases hj
        rw [upB_ne _ _ e2] at hj'
        exact absurd rfl (hne _ _ _ _ hj')
    · rw [upB_ne _ _ e1] at hj
      by_cases e2 : j' = s.n
      · rw [e2, upB_same] at hj'; cases hj'
        exact absurd rfl (hne _ _ _ _ hj)
      · rw [upB_ne _ _ e2] at hj'
        exact hk.rel.inj j j' r' _ _ _ _ hj hj'
  · have hgn : g ≠ s.n := by have := h.gn g hg; omega
    rw [upB_ne _ _ hgn]; exact hk.rel.glob g hg
  · have hjn : j ≠ s.n := fun e => by subst e; rw [upB_same] at hj; cases hj
    rw [upB_ne _ _ hjn] at hj
    rw [St.push, Tr.get_put_ne _ _ _ _ (bits_ne (show j ≠ (s.kill b).n from hjn))]; exact hk.rel.dead j hj
  · by_cases hjn : j = s.n
    · subst hjn
      rw [upB_same] at hj; cases hj
      exact .inl ⟨b, base, lim, hb⟩
    · rw [upB_ne _ _ hjn] at hj
      rcases hk.new j r' _ _ hj with h' | h'
      · exact .inl h'
      · have := hk.rel.rlt hj; omega
  · obtain ⟨h1, h2⟩ := hk.abs j hj hfr
    have hjn : j ≠ s.n := by omega
    exact ⟨by rw [St.push, Tr.get_put_ne _ _ _ _ (bits_ne (show j ≠ (s.kill b).n from hjn))]; exact h1, by rw [upB_ne _ _ hjn]; exact h2⟩

/-! ### Reading -/
section
variable (P : Program)
def loadV (t : TypeId) (x : Value) (s : St) : Option Value :=
  match P.underlying t with
  | some d => match x with
    | .pointer (some ⟨b, o, none⟩) => match isAggD d with
      | true => match szOf P t with
        | some n => match rdN s b o n with | some l => some (.agg ⟨l⟩) | none => none
        | none => none
      | false => rd s b o
    | _ => none
  | none => none
def bytesL : List Value → Option (List UInt8)
  | [] => some []
  | .int .u8 (.ofNat n) :: l => match Nat.blt n 256 with
    | true => match bytesL l with | some r => some (UInt8.ofNat n :: r) | none => none
    | false => none
  | _ :: _ => none
def toStrV (s d : TypeId) (x : Value) (st : St) : Option Value :=
  match P.underlying s with
  | some (.slice e) => match P.underlying e with
    | some (.int .u8) => match P.underlying d with
      | some .string => match x with
        | .slice none 0 0 => some (.string ⟨⟨[]⟩⟩)
        | .slice (some ⟨b, o, none⟩) len sz => match Nat.beq sz 1 with
          | true => match rdN st b o len with
            | some l => match bytesL l with | some r => some (.string ⟨⟨r⟩⟩) | none => none
            | none => none
          | false => none
        | _ => none
      | _ => none
    | _ => none
  | _ => none
def sliceArrV (t : TypeId) (x : Value) (lo hi : Option Value) (s : St) : Option Value :=
  match P.underlying t with
  | some (.array n e) => match x with
    | .pointer (some ⟨b, o, none⟩) => match boundV hi n n with
      | some h => match boundV lo 0 h with
        | some l => match szOf P e with
          | some m => match Tr.get (bits b) s.m with
            | some (.cells size _ _) => match Nat.ble (o + n * m) size with | true => some (.slice (some ⟨b, o + l * m, none⟩) (h - l) m) | false => none
            | _ => none
          | none => none
        | none => none
      | none => none
    | _ => none
  | _ => none
end
/-- It runs where it stands, and turns nothing. -/
def Rd (P : Program) (β : Beta) (w : World) (sem : Sem Value) (v : Value) : Prop := ∃ v', sem.run P w = .ok v' w ∧ RV β v v'
section
variable {P : Program} {G : Nat → Bool} {β : Beta} {s : St} {w : World}
theorem rd_none {b o : Nat} (h : Tr.get (bits b) s.m = none) : rd s b o = none := by unfold rd; rw [h]
theorem load_rd {t : TypeId} {x x' v : Value} (h : loadV P t x s = some v) (hr : Rel G β s w) (hx : RV β x x') : Rd P β w (Instr.loadAt t x') v := by
  unfold loadV at h
  split at h <;> try (cases h; done)
  rename_i d hd
  split at h <;> try (cases h; done)
  rename_i b o
  split at h
  · rename_i ha
    split at h <;> try (cases h; done)
    rename_i n hn
    split at h <;> try (cases h; done)
    rename_i l hl
    cases h
    have zero : ∀ a : Addr, n = 0 → x' = .pointer (some a) → Rd P β w (Instr.loadAt t x') (.agg ⟨l⟩) := by
      intro a h0 he
      subst h0 he
      simp only [rdN, Option.some.injEq] at hl
      subst hl
      exact ⟨.agg ⟨[]⟩, by simp [Instr.loadAt, Instr.sureAddr, loadVar, run_isAggD hd, ha, run_szOf hn, loadCells, loadCellsFrom], RV.agg_of .nil⟩
    cases hx with
    | ptr hb =>
      rename_i r base lim
      obtain ⟨l', h1, h2⟩ := hr.rdN hb hl
      refine ⟨.agg ⟨l'⟩, ?_, RV.agg_of h1⟩
      have := run_loadCells_list (P := P) w ⟨r, base + o, none⟩ l' (fun j v' hv => by rw [add_lit]; exact h2 j v' hv)
      rw [← h1.1, rdN_len hl] at this
      simp [Instr.loadAt, Instr.sureAddr, loadVar, run_isAggD hd, ha, run_szOf hn, this]
    | dptr hb =>
      cases n with
      | zero => exact zero _ rfl rfl
      | succ n =>
        simp only [rdN] at hl
        rw [rd_none (hr.dead _ hb)] at hl
        cases hl
  · rename_i ha
    cases hx with
    | ptr hb =>
      obtain ⟨v', h1, h2⟩ := hr.rd hb h
      exact ⟨v', by simp [Instr.loadAt, Instr.sureAddr, loadVar, run_isAggD hd, ha, load, Sem.run, h1], h2⟩
    | dptr hb => rw [rd_none (hr.dead _ hb)] at h; cases h
theorem bytesL_val : ∀ {l : List Value} {r : List UInt8}, bytesL l = some r → l = r.map fun b => .int .u8 (b.toNat : Int)
  | [], r, h => by simp only [bytesL, Option.some.injEq] at h; subst h; rfl
  | x :: l, r, h => by
    unfold bytesL at h
    split at h <;> try (cases h; done)
    · rename_i he; cases he
    · rename_i n l' he
      cases he
      split at h <;> try (cases h; done)
      rename_i hn
      rw [Nat.blt_eq] at hn
      split at h <;> try (cases h; done)
      rename_i r' hr
      cases h
      rw [bytesL_val hr]
      have : (UInt8.ofNat n).toNat = n := by simp; omega
      simp [this]
theorem RL.ints : ∀ {r : List UInt8} {l' : List Value}, RL β (r.map fun b => .int .u8 (b.toNat : Int)) l' → l' = r.map fun b => .int .u8 (b.toNat : Int)
  | [], l', h => h.inv_nil
  | b :: r, l', h => by
    obtain ⟨v', l'', rfl, hv, hl⟩ := RL.inv h
    cases hv
    rw [RL.ints hl]; rfl
theorem toStr_rd {sT d : TypeId} {x x' v : Value} (h : toStrV P sT d x s = some v) (hr : Rel G β s w) (hx : RV β x x') : Rd P β w (convert sT d x') v := by
  unfold toStrV at h
  split at h <;> try (cases h; done)
  rename_i e hs
  split at h <;> try (cases h; done)
  rename_i he
  split at h <;> try (cases h; done)
  rename_i hd
  split at h <;> try (cases h; done)
  · cases h; cases hx
    exact ⟨.string ⟨⟨[]⟩⟩, by rw [run_convert_bytes_string w sT d e none 0 0 hs he hd]; simp [Conv.bytesToString]; rfl, .string _⟩
  · rename_i b o len sz
    split at h <;> try (cases h; done)
    rename_i hsz
    split at h <;> try (cases h; done)
    rename_i l hl
    split at h <;> try (cases h; done)
    rename_i r hrr
    cases h
    have := Nat.eq_of_beq_eq_true hsz
    subst this
    have hlen := rdN_len hl
    have hval := bytesL_val hrr
    have zero : ∀ (a : Addr) cap, len = 0 → x' = .slice (some a) len cap → Rd P β w (convert sT d x') (.string ⟨⟨r⟩⟩) := by
      intro a cap h0 hx'
      subst h0 hx'
      have : l = [] := List.eq_nil_of_length_eq_zero hlen
      subst this
      simp only [bytesL, Option.some.injEq] at hrr
      subst hrr
      exact ⟨.string ⟨⟨[]⟩⟩, run_convert_bytes_back (P := P) w sT d e a cap [] hs he hd (fun j hj => by simp at hj), .string _⟩
    have main : ∀ (q base lim cap : Nat), β b = .live q base lim → x' = .slice (some ⟨q, base + o, none⟩) len cap → Rd P β w (convert sT d x') (.string ⟨⟨r⟩⟩) := by
      intro q base lim cap hb hx'
      subst hx'
      obtain ⟨l', h1, h2⟩ := hr.rdN hb hl
      subst hval
      have := RL.ints h1
      subst this
      refine ⟨.string ⟨⟨r⟩⟩, ?_, .string _⟩
      have := run_convert_bytes_back (P := P) w sT d e ⟨q, base + o, none⟩ cap r hs he hd (fun j hj => by
        rw [add_lit]; exact h2 j _ (by simp [hj]))
      simp only [List.length_map] at hlen
      rw [hlen] at this
      exact this
    cases hx with
    | slc hb hc hp =>
      rcases hp with h0 | ⟨rfl, _⟩
      · exact zero _ _ (by omega) rfl
      · exact main _ _ _ _ hb rfl
    | dslc hb hc =>
      cases len with
      | zero => exact zero _ _ rfl rfl
      | succ n =>
        simp only [rdN] at hl
        rw [rd_none (hr.dead _ hb)] at hl
        cases hl
theorem sliceArr_rd {t : TypeId} {x x' v : Value} {lo lo' hi hi' : Option Value} (h : sliceArrV P t x lo hi s = some v) (hr : Rel G β s w) (hx : RV β x x')
    (hlo : lo = none ∧ lo' = none ∨ ∃ v v', lo = some v ∧ lo' = some v' ∧ RV β v v') (hhi : hi = none ∧ hi' = none ∨ ∃ v v', hi = some v ∧ hi' = some v' ∧ RV β v v') : Rd P β w (Instr.sliceAt t x' lo' hi' none) v := by
  unfold sliceArrV at h
  split at h <;> try (cases h; done)
  rename_i n e hs
  split at h <;> try (cases h; done)
  rename_i b o
  split at h <;> try (cases h; done)
  rename_i hh hb1
  split at h <;> try (cases h; done)
  rename_i ll hb2
  split at h <;> try (cases h; done)
  rename_i m hm
  split at h <;> try (cases h; done)
  rename_i size dd tt hg
  split at h <;> try (cases h; done)
  rename_i hsz
  rw [Nat.ble_eq] at hsz
  cases h
  have h3 := bound_le hb1 (Nat.le_refl _)
  have h4 := bound_le hb2 (Nat.zero_le _)
  cases hx with
  | dptr hb => rw [hr.dead _ hb] at hg; cases hg
  | ptr hb =>
    rename_i r base lim
    have hle := (hr.obj hb hg).le
    refine ⟨.slice (some (if n = ll then ⟨r, base + o, none⟩ else (⟨r, base + o, none⟩ : Addr).add (ll * m))) (hh - ll) (n - ll), ?_, .slc hb (by omega) ?_⟩
    · have := bounds_run (isS := false) (P := P) (w := w) (bound_run (code := .sliceAlen) hb1 hhi (Nat.le_refl _) w) (bound_run (code := .sliceB) hb2 hlo (Nat.le_refl _) w)
      simp [Instr.sliceAt, run_underlying hs, Instr.sureAddr, this, run_szOf hm]
    · by_cases he : n = ll
      · exact .inl (by omega)
      · refine .inr ⟨?_, ?_⟩
        · rw [if_neg he, add_lit, Nat.add_assoc]
        · rw [Nat.sub_mul]
          have := Nat.mul_le_mul_right m (show ll ≤ n by omega)
          omega
end
end
end Go.Ab
