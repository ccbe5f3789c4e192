/- Operations that neither read nor write: what they make. -/
import Derived.Test.YtmbeoehgpffneaaGreatDoorA4
namespace Go.Ab
noncomputable section

section
variable (P : Program)
def fieldAtV (s : TypeId) (x : Value) (f : Nat) : Option Value :=
  match P.underlying s with
  | some (.struct fs) => match x with
    | .pointer (some ⟨b, o, none⟩) => match fs.toList[f]? with
      | some fd => match szOf P fd.type with
        | some n => match Nat.beq n 0 with | true => none | false => some (.pointer (some ⟨b, o + fd.offset, none⟩))
        | none => none
      | none => none
    | _ => none
  | _ => none
def fieldV (t : TypeId) (x : Value) (f : Nat) : Option Value :=
  match P.underlying t with
  | some (.struct fs) => match x with
    | .agg cs => match fs.toList[f]? with
      | some fd => partL P fd.type cs.toList fd.offset
      | none => none
    | _ => none
  | _ => none
def indexAtV (t : TypeId) (x i : Value) : Option Value :=
  match i with
  | .int _ n => match toN n with
    | none => none
    | some j => match P.underlying t with
      | some (.slice e) => match x with
        | .slice (some ⟨b, o, none⟩) len sz => match szOf P e with
          | some m => match Nat.beq m sz && Nat.blt j len with | true => some (.pointer (some ⟨b, o + j * m, none⟩)) | false => none
          | none => none
        | _ => none
      | some (.array len e) => match x with
        | .pointer (some ⟨b, o, none⟩) => match szOf P e with
          | some m => match Nat.blt j len with | true => some (.pointer (some ⟨b, o + j * m, none⟩)) | false => none
          | none => none
        | _ => none
      | _ => none
  | _ => none
def indexV (t : TypeId) (x i : Value) : Option Value :=
  match i with
  | .int _ n => match toN n with
    | none => none
    | some j => match P.underlying t with
      | some (.array len e) => match x with
        | .agg cs => match Nat.blt j len with
          | true => match szOf P e with | some m => partL P e cs.toList (j * m) | none => none
          | false => none
        | _ => none
      | some .string => match x with
        | .string s => match (strL s)[j]? with | some b => some (.int .u8 (.ofNat (u8 b))) | none => none
        | _ => none
      | _ => none
  | _ => none
/-- A bound of a slice expression. -/
def boundV (x : Option Value) (dflt most : Nat) : Option Nat :=
  match x with
  | none => some dflt
  | some (.int _ n) => match toN n with
    | some j => match Nat.ble j most with | true => some j | false => none
    | none => none
  | _ => none
def sliceV (t : TypeId) (x : Value) (lo hi : Option Value) : Option Value :=
  match P.underlying t with
  | some .string => match x with
    | .string s => match boundV hi (strSize s) (strSize s) with
      | some h => match boundV lo 0 h with
        | some l => some (.string ⟨⟨((strL s).drop l).take (h - l)⟩⟩)
        | none => none
      | none => none
    | _ => none
  | some (.slice e) => match x with
    | .slice none 0 0 => match boundV hi 0 0 with
      | some _ => match boundV lo 0 0 with
        | some _ => match szOf P e with | some _ => some (.slice none 0 0) | none => none
        | none => none
      | none => none
    | .slice (some ⟨b, o, none⟩) len sz => match boundV hi len len with
      | some h => match boundV lo 0 h with
        | some l => match szOf P e with
          | some m => match Nat.beq m sz with | true => some (.slice (some ⟨b, o + l * m, none⟩) (h - l) sz) | false => none
          | none => none
        | none => none
      | none => none
    | _ => none
  | _ => none
def makeIfaceV (t : TypeId) (x : Value) : Option Value :=
  match P.underlying t with
  | some (.interface _) => none
  | some _ => some (.iface t x)
  | none => none
def notIfaceD : TypeDesc → Bool
  | .interface _ => false
  | _ => true
def assertV (x : Value) (u : TypeId) (ok : Bool) : Option Value :=
  match P.underlying u with
  | some d => match notIfaceD d with
    | false => none
    | true => match x with
      | .iface t v => match Nat.beq t u with
        | true => match ok with | true => some (.tuple ⟨[v, .bool true]⟩) | false => some v
        | false => match ok with
          | true => match zeroV P u with | some z => some (.tuple ⟨[z, .bool false]⟩) | none => none
          | false => none
      | .nilIface => match ok with
        | true => match zeroV P u with | some z => some (.tuple ⟨[z, .bool false]⟩) | none => none
        | false => none
      | _ => none
  | none => none
def extractV (x : Value) (i : Nat) : Option Value :=
  match x with
  | .tuple vs => vs.toList[i]?
  | _ => none
def lenV (t : TypeId) (x : Value) : Option Value :=
  match P.underlying t with
  | some .string => match x with | .string s => some (.int .i64 (.ofNat (strSize s))) | _ => none
  | some (.slice _) => match x with | .slice _ n _ => some (.int .i64 (.ofNat n)) | _ => none
  | some (.array n _) => some (.int .i64 (.ofNat n))
  | some (.pointer a) => match P.underlying a with | some (.array n _) => some (.int .i64 (.ofNat n)) | _ => none
  | _ => none
def convV (s d : TypeId) (x : Value) : Option Value :=
  match P.underlying s with
  | some _ => match P.underlying d with
    | some (.int k) => match x with | .int _ n => some (.int k (wrapF k n)) | _ => none
    | some .string => match x with
      | .string s => some (.string s)
      | .int _ n => some (.string (Utf8.encode n))
      | _ => none
    | _ => none
  | none => none
def buildV (t : TypeId) (parts : List (Nat × Value)) : Option Value :=
  match zeroL P t with
  | none => none
  | some z => match P.underlying t with
    | some (.struct fs) => match placesL P fs.toList with
      | some pl => match fillL (fun i => pl[i]?) z parts with | some l => some (.agg ⟨l⟩) | none => none
      | none => none
    | some (.array _ e) => match szOf P e with
      | some m => match fillL (fun i => some (i * m, m)) z parts with | some l => some (.agg ⟨l⟩) | none => none
      | none => none
    | _ => none
def unV (op : UnOp) (x : Value) : Option Value :=
  match op, x with
  | .neg, .int k n => some (.int k (wrapF k (0 - n)))
  | .xor, .int k n => match bitsOp .xor k (if k.signed then -1 else k.max) n with | some r => some (.int k r) | none => none
  | .not, .bool b => some (.bool (notB b))
  | _, _ => none
def min2V (x y : Value) : Option Value :=
  match x, y with
  | .int k a, .int _ b => some (.int k (match ltI b a with | true => b | false => a))
  | _, _ => none
def max2V (x y : Value) : Option Value :=
  match x, y with
  | .int k a, .int _ b => some (.int k (match ltI a b with | true => b | false => a))
  | _, _ => none
def foldV (f : Value → Value → Option Value) : Value → List Value → Option Value
  | a, [] => some a
  | a, x :: l => match f a x with | some b => foldV f b l | none => none
end

theorem add_lit (r o k : Nat) : (⟨r, o, none⟩ : Addr).add k = ⟨r, o + k, none⟩ := by
  unfold Addr.add
  split
  · rename_i h; subst h; rfl
  · rfl

section
variable {P : Program} {β : Beta}
theorem pu {sem : Sem Value} {v v' : Value} (h : ∀ w, sem.run P w = .ok v' w) (hv : RV β v v') : Pu P β sem v := ⟨v', h, hv⟩

theorem fieldAt_pu {s : TypeId} {x x' v : Value} {f : Nat} (h : fieldAtV P s x f = some v) (hx : RV β x x') : Pu P β (Instr.fieldAt s x' f) v := by
  unfold fieldAtV at h
  split at h <;> try (cases h; done)
  rename_i fs hs
  split at h <;> try (cases h; done)
  rename_i b o
  split at h <;> try (cases h; done)
  rename_i fd hf
  split at h <;> try (cases h; done)
  rename_i n hn
  split at h <;> try (cases h; done)
  rename_i hn0
  cases h
  have hn' : n ≠ 0 := fun he => by subst he; cases hn0
  have hf' : fs[f]? = some fd := by simpa using hf
  have key : ∀ a : Addr, x' = .pointer (some a) → ∀ w, (Instr.fieldAt s x' f).run P w = .ok (.pointer (some (a.add fd.offset))) w := by
    intro a ha w
    subst ha
    simp [Instr.fieldAt, run_underlying hs, hf', Instr.sureAddr, fieldPlace, run_szOf hn, hn']
  cases hx with
  | ptr hb =>
    refine pu (key _ rfl) ?_
    rw [add_lit, Nat.add_assoc]
    exact .ptr hb
  | dptr hb => exact pu (key _ rfl) (.dptr hb)
theorem field_pu {t : TypeId} {x x' v : Value} {f : Nat} (h : fieldV P t x f = some v) (hx : RV β x x') : Pu P β (Instr.field t x' f) v := by
  unfold fieldV at h
  split at h <;> try (cases h; done)
  rename_i fs hs
  split at h <;> try (cases h; done)
  rename_i cs
  split at h <;> try (cases h; done)
  rename_i fd hf
  obtain ⟨cs', rfl, hl⟩ := RL.of_agg hx
  obtain ⟨v', h1, h2⟩ := partL_run h hl
  have hf' : fs[f]? = some fd := by simpa using hf
  refine pu (v' := v') (fun w => ?_) h2
  simp [Instr.field, run_underlying hs, hf', asAgg, h1]
theorem indexAt_pu {t : TypeId} {x x' i i' v : Value} (h : indexAtV P t x i = some v) (hx : RV β x x') (hi : RV β i i') : Pu P β (Instr.indexAt t x' i') v := by
  unfold indexAtV at h
  split at h <;> try (cases h; done)
  rename_i k n
  cases hi
  split at h <;> try (cases h; done)
  rename_i j hj
  have := toN_eq hj
  subst this
  split at h <;> try (cases h; done)
  · rename_i e hs
    split at h <;> try (cases h; done)
    rename_i b o len sz
    split at h <;> try (cases h; done)
    rename_i m hm
    split at h <;> try (cases h; done)
    rename_i hc
    simp only [Bool.and_eq_true, Nat.blt_eq] at hc
    cases h
    have key : ∀ (a : Addr) cap w, (Instr.indexAt t (.slice (some a) len cap) (.int k j)).run P w = .ok (.pointer (some (a.add (j * m)))) w := by
      intro a cap w
      simp [Instr.indexAt, asIntOf, run_underlying hs, hc.2, run_szOf hm]
    cases hx with
    | slc hb hcap hp =>
      rcases hp with h0 | ⟨rfl, _⟩
      · omega
      · refine pu (key _ _) ?_
        rw [add_lit, Nat.add_assoc]
        exact .ptr hb
    | dslc hb hc => exact pu (key _ _) (.dptr hb)
  · rename_i len e hs
    split at h <;> try (cases h; done)
    rename_i b o
    split at h <;> try (cases h; done)
    rename_i m hm
    split at h <;> try (cases h; done)
    rename_i hc
    rw [Nat.blt_eq] at hc
    cases h
    have key : ∀ (a : Addr) w, (Instr.indexAt t (.pointer (some a)) (.int k j)).run P w = .ok (.pointer (some (a.add (j * m)))) w := by
      intro a w
      simp [Instr.indexAt, asIntOf, run_underlying hs, hc, run_szOf hm, Instr.sureAddr]
    cases hx with
    | ptr hb =>
      refine pu (key _) ?_
      rw [add_lit, Nat.add_assoc]
      exact .ptr hb
    | dptr hb => exact pu (key _) (.dptr hb)
theorem index_pu {t : TypeId} {x x' i i' v : Value} (h : indexV P t x i = some v) (hx : RV β x x') (hi : RV β i i') : Pu P β (Instr.index t x' i') v := by
  unfold indexV at h
  split at h <;> try (cases h; done)
  rename_i k n
  cases hi
  split at h <;> try (cases h; done)
  rename_i j hj
  have := toN_eq hj
  subst this
  split at h <;> try (cases h; done)
  · rename_i len e hs
    split at h <;> try (cases h; done)
    rename_i cs
    split at h <;> try (cases h; done)
    rename_i hc
    rw [Nat.blt_eq] at hc
    split at h <;> try (cases h; done)
    rename_i m hm
    obtain ⟨cs', rfl, hl⟩ := RL.of_agg hx
    obtain ⟨v', h1, h2⟩ := partL_run h hl
    refine pu (v' := v') (fun w => ?_) h2
    simp [Instr.index, asIntOf, run_underlying hs, hc, run_szOf hm, h1]
  · rename_i hs
    split at h <;> try (cases h; done)
    rename_i s
    split at h <;> try (cases h; done)
    rename_i b hb
    cases h
    cases hx
    refine pu (v' := .int .u8 b.toNat) (fun w => ?_) (.int _ _)
    have hb' : s[j]? = some b := by
      unfold strL at hb
      have hj' : j < s.data.size := by have := (List.getElem?_eq_some_iff.1 hb).1; simpa using this
      have h2 := (List.getElem?_eq_some_iff.1 hb).2
      rw [getElem?_pos s j hj']
      rw [Array.getElem_toList] at h2
      exact congrArg some h2
    simp [Instr.index, asIntOf, run_underlying hs, hb']
theorem bound_run {x : Option Value} {x' : Option Value} {dflt most n m : Nat} {code : BoundsCode} (h : boundV x dflt most = some n) (hx : x = none ∧ x' = none ∨ ∃ v v', x = some v ∧ x' = some v' ∧ RV β v v') (hm : most ≤ m) :
    ∀ w, ((match x' with | some v => Instr.sliceBound v m code | none => pure dflt : Sem Nat)).run P w = .ok n w := by
  intro w
  rcases hx with ⟨rfl, rfl⟩ | ⟨v, v', rfl, rfl, hv⟩
  · simp only [boundV, Option.some.injEq] at h
    subst h; rfl
  · cases hv <;> simp only [boundV, reduceCtorEq] at h
    split at h <;> try (cases h; done)
    rename_i j hj
    have := toN_eq hj
    subst this
    split at h <;> try (cases h; done)
    rename_i hb
    rw [Nat.ble_eq] at hb
    cases h
    have h2 : n ≤ m := by omega
    simp [Instr.sliceBound, asIntOf, h2]
end
end
end Go.Ab
