/- Single operations that neither read nor write. -/
import Derived.Test.YtmbeoehgpffneaaGreatDoorA3
namespace Go.Ab
noncomputable section

/-! ### Values without addresses -/
def gnd1 : Value → Bool
  | .bool _ | .int _ _ | .string _ | .pointer none | .slice none 0 0 | .nilFunc | .nilIface => true
  | .func (.func _) ⟨[]⟩ ⟨[]⟩ => true
  | _ => false
def allB {α : Type} (p : α → Bool) : List α → Bool
  | [] => true
  | a :: l => match p a with | true => allB p l | false => false
theorem allB_mem {α : Type} {p : α → Bool} : ∀ {l : List α}, allB p l = true → ∀ a ∈ l, p a = true
  | [], _, a, h => by simp at h
  | x :: l, h, a, ha => by
    simp only [allB] at h
    split at h
    · rename_i hx
      rcases List.mem_cons.1 ha with rfl | ha
      · exact hx
      · exact allB_mem h a ha
    · cases h
def gnd (v : Value) : Bool :=
  match v with
  | .agg l => allB gnd1 l.toList
  | v => gnd1 v
theorem gnd1_rv {β : Beta} {v : Value} (h : gnd1 v = true) : RV β v v := by
  unfold gnd1 at h
  split at h <;> first | (constructor; done) | cases h
  exact .func _ rfl fun i v v' h _ => by simp at h
theorem gndL_rl {β : Beta} {l : List Value} (h : allB gnd1 l = true) : RL β l l := by
  refine ⟨rfl, fun i v v' h1 h2 => ?_⟩
  rw [h1] at h2; cases h2
  exact gnd1_rv (allB_mem h v (List.mem_of_getElem? h1))
theorem gnd_rv {β : Beta} {v : Value} (h : gnd v = true) : RV β v v := by
  unfold gnd at h
  split at h
  · rename_i l
    exact RV.agg_of (l := l.toList) (l' := l.toList) (gndL_rl h)
  · exact gnd1_rv h

/-! ### Types -/
section
variable (P : Program)
def szOf (t : TypeId) : Option Nat := match P.info? t with | some i => some i.size | none => none
/-- The cells of a type's zero. -/
def zeroL (t : TypeId) : Option (List Value) :=
  match P.info? t with
  | some i => match i.zero with
    | some z => match allB gnd1 z.cells.toList with | true => some z.cells.toList | false => none
    | none => none
  | none => none
def zeroV (t : TypeId) : Option Value :=
  match P.info? t with
  | some i => match i.zero with
    | some z => match gnd z with | true => some z | false => none
    | none => none
  | none => none
def isAggD : TypeDesc → Bool
  | .struct _ | .array _ _ => true
  | _ => false
/-- A part of cells. -/
def partL (t : TypeId) (cs : List Value) (off : Nat) : Option Value :=
  match P.underlying t with
  | none => none
  | some d => match isAggD d with
    | true => match szOf P t with | some n => some (.agg ⟨(cs.drop off).take n⟩) | none => none
    | false => cs[off]?
def placesL : List Field → Option (List (Nat × Nat))
  | [] => some []
  | f :: l => match szOf P f.type with
    | some n => match placesL l with | some r => some ((f.offset, n) :: r) | none => none
    | none => none
end
def splice (cs : List Value) (off : Nat) (l : List Value) : List Value := cs.take off ++ (l ++ cs.drop (off + l.length))
def fillL (place : Nat → Option (Nat × Nat)) : List Value → List (Nat × Value) → Option (List Value)
  | cs, [] => some cs
  | cs, (i, v) :: rest => match place i with
    | none => none
    | some (off, size) => match Nat.beq v.cells.toList.length size && Nat.ble (off + size) cs.length with
      | true => fillL place (splice cs off v.cells.toList) rest
      | false => none

/-- Nothing in the world is asked or turned. -/
def Pu (P : Program) (β : Beta) (sem : Sem Value) (v : Value) : Prop := ∃ v', (∀ w, sem.run P w = .ok v' w) ∧ RV β v v'
section
variable {P : Program} {β : Beta} {w : World}
theorem run_info {t : TypeId} {i : TypeInfo} (h : P.info? t = some i) : (typeInfo t).run P w = .ok i w := by simp [typeInfo, h]
theorem run_szOf {t : TypeId} {n : Nat} (h : szOf P t = some n) : (sizeOf t).run P w = .ok n w := by
  unfold szOf at h
  split at h
  · rename_i i hi; cases h; simp [sizeOf, typeInfo, hi]
  · cases h
theorem zeroL_inv {t : TypeId} {l : List Value} (h : zeroL P t = some l) : ∃ i z, P.info? t = some i ∧ i.zero = some z ∧ z.cells.toList = l ∧ allB gnd1 l = true := by
  unfold zeroL at h
  split at h
  · rename_i i hi
    split at h
    · rename_i z hz
      split at h
      · rename_i hg; cases h; exact ⟨i, z, hi, hz, rfl, hg⟩
      · cases h
    · cases h
  · cases h
theorem zeroV_inv {t : TypeId} {z : Value} (h : zeroV P t = some z) : ∃ i, P.info? t = some i ∧ i.zero = some z ∧ gnd z = true := by
  unfold zeroV at h
  split at h
  · rename_i i hi
    split at h
    · rename_i z' hz
      split at h
      · rename_i hg; cases h; exact ⟨i, hi, hz, hg⟩
      · cases h
    · cases h
  · cases h
theorem run_zeroV {t : TypeId} {z : Value} {i : TypeInfo} (h : P.info? t = some i) (hz : i.zero = some z) : (zeroValue t).run P w = .ok z w := by simp [zeroValue, typeInfo, h, hz]
theorem run_isAggD {t : TypeId} {d : TypeDesc} (ht : P.underlying t = some d) : (isAgg t).run P w = .ok (isAggD d) w := by
  cases d <;> simp [isAgg, run_underlying ht, isAggD]
theorem partL_run {t : TypeId} {cs cs' : List Value} {off : Nat} {v : Value} (h : partL P t cs off = some v) (hl : RL β cs cs') : ∃ v', (∀ w, (part t ⟨cs'⟩ off).run P w = .ok v' w) ∧ RV β v v' := by
  unfold partL at h
  split at h
  · cases h
  · rename_i d hd
    split at h
    · rename_i ha
      split at h
      · rename_i n hn
        cases h
        refine ⟨.agg ⟨(cs'.drop off).take n⟩, fun w => ?_, RV.agg_of ((hl.drop off).take n)⟩
        simp only [part, Sem.run_bind, run_isAggD hd, ha, Result.andThen_ok, if_true, run_szOf hn, Sem.run_pure]
        congr 2
        apply Array.toList_inj.1
        simp [List.take_drop]
      · cases h
    · rename_i ha
      obtain ⟨v', h1, h2⟩ := hl.get h
      refine ⟨v', fun w => ?_, h2⟩
      simp [part, run_isAggD hd, ha, h1]
theorem placesL_run : ∀ {l : List Field} {r : List (Nat × Nat)} (w : World), placesL P l = some r → (l.mapM (fun f => do pure (f.offset, ← sizeOf f.type)) : Sem (List (Nat × Nat))).run P w = .ok r w
  | [], r, w, h => by simp only [placesL, Option.some.injEq] at h; subst h; simp
  | f :: l, r, w, h => by
    simp only [placesL] at h
    split at h
    · rename_i n hn
      split at h
      · rename_i r' hr
        cases h
        have := placesL_run w hr
        simp only [List.mapM_cons, Sem.run_bind, run_szOf hn, Result.andThen_ok, Sem.run_pure, this]
      · cases h
    · cases h
theorem fold_splice : ∀ (l : List Value) (k : Nat) (cs : Array Value) (off : Nat), off + k + l.length ≤ cs.size →
    ((l.zipIdx k).foldl (fun (cs : Array Value) (x : Value × Nat) => cs.setIfInBounds (off + x.2) x.1) cs).toList = splice cs.toList (off + k) l
  | [], k, cs, off, h => by simp [splice]
  | v :: l, k, cs, off, h => by
    simp only [List.zipIdx_cons, List.foldl_cons]
    rw [fold_splice l (k + 1) _ off (by simp at h ⊢; omega)]
    simp only [List.length_cons] at h
    simp only [splice, Array.toList_setIfInBounds]
    rw [show off + (k + 1) = off + k + 1 from by omega]
    rw [List.take_succ_eq_append_getElem (by simp; omega)]
    simp only [List.length_cons]
    rw [List.take_set_of_le (by omega), List.drop_set_of_lt (by omega)]
    simp [show off + k + (l.length + 1) = off + k + 1 + l.length from by omega]
theorem splice_rl {cs cs' l l' : List Value} (h : RL β cs cs') (hl : RL β l l') (off : Nat) : RL β (splice cs off l) (splice cs' off l') := by
  unfold splice
  rw [← hl.1]
  exact (h.take off).append (hl.append (h.drop _))
theorem fillL_run {place : Nat → Option (Nat × Nat)} : ∀ {l l' : List (Nat × Value)} {cs : List Value} {cs' : Array Value} {r : List Value}, fillL place cs l = some r → RL β cs cs'.toList →
    (l.map (·.1) = l'.map (·.1)) → RL β (l.map (·.2)) (l'.map (·.2)) → ∃ r', Instr.fill place cs' l' = some r' ∧ RL β r r'.toList
  | [], l', cs, cs', r, h, hc, hi, hv => by
    simp only [fillL, Option.some.injEq] at h
    subst h
    have : l' = [] := by simpa using hi.symm
    subst this
    exact ⟨cs', rfl, hc⟩
  | (i, v) :: l, l', cs, cs', r, h, hc, hi, hv => by
    simp only [fillL] at h
    split at h
    · cases h
    · rename_i off size hp
      split at h
      · rename_i hb
        simp only [Bool.and_eq_true, Nat.ble_eq] at hb
        have hb1 := Nat.eq_of_beq_eq_true hb.1
        cases l' with
        | nil => simp at hi
        | cons x l'' =>
          obtain ⟨i', v'⟩ := x
          simp only [List.map_cons, List.cons.injEq] at hi
          obtain ⟨rfl, hi⟩ := hi
          obtain ⟨u, us, hu, hv1, hv2⟩ := hv.inv
          simp only [List.map_cons, List.cons.injEq] at hu
          obtain ⟨rfl, rfl⟩ := hu
          have hvc := hv1.cells
          have hsz : v'.cells.size = size := by have := hvc.1; simp only [Array.length_toList] at this hb1; omega
          have hcs : cs.length = cs'.size := by simpa using hc.1
          have hfold := fold_splice v'.cells.toList 0 cs' off (by simp only [Array.length_toList]; omega)
          simp only [Nat.add_zero] at hfold
          have hrl := splice_rl hc hvc off
          rw [← hfold] at hrl
          obtain ⟨r', h1, h2⟩ := fillL_run h hrl hi hv2
          refine ⟨r', ?_, h2⟩
          rw [Instr.fill, hp]
          have hn : ¬ (off + v'.cells.size > cs'.size) := by omega
          simp only [hsz, ne_eq, not_true_eq_false, decide_false, Bool.false_or]
          rw [← h1]
          congr 1
          rw [show v'.cells.zipIdx = ⟨v'.cells.toList.zipIdx 0⟩ from by apply Array.toList_inj.1; simp]
          simp
          intro hlt
          omega
      · cases h
end
end
end Go.Ab
