/- Operations that make new blocks; that write. -/
import Derived.Test.YtmbeoehgpffneaaGreatDoorA9
namespace Go.Ab
noncomputable section

section
variable (P : Program)
def ptrTo (id : Nat) : Value := .pointer (some ⟨id, 0, none⟩)
def allocA (t : TypeId) : Option Ob := match zeroL P t with | some l => some (obOf l) | none => none
def boxA (v : Value) : Ob := obOf v.cells.toList
/-- The zero cells of so many elements. -/
def zerosL (z : List Value) (n : Nat) : List Value := (List.range n).map fun i => match z[i % z.length]? with | some v => v | none => .nilIface
def buildSliceA (t : TypeId) (len : Nat) (parts : List (Nat × Value)) : Option (Ob × Nat) :=
  match P.underlying t with
  | some (.slice e) => match szOf P e with
    | some m => match Nat.ble (len * m) 16777216 with
      | true => match Nat.beq (len * m) 0 with
        | true => match fillL (fun i => some (i * m, m)) [] parts with | some l => some (obOf l, m) | none => none
        | false => match zeroL P e with
          | some [] => none
          | some z => match fillL (fun i => some (i * m, m)) (zerosL z (len * m)) parts with | some l => some (obOf l, m) | none => none
          | none => none
      | false => none
    | none => none
  | _ => none
def makeSliceA (t : TypeId) (l c : Value) : Option (Ob × Nat × Nat) :=
  match l with
  | .int _ l => match toN l with
    | some l => match c with
      | .int _ c => match toN c with
        | some c => match P.underlying t with
          | some (.slice e) => match P.info? e with
            | some i => match i.zero with
              | some z => match Nat.ble l c && Nat.ble (i.bytes * c) 1099511627776 && Nat.ble c 1099511627776 with
                | true => match allB gnd1 z.cells.toList with
                  | true => match z.cells.toList with
                    | [] => none
                    | [v] => match Nat.beq i.size 1 with | true => some (.cells c v .e, l, 1) | false => none
                    | zl => some (obOf (zerosL zl (c * i.size)), l, i.size)
                  | false => none
                | false => none
              | none => none
            | none => none
          | _ => none
        | none => none
      | _ => none
    | none => none
  | _ => none
def toBytesA (s d : TypeId) (x : Value) : Option (Ob × Nat) :=
  match P.underlying s with
  | some .string => match P.underlying d with
    | some (.slice e) => match P.underlying e with
      | some (.int .u8) => match x with
        | .string s => match szOf P e with
          | some m => match Nat.beq m 1 with | true => some (obOf ((strL s).map fun b => .int .u8 (.ofNat (u8 b))), strSize s) | false => none
          | none => none
        | _ => none
      | _ => none
    | _ => none
  | _ => none
def rangeA (t : TypeId) (x : Value) : Option Ob :=
  match P.underlying t with
  | some .string => match x with | .string s => some (.iter s 0) | _ => none
  | _ => none
end

/-- A new object is made, and nothing else. -/
def Nw (P : Program) (β : Beta) (w : World) (sem : Sem Value) (ob : Ob) (mk : Nat → Value) : Prop :=
  ∃ v' w' obj lim, sem.run P w = .ok v' w' ∧ w'.heap = w.heap.push obj ∧ Oth w w' ∧ (∀ β', Le β β' → ObR β' ob w.heap.size 0 lim w') ∧ ∀ β' id, β' id = .live w.heap.size 0 lim → RV β' (mk id) v'

section
variable {P : Program} {β : Beta} {w : World}
theorem push_get (w : World) (obj : Obj) : (w.alloc obj).heap[w.heap.size]? = some obj := heap_alloc_new w obj
theorem obOf_new {l : List Value} {cs : Array Value} {e : TypeId} {fz : Nat × Nat} {w w' : World} (h : RL β l cs.toList) (hw : w'.heap = w.heap.push (.cells cs e fz)) (hf : fz.1 = fz.2 ∨ cs.size ≤ fz.1) :
    ∀ β', Le β β' → ObR β' (obOf l) w.heap.size 0 cs.size w' := fun β' hle =>
  ObR.new (l' := cs.toList) (e := e) (fz := fz) (c := cs) (h.mono hle) (by rw [hw]; simp) (fun i v hv => by simpa using hv) (by rw [h.1]; simp) (Nat.le_refl _) hf
theorem alloc_nw {t : TypeId} {ob : Ob} (h : allocA P t = some ob) : Nw P β w (Instr.alloc t true (.tuple #[])) ob ptrTo := by
  unfold allocA at h
  split at h <;> cases h
  rename_i l hl
  obtain ⟨i, z, h1, h2, h3, h4⟩ := zeroL_inv hl
  refine ⟨.pointer (some ⟨w.heap.size, 0, none⟩), w.alloc (.cells z.cells t), _, z.cells.size, ?_, rfl, ⟨rfl, rfl, rfl⟩, obOf_new (by rw [h3]; exact gndL_rl h4) rfl (.inl rfl), fun β' id hid => ?_⟩
  · simp [Instr.alloc, run_zeroV h1 h2, newVar, newRow, newObj, Sem.run]
  · have := RV.ptr (o := 0) hid; simpa [ptrTo] using this
theorem box_nw {t : TypeId} {v v' : Value} (hv : RV β v v') : Nw P β w (Instr.box t v') (boxA v) ptrTo := by
  refine ⟨.pointer (some ⟨w.heap.size, 0, none⟩), w.alloc (.cells v'.cells t), _, v'.cells.size, ?_, rfl, ⟨rfl, rfl, rfl⟩, obOf_new hv.cells rfl (.inl rfl), fun β' id hid => ?_⟩
  · simp [Instr.box, newVar, newRow, newObj, Sem.run]
  · have := RV.ptr (o := 0) hid; simpa [ptrTo] using this
theorem zeros_rl {z : List Value} {z' : Array Value} (hz : z'.toList = z) (hg : allB gnd1 z = true) (n : Nat) (h0 : 0 < z.length ∨ n = 0) : RL β (zerosL z n) (madeCells z' n).toList := by
  refine ⟨by simp [zerosL, madeCells], fun i v v' h1 h2 => ?_⟩
  simp only [zerosL, List.getElem?_map, Option.map_eq_some_iff] at h1
  obtain ⟨j, hj, h1⟩ := h1
  have hj' : j = i := by have := List.getElem?_eq_some_iff.1 hj; obtain ⟨_, h⟩ := this; simpa using h.symm
  subst hj'
  have hn : j < n := by have := (List.getElem?_eq_some_iff.1 hj).1; simpa using this
  have hpos : 0 < z.length := by omega
  have hlt := Nat.mod_lt j hpos
  have hsz : z'.size = z.length := by rw [← hz]; simp
  have h3 : z[j % z.length]? = some z[j % z.length] := List.getElem?_eq_getElem hlt
  rw [h3] at h1
  simp only at h1
  subst h1
  have : v' = z[j % z.length] := by
    simp [madeCells, hn] at h2
    rw [← h2, hsz]
    have hlt' : j % z.length < z'.size := by omega
    rw [getElem!_pos z' (j % z.length) hlt']
    subst hz
    simp
  rw [this]
  exact gnd1_rv (allB_mem hg _ (List.getElem_mem hlt))
theorem fillL_len {place : Nat → Option (Nat × Nat)} : ∀ {l : List (Nat × Value)} {cs r : List Value}, fillL place cs l = some r → r.length = cs.length
  | [], cs, r, h => by simp only [fillL, Option.some.injEq] at h; rw [h]
  | (i, v) :: l, cs, r, h => by
    simp only [fillL] at h
    split at h <;> try (cases h; done)
    split at h <;> try (cases h; done)
    rename_i hb
    simp only [Bool.and_eq_true, Nat.ble_eq] at hb
    have hb1 := Nat.eq_of_beq_eq_true hb.1
    rw [fillL_len h]
    simp only [splice, List.length_append, List.length_take, List.length_drop]
    omega
theorem buildSlice_nw {t : TypeId} {len m : Nat} {parts : List (Nat × Value)} {parts' : Array (Nat × Value)} {ob : Ob} (h : buildSliceA P t len parts = some (ob, m)) (hi : parts.map (·.1) = parts'.toList.map (·.1)) (hv : RL β (parts.map (·.2)) (parts'.toList.map (·.2))) :
    Nw P β w (Instr.buildSlice t len parts') ob (fun id => .slice (some ⟨id, 0, none⟩) len m) := by
  unfold buildSliceA at h
  split at h <;> try (cases h; done)
  rename_i e hs
  split at h <;> try (cases h; done)
  rename_i m' hm
  split at h <;> try (cases h; done)
  rename_i hb
  rw [Nat.ble_eq] at hb
  have hnb : ¬ (len * m' > 2 ^ 24) := by simp; omega
  have fin : ∀ {r : List Value} {r' : Array Value}, RL β r r'.toList → len * m' ≤ r'.size → (Instr.buildSlice t len parts').run P w = .ok (.slice (some ⟨w.heap.size, 0, none⟩) len len) (w.alloc (.cells r' e)) →
      Nw P β w (Instr.buildSlice t len parts') (obOf r) (fun id => .slice (some ⟨id, 0, none⟩) len m') := by
    intro r r' hr hsz hrun
    refine ⟨_, _, _, r'.size, hrun, rfl, ⟨rfl, rfl, rfl⟩, obOf_new hr rfl (.inl rfl), fun β' id hid => ?_⟩
    exact .slc hid (Nat.le_refl _) (.inr ⟨by simp, by omega⟩)
  split at h
  · rename_i h0
    have h0 := Nat.eq_of_beq_eq_true h0
    split at h <;> cases h
    rename_i l hl
    obtain ⟨r', h5, h6⟩ := fillL_run (cs' := #[]) hl .nil hi hv
    refine fin h6 (by omega) ?_
    have hz1 : Array.map (fun _ => (default : Value)) (Array.range 0) = #[] := by simp
    simp [Instr.buildSlice, run_underlying hs, run_szOf hm, h0, newRow, newObj]
    rw [hz1, h5]
    simp [Sem.run]
  · rename_i h0
    have h0 : ¬ len * m' = 0 := fun he => by rw [he] at h0; cases h0
    split at h <;> try (cases h; done)
    rename_i z hne hz
    split at h <;> cases h
    rename_i l hl
    obtain ⟨i, zz, h1, h2, h3, h4⟩ := zeroL_inv hz
    have hzl : 0 < z.length := by
      cases z with
      | nil => exact (hne rfl).elim
      | cons _ _ => simp
    obtain ⟨r', h5, h6⟩ := fillL_run hl (zeros_rl h3 h4 (len * m) (.inl hzl)) hi hv
    have hsz := fillL_len hl
    refine fin h6 (by rw [← Array.length_toList, ← h6.1, hsz]; simp [zerosL]) ?_
    unfold madeCells at h5
    simp only [Instr.buildSlice, Sem.run_bind, run_underlying hs, Result.andThen_ok, run_szOf hm, if_neg hnb, if_neg h0, run_zeroV h1 h2, Sem.run_pure, h5, newRow, newObj]
    simp [Sem.run]
end
end
end Go.Ab
