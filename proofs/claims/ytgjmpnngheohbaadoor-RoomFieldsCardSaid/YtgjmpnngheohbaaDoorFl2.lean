/- A room with three applets: a closed run. -/
import Derived.Test.YtgjmpnngheohbaaDoorFl1
namespace Go.Ab
noncomputable section
def two (v : Value) : Option (Value × Value) :=
  match v with
  | .tuple ⟨[x, y]⟩ => some (x, y)
  | _ => none
def intIs (v : Value) (n : Int) : Bool :=
  match v with
  | .int .i64 m => decide (m = n)
  | _ => false
def isTrue (v : Value) : Bool :=
  match v with
  | .bool true => true
  | _ => false
theorem two_inv {v x y : Value} (h : two v = some (x, y)) : v = .tuple #[x, y] := by
  unfold two at h
  split at h
  · cases h; rfl
  · cases h
theorem intIs_inv {v : Value} {n : Int} (h : intIs v n = true) : v = .int .i64 n := by
  unfold intIs at h
  split at h
  · rw [of_decide_eq_true h]
  · cases h
theorem isTrue_inv {v : Value} (h : isTrue v = true) : v = .bool true := by
  unfold isTrue at h
  split at h
  · rfl
  · cases h
theorem two_rv {β : Beta} {v x y u : Value} (h : two v = some (x, y)) (hr : RV β v u) : ∃ x' y', u = .tuple #[x', y'] ∧ RV β x x' ∧ RV β y y' := by
  rw [two_inv h] at hr
  obtain ⟨l', rfl, hl⟩ := RL.of_tuple hr
  obtain ⟨x', l1, e1, h1, hl1⟩ := hl.inv
  obtain ⟨y', l2, e2, h2, hl2⟩ := hl1.inv
  have := hl2.inv_nil
  subst this
  refine ⟨x', y', ?_, h1, h2⟩
  cases l'
  simp only at e1
  subst e1 e2
  rfl
end
end Go.Ab
namespace Go.Proofs.YtgjmpnngheohbaaDoor
open Go.Ab Go.Vc
noncomputable section
theorem mixedF : Tryd.prog.follows .mixedOrders = true := by kernel_rfl
def run1 (f : FuncId) (args : List Value) (s : Go.Ab.St) : Option (Value × Go.Ab.St) := callE Tryd.prog noG 100000 100 f args s
theorem run1_ok {β : Beta} {s s' : Go.Ab.St} {w : World} {f : FuncId} {args args' : List Value} {v : Value} (hr : run1 f args s = some (v, s')) (h : Rel noG β s w) (ha : RL β args args') :
    callD Tryd.prog f args'.toArray w fun v' w' => ∃ β', Ev noG β s w β' s' w' ∧ RV β' v v' := callE_sound mixedF 100000 100 _ _ _ _ _ _ _ _ hr h (by simpa using ha)
/-- New. -/
def newS : Option (Value × Go.Ab.St) :=
  (run1 5 [.int .i64 100] ⟨0, .e⟩).bind fun r => (two r.1).bind fun q => if intIs q.2 0 then some (q.1, r.2) else none
/-- One applet more. -/
def addS (i : Nat) (y : Value × Go.Ab.St) : Option (Value × Go.Ab.St) :=
  (run1 8 [.int .i64 i, .slice none 0 0] y.2).bind fun a => (run1 7 [y.1, a.1] a.2).bind fun r => (two r.1).bind fun q => if intIs q.1 i && isTrue q.2 then some (y.1, r.2) else none
def preS : Nat → Option (Value × Go.Ab.St)
  | 0 => newS
  | i + 1 => (preS i).bind (addS i)
theorem newS_inv {y : Value × Go.Ab.St} (h : newS = some y) : ∃ v e, run1 5 [.int .i64 100] ⟨0, .e⟩ = some (v, y.2) ∧ two v = some (y.1, e) ∧ e = .int .i64 0 := by
  unfold newS at h
  obtain ⟨⟨v, s⟩, h1, h2⟩ := Option.bind_eq_some_iff.1 h
  obtain ⟨⟨p, e⟩, h3, h4⟩ := Option.bind_eq_some_iff.1 h2
  split at h4
  · rename_i hi
    cases h4
    exact ⟨v, e, h1, h3, intIs_inv hi⟩
  · cases h4
theorem addS_inv {i : Nat} {y z : Value × Go.Ab.St} (h : addS i y = some z) : ∃ a s1 v k e, run1 8 [.int .i64 i, .slice none 0 0] y.2 = some (a, s1) ∧ run1 7 [y.1, a] s1 = some (v, z.2) ∧ two v = some (k, e) ∧ k = .int .i64 i ∧ e = .bool true ∧ z.1 = y.1 := by
  unfold addS at h
  obtain ⟨⟨a, s1⟩, h1, h2⟩ := Option.bind_eq_some_iff.1 h
  obtain ⟨⟨v, s2⟩, h3, h4⟩ := Option.bind_eq_some_iff.1 h2
  obtain ⟨⟨k, e⟩, h5, h6⟩ := Option.bind_eq_some_iff.1 h4
  split at h6
  · rename_i hi
    cases h6
    rw [Bool.and_eq_true] at hi
    exact ⟨a, s1, v, k, e, h1, h3, h5, intIs_inv hi.1, isTrue_inv hi.2, rfl⟩
  · cases h6
abbrev z32 : Value := .int .i32 0
set_option maxRecDepth 1000000 in
/-- The room, its fields' row, and the fields. -/
theorem pre_eq : (preS 3).map (fun y => (y.1, objL y.2 2, objL y.2 251, objL y.2 83, objL y.2 166, objL y.2 249)) =
    some (.pointer (some ⟨2, 0, none⟩), some [.pointer (some ⟨1, 0, none⟩), .slice (some ⟨248, 0, none⟩) 3 5, .slice (some ⟨251, 0, none⟩) 3 1, .slice none 0 0, .slice none 0 0], some [.slice (some ⟨83, 0, none⟩) 4 1, .slice (some ⟨166, 0, none⟩) 4 1, .slice (some ⟨249, 0, none⟩) 4 1],
      some [z32, z32, z32, z32], some [z32, z32, z32, z32], some [z32, z32, z32, z32]) := by kernel_rfl
end
end Go.Proofs.YtgjmpnngheohbaaDoor
