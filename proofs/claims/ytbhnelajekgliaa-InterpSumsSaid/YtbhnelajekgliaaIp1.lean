/- InterpSums: a machine of any code: a closed run but for the numbers. -/
import Derived.Test.YtbhnelajekgliaaFl1
namespace Go.Ab
noncomputable section
def two (v : Value) : Option (Value × Value) :=
  match v with
  | .tuple ⟨[x, y]⟩ => some (x, y)
  | _ => none
def intIs (v : Value) (n : Int) : Bool :=
  match v with
  | .int .i64 m => decide (m = n)
  | _ => false
theorem two_inv {v x y : Value} (h : two v = some (x, y)) : v = .tuple #[x, y] := by
  unfold two at h
  split at h
  · cases h; rfl
  · cases h
theorem intIs_inv {v : Value} {n : Int} (h : intIs v n = true) : v = .int .i64 n := by
  unfold intIs at h
  split at h
  · rw [of_decide_eq_true h]
  · cases h
theorem two_rv {β : Beta} {v x y u : Value} (h : two v = some (x, y)) (hr : RV β v u) : ∃ x' y', u = .tuple #[x', y'] ∧ RV β x x' ∧ RV β y y' := by
  rw [two_inv h] at hr
  obtain ⟨l', rfl, hl⟩ := RL.of_tuple hr
  obtain ⟨x', l1, e1, h1, hl1⟩ := hl.inv
  obtain ⟨y', l2, e2, h2, hl2⟩ := hl1.inv
  have := hl2.inv_nil
  subst this
  refine ⟨x', y', ?_, h1, h2⟩
  cases l'
  simp only at e1
  subst e1 e2
  rfl
end
end Go.Ab
namespace Go.Proofs.Ytbhnelajekgliaa
open Go.Ab Go.Vc
noncomputable section
theorem mixedF : Try.prog.follows .mixedOrders = true := by kernel_rfl
def run1 (f : FuncId) (args : List Value) (s : Go.Ab.St) : Option (Value × Go.Ab.St) := callE Try.prog noG 100000 100 f args s
theorem run1_ok {β : Beta} {s s' : Go.Ab.St} {w : World} {f : FuncId} {args args' : List Value} {v : Value} (hr : run1 f args s = some (v, s')) (h : Rel noG β s w) (ha : RL β args args') :
    callD Try.prog f args'.toArray w fun v' w' => ∃ β', Ev noG β s w β' s' w' ∧ RV β' v v' := callE_sound mixedF 100000 100 _ _ _ _ _ _ _ _ hr h (by simpa using ha)
abbrev nl : Value := .slice none 0 0
abbrev pt (b : Nat) : Value := .pointer (some ⟨b, 0, none⟩)
/-- The cells of a code. -/
def codeV (m : Nat) (o a : Nat → Int) : List Value := (List.range m).flatMap fun i => [.int .i64 (o i), .int .i64 (a i), .int .i64 0]
def newS : Option (Value × Go.Ab.St) :=
  (run1 12 [.int .i64 200] ⟨0, .e⟩).bind fun r => (two r.1).bind fun q => if intIs q.2 0 then some (q.1, r.2) else none
/-- What Add is given. -/
def pushS (m : Nat) (o a : Nat → Int) (s : Go.Ab.St) : Go.Ab.St :=
  (((s.push (.ro (codeV m o a).length .nilIface (trOf 0 (codeV m o a) .e))).push (obOf [.int .i64 1])).push (obOf [.int .i64 1])).push (obOf [nl, .int .i64 0, .slice (some ⟨s.n + 2, 0, none⟩) 1 1, .slice (some ⟨s.n, 0, none⟩) m 3])
def imgS (s : Go.Ab.St) : Value := .agg #[.string { data := #[97] }, .slice (some ⟨s.n + 1, 0, none⟩) 1 1, nl, .slice (some ⟨s.n + 3, 0, none⟩) 1 4, nl]
def preM (m : Nat) (o a : Nat → Int) : Option (Value × Value × Go.Ab.St) :=
  newS.bind fun y => (run1 13 [y.1, imgS y.2] (pushS m o a y.2)).bind fun r => (run1 14 [y.1, .int .i64 0, .int .i64 200] r.2).bind fun t => (two t.1).bind fun q => if intIs q.2 0 then some (y.1, q.1, t.2) else none
end
end Go.Proofs.Ytbhnelajekgliaa
