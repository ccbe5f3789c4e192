/- Calls by contract, in a table: the evaluator asks the table first. -/
import Derived.Test.YtmbeoehgpffneaaGreatDoorA22
namespace Go.Ab
noncomputable section
open Go.Vc (callD Ext)
abbrev Orc := List Value → St → Option (Value × St)
def callQ (O : FuncId → Option Orc) (P : Program) (G : Nat → Bool) (fuel : Nat) : Nat → FuncId → List Value → St → Option (Value × St)
  | 0, _, _, _ => none
  | n + 1, f, args, s => match O f with
    | some h => match h args s with
      | some r => some r
      | none => stepE P G fuel (callQ O P G fuel n) f args s
    | none => stepE P G fuel (callQ O P G fuel n) f args s
def OrcOk1 (P : Program) (G : Nat → Bool) (f : FuncId) (h : Orc) : Prop := ∀ β s w args args' v s', h args s = some (v, s') → Rel G β s w → RL β args (Array.toList args') → callD P f args' w fun v' w' => ∃ β', Ev G β s w β' s' w' ∧ RV β' v v'
def OrcOk (P : Program) (G : Nat → Bool) (O : FuncId → Option Orc) : Prop := ∀ f h, O f = some h → OrcOk1 P G f h
theorem callQ_ok {P : Program} {G : Nat → Bool} {O : FuncId → Option Orc} (hm : P.follows .mixedOrders = true) (hO : OrcOk P G O) (fuel : Nat) : ∀ n, CallOk P G (callQ O P G fuel n)
  | 0 => fun β s w f args args' v s' h _ _ => by cases h
  | n + 1 => fun β s w f args args' v s' h hr hl => by
    have ih := callQ_ok hm hO fuel n
    simp only [callQ] at h
    split at h
    · rename_i g hg
      split at h
      · rename_i r hgr
        cases h
        exact hO f g hg β s w args args' v s' hgr hr hl
      · exact stepE_ok hm ih (draw_ok hm _ ih) fuel β s w f args args' v s' h hr hl
    · exact stepE_ok hm ih (draw_ok hm _ ih) fuel β s w f args args' v s' h hr hl
/-- A table of one; two tables. -/
def orc1 (g : Nat) (h : Orc) : FuncId → Option Orc := fun f => match Nat.beq f g with | true => some h | false => none
def orcOr (A B : FuncId → Option Orc) : FuncId → Option Orc := fun f => match A f with | some h => some h | none => B f
theorem orc1_ok {P : Program} {G : Nat → Bool} {g : Nat} {h : Orc} (hk : OrcOk1 P G g h) : OrcOk P G (orc1 g h) := fun f h' hf => by
  unfold orc1 at hf
  split at hf
  · rename_i he
    have := Nat.eq_of_beq_eq_true he
    subst this
    cases hf
    exact hk
  · cases hf
theorem orcOr_ok {P : Program} {G : Nat → Bool} {A B : FuncId → Option Orc} (ha : OrcOk P G A) (hb : OrcOk P G B) : OrcOk P G (orcOr A B) := fun f h' hf => by
  unfold orcOr at hf
  split at hf
  · rename_i hA
    cases hf
    exact ha _ _ hA
  · exact hb _ _ hf
/-- An answer that leaves the store as it is. -/
def orcP (ans : List Value → Option Value) : Orc := fun args s => match ans args with | some v => some (v, s) | none => none
theorem orcP_ok {P : Program} {G : Nat → Bool} {g : Nat} {ans : List Value → Option Value} (h : ∀ β args args' v, ans args = some v → RL β args (Array.toList args') → ∀ w, callD P g args' w fun v' w' => RV β v v' ∧ Ext w w') : OrcOk1 P G g (orcP ans) := fun β s w args args' v s' hc hr hl => by
  unfold orcP at hc
  split at hc <;> cases hc
  rename_i ha
  exact callD.mono' (h β args args' v ha hl w) fun v' w' ⟨h1, h2⟩ => ⟨β, hr.ext h2, h1⟩
/-- Known to answer true. -/
theorem known_orc {P : Program} {G : Nat → Bool} {g : Nat} (h : ∀ w, callD P g #[] w fun v w' => v = .bool true ∧ Ext w w') : OrcOk1 P G g (orcP fun args => match args with | [] => some (.bool true) | _ => none) := orcP_ok fun β args args' v hv hl w => by
  split at hv <;> cases hv
  have ha : args' = #[] := by have := hl.1; exact Array.eq_empty_of_size_eq_zero (by simpa using this.symm)
  subst ha
  exact callD.mono' (h w) fun v' w' ⟨h1, h2⟩ => ⟨by rw [h1]; exact .bool true, h2⟩
theorem closed_trueQ {P : Program} {O : FuncId → Option Orc} (hm : P.follows .mixedOrders = true) (hO : OrcOk P noG O) {fuel n f : Nat} (h : okTrue (callQ O P noG fuel n f [] ⟨0, .e⟩) = true) (w : World) :
    callD P f #[] w fun v w' => v = .bool true ∧ Ext w w' := by
  generalize hr : callQ O P noG fuel n f [] ⟨0, .e⟩ = r at h
  unfold okTrue at h
  split at h <;> try (cases h; done)
  exact callD.mono' (callQ_ok hm hO fuel n _ _ w f [] #[] _ _ hr (rel_empty w) .nil) fun v' w' ⟨β', h1, h2⟩ => ⟨RV.bool_inv h2, h1.ext⟩
end
end Go.Ab
