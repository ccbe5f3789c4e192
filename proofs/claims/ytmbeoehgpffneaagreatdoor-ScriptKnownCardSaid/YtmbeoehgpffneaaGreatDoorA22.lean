/- Closed calls that are known to answer true are not run again. -/
import Derived.Test.YtmbeoehgpffneaaGreatDoorA21
namespace Go.Ab
noncomputable section
open Go.Vc (callD Ext)
/-- Some functions without parameters are known to answer true. -/
def callT (T : Nat → Bool) (P : Program) (G : Nat → Bool) (fuel : Nat) : Nat → FuncId → List Value → St → Option (Value × St)
  | 0, _, _, _ => none
  | n + 1, f, args, s => match T f with
    | true => match args with | [] => some (.bool true, s) | _ => none
    | false => stepE P G fuel (callT T P G fuel n) f args s
def Known (P : Program) (T : Nat → Bool) : Prop := ∀ f, T f = true → ∀ w, callD P f #[] w fun v w' => v = .bool true ∧ Ext w w'
theorem Rel.ext {G : Nat → Bool} {β : Beta} {s : St} {w w' : World} (h : Rel G β s w) (hx : Ext w w') : Ev G β s w β s w' := by
  have hk : ∀ r, r < w.heap.size → w'.heap[r]? = w.heap[r]? := fun r hr => hx.block r hr (by simp)
  exact ⟨⟨h.n, fun b r base lim hb => by obtain ⟨ob, h1, h2⟩ := h.live b r base lim hb; exact ⟨ob, h1, h2.mono (.refl β) (hk r h2.lt)⟩, h.inj, h.glob, h.gn, h.dead⟩, .refl β, hx.size, fun r hr _ => hk r hr, fun _ _ _ _ hb => .inl ⟨_, _, _, hb⟩, Nat.le_refl _, fun _ _ hf => ⟨rfl, hf⟩, ⟨hx.os, hx.tape, hx.output⟩, fun b _ _ _ _ hg => ⟨hg, rfl, fun r base lim hl => hk r (h.rlt hl)⟩⟩
theorem callT_ok {P : Program} {G : Nat → Bool} {T : Nat → Bool} (hm : P.follows .mixedOrders = true) (hT : Known P T) (fuel : Nat) : ∀ n, CallOk P G (callT T P G fuel n)
  | 0 => fun β s w f args args' v s' h _ _ => by cases h
  | n + 1 => fun β s w f args args' v s' h hr hl => by
    have ih := callT_ok (G := G) hm hT fuel n
    simp only [callT] at h
    split at h
    · rename_i hf
      split at h <;> cases h
      have ha : args' = #[] := by have := hl.1; exact Array.eq_empty_of_size_eq_zero (by simpa using this.symm)
      subst ha
      exact callD.mono' (hT f hf w) fun v' w' ⟨h1, h2⟩ => ⟨β, hr.ext h2, by rw [h1]; exact .bool true⟩
    · exact stepE_ok hm ih (draw_ok hm _ ih) fuel β s w f args args' v s' h hr hl
theorem closed_trueT {P : Program} {T : Nat → Bool} (hm : P.follows .mixedOrders = true) (hT : Known P T) {fuel n f : Nat} (h : okTrue (callT T P noG fuel n f [] ⟨0, .e⟩) = true) (w : World) :
    callD P f #[] w fun v w' => v = .bool true ∧ Ext w w' := by
  generalize hr : callT T P noG fuel n f [] ⟨0, .e⟩ = r at h
  unfold okTrue at h
  split at h <;> try (cases h; done)
  exact callD.mono' (callT_ok hm hT fuel n _ _ w f [] #[] _ _ hr (rel_empty w) .nil) fun v' w' ⟨β', h1, h2⟩ => ⟨RV.bool_inv h2, h1.ext⟩
theorem known_one {P : Program} {g : Nat} (h : ∀ w, callD P g #[] w fun v w' => v = .bool true ∧ Ext w w') : Known P (fun f => Nat.beq f g) := fun f hf => by
  have := Nat.eq_of_beq_eq_true hf
  subst this
  exact h
theorem known_or {P : Program} {T U : Nat → Bool} (h : Known P T) (k : Known P U) : Known P (fun f => T f || U f) := fun f hf => by
  cases hT : T f with
  | true => exact h f hT
  | false => exact k f (by simpa [hT] using hf)
end
end Go.Ab
