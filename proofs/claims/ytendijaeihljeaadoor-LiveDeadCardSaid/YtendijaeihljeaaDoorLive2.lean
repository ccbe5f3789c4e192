/- What is alive, as plain data: by ways through a program; matrices of bools that grow. -/
import Derived.Test.YtendijaeihljeaaDoorLive1
namespace Go.Proofs.YtendijaeihljeaaDoor
open Go.Vc

def GProg.at' (p : GProg) (k : Nat) : GNode := p.nodes.getD k .tick
/-- Register r is alive behind node k. -/
inductive Alive (p : GProg) : Nat → Nat → Prop
  | use {k to r : Nat} : (to : Int) ∈ (p.at' k).nx k → (r : Int) ∈ (p.at' to).us → Alive p k r
  | pass {k to r : Nat} : (to : Int) ∈ (p.at' k).nx k → (r : Int) ≠ (p.at' to).df → Alive p to r → Alive p k r
/-- ... ahead of it. -/
def AheadP (p : GProg) (m : Nat → Nat → Prop) (to r : Nat) : Prop := (r : Int) ∈ (p.at' to).us ∨ ((r : Int) ≠ (p.at' to).df ∧ m to r)
theorem alive_iff {p : GProg} {k r : Nat} : Alive p k r ↔ ∃ to : Nat, (to : Int) ∈ (p.at' k).nx k ∧ AheadP p (Alive p) to r := by
  constructor
  · intro h
    cases h with
    | use h1 h2 => exact ⟨_, h1, .inl h2⟩
    | pass h1 h2 h3 => exact ⟨_, h1, .inr ⟨h2, h3⟩⟩
  · rintro ⟨to, h1, h2 | ⟨h2, h3⟩⟩
    · exact .use h1 h2
    · exact .pass h1 h2 h3

abbrev Mx := Nat → Nat → Bool
def updM (m : Mx) (k r : Nat) (b : Bool) : Mx := fun k' r' => if k' = k ∧ r' = r then b else m k' r'
theorem updM_same (m : Mx) (k r : Nat) : updM m k r (m k r) = m := by
  funext k' r'
  unfold updM
  split
  · rename_i h; rw [h.1, h.2]
  · rfl
def rowL (m : Mx) (k R : Nat) : List Bool := (List.range R).map (m k)
theorem rowL_len (m : Mx) (k R : Nat) : (rowL m k R).length = R := by simp [rowL]
theorem rowL_get {m : Mx} {k R r : Nat} (h : r < R) : (rowL m k R)[r]? = some (m k r) := by simp [rowL, h]
theorem rowL_upd (m : Mx) (k r R : Nat) (b : Bool) : rowL (updM m k r b) k R = (rowL m k R).set r b := by
  apply List.ext_getElem?
  intro j
  by_cases hj : j < R
  · rw [rowL_get hj, List.getElem?_set]
    by_cases hr : r = j
    · subst hr; simp [updM, rowL, hj]
    · have : ¬ j = r := fun h => hr h.symm
      simp [updM, this, hr, rowL_get hj]
  · simp [rowL, hj]
theorem rowL_other {m : Mx} {k k' r R : Nat} {b : Bool} (h : k' ≠ k) : rowL (updM m k r b) k' R = rowL m k' R := by
  unfold rowL
  apply List.map_congr_left
  intro j _
  simp [updM, h]

/-- How many are not set. -/
def cntR (f : Nat → Bool) : Nat → Nat
  | 0 => 0
  | n + 1 => cntR f n + if f n then 0 else 1
def cntM (m : Mx) (R : Nat) : Nat → Nat
  | 0 => 0
  | n + 1 => cntM m R n + cntR (m n) R
theorem cntR_le {f g : Nat → Bool} (h : ∀ j, f j = true → g j = true) : ∀ n, cntR g n ≤ cntR f n
  | 0 => Nat.le_refl _
  | n + 1 => by
    have := cntR_le h n
    unfold cntR
    have hj := h n
    cases hf : f n <;> cases hg : g n <;> simp [hf, hg] at hj ⊢ <;> omega
theorem cntR_lt {f g : Nat → Bool} (h : ∀ j, f j = true → g j = true) {i : Nat} (hf : f i = false) (hg : g i = true) : ∀ n, i < n → cntR g n < cntR f n
  | 0, hi => by omega
  | n + 1, hi => by
    unfold cntR
    by_cases he : i = n
    · subst he
      have := cntR_le h i
      simp [hf, hg]; omega
    · have := cntR_lt h hf hg n (by omega)
      have hj := h n
      cases h1 : f n <;> cases h2 : g n <;> simp [h1, h2] at hj ⊢ <;> omega
theorem cntM_le {m m' : Mx} (h : ∀ k r, m k r = true → m' k r = true) (R : Nat) : ∀ n, cntM m' R n ≤ cntM m R n
  | 0 => Nat.le_refl _
  | n + 1 => by
    have h1 := cntM_le h R n
    have h2 := cntR_le (h n) R
    unfold cntM
    omega
theorem cntM_lt {m m' : Mx} (h : ∀ k r, m k r = true → m' k r = true) {R k r : Nat} (hr : r < R) (hf : m k r = false) (hg : m' k r = true) : ∀ n, k < n → cntM m' R n < cntM m R n
  | 0, hi => by omega
  | n + 1, hi => by
    unfold cntM
    have h2 := cntR_le (h n) R
    by_cases he : k = n
    · subst he
      have h1 := cntM_le h R k
      have := cntR_lt (h k) hf hg R hr
      omega
    · have := cntM_lt h hr hf hg n (by omega)
      omega

/-- aheadL, bit by bit. -/
theorem foldSet_get (l : List Int) : ∀ (bs : List Bool) (r : Nat), r < bs.length → (∀ x ∈ l, 0 ≤ x) → (l.foldl (fun a r => a.set r.toNat true) bs)[r]? = some (decide ((r : Int) ∈ l) || bs.getD r false) := by
  induction l with
  | nil => intro bs r h _; simp [h]
  | cons x l ih =>
    intro bs r h h0
    rw [List.foldl_cons, ih (bs.set x.toNat true) r (by simpa using h) (fun y hy => h0 y (by simp [hy]))]
    have hx := h0 x (by simp)
    by_cases hr : x.toNat = r
    · have : (r : Int) = x := by omega
      simp [hr, this, h]
    · have : ¬ (r : Int) = x := by omega
      simp [List.getD_eq_getElem?_getD, hr, this]
theorem aheadL_get {n : GNode} {bs : List Bool} {r : Nat} (h : r < bs.length) (h0 : ∀ x ∈ n.us, 0 ≤ x) :
    (aheadL n bs)[r]? = some (decide ((r : Int) ∈ n.us) || (decide ((r : Int) ≠ n.df) && bs.getD r false)) := by
  unfold aheadL
  rw [foldSet_get _ _ _ (by rw [killL_len]; exact h) h0]
  congr 2
  unfold killL
  split
  · rename_i hd
    by_cases hr : n.df.toNat = r
    · have : (r : Int) = n.df := by omega
      simp [hr, this, h]
    · have : ¬ (r : Int) = n.df := by omega
      simp [List.getD_eq_getElem?_getD, hr, this]
  · rename_i hd
    have : ¬ (r : Int) = n.df := by omega
    simp [this]
end Go.Proofs.YtendijaeihljeaaDoor
