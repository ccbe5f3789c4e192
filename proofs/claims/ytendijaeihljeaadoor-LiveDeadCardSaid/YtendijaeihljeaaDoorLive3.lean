/- Package live: Behind. -/
import Derived.Test.YtendijaeihljeaaDoorLive2
namespace Go.Vc
section
variable {P : Program} {w : World} {K : Value → World → Prop}
/-- A store into a whole block. -/
theorem stB {t x : TypeId} {z : Value} {by_ : Nat} (h : XA P t 1) (hx : Inf P x z 1 by_) {g n c e : Nat} {cs : List Value} (hb : Blk w g cs e) (hn : cs.length = n) {k : IntKind} {i : Int} (h0 : 0 ≤ i) (h1 : i < n) {u : Value} (hu : oneC u = true) {K' : World → Prop}
    (hk : K' (w.setCell ⟨g, i.toNat, none⟩ u)) :
    V P (Instr.indexAt t (.slice (some ⟨g, 0, none⟩) n c) (.int k i)) w fun p w1 => U P (Instr.storeAt x p u) w1 fun _ w2 => K' w2 := by
  obtain ⟨e', z', b', ht, hi⟩ := h
  refine V.ok (r_index ht hi h0 h1) ?_
  have hlt : i.toNat < cs.length := by omega
  have hc := hb.cell i.toNat
  rw [List.getElem?_eq_getElem hlt] at hc
  simp only [Nat.zero_add, Nat.mul_one]
  exact U.ok (r_store hx hu hc (hb.frozen _)) hk
theorem Boxed.other {b g j : Nat} {cs : List Value} {u : Value} (h : Boxed w b cs) (hne : b ≠ g) : Boxed (w.setCell ⟨g, j, none⟩ u) b cs := fun i v hi => by
  have := h i v hi
  rw [World.cell?_setCell_other _ _ _ _ (by intro he; cases he; exact hne rfl)]
  exact this
end
end Go.Vc
namespace Go.Proofs.YtendijaeihljeaaDoor
open Go.Vc

def sl (R g : Nat) : Value := .slice (some ⟨g, 0, none⟩) R R
/-- The state of Behind: the box of the program, the rows, their matrix. -/
structure St (w0 w : World) (b : Nat) (cs : List Value) (g0 : Nat) (gs : List Nat) (R : Nat) (m : Mx) : Prop where
  x : Ext w0 w
  box : Boxed w b cs
  lo : w0.heap.size ≤ g0
  bg : b < g0
  gg : ∀ g ∈ gs, g0 < g
  nd : gs.Nodup
  out : Blk w g0 (gs.map (sl R)) 28
  rows : ∀ (k g : Nat), gs[k]? = some g → Blk w g ((rowL m k R).map Value.bool) 4
theorem St.ext {w0 w w' : World} {b g0 R : Nat} {cs : List Value} {gs : List Nat} {m : Mx} (h : St w0 w b cs g0 gs R m) (hx : Ext w w') : St w0 w' b cs g0 gs R m :=
  ⟨h.x.trans hx, h.box.ext hx, h.lo, h.bg, h.gg, h.nd, h.out.ext hx, fun k g hk => (h.rows k g hk).ext hx⟩
theorem nd_inj {gs : List Nat} (h : gs.Nodup) {i j g : Nat} (hi : gs[i]? = some g) (hj : gs[j]? = some g) : i = j := by
  obtain ⟨hi', hi2⟩ := List.getElem?_eq_some_iff.1 hi
  obtain ⟨hj', hj2⟩ := List.getElem?_eq_some_iff.1 hj
  have hp := List.pairwise_iff_getElem.1 h
  rcases Nat.lt_trichotomy i j with hlt | he | hgt
  · exact absurd (hi2.trans hj2.symm) (hp i j hi' hj' hlt)
  · exact he
  · exact absurd (hj2.trans hi2.symm) (hp j i hj' hi' hgt)
theorem St.set {w0 w : World} {b g0 R : Nat} {cs : List Value} {gs : List Nat} {m : Mx} (h : St w0 w b cs g0 gs R m) {k g : Nat} (hk : gs[k]? = some g) (r : Nat) (v : Bool) :
    St w0 (w.setCell ⟨g, r, none⟩ (.bool v)) b cs g0 gs R (updM m k r v) := by
  have hgm := List.mem_of_getElem? hk
  have hg := h.gg g hgm
  refine ⟨h.x.setCell (by have := h.lo; omega) _, h.box.other (by have := h.bg; omega), h.lo, h.bg, h.gg, h.nd, h.out.other (by omega), fun k' g' hk' => ?_⟩
  by_cases he : k' = k
  · subst he
    rw [hk] at hk'
    cases hk'
    rw [rowL_upd, ← map_set_b]
    exact (h.rows _ _ hk).set r _
  · rw [rowL_other he]
    exact (h.rows k' g' hk').other fun hgg => he (nd_inj h.nd hk' (hgg ▸ hk))
/-- The matrix as the world holds it. -/
def readM (gs : List Nat) (w : World) : Mx := fun k r =>
  match gs[k]? with
  | some g => (match w.cell? ⟨g, r, none⟩ with | some (.bool b) => b | _ => false)
  | none => false
theorem St.read {w0 w : World} {b g0 R : Nat} {cs : List Value} {gs : List Nat} {m : Mx} (h : St w0 w b cs g0 gs R m) {k r : Nat} (hk : k < gs.length) (hr : r < R) : readM gs w k r = m k r := by
  obtain ⟨g, hg⟩ := ex_get hk
  unfold readM
  rw [hg]
  have := (h.rows k g hg).cell r
  rw [List.getElem?_map, rowL_get hr] at this
  simp [this]
theorem cntR_congr {f g : Nat → Bool} : ∀ n, (∀ j, j < n → f j = g j) → cntR f n = cntR g n
  | 0, _ => rfl
  | n + 1, h => by unfold cntR; rw [cntR_congr n fun j hj => h j (by omega), h n (by omega)]
theorem cntM_congr {m m' : Mx} {R : Nat} : ∀ n, (∀ k r, k < n → r < R → m k r = m' k r) → cntM m R n = cntM m' R n
  | 0, _ => rfl
  | n + 1, h => by unfold cntM; rw [cntM_congr n fun k r hk hr => h k r (by omega) hr, cntR_congr R fun r hr => h n r (by omega) hr]
theorem St.cnt {w0 w : World} {b g0 R : Nat} {cs : List Value} {gs : List Nat} {m : Mx} (h : St w0 w b cs g0 gs R m) : cntM (readM gs w) R gs.length = cntM m R gs.length :=
  cntM_congr _ fun _ _ hk hr => h.read hk hr

/-- All that is ahead of what comes next is in the row. -/
def Done (p : GProg) (R : Nat) (m : Mx) (k : Nat) : Prop := ∀ to : Nat, (to : Int) ∈ (p.at' k).nx k → ∀ r < R, AheadP p (fun a b => m a b = true) to r → m k r = true
def Snd (p : GProg) (m : Mx) : Prop := ∀ k r, m k r = true → Alive p k r
/-- A sweep so far: what has grown. -/
structure Swp (p : GProg) (N R : Nat) (m0 m : Mx) (f : Bool) : Prop where
  le : ∀ k r, m0 k r = true → m k r = true
  snd : Snd p m
  no : f = false → m = m0
  yes : f = true → ∃ k r, k < N ∧ r < R ∧ m0 k r = false ∧ m k r = true
theorem Swp.step {p : GProg} {N R : Nat} {m0 m : Mx} {f : Bool} (h : Swp p N R m0 m f) {k r : Nat} (hk : k < N) (hr : r < R) (a : Bool) (ha : a = true → Alive p k r) :
    Swp p N R m0 (updM m k r (m k r || a)) (f || (a && !m k r)) := by
  have hle : ∀ k' r', m k' r' = true → updM m k r (m k r || a) k' r' = true := by
    intro k' r' h'
    unfold updM
    split
    · rename_i he; rw [he.1, he.2] at h'; simp [h']
    · exact h'
  refine ⟨fun k' r' h' => hle _ _ (h.le _ _ h'), ?_, ?_, ?_⟩
  · intro k' r' h'
    unfold updM at h'
    split at h'
    · rename_i he
      rw [he.1, he.2]
      rcases Bool.or_eq_true_iff.1 h' with h1 | h1
      · exact h.snd _ _ h1
      · exact ha h1
    · exact h.snd _ _ h'
  · intro hf
    have hf' := Bool.or_eq_false_iff.1 hf
    have : (m k r || a) = m k r := by
      have := hf'.2
      cases hm : m k r <;> cases a <;> simp_all
    rw [this, updM_same]
    exact h.no hf'.1
  · intro hf
    rcases Bool.or_eq_true_iff.1 hf with h1 | h1
    · obtain ⟨k', r', h2, h3, h4, h5⟩ := h.yes h1
      exact ⟨k', r', h2, h3, h4, hle _ _ h5⟩
    · have h2 : a = true ∧ m k r = false := by simpa using h1
      refine ⟨k, r, hk, hr, ?_, by simp [updM, h2.1]⟩
      cases h0 : m0 k r with
      | false => rfl
      | true => have := h.le _ _ h0; rw [h2.2] at this; cases this
/-- What is closed under the way back is all that is alive. -/
theorem alive_of_done {p : GProg} {N R : Nat} {m : Mx} (hN : N = p.nodes.length) (hv : ∀ (i : Nat) n, p.nodes[i]? = some n → RightN n i R N) (h : ∀ k < N, Done p R m k) : ∀ {k r : Nat}, Alive p k r → k < N → r < R → m k r = true := by
  intro k r ha
  have hat : ∀ k < N, p.nodes[k]? = some (p.at' k) := fun k hk => by
    unfold GProg.at'
    rw [List.getD_eq_getElem?_getD]
    obtain ⟨n, hn⟩ := ex_get (l := p.nodes) (j := k) (by omega)
    simp [hn]
  induction ha with
  | use h1 h2 => intro hk hr; exact h _ hk _ h1 _ hr (.inl h2)
  | @pass k to r h1 h2 h3 ih =>
    intro hk hr
    have hto : to < N := by have := (hv _ _ (hat _ hk)).t _ h1; omega
    exact h _ hk _ h1 _ hr (.inr ⟨h2, ih hto hr⟩)
end Go.Proofs.YtendijaeihljeaaDoor
