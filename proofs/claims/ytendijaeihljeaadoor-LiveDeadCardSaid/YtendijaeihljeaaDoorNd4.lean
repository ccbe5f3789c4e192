/- Tame: a program that may be. -/
import Derived.Test.YtendijaeihljeaaDoorNd3
namespace Go.Proofs.YtendijaeihljeaaDoor
open Go.Vc
theorem NodeT.grow {w w' : World} {v : Value} {g : GNode} {row : Option Nat} (h : NodeT w v g) (hg : w.grownBy w' row) (hr : ∀ k, row = some k → ∃ cs e fr, w.heap[k]? = some (.cells cs e fr) ∧ e ≠ 3) : NodeT w' v g := by
  cases row with
  | none => exact h.ext hg
  | some k =>
    obtain ⟨cs, e, fr, h1, h2⟩ := hr k rfl
    exact h.grown hg h1 h2
/-- What Tame holds while it goes. -/
structure TF (w0 w : World) (B g6 g7 : Nat) (P0 R : Int) (ns : Value) (gs : List GNode) (vs : List Value) : Prop where
  x : Ext w0 w
  z : Blk w g6 [i64 0, i64 0, .slice none 0 0] 26
  t : Blk w g7 [i64 P0, i64 R, ns] 26
  own : OwnProg w B ns gs vs
  b6 : w0.heap.size ≤ g6
  b67 : g6 < B
  b7 : B ≤ g7
  nb : ∀ k, ns.ownBlock = some k → k < g7
section
variable {w0 w w' : World} {B g6 g7 : Nat} {P0 R : Int} {ns : Value} {gs : List GNode} {vs : List Value}
theorem TF.ext (h : TF w0 w B g6 g7 P0 R ns gs vs) (hx : Ext w w') : TF w0 w' B g6 g7 P0 R ns gs vs := ⟨h.x.trans hx, h.z.ext hx, h.t.ext hx, h.own.ext hx, h.b6, h.b67, h.b7, h.nb⟩
theorem TF.grow {row : Option Nat} (h : TF w0 w B g6 g7 P0 R ns gs vs) (hg : w.grownBy w' row) (hr : ∀ k, row = some k → g7 < k ∧ ∃ cs e fr, w.heap[k]? = some (.cells cs e fr) ∧ e ≠ 3) : TF w0 w' B g6 g7 P0 R ns gs vs := by
  have b6 := h.b6; have b67 := h.b67; have b7 := h.b7
  refine ⟨h.x.grown hg fun k hk => by have := (hr k hk).1; omega, h.z.grown hg fun he => by have := (hr _ he).1; omega, h.t.grown hg fun he => by have := (hr _ he).1; omega, ⟨h.own.1.kept hg ?_, fun i g hi => ?_⟩, h.b6, h.b67, h.b7, h.nb⟩
  · cases hn : ns.ownBlock with
    | none => exact .inl rfl
    | some k => exact .inr fun he => by have := h.nb k hn; have := (hr k he.symm).1; omega
  · obtain ⟨u, h1, h2⟩ := h.own.2 i g hi
    exact ⟨u, h1, h2.grow hg fun k hk => (hr k hk).2⟩
theorem TF.own' {Bx n sz : Nat} {e : TypeId} {v : Value} {xs : List Value} (h : TF w0 w B g6 g7 P0 R ns gs vs) (ho : w.ownsRow Bx e sz v n xs) (hg : w.grownBy w' v.ownBlock) (he : e ≠ 3) (hB : g7 < Bx) : TF w0 w' B g6 g7 P0 R ns gs vs :=
  h.grow hg fun k hk => by
    rcases ho.2 with ⟨rfl, _⟩ | ⟨g, cap, cur, rfl, h1, h2, _⟩
    · cases hk
    · cases hk
      exact ⟨by show g7 < g; omega, _, _, _, h2, he⟩
theorem TF.chg {g : Nat} {cs : List Value} {e : TypeId} (h : TF w0 w B g6 g7 P0 R ns gs vs) (hb : Blk w g cs e) (hc : Chg w g w') (he : e ≠ 3) (hB : g7 < g) : TF w0 w' B g6 g7 P0 R ns gs vs :=
  h.grow hc.grown fun k hk => by cases hk; exact ⟨hB, _, _, _, hb, he⟩
/-- A node is put in another's place. -/
theorem TF.put {i : Nat} {g : GNode} {u : Value} (h : TF w0 w B g6 g7 P0 R ns gs vs) (hi : i < gs.length) (ho : w'.ownsRow B 52 1 ns gs.length (vs.set i u)) (hg : w.grownBy w' ns.ownBlock) (hu : NodeT w u g) : TF w0 w' B g6 g7 P0 R ns (gs.set i g) (vs.set i u) := by
  have b6 := h.b6; have b67 := h.b67; have b7 := h.b7
  have hvl : vs.length = gs.length := by have := h.own.1.1; simpa using this
  refine ⟨h.x.grown hg fun k hk => by have := (h.own.1.lt k hk).1; omega, h.z.grown hg (own_blk h.own.1 h.b67), h.t.grown hg (fun he => by have := h.nb _ he; omega), ⟨by simpa using ho, fun j g' hj => ?_⟩, h.b6, h.b67, h.b7, h.nb⟩
  by_cases hji : j = i
  · subst hji
    rw [List.getElem?_set_self hi] at hj
    cases hj
    exact ⟨u, by rw [List.getElem?_set_self (by omega)], hu.grown' h.own.1 hg (by decide)⟩
  · rw [List.getElem?_set_ne (fun he => hji he.symm)] at hj
    obtain ⟨u', h1, h2⟩ := h.own.2 j g' hj
    exact ⟨u', by rw [List.getElem?_set_ne (fun he => hji he.symm)]; exact h1, h2.grown' h.own.1 hg (by decide)⟩
end
theorem blk_own {w : World} {g n : Nat} {cs : List Value} {e : TypeId} (h : Blk w g cs e) (hn : cs.length = n) (hm : n ≤ maxLen) : w.ownsRow g e 1 (.slice (some ⟨g, 0, none⟩) n n) n cs :=
  by
  subst hn
  exact ⟨by omega, .inr ⟨g, cs.length, cs.toArray, rfl, Nat.le_refl _, h, Nat.le_refl _, hm, by simp, by simp⟩⟩
theorem right_tick {i N : Nat} {R : Int} (h : i + 1 < N) : RightN .tick i R N := ⟨trivial, fun r hr => by simp [GNode.us] at hr, fun r hr => by simp [GNode.nx] at hr; omega, .inr ⟨rfl, rfl⟩⟩
theorem right_ret {i N : Nat} {R : Int} : RightN (.ret (-1)) i R N := ⟨trivial, fun r hr => by simp [GNode.us] at hr, fun r hr => by simp [GNode.nx] at hr, .inr ⟨rfl, rfl⟩⟩
/-- What Tame gives. -/
def Tamed (w0 w : World) (r : Value) : Prop := ∃ (p : GProg) (ns : Value) (vs : List Value), r = .agg #[i64 p.params, i64 p.regs, ns] ∧ OwnProg w w0.heap.size ns p.nodes vs ∧ OkProg p ∧ 1 ≤ p.regs ∧ p.regs ≤ 14 ∧ p.nodes.length ≤ 41 ∧ ∀ g ∈ p.nodes, g.args.length ≤ 6
/-- The end of Tame. -/
theorem tameEnd {w0 w : World} {B g6 g7 : Nat} {P0 R : Int} {ns : Value} {gs0 gs : List GNode} {vs : List Value} (h : TF w0 w B g6 g7 P0 R ns gs vs) (hm : Made gs0 P0 R) (hlen : gs.length = gs0.length) (hlast : gs[gs.length - 1]? = some (.ret (-1))) (hargs : ∀ g ∈ gs, g.args.length ≤ 6)
    (hdone : ∀ (j : Nat) g, j < gs.length - 1 → gs[j]? = some g → RightN g j R gs.length) :
    V Tryd.prog (Instr.loadAt 26 (.pointer (some ⟨g7, 0, none⟩))) w fun t76 w47 => U Tryd.prog (Instr.storeAt 26 (.pointer (some ⟨g6, 0, none⟩)) t76) w47 fun _ w48 =>
      ∃ r1, (loadVar 26 (match (Value.pointer (some ⟨g6, 0, none⟩)) with | .pointer (some p) => p | _ => ⟨0, 0, none⟩)).run Tryd.prog w48 = .ok r1 w48 ∧ (∃ p, (Value.pointer (some ⟨g6, 0, none⟩)) = Value.pointer (some p)) ∧ (Tamed w0 w48 r1 ∧ Ext w0 w48) := by
  have b6 := h.b6; have b67 := h.b67; have b7 := h.b7
  have l1 := hm.l1; have l2 := hm.l2
  refine ldA h.t.boxed la_26 rfl ?_
  refine stA inf26 h.z (l := [i64 P0, i64 R, ns]) rfl rfl rfl (by have := own1' h.own.1; simp only [List.all_cons, List.all_nil, this, Bool.and_true]; rfl) fun w9 h9 hc => ?_
  have ho := h.own.chg h.z (by decide) b67 hc
  refine ⟨_, r_var Tryd.underlying26 rfl inf26 h9 rfl, ⟨_, rfl⟩, ⟨⟨P0, R, gs⟩, ns, vs, rfl, ⟨own_mono ho.1 (by omega), ho.2⟩, ⟨by show 1 ≤ gs.length; omega, by show gs.length ≤ 250; omega, by have := hm.r1; show 0 ≤ R; omega, by have := hm.r2; show R ≤ 40; omega, hm.p1, hm.p2, hm.p3, fun j g hj => ?_⟩, hm.r1, hm.r2, by show gs.length ≤ 41; omega, hargs⟩, hc.ext _ h.x b6⟩
  have hj' : j < gs.length := (List.getElem?_eq_some_iff.1 hj).1
  by_cases hlt : j < gs.length - 1
  · exact hdone j g hlt hj
  · have : j = gs.length - 1 := by omega
    subst this
    rw [hlast] at hj
    cases hj
    exact right_ret
end Go.Proofs.YtendijaeihljeaaDoor
