/- RoomFields, walked. -/
import Derived.Test.YtgjmpnngheohbaaDoorFl3
namespace Go.Vc
theorem r_arrN {P : Program} {w : World} {t e n sz : Nat} {z : Value} {by_ : Nat} (ht : P.underlying t = some (.array n e)) (hi : Inf P e z sz by_) {b off : Nat} {i : Int} (h0 : 0 ≤ i) (h1 : i < n) :
    (Instr.indexAt t (.pointer (some ⟨b, off, none⟩)) (.int .i64 i)).run P w = .ok (.pointer (some ⟨b, off + i.toNat * sz, none⟩)) w := by
  simp [Instr.indexAt, asIntOf, run_underlying ht, Instr.sureAddr, run_size hi, h0, h1, add_mk]
/-- A field of an element is read. -/
theorem ldxF' {P : Program} {w : World} {K : Value → World → Prop} {t s f o ft sz : Nat} {v : Value} {n : Nat} {cs : List Value} {k : IntKind} {i : Int} {u : Value} (h : XA P t sz) (hf : FA P s f o) (hl : L1 P ft) (hs : SliceIs w v sz n cs) (h0 : 0 ≤ i) (h1 : i < n)
    (hu : cs[i.toNat * sz + o]? = some u) (hk : K u w) :
    V P (Instr.indexAt t v (.int k i)) w fun p w1 => V P (Instr.fieldAt s p f) w1 fun q w2 => V P (Instr.loadAt ft q) w2 K := by
  obtain ⟨e, z, b', hte, hi⟩ := h
  obtain ⟨d, hd, ha⟩ := hl
  obtain ⟨b, off, cap, rfl, hcell⟩ := hs.there (by omega)
  refine V.ok (r_index hte hi h0 h1) (V.ok (hf.ex w b _) (V.ok (r_load hd ha ?_) hk))
  have := hcell _ _ hu
  rw [← Nat.add_assoc] at this
  exact this
theorem q_ptrF {P : Program} {w : World} {s e : TypeId} (hs : P.underlying s = some (.pointer e)) (d : Nat) (a : Addr) : (Op.equalIn (d + 1) s (.pointer (some a)) (.pointer none)).run P w = .ok false w := by
  simp [Op.equalIn, run_underlying hs]
theorem r_eqPtrF {P : Program} {w : World} {s e : TypeId} (hs : P.underlying s = some (.pointer e)) {x y : Operand} {a : Addr} :
    (do eqGuard .eql s x y (.pointer (some a)) (.pointer none); binOp .eql s (.pointer (some a)) (.pointer none)).run P w = .ok (.bool false) w := by
  simp [eqGuard, binOp, equal_succ, q_ptrF hs]
theorem SliceIs.addr {w : World} {v : Value} {sz n : Nat} {cs : List Value} (hs : SliceIs w v sz n cs) (hn : 0 < n) : ∃ b off cap, v = .slice (some ⟨b, off, none⟩) n cap ∧ ∀ (j : Nat) u, cs[j]? = some u → w.cell? ⟨b, off + j, none⟩ = some u := hs.there hn
end Go.Vc
namespace Go.Ab
noncomputable section
theorem RV.ptr_some {β : Beta} {b o : Nat} {v : Value} (h : RV β (.pointer (some ⟨b, o, none⟩)) v) : ∃ a, v = .pointer (some a) := by
  cases h with
  | ptr hb => exact ⟨_, rfl⟩
  | dptr hb => exact ⟨_, rfl⟩
end
end Go.Ab
namespace Go.Proofs.YtgjmpnngheohbaaDoor
open Go.Vc Go.Ab
theorem preS_succ {i : Nat} {z : Value × Go.Ab.St} (h : preS (i + 1) = some z) : ∃ y, preS i = some y ∧ addS i y = some z := Option.bind_eq_some_iff.1 h
theorem preS_some (i : Nat) (hi : i ≤ 3) : ∃ y, preS i = some y ∧ y.1 = .pointer (some ⟨2, 0, none⟩) := by
  obtain ⟨y3, h3, e3⟩ : ∃ y, preS 3 = some y ∧ y.1 = .pointer (some ⟨2, 0, none⟩) := by
    have h := pre_eq
    cases hp : preS 3 with
    | none => rw [hp] at h; cases h
    | some y =>
      rw [hp] at h
      simp only [Option.map_some, Option.some.injEq, Prod.mk.injEq] at h
      exact ⟨y, rfl, h.1⟩
  obtain ⟨y2, h2, a2⟩ := preS_succ h3
  obtain ⟨_, _, _, _, _, _, _, _, _, _, q2⟩ := addS_inv a2
  obtain ⟨y1, h1, a1⟩ := preS_succ h2
  obtain ⟨_, _, _, _, _, _, _, _, _, _, q1⟩ := addS_inv a1
  obtain ⟨y0, h0, a0⟩ := preS_succ h1
  obtain ⟨_, _, _, _, _, _, _, _, _, _, q0⟩ := addS_inv a0
  have e2 : y2.1 = .pointer (some ⟨2, 0, none⟩) := q2.symm.trans e3
  have e1 : y1.1 = .pointer (some ⟨2, 0, none⟩) := q1.symm.trans e2
  have e0 : y0.1 = .pointer (some ⟨2, 0, none⟩) := q0.symm.trans e1
  have h4 : i = 0 ∨ i = 1 ∨ i = 2 ∨ i = 3 := by omega
  rcases h4 with rfl | rfl | rfl | rfl
  · exact ⟨_, h0, e0⟩
  · exact ⟨_, h1, e1⟩
  · exact ⟨_, h2, e2⟩
  · exact ⟨_, h3, e3⟩
theorem RL.five {β : Beta} {a b c d e : Value} {l : List Value} (h : RL β [a, b, c, d, e] l) : ∃ a' b' c' d' e', l = [a', b', c', d', e'] ∧ RV β a a' ∧ RV β b b' ∧ RV β c c' := by
  obtain ⟨a', l1, rfl, ha, h1⟩ := h.inv
  obtain ⟨b', l2, rfl, hb, h2⟩ := h1.inv
  obtain ⟨c', l3, rfl, hc, h3⟩ := h2.inv
  obtain ⟨d', l4, rfl, hd, h4⟩ := h3.inv
  obtain ⟨e', l5, rfl, he, h5⟩ := h4.inv
  have := h5.inv_nil
  subst this
  exact ⟨_, _, _, _, _, rfl, ha, hb, hc⟩
theorem RL.three {β : Beta} {a b c : Value} {l : List Value} (h : RL β [a, b, c] l) : ∃ a' b' c', l = [a', b', c'] ∧ RV β a a' ∧ RV β b b' ∧ RV β c c' := by
  obtain ⟨a', l1, rfl, ha, h1⟩ := h.inv
  obtain ⟨b', l2, rfl, hb, h2⟩ := h1.inv
  obtain ⟨c', l3, rfl, hc, h3⟩ := h2.inv
  have := h3.inv_nil
  subst this
  exact ⟨_, _, _, rfl, ha, hb, hc⟩
theorem RL.zeros {β : Beta} {l : List Value} (h : RL β [z32, z32, z32, z32] l) : l = [i32 0, i32 0, i32 0, i32 0] := by
  obtain ⟨a', l1, rfl, ha, h1⟩ := h.inv
  obtain ⟨b', l2, rfl, hb, h2⟩ := h1.inv
  obtain ⟨c', l3, rfl, hc, h3⟩ := h2.inv
  obtain ⟨d', l4, rfl, hd, h4⟩ := h3.inv
  have := h4.inv_nil
  subst this
  rw [RV.int_inv' ha, RV.int_inv' hb, RV.int_inv' hc, RV.int_inv' hd]
def sel (a b c : Nat) (i : Nat) : Nat := if i = 0 then a else if i = 1 then b else c
/-- What the store tells of the room. -/
theorem pre_fld {y : Value × Go.Ab.St} {β : Beta} {w : World} {v : Value} {B q : Nat} (hy : preS 3 = some y) (h : Rel noG β y.2 w) (hv : RV β y.1 v) (hp : Past β B q) : ∃ p, v = rm' p ∧ FldR p w (fun _ _ => 0) ∧ (∀ a, a < 3 → B ≤ p.g a ∧ p.g a ≠ q) ∧ p.rb ≠ q ∧ p.fb ≠ q := by
  have he := pre_eq
  rw [hy] at he
  simp only [Option.map_some, Option.some.injEq, Prod.mk.injEq] at he
  obtain ⟨e1, e2, e3, e4, e5, e6⟩ := he
  rw [e1] at hv
  obtain ⟨r2, b2, l2, h2, rfl⟩ := RV.ptr_inv (h.gone e2) hv
  obtain ⟨lb, sb, rb⟩ := h.seg h2 e2
  obtain ⟨hv', iv', fv', pv', sv', rfl, _, hiv, hfv⟩ := RL.five rb
  obtain ⟨ic, ia, hie⟩ : ∃ ia ic, iv' = .slice ia 3 ic := by
    cases hiv with
    | slc _ _ _ => exact ⟨_, _, rfl⟩
    | dslc _ _ => exact ⟨_, _, rfl⟩
  obtain ⟨r3, b3, l3, fc, h3, rfl, _, _⟩ := RV.slice_inv (h.gone e3) hfv (by omega)
  obtain ⟨lf, sf, rf⟩ := h.seg h3 e3
  obtain ⟨v0, v1, v2, rfl, q0, q1, q2⟩ := RL.three rf
  obtain ⟨g0, o0, m0, c0, k0, rfl, _, _⟩ := RV.slice_inv (h.gone e4) q0 (by omega)
  obtain ⟨g1, o1, m1, c1, k1, rfl, _, _⟩ := RV.slice_inv (h.gone e5) q1 (by omega)
  obtain ⟨g2, o2, m2, c2, k2, rfl, _, _⟩ := RV.slice_inv (h.gone e6) q2 (by omega)
  obtain ⟨x0, s0, z0⟩ := h.seg k0 e4
  obtain ⟨x1, s1, z1⟩ := h.seg k1 e5
  obtain ⟨x2, s2, z2⟩ := h.seg k2 e6
  rw [RL.zeros z0] at s0
  rw [RL.zeros z1] at s1
  rw [RL.zeros z2] at s2
  have ne : ∀ {b b' r r' a l a' l' : Nat}, β b = .live r a l → β b' = .live r' a' l' → b ≠ b' → r ≠ r' := fun hb hb' hn he => by
    subst he
    exact hn (h.inj _ _ _ _ _ _ _ hb hb')
  refine ⟨⟨r2, b2 + 0, r3, b3 + 0, fc, hv', iv', pv', sv', sel g0 g1 g2, sel (o0 + 0) (o1 + 0) (o2 + 0), sel c0 c1 c2⟩, rfl, ⟨sb, sf, fun a ha => ?_, fun a ha => ?_, ⟨_, _, hie⟩⟩, fun a ha => ?_, (hp _ _ _ _ h2).2, (hp _ _ _ _ h3).2⟩
  · have h3 : a = 0 ∨ a = 1 ∨ a = 2 := by omega
    rcases h3 with rfl | rfl | rfl
    · exact s0
    · exact s1
    · exact s2
  · have n0 := ne k0 h2 (by decide)
    have n1 := ne k1 h2 (by decide)
    have n2 := ne k2 h2 (by decide)
    have m0 := ne k0 h3 (by decide)
    have m1 := ne k1 h3 (by decide)
    have m2 := ne k2 h3 (by decide)
    have d0 := ne k0 k1 (by decide)
    have d1 := ne k0 k2 (by decide)
    have d2 := ne k1 k2 (by decide)
    have h3 : a = 0 ∨ a = 1 ∨ a = 2 := by omega
    refine ⟨by rcases h3 with rfl | rfl | rfl <;> assumption, by rcases h3 with rfl | rfl | rfl <;> assumption, fun a' ha' hg => ?_⟩
    have h3' : a' = 0 ∨ a' = 1 ∨ a' = 2 := by omega
    rcases h3 with rfl | rfl | rfl <;> rcases h3' with rfl | rfl | rfl <;> simp [sel] at hg ⊢
    · exact d0 hg
    · exact d1 hg
    · exact d0 hg.symm
    · exact d2 hg
    · exact d1 hg.symm
    · exact d2 hg.symm
  · have h3 : a = 0 ∨ a = 1 ∨ a = 2 := by omega
    rcases h3 with rfl | rfl | rfl
    · exact hp _ _ _ _ k0
    · exact hp _ _ _ _ k1
    · exact hp _ _ _ _ k2
end Go.Proofs.YtgjmpnngheohbaaDoor
