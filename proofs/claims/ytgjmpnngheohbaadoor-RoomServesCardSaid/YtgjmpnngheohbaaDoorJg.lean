/- RoomServes: two applets are added to both rooms: a closed run. RoomServes: fields of two applets; both rooms side by side. RoomServes: both rooms are alike. RoomServes: operations; any number served; new rooms. RoomServes: both rooms, at the start. RoomServes: the law, part by part (the parts are cut out by mksy6.py). RoomServes, walked. -/
import Derived.Test.YtgjmpnngheohbaaDoorJf
import Derived.Test.YtgjmpnngheohbaaDoorJb
import Derived.Laws.StructEq
namespace Go.Proofs.YtgjmpnngheohbaaDoor
open Go.Ab Go.Vc
noncomputable section
abbrev pt (b : Nat) : Value := .pointer (some ⟨b, 0, none⟩)
abbrev nl : Value := .slice none 0 0
/-- Both rooms' boxes, and (only read) what they point to. -/
def stS0 : Go.Ab.St := (((((⟨0, .e⟩ : Go.Ab.St).push (.ro 0 .nilIface .e)).push (obOf [pt 0, nl, nl, nl, nl])).push (.ro 0 .nilIface .e)).push (obOf [pt 2, nl, nl, nl, nl]))
def rnd (i : Nat) (s : Go.Ab.St) : Option Go.Ab.St :=
  (run1 8 [.int .i64 i, .slice none 0 0] s).bind fun a => (run1 7 [pt 1, a.1] a.2).bind fun r => (run1 8 [.int .i64 i, .slice none 0 0] r.2).bind fun b => (run1 16 [pt 3, b.1] b.2).bind fun t => some t.2
def preX : Nat → Option Go.Ab.St
  | 0 => some stS0
  | i + 1 => (preX i).bind (rnd i)
theorem rnd_inv {i : Nat} {s t : Go.Ab.St} (h : rnd i s = some t) : ∃ a s1 r s2 b s3 v, run1 8 [.int .i64 i, .slice none 0 0] s = some (a, s1) ∧ run1 7 [pt 1, a] s1 = some (r, s2) ∧ run1 8 [.int .i64 i, .slice none 0 0] s2 = some (b, s3) ∧ run1 16 [pt 3, b] s3 = some (v, t) := by
  unfold rnd at h
  obtain ⟨⟨a, s1⟩, h1, h⟩ := Option.bind_eq_some_iff.1 h
  obtain ⟨⟨r, s2⟩, h2, h⟩ := Option.bind_eq_some_iff.1 h
  obtain ⟨⟨b, s3⟩, h3, h⟩ := Option.bind_eq_some_iff.1 h
  obtain ⟨⟨v, s4⟩, h4, h⟩ := Option.bind_eq_some_iff.1 h
  cases h
  exact ⟨a, s1, r, s2, b, s3, v, h1, h2, h3, h4⟩
set_option maxRecDepth 1000000 in
theorem preX_eq : (preX 2).map (fun y => (objL y 1, objL y 3, objL y 224, objL y 281, objL y 84, objL y 222, objL y 139, objL y 278)) =
    some (some [pt 0, .slice (some ⟨221, 0, none⟩) 2 5, .slice (some ⟨224, 0, none⟩) 2 1, nl, nl], some [pt 2, .slice (some ⟨276, 0, none⟩) 2 5, .slice (some ⟨281, 0, none⟩) 2 1, nl, nl],
      some [.slice (some ⟨84, 0, none⟩) 4 1, .slice (some ⟨222, 0, none⟩) 4 1], some [.slice (some ⟨139, 0, none⟩) 4 1, .slice (some ⟨278, 0, none⟩) 4 1],
      some [z32, z32, z32, z32], some [z32, z32, z32, z32], some [z32, z32, z32, z32], some [z32, z32, z32, z32]) := by kernel_rfl
theorem preX_some (i : Nat) (hi : i ≤ 2) : ∃ y, preX i = some y := by
  have h := preX_eq
  cases hp : preX 2 with
  | none => rw [hp] at h; cases h
  | some y =>
    obtain ⟨y1, h1, _⟩ := Option.bind_eq_some_iff.1 (show (preX 1).bind (rnd 1) = some y from hp)
    have h3 : i = 0 ∨ i = 1 ∨ i = 2 := by omega
    rcases h3 with rfl | rfl | rfl
    · exact ⟨_, rfl⟩
    · exact ⟨_, h1⟩
    · exact ⟨_, hp⟩
/-- What the store stands for. -/
def bt0 (rb hb xb yb : Nat) : Beta := fun b => match b with
  | 0 => .live hb 0 0
  | 1 => .live rb 0 5
  | 2 => .live yb 0 0
  | 3 => .live xb 0 5
  | _ => .fresh
theorem bt0_inv {rb hb xb yb b r base lim : Nat} (h : bt0 rb hb xb yb b = .live r base lim) : (b = 0 ∧ r = hb ∧ base = 0 ∧ lim = 0) ∨ (b = 1 ∧ r = rb ∧ base = 0 ∧ lim = 5) ∨ (b = 2 ∧ r = yb ∧ base = 0 ∧ lim = 0) ∨ (b = 3 ∧ r = xb ∧ base = 0 ∧ lim = 5) := by
  match b with
  | 0 => cases h; exact .inl ⟨rfl, rfl, rfl, rfl⟩
  | 1 => cases h; exact .inr (.inl ⟨rfl, rfl, rfl, rfl⟩)
  | 2 => cases h; exact .inr (.inr (.inl ⟨rfl, rfl, rfl, rfl⟩))
  | 3 => cases h; exact .inr (.inr (.inr ⟨rfl, rfl, rfl, rfl⟩))
  | k + 4 => cases h
theorem box_ob {β : Beta} {w : World} {k hb rb : Nat} (hk : β k = .live hb 0 0) (h : Seg w rb 0 [pt hb, nl, nl, nl, nl]) : ObR β (obOf [pt k, nl, nl, nl, nl]) rb 0 5 w := by
  obtain ⟨c, e, fz, h1, h2, h3, h4⟩ := h
  refine ⟨c, e, fz, h1, Nat.le_refl _, h2, h3, fun i hi => ?_⟩
  have hi : i < 5 := hi
  have h5 : i = 0 ∨ i = 1 ∨ i = 2 ∨ i = 3 ∨ i = 4 := by omega
  rcases h5 with rfl | rfl | rfl | rfl | rfl
  · exact ⟨_, h4 0 _ rfl, .ptr (base := 0) hk⟩
  · exact ⟨_, h4 1 _ rfl, .snil⟩
  · exact ⟨_, h4 2 _ rfl, .snil⟩
  · exact ⟨_, h4 3 _ rfl, .snil⟩
  · exact ⟨_, h4 4 _ rfl, .snil⟩
theorem rel0 {w : World} {rb hb xb yb : Nat} {lh ly : List Value} (hr : Seg w rb 0 [pt hb, nl, nl, nl, nl]) (hx : Seg w xb 0 [pt yb, nl, nl, nl, nl]) (hh : Seg w hb 0 lh) (hy : Seg w yb 0 ly) (d1 : rb ≠ hb) (d2 : rb ≠ xb) (d3 : rb ≠ yb) (d4 : hb ≠ xb) (d5 : hb ≠ yb) (d6 : xb ≠ yb) : Rel noG (bt0 rb hb xb yb) stS0 w := by
  have ro : ∀ {b : Nat} {l : List Value}, Seg w b 0 l → ObR (bt0 rb hb xb yb) (.ro 0 .nilIface .e) b 0 0 w := fun h => by
    obtain ⟨c, e, fz, h1, _⟩ := h
    exact ⟨c, e, fz, h1, Nat.zero_le _, fun i hi => absurd hi (Nat.not_lt_zero i)⟩
  refine ⟨fun b hb => ?_, fun b r base lim hb => ?_, fun b b' r base lim base' lim' h h' => ?_, fun g h => (by cases h), fun g h => (by cases h), fun b hb => ?_⟩
  · match b, (show 4 ≤ b from hb) with
    | k + 4, _ => rfl
  · rcases bt0_inv hb with ⟨rfl, rfl, rfl, rfl⟩ | ⟨rfl, rfl, rfl, rfl⟩ | ⟨rfl, rfl, rfl, rfl⟩ | ⟨rfl, rfl, rfl, rfl⟩
    · exact ⟨_, rfl, ro hh⟩
    · exact ⟨_, rfl, box_ob rfl hr⟩
    · exact ⟨_, rfl, ro hy⟩
    · exact ⟨_, rfl, box_ob rfl hx⟩
  · rcases bt0_inv h with ⟨rfl, rfl, rfl, rfl⟩ | ⟨rfl, rfl, rfl, rfl⟩ | ⟨rfl, rfl, rfl, rfl⟩ | ⟨rfl, rfl, rfl, rfl⟩ <;> rcases bt0_inv h' with ⟨rfl, e, rfl, rfl⟩ | ⟨rfl, e, rfl, rfl⟩ | ⟨rfl, e, rfl, rfl⟩ | ⟨rfl, e, rfl, rfl⟩ <;> first | rfl | exact absurd e (by assumption) | exact absurd e.symm (by assumption)
  · match b with
    | 0 => cases hb
    | 1 => cases hb
    | 2 => cases hb
    | 3 => cases hb
    | k + 4 => cases hb
/-- Where two applets' fields lie. -/
structure Fd where
  (fb fo fc : Nat) (g o c : Nat → Nat)
def Fd.v (d : Fd) : Value := .slice (some ⟨d.fb, d.fo, none⟩) 2 d.fc
def FdB (d : Fd) (i : Nat) : Prop := i = d.fb ∨ i = d.g 0 ∨ i = d.g 1
structure FdR (d : Fd) (w : World) (z : Nat → Nat → Int) : Prop where
  rows : Seg w d.fb d.fo [.slice (some ⟨d.g 0, d.o 0, none⟩) 4 (d.c 0), .slice (some ⟨d.g 1, d.o 1, none⟩) 4 (d.c 1)]
  cells : ∀ a, a < 2 → Seg w (d.g a) (d.o a) (flRow z a)
  apart : ∀ a, a < 2 → d.g a ≠ d.fb ∧ ∀ a', a' < 2 → d.g a = d.g a' → a = a'
theorem RL.five' {β : Beta} {a b c : Value} {l : List Value} (h : RL β [a, b, c, nl, nl] l) : ∃ a' b' c', l = [a', b', c', nl, nl] ∧ RV β a a' ∧ RV β b b' ∧ RV β c c' := by
  obtain ⟨a', l1, rfl, ha, h1⟩ := h.inv
  obtain ⟨b', l2, rfl, hb, h2⟩ := h1.inv
  obtain ⟨c', l3, rfl, hc, h3⟩ := h2.inv
  obtain ⟨d', l4, rfl, hd, h4⟩ := h3.inv
  obtain ⟨e', l5, rfl, he, h5⟩ := h4.inv
  have := h5.inv_nil
  subst this
  cases hd
  cases he
  exact ⟨_, _, _, rfl, ha, hb, hc⟩
theorem RL.two' {β : Beta} {a b : Value} {l : List Value} (h : RL β [a, b] l) : ∃ a' b', l = [a', b'] ∧ RV β a a' ∧ RV β b b' := by
  obtain ⟨a', l1, rfl, ha, h1⟩ := h.inv
  obtain ⟨b', l2, rfl, hb, h2⟩ := h1.inv
  have := h2.inv_nil
  subst this
  exact ⟨_, _, rfl, ha, hb⟩
def sl2 (a b : Nat) (i : Nat) : Nat := if i = 0 then a else b
/-- The fields' rows. -/
theorem fd_of {β : Beta} {y : Go.Ab.St} {w : World} {fv : Value} {bf b0 b1 : Nat} (h : Rel noG β y w) (hv : RV β (.slice (some ⟨bf, 0, none⟩) 2 1) fv) (ef : objL y bf = some [.slice (some ⟨b0, 0, none⟩) 4 1, .slice (some ⟨b1, 0, none⟩) 4 1]) (e0 : objL y b0 = some [z32, z32, z32, z32]) (e1 : objL y b1 = some [z32, z32, z32, z32]) (n1 : b0 ≠ bf) (n2 : b1 ≠ bf) (n3 : b0 ≠ b1) :
    ∃ d : Fd, fv = d.v ∧ FdR d w (fun _ _ => 0) ∧ (∃ m l, β bf = .live d.fb m l) ∧ (∃ m l, β b0 = .live (d.g 0) m l) ∧ (∃ m l, β b1 = .live (d.g 1) m l) := by
  obtain ⟨r3, m3, l3, fc, h3, rfl, _, _⟩ := RV.slice_inv (h.gone ef) hv (by omega)
  obtain ⟨lf, sf, rf⟩ := h.seg h3 ef
  obtain ⟨v0, v1, rfl, q0, q1⟩ := RL.two' rf
  obtain ⟨g0, o0, m0, c0, k0, rfl, _, _⟩ := RV.slice_inv (h.gone e0) q0 (by omega)
  obtain ⟨g1, o1, m1, c1, k1, rfl, _, _⟩ := RV.slice_inv (h.gone e1) q1 (by omega)
  obtain ⟨x0, s0, z0⟩ := h.seg k0 e0
  obtain ⟨x1, s1, z1⟩ := h.seg k1 e1
  rw [RL.zeros z0] at s0
  rw [RL.zeros z1] at s1
  have ne : ∀ {b b' r r' a l a' l' : Nat}, β b = .live r a l → β b' = .live r' a' l' → b ≠ b' → r ≠ r' := fun hb hb' hn he => by
    subst he
    exact hn (h.inj _ _ _ _ _ _ _ hb hb')
  refine ⟨⟨r3, m3 + 0, fc, sl2 g0 g1, sl2 (o0 + 0) (o1 + 0), sl2 c0 c1⟩, rfl, ⟨sf, fun a ha => ?_, fun a ha => ?_⟩, ⟨_, _, h3⟩, ⟨_, _, k0⟩, ⟨_, _, k1⟩⟩
  · have h3 : a = 0 ∨ a = 1 := by omega
    rcases h3 with rfl | rfl
    · exact s0
    · exact s1
  · have a0 := ne k0 h3 n1
    have a1 := ne k1 h3 n2
    have a2 := ne k0 k1 n3
    have h3 : a = 0 ∨ a = 1 := by omega
    refine ⟨by rcases h3 with rfl | rfl <;> assumption, fun a' ha' hg => ?_⟩
    have h3' : a' = 0 ∨ a' = 1 := by omega
    rcases h3 with rfl | rfl <;> rcases h3' with rfl | rfl <;> simp [sl2] at hg ⊢
    · exact a2 hg
    · exact a2 hg.symm
/-- What the store tells of both rooms. -/
theorem pre_two {y : Go.Ab.St} {β : Beta} {w0 w : World} {rb hb xb yb : Nat} (hy : preX 2 = some y) (ev : Ev noG (bt0 rb hb xb yb) stS0 w0 β y w) :
    ∃ (d e : Fd) (iv iv' : Value), Seg w rb 0 [pt hb, iv, d.v, nl, nl] ∧ Seg w xb 0 [pt yb, iv', e.v, nl, nl] ∧ FdR d w (fun _ _ => 0) ∧ FdR e w (fun _ _ => 0) ∧ Fr (fun i => i = rb ∨ i = xb) w0 w ∧ (∀ i, FdB d i ∨ FdB e i → w0.heap.size ≤ i) ∧ ∀ i, FdB d i → ¬ FdB e i := by
  have he := preX_eq
  rw [hy] at he
  simp only [Option.map_some, Option.some.injEq, Prod.mk.injEq] at he
  obtain ⟨e1, e2, e3, e4, e5, e6, e7, e8⟩ := he
  have h := ev.rel
  have r0 := ev.ro 0 0 .nilIface .e (by decide) rfl
  have r2 := ev.ro 2 0 .nilIface .e (by decide) rfl
  have keep : ∀ {b : Nat} {l : List Value} {r m k : Nat}, objL y b = some l → bt0 rb hb xb yb b = .live r m k → β b = .live r m k := fun hl hb => by
    rcases ev.le _ with h1 | h1 | h1
    · rw [hb] at h1; cases h1
    · exact h1.trans hb
    · exact absurd h1.1 (h.gone hl)
  have k1 : β 1 = .live rb 0 5 := keep e1 rfl
  have k3 : β 3 = .live xb 0 5 := keep e2 rfl
  have k0 : β 0 = .live hb 0 0 := r0.2.1
  have k2 : β 2 = .live yb 0 0 := r2.2.1
  obtain ⟨lb, sb, q1⟩ := h.seg k1 e1
  obtain ⟨hv, iv, fv, rfl, hh, _, hf⟩ := RL.five' q1
  obtain ⟨lx, sx, q2⟩ := h.seg k3 e2
  obtain ⟨hv', iv', fv', rfl, hh', _, hf'⟩ := RL.five' q2
  obtain ⟨r, m, k, g1, rfl⟩ := RV.ptr_inv (by rw [k0]; exact fun h => by cases h) hh
  rw [k0] at g1
  cases g1
  obtain ⟨r, m, k, g2, rfl⟩ := RV.ptr_inv (by rw [k2]; exact fun h => by cases h) hh'
  rw [k2] at g2
  cases g2
  obtain ⟨d, rfl, hd, ⟨_, _, a1⟩, ⟨_, _, a2⟩, ⟨_, _, a3⟩⟩ := fd_of h hf e3 e5 e6 (by decide) (by decide) (by decide)
  obtain ⟨e, rfl, hE, ⟨_, _, a4⟩, ⟨_, _, a5⟩, ⟨_, _, a6⟩⟩ := fd_of h hf' e4 e7 e8 (by decide) (by decide) (by decide)
  have ne : ∀ {b b' r r' a l a' l' : Nat}, β b = .live r a l → β b' = .live r' a' l' → b ≠ b' → r ≠ r' := fun hb hb' hn he => by
    subst he
    exact hn (h.inj _ _ _ _ _ _ _ hb hb')
  have past : ∀ {b r m k : Nat}, β b = .live r m k → 4 ≤ b → w0.heap.size ≤ r := fun {b r m k} hb h4 => by
    rcases ev.new _ _ _ _ hb with ⟨b0, m0, l0, h0⟩ | h0
    · have : ∃ m l, β b0 = .live r m l ∧ b0 < 4 := by
        rcases bt0_inv h0 with ⟨rfl, rfl, rfl, rfl⟩ | ⟨rfl, rfl, rfl, rfl⟩ | ⟨rfl, rfl, rfl, rfl⟩ | ⟨rfl, rfl, rfl, rfl⟩
        · exact ⟨_, _, k0, by decide⟩
        · exact ⟨_, _, k1, by decide⟩
        · exact ⟨_, _, k2, by decide⟩
        · exact ⟨_, _, k3, by decide⟩
      obtain ⟨m', l', h1, h2⟩ := this
      have := h.inj _ _ _ _ _ _ _ hb h1
      omega
    · exact h0
  refine ⟨d, e, iv, iv', sb, sx, hd, hE, ⟨ev.oth.1, ev.oth.2.1, ev.oth.2.2, ev.sz, fun i hi hn => ?_⟩, fun i hi => ?_, fun i hi hj => ?_⟩
  · by_cases h1 : i = hb
    · subst h1
      exact r0.2.2 _ _ _ rfl
    by_cases h2 : i = yb
    · subst h2
      exact r2.2.2 _ _ _ rfl
    refine ev.out i hi fun b base lim hb => ?_
    rcases bt0_inv hb with ⟨_, e, _⟩ | ⟨_, e, _⟩ | ⟨_, e, _⟩ | ⟨_, e, _⟩
    · exact h1 e
    · exact hn (.inl e)
    · exact h2 e
    · exact hn (.inr e)
  · rcases hi with (rfl | rfl | rfl) | rfl | rfl | rfl
    · exact past a1 (by decide)
    · exact past a2 (by decide)
    · exact past a3 (by decide)
    · exact past a4 (by decide)
    · exact past a5 (by decide)
    · exact past a6 (by decide)
  · rcases hi with rfl | rfl | rfl <;> rcases hj with hj | hj | hj
    · exact ne a1 a4 (by decide) hj
    · exact ne a1 a5 (by decide) hj
    · exact ne a1 a6 (by decide) hj
    · exact ne a2 a4 (by decide) hj
    · exact ne a2 a5 (by decide) hj
    · exact ne a2 a6 (by decide) hj
    · exact ne a3 a4 (by decide) hj
    · exact ne a3 a5 (by decide) hj
    · exact ne a3 a6 (by decide) hj
end
end Go.Proofs.YtgjmpnngheohbaaDoor
namespace Go.Proofs.YtgjmpnngheohbaaDoor
open Go.Vc
variable {d : Fd} {w w' : World} {z : Nat → Nat → Int} {rb : Nat} {hv iv pv sv : Value}
theorem FdR.fr {S : Nat → Prop} (h : FdR d w z) (f : Fr S w w') (hn : ∀ i, S i → ¬ FdB d i) : FdR d w' z :=
  ⟨h.rows.of (f.block _ h.rows.lt fun hs => hn _ hs (.inl rfl)), fun a ha => (h.cells a ha).of (f.block _ (h.cells a ha).lt fun hs => hn _ hs (by
    have h2 : a = 0 ∨ a = 1 := by omega
    rcases h2 with rfl | rfl
    · exact .inr (.inl rfl)
    · exact .inr (.inr rfl))), h.apart⟩
theorem FdR.ext (h : FdR d w z) (hx : Ext w w') : FdR d w' z := h.fr (Fr.of_ext (S := fun _ => False) hx) fun _ hf => hf.elim
theorem FdR.hi (h : FdR d w z) : ∀ i, FdB d i → i < w.heap.size := by
  rintro i (rfl | rfl | rfl)
  · exact h.rows.lt
  · exact (h.cells 0 (by decide)).lt
  · exact (h.cells 1 (by decide)).lt
theorem FdR.row (h : FdR d w z) {a : Nat} (ha : a < 2) : ([.slice (some ⟨d.g 0, d.o 0, none⟩) 4 (d.c 0), .slice (some ⟨d.g 1, d.o 1, none⟩) 4 (d.c 1)] : List Value)[((a : Nat) : Int).toNat]? = some (.slice (some ⟨d.g a, d.o a, none⟩) 4 (d.c a)) := by
  have h3 : a = 0 ∨ a = 1 := by omega
  rcases h3 with rfl | rfl <;> rfl
theorem fieldD_ok (hb : Seg w rb 0 [hv, iv, d.v, pv, sv]) (h : FdR d w z) {a k : Nat} (ha : a < 2) (hk : k < 4) : callD Tryd.prog 11 #[pt rb, i64 (a : Int), i64 (k : Int)] w fun r w' => r = .tuple #[i32 (z a k), .bool true] ∧ w' = w := by
  apply F11_wp
  unfold F11_den
  refine V_lss.2 ?_
  simp only [show ¬ ((a : Int) < 0) by omega, gd_f, pickD_iff, reduceIte, Bool.false_eq_true, decide_false]
  refine ⟨.inl ⟨_, rfl⟩, ?_⟩
  refine ldFS (by first | exact fa_105_0 | exact fa_105_1 | exact fa_105_2 | exact fa_105_3 | exact fa_105_4 | exact fa_116_0 | exact fa_116_1 | exact fa_120_0 | exact fa_120_1 | exact fa_42_0 | exact fa_42_1 | exact fa_42_2 | exact fa_42_3 | exact fa_42_4 | exact fa_42_5 | exact fa_42_6 | exact fa_57_0 | exact fa_63_0 | exact fa_63_2 | exact fa_63_3 | exact fa_63_4 | exact fa_80_0 | exact fa_80_2 | exact fa_80_3 | exact fa_80_4 | exact fa_91_0 | exact fa_95_0 | exact fa_95_1 | exact fa_95_2 | exact fa_95_3 | exact fa_95_4 | exact fa_95_5) (by first | exact l1_114 | exact l1_21 | exact l1_23 | exact l1_3 | exact l1_32 | exact l1_39 | exact l1_4 | exact l1_40 | exact l1_5 | exact l1_50 | exact l1_55 | exact l1_59 | exact l1_61 | exact l1_76) hb rfl (V_ln_61.2 ?_)
  simp only [show ¬ ((a : Int) ≥ ((2 : Nat) : Int)) by omega, V_lss, V_geq, gd_f, pickD_iff, reduceIte, Bool.false_eq_true, decide_false]
  simp only [show ¬ ((k : Int) < 0) by omega, gd_f, reduceIte, Bool.false_eq_true, decide_false]
  refine ⟨.inl ⟨_, rfl⟩, ?_⟩
  refine ldFS (by first | exact fa_105_0 | exact fa_105_1 | exact fa_105_2 | exact fa_105_3 | exact fa_105_4 | exact fa_116_0 | exact fa_116_1 | exact fa_120_0 | exact fa_120_1 | exact fa_42_0 | exact fa_42_1 | exact fa_42_2 | exact fa_42_3 | exact fa_42_4 | exact fa_42_5 | exact fa_42_6 | exact fa_57_0 | exact fa_63_0 | exact fa_63_2 | exact fa_63_3 | exact fa_63_4 | exact fa_80_0 | exact fa_80_2 | exact fa_80_3 | exact fa_80_4 | exact fa_91_0 | exact fa_95_0 | exact fa_95_1 | exact fa_95_2 | exact fa_95_3 | exact fa_95_4 | exact fa_95_5) (by first | exact l1_114 | exact l1_21 | exact l1_23 | exact l1_3 | exact l1_32 | exact l1_39 | exact l1_4 | exact l1_40 | exact l1_5 | exact l1_50 | exact l1_55 | exact l1_59 | exact l1_61 | exact l1_76) hb rfl ?_
  refine ldS xa_61 (by first | exact l1_114 | exact l1_21 | exact l1_23 | exact l1_3 | exact l1_32 | exact l1_39 | exact l1_4 | exact l1_40 | exact l1_5 | exact l1_50 | exact l1_55 | exact l1_59 | exact l1_61 | exact l1_76) h.rows (by omega) (by omega) (h.row ha) ?_
  refine V_ln_39.2 ?_
  simp only [show ¬ ((k : Int) ≥ ((4 : Nat) : Int)) by omega, V_geq, ifD_false, decide_false]
  refine ⟨.inl ⟨_, rfl⟩, ?_⟩
  refine ldFS (by first | exact fa_105_0 | exact fa_105_1 | exact fa_105_2 | exact fa_105_3 | exact fa_105_4 | exact fa_116_0 | exact fa_116_1 | exact fa_120_0 | exact fa_120_1 | exact fa_42_0 | exact fa_42_1 | exact fa_42_2 | exact fa_42_3 | exact fa_42_4 | exact fa_42_5 | exact fa_42_6 | exact fa_57_0 | exact fa_63_0 | exact fa_63_2 | exact fa_63_3 | exact fa_63_4 | exact fa_80_0 | exact fa_80_2 | exact fa_80_3 | exact fa_80_4 | exact fa_91_0 | exact fa_95_0 | exact fa_95_1 | exact fa_95_2 | exact fa_95_3 | exact fa_95_4 | exact fa_95_5) (by first | exact l1_114 | exact l1_21 | exact l1_23 | exact l1_3 | exact l1_32 | exact l1_39 | exact l1_4 | exact l1_40 | exact l1_5 | exact l1_50 | exact l1_55 | exact l1_59 | exact l1_61 | exact l1_76) hb rfl ?_
  refine ldS xa_61 (by first | exact l1_114 | exact l1_21 | exact l1_23 | exact l1_3 | exact l1_32 | exact l1_39 | exact l1_4 | exact l1_40 | exact l1_5 | exact l1_50 | exact l1_55 | exact l1_59 | exact l1_61 | exact l1_76) h.rows (by omega) (by omega) (h.row ha) ?_
  refine ldS xa_39 (by first | exact l1_114 | exact l1_21 | exact l1_23 | exact l1_3 | exact l1_32 | exact l1_39 | exact l1_4 | exact l1_40 | exact l1_5 | exact l1_50 | exact l1_55 | exact l1_59 | exact l1_61 | exact l1_76) (h.cells a ha) (by omega) (by omega) (flRow_get hk) ?_
  exact ⟨rfl, rfl⟩
theorem fieldD_no (hb : Seg w rb 0 [hv, iv, d.v, pv, sv]) (h : FdR d w z) {a : Nat} {k : Int} (ha : a < 2) (hn : ¬ (0 ≤ k ∧ k < 4)) : callD Tryd.prog 11 #[pt rb, i64 a, i64 k] w fun r w' => r = .tuple #[i32 0, .bool false] ∧ w' = w := by
  apply F11_wp
  unfold F11_den
  refine V_lss.2 ?_
  simp only [show ¬ ((a : Int) < 0) by omega, gd_f, pickD_iff, reduceIte, Bool.false_eq_true, decide_false]
  refine ⟨.inl ⟨_, rfl⟩, ?_⟩
  refine ldFS (by first | exact fa_105_0 | exact fa_105_1 | exact fa_105_2 | exact fa_105_3 | exact fa_105_4 | exact fa_116_0 | exact fa_116_1 | exact fa_120_0 | exact fa_120_1 | exact fa_42_0 | exact fa_42_1 | exact fa_42_2 | exact fa_42_3 | exact fa_42_4 | exact fa_42_5 | exact fa_42_6 | exact fa_57_0 | exact fa_63_0 | exact fa_63_2 | exact fa_63_3 | exact fa_63_4 | exact fa_80_0 | exact fa_80_2 | exact fa_80_3 | exact fa_80_4 | exact fa_91_0 | exact fa_95_0 | exact fa_95_1 | exact fa_95_2 | exact fa_95_3 | exact fa_95_4 | exact fa_95_5) (by first | exact l1_114 | exact l1_21 | exact l1_23 | exact l1_3 | exact l1_32 | exact l1_39 | exact l1_4 | exact l1_40 | exact l1_5 | exact l1_50 | exact l1_55 | exact l1_59 | exact l1_61 | exact l1_76) hb rfl (V_ln_61.2 ?_)
  simp only [show ¬ ((a : Int) ≥ ((2 : Nat) : Int)) by omega, V_lss, V_geq, gd_f, pickD_iff, reduceIte, Bool.false_eq_true, decide_false]
  by_cases hk : k < 0
  · simp only [hk, gd_tf, ifD_true, reduceIte, decide_true]
    exact ⟨by first | rfl | trivial, by first | rfl | trivial⟩
  simp only [hk, gd_f, reduceIte, Bool.false_eq_true, decide_false]
  refine ⟨.inl ⟨_, rfl⟩, ?_⟩
  refine ldFS (by first | exact fa_105_0 | exact fa_105_1 | exact fa_105_2 | exact fa_105_3 | exact fa_105_4 | exact fa_116_0 | exact fa_116_1 | exact fa_120_0 | exact fa_120_1 | exact fa_42_0 | exact fa_42_1 | exact fa_42_2 | exact fa_42_3 | exact fa_42_4 | exact fa_42_5 | exact fa_42_6 | exact fa_57_0 | exact fa_63_0 | exact fa_63_2 | exact fa_63_3 | exact fa_63_4 | exact fa_80_0 | exact fa_80_2 | exact fa_80_3 | exact fa_80_4 | exact fa_91_0 | exact fa_95_0 | exact fa_95_1 | exact fa_95_2 | exact fa_95_3 | exact fa_95_4 | exact fa_95_5) (by first | exact l1_114 | exact l1_21 | exact l1_23 | exact l1_3 | exact l1_32 | exact l1_39 | exact l1_4 | exact l1_40 | exact l1_5 | exact l1_50 | exact l1_55 | exact l1_59 | exact l1_61 | exact l1_76) hb rfl ?_
  refine ldS xa_61 (by first | exact l1_114 | exact l1_21 | exact l1_23 | exact l1_3 | exact l1_32 | exact l1_39 | exact l1_4 | exact l1_40 | exact l1_5 | exact l1_50 | exact l1_55 | exact l1_59 | exact l1_61 | exact l1_76) h.rows (by omega) (by omega) (h.row ha) ?_
  refine V_ln_39.2 ?_
  simp only [show (k ≥ ((4 : Nat) : Int)) by omega, V_geq, ifD_true, decide_true]
  exact ⟨by first | rfl | trivial, by first | rfl | trivial⟩
theorem setFieldD_no (hb : Seg w rb 0 [hv, iv, d.v, pv, sv]) (h : FdR d w z) {a : Nat} {k : Int} (ha : a < 2) (hn : ¬ (0 ≤ k ∧ k < 4)) {n : Int} : callD Tryd.prog 10 #[pt rb, i64 a, i64 k, i32 n] w fun r w' => r = .bool false ∧ w' = w := by
  apply F10_wp
  unfold F10_den
  refine (fieldD_no hb h ha hn).mono fun r w' ⟨hr, hw⟩ => ?_
  subst hr; have hw := hw.symm; subst hw
  exact V_ext0.2 (V_ext1.2 (V_not.2 (ifD_true.2 ⟨by first | rfl | trivial, by first | rfl | trivial⟩)))
theorem setD {a k : Nat} {n : Int} (h : FdR d w z) (ha : a < 2) (hk : k < 4) : FdR d (w.setCell ⟨d.g a, d.o a + k, none⟩ (i32 n)) (upZ z a k n) := by
  obtain ⟨n2, n3⟩ := h.apart a ha
  refine ⟨h.rows.other (Ne.symm n2), fun a' ha' => ?_, h.apart⟩
  by_cases he : a' = a
  · subst he
    rw [← flRow_set hk]
    exact (h.cells a' ha').set (show k < 4 from hk) _
  · rw [flRow_ne he]
    exact (h.cells a' ha').other fun hg => he (n3 a' ha' hg.symm).symm
theorem FdB.g {a : Nat} (ha : a < 2) : FdB d (d.g a) := by
  have h3 : a = 0 ∨ a = 1 := by omega
  rcases h3 with rfl | rfl
  · exact .inr (.inl rfl)
  · exact .inr (.inr rfl)
theorem setFieldD_ok (hb : Seg w rb 0 [hv, iv, d.v, pv, sv]) (h : FdR d w z) {a k : Nat} (ha : a < 2) (hk : k < 4) {n : Int} : callD Tryd.prog 10 #[pt rb, i64 (a : Int), i64 (k : Int), i32 n] w fun r w' => r = .bool true ∧ FdR d w' (upZ z a k n) ∧ Fr (FdB d) w w' := by
  apply F10_wp
  unfold F10_den
  refine (fieldD_ok hb h ha hk).mono fun r w' ⟨hr, hw⟩ => ?_
  subst hr; have hw := hw.symm; subst hw
  refine V_ext0.2 (V_ext1.2 (V_not.2 (ifD_false.2 ⟨.inl ⟨_, rfl⟩, ?_⟩)))
  refine ldFS (by first | exact fa_105_0 | exact fa_105_1 | exact fa_105_2 | exact fa_105_3 | exact fa_105_4 | exact fa_116_0 | exact fa_116_1 | exact fa_120_0 | exact fa_120_1 | exact fa_42_0 | exact fa_42_1 | exact fa_42_2 | exact fa_42_3 | exact fa_42_4 | exact fa_42_5 | exact fa_42_6 | exact fa_57_0 | exact fa_63_0 | exact fa_63_2 | exact fa_63_3 | exact fa_63_4 | exact fa_80_0 | exact fa_80_2 | exact fa_80_3 | exact fa_80_4 | exact fa_91_0 | exact fa_95_0 | exact fa_95_1 | exact fa_95_2 | exact fa_95_3 | exact fa_95_4 | exact fa_95_5) (by first | exact l1_114 | exact l1_21 | exact l1_23 | exact l1_3 | exact l1_32 | exact l1_39 | exact l1_4 | exact l1_40 | exact l1_5 | exact l1_50 | exact l1_55 | exact l1_59 | exact l1_61 | exact l1_76) hb rfl ?_
  refine ldS xa_61 (by first | exact l1_114 | exact l1_21 | exact l1_23 | exact l1_3 | exact l1_32 | exact l1_39 | exact l1_4 | exact l1_40 | exact l1_5 | exact l1_50 | exact l1_55 | exact l1_59 | exact l1_61 | exact l1_76) h.rows (by omega) (by omega) (h.row ha) ?_
  refine stS (n := 4) xa_39 inf21 (h.cells a ha) rfl (by omega) (by omega) rfl ?_
  rw [Int.toNat_natCast]
  exact ⟨by first | rfl | trivial, setD h ha hk, (Fr.of_set (S := fun i => i = d.g a) rfl).mono fun i hi => hi ▸ FdB.g ha⟩
/-- Both rooms, side by side. -/
structure Bth (B0 : Nat) (p : RP) (q : QP) (d e : Fd) (z : Nat → Nat → Int) (w : World) : Prop where
  T : RoomT p w
  R : RefT q w
  D : FdR d w z
  E : FdR e w z
  fp : p.fv = d.v
  fq : q.fv = e.v
  pq : ∀ i, MuP p i ∨ TbP p i → ¬ (RMu q i ∨ RCo q i) ∧ ¬ FdB d i ∧ ¬ FdB e i
  qd : ∀ i, RMu q i ∨ RCo q i → ¬ FdB d i ∧ ¬ FdB e i
  de : ∀ i, FdB d i → ¬ FdB e i
  ge : ∀ i, (MuP p i ∨ TbP p i) ∨ (RMu q i ∨ RCo q i) ∨ FdB d i ∨ FdB e i → B0 ≤ i
variable {B0 : Nat} {p p' : RP} {q q' : QP} {e : Fd}
theorem Bth.fr {S : Nat → Prop} (h : Bth B0 p q d e z w) (f : Fr S w w') (hn : ∀ i, S i → ¬ (MuP p i ∨ TbP p i) ∧ ¬ (RMu q i ∨ RCo q i) ∧ ¬ FdB d i ∧ ¬ FdB e i) : Bth B0 p q d e z w' :=
  ⟨h.T.fr f fun i hi => ⟨fun hm => (hn i hi).1 (.inl hm), fun hm => (hn i hi).1 (.inr hm)⟩, h.R.fr f fun i hi => ⟨fun hm => (hn i hi).2.1 (.inl hm), fun hm => (hn i hi).2.1 (.inr hm)⟩, h.D.fr f fun i hi => (hn i hi).2.2.1, h.E.fr f fun i hi => (hn i hi).2.2.2, h.fp, h.fq, h.pq, h.qd, h.de, h.ge⟩
theorem Bth.ext (h : Bth B0 p q d e z w) (hx : Ext w w') : Bth B0 p q d e z w' := h.fr (Fr.of_ext (S := fun _ => False) hx) fun _ hf => hf.elim
theorem Bth.stepP (h : Bth B0 p q d e z w) (hB : B0 ≤ w.heap.size) (ht : RoomT p' w') (s : Stp p p' w w') : Bth B0 p' q d e z w' := by
  have new : ∀ {i}, MuP p' i ∨ TbP p' i → (MuP p i ∨ TbP p i) ∨ w.heap.size ≤ i := fun hi => by
    rcases s.mu _ hi with h1 | h1 | h1
    · exact .inl (.inl h1)
    · exact .inl (.inr h1)
    · exact .inr h1
  refine ⟨ht, h.R.fr s.fr fun i hi => ⟨fun hm => (h.pq i hi).1 (.inl hm), fun hm => (h.pq i hi).1 (.inr hm)⟩, h.D.fr s.fr fun i hi => (h.pq i hi).2.1, h.E.fr s.fr fun i hi => (h.pq i hi).2.2, s.fv.trans h.fp, h.fq, fun i hi => ?_, h.qd, h.de, fun i hi => ?_⟩
  · rcases new hi with h1 | h1
    · exact h.pq i h1
    · exact ⟨fun hm => by have := h.R.hi i hm; omega, fun hm => by have := h.D.hi i hm; omega, fun hm => by have := h.E.hi i hm; omega⟩
  · rcases hi with hi | hi
    · rcases new hi with h1 | h1
      · exact h.ge i (.inl h1)
      · omega
    · exact h.ge i (.inr hi)
theorem Bth.stepQ (h : Bth B0 p q d e z w) (hB : B0 ≤ w.heap.size) (hr : RefT q' w') (s : StpQ q q' w w') : Bth B0 p q' d e z w' := by
  refine ⟨h.T.fr s.fr fun i hi => ⟨fun hm => (h.pq i (.inl hm)).1 (.inl hi), fun hm => (h.pq i (.inr hm)).1 (.inl hi)⟩, hr, h.D.fr s.fr fun i hi => (h.qd i (.inl hi)).1, h.E.fr s.fr fun i hi => (h.qd i (.inl hi)).2, h.fp, s.fv.trans h.fq, fun i hi => ⟨fun hm => ?_, (h.pq i hi).2⟩, fun i hi => ?_, h.de, fun i hi => ?_⟩
  · rcases s.mu i hm with h1 | h1 | h1
    · exact (h.pq i hi).1 (.inl h1)
    · exact (h.pq i hi).1 (.inr h1)
    · have := h.T.hi i hi; omega
  · rcases s.mu i hi with h1 | h1 | h1
    · exact h.qd i (.inl h1)
    · exact h.qd i (.inr h1)
    · exact ⟨fun hm => by have := h.D.hi i hm; omega, fun hm => by have := h.E.hi i hm; omega⟩
  · rcases hi with hi | hi | hi
    · exact h.ge i (.inl hi)
    · rcases s.mu i hi with h1 | h1 | h1
      · exact h.ge i (.inr (.inl (.inl h1)))
      · exact h.ge i (.inr (.inl (.inr h1)))
      · omega
    · exact h.ge i (.inr (.inr hi))
/-- The fields are set in both. -/
theorem Bth.set (h : Bth B0 p q d e z w) {w1 w2 : World} {a k : Nat} {n : Int} (ha : a < 2) (hk : k < 4) (hd : FdR d w1 (upZ z a k n)) (f : Fr (FdB d) w w1) (h2 : w2 = w1.setCell ⟨e.g a, e.o a + k, none⟩ (i32 n)) : Bth B0 p q d e (upZ z a k n) w2 ∧ Fr (fun i => FdB d i ∨ FdB e i) w w2 := by
  have f2 : Fr (FdB e) w1 w2 := by
    rw [h2]
    exact (Fr.of_set (S := fun i => i = e.g a) rfl).mono fun i hi => hi ▸ FdB.g ha
  have F : Fr (fun i => FdB d i ∨ FdB e i) w w2 := f.or f2
  have hE1 : FdR e w1 z := h.E.fr f fun i hi => h.de i hi
  refine ⟨⟨h.T.fr F fun i hi => ⟨fun hm => ?_, fun hm => ?_⟩, h.R.fr F fun i hi => ⟨fun hm => ?_, fun hm => ?_⟩, hd.fr f2 fun i hi hm => h.de i hm hi, ?_, h.fp, h.fq, h.pq, h.qd, h.de, h.ge⟩, F⟩
  · rcases hi with hi | hi
    · exact (h.pq i (.inl hm)).2.1 hi
    · exact (h.pq i (.inl hm)).2.2 hi
  · rcases hi with hi | hi
    · exact (h.pq i (.inr hm)).2.1 hi
    · exact (h.pq i (.inr hm)).2.2 hi
  · rcases hi with hi | hi
    · exact (h.qd i (.inl hm)).1 hi
    · exact (h.qd i (.inl hm)).2 hi
  · rcases hi with hi | hi
    · exact (h.qd i (.inr hm)).1 hi
    · exact (h.qd i (.inr hm)).2 hi
  · rw [h2]
    exact setD hE1 ha hk
end Go.Proofs.YtgjmpnngheohbaaDoor
namespace Go.Vc
theorem r_neqStr {P : Program} {w : World} {s : TypeId} {x y : Operand} {a b : ByteArray} :
    (do eqGuard .neq s x y (.string a) (.string b); binOp .neq s (.string a) (.string b)).run P w = .ok (.bool (!(a.toList == b.toList))) w := by
  simp [eqGuard, binOp, Op.stringOp]
end Go.Vc
namespace Go.Proofs.YtgjmpnngheohbaaDoor
open Go.Vc
variable {B0 : Nat} {p : RP} {q : QP} {d e : Fd} {z : Nat → Nat → Int} {w : World}
theorem pa_get {p : RP} {q : QP} (hps : p.ps = q.ps) {k : Nat} {b : Arr} (hb : q.ar[k]? = some b) : ∃ a, p.ar[k]? = some a ∧ SameA a b := by
  have h : p.ar.map pa = q.ar.map pa := congrArg PS.ar hps
  have h1 : (p.ar.map pa)[k]? = some (pa b) := by rw [h]; simp [hb]
  rw [List.getElem?_map] at h1
  obtain ⟨a, ha, hp⟩ := Option.map_eq_some_iff.1 h1
  have e1 := congrArg PA.owner hp
  have e2 := congrArg PA.label hp
  have e3 := congrArg PA.life hp
  have e4 := congrArg PA.share hp
  have e5 := congrArg PA.data hp
  exact ⟨a, ha, e1.symm, e2.symm, e3.symm, e4.symm, e5.symm⟩
theorem i64_succ' (j : Nat) : Value.int .i64 ((j : Int) + 1) = i64 ((j + 1 : Nat) : Int) := by simp
theorem intOf_i64' (n : Int) : RowKit.intOf (i64 n) = n := rfl
set_option maxHeartbeats 4000000 in
theorem alike_ok (h : Bth B0 p q d e z w) (hps : p.ps = q.ps) : callD Tryd.prog 23 #[rmT p, xbT q, tbT p, ubT q] w fun r w' => r = .bool true ∧ Ext w w' := by
  have etp : q.tp = p.tp := (congrArg PS.tp hps).symm
  have ets : q.ts = p.ts := (congrArg PS.ts hps).symm
  have etr : q.tr = p.tr := (congrArg PS.tr hps).symm
  have eln : q.ar.length = p.ar.length := by
    have := congrArg (fun s => s.ar.length) hps
    simpa [RP.ps, QP.ps] using this.symm
  have hcn := h.R.cnt
  apply F23_wp
  unfold F23_den
  refine (toldT_ok h.T).mono fun r w1 ⟨⟨v1, v2, hr, b1, b2⟩, x1⟩ => ?_
  subst hr
  refine V_ext0.2 (V_ext1.2 ?_)
  have D1 : Ext w1 w1.drew := (Ext.refl _).drew
  have X1 := x1.trans D1
  refine drawD.mk' (fun w' => Ext w1 w') D1 ?_
  refine (heapOfT_ok (h.T.ext X1)).mono fun r w' ⟨hr, hw⟩ => ?_
  subst hr; have hw := hw.symm; subst hw
  refine ⟨D1, ?_⟩
  refine yieldS.ok (fun w' _ => r_eqPtr Tryd.underlying76) ?_
  simp only [gdY_f]
  have xb : ∀ w', Ext w1 w' → Boxed w' q.xb [.pointer (some ⟨q.yb, 0, none⟩), q.iv, q.fv, q.pub, q.sec] := fun w' hw => ((h.R.ext (x1.trans hw)).xbox).boxed
  refine yieldS.ok (fun w' hw => r_str Tryd.underlying40 Tryd.underlying5 Tryd.underlying9 (b1.ext hw)) ⟨.inl ⟨_, rfl⟩, ?_⟩
  refine yfB xb (by first | exact fa_105_0 | exact fa_105_1 | exact fa_105_2 | exact fa_105_3 | exact fa_105_4 | exact fa_116_0 | exact fa_116_1 | exact fa_120_0 | exact fa_120_1 | exact fa_42_0 | exact fa_42_1 | exact fa_42_2 | exact fa_42_3 | exact fa_42_4 | exact fa_42_5 | exact fa_42_6 | exact fa_57_0 | exact fa_63_0 | exact fa_63_2 | exact fa_63_3 | exact fa_63_4 | exact fa_80_0 | exact fa_80_2 | exact fa_80_3 | exact fa_80_4 | exact fa_91_0 | exact fa_95_0 | exact fa_95_1 | exact fa_95_2 | exact fa_95_3 | exact fa_95_4 | exact fa_95_5) (by first | exact l1_114 | exact l1_21 | exact l1_23 | exact l1_3 | exact l1_32 | exact l1_39 | exact l1_4 | exact l1_40 | exact l1_5 | exact l1_50 | exact l1_55 | exact l1_59 | exact l1_61 | exact l1_76) rfl ?_
  refine yieldS.ok (fun w' hw => r_str (l := p.tp) Tryd.underlying40 Tryd.underlying5 Tryd.underlying9 (by have := SliceIs.of_own (h.R.ext (x1.trans hw)).qp; rw [etp] at this; exact this)) ?_
  refine yieldS.ok (fun w' _ => r_neqStr) ?_
  simp only [beq_self_eq_true, Bool.not_true, pickD_iff, Bool.false_eq_true, reduceIte, gdY_f]
  refine yieldS.ok (fun w' hw => r_str Tryd.underlying40 Tryd.underlying5 Tryd.underlying9 (b2.ext hw)) ⟨.inl ⟨_, rfl⟩, ?_⟩
  refine yfB xb (by first | exact fa_105_0 | exact fa_105_1 | exact fa_105_2 | exact fa_105_3 | exact fa_105_4 | exact fa_116_0 | exact fa_116_1 | exact fa_120_0 | exact fa_120_1 | exact fa_42_0 | exact fa_42_1 | exact fa_42_2 | exact fa_42_3 | exact fa_42_4 | exact fa_42_5 | exact fa_42_6 | exact fa_57_0 | exact fa_63_0 | exact fa_63_2 | exact fa_63_3 | exact fa_63_4 | exact fa_80_0 | exact fa_80_2 | exact fa_80_3 | exact fa_80_4 | exact fa_91_0 | exact fa_95_0 | exact fa_95_1 | exact fa_95_2 | exact fa_95_3 | exact fa_95_4 | exact fa_95_5) (by first | exact l1_114 | exact l1_21 | exact l1_23 | exact l1_3 | exact l1_32 | exact l1_39 | exact l1_4 | exact l1_40 | exact l1_5 | exact l1_50 | exact l1_55 | exact l1_59 | exact l1_61 | exact l1_76) rfl ?_
  refine yieldS.ok (fun w' hw => r_str (l := p.ts) Tryd.underlying40 Tryd.underlying5 Tryd.underlying9 (by have := SliceIs.of_own (h.R.ext (x1.trans hw)).qs; rw [ets] at this; exact this)) ?_
  refine yieldS.ok (fun w' _ => r_neqStr) ?_
  simp only [beq_self_eq_true, Bool.not_true, pickD_iff, Bool.false_eq_true, reduceIte, gdY_f, gd_f]
  refine ⟨.inl ⟨_, rfl⟩, ?_⟩
  refine yfB (fun w' hw => (h.R.ext (x1.trans hw)).ubox.boxed) (by first | exact fa_105_0 | exact fa_105_1 | exact fa_105_2 | exact fa_105_3 | exact fa_105_4 | exact fa_116_0 | exact fa_116_1 | exact fa_120_0 | exact fa_120_1 | exact fa_42_0 | exact fa_42_1 | exact fa_42_2 | exact fa_42_3 | exact fa_42_4 | exact fa_42_5 | exact fa_42_6 | exact fa_57_0 | exact fa_63_0 | exact fa_63_2 | exact fa_63_3 | exact fa_63_4 | exact fa_80_0 | exact fa_80_2 | exact fa_80_3 | exact fa_80_4 | exact fa_91_0 | exact fa_95_0 | exact fa_95_1 | exact fa_95_2 | exact fa_95_3 | exact fa_95_4 | exact fa_95_5) (by first | exact l1_114 | exact l1_21 | exact l1_23 | exact l1_3 | exact l1_32 | exact l1_39 | exact l1_4 | exact l1_40 | exact l1_5 | exact l1_50 | exact l1_55 | exact l1_59 | exact l1_61 | exact l1_76) rfl ?_
  refine yLen xa_55 (SliceIs.of_own h.R.trow) ?_
  refine (tlenT_ok (h.T.ext X1)).mono fun r w' ⟨hr, hw⟩ => ?_
  subst hr; have hw := hw.symm; subst hw
  refine ⟨D1, ?_⟩
  refine yieldS.ok (fun w' _ => r_neqI) ?_
  simp only [etr, ne_eq, not_true_eq_false, decide_false, pickD_iff, Bool.false_eq_true, reduceIte, gdY_f, gd_f]
  refine ⟨.inl ⟨_, rfl⟩, ?_⟩
  refine yfB xb (by first | exact fa_105_0 | exact fa_105_1 | exact fa_105_2 | exact fa_105_3 | exact fa_105_4 | exact fa_116_0 | exact fa_116_1 | exact fa_120_0 | exact fa_120_1 | exact fa_42_0 | exact fa_42_1 | exact fa_42_2 | exact fa_42_3 | exact fa_42_4 | exact fa_42_5 | exact fa_42_6 | exact fa_57_0 | exact fa_63_0 | exact fa_63_2 | exact fa_63_3 | exact fa_63_4 | exact fa_80_0 | exact fa_80_2 | exact fa_80_3 | exact fa_80_4 | exact fa_91_0 | exact fa_95_0 | exact fa_95_1 | exact fa_95_2 | exact fa_95_3 | exact fa_95_4 | exact fa_95_5) (by first | exact l1_114 | exact l1_21 | exact l1_23 | exact l1_3 | exact l1_32 | exact l1_39 | exact l1_4 | exact l1_40 | exact l1_5 | exact l1_50 | exact l1_55 | exact l1_59 | exact l1_61 | exact l1_76) rfl ⟨.inl ⟨_, rfl⟩, ?_⟩
  refine yfB (fun w' hw => (h.R.ext (x1.trans hw)).ybox.boxed) (by first | exact fa_105_0 | exact fa_105_1 | exact fa_105_2 | exact fa_105_3 | exact fa_105_4 | exact fa_116_0 | exact fa_116_1 | exact fa_120_0 | exact fa_120_1 | exact fa_42_0 | exact fa_42_1 | exact fa_42_2 | exact fa_42_3 | exact fa_42_4 | exact fa_42_5 | exact fa_42_6 | exact fa_57_0 | exact fa_63_0 | exact fa_63_2 | exact fa_63_3 | exact fa_63_4 | exact fa_80_0 | exact fa_80_2 | exact fa_80_3 | exact fa_80_4 | exact fa_91_0 | exact fa_95_0 | exact fa_95_1 | exact fa_95_2 | exact fa_95_3 | exact fa_95_4 | exact fa_95_5) (by first | exact l1_114 | exact l1_21 | exact l1_23 | exact l1_3 | exact l1_32 | exact l1_39 | exact l1_4 | exact l1_40 | exact l1_5 | exact l1_50 | exact l1_55 | exact l1_59 | exact l1_61 | exact l1_76) rfl ?_
  refine yLen xa_114 (SliceIs.of_own h.R.list) ?_
  refine (heapOfT_ok (h.T.ext X1)).mono fun r w' ⟨hr, hw⟩ => ?_
  subst hr; have hw := hw.symm; subst hw
  refine ⟨D1, ?_⟩
  refine (hcountT_ok (h.T.ext X1)).mono fun r w' ⟨hr, hw⟩ => ?_
  subst hr; have hw := hw.symm; subst hw
  refine ⟨D1, ?_⟩
  refine yieldS.ok (fun w' _ => r_neqI) ?_
  simp only [eln, ne_eq, not_true_eq_false, decide_false, ifD_false]
  generalize w1.drew = w2 at *
  refine ⟨fun x w' => ∃ k : Nat, x = i64 k ∧ k ≤ q.ar.length ∧ Ext w w', fun x _ => q.ar.length - (RowKit.intOf x).toNat, ⟨0, rfl, Nat.zero_le _, X1⟩, ?_⟩
  rintro _ w3 ⟨k, rfl, hk, x3⟩ _
  have h3 := h.ext x3
  refine ⟨.inl ⟨_, rfl⟩, ?_⟩
  refine ldB h3.R.xbox.boxed (by first | exact fa_105_0 | exact fa_105_1 | exact fa_105_2 | exact fa_105_3 | exact fa_105_4 | exact fa_116_0 | exact fa_116_1 | exact fa_120_0 | exact fa_120_1 | exact fa_42_0 | exact fa_42_1 | exact fa_42_2 | exact fa_42_3 | exact fa_42_4 | exact fa_42_5 | exact fa_42_6 | exact fa_57_0 | exact fa_63_0 | exact fa_63_2 | exact fa_63_3 | exact fa_63_4 | exact fa_80_0 | exact fa_80_2 | exact fa_80_3 | exact fa_80_4 | exact fa_91_0 | exact fa_95_0 | exact fa_95_1 | exact fa_95_2 | exact fa_95_3 | exact fa_95_4 | exact fa_95_5) (by first | exact l1_114 | exact l1_21 | exact l1_23 | exact l1_3 | exact l1_32 | exact l1_39 | exact l1_4 | exact l1_40 | exact l1_5 | exact l1_50 | exact l1_55 | exact l1_59 | exact l1_61 | exact l1_76) rfl ⟨.inl ⟨_, rfl⟩, ?_⟩
  refine ldB h3.R.ybox.boxed (by first | exact fa_105_0 | exact fa_105_1 | exact fa_105_2 | exact fa_105_3 | exact fa_105_4 | exact fa_116_0 | exact fa_116_1 | exact fa_120_0 | exact fa_120_1 | exact fa_42_0 | exact fa_42_1 | exact fa_42_2 | exact fa_42_3 | exact fa_42_4 | exact fa_42_5 | exact fa_42_6 | exact fa_57_0 | exact fa_63_0 | exact fa_63_2 | exact fa_63_3 | exact fa_63_4 | exact fa_80_0 | exact fa_80_2 | exact fa_80_3 | exact fa_80_4 | exact fa_91_0 | exact fa_95_0 | exact fa_95_1 | exact fa_95_2 | exact fa_95_3 | exact fa_95_4 | exact fa_95_5) (by first | exact l1_114 | exact l1_21 | exact l1_23 | exact l1_3 | exact l1_32 | exact l1_39 | exact l1_4 | exact l1_40 | exact l1_5 | exact l1_50 | exact l1_55 | exact l1_59 | exact l1_61 | exact l1_76) rfl ?_
  refine lnx xa_114 (SliceIs.of_own h3.R.list) ?_
  refine V_lss.2 (ifD_dec (fun hlt => ?_) fun hge => ?_)
  · have hkl : k < q.ar.length := by omega
    obtain ⟨b, hb⟩ := ex_get (l := q.ar) (j := k) hkl
    obtain ⟨a, ha, hab⟩ := pa_get hps hb
    refine (heapOfT_ok h3.T).mono fun r w' ⟨hr, hw⟩ => ?_
    subst hr; have hw := hw.symm; subst hw
    refine V_add.2 ?_
    rw [wrap_id (by omega) (by omega)]
    refine (arrayG_ok h3.T.h ha rfl).mono fun r w4 ⟨⟨v, hr, hv⟩, x4⟩ => ?_
    subst hr
    refine V_ext0.2 (V_ext1.2 ?_)
    refine asK (by first | exact sa_105 | exact sa_42 | exact sa_95) rfl (cells_one (own_one hv)) fun w5 hb5 x5 => ?_
    have D5 : Ext w5 w5.drew := (Ext.refl _).drew
    have X45 := x4.trans x5
    have X5 := X45.trans D5
    have h5 := h3.ext X5
    refine drawD.mk' (fun w' => Ext w5 w') D5 ?_
    refine yieldS.ok (fun w' _ => r_not) ?_
    simp only [Bool.not_true, gdY_f, gd_f]
    refine yA (fun w' hw => (hb5.ext hw).boxed) la_105 rfl ⟨.inl ⟨_, rfl⟩, ?_⟩
    refine yfB (fun w' hw => ((h3.ext (X45.trans hw)).R.xbox).boxed) (by first | exact fa_105_0 | exact fa_105_1 | exact fa_105_2 | exact fa_105_3 | exact fa_105_4 | exact fa_116_0 | exact fa_116_1 | exact fa_120_0 | exact fa_120_1 | exact fa_42_0 | exact fa_42_1 | exact fa_42_2 | exact fa_42_3 | exact fa_42_4 | exact fa_42_5 | exact fa_42_6 | exact fa_57_0 | exact fa_63_0 | exact fa_63_2 | exact fa_63_3 | exact fa_63_4 | exact fa_80_0 | exact fa_80_2 | exact fa_80_3 | exact fa_80_4 | exact fa_91_0 | exact fa_95_0 | exact fa_95_1 | exact fa_95_2 | exact fa_95_3 | exact fa_95_4 | exact fa_95_5) (by first | exact l1_114 | exact l1_21 | exact l1_23 | exact l1_3 | exact l1_32 | exact l1_39 | exact l1_4 | exact l1_40 | exact l1_5 | exact l1_50 | exact l1_55 | exact l1_59 | exact l1_61 | exact l1_76) rfl ⟨.inl ⟨_, rfl⟩, ?_⟩
    refine yfB (fun w' hw => ((h3.ext (X45.trans hw)).R.ybox).boxed) (by first | exact fa_105_0 | exact fa_105_1 | exact fa_105_2 | exact fa_105_3 | exact fa_105_4 | exact fa_116_0 | exact fa_116_1 | exact fa_120_0 | exact fa_120_1 | exact fa_42_0 | exact fa_42_1 | exact fa_42_2 | exact fa_42_3 | exact fa_42_4 | exact fa_42_5 | exact fa_42_6 | exact fa_57_0 | exact fa_63_0 | exact fa_63_2 | exact fa_63_3 | exact fa_63_4 | exact fa_80_0 | exact fa_80_2 | exact fa_80_3 | exact fa_80_4 | exact fa_91_0 | exact fa_95_0 | exact fa_95_1 | exact fa_95_2 | exact fa_95_3 | exact fa_95_4 | exact fa_95_5) (by first | exact l1_114 | exact l1_21 | exact l1_23 | exact l1_3 | exact l1_32 | exact l1_39 | exact l1_4 | exact l1_40 | exact l1_5 | exact l1_50 | exact l1_55 | exact l1_59 | exact l1_61 | exact l1_76) rfl ?_
    refine yieldS.ok (fun w' _ => r_ix_114 (by omega) (by omega)) ?_
    have e0 : 0 + ((k : Nat) : Int).toNat * 5 = k * 5 := by omega
    rw [e0]
    refine yieldS.ok (fun w' hw => r_la_105 (cs := b.cells) rfl fun j hj => (h3.ext (X45.trans hw)).R.get hb hj) ?_
    refine (sameArr_ok (a := { a with dv := v }) (b := b) (SliceIs.of_own ((x5.trans D5).own hv)) (SliceIs.of_own (h5.R.data b (List.mem_of_getElem? hb)))).mono fun r w6 ⟨⟨t, hr, ht⟩, x6⟩ => ?_
    obtain rfl := ht hab
    subst hr
    refine ⟨D5.trans x6, ?_⟩
    refine yieldS.ok (fun w' _ => r_not) ?_
    simp only [Bool.not_true, pickD_iff, Bool.false_eq_true, reduceIte, ifD_false]
    refine V_add.2 ?_
    rw [wrap_id (by omega) (by omega), i64_succ']
    exact ⟨⟨k + 1, rfl, by omega, x3.trans (X5.trans x6)⟩, by simp only [intOf_i64']; omega⟩
  have hrb : ∀ {w'}, Ext w w' → Seg w' p.rb 0 [.pointer (some ⟨p.hb, 0, none⟩), p.iv, d.v, p.pub, p.sec] := fun hx => h.fp ▸ (h.T.ext hx).room
  have hxb : ∀ {w'}, Ext w w' → Seg w' q.xb 0 [.pointer (some ⟨q.yb, 0, none⟩), q.iv, e.v, q.pub, q.sec] := fun hx => h.fq ▸ (h.R.ext hx).xbox
  refine ⟨fun x w' => ∃ k : Nat, x = i64 k ∧ k ≤ 2 ∧ Ext w w', fun x _ => 2 - (RowKit.intOf x).toNat, ⟨0, rfl, Nat.zero_le _, x3⟩, ?_⟩
  rintro _ w4 ⟨a, rfl, ha2, x4⟩ _
  refine ⟨.inl ⟨_, rfl⟩, ?_⟩
  refine ldFS (by first | exact fa_105_0 | exact fa_105_1 | exact fa_105_2 | exact fa_105_3 | exact fa_105_4 | exact fa_116_0 | exact fa_116_1 | exact fa_120_0 | exact fa_120_1 | exact fa_42_0 | exact fa_42_1 | exact fa_42_2 | exact fa_42_3 | exact fa_42_4 | exact fa_42_5 | exact fa_42_6 | exact fa_57_0 | exact fa_63_0 | exact fa_63_2 | exact fa_63_3 | exact fa_63_4 | exact fa_80_0 | exact fa_80_2 | exact fa_80_3 | exact fa_80_4 | exact fa_91_0 | exact fa_95_0 | exact fa_95_1 | exact fa_95_2 | exact fa_95_3 | exact fa_95_4 | exact fa_95_5) (by first | exact l1_114 | exact l1_21 | exact l1_23 | exact l1_3 | exact l1_32 | exact l1_39 | exact l1_4 | exact l1_40 | exact l1_5 | exact l1_50 | exact l1_55 | exact l1_59 | exact l1_61 | exact l1_76) (hxb x4) rfl (V_ln_61.2 (V_lss.2 (ifD_dec (fun hla => ?_) fun hga => ?_)))
  · have ha : a < 2 := by omega
    refine ⟨fun x w' => ∃ k : Nat, x = i64 k ∧ k ≤ 4 ∧ w' = w4, fun x _ => 4 - (RowKit.intOf x).toNat, ⟨0, rfl, Nat.zero_le _, rfl⟩, ?_⟩
    rintro _ w5 ⟨k, rfl, hk4, hw⟩ _
    have hw := hw.symm; subst hw
    refine ⟨.inl ⟨_, rfl⟩, ?_⟩
    refine ldFS (by first | exact fa_105_0 | exact fa_105_1 | exact fa_105_2 | exact fa_105_3 | exact fa_105_4 | exact fa_116_0 | exact fa_116_1 | exact fa_120_0 | exact fa_120_1 | exact fa_42_0 | exact fa_42_1 | exact fa_42_2 | exact fa_42_3 | exact fa_42_4 | exact fa_42_5 | exact fa_42_6 | exact fa_57_0 | exact fa_63_0 | exact fa_63_2 | exact fa_63_3 | exact fa_63_4 | exact fa_80_0 | exact fa_80_2 | exact fa_80_3 | exact fa_80_4 | exact fa_91_0 | exact fa_95_0 | exact fa_95_1 | exact fa_95_2 | exact fa_95_3 | exact fa_95_4 | exact fa_95_5) (by first | exact l1_114 | exact l1_21 | exact l1_23 | exact l1_3 | exact l1_32 | exact l1_39 | exact l1_4 | exact l1_40 | exact l1_5 | exact l1_50 | exact l1_55 | exact l1_59 | exact l1_61 | exact l1_76) (hxb x4) rfl ?_
    refine ldS xa_61 (by first | exact l1_114 | exact l1_21 | exact l1_23 | exact l1_3 | exact l1_32 | exact l1_39 | exact l1_4 | exact l1_40 | exact l1_5 | exact l1_50 | exact l1_55 | exact l1_59 | exact l1_61 | exact l1_76) (h.E.ext x4).rows (by omega) (by omega) ((h.E.ext x4).row ha) ?_
    refine V_ln_39.2 (V_lss.2 (ifD_dec (fun hlk => ?_) fun hgk => ?_))
    · have hk : k < 4 := by omega
      refine (fieldD_ok (hrb x4) (h.D.ext x4) ha hk).mono fun r w' ⟨hr, hw⟩ => ?_
      subst hr; have hw := hw.symm; subst hw
      refine V_ext0.2 (V_ext1.2 (V_not.2 ?_))
      simp only [Bool.not_true, gd_f]
      refine ⟨.inl ⟨_, rfl⟩, ?_⟩
      refine ldFS (by first | exact fa_105_0 | exact fa_105_1 | exact fa_105_2 | exact fa_105_3 | exact fa_105_4 | exact fa_116_0 | exact fa_116_1 | exact fa_120_0 | exact fa_120_1 | exact fa_42_0 | exact fa_42_1 | exact fa_42_2 | exact fa_42_3 | exact fa_42_4 | exact fa_42_5 | exact fa_42_6 | exact fa_57_0 | exact fa_63_0 | exact fa_63_2 | exact fa_63_3 | exact fa_63_4 | exact fa_80_0 | exact fa_80_2 | exact fa_80_3 | exact fa_80_4 | exact fa_91_0 | exact fa_95_0 | exact fa_95_1 | exact fa_95_2 | exact fa_95_3 | exact fa_95_4 | exact fa_95_5) (by first | exact l1_114 | exact l1_21 | exact l1_23 | exact l1_3 | exact l1_32 | exact l1_39 | exact l1_4 | exact l1_40 | exact l1_5 | exact l1_50 | exact l1_55 | exact l1_59 | exact l1_61 | exact l1_76) (hxb x4) rfl ?_
      refine ldS xa_61 (by first | exact l1_114 | exact l1_21 | exact l1_23 | exact l1_3 | exact l1_32 | exact l1_39 | exact l1_4 | exact l1_40 | exact l1_5 | exact l1_50 | exact l1_55 | exact l1_59 | exact l1_61 | exact l1_76) (h.E.ext x4).rows (by omega) (by omega) ((h.E.ext x4).row ha) ?_
      refine ldS xa_39 (by first | exact l1_114 | exact l1_21 | exact l1_23 | exact l1_3 | exact l1_32 | exact l1_39 | exact l1_4 | exact l1_40 | exact l1_5 | exact l1_50 | exact l1_55 | exact l1_59 | exact l1_61 | exact l1_76) ((h.E.ext x4).cells a ha) (by omega) (by omega) (flRow_get hk) ?_
      simp only [V_neqI, ne_eq, not_true_eq_false, V_neqI, pickD_iff, ifD_false, reduceIte, Bool.false_eq_true, decide_false]
      refine V_add.2 ?_
      rw [wrap_id (by omega) (by omega), i64_succ']
      exact ⟨⟨k + 1, rfl, by omega, rfl⟩, by simp only [intOf_i64']; omega⟩
    refine V_add.2 ?_
    rw [wrap_id (by omega) (by omega), i64_succ']
    exact ⟨⟨a + 1, rfl, by omega, x4⟩, by simp only [intOf_i64']; omega⟩
  exact ⟨by first | rfl | trivial, x4⟩
end Go.Proofs.YtgjmpnngheohbaaDoor
namespace Go.Vc
section
variable {P : Program} {w : World} {K : Value → World → Prop} {S : World → Prop} {L : Value → Prop}
theorem yS {t x : Nat} (h : XA P t 1) (hl : L1 P x) {b o n cap : Nat} {cs : List Value} (hs : ∀ w', S w' → Seg w' b o cs) {k : IntKind} {i : Int} {u : Value} (h0 : 0 ≤ i) (h1 : i < n) (hu : cs[i.toNat]? = some u) (hk : L u) :
    yieldS P S (Instr.indexAt t (.slice (some ⟨b, o, none⟩) n cap) (.int k i)) fun p => yieldS P S (Instr.loadAt x p) L := by
  obtain ⟨e', z', b', ht, hi⟩ := h
  obtain ⟨d, hd, ha⟩ := hl
  refine yieldS.ok (fun w' _ => r_index ht hi h0 h1) ?_
  simp only [Nat.mul_one]
  exact yieldS.ok (fun w' hw => r_load hd ha ((hs w' hw).cell hu)) hk
theorem yIx {t : Nat} (h : XA P t 1) {b o n cap : Nat} {k : IntKind} {i : Int} (h0 : 0 ≤ i) (h1 : i < n) (hk : L (.pointer (some ⟨b, o + i.toNat, none⟩))) :
    yieldS P S (Instr.indexAt t (.slice (some ⟨b, o, none⟩) n cap) (.int k i)) L := by
  obtain ⟨e', z', b', ht, hi⟩ := h
  refine yieldS.ok (fun w' _ => r_index ht hi h0 h1) ?_
  simpa only [Nat.mul_one] using hk
theorem stSg {x : Nat} {z : Value} {by_ : Nat} (hx : Inf P x z 1 by_) {b o j : Nat} {cs : List Value} (hs : Seg w b o cs) (hj : j < cs.length) {u : Value} (hu : oneC u = true) {K' : World → Prop} (hk : K' (w.setCell ⟨b, o + j, none⟩ u)) :
    U P (Instr.storeAt x (.pointer (some ⟨b, o + j, none⟩)) u) w fun _ w2 => K' w2 :=
  U.ok (r_store hx hu (hs.cell (List.getElem?_eq_getElem hj)) (hs.frozen hj)) hk
theorem rm32 {t : TypeId} {a b : Int} (hb : 0 < b) (hk : ∀ c, c = a.tmod b → K (.int .i32 c) w) : V P (binOp .rem t (.int .i32 a) (.int .i32 b)) w K := by
  have hne : b ≠ 0 := by omega
  have hr : (binOp .rem t (.int .i32 a) (.int .i32 b)).run P w = .ok (.int .i32 (a.tmod b)) w := by simp [binOp, Op.intDiv, hne]
  exact V.ok hr (hk _ rfl)
end
end Go.Vc
namespace Go.Proofs.YtgjmpnngheohbaaDoor
open Go.Vc
theorem r_neqEvt {w : World} {x y : Operand} (e : Evt) : (do eqGuard .neq 74 x y (.agg e.cells.toArray) (.agg e.cells.toArray); binOp .neq 74 (.agg e.cells.toArray) (.agg e.cells.toArray)).run Tryd.prog w = .ok (.bool false) w := by
  have hm : Tryd.prog.eqGuardType Tryd.prog.depth 74 = false := by kernel_rfl
  have hp : Tryd.prog.stoodInHeld 74 = false := by kernel_rfl
  have hs : Tryd.prog.underlying 74 = some (.struct (Tryd.prog.fieldsOf 74)) := by kernel_rfl
  have key : (Op.equalIn 10000 74 (.agg e.cells.toArray) (.agg e.cells.toArray)).run Tryd.prog w = .ok true w := by
    rw [run_equalIn_struct w 9999 _ _ _ hs hp]
    have hd : Tryd.prog.underlying 3 = some (.int .i64) := Tryd.underlying3
    simp [Program.fieldsOf, Tryd.underlying74, Op.eqFields, part, run_isAgg hd, run_size inf3, aggB, Evt.cells, run_equalIn_int _ _ _ _ _ _ _ hd]
  rw [Sem.run_bind, run_eqGuard_agg _ _ _ _ _ _ _ hm, Result.andThen_ok, run_neq_struct, key]
  rfl
/-- A number that is served by both alike. -/
def OpK (op k : Int) : Prop := k ≤ 5 ∧ (∀ {w : World}, callD Tryd.prog 32 #[i64 op] w fun r w' => r = i64 k ∧ w' = w) ∧ (∀ {w : World}, callD Tryd.prog 20 #[i64 op] w fun r w' => r = i64 k ∧ w' = w) ∧
  ∀ (who sa sb : Int) (ns : List Int), (op = 36 ∨ sa = 3 ∨ sa = 4) → 0 ≤ sb ∧ sb < 7 → in32 ns → (ns.length : Int) = k → ∃ X, Agree op who sa sb ns.length ns X
theorem opK17 : OpK 17 2 := ⟨by omega, sv17_ok, rv17_ok, fun who sa sb ns ha hb hs hl => match ns, (show ns.length = 2 by omega) with
  | [_, _], _ => ⟨_, agree17 hs⟩⟩
theorem opK18 : OpK 18 2 := ⟨by omega, sv18_ok, rv18_ok, fun who sa sb ns ha hb hs hl => match ns, (show ns.length = 2 by omega) with
  | [_, _], _ => ⟨_, agree18 hs⟩⟩
theorem opK27 : OpK 27 1 := ⟨by omega, sv27_ok, rv27_ok, fun who sa sb ns ha hb hs hl => match ns, (show ns.length = 1 by omega) with
  | [_], _ => ⟨_, agree27 hs (by omega) hb⟩⟩
theorem opK28 : OpK 28 1 := ⟨by omega, sv28_ok, rv28_ok, fun who sa sb ns ha hb hs hl => match ns, (show ns.length = 1 by omega) with
  | [_], _ => ⟨_, agree28 hs⟩⟩
theorem opK29 : OpK 29 2 := ⟨by omega, sv29_ok, rv29_ok, fun who sa sb ns ha hb hs hl => match ns, (show ns.length = 2 by omega) with
  | [_, _], _ => ⟨_, agree29 hs⟩⟩
theorem opK30 : OpK 30 3 := ⟨by omega, sv30_ok, rv30_ok, fun who sa sb ns ha hb hs hl => match ns, (show ns.length = 3 by omega) with
  | [_, _, _], _ => ⟨_, agree30 hs⟩⟩
theorem opK31 : OpK 31 5 := ⟨by omega, sv31_ok, rv31_ok, fun who sa sb ns ha hb hs hl => match ns, (show ns.length = 5 by omega) with
  | [_, _, _, _, _], _ => ⟨_, agree31 hs⟩⟩
theorem opK32 : OpK 32 5 := ⟨by omega, sv32_ok, rv32_ok, fun who sa sb ns ha hb hs hl => match ns, (show ns.length = 5 by omega) with
  | [_, _, _, _, _], _ => ⟨_, agree32 hs⟩⟩
theorem opK36 : OpK 36 3 := ⟨by omega, sv36_ok, rv36_ok, fun who sa sb ns ha hb hs hl => match ns, (show ns.length = 3 by omega) with
  | [_, _, _], _ => ⟨_, agree36 hs⟩⟩
theorem opK6 : OpK 6 (-1) := ⟨by omega, sv6_ok, rv6_ok, fun who sa sb ns ha hb hs hl => by omega⟩
theorem agree_any {op k who sa sb : Int} (h : OpK op k) (ha : op = 36 ∨ sa = 3 ∨ sa = 4) (hb : 0 ≤ sb ∧ sb < 7) {ns : List Int} (hs : in32 ns) : ∃ X, Agree op who sa sb ns.length ns X := by
  obtain ⟨h5, h1, h2, h3⟩ := h
  by_cases hk : (ns.length : Int) = k
  · exact h3 who sa sb ns ha hb hs hk
  · exact ⟨_, agreeNo rfl h1 h2 hk⟩
def opsW : Array Value := #[i64 17, i64 18, i64 27, i64 28, i64 29, i64 30, i64 31, i64 32, i64 36, i64 27, i64 30, i64 31, i64 6]
theorem op_allW {k : Nat} (h1 : k < 13) : ∃ op kk : Int, opsW[((k : Nat) : Int).toNat]? = some (i64 op) ∧ OpK op kk := by
  have hcase : k = 0 ∨ k = 1 ∨ k = 2 ∨ k = 3 ∨ k = 4 ∨ k = 5 ∨ k = 6 ∨ k = 7 ∨ k = 8 ∨ k = 9 ∨ k = 10 ∨ k = 11 ∨ k = 12 := by omega
  rcases hcase with rfl | rfl | rfl | rfl | rfl | rfl | rfl | rfl | rfl | rfl | rfl | rfl | rfl
  · exact ⟨_, _, rfl, opK17⟩
  · exact ⟨_, _, rfl, opK18⟩
  · exact ⟨_, _, rfl, opK27⟩
  · exact ⟨_, _, rfl, opK28⟩
  · exact ⟨_, _, rfl, opK29⟩
  · exact ⟨_, _, rfl, opK30⟩
  · exact ⟨_, _, rfl, opK31⟩
  · exact ⟨_, _, rfl, opK32⟩
  · exact ⟨_, _, rfl, opK36⟩
  · exact ⟨_, _, rfl, opK27⟩
  · exact ⟨_, _, rfl, opK30⟩
  · exact ⟨_, _, rfl, opK31⟩
  · exact ⟨_, _, rfl, opK6⟩
/-! ### New rooms -/
def ar0 : List Arr := [⟨-1, 3, 0, false, .slice none 0 0, []⟩, ⟨-1, 4, 0, false, .slice none 0 0, []⟩]
theorem ar0_dv : ∀ a ∈ ar0, a.dv = .slice none 0 0 ∧ a.data = [] := fun a ha => by
  simp only [ar0, List.mem_cons, List.not_mem_nil, or_false] at ha
  rcases ha with rfl | rfl <;> exact ⟨rfl, rfl⟩
theorem ar0_none : ∀ a ∈ ar0, a.dv.ownBlock = none := fun a ha => by rw [(ar0_dv a ha).1]; rfl
theorem heapNewT_ok {w : World} {size : Int} (h1 : 64 ≤ size) (h2 : size ≤ 4096) : callD Tryd.prog 25 #[i64 size] w fun r w' => (∃ hb, r = .tuple #[.pointer (some ⟨hb, 0, none⟩), i64 0] ∧ w.heap.size < hb ∧ HeapG w' hb w.heap.size size w.heap.size 2 ar0) ∧ Ext w w' := by
  apply F25_wp
  unfold F25_den
  refine V_lss.2 ?_
  simp only [show ¬ size < 64 by omega, V_gtr, gd_f, pickD_iff, reduceIte, Bool.false_eq_true, decide_false]
  simp only [show ¬ size > 4096 by omega, ifD_false, decide_false]
  refine bld bd_105 [(0, i64 (-1)), (1, i64 3)] rfl rfl ?_
  refine bld bd_105 [(0, i64 (-1)), (1, i64 4)] rfl rfl ?_
  refine V.ok (v := .slice (some ⟨w.heap.size, 0, none⟩) 2 2) (w' := w.alloc (.cells (rowC ar0).toArray 105)) (by kernel_rfl) ?_
  have hab : Blk (w.alloc (.cells (rowC ar0).toArray 105)) w.heap.size (rowC ar0) 105 := by unfold Blk; rw [heap_alloc_new]
  have hx1 : Ext w (w.alloc (.cells (rowC ar0).toArray 105)) := (Ext.refl w).alloc _
  generalize w.alloc (.cells (rowC ar0).toArray 105) = w1 at hab hx1 ⊢
  refine bld bd_120 [(0, i64 size), (1, .slice (some ⟨w.heap.size, 0, none⟩) 2 2)] rfl rfl ?_
  refine bxK fun w2 hhb x2 => ?_
  have hl := hab.lt
  have hl2 := hhb.lt
  refine ⟨⟨_, rfl, by omega, ⟨hhb, own_blk (hab.ext x2) rfl (Nat.le_refl _) (by unfold maxLen; decide), fun a ha => ?_, fun a ha => ?_, fun i j a b x hi _ hx => ?_, fun a ha => ?_, by omega, by decide, by omega, fun a ha => ?_⟩⟩, hx1.trans x2⟩
  · rw [(ar0_dv a ha).1, (ar0_dv a ha).2]
    exact ⟨rfl, .inl ⟨rfl, rfl⟩⟩
  · rw [(ar0_dv a ha).2]
    exact Nat.zero_le _
  · rw [ar0_none a (List.mem_of_getElem? hi)] at hx
    cases hx
  · rw [ar0_none a ha]
    exact fun h => by cases h
  · rw [ar0_none a ha]
    exact fun h => by cases h
theorem roomNewT_ok {w : World} {size : Int} (h1 : 64 ≤ size) (h2 : size ≤ 4096) : callD Tryd.prog 5 #[i64 size] w fun r w' => (∃ rb hb, r = .tuple #[pt rb, i64 0] ∧ w.heap.size < hb ∧ hb < rb ∧ Blk w' rb [pt hb, nl, nl, nl, nl] 80 ∧ HeapG w' hb w.heap.size size w.heap.size 2 ar0) ∧ Ext w w' := by
  apply F5_wp
  unfold F5_den
  refine (heapNewT_ok h1 h2).mono fun r w1 ⟨⟨hb, hr, hbw, hh⟩, x1⟩ => ?_
  subst hr
  refine V_ext0.2 (V_ext1.2 (V_neqI.2 ?_))
  simp only [ne_eq, not_true_eq_false, ifD_false, decide_false]
  refine bld bd_80 [(0, .pointer (some ⟨hb, 0, none⟩))] rfl rfl ?_
  refine bxK fun w2 hrb x2 => ?_
  exact ⟨⟨_, hb, rfl, hbw, hh.heap.lt, hrb, hh.ext x2⟩, x1.trans x2⟩
/-- The document's heap. -/
theorem refHeap_ok {w : World} {size : Int} : callD Tryd.prog 29 #[i64 size] w fun r w' => (∃ yb, r = pt yb ∧ w.heap.size < yb ∧ Blk w' yb [i64 size, .slice (some ⟨w.heap.size, 0, none⟩) 2 2] 116 ∧ Blk w' w.heap.size (rowC ar0) 105) ∧ Ext w w' := by
  apply F29_wp
  unfold F29_den
  refine bld bd_105 [(0, i64 (-1)), (1, i64 3)] rfl rfl ?_
  refine bld bd_105 [(0, i64 (-1)), (1, i64 4)] rfl rfl ?_
  refine V.ok (v := .slice (some ⟨w.heap.size, 0, none⟩) 2 2) (w' := w.alloc (.cells (rowC ar0).toArray 105)) (by kernel_rfl) ?_
  have hab : Blk (w.alloc (.cells (rowC ar0).toArray 105)) w.heap.size (rowC ar0) 105 := by unfold Blk; rw [heap_alloc_new]
  have hx1 : Ext w (w.alloc (.cells (rowC ar0).toArray 105)) := (Ext.refl w).alloc _
  generalize w.alloc (.cells (rowC ar0).toArray 105) = w1 at hab hx1 ⊢
  refine bld bd_116 [(0, i64 size), (1, .slice (some ⟨w.heap.size, 0, none⟩) 2 2)] rfl rfl ?_
  refine bxK fun w2 hhb x2 => ?_
  exact ⟨⟨_, rfl, hab.lt, hhb, hab.ext x2⟩, hx1.trans x2⟩
theorem refRoom_ok {w : World} {size : Int} : callD Tryd.prog 15 #[i64 size] w fun r w' => (∃ xb yb, r = pt xb ∧ w.heap.size < yb ∧ yb < xb ∧ Blk w' xb [pt yb, nl, nl, nl, nl] 63 ∧ Blk w' yb [i64 size, .slice (some ⟨w.heap.size, 0, none⟩) 2 2] 116 ∧ Blk w' w.heap.size (rowC ar0) 105) ∧ Ext w w' := by
  apply F15_wp
  unfold F15_den
  refine refHeap_ok.mono fun r w1 ⟨⟨yb, hr, hyw, hy, ha⟩, x1⟩ => ?_
  subst hr
  refine bld bd_63 [(0, pt yb)] rfl rfl ?_
  refine bxK fun w2 hrb x2 => ?_
  exact ⟨⟨_, yb, rfl, hyw, hy.lt, hrb, hy.ext x2, ha.ext x2⟩, x1.trans x2⟩
theorem leakNew_ok {w : World} : callD Tryd.prog 14 #[] w fun r w' => (r = pt w.heap.size ∧ Blk w' w.heap.size [nl] 91) ∧ Ext w w' := by
  apply F14_wp
  unfold F14_den
  refine bld bd_91 [] rfl rfl ?_
  refine bxK fun w2 hrb x2 => ?_
  exact ⟨⟨rfl, hrb⟩, x2⟩
end Go.Proofs.YtgjmpnngheohbaaDoor
namespace Go.Proofs.YtgjmpnngheohbaaDoor
open Go.Vc
abbrev p0 (rb hb B tb : Nat) (size : Int) (iv fv : Value) : RP := ⟨rb, hb, B, B, 2, tb, size, ar0, iv, fv, nl, nl, nl, [], [], []⟩
abbrev q0 (xb yb ub g : Nat) (size : Int) (iv fv : Value) : QP := ⟨xb, yb, ub, g, 2, size, ar0, iv, fv, nl, nl, nl, [], [], []⟩
theorem p0_mu {rb hb B tb : Nat} {size : Int} {iv fv : Value} {i : Nat} (h : MuP (p0 rb hb B tb size iv fv) i ∨ TbP (p0 rb hb B tb size iv fv) i) : i = rb ∨ i = hb ∨ i = B ∨ i = tb := by
  rcases h with (h | h | h | ⟨a, ha, h⟩ | h | h) | h | h
  · exact .inl h
  · exact .inr (.inl h)
  · exact .inr (.inr (.inl h))
  · rw [ar0_none a ha] at h; cases h
  · cases h
  · cases h
  · exact .inr (.inr (.inr h))
  · cases h
theorem q0_mu {xb yb ub g : Nat} {size : Int} {iv fv : Value} {i : Nat} (h : RMu (q0 xb yb ub g size iv fv) i ∨ RCo (q0 xb yb ub g size iv fv) i) : i = xb ∨ i = yb ∨ i = ub ∨ i = g := by
  rcases h with (h | h | h | h) | h | ⟨a, ha, h⟩ | h | h
  · exact .inl h
  · exact .inr (.inl h)
  · exact .inr (.inr (.inl h))
  · cases h
  · exact .inr (.inr (.inr h))
  · rw [ar0_none a ha] at h; cases h
  · cases h
  · cases h
set_option maxHeartbeats 1600000 in
theorem start_ok {w w' : World} {rb hb B tb xb yb ub g : Nat} {size : Int} {iv iv' : Value} {d e : Fd} (hs : 64 ≤ size ∧ size ≤ 1000) (hh : HeapG w hb B size B 2 ar0) (ht : Blk w tb [nl] 91) (hy : Blk w yb [i64 size, .slice (some ⟨g, 0, none⟩) 2 2] 116) (hg : Blk w g (rowC ar0) 105) (hu : Blk w ub [nl] 57)
    (o1 : B < hb) (o2 : hb < rb) (o3 : rb < tb) (o4 : tb < g) (o5 : g < yb) (o6 : yb < xb) (o7 : xb < ub)
    (hr : Seg w' rb 0 [pt hb, iv, d.v, nl, nl]) (hx : Seg w' xb 0 [pt yb, iv', e.v, nl, nl]) (hd : FdR d w' (fun _ _ => 0)) (he : FdR e w' (fun _ _ => 0)) (f : Fr (fun i => i = rb ∨ i = xb) w w') (hge : ∀ i, FdB d i ∨ FdB e i → w.heap.size ≤ i) (hde : ∀ i, FdB d i → ¬ FdB e i) :
    Bth B (p0 rb hb B tb size iv d.v) (q0 xb yb ub g size iv' e.v) d e (fun _ _ => 0) w' := by
  have hul := hu.lt
  have nomem : ∀ (a : Arr) (_ : a ∈ ar0) (x : Nat), a.dv.ownBlock ≠ some x := fun a ha x => by
    rw [ar0_none a ha]
    exact fun h => by cases h
  have own0 : ∀ {B t : Nat} {sz : Nat} {w : World}, w.ownsRow B t sz nl 0 [] := fun {B t sz w} => World.ownsRow_nil _ _ _ _
  have dat : ∀ (a : Arr) (_ : a ∈ ar0), w'.ownsRow 0 5 1 a.dv a.data.length (a.data.map u8) := fun a ha => by
    rw [(ar0_dv a ha).1, (ar0_dv a ha).2]
    exact own0
  refine ⟨⟨hr, hh.frT f fun i hi => ⟨by omega, by omega, fun a ha => nomem a ha i⟩, own0, own0, Nat.zero_le _, Nat.zero_le _, (fun x hx => by cases hx), fun a ha x hx => absurd hx (nomem a ha x), fun a ha x hx => absurd hx (nomem a ha x), (fun h => by cases h), (fun h => by cases h), ?_, fun x hx => ⟨?_, fun a ha => nomem a ha x, (fun h => by cases h), (fun h => by cases h)⟩, f.blk ht ?_, own0, (fun h => by cases h), fun i hi hm => ?_, (show 2 ≤ 2 by decide), ⟨?_, hs.2⟩, fun a ha b hb => ?_⟩,
    ⟨hx, f.blk hy ?_, f.blk hu ?_, own_blk (f.blk hg ?_) rfl (Nat.zero_le _) (show 2 ≤ maxLen by unfold maxLen; decide), dat, fun a ha => by rw [(ar0_dv a ha).2]; exact Nat.zero_le _, own0, own0, Nat.zero_le _, Nat.zero_le _, own0, ?_, ?_, ?_, (fun i h => by cases h), fun i hi hc => ?_, (show 2 ≤ 2 by decide), (show 2 ≤ 1000 by decide), ⟨?_, hs.2⟩⟩, hd, he, rfl, rfl, fun i hi => ?_, fun i hi => ?_, hde, fun i hi => ?_⟩
  · show rb ≠ hb; omega
  · show x ≠ B
    have hx : x = rb ∨ x = hb := hx
    omega
  · show ¬ (tb = rb ∨ tb = xb); omega
  · rcases hi with hi | hi
    · have := p0_mu (.inl hm)
      have : i = tb := hi
      have : ¬ MuP (p0 rb hb B tb size iv d.v) tb := fun h => by
        rcases h with h | h | h | ⟨a, ha, h⟩ | h | h
        · have : tb = rb := h; omega
        · have : tb = hb := h; omega
        · have : tb = B := h; omega
        · exact nomem a ha _ h
        · cases h
        · cases h
      subst hi
      exact this hm
    · cases hi
  · show 0 ≤ size; omega
  · rw [(ar0_dv a ha).2] at hb
    cases hb
  · show ¬ (yb = rb ∨ yb = xb); omega
  · show ¬ (ub = rb ∨ ub = xb); omega
  · show ¬ (g = rb ∨ g = xb); omega
  · show xb ≠ yb; omega
  · show xb ≠ ub; omega
  · show yb ≠ ub; omega
  · rcases hi with hi | hi | hi | hi <;> rcases hc with hc | ⟨a, ha, hc⟩ | hc | hc
    · have h1 : i = xb := hi; have h2 : i = g := hc; omega
    · exact nomem a ha _ hc
    · cases hc
    · cases hc
    · have h1 : i = yb := hi; have h2 : i = g := hc; omega
    · exact nomem a ha _ hc
    · cases hc
    · cases hc
    · have h1 : i = ub := hi; have h2 : i = g := hc; omega
    · exact nomem a ha _ hc
    · cases hc
    · cases hc
    · cases hi
    · cases hi
    · cases hi
    · cases hi
  · show 0 ≤ size; omega
  · have h1 := p0_mu hi
    refine ⟨fun hm => ?_, fun hm => ?_, fun hm => ?_⟩
    · have h2 := q0_mu hm
      omega
    · have := hge i (.inl hm); omega
    · have := hge i (.inr hm); omega
  · have h1 := q0_mu hi
    refine ⟨fun hm => ?_, fun hm => ?_⟩
    · have := hge i (.inl hm); omega
    · have := hge i (.inr hm); omega
  · rcases hi with hi | hi | hi
    · have := p0_mu hi; omega
    · have := q0_mu hi; omega
    · have := hge i hi; omega
end Go.Proofs.YtgjmpnngheohbaaDoor
namespace Go.Proofs.YtgjmpnngheohbaaDoor
open Go.Vc

def c13S (t12 t36 t54 t85 : Value) (J3 : World → Prop) (w44 : World) (R : Value → World → Prop) : Prop :=
  V Tryd.prog (Instr.fieldAt 42 t12 2) w44 fun t180 w45 =>
  V Tryd.prog (Instr.loadAt 3 t180) w45 fun t181 w46 =>
  callD Tryd.prog 9 #[t181, (Value.int IntKind.i64 6)] w46 fun t182 w47 =>
  V Tryd.prog (binOp .sub 3 t182 (Value.int IntKind.i64 1)) w47 fun t183 w48 =>
  V Tryd.prog (Instr.fieldAt 42 t12 3) w48 fun t187 w49 =>
  V Tryd.prog (Instr.loadAt 3 t187) w49 fun t188 w50 =>
  V Tryd.prog (convert 3 21 t188) w50 fun t189 w51 =>
  callD Tryd.prog 10 #[t36, t85, t183, t189] w51 fun t190 w52 =>
  V Tryd.prog (binOp .geq 3 t183 (Value.int IntKind.i64 0)) w52 fun t192 w53 =>
  gd t192 true (fun K => K t183 w53) w53 fun t194 w54 =>
  gd t192 true (fun K => V Tryd.prog (binOp .lss 3 t194 (Value.int IntKind.i64 4)) w54 K) w54 fun t195 w55 =>
  pickD t192 t195 (Value.bool false) fun t196 =>
  V Tryd.prog (do eqGuard .neq 4 (Operand.tmp 190) (Operand.tmp 196) t190 t196; binOp .neq 4 t190 t196) w55 fun t197 w57 =>
  ifD t197 (
  R (Value.bool false) w57) (
  V Tryd.prog (binOp .geq 3 t183 (Value.int IntKind.i64 0)) w57 fun t199 w58 =>
  gd t199 true (fun K => K t183 w58) w58 fun t201 w59 =>
  gd t199 true (fun K => V Tryd.prog (binOp .lss 3 t201 (Value.int IntKind.i64 4)) w59 K) w59 fun t202 w60 =>
  pickD t199 t202 (Value.bool false) fun t203 =>
  ifD t203 (
  drawD w60 fun S47 w62 =>
  Go.Vc.Safe (t54) ∧
  yieldS Tryd.prog S47 (Instr.fieldAt 63 t54 2) fun t206 =>
  yieldS Tryd.prog S47 (Instr.loadAt 61 t206) fun t207 =>
  yieldS Tryd.prog S47 (Instr.indexAt 61 t207 t85) fun t209 =>
  yieldS Tryd.prog S47 (Instr.loadAt 39 t209) fun t210 =>
  yieldS Tryd.prog S47 (Instr.fieldAt 42 t12 3) fun t212 =>
  yieldS Tryd.prog S47 (Instr.loadAt 3 t212) fun t213 =>
  yieldS Tryd.prog S47 (convert 3 21 t213) fun t214 =>
  yieldS Tryd.prog S47 (Instr.indexAt 39 t210 t183) fun t215 =>
  U Tryd.prog (Instr.storeAt 21 t215 t214) w62 fun _ w63 =>
  J3 w63) (
  J3 w60))

def c14S (t12 t36 t54 : Value) (J3 : World → Prop) (w64 : World) (R : Value → World → Prop) : Prop :=
  V Tryd.prog (Instr.fieldAt 42 t12 5) w64 fun t218 w65 =>
  V Tryd.prog (Instr.loadAt 40 t218) w65 fun t219 w66 =>
  callD Tryd.prog 17 #[t219, (Value.int IntKind.i64 66)] w66 fun t220 w67 =>
  drawD w67 fun S50 w68 =>
  yieldS Tryd.prog S50 (Instr.fieldAt 42 t12 6) fun t223 =>
  yieldS Tryd.prog S50 (Instr.loadAt 40 t223) fun t224 =>
  yieldS Tryd.prog S50 (Instr.fieldAt 42 t12 6) fun t228 =>
  yieldS Tryd.prog S50 (Instr.loadAt 40 t228) fun t229 =>
  callD Tryd.prog 18 #[t36, t220, t224] w68 fun t225 w69 =>
  S50 w69 ∧
  callD Tryd.prog 19 #[t54, t220, t229] w69 fun t230 w70 =>
  S50 w70 ∧
  yieldS Tryd.prog S50 (do eqGuard .neq 4 (Operand.tmp 225) (Operand.tmp 230) t225 t230; binOp .neq 4 t225 t230) fun t231 =>
  ifD t231 (
  R (Value.bool false) w70) (
  J3 w70)

def srvS (t12 t36 t38 t54 t56 t85 t92 t18 : Value) (J3 : World → Prop) (w74 : World) (R : Value → World → Prop) : Prop :=
  callD Tryd.prog 20 #[t92] w74 fun t119 w95 =>
  ∃ J6 : NP 1,
  (V Tryd.prog (Instr.fieldAt 42 t12 3) w95 fun t120 w96 =>
  V Tryd.prog (Instr.loadAt 3 t120) w96 fun t121 w97 =>
  V Tryd.prog (binOp .rem 3 t121 (Value.int IntKind.i64 19)) w97 fun t122 w98 =>
  V Tryd.prog (do eqGuard .eql 3 (Operand.tmp 122) (Operand.const (Value.int IntKind.i64 18)) t122 (Value.int IntKind.i64 18); binOp .eql 3 t122 (Value.int IntKind.i64 18)) w98 fun t123 w99 =>
  gd t123 false (fun K => K t119 w99) w99 fun t125 w100 =>
  gd t123 false (fun K => V Tryd.prog (binOp .lss 3 t125 (Value.int IntKind.i64 0)) w100 K) w100 fun t126 w101 =>
  pickD t123 (Value.bool true) t126 fun t127 =>
  ifD t127 (
  V Tryd.prog (Instr.fieldAt 42 t12 2) w101 fun t128 w103 =>
  V Tryd.prog (Instr.loadAt 3 t128) w103 fun t129 w104 =>
  callD Tryd.prog 9 #[t129, (Value.int IntKind.i64 6)] w104 fun t130 w105 =>
  J6 t130 w105) (
  J6 t119 w101)) ∧
  ∀ (t21 : Value), ∀ w106 : World, J6 t21 w106 → ∀ _f : Env,
  V Tryd.prog (Instr.fieldAt 42 t12 2) w106 fun t131 w107 =>
  V Tryd.prog (Instr.loadAt 3 t131) w107 fun t132 w108 =>
  callD Tryd.prog 9 #[t132, (Value.int IntKind.i64 2)] w108 fun t133 w109 =>
  V Tryd.prog (binOp .add 3 (Value.int IntKind.i64 3) t133) w109 fun t134 w110 =>
  ∃ J7 : NP 1,
  (V Tryd.prog (do eqGuard .eql 3 (Operand.tmp 135) (Operand.const (Value.int IntKind.i64 36)) t92 (Value.int IntKind.i64 36); binOp .eql 3 t92 (Value.int IntKind.i64 36)) w110 fun t136 w111 =>
  ifD t136 (
  V Tryd.prog (Instr.fieldAt 42 t12 2) w111 fun t137 w112 =>
  V Tryd.prog (Instr.loadAt 3 t137) w112 fun t138 w113 =>
  callD Tryd.prog 9 #[t138, (Value.int IntKind.i64 2)] w113 fun t139 w114 =>
  V Tryd.prog (binOp .add 3 (Value.int IntKind.i64 1) t139) w114 fun t140 w115 =>
  J7 t140 w115) (
  J7 t134 w111)) ∧
  ∀ (t22 : Value), ∀ w116 : World, J7 t22 w116 → ∀ _f : Env,
  V Tryd.prog (Instr.fieldAt 42 t12 3) w116 fun t141 w117 =>
  V Tryd.prog (Instr.loadAt 3 t141) w117 fun t142 w118 =>
  callD Tryd.prog 9 #[t142, (Value.int IntKind.i64 7)] w118 fun t143 w119 =>
  V Tryd.prog (Instr.sliceAt 39 t18 none (some t21) none) w119 fun t153 w120 =>
  callD Tryd.prog 21 #[t36, t38, t85, t92, t22, t143, t153] w120 fun t154 w121 =>
  V Tryd.prog (Instr.extract t154 0) w121 fun t155 w122 =>
  V Tryd.prog (Instr.extract t154 1) w122 fun t156 w123 =>
  V Tryd.prog (Instr.sliceAt 39 t18 none (some t21) none) w123 fun t166 w124 =>
  callD Tryd.prog 22 #[t54, t56, t85, t92, t22, t143, t166] w124 fun t167 w125 =>
  V Tryd.prog (Instr.extract t167 0) w125 fun t168 w126 =>
  V Tryd.prog (Instr.extract t167 1) w126 fun t169 w127 =>
  V Tryd.prog (do eqGuard .neq 21 (Operand.tmp 170) (Operand.tmp 171) t155 t168; binOp .neq 21 t155 t168) w127 fun t172 w128 =>
  gd t172 false (fun K => K t156 w128) w128 fun t174 w129 =>
  gd t172 false (fun K => K t169 w129) w129 fun t175 w130 =>
  gd t172 false (fun K => V Tryd.prog (do eqGuard .neq 3 (Operand.tmp 174) (Operand.tmp 175) t174 t175; binOp .neq 3 t174 t175) w130 K) w130 fun t176 w131 =>
  pickD t172 (Value.bool true) t176 fun t177 =>
  ifD t177 (
  R (Value.bool false) w131) (
  J3 w131)

def cDS (t12 t36 t38 t54 t56 t85 t88 : Value) (J3 : World → Prop) (w64 : World) (R : Value → World → Prop) : Prop :=
  V Tryd.prog (Instr.build 66 #[(0, (Value.int IntKind.i64 17)), (1, (Value.int IntKind.i64 18)), (2, (Value.int IntKind.i64 27)), (3, (Value.int IntKind.i64 28)), (4, (Value.int IntKind.i64 29)), (5, (Value.int IntKind.i64 30)), (6, (Value.int IntKind.i64 31)), (7, (Value.int IntKind.i64 32)), (8, (Value.int IntKind.i64 36)), (9, (Value.int IntKind.i64 27)), (10, (Value.int IntKind.i64 30)), (11, (Value.int IntKind.i64 31)), (12, (Value.int IntKind.i64 6))]) w64 fun t90 w71 =>
  V Tryd.prog (Instr.index 66 t90 t88) w71 fun t92 w72 =>
  ∃ (I4 : NP 2) (μ4 : NF 2), I4 (Value.slice none 0 0) (Value.int IntKind.i64 0) w72 ∧
  ∀ (t18 : Value) (t19 : Value), ∀ w73 : World, I4 t18 t19 w73 → ∀ _f : Env,
  V Tryd.prog (binOp .lss 3 t19 (Value.int IntKind.i64 6)) w73 fun t94 w74 =>
  ifD t94 (
  ∃ J5 : NP 1,
  (V Tryd.prog (Instr.fieldAt 42 t12 4) w74 fun t98 w75 =>
  V Tryd.prog (Instr.loadAt 39 t98) w75 fun t99 w76 =>
  V Tryd.prog (Builtin.len_ #[39] 3 #[t99]) w76 fun t100 w77 =>
  V Tryd.prog (binOp .lss 3 t19 t100) w77 fun t101 w78 =>
  ifD t101 (
  V Tryd.prog (Instr.fieldAt 42 t12 4) w78 fun t102 w79 =>
  V Tryd.prog (Instr.loadAt 39 t102) w79 fun t103 w80 =>
  V Tryd.prog (Instr.indexAt 39 t103 t19) w80 fun t105 w81 =>
  V Tryd.prog (Instr.loadAt 21 t105) w81 fun t106 w82 =>
  J5 t106 w82) (
  J5 (Value.int IntKind.i32 0) w78)) ∧
  ∀ (t20 : Value), ∀ w83 : World, J5 t20 w83 → ∀ _f : Env,
  V Tryd.prog (binOp .rem 21 t20 (Value.int IntKind.i32 11)) w83 fun t108 w84 =>
  V Tryd.prog (do eqGuard .neq 21 (Operand.tmp 108) (Operand.const (Value.int IntKind.i32 10)) t108 (Value.int IntKind.i32 10); binOp .neq 21 t108 (Value.int IntKind.i32 10)) w84 fun t109 w85 =>
  ifD t109 (
  V Tryd.prog (convert 21 3 t20) w85 fun t111 w86 =>
  callD Tryd.prog 9 #[t111, (Value.int IntKind.i64 9)] w86 fun t112 w87 =>
  V Tryd.prog (convert 3 21 t112) w87 fun t113 w88 =>
  V Tryd.prog (Instr.buildSlice 39 1 #[(0, t113)]) w88 fun t116 w89 =>
  V Tryd.prog (Builtin.append_ #[39, 39] 39 #[t18, t116]) w89 fun t117 w90 =>
  V Tryd.prog (binOp .add 3 t19 (Value.int IntKind.i64 1)) w90 fun t96 w91 =>
  I4 t117 t96 w91 ∧ μ4 t117 t96 w91 < μ4 t18 t19 w73) (
  V Tryd.prog (Instr.buildSlice 39 1 #[(0, t20)]) w85 fun t116_1 w92 =>
  V Tryd.prog (Builtin.append_ #[39, 39] 39 #[t18, t116_1]) w92 fun t117_1 w93 =>
  V Tryd.prog (binOp .add 3 t19 (Value.int IntKind.i64 1)) w93 fun t96_1 w94 =>
  I4 t117_1 t96_1 w94 ∧ μ4 t117_1 t96_1 w94 < μ4 t18 t19 w73)) (
  srvS t12 t36 t38 t54 t56 t85 t92 t18 J3 w74 R)

def endS (t38 t56 : Value) (w32 : World) (R : Value → World → Prop) : Prop :=
  callD Tryd.prog 24 #[t38] w32 fun t239 w137 =>
  V Tryd.prog (Builtin.len_ #[55] 3 #[t239]) w137 fun t241 w138 =>
  Go.Vc.Safe (t56) ∧
  V Tryd.prog (Instr.fieldAt 57 t56 0) w138 fun t244 w140 =>
  V Tryd.prog (Instr.loadAt 55 t244) w140 fun t245 w141 =>
  V Tryd.prog (Builtin.len_ #[55] 3 #[t245]) w141 fun t246 w142 =>
  V Tryd.prog (do eqGuard .neq 3 (Operand.tmp 241) (Operand.tmp 246) t241 t246; binOp .neq 3 t241 t246) w142 fun t247 w143 =>
  ifD t247 (
  R (Value.bool false) w143) (
  ∃ (I8 : NP 1) (μ8 : NF 1), I8 (Value.int IntKind.i64 0) w143 ∧
  ∀ (t29 : Value), ∀ w144 : World, I8 t29 w144 → ∀ _f : Env,
  V Tryd.prog (Builtin.len_ #[55] 3 #[t239]) w144 fun t250 w145 =>
  V Tryd.prog (binOp .lss 3 t29 t250) w145 fun t251 w146 =>
  ifD t251 (
  drawD w146 fun S60 w147 =>
  yieldS Tryd.prog S60 (Instr.indexAt 55 t239 t29) fun t256 =>
  yieldS Tryd.prog S60 (Instr.loadAt 74 t256) fun t257 =>
  Go.Vc.Safe (t56) ∧
  yieldS Tryd.prog S60 (Instr.fieldAt 57 t56 0) fun t260 =>
  yieldS Tryd.prog S60 (Instr.loadAt 55 t260) fun t261 =>
  yieldS Tryd.prog S60 (Instr.indexAt 55 t261 t29) fun t263 =>
  yieldS Tryd.prog S60 (Instr.loadAt 74 t263) fun t264 =>
  yieldS Tryd.prog S60 (do eqGuard .neq 74 (Operand.tmp 257) (Operand.tmp 264) t257 t264; binOp .neq 74 t257 t264) fun t265 =>
  ifD t265 (
  R (Value.bool false) w147) (
  V Tryd.prog (binOp .add 3 t29 (Value.int IntKind.i64 1)) w147 fun t253 w148 =>
  I8 t253 w148 ∧ μ8 t253 w148 < μ8 t29 w144)) (
  R (Value.bool true) w146))

theorem pickS_ok {n m : Int} {w : World} (hm : 0 < m) (hm2 : m ≤ 1000000) : callD Tryd.prog 9 #[i64 n, i64 m] w fun r w' => (∃ k : Nat, r = i64 (k : Int) ∧ (k : Int) < m) ∧ w' = w := by
  apply F9_wp
  unfold F9_den
  refine rm hm fun c _ h1 h2 => ?_
  refine V_lss.2 (ifD_dec (fun hlt => ?_) fun hge => ?_)
  · refine V_add.2 ?_
    rw [wrap_id (by omega) (by omega)]
    exact ⟨⟨(c + m).toNat, by rw [Int.toNat_of_nonneg (by omega)], by omega⟩, rfl⟩
  · exact ⟨⟨c.toNat, by rw [Int.toNat_of_nonneg (by omega)], by omega⟩, rfl⟩
/-- All blocks of both rooms. -/
def Any4 (p : RP) (q : QP) (d e : Fd) (i : Nat) : Prop := (MuP p i ∨ TbP p i) ∨ (RMu q i ∨ RCo q i) ∨ FdB d i ∨ FdB e i
variable {B0 : Nat} {p : RP} {q : QP} {d e : Fd} {z : Nat → Nat → Int} {w : World} {R : Value → World → Prop}
theorem Bth.any (h : Bth B0 p q d e z w) : ∀ i, Any4 p q d e i → i < w.heap.size := by
  rintro i (hi | hi | hi | hi)
  · exact h.T.hi i hi
  · exact h.R.hi i hi
  · exact h.D.hi i hi
  · exact h.E.hi i hi
/-- What is left behind each case. -/
def Goes (B0 : Nat) (p : RP) (q : QP) (d e : Fd) (w : World) (J : World → Prop) : Prop :=
  ∀ p' q' z' w', Bth B0 p' q' d e z' w' → p'.ps = q'.ps → p'.rb = p.rb → p'.tb = p.tb → q'.xb = q.xb → q'.ub = q.ub → p'.tr.length ≤ p.tr.length + 2 → Fr (fun i => B0 ≤ i) w w' → J w'
theorem Bth.stp (h : Bth B0 p q d e z w) {p' : RP} {w' : World} (s : Stp p p' w w') : Fr (fun i => B0 ≤ i) w w' := s.fr.mono fun i hi => h.ge i (.inl hi)
theorem Bth.stq (h : Bth B0 p q d e z w) {q' : QP} {w' : World} (s : StpQ q q' w w') : Fr (fun i => B0 ≤ i) w w' := s.fr.mono fun i hi => h.ge i (.inr (.inl (.inl hi)))
set_option maxHeartbeats 1600000 in
theorem c13_ok (h : Bth B0 p q d e z w) (hps : p.ps = q.ps) {y : Nat} {z0 z1 z2 z3 : Int} {c4 c5 c6 : Value} (hy : Blk w y [i64 z0, i64 z1, i64 z2, i64 z3, c4, c5, c6] 42) (hyn : ¬ Any4 p q d e y) {who : Nat} (hwho : who < 2) {J : World → Prop} (hJ : Goes B0 p q d e w J) :
    c13S (pt y) (rmT p) (xbT q) (i64 (who : Int)) J w R := by
  unfold c13S
  refine ldB hy.boxed (by first | exact fa_105_0 | exact fa_105_1 | exact fa_105_2 | exact fa_105_3 | exact fa_105_4 | exact fa_116_0 | exact fa_116_1 | exact fa_120_0 | exact fa_120_1 | exact fa_42_0 | exact fa_42_1 | exact fa_42_2 | exact fa_42_3 | exact fa_42_4 | exact fa_42_5 | exact fa_42_6 | exact fa_57_0 | exact fa_63_0 | exact fa_63_2 | exact fa_63_3 | exact fa_63_4 | exact fa_80_0 | exact fa_80_2 | exact fa_80_3 | exact fa_80_4 | exact fa_91_0 | exact fa_95_0 | exact fa_95_1 | exact fa_95_2 | exact fa_95_3 | exact fa_95_4 | exact fa_95_5) (by first | exact l1_114 | exact l1_21 | exact l1_23 | exact l1_3 | exact l1_32 | exact l1_39 | exact l1_4 | exact l1_40 | exact l1_5 | exact l1_50 | exact l1_55 | exact l1_59 | exact l1_61 | exact l1_76) rfl ?_
  refine (pickS_ok (by omega) (by omega)).mono fun r w' ⟨⟨k, hr, hk⟩, hw⟩ => ?_
  subst hr; have hw := hw.symm; subst hw
  refine V_sub.2 ?_
  rw [wrap_id (by omega) (by omega)]
  refine ldB hy.boxed (by first | exact fa_105_0 | exact fa_105_1 | exact fa_105_2 | exact fa_105_3 | exact fa_105_4 | exact fa_116_0 | exact fa_116_1 | exact fa_120_0 | exact fa_120_1 | exact fa_42_0 | exact fa_42_1 | exact fa_42_2 | exact fa_42_3 | exact fa_42_4 | exact fa_42_5 | exact fa_42_6 | exact fa_57_0 | exact fa_63_0 | exact fa_63_2 | exact fa_63_3 | exact fa_63_4 | exact fa_80_0 | exact fa_80_2 | exact fa_80_3 | exact fa_80_4 | exact fa_91_0 | exact fa_95_0 | exact fa_95_1 | exact fa_95_2 | exact fa_95_3 | exact fa_95_4 | exact fa_95_5) (by first | exact l1_114 | exact l1_21 | exact l1_23 | exact l1_3 | exact l1_32 | exact l1_39 | exact l1_4 | exact l1_40 | exact l1_5 | exact l1_50 | exact l1_55 | exact l1_59 | exact l1_61 | exact l1_76) rfl ?_
  refine V.ok (r_convI Tryd.underlying3 Tryd.underlying21) ?_
  have hrb : Seg w p.rb 0 [.pointer (some ⟨p.hb, 0, none⟩), p.iv, d.v, p.pub, p.sec] := h.fp ▸ h.T.room
  have hxb : Seg w q.xb 0 [.pointer (some ⟨q.yb, 0, none⟩), q.iv, e.v, q.pub, q.sec] := h.fq ▸ h.R.xbox
  by_cases hin : 1 ≤ k ∧ k < 5
  · obtain ⟨j, rfl⟩ : ∃ j, k = j + 1 := ⟨k - 1, by omega⟩
    have ej : (((j + 1 : Nat) : Int) - 1) = ((j : Nat) : Int) := by omega
    rw [ej]
    have hj : j < 4 := by omega
    refine (setFieldD_ok hrb h.D hwho hj).mono fun r w1 ⟨hr, hd, f1⟩ => ?_
    subst hr
    refine V_geq.2 ?_
    simp only [show ((j : Int) ≥ 0) by omega, show ((j : Int) < 4) by omega, V_lss, V_geq, gd_t, pickD_iff, ifD_true, reduceIte, decide_true]
    refine V.ok (r_neqBool Tryd.underlying4) ?_
    simp only [bne_self_eq_false, ifD_false]
    have D1 : Ext w1 w1.drew := (Ext.refl _).drew
    have f1d : Fr (FdB d) w w1.drew := f1.trans (Fr.of_ext (S := FdB d) D1) fun _ _ h => h
    have hyd : Blk w1.drew y [i64 z0, i64 z1, i64 z2, i64 z3, c4, c5, c6] 42 := f1d.blk hy fun hm => hyn (.inr (.inr (.inl hm)))
    have hxd : Seg w1.drew q.xb 0 [.pointer (some ⟨q.yb, 0, none⟩), q.iv, e.v, q.pub, q.sec] := f1d.seg hxb fun hm => (h.qd _ (.inl (.inl rfl))).1 hm
    have hed : FdR e w1.drew z := h.E.fr f1d fun i hi => h.de i hi
    refine drawD.mk' (fun w' => w' = w1.drew) rfl ⟨.inl ⟨_, rfl⟩, ?_⟩
    refine yfB (fun w' hw => by rw [hw]; exact hxd.boxed) (by first | exact fa_105_0 | exact fa_105_1 | exact fa_105_2 | exact fa_105_3 | exact fa_105_4 | exact fa_116_0 | exact fa_116_1 | exact fa_120_0 | exact fa_120_1 | exact fa_42_0 | exact fa_42_1 | exact fa_42_2 | exact fa_42_3 | exact fa_42_4 | exact fa_42_5 | exact fa_42_6 | exact fa_57_0 | exact fa_63_0 | exact fa_63_2 | exact fa_63_3 | exact fa_63_4 | exact fa_80_0 | exact fa_80_2 | exact fa_80_3 | exact fa_80_4 | exact fa_91_0 | exact fa_95_0 | exact fa_95_1 | exact fa_95_2 | exact fa_95_3 | exact fa_95_4 | exact fa_95_5) (by first | exact l1_114 | exact l1_21 | exact l1_23 | exact l1_3 | exact l1_32 | exact l1_39 | exact l1_4 | exact l1_40 | exact l1_5 | exact l1_50 | exact l1_55 | exact l1_59 | exact l1_61 | exact l1_76) rfl ?_
    refine yS xa_61 (by first | exact l1_114 | exact l1_21 | exact l1_23 | exact l1_3 | exact l1_32 | exact l1_39 | exact l1_4 | exact l1_40 | exact l1_5 | exact l1_50 | exact l1_55 | exact l1_59 | exact l1_61 | exact l1_76) (fun w' hw => by rw [hw]; exact hed.rows) (by omega) (by omega) (hed.row hwho) ?_
    refine yfB (fun w' hw => by rw [hw]; exact hyd.boxed) (by first | exact fa_105_0 | exact fa_105_1 | exact fa_105_2 | exact fa_105_3 | exact fa_105_4 | exact fa_116_0 | exact fa_116_1 | exact fa_120_0 | exact fa_120_1 | exact fa_42_0 | exact fa_42_1 | exact fa_42_2 | exact fa_42_3 | exact fa_42_4 | exact fa_42_5 | exact fa_42_6 | exact fa_57_0 | exact fa_63_0 | exact fa_63_2 | exact fa_63_3 | exact fa_63_4 | exact fa_80_0 | exact fa_80_2 | exact fa_80_3 | exact fa_80_4 | exact fa_91_0 | exact fa_95_0 | exact fa_95_1 | exact fa_95_2 | exact fa_95_3 | exact fa_95_4 | exact fa_95_5) (by first | exact l1_114 | exact l1_21 | exact l1_23 | exact l1_3 | exact l1_32 | exact l1_39 | exact l1_4 | exact l1_40 | exact l1_5 | exact l1_50 | exact l1_55 | exact l1_59 | exact l1_61 | exact l1_76) rfl ?_
    refine yieldS.ok (fun w' _ => r_convI Tryd.underlying3 Tryd.underlying21) ?_
    refine yIx xa_39 (by omega) (by omega) ?_
    refine stSg inf21 (hed.cells who hwho) (show ((j : Nat) : Int).toNat < 4 by omega) rfl ?_
    obtain ⟨hB, F⟩ := h.set hwho hj (hd.ext D1) f1d rfl
    rw [Int.toNat_natCast]
    exact hJ p q _ _ hB hps rfl rfl rfl rfl (by omega) (F.mono fun i hi => h.ge i (.inr (.inr hi)))
  · refine (setFieldD_no hrb h.D hwho (k := (k : Int) - 1) (by omega)).mono fun r w1 ⟨hr, hw⟩ => ?_
    subst hr; have hw := hw.symm; subst hw
    refine V_geq.2 ?_
    by_cases h0 : (k : Int) - 1 ≥ 0
    · simp only [h0, show ¬ ((k : Int) - 1 < 4) by omega, V_lss, V_geq, gd_t, pickD_iff, ifD_false, reduceIte, decide_true, decide_false]
      refine V.ok (r_neqBool Tryd.underlying4) ?_
      simp only [bne_self_eq_false, ifD_false]
      exact hJ p q z _ h hps rfl rfl rfl rfl (by omega) (Fr.refl _ _)
    · simp only [h0, V_geq, gd_ft, pickD_iff, ifD_false, reduceIte, Bool.false_eq_true, decide_false]
      refine V.ok (r_neqBool Tryd.underlying4) ?_
      simp only [bne_self_eq_false, ifD_false]
      exact hJ p q z _ h hps rfl rfl rfl rfl (by omega) (Fr.refl _ _)
theorem sBegin_tr (s : PS) (a b : List Int) : (sBegin s a b).2.tr = s.tr := by
  unfold sBegin
  split <;> rfl
set_option maxHeartbeats 1600000 in
theorem c14_ok (h : Bth B0 p q d e z w) (hB0 : B0 ≤ w.heap.size) (hps : p.ps = q.ps) {y : Nat} {z0 z1 z2 z3 : Int} {c4 c5 c6 : Value} {l5 l6 : List Int} (hy : Blk w y [i64 z0, i64 z1, i64 z2, i64 z3, c4, c5, c6] 42) (hyn : ¬ Any4 p q d e y) (h5 : ArgsU8 w c5 l5) (h6 : ∀ w', Fr (fun i => B0 ≤ i) w w' → ArgsU8 w' c6 l6) (k5 : okB l5) (k6 : okB l6) {J : World → Prop} (hJ : Goes B0 p q d e w J) :
    c14S (pt y) (rmT p) (xbT q) J w R := by
  unfold c14S
  have hyl := hy.lt
  refine ldB hy.boxed (by first | exact fa_105_0 | exact fa_105_1 | exact fa_105_2 | exact fa_105_3 | exact fa_105_4 | exact fa_116_0 | exact fa_116_1 | exact fa_120_0 | exact fa_120_1 | exact fa_42_0 | exact fa_42_1 | exact fa_42_2 | exact fa_42_3 | exact fa_42_4 | exact fa_42_5 | exact fa_42_6 | exact fa_57_0 | exact fa_63_0 | exact fa_63_2 | exact fa_63_3 | exact fa_63_4 | exact fa_80_0 | exact fa_80_2 | exact fa_80_3 | exact fa_80_4 | exact fa_91_0 | exact fa_95_0 | exact fa_95_1 | exact fa_95_2 | exact fa_95_3 | exact fa_95_4 | exact fa_95_5) (by first | exact l1_114 | exact l1_21 | exact l1_23 | exact l1_3 | exact l1_32 | exact l1_39 | exact l1_4 | exact l1_40 | exact l1_5 | exact l1_50 | exact l1_55 | exact l1_59 | exact l1_61 | exact l1_76) rfl ?_
  refine (few_ok h5 (k := 66) (by omega)).mono fun pv w1 ⟨ho1, x1⟩ => ?_
  have D1 : Ext w1 w1.drew := (Ext.refl _).drew
  have X1 := x1.trans D1
  have h1 := h.ext X1
  have hy1 := hy.ext X1
  refine drawD.mk' (fun w' => Blk w' y [i64 z0, i64 z1, i64 z2, i64 z3, c4, c5, c6] 42) hy1 ?_
  refine yfB (fun w' hw => hw.boxed) (by first | exact fa_105_0 | exact fa_105_1 | exact fa_105_2 | exact fa_105_3 | exact fa_105_4 | exact fa_116_0 | exact fa_116_1 | exact fa_120_0 | exact fa_120_1 | exact fa_42_0 | exact fa_42_1 | exact fa_42_2 | exact fa_42_3 | exact fa_42_4 | exact fa_42_5 | exact fa_42_6 | exact fa_57_0 | exact fa_63_0 | exact fa_63_2 | exact fa_63_3 | exact fa_63_4 | exact fa_80_0 | exact fa_80_2 | exact fa_80_3 | exact fa_80_4 | exact fa_91_0 | exact fa_95_0 | exact fa_95_1 | exact fa_95_2 | exact fa_95_3 | exact fa_95_4 | exact fa_95_5) (by first | exact l1_114 | exact l1_21 | exact l1_23 | exact l1_3 | exact l1_32 | exact l1_39 | exact l1_4 | exact l1_40 | exact l1_5 | exact l1_50 | exact l1_55 | exact l1_59 | exact l1_61 | exact l1_76) rfl ?_
  refine yfB (fun w' hw => hw.boxed) (by first | exact fa_105_0 | exact fa_105_1 | exact fa_105_2 | exact fa_105_3 | exact fa_105_4 | exact fa_116_0 | exact fa_116_1 | exact fa_120_0 | exact fa_120_1 | exact fa_42_0 | exact fa_42_1 | exact fa_42_2 | exact fa_42_3 | exact fa_42_4 | exact fa_42_5 | exact fa_42_6 | exact fa_57_0 | exact fa_63_0 | exact fa_63_2 | exact fa_63_3 | exact fa_63_4 | exact fa_80_0 | exact fa_80_2 | exact fa_80_3 | exact fa_80_4 | exact fa_91_0 | exact fa_95_0 | exact fa_95_1 | exact fa_95_2 | exact fa_95_3 | exact fa_95_4 | exact fa_95_5) (by first | exact l1_114 | exact l1_21 | exact l1_23 | exact l1_3 | exact l1_32 | exact l1_39 | exact l1_4 | exact l1_40 | exact l1_5 | exact l1_50 | exact l1_55 | exact l1_59 | exact l1_61 | exact l1_76) rfl ?_
  have ho1d := D1.own ho1
  have F1 : Fr (fun i => B0 ≤ i) w w1.drew := Fr.of_ext X1
  refine (beginT_ok h1.T (ArgsU8.of_own ho1d) (fun w' hf => h6 w' (F1.trans (hf.mono fun i hi => h.ge i (.inl hi)) fun _ _ h => h)) (fun b hb => k5 b (List.mem_of_mem_take hb)) k6).mono fun r w2 ⟨p', hr, hp', hT, st⟩ => ?_
  subst hr
  have s1 := X1.size
  have hB2 := h1.stepP (by omega) hT st
  have F2 : Fr (fun i => B0 ≤ i) w1.drew w2 := h1.stp st
  have hy2 := st.fr.blk hy1 fun hm => hyn (.inl hm)
  refine ⟨hy2, ?_⟩
  have ho2 := st.fr.own ho1d fun i hi hm => by
    have := (ho1.lt i hi).1
    have := h.T.hi i hm
    omega
  have F12 := F1.trans F2 fun _ _ h => h
  refine (beginR_ok hB2.R (ArgsU8.of_own ho2) (fun w' hf => h6 w' (F12.trans (hf.mono fun i hi => h.ge i (.inr (.inl (.inl hi)))) fun _ _ h => h))).mono fun r w3 ⟨q', hr, hq', hR, sq⟩ => ?_
  subst hr
  have s2 := F2.size
  have hB3 := hB2.stepQ (by omega) hR sq
  refine ⟨sq.fr.blk hy2 fun hm => hyn (.inr (.inl (.inl hm))), ?_⟩
  refine yieldS.ok (fun w' _ => r_neqBool Tryd.underlying4) ?_
  rw [hps] at hp' ⊢
  simp only [bne_self_eq_false, ifD_false]
  refine hJ p' q' z _ hB3 (hp'.trans hq'.symm) st.rb st.tb sq.xb sq.ub ?_ (F12.trans (hB2.stq sq) fun _ _ h => h)
  have e1 : p'.tr = q.tr := (congrArg PS.tr hp').trans (sBegin_tr _ _ _)
  have e2 : p.tr = q.tr := congrArg PS.tr hps
  rw [e1, e2]
  omega
set_option maxHeartbeats 1600000 in
theorem srv_ok (h : Bth B0 p q d e z w) (hB0 : B0 ≤ w.heap.size) (hps : p.ps = q.ps) (htr : p.tr.length ≤ 99000) {y Bw : Nat} {z0 z1 z2 z3 : Int} {c4 c5 c6 : Value} (hy : Blk w y [i64 z0, i64 z1, i64 z2, i64 z3, c4, c5, c6] 42) (hyn : ¬ Any4 p q d e y) (hlt : ∀ i, Any4 p q d e i → i < Bw) {av : Value} {xs : List Int} (hav : w.ownsRow Bw 21 1 av 6 (xs.map i32)) (hxl : xs.length = 6) (hxs : in32 xs) {who : Nat} (hwho : who < 2) {op kk : Int} (hO : OpK op kk) {J : World → Prop} (hJ : Goes B0 p q d e w J) :
    srvS (pt y) (rmT p) (tbT p) (xbT q) (ubT q) (i64 (who : Int)) (i64 op) av J w R := by
  unfold srvS
  have hO' := hO
  obtain ⟨hk5, _, hrv, _⟩ := hO'
  refine hrv.mono fun r w' ⟨hr, hw⟩ => ?_
  subst hr; have hw := hw.symm; subst hw
  have pick6 : ∀ {K : Value → World → Prop}, (∀ n : Nat, n ≤ 5 → K (i64 (n : Int)) w) → callD Tryd.prog 9 #[i64 z2, i64 6] w K := fun hK =>
    (pickS_ok (by omega) (by omega)).mono fun r w' ⟨⟨k, hr, hk⟩, hw⟩ => by
      subst hr; have hw := hw.symm; subst hw
      exact hK k (by omega)
  refine ⟨fun v w' => ∃ n : Nat, v = i64 (n : Int) ∧ n ≤ 5 ∧ w' = w, ?_, ?_⟩
  · refine ldB hy.boxed (by first | exact fa_105_0 | exact fa_105_1 | exact fa_105_2 | exact fa_105_3 | exact fa_105_4 | exact fa_116_0 | exact fa_116_1 | exact fa_120_0 | exact fa_120_1 | exact fa_42_0 | exact fa_42_1 | exact fa_42_2 | exact fa_42_3 | exact fa_42_4 | exact fa_42_5 | exact fa_42_6 | exact fa_57_0 | exact fa_63_0 | exact fa_63_2 | exact fa_63_3 | exact fa_63_4 | exact fa_80_0 | exact fa_80_2 | exact fa_80_3 | exact fa_80_4 | exact fa_91_0 | exact fa_95_0 | exact fa_95_1 | exact fa_95_2 | exact fa_95_3 | exact fa_95_4 | exact fa_95_5) (by first | exact l1_114 | exact l1_21 | exact l1_23 | exact l1_3 | exact l1_32 | exact l1_39 | exact l1_4 | exact l1_40 | exact l1_5 | exact l1_50 | exact l1_55 | exact l1_59 | exact l1_61 | exact l1_76) rfl ?_
    refine rm (by omega) fun c _ _ _ => V_eqlI.2 ?_
    by_cases h18 : c = 18
    · simp only [h18, gd_tf, pickD_iff, ifD_true, reduceIte, decide_true]
      refine ldB hy.boxed (by first | exact fa_105_0 | exact fa_105_1 | exact fa_105_2 | exact fa_105_3 | exact fa_105_4 | exact fa_116_0 | exact fa_116_1 | exact fa_120_0 | exact fa_120_1 | exact fa_42_0 | exact fa_42_1 | exact fa_42_2 | exact fa_42_3 | exact fa_42_4 | exact fa_42_5 | exact fa_42_6 | exact fa_57_0 | exact fa_63_0 | exact fa_63_2 | exact fa_63_3 | exact fa_63_4 | exact fa_80_0 | exact fa_80_2 | exact fa_80_3 | exact fa_80_4 | exact fa_91_0 | exact fa_95_0 | exact fa_95_1 | exact fa_95_2 | exact fa_95_3 | exact fa_95_4 | exact fa_95_5) (by first | exact l1_114 | exact l1_21 | exact l1_23 | exact l1_3 | exact l1_32 | exact l1_39 | exact l1_4 | exact l1_40 | exact l1_5 | exact l1_50 | exact l1_55 | exact l1_59 | exact l1_61 | exact l1_76) rfl ?_
      exact pick6 fun n hn => ⟨n, rfl, hn, rfl⟩
    simp only [h18, V_lss, gd_f, pickD_iff, reduceIte, Bool.false_eq_true, decide_false]
    by_cases hneg : kk < 0
    · simp only [hneg, ifD_true, decide_true]
      refine ldB hy.boxed (by first | exact fa_105_0 | exact fa_105_1 | exact fa_105_2 | exact fa_105_3 | exact fa_105_4 | exact fa_116_0 | exact fa_116_1 | exact fa_120_0 | exact fa_120_1 | exact fa_42_0 | exact fa_42_1 | exact fa_42_2 | exact fa_42_3 | exact fa_42_4 | exact fa_42_5 | exact fa_42_6 | exact fa_57_0 | exact fa_63_0 | exact fa_63_2 | exact fa_63_3 | exact fa_63_4 | exact fa_80_0 | exact fa_80_2 | exact fa_80_3 | exact fa_80_4 | exact fa_91_0 | exact fa_95_0 | exact fa_95_1 | exact fa_95_2 | exact fa_95_3 | exact fa_95_4 | exact fa_95_5) (by first | exact l1_114 | exact l1_21 | exact l1_23 | exact l1_3 | exact l1_32 | exact l1_39 | exact l1_4 | exact l1_40 | exact l1_5 | exact l1_50 | exact l1_55 | exact l1_59 | exact l1_61 | exact l1_76) rfl ?_
      exact pick6 fun n hn => ⟨n, rfl, hn, rfl⟩
    simp only [hneg, ifD_false, decide_false]
    exact ⟨kk.toNat, by rw [Int.toNat_of_nonneg (by omega)], by omega, (by first | rfl | trivial)⟩
  rintro _ w' ⟨n, rfl, hn, hw⟩ _
  have hw := hw.symm; subst hw
  refine ldB hy.boxed (by first | exact fa_105_0 | exact fa_105_1 | exact fa_105_2 | exact fa_105_3 | exact fa_105_4 | exact fa_116_0 | exact fa_116_1 | exact fa_120_0 | exact fa_120_1 | exact fa_42_0 | exact fa_42_1 | exact fa_42_2 | exact fa_42_3 | exact fa_42_4 | exact fa_42_5 | exact fa_42_6 | exact fa_57_0 | exact fa_63_0 | exact fa_63_2 | exact fa_63_3 | exact fa_63_4 | exact fa_80_0 | exact fa_80_2 | exact fa_80_3 | exact fa_80_4 | exact fa_91_0 | exact fa_95_0 | exact fa_95_1 | exact fa_95_2 | exact fa_95_3 | exact fa_95_4 | exact fa_95_5) (by first | exact l1_114 | exact l1_21 | exact l1_23 | exact l1_3 | exact l1_32 | exact l1_39 | exact l1_4 | exact l1_40 | exact l1_5 | exact l1_50 | exact l1_55 | exact l1_59 | exact l1_61 | exact l1_76) rfl ?_
  refine (pickS_ok (by omega) (by omega)).mono fun r w' ⟨⟨k2, hr, hk2⟩, hw⟩ => ?_
  subst hr; have hw := hw.symm; subst hw
  refine V_add.2 ?_
  rw [wrap_id (by omega) (by omega)]
  refine ⟨fun v w' => ∃ sa : Int, v = i64 sa ∧ (op = 36 ∨ sa = 3 ∨ sa = 4) ∧ w' = w, ?_, ?_⟩
  · refine V_eqlI.2 ?_
    by_cases h36 : op = 36
    · simp only [h36, ifD_true, decide_true]
      refine ldB hy.boxed (by first | exact fa_105_0 | exact fa_105_1 | exact fa_105_2 | exact fa_105_3 | exact fa_105_4 | exact fa_116_0 | exact fa_116_1 | exact fa_120_0 | exact fa_120_1 | exact fa_42_0 | exact fa_42_1 | exact fa_42_2 | exact fa_42_3 | exact fa_42_4 | exact fa_42_5 | exact fa_42_6 | exact fa_57_0 | exact fa_63_0 | exact fa_63_2 | exact fa_63_3 | exact fa_63_4 | exact fa_80_0 | exact fa_80_2 | exact fa_80_3 | exact fa_80_4 | exact fa_91_0 | exact fa_95_0 | exact fa_95_1 | exact fa_95_2 | exact fa_95_3 | exact fa_95_4 | exact fa_95_5) (by first | exact l1_114 | exact l1_21 | exact l1_23 | exact l1_3 | exact l1_32 | exact l1_39 | exact l1_4 | exact l1_40 | exact l1_5 | exact l1_50 | exact l1_55 | exact l1_59 | exact l1_61 | exact l1_76) rfl ?_
      refine (pickS_ok (by omega) (by omega)).mono fun r w' ⟨⟨k3, hr, hk3⟩, hw⟩ => ?_
      subst hr; have hw := hw.symm; subst hw
      exact V_add.2 ⟨_, rfl, .inl (by first | exact h36 | trivial), (by first | rfl | trivial)⟩
    simp only [h36, ifD_false, decide_false]
    exact ⟨_, rfl, (by first | exact .inr (by omega) | omega), (by first | rfl | trivial)⟩
  rintro _ w' ⟨sa, rfl, hsa, hw⟩ _
  have hw := hw.symm; subst hw
  refine ldB hy.boxed (by first | exact fa_105_0 | exact fa_105_1 | exact fa_105_2 | exact fa_105_3 | exact fa_105_4 | exact fa_116_0 | exact fa_116_1 | exact fa_120_0 | exact fa_120_1 | exact fa_42_0 | exact fa_42_1 | exact fa_42_2 | exact fa_42_3 | exact fa_42_4 | exact fa_42_5 | exact fa_42_6 | exact fa_57_0 | exact fa_63_0 | exact fa_63_2 | exact fa_63_3 | exact fa_63_4 | exact fa_80_0 | exact fa_80_2 | exact fa_80_3 | exact fa_80_4 | exact fa_91_0 | exact fa_95_0 | exact fa_95_1 | exact fa_95_2 | exact fa_95_3 | exact fa_95_4 | exact fa_95_5) (by first | exact l1_114 | exact l1_21 | exact l1_23 | exact l1_3 | exact l1_32 | exact l1_39 | exact l1_4 | exact l1_40 | exact l1_5 | exact l1_50 | exact l1_55 | exact l1_59 | exact l1_61 | exact l1_76) rfl ?_
  refine (pickS_ok (by omega) (by omega)).mono fun r w' ⟨⟨sb, hr, hsb⟩, hw⟩ => ?_
  subst hr; have hw := hw.symm; subst hw
  obtain ⟨av', hrun, hsl⟩ := r_sl Tryd.underlying39 inf21 (SliceIs.of_own hav) (lo := none) (hi' := some (.int .i64 (n : Int))) (a := 0) (b := n) (.inl ⟨rfl, rfl⟩) (.inr rfl) (Nat.zero_le _) (by omega)
  have hnl : (xs.take n).length = n := by simp; omega
  have hns : in32 (xs.take n) := fun x hx => hxs x (List.mem_of_mem_take hx)
  obtain ⟨X, hX⟩ := agree_any (who := (who : Int)) hO hsa (sb := (sb : Int)) ⟨by omega, hsb⟩ hns
  rw [hnl] at hX
  have hsl' : ∀ w2, w2.ownsRow Bw 21 1 av 6 (xs.map i32) → SliceIs w2 av' 1 n ((xs.take n).map i32) := fun w2 ho => by
    have := hsl w2 (SliceIs.of_own ho)
    simpa [List.map_take] using this
  refine V.ok (hrun _) ?_
  refine (hX.prog h.T htr (hsl' _ hav)).mono fun r w1 ⟨p', hr, hp', hT, st⟩ => ?_
  rw [hps] at hr hp'
  subst hr
  refine V_ext0.2 (V_ext1.2 ?_)
  refine V.ok (hrun _) ?_
  have hB1 := h.stepP hB0 hT st
  have hav1 := st.fr.own hav fun i hi hm => by
    have := (hav.lt i hi).1
    have := hlt i (.inl hm)
    omega
  have s1 := st.fr.size
  have eqt : q.tr = p.tr := (congrArg PS.tr hps).symm
  have hby : ∀ x ∈ q.ps.ar, okB x.data := fun x hx => by
    rw [← hps] at hx
    obtain ⟨a, ha, rfl⟩ := List.mem_map.1 hx
    exact h.T.bytes a ha
  refine (hX.ref hB1.R (by rw [eqt]; omega) hby fun w' hf => hsl' _ (hf.own hav1 fun i hi hm => by
    have := (hav.lt i hi).1
    have := hlt i (.inr (.inl (.inl hm)))
    omega)).mono fun r w2 ⟨q', hr, hq', hR, sq⟩ => ?_
  subst hr
  refine V_ext0.2 (V_ext1.2 (V_neqI.2 ?_))
  simp only [ne_eq, not_true_eq_false, V_neqI, gd_f, pickD_iff, ifD_false, reduceIte, Bool.false_eq_true, decide_false]
  have hB2 := hB1.stepQ (by omega) hR sq
  refine hJ p' q' z _ hB2 (hp'.trans hq'.symm) st.rb st.tb sq.xb sq.ub ?_ ((h.stp st).trans (hB1.stq sq) fun _ _ h => h)
  have e1 : p'.tr = (X q.ps).2.2.tr := congrArg PS.tr hp'
  have e2 := hX.len q.ps
  have e3 : q.ps.tr = q.tr := rfl
  rw [e1]
  rw [e3, eqt] at e2
  exact e2
theorem Goes.ext {w1 : World} {J : World → Prop} (h : Goes B0 p q d e w J) (hx : Ext w w1) : Goes B0 p q d e w1 J := fun p' q' z' w' hB h1 h2 h3 h4 h5 h6 f => h p' q' z' w' hB h1 h2 h3 h4 h5 h6 ((Fr.of_ext (S := fun i => B0 ≤ i) hx).trans f fun _ _ h => h)
/-- An argument that is a slice of words. -/
def Args32 (w : World) (sv : Value) (l : List Int) : Prop := (sv = .slice none 0 0 ∧ l = []) ∨ ∃ ad c, sv = .slice (some ad) l.length c ∧ (0 < l.length → SliceIs w sv 1 l.length (l.map i32))
theorem Args32.ext {w w' : World} {sv : Value} {l : List Int} (h : Args32 w sv l) (hx : Ext w w') : Args32 w' sv l := by
  rcases h with h | ⟨ad, c, h1, h2⟩
  · exact .inl h
  · exact .inr ⟨ad, c, h1, fun h0 => (h2 h0).ext hx⟩
theorem Args32.one {w : World} {sv : Value} {l : List Int} (h : Args32 w sv l) : oneC sv = true := by
  rcases h with ⟨rfl, _⟩ | ⟨ad, c, rfl, _⟩ <;> rfl
theorem ArgsU8.one {w : World} {sv : Value} {l : List Int} (h : ArgsU8 w sv l) : oneC sv = true := by
  rcases h with ⟨rfl, _⟩ | ⟨ad, c, rfl, _⟩ <;> rfl
set_option maxHeartbeats 1600000 in
theorem cD_ok (h : Bth B0 p q d e z w) (hB0 : B0 ≤ w.heap.size) (hps : p.ps = q.ps) (htr : p.tr.length ≤ 99000) {y : Nat} {z0 z1 z2 z3 : Int} {c4 c5 c6 : Value} {ys : List Int} (hy : Blk w y [i64 z0, i64 z1, i64 z2, i64 z3, c4, c5, c6] 42) (hyn : ¬ Any4 p q d e y) (hargs : Args32 w c4 ys) (hys : in32 ys) {who : Nat} (hwho : who < 2) {k : Nat} (hk : k < 13) {J : World → Prop} (hJ : Goes B0 p q d e w J) :
    cDS (pt y) (rmT p) (tbT p) (xbT q) (ubT q) (i64 (who : Int)) (i64 (k : Int)) J w R := by
  obtain ⟨op, kk, hop, hO⟩ := op_allW hk
  unfold cDS
  refine V.ok (w' := w) (v := .agg opsW) (by kernel_rfl) ?_
  refine V.ok (r_idx Tryd.underlying66 inf3 ⟨_, Tryd.underlying3⟩ (by omega) (by omega) hop rfl) ?_
  refine ⟨fun v u w' => ∃ (j : Nat) (xs : List Int), u = i64 j ∧ j ≤ 6 ∧ xs.length = j ∧ in32 xs ∧ w'.ownsRow w.heap.size 21 1 v j (xs.map i32) ∧ Ext w w', fun _ u _ => 6 - (RowKit.intOf u).toNat, ⟨0, [], rfl, by omega, rfl, (fun x hx => by cases hx), World.ownsRow_nil _ _ _ _, Ext.refl _⟩, ?_⟩
  rintro av _ w1 ⟨j, xs, rfl, hj, hxl, hxs, ho1, x1⟩ _
  refine V_lss.2 (ifD_dec (fun hlt => ?_) fun hge => ?_)
  · have app : ∀ {v : Int}, -2147483648 ≤ v ∧ v ≤ 2147483647 → V Tryd.prog (Instr.buildSlice 39 1 #[(0, i32 v)]) w1 fun t116 w89 => V Tryd.prog (Builtin.append_ #[39, 39] 39 #[av, t116]) w89 fun t117 w90 => V Tryd.prog (binOp .add 3 (i64 (j : Int)) (Value.int IntKind.i64 1)) w90 fun t96 w91 =>
        (∃ (j : Nat) (xs : List Int), t96 = i64 j ∧ j ≤ 6 ∧ xs.length = j ∧ in32 xs ∧ w91.ownsRow w.heap.size 21 1 t117 j (xs.map i32) ∧ Ext w w91) ∧ 6 - (RowKit.intOf t96).toNat < 6 - (RowKit.intOf (i64 (j : Int))).toNat := by
      intro v hv
      refine bsl (by first | exact xe_32 | exact xe_39 | exact xe_40) [i32 v] rfl rfl (by simp) rfl fun v7 w7 ho7 x7 => ?_
      refine apO (by first | exact xe_32 | exact xe_39 | exact xe_40) (x7.own ho1) (SliceIs.of_own ho7) rfl (by omega) (by unfold maxLen; omega) (by have := x1.size; have := x7.size; omega) fun v8 w8 ho8 hg8 => ?_
      refine V_add.2 ?_
      rw [wrap_id (by omega) (by omega), i64_succ']
      refine ⟨⟨j + 1, xs ++ [v], rfl, by omega, by simp [hxl], fun x hx => ?_, by simpa using ho8, (x1.trans x7).grown hg8 fun q hq => (ho1.lt q hq).1⟩, by simp only [intOf_i64']; omega⟩
      rcases List.mem_append.1 hx with hx | hx
      · exact hxs x hx
      · obtain rfl := List.mem_singleton.1 hx
        exact hv
    refine ⟨fun v w' => (∃ x : Int, v = i32 x ∧ -2147483648 ≤ x ∧ x ≤ 2147483647) ∧ w' = w1, ?_, ?_⟩
    · refine ldB (hy.ext x1).boxed (by first | exact fa_105_0 | exact fa_105_1 | exact fa_105_2 | exact fa_105_3 | exact fa_105_4 | exact fa_116_0 | exact fa_116_1 | exact fa_120_0 | exact fa_120_1 | exact fa_42_0 | exact fa_42_1 | exact fa_42_2 | exact fa_42_3 | exact fa_42_4 | exact fa_42_5 | exact fa_42_6 | exact fa_57_0 | exact fa_63_0 | exact fa_63_2 | exact fa_63_3 | exact fa_63_4 | exact fa_80_0 | exact fa_80_2 | exact fa_80_3 | exact fa_80_4 | exact fa_91_0 | exact fa_95_0 | exact fa_95_1 | exact fa_95_2 | exact fa_95_3 | exact fa_95_4 | exact fa_95_5) (by first | exact l1_114 | exact l1_21 | exact l1_23 | exact l1_3 | exact l1_32 | exact l1_39 | exact l1_4 | exact l1_40 | exact l1_5 | exact l1_50 | exact l1_55 | exact l1_59 | exact l1_61 | exact l1_76) rfl ?_
      have ha1 := hargs.ext x1
      have hln : V Tryd.prog (Builtin.len_ #[39] 3 #[c4]) w1 fun t w' => t = i64 ys.length ∧ w' = w1 := by
        rcases ha1 with ⟨rfl, rfl⟩ | ⟨ad, c, rfl, _⟩
        · exact V_ln_39.2 ⟨rfl, rfl⟩
        · exact V_ln_39.2 ⟨rfl, rfl⟩
      refine hln.mono fun t w' ⟨ht, hw⟩ => ?_
      subst ht; have hw := hw.symm; subst hw
      refine V_lss.2 (ifD_dec (fun hlt2 => ?_) fun hge2 => ⟨⟨0, rfl, by omega, by omega⟩, rfl⟩)
      refine ldB (hy.ext x1).boxed (by first | exact fa_105_0 | exact fa_105_1 | exact fa_105_2 | exact fa_105_3 | exact fa_105_4 | exact fa_116_0 | exact fa_116_1 | exact fa_120_0 | exact fa_120_1 | exact fa_42_0 | exact fa_42_1 | exact fa_42_2 | exact fa_42_3 | exact fa_42_4 | exact fa_42_5 | exact fa_42_6 | exact fa_57_0 | exact fa_63_0 | exact fa_63_2 | exact fa_63_3 | exact fa_63_4 | exact fa_80_0 | exact fa_80_2 | exact fa_80_3 | exact fa_80_4 | exact fa_91_0 | exact fa_95_0 | exact fa_95_1 | exact fa_95_2 | exact fa_95_3 | exact fa_95_4 | exact fa_95_5) (by first | exact l1_114 | exact l1_21 | exact l1_23 | exact l1_3 | exact l1_32 | exact l1_39 | exact l1_4 | exact l1_40 | exact l1_5 | exact l1_50 | exact l1_55 | exact l1_59 | exact l1_61 | exact l1_76) rfl ?_
      rcases ha1 with ⟨_, rfl⟩ | ⟨ad, c, rfl, hs⟩
      · simp at hlt2
        omega
      obtain ⟨x, hx⟩ := ex_get (l := ys) (j := j) (by omega)
      have hxr := hys x (List.mem_of_getElem? hx)
      exact ldx xa_39 l1_21 (hs (by omega)) (by omega) (by omega) (by simp [hx] : (ys.map i32)[((j : Nat) : Int).toNat]? = some (i32 x)) ⟨⟨x, rfl, hxr.1, hxr.2⟩, rfl⟩
    · rintro _ w' ⟨⟨x, rfl, hx1, hx2⟩, hw⟩ _
      have hw := hw.symm; subst hw
      refine rm32 (by omega) fun c _ => V_neqI.2 ?_
      by_cases h10 : c = 10
      · simp only [h10, ne_eq, not_true_eq_false, ifD_false, decide_false]
        exact app ⟨hx1, hx2⟩
      · simp only [h10, ne_eq, not_false_eq_true, ifD_true, decide_true]
        refine V.ok (r_convI Tryd.underlying21 Tryd.underlying3) ?_
        refine (pickS_ok (by omega) (by omega)).mono fun r w' ⟨⟨k, hr, hk9⟩, hw⟩ => ?_
        subst hr; have hw := hw.symm; subst hw
        refine V.ok (r_convI Tryd.underlying3 Tryd.underlying21) ?_
        rw [wrap32 (by omega) (by omega)]
        exact app ⟨by omega, by omega⟩
  obtain rfl : j = 6 := by omega
  have s1 := x1.size
  exact srv_ok (h.ext x1) (by omega) hps htr (hy.ext x1) hyn h.any ho1 hxl hxs hwho hO (hJ.ext x1)
theorem yxA {P : Program} {w : World} {S : World → Prop} {L : Value → Prop} {t x : TypeId} {v : Value} {n sz : Nat} {cs l : List Value} {k : IntKind} {i : Int} (h : XA P t sz) (ht : ∃ d z by_, P.underlying x = some d ∧ aggB d = true ∧ Go.Vc.Inf P x z sz by_) (hs0 : SliceIs w v sz n cs) (hs : ∀ w', S w' → SliceIs w' v sz n cs) (h0 : 0 ≤ i) (h1 : i < n)
    (hl : l.length = sz) (hc : ∀ j, j < sz → cs[i.toNat * sz + j]? = l[j]?) (hk : L (.agg l.toArray)) :
    yieldS P S (Instr.indexAt t v (.int k i)) fun p => yieldS P S (Instr.loadAt x p) L := by
  obtain ⟨e, z, b', hte, hi⟩ := h
  obtain ⟨d, z', by_, h2, h3, h4⟩ := ht
  obtain ⟨b, off, cap, rfl, _⟩ := hs0.there (by omega)
  refine yieldS.ok (fun w' _ => r_index hte hi h0 h1) (yieldS.ok (fun w' hw => r_loadAgg h2 h3 h4 hl fun j hj => ?_) hk)
  obtain ⟨_, _, _, he, hcell⟩ := (hs w' hw).there (by omega)
  cases he
  obtain ⟨u, hu⟩ : ∃ u, l[j]? = some u := ⟨_, List.getElem?_eq_getElem hj⟩
  rw [hu, Nat.add_assoc]
  exact hcell _ u ((hc j (by omega)).trans hu)
set_option maxHeartbeats 1600000 in
theorem end_ok (h : Bth B0 p q d e z w) (hps : p.ps = q.ps) (htr : p.tr.length ≤ 99000) (hR : ∀ w', Ext w w' → R (.bool true) w') : endS (tbT p) (ubT q) w R := by
  unfold endS
  have eqt : q.tr = p.tr := (congrArg PS.tr hps).symm
  refine (allT_ok h.T (by omega)).mono fun av w1 ⟨hs1, x1⟩ => ?_
  refine lnx xa_55 hs1 ⟨.inl ⟨_, rfl⟩, ?_⟩
  have h1 := h.ext x1
  have hrow : SliceIs w1 q.uv 4 p.tr.length (trC p.tr) := by
    have := SliceIs.of_own h1.R.trow
    rwa [eqt] at this
  refine ldB h1.R.ubox.boxed (by first | exact fa_105_0 | exact fa_105_1 | exact fa_105_2 | exact fa_105_3 | exact fa_105_4 | exact fa_116_0 | exact fa_116_1 | exact fa_120_0 | exact fa_120_1 | exact fa_42_0 | exact fa_42_1 | exact fa_42_2 | exact fa_42_3 | exact fa_42_4 | exact fa_42_5 | exact fa_42_6 | exact fa_57_0 | exact fa_63_0 | exact fa_63_2 | exact fa_63_3 | exact fa_63_4 | exact fa_80_0 | exact fa_80_2 | exact fa_80_3 | exact fa_80_4 | exact fa_91_0 | exact fa_95_0 | exact fa_95_1 | exact fa_95_2 | exact fa_95_3 | exact fa_95_4 | exact fa_95_5) (by first | exact l1_114 | exact l1_21 | exact l1_23 | exact l1_3 | exact l1_32 | exact l1_39 | exact l1_4 | exact l1_40 | exact l1_5 | exact l1_50 | exact l1_55 | exact l1_59 | exact l1_61 | exact l1_76) rfl ?_
  refine lnx xa_55 hrow (V_neqI.2 ?_)
  simp only [ne_eq, not_true_eq_false, ifD_false, decide_false]
  refine ⟨fun x w' => ∃ k : Nat, x = i64 k ∧ k ≤ p.tr.length ∧ Ext w1 w', fun x _ => p.tr.length - (RowKit.intOf x).toNat, ⟨0, rfl, Nat.zero_le _, Ext.refl _⟩, ?_⟩
  rintro _ w2 ⟨k, rfl, hk, x2⟩ _
  refine lnx xa_55 (hs1.ext x2) ?_
  refine V_lss.2 (ifD_dec (fun hlt => ?_) fun hge => hR _ (x1.trans x2))
  obtain ⟨ev, hev⟩ := ex_get (l := p.tr) (j := k) (by omega)
  have D2 : Ext w2 w2.drew := (Ext.refl _).drew
  refine drawD.mk' (fun w' => Ext w2 w') D2 ?_
  refine yxA xa_55 la_74 hs1 (fun w' hw => hs1.ext (x2.trans hw)) (by omega) (by omega) (l := ev.cells) rfl (fun j hj => by rw [Int.toNat_natCast]; exact trC_get hev hj) ⟨.inl ⟨_, rfl⟩, ?_⟩
  refine yfB (fun w' hw => (h1.R.ext (x2.trans hw)).ubox.boxed) (by first | exact fa_105_0 | exact fa_105_1 | exact fa_105_2 | exact fa_105_3 | exact fa_105_4 | exact fa_116_0 | exact fa_116_1 | exact fa_120_0 | exact fa_120_1 | exact fa_42_0 | exact fa_42_1 | exact fa_42_2 | exact fa_42_3 | exact fa_42_4 | exact fa_42_5 | exact fa_42_6 | exact fa_57_0 | exact fa_63_0 | exact fa_63_2 | exact fa_63_3 | exact fa_63_4 | exact fa_80_0 | exact fa_80_2 | exact fa_80_3 | exact fa_80_4 | exact fa_91_0 | exact fa_95_0 | exact fa_95_1 | exact fa_95_2 | exact fa_95_3 | exact fa_95_4 | exact fa_95_5) (by first | exact l1_114 | exact l1_21 | exact l1_23 | exact l1_3 | exact l1_32 | exact l1_39 | exact l1_4 | exact l1_40 | exact l1_5 | exact l1_50 | exact l1_55 | exact l1_59 | exact l1_61 | exact l1_76) rfl ?_
  refine yxA xa_55 la_74 hrow (fun w' hw => hrow.ext (x2.trans hw)) (by omega) (by omega) (l := ev.cells) rfl (fun j hj => by rw [Int.toNat_natCast]; exact trC_get hev hj) ?_
  refine yieldS.ok (fun w' _ => r_neqEvt ev) (ifD_false.2 ?_)
  refine V_add.2 ?_
  have hle := htr
  rw [wrap_id (by omega) (by omega), i64_succ']
  exact ⟨⟨k + 1, rfl, by omega, x2.trans D2⟩, by simp only [intOf_i64']; omega⟩

end Go.Proofs.YtgjmpnngheohbaaDoor
namespace Go.Vc
theorem Blk.seg {w : World} {b : Nat} {cs : List Value} {e : TypeId} (h : Blk w b cs e) : Seg w b 0 cs :=
  ⟨cs.toArray, e, (0, 0), h, by simp, .inl rfl, fun j v hj => by simpa using hj⟩
end Go.Vc
namespace Go.Proofs.YtgjmpnngheohbaaDoor
open Go.Vc Go.Ab
/-- Steps that came in, whole. -/
def StepsArr (w : World) (v : Value) (n : Nat) : Prop := (∃ a c, v = .slice a n c) ∧ (0 < n → ∃ cs, SliceIs w v 7 n cs ∧ ∀ i, i < n → ∃ (z0 z1 z2 z3 : Int) (c4 c5 c6 : Value) (xs l5 l6 : List Int), (cs.drop (i * 7)).take 7 = [i64 z0, i64 z1, i64 z2, i64 z3, c4, c5, c6] ∧ (ArgsU8 w c5 l5 ∧ okB l5) ∧ (ArgsU8 w c6 l6 ∧ okB l6) ∧ Args32 w c4 xs ∧ in32 xs)
/-- Behind each step. -/
def Inv (w0 : World) (rb tb xb ub : Nat) (d e : Fd) (n : Nat) (w' : World) : Prop :=
  ∃ p q z, Bth w0.heap.size p q d e z w' ∧ p.ps = q.ps ∧ p.rb = rb ∧ p.tb = tb ∧ q.xb = xb ∧ q.ub = ub ∧ p.tr.length ≤ n ∧ Ext w0 w'
set_option maxHeartbeats 8000000 in
theorem serves_law {lv : Value} {N : Nat} {w : World} (hlv : StepsArr w lv N) (known : ∀ w, callD Tryd.prog 6 #[] w fun v w' => v = .bool true ∧ Ext w w') {n0 : Int} :
    callD Tryd.prog 4 #[i64 n0, lv] w fun r w' => r = .bool true ∧ Ext w w' := by
  obtain ⟨⟨la, lc, rfl⟩, hlv⟩ := hlv
  apply F4_wp
  suffices key : ∀ R : Value → World → Prop, (∀ w', Ext w w' → R (.bool true) w') → F4_den (i64 n0) (.slice la N lc) w R from key _ fun w' hx => ⟨rfl, hx⟩
  intro R hR
  unfold F4_den
  refine (pickS_ok (by omega) (by omega)).mono fun r w' ⟨⟨k, hr, hk⟩, hw⟩ => ?_
  subst hr; have hw := hw.symm; subst hw
  refine V_add.2 ?_
  rw [wrap_id (by omega) (by omega)]
  have hs1 : 64 ≤ (64 : Int) + (k : Int) := by omega
  have hs2 : (64 : Int) + (k : Int) ≤ 1000 := by omega
  generalize (64 : Int) + (k : Int) = size at hs1 hs2 ⊢
  refine (roomNewT_ok hs1 (by omega)).mono fun r w1 ⟨⟨rb, hb, hr, o1, o2, hrb, hh⟩, x1⟩ => ?_
  subst hr
  refine V_ext0.2 (V_ext1.2 ?_)
  refine leakNew_ok.mono fun r w2 ⟨⟨hr, htb⟩, x2⟩ => ?_
  subst hr
  refine (known w2).mono fun r w3 ⟨hr, x3⟩ => ?_
  subst hr
  refine V_not.2 ?_
  simp only [V_neqI, ne_eq, not_true_eq_false, V_neqI, gd_f, pickD_iff, reduceIte, Bool.false_eq_true, Bool.not_true, decide_false]
  refine V.ok (r_eqPtr Tryd.underlying23) ?_
  simp only [gd_f, pickD_iff, reduceIte, Bool.false_eq_true]
  refine V.ok (r_eqPtr Tryd.underlying50) ?_
  simp only [ifD_false]
  refine refRoom_ok.mono fun r w4 ⟨⟨xb, yb, hr, o5, o6, hxb, hyb, hgb⟩, x4⟩ => ?_
  subst hr
  refine bld bd_57 [] rfl rfl ?_
  refine bxK fun w5 hub x5 => ?_
  have o3 : rb < w1.heap.size := hrb.lt
  have o4 : w1.heap.size < w3.heap.size := Nat.lt_of_lt_of_le htb.lt x3.size
  have o7 : xb < w4.heap.size := hxb.lt
  have X25 := x3.trans (x4.trans x5)
  have X15 := x2.trans X25
  have X5 := x1.trans X15
  have hrel : Rel noG (bt0 rb hb xb yb) stS0 w5 := rel0 (hrb.ext X15).seg (hxb.ext x5).seg (hh.heap.ext X15).seg (hyb.ext x5).seg (by omega) (by omega) (by omega) (by omega) (by omega) (by omega)
  refine ⟨fun x w' => ∃ (i : Nat) (β : Beta) (y : Go.Ab.St), x = i64 i ∧ i ≤ 2 ∧ preX i = some y ∧ Ev noG (bt0 rb hb xb yb) stS0 w5 β y w', fun x _ => 2 - (RowKit.intOf x).toNat, ⟨0, _, _, rfl, by omega, rfl, Ev.refl hrel⟩, ?_⟩
  rintro _ w6 ⟨i, β, y, rfl, hi2, hy, ev⟩ _
  refine V_lss.2 ?_
  by_cases hi : (i : Int) < 2
  · simp only [hi, ifD_true, decide_true]
    obtain ⟨zz, hz⟩ := preX_some (i + 1) (by omega)
    have hz' : (preX i).bind (rnd i) = some zz := hz
    rw [hy] at hz'
    obtain ⟨a, s1, r1, s2, b, s3, v, hA, hB, hC, hD⟩ := rnd_inv (show rnd i y = some zz from hz')
    have rp : RV β (pt 1) (pt rb) := RV.mono ev.le (RV.ptr (β := bt0 rb hb xb yb) (b := 1) (base := 0) rfl)
    have xp : RV β (pt 3) (pt xb) := RV.mono ev.le (RV.ptr (β := bt0 rb hb xb yb) (b := 3) (base := 0) rfl)
    refine (run1_ok (args' := [i64 i, .slice none 0 0]) hA ev.rel (RL.cons (.int _ _) (RL.cons .snil .nil))).mono fun av w7 ⟨β7, ev7, rv7⟩ => ?_
    refine (run1_ok (args' := [pt rb, av]) hB ev7.rel (RL.cons (rp.mono ev7.le) (RL.cons rv7 .nil))).mono fun _ w8 ⟨β8, ev8, _⟩ => ?_
    refine (run1_ok (args' := [i64 i, .slice none 0 0]) hC ev8.rel (RL.cons (.int _ _) (RL.cons .snil .nil))).mono fun bv w9 ⟨β9, ev9, rv9⟩ => ?_
    refine (run1_ok (args' := [pt xb, bv]) hD ev9.rel (RL.cons (((xp.mono ev7.le).mono ev8.le).mono ev9.le) (RL.cons rv9 .nil))).mono fun _ w10 ⟨β10, ev10, _⟩ => ?_
    refine V_add.2 ?_
    rw [wrap_id (by omega) (by omega), i64_succ']
    exact ⟨⟨i + 1, _, zz, rfl, by omega, hz, (((ev.trans ev7).trans ev8).trans ev9).trans ev10⟩, by simp only [intOf_i64']; omega⟩
  simp only [hi, ifD_false, decide_false]
  obtain rfl : i = 2 := by omega
  obtain ⟨d, e, iv, iv', sr, sx, hd, he, f, hge, hde⟩ := pre_two hy ev
  have hB6 := start_ok ⟨hs1, hs2⟩ (hh.ext X15) (htb.ext X25) (hyb.ext x5) (hgb.ext x5) hub o1 o2 o3 o4 o5 o6 o7 sr sx hd he f hge hde
  have X6 : Ext w w6 := f.ext X5 fun j hj => by omega
  have I6 : Inv w rb w1.heap.size xb w4.heap.size d e 0 w6 := ⟨_, _, _, hB6, rfl, rfl, rfl, rfl, rfl, Nat.le_refl _, X6⟩
  clear hB6 ev hy sr sx hd he f hge hde hrel
  refine ⟨fun x w' => ∃ i : Nat, x = i64 i ∧ i ≤ 50 ∧ Inv w rb w1.heap.size xb w4.heap.size d e (2 * i) w', fun x _ => 50 - (RowKit.intOf x).toNat, ⟨0, rfl, by omega, I6⟩, ?_⟩
  rintro _ w7 ⟨i, rfl, hi50, p, q, z, hB, hps, e1, e2, e3, e4, htr, X7⟩ _
  refine V_ln_22.2 (V_lss.2 ?_)
  have fin : endS (pt w1.heap.size) (pt w4.heap.size) w7 R := by
    rw [← e2, ← e4]
    exact end_ok hB hps (by omega) fun w' hx => hR _ (X7.trans hx)
  by_cases hiN : (i : Int) < (N : Int)
  case neg =>
    simp only [hiN, gd_ft, pickD_iff, ifD_false, reduceIte, Bool.false_eq_true, decide_false]
    exact fin
  by_cases hi5 : (i : Int) < 50
  case neg =>
    simp only [hiN, hi5, V_lss, gd_t, pickD_iff, ifD_false, reduceIte, decide_true, decide_false]
    exact fin
  simp only [hiN, hi5, V_lss, gd_t, pickD_iff, ifD_true, reduceIte, decide_true]
  obtain ⟨cs, hcs, hel⟩ := hlv (by omega)
  obtain ⟨z0, z1, z2, z3, c4, c5, c6, ys, l5, l6, hcells, ⟨h5, k5⟩, ⟨h6, k6⟩, hargs, hys⟩ := hel i (by omega)
  refine ldxA xa_22 la_42 (hcs.ext X7) (by omega) (by omega) (l := [i64 z0, i64 z1, i64 z2, i64 z3, c4, c5, c6]) (by simpa using hcells) rfl ?_
  refine asK (by first | exact sa_105 | exact sa_42 | exact sa_95) rfl (by show (true && (true && (true && (true && (oneC c4 && (oneC c5 && (oneC c6 && true))))))) = true; rw [hargs.one, h5.one, h6.one]; rfl) fun w8 hy8 x8 => ?_
  have hB8 := hB.ext x8
  have hyn : ¬ Any4 p q d e w7.heap.size := fun hm => by have := hB.any _ hm; omega
  have X8 := X7.trans x8
  have s8 := X8.size
  refine ldB hy8.boxed (by first | exact fa_105_0 | exact fa_105_1 | exact fa_105_2 | exact fa_105_3 | exact fa_105_4 | exact fa_116_0 | exact fa_116_1 | exact fa_120_0 | exact fa_120_1 | exact fa_42_0 | exact fa_42_1 | exact fa_42_2 | exact fa_42_3 | exact fa_42_4 | exact fa_42_5 | exact fa_42_6 | exact fa_57_0 | exact fa_63_0 | exact fa_63_2 | exact fa_63_3 | exact fa_63_4 | exact fa_80_0 | exact fa_80_2 | exact fa_80_3 | exact fa_80_4 | exact fa_91_0 | exact fa_95_0 | exact fa_95_1 | exact fa_95_2 | exact fa_95_3 | exact fa_95_4 | exact fa_95_5) (by first | exact l1_114 | exact l1_21 | exact l1_23 | exact l1_3 | exact l1_32 | exact l1_39 | exact l1_4 | exact l1_40 | exact l1_5 | exact l1_50 | exact l1_55 | exact l1_59 | exact l1_61 | exact l1_76) rfl ?_
  refine (pickS_ok (by omega) (by omega)).mono fun r w' ⟨⟨who, hr, hwho⟩, hw⟩ => ?_
  subst hr; have hw := hw.symm; subst hw
  refine ⟨fun w' => Inv w rb w1.heap.size xb w4.heap.size d e (2 * i + 2) w', ?_, ?_⟩
  · refine ldB hy8.boxed (by first | exact fa_105_0 | exact fa_105_1 | exact fa_105_2 | exact fa_105_3 | exact fa_105_4 | exact fa_116_0 | exact fa_116_1 | exact fa_120_0 | exact fa_120_1 | exact fa_42_0 | exact fa_42_1 | exact fa_42_2 | exact fa_42_3 | exact fa_42_4 | exact fa_42_5 | exact fa_42_6 | exact fa_57_0 | exact fa_63_0 | exact fa_63_2 | exact fa_63_3 | exact fa_63_4 | exact fa_80_0 | exact fa_80_2 | exact fa_80_3 | exact fa_80_4 | exact fa_91_0 | exact fa_95_0 | exact fa_95_1 | exact fa_95_2 | exact fa_95_3 | exact fa_95_4 | exact fa_95_5) (by first | exact l1_114 | exact l1_21 | exact l1_23 | exact l1_3 | exact l1_32 | exact l1_39 | exact l1_4 | exact l1_40 | exact l1_5 | exact l1_50 | exact l1_55 | exact l1_59 | exact l1_61 | exact l1_76) rfl ?_
    refine (pickS_ok (by omega) (by omega)).mono fun r w' ⟨⟨what, hr, hwhat⟩, hw⟩ => ?_
    subst hr; have hw := hw.symm; subst hw
    have hJ : Goes w.heap.size p q d e w8 fun w' => Inv w rb w1.heap.size xb w4.heap.size d e (2 * i + 2) w' := fun p' q' z' w' hB' a1 a2 a3 a4 a5 a6 f' =>
      ⟨p', q', z', hB', a1, a2.trans e1, a3.trans e2, a4.trans e3, a5.trans e4, by omega, f'.ext X8 fun j hj => hj⟩
    have hw2 : who < 2 := by omega
    refine V_eqlI.2 ?_
    by_cases h13 : (what : Int) = 13
    · simp only [h13, V_eqlI, ifD_true, decide_true]
      have := c13_ok (R := R) hB8 hps hy8 hyn hw2 hJ
      unfold rmT xbT at this
      rw [e1, e3] at this
      exact this
    simp only [h13, V_eqlI, ifD_false, decide_false]
    by_cases h14 : (what : Int) = 14
    · simp only [h14, ifD_true, decide_true]
      have := c14_ok (R := R) hB8 s8 hps hy8 hyn (h5.ext X8) (fun w' hf => h6.ext (hf.ext X8 fun j hj => hj)) k5 k6 hJ
      unfold rmT xbT at this
      rw [e1, e3] at this
      exact this
    simp only [h14, ifD_false, decide_false]
    have := cD_ok (R := R) hB8 s8 hps (by omega) hy8 hyn (hargs.ext X8) hys hw2 (k := what) (by omega) hJ
    unfold rmT tbT xbT ubT at this
    rw [e1, e2, e3, e4] at this
    exact this
  rintro w9 ⟨p', q', z', hB9, hps9, a1, a2, a3, a4, htr9, X9⟩ _
  have := alike_ok hB9 hps9
  unfold rmT tbT xbT ubT at this
  rw [a1, a2, a3, a4] at this
  refine this.mono fun r w10 ⟨hr, x10⟩ => ?_
  subst hr
  refine V_not.2 ?_
  simp only [ifD_false, Bool.not_true]
  refine V_add.2 ?_
  rw [wrap_id (by omega) (by omega), i64_succ']
  exact ⟨⟨i + 1, rfl, by omega, p', q', z', hB9.ext x10, hps9, a1, a2, a3, a4, by omega, X9.trans x10⟩, by simp only [intOf_i64']; omega⟩
end Go.Proofs.YtgjmpnngheohbaaDoor
