/- RoomServes: the document's room; what it reads. RoomServes: the document's room; what it turns. RoomServes: the document's Put, SetBuffer, Begin. -/
import Derived.Test.YtgjmpnngheohbaaDoorJd
namespace Go.Proofs.YtgjmpnngheohbaaDoor
open Go.Vc
/-- Where the document's room lies. -/
structure QP where
  (xb yb ub g cap : Nat) (size : Int) (ar : List Arr) (iv fv pub sec uv : Value) (tp ts : List Int) (tr : List Evt)
def QP.ps (q : QP) : PS := ⟨q.size, q.ar.map pa, q.tp, q.ts, q.tr⟩
/-- What it turns. -/
def RMu (q : QP) (i : Nat) : Prop := i = q.xb ∨ i = q.yb ∨ i = q.ub ∨ q.uv.ownBlock = some i
/-- What it only reads. -/
def RCo (q : QP) (i : Nat) : Prop := i = q.g ∨ (∃ a ∈ q.ar, a.dv.ownBlock = some i) ∨ q.pub.ownBlock = some i ∨ q.sec.ownBlock = some i
structure RefT (q : QP) (w : World) : Prop where
  xbox : Seg w q.xb 0 [.pointer (some ⟨q.yb, 0, none⟩), q.iv, q.fv, q.pub, q.sec]
  ybox : Blk w q.yb [i64 q.size, .slice (some ⟨q.g, 0, none⟩) q.ar.length q.cap] 116
  ubox : Blk w q.ub [q.uv] 57
  list : w.ownsRow 0 105 5 (.slice (some ⟨q.g, 0, none⟩) q.ar.length q.cap) q.ar.length (rowC q.ar)
  data : ∀ a ∈ q.ar, w.ownsRow 0 5 1 a.dv a.data.length (a.data.map u8)
  len : ∀ a ∈ q.ar, a.data.length ≤ 64
  qp : w.ownsRow 0 5 1 q.pub q.tp.length (q.tp.map u8)
  qs : w.ownsRow 0 5 1 q.sec q.ts.length (q.ts.map u8)
  lp : q.tp.length ≤ 128
  ls : q.ts.length ≤ 128
  trow : w.ownsRow 0 74 4 q.uv q.tr.length (trC q.tr)
  xy : q.xb ≠ q.yb
  xu : q.xb ≠ q.ub
  yu : q.yb ≠ q.ub
  une : ∀ i, q.uv.ownBlock = some i → i ≠ q.xb ∧ i ≠ q.yb ∧ i ≠ q.ub
  dj : ∀ i, RMu q i → ¬ RCo q i
  two : 2 ≤ q.ar.length
  cnt : q.ar.length ≤ 1000
  sz : 0 ≤ q.size ∧ q.size ≤ 1000
variable {q : QP} {w w' : World}
theorem RefT.hi (h : RefT q w) : ∀ i, RMu q i ∨ RCo q i → i < w.heap.size := by
  intro i hm
  rcases hm with (rfl | rfl | rfl | he) | rfl | ⟨a, ha, he⟩ | he | he
  · exact h.xbox.lt
  · exact h.ybox.lt
  · exact h.ubox.lt
  · exact (h.trow.lt _ he).2
  · exact (h.list.lt _ rfl).2
  · exact ((h.data a ha).lt _ he).2
  · exact (h.qp.lt _ he).2
  · exact (h.qs.lt _ he).2
theorem RefT.fr {S : Nat → Prop} (h : RefT q w) (f : Fr S w w') (hn : ∀ i, S i → ¬ RMu q i ∧ ¬ RCo q i) : RefT q w' :=
  ⟨f.seg h.xbox fun hs => (hn _ hs).1 (.inl rfl), f.blk h.ybox fun hs => (hn _ hs).1 (.inr (.inl rfl)), f.blk h.ubox fun hs => (hn _ hs).1 (.inr (.inr (.inl rfl))),
    f.own h.list fun i hi hs => (hn i hs).2 (.inl (by simpa [Value.ownBlock] using hi.symm)), fun a ha => f.own (h.data a ha) fun i hi hs => (hn i hs).2 (.inr (.inl ⟨a, ha, hi⟩)), h.len,
    f.own h.qp fun i hi hs => (hn i hs).2 (.inr (.inr (.inl hi))), f.own h.qs fun i hi hs => (hn i hs).2 (.inr (.inr (.inr hi))), h.lp, h.ls, f.own h.trow fun i hi hs => (hn i hs).1 (.inr (.inr (.inr hi))), h.xy, h.xu, h.yu, h.une, h.dj, h.two, h.cnt, h.sz⟩
theorem RefT.ext (h : RefT q w) (hx : Ext w w') : RefT q w' := h.fr (Fr.of_ext (S := fun _ => False) hx) fun _ hf => hf.elim
/-- From one state of the document's room to another. -/
structure StpQ (q q' : QP) (w w' : World) : Prop where
  xb : q'.xb = q.xb
  yb : q'.yb = q.yb
  ub : q'.ub = q.ub
  size : q'.size = q.size
  iv : q'.iv = q.iv
  fv : q'.fv = q.fv
  mu : ∀ i, RMu q' i ∨ RCo q' i → RMu q i ∨ RCo q i ∨ w.heap.size ≤ i
  mm : ∀ i, RMu q' i → RMu q i ∨ w.heap.size ≤ i
  fr : Fr (RMu q) w w'
theorem StpQ.of_ext (hx : Ext w w') : StpQ q q w w' := ⟨rfl, rfl, rfl, rfl, rfl, rfl, fun i hi => hi.elim .inl fun h => .inr (.inl h), fun i hi => .inl hi, Fr.of_ext hx⟩
theorem StpQ.trans {q1 q2 : QP} {w1 w2 : World} (h : StpQ q q1 w w1) (k : StpQ q1 q2 w1 w2) : StpQ q q2 w w2 :=
  ⟨k.xb.trans h.xb, k.yb.trans h.yb, k.ub.trans h.ub, k.size.trans h.size, k.iv.trans h.iv, k.fv.trans h.fv, fun i hi => by
    rcases k.mu i hi with h1 | h1 | h1
    · exact h.mu i (.inl h1)
    · exact h.mu i (.inr h1)
    · exact .inr (.inr (Nat.le_trans h.fr.size h1)), fun i hi => by
    rcases k.mm i hi with h1 | h1
    · exact h.mm i h1
    · exact .inr (Nat.le_trans h.fr.size h1), h.fr.trans k.fr fun i hi hs => by
    rcases h.mm i hs with h1 | h1
    · exact h1
    · omega⟩
def ybT (q : QP) : Value := .pointer (some ⟨q.yb, 0, none⟩)
def xbT (q : QP) : Value := .pointer (some ⟨q.xb, 0, none⟩)
def ubT (q : QP) : Value := .pointer (some ⟨q.ub, 0, none⟩)
theorem RefT.get (h : RefT q w) {k : Nat} {a : Arr} (hk : q.ar[k]? = some a) {j : Nat} (hj : j < 5) : w.cell? ⟨q.g, k * 5 + j, none⟩ = a.cells[j]? := by
  obtain ⟨u, hu⟩ := ex_get (l := a.cells) (j := j) (by simp [Arr.cells]; omega)
  have := h.list.cells (g := q.g) rfl (k * 5 + j) u (by rw [rowC_get hk hj]; exact hu)
  rw [add_mk] at this
  rw [hu]
  simpa using this
theorem RefT.one (h : RefT q w) {k : Nat} {a : Arr} (hk : q.ar[k]? = some a) : oneC a.dv = true := own_one (h.data a (List.mem_of_getElem? hk))
set_option maxHeartbeats 1600000 in
theorem atR_ok (h : RefT q w) {k : Nat} {x : Arr} (hk : q.ar[k]? = some x) {r : Int} (hr : r = (k : Int) + 1) :
    callD Tryd.prog 48 #[ybT q, i64 r] w fun v w' => v = .tuple #[.agg x.cells.toArray, .bool true] ∧ Ext w w' := by
  have hkl : k < q.ar.length := (List.getElem?_eq_some_iff.1 hk).1
  have hc := h.cnt
  apply F48_wp
  unfold F48_den
  refine alK inf105 fun w1 hz x1 => ?_
  refine V_lss.2 ?_
  simp only [show ¬ r < 1 by omega, gd_f, pickD_iff, reduceIte, Bool.false_eq_true, decide_false]
  refine ⟨.inl ⟨_, rfl⟩, ?_⟩
  refine ldB (h.ybox.ext x1).boxed (by first | exact fa_105_0 | exact fa_105_1 | exact fa_105_2 | exact fa_105_3 | exact fa_105_4 | exact fa_116_0 | exact fa_116_1 | exact fa_120_0 | exact fa_120_1 | exact fa_42_0 | exact fa_42_1 | exact fa_42_2 | exact fa_42_3 | exact fa_42_4 | exact fa_42_5 | exact fa_42_6 | exact fa_57_0 | exact fa_63_0 | exact fa_63_2 | exact fa_63_3 | exact fa_63_4 | exact fa_80_0 | exact fa_80_2 | exact fa_80_3 | exact fa_80_4 | exact fa_91_0 | exact fa_95_0 | exact fa_95_1 | exact fa_95_2 | exact fa_95_3 | exact fa_95_4 | exact fa_95_5) (by first | exact l1_114 | exact l1_21 | exact l1_23 | exact l1_3 | exact l1_32 | exact l1_39 | exact l1_4 | exact l1_40 | exact l1_5 | exact l1_50 | exact l1_55 | exact l1_59 | exact l1_61 | exact l1_76) rfl (V_ln_114.2 ?_)
  simp only [show ¬ r > ((q.ar.length : Nat) : Int) by omega, V_gtr, ifD_false, decide_false]
  refine ⟨.inl ⟨_, rfl⟩, ?_⟩
  refine ldB (h.ybox.ext x1).boxed (by first | exact fa_105_0 | exact fa_105_1 | exact fa_105_2 | exact fa_105_3 | exact fa_105_4 | exact fa_116_0 | exact fa_116_1 | exact fa_120_0 | exact fa_120_1 | exact fa_42_0 | exact fa_42_1 | exact fa_42_2 | exact fa_42_3 | exact fa_42_4 | exact fa_42_5 | exact fa_42_6 | exact fa_57_0 | exact fa_63_0 | exact fa_63_2 | exact fa_63_3 | exact fa_63_4 | exact fa_80_0 | exact fa_80_2 | exact fa_80_3 | exact fa_80_4 | exact fa_91_0 | exact fa_95_0 | exact fa_95_1 | exact fa_95_2 | exact fa_95_3 | exact fa_95_4 | exact fa_95_5) (by first | exact l1_114 | exact l1_21 | exact l1_23 | exact l1_3 | exact l1_32 | exact l1_39 | exact l1_4 | exact l1_40 | exact l1_5 | exact l1_50 | exact l1_55 | exact l1_59 | exact l1_61 | exact l1_76) rfl (V_sub.2 ?_)
  rw [show IntKind.i64.wrap (r - 1) = (k : Int) from by rw [wrap_id (by omega) (by omega)]; omega]
  refine V.ok (r_ix_114 (by omega) (by omega)) ?_
  have e : 0 + ((k : Nat) : Int).toNat * 5 = k * 5 := by omega
  rw [e]
  refine V.ok (r_la_105 (cs := x.cells) rfl fun j hj => (h.ext x1).get hk hj) ?_
  refine stA inf105 hz (l := x.cells) rfl rfl rfl (cells_one (h.one hk)) fun w6 h6 hch => ?_
  exact ⟨_, r_var Tryd.underlying105 rfl inf105 h6 rfl, ⟨_, rfl⟩, rfl, hch.ext w x1 (Nat.le_refl _)⟩
theorem atRN_ok (h : RefT q w) {r : Int} (hr : ¬ (1 ≤ r ∧ r ≤ q.ar.length)) :
    callD Tryd.prog 48 #[ybT q, i64 r] w fun v w' => v = .tuple #[.agg arr0.cells.toArray, .bool false] ∧ Ext w w' := by
  apply F48_wp
  have key : ∀ {R : Value → World → Prop}, (∀ w', Ext w w' → R (.tuple #[.agg arr0.cells.toArray, .bool false]) w') → F48_den (ybT q) (i64 r) w R := by
    intro R hR
    unfold F48_den
    refine alK inf105 fun w1 hz x1 => ?_
    have fin : V Tryd.prog (Instr.build 105 #[]) w1 fun t17 w11 => U Tryd.prog (Instr.storeAt 105 (.pointer (some ⟨w.heap.size, 0, none⟩)) t17) w11 fun _ w12 =>
        ∃ r1, (loadVar 105 (match (Value.pointer (some ⟨w.heap.size, 0, none⟩)) with | .pointer (some p) => p | _ => ⟨0, 0, none⟩)).run Tryd.prog w12 = .ok r1 w12 ∧ (∃ p, (Value.pointer (some ⟨w.heap.size, 0, none⟩)) = Value.pointer (some p)) ∧ R (.tuple #[r1, (Value.bool false)]) w12 := by
      refine bld bd_105 [] rfl rfl ?_
      refine stA inf105 hz (l := arr0.cells) rfl rfl rfl rfl fun w6 h6 hch => ?_
      exact ⟨_, r_var Tryd.underlying105 rfl inf105 h6 rfl, ⟨_, rfl⟩, hR _ (hch.ext w x1 (Nat.le_refl _))⟩
    refine V_lss.2 ?_
    by_cases h1 : r < 1
    · simp only [h1, gd_tf, pickD_iff, ifD_true, reduceIte, decide_true]
      exact fin
    simp only [h1, gd_f, pickD_iff, reduceIte, Bool.false_eq_true, decide_false]
    refine ⟨.inl ⟨_, rfl⟩, ?_⟩
    refine ldB (h.ybox.ext x1).boxed (by first | exact fa_105_0 | exact fa_105_1 | exact fa_105_2 | exact fa_105_3 | exact fa_105_4 | exact fa_116_0 | exact fa_116_1 | exact fa_120_0 | exact fa_120_1 | exact fa_42_0 | exact fa_42_1 | exact fa_42_2 | exact fa_42_3 | exact fa_42_4 | exact fa_42_5 | exact fa_42_6 | exact fa_57_0 | exact fa_63_0 | exact fa_63_2 | exact fa_63_3 | exact fa_63_4 | exact fa_80_0 | exact fa_80_2 | exact fa_80_3 | exact fa_80_4 | exact fa_91_0 | exact fa_95_0 | exact fa_95_1 | exact fa_95_2 | exact fa_95_3 | exact fa_95_4 | exact fa_95_5) (by first | exact l1_114 | exact l1_21 | exact l1_23 | exact l1_3 | exact l1_32 | exact l1_39 | exact l1_4 | exact l1_40 | exact l1_5 | exact l1_50 | exact l1_55 | exact l1_59 | exact l1_61 | exact l1_76) rfl (V_ln_114.2 ?_)
    simp only [show r > ((q.ar.length : Nat) : Int) by omega, V_gtr, ifD_true, decide_true]
    exact fin
  exact key fun w' hx => ⟨rfl, hx⟩
theorem mayR_ok {a : Arr} {who : Int} : callD Tryd.prog 79 #[.agg a.cells.toArray, i64 who] w fun r w' => r = .bool (mayA a who) ∧ Ext w w' := by
  apply F79_wp
  unfold F79_den
  refine bx fun b w1 hb x1 => ?_
  refine ldB hb (by first | exact fa_105_0 | exact fa_105_1 | exact fa_105_2 | exact fa_105_3 | exact fa_105_4 | exact fa_116_0 | exact fa_116_1 | exact fa_120_0 | exact fa_120_1 | exact fa_42_0 | exact fa_42_1 | exact fa_42_2 | exact fa_42_3 | exact fa_42_4 | exact fa_42_5 | exact fa_42_6 | exact fa_57_0 | exact fa_63_0 | exact fa_63_2 | exact fa_63_3 | exact fa_63_4 | exact fa_80_0 | exact fa_80_2 | exact fa_80_3 | exact fa_80_4 | exact fa_91_0 | exact fa_95_0 | exact fa_95_1 | exact fa_95_2 | exact fa_95_3 | exact fa_95_4 | exact fa_95_5) (by first | exact l1_114 | exact l1_21 | exact l1_23 | exact l1_3 | exact l1_32 | exact l1_39 | exact l1_4 | exact l1_40 | exact l1_5 | exact l1_50 | exact l1_55 | exact l1_59 | exact l1_61 | exact l1_76) rfl (V_eqlI.2 ?_)
  by_cases h1 : a.owner = -1
  · simp only [h1, gd_tf, pickD_iff, reduceIte, decide_true]
    exact ⟨by simp [mayA, h1], x1⟩
  simp only [h1, gd_f, pickD_iff, reduceIte, Bool.false_eq_true, decide_false]
  refine ldB hb (by first | exact fa_105_0 | exact fa_105_1 | exact fa_105_2 | exact fa_105_3 | exact fa_105_4 | exact fa_116_0 | exact fa_116_1 | exact fa_120_0 | exact fa_120_1 | exact fa_42_0 | exact fa_42_1 | exact fa_42_2 | exact fa_42_3 | exact fa_42_4 | exact fa_42_5 | exact fa_42_6 | exact fa_57_0 | exact fa_63_0 | exact fa_63_2 | exact fa_63_3 | exact fa_63_4 | exact fa_80_0 | exact fa_80_2 | exact fa_80_3 | exact fa_80_4 | exact fa_91_0 | exact fa_95_0 | exact fa_95_1 | exact fa_95_2 | exact fa_95_3 | exact fa_95_4 | exact fa_95_5) (by first | exact l1_114 | exact l1_21 | exact l1_23 | exact l1_3 | exact l1_32 | exact l1_39 | exact l1_4 | exact l1_40 | exact l1_5 | exact l1_50 | exact l1_55 | exact l1_59 | exact l1_61 | exact l1_76) rfl (V_eqlI.2 ?_)
  by_cases h2 : a.owner = who
  · simp only [h2, gd_tf, pickD_iff, reduceIte, decide_true]
    exact ⟨by simp [mayA, h2], x1⟩
  simp only [h2, gd_f, pickD_iff, reduceIte, Bool.false_eq_true, decide_false]
  refine ldB hb (by first | exact fa_105_0 | exact fa_105_1 | exact fa_105_2 | exact fa_105_3 | exact fa_105_4 | exact fa_116_0 | exact fa_116_1 | exact fa_120_0 | exact fa_120_1 | exact fa_42_0 | exact fa_42_1 | exact fa_42_2 | exact fa_42_3 | exact fa_42_4 | exact fa_42_5 | exact fa_42_6 | exact fa_57_0 | exact fa_63_0 | exact fa_63_2 | exact fa_63_3 | exact fa_63_4 | exact fa_80_0 | exact fa_80_2 | exact fa_80_3 | exact fa_80_4 | exact fa_91_0 | exact fa_95_0 | exact fa_95_1 | exact fa_95_2 | exact fa_95_3 | exact fa_95_4 | exact fa_95_5) (by first | exact l1_114 | exact l1_21 | exact l1_23 | exact l1_3 | exact l1_32 | exact l1_39 | exact l1_4 | exact l1_40 | exact l1_5 | exact l1_50 | exact l1_55 | exact l1_59 | exact l1_61 | exact l1_76) rfl ?_
  exact ⟨by simp [mayA, h1, h2], x1⟩
theorem checkR_ok (h : RefT q w) {r who : Int} :
    callD Tryd.prog 47 #[ybT q, i64 r, i64 who] w fun v w' => v = i64 (chk q.ar r who) ∧ Ext w w' := by
  apply F47_wp
  unfold F47_den
  by_cases h1 : 1 ≤ r ∧ r ≤ q.ar.length
  · obtain ⟨k, a, hk, hr⟩ := ref_in h1
    refine (atR_ok h hk hr).mono fun v w1 ⟨hv, x1⟩ => ?_
    subst hv
    refine V_ext0.2 (V_ext1.2 ?_)
    refine asK (by first | exact sa_105 | exact sa_42 | exact sa_95) rfl (cells_one (h.one hk)) fun w2 hc x2 => ?_
    refine V_not.2 (ifD_false.2 ?_)
    refine ldA hc.boxed la_105 rfl ?_
    refine mayR_ok.mono fun v w3 ⟨hv, x3⟩ => ?_
    subst hv
    have X := (x1.trans x2).trans x3
    rw [chk_in hk hr]
    refine V_not.2 (ifD.mk (fun hn => ⟨?_, X⟩) fun hn => ⟨?_, X⟩)
    · have : mayA a who = false := by simpa using hn
      rw [if_neg (by rw [this]; simp)]
    · have : mayA a who = true := by simpa using hn
      rw [if_pos this]
  · refine (atRN_ok h h1).mono fun v w1 ⟨hv, x1⟩ => ?_
    subst hv
    refine V_ext0.2 (V_ext1.2 ?_)
    refine asK (by first | exact sa_105 | exact sa_42 | exact sa_95) rfl rfl fun w2 hc x2 => ?_
    refine V_not.2 (ifD_true.2 ⟨?_, x1.trans x2⟩)
    unfold chk
    rw [if_neg h1]
theorem rangeR_ok (h : RefT q w) {r a n who : Int} :
    callD Tryd.prog 49 #[ybT q, i64 r, i64 a, i64 n, i64 who] w fun v w' => v = i64 (rngP (q.ar.map pa) r a n who) ∧ Ext w w' := by
  rw [← rng_pa]
  apply F49_wp
  unfold F49_den
  refine (checkR_ok h).mono fun v w1 ⟨hv, x1⟩ => ?_
  subst hv
  refine V_neqI.2 (ifD_dec (fun hne => ?_) fun hfine => ?_)
  · refine ⟨?_, x1⟩
    unfold rng
    rw [if_neg hne]
  have hfine' : chk q.ar r who = 36864 := by omega
  obtain ⟨k, x, hk, hr, hm⟩ := chk_fine hfine'
  have hxl := h.len x (List.mem_of_getElem? hk)
  have er : rng q.ar r a n who = if a < 0 ∨ n < 0 ∨ a > x.data.length ∨ n > x.data.length - a then 28418 else 36864 := by
    unfold rng
    rw [if_pos hfine', show r.toNat - 1 = k by omega, hk]
  rw [er]
  refine (atR_ok (h.ext x1) hk hr).mono fun v w2 ⟨hv, x2⟩ => ?_
  subst hv
  refine V_ext0.2 (V_ext1.2 ?_)
  refine asK (by first | exact sa_105 | exact sa_42 | exact sa_95) rfl (cells_one (h.one hk)) fun w3 hc x3 => ?_
  have X := (x1.trans x2).trans x3
  have hs := SliceIs.of_own (X.own (h.data x (List.mem_of_getElem? hk)))
  refine V_lss.2 ?_
  by_cases h1 : a < 0
  · simp only [h1, gd_tf, pickD_iff, ifD_true, reduceIte, decide_true]
    exact ⟨by rw [if_pos (.inl trivial)], X⟩
  simp only [h1, V_lss, gd_f, pickD_iff, reduceIte, Bool.false_eq_true, decide_false]
  by_cases h2 : n < 0
  · simp only [h2, gd_tf, pickD_iff, ifD_true, reduceIte, decide_true]
    exact ⟨by rw [if_pos (.inr (.inl trivial))], X⟩
  simp only [h2, gd_f, reduceIte, Bool.false_eq_true, decide_false]
  refine ldB hc.boxed (by first | exact fa_105_0 | exact fa_105_1 | exact fa_105_2 | exact fa_105_3 | exact fa_105_4 | exact fa_116_0 | exact fa_116_1 | exact fa_120_0 | exact fa_120_1 | exact fa_42_0 | exact fa_42_1 | exact fa_42_2 | exact fa_42_3 | exact fa_42_4 | exact fa_42_5 | exact fa_42_6 | exact fa_57_0 | exact fa_63_0 | exact fa_63_2 | exact fa_63_3 | exact fa_63_4 | exact fa_80_0 | exact fa_80_2 | exact fa_80_3 | exact fa_80_4 | exact fa_91_0 | exact fa_95_0 | exact fa_95_1 | exact fa_95_2 | exact fa_95_3 | exact fa_95_4 | exact fa_95_5) (by first | exact l1_114 | exact l1_21 | exact l1_23 | exact l1_3 | exact l1_32 | exact l1_39 | exact l1_4 | exact l1_40 | exact l1_5 | exact l1_50 | exact l1_55 | exact l1_59 | exact l1_61 | exact l1_76) rfl ?_
  refine lnx (by first | exact xa_114 | exact xa_22 | exact xa_32 | exact xa_39 | exact xa_40 | exact xa_55 | exact xa_61) hs (V_gtr.2 ?_)
  by_cases h3 : a > ((x.data.length : Nat) : Int)
  · simp only [h3, gd_tf, pickD_iff, ifD_true, reduceIte, decide_true]
    exact ⟨by rw [if_pos (.inr (.inr (.inl trivial)))], X⟩
  simp only [h3, gd_f, pickD_iff, reduceIte, Bool.false_eq_true, decide_false]
  refine ldB hc.boxed (by first | exact fa_105_0 | exact fa_105_1 | exact fa_105_2 | exact fa_105_3 | exact fa_105_4 | exact fa_116_0 | exact fa_116_1 | exact fa_120_0 | exact fa_120_1 | exact fa_42_0 | exact fa_42_1 | exact fa_42_2 | exact fa_42_3 | exact fa_42_4 | exact fa_42_5 | exact fa_42_6 | exact fa_57_0 | exact fa_63_0 | exact fa_63_2 | exact fa_63_3 | exact fa_63_4 | exact fa_80_0 | exact fa_80_2 | exact fa_80_3 | exact fa_80_4 | exact fa_91_0 | exact fa_95_0 | exact fa_95_1 | exact fa_95_2 | exact fa_95_3 | exact fa_95_4 | exact fa_95_5) (by first | exact l1_114 | exact l1_21 | exact l1_23 | exact l1_3 | exact l1_32 | exact l1_39 | exact l1_4 | exact l1_40 | exact l1_5 | exact l1_50 | exact l1_55 | exact l1_59 | exact l1_61 | exact l1_76) rfl (lnx (by first | exact xa_114 | exact xa_22 | exact xa_32 | exact xa_39 | exact xa_40 | exact xa_55 | exact xa_61) hs (V_sub.2 ?_))
  rw [wrap_id (by omega) (by omega)]
  by_cases h4 : n > ((x.data.length : Nat) : Int) - a
  · simp only [h4, V_gtr, ifD_true, decide_true]
    exact ⟨by simp, X⟩
  simp only [h4, V_gtr, ifD_false, decide_false]
  exact ⟨by simp, X⟩
set_option maxHeartbeats 1600000 in
theorem usedR_ok (h : RefT q w) : callD Tryd.prog 78 #[ybT q] w fun v w' => (v = i64 ((usedP (q.ar.map pa) : Nat) : Int) ∧ usedP (q.ar.map pa) ≤ 72 * (q.ar.length - 2)) ∧ w' = w := by
  apply F78_wp
  unfold F78_den
  have hc := h.cnt
  have h2 := h.two
  refine ⟨fun v v' w' => ∃ z i : Nat, v = i64 (z : Int) ∧ v' = i64 ((i + 2 : Nat) : Int) ∧ i ≤ q.ar.length - 2 ∧ z ≤ 72 * i ∧ z = useN (q.ar.map pa) i ∧ w' = w, fun _ v _ => q.ar.length - (RowKit.intOf v).toNat, ⟨0, 0, rfl, rfl, Nat.zero_le _, Nat.le_refl _, rfl, rfl⟩, ?_⟩
  rintro _ _ w1 ⟨z, i, rfl, rfl, hi, hz2, hz, hw⟩ _
  have hw := hw.symm; subst hw
  refine ⟨.inl ⟨_, rfl⟩, ?_⟩
  refine ldB h.ybox.boxed (by first | exact fa_105_0 | exact fa_105_1 | exact fa_105_2 | exact fa_105_3 | exact fa_105_4 | exact fa_116_0 | exact fa_116_1 | exact fa_120_0 | exact fa_120_1 | exact fa_42_0 | exact fa_42_1 | exact fa_42_2 | exact fa_42_3 | exact fa_42_4 | exact fa_42_5 | exact fa_42_6 | exact fa_57_0 | exact fa_63_0 | exact fa_63_2 | exact fa_63_3 | exact fa_63_4 | exact fa_80_0 | exact fa_80_2 | exact fa_80_3 | exact fa_80_4 | exact fa_91_0 | exact fa_95_0 | exact fa_95_1 | exact fa_95_2 | exact fa_95_3 | exact fa_95_4 | exact fa_95_5) (by first | exact l1_114 | exact l1_21 | exact l1_23 | exact l1_3 | exact l1_32 | exact l1_39 | exact l1_4 | exact l1_40 | exact l1_5 | exact l1_50 | exact l1_55 | exact l1_59 | exact l1_61 | exact l1_76) rfl (V_ln_114.2 ?_)
  refine V_lss.2 (ifD_dec (fun hlt => ?_) fun hge => ?_)
  · obtain ⟨a, ha⟩ := ex_get (l := q.ar) (j := i + 2) (by omega)
    have hal := h.len a (List.mem_of_getElem? ha)
    have ho := h.data a (List.mem_of_getElem? ha)
    refine V_add.2 ?_
    rw [wrap_id (by omega) (by omega)]
    refine ⟨.inl ⟨_, rfl⟩, ?_⟩
    refine ldB h.ybox.boxed (by first | exact fa_105_0 | exact fa_105_1 | exact fa_105_2 | exact fa_105_3 | exact fa_105_4 | exact fa_116_0 | exact fa_116_1 | exact fa_120_0 | exact fa_120_1 | exact fa_42_0 | exact fa_42_1 | exact fa_42_2 | exact fa_42_3 | exact fa_42_4 | exact fa_42_5 | exact fa_42_6 | exact fa_57_0 | exact fa_63_0 | exact fa_63_2 | exact fa_63_3 | exact fa_63_4 | exact fa_80_0 | exact fa_80_2 | exact fa_80_3 | exact fa_80_4 | exact fa_91_0 | exact fa_95_0 | exact fa_95_1 | exact fa_95_2 | exact fa_95_3 | exact fa_95_4 | exact fa_95_5) (by first | exact l1_114 | exact l1_21 | exact l1_23 | exact l1_3 | exact l1_32 | exact l1_39 | exact l1_4 | exact l1_40 | exact l1_5 | exact l1_50 | exact l1_55 | exact l1_59 | exact l1_61 | exact l1_76) rfl ?_
    refine V.ok (r_ix_114 (by omega) (by omega)) ?_
    have e : 0 + ((i + 2 : Nat) : Int).toNat * 5 = (i + 2) * 5 := by omega
    rw [e]
    refine V.ok r_fd_105_4 ?_
    refine V.ok (r_ld_40 (h.get ha (by omega : 4 < 5))) ?_
    refine lnx (by first | exact xa_114 | exact xa_22 | exact xa_32 | exact xa_39 | exact xa_40 | exact xa_55 | exact xa_61) (SliceIs.of_own ho) ?_
    refine V_add.2 ?_
    rw [wrap_id (by omega) (by omega)]
    refine V_add.2 ?_
    rw [wrap_id (by omega) (by omega)]
    exact ⟨⟨z + (8 + a.data.length), i + 1, by congr 1; omega, by congr 1, by omega, by omega, by rw [useN_succ ha, hz], rfl⟩, by simp only [RowKit.intOf]; omega⟩
  · have e : i = q.ar.length - 2 := by omega
    have e2 : usedP (q.ar.map pa) = z := by unfold usedP; rw [List.length_map, ← e, hz]
    rw [e2]
    exact ⟨⟨rfl, by omega⟩, rfl⟩
/-- An event is added. -/
theorem taddR_ok (h : RefT q w) (hl : q.tr.length ≤ 100000) {e : Evt} : callD Tryd.prog 44 #[ubT q, .agg e.cells.toArray] w fun _ w' =>
    ∃ uv', RefT { q with uv := uv', tr := q.tr ++ [e] } w' ∧ StpQ q { q with uv := uv', tr := q.tr ++ [e] } w w' := by
  apply F44_wp
  unfold F44_den
  refine bxK fun w0 hb0 x0 => ?_
  have h0 := h.ext x0
  refine V.ok (r_neqPtrS Tryd.underlying54) ?_
  simp only [gd_t]
  refine ⟨.inl ⟨_, rfl⟩, ?_⟩
  refine ldB h0.ubox.boxed (by first | exact fa_105_0 | exact fa_105_1 | exact fa_105_2 | exact fa_105_3 | exact fa_105_4 | exact fa_116_0 | exact fa_116_1 | exact fa_120_0 | exact fa_120_1 | exact fa_42_0 | exact fa_42_1 | exact fa_42_2 | exact fa_42_3 | exact fa_42_4 | exact fa_42_5 | exact fa_42_6 | exact fa_57_0 | exact fa_63_0 | exact fa_63_2 | exact fa_63_3 | exact fa_63_4 | exact fa_80_0 | exact fa_80_2 | exact fa_80_3 | exact fa_80_4 | exact fa_91_0 | exact fa_95_0 | exact fa_95_1 | exact fa_95_2 | exact fa_95_3 | exact fa_95_4 | exact fa_95_5) (by first | exact l1_114 | exact l1_21 | exact l1_23 | exact l1_3 | exact l1_32 | exact l1_39 | exact l1_4 | exact l1_40 | exact l1_5 | exact l1_50 | exact l1_55 | exact l1_59 | exact l1_61 | exact l1_76) rfl (lnx xa_55 (SliceIs.of_own h0.trow) (V_lss.2 ?_))
  simp only [show ((q.tr.length : Nat) : Int) < 200000 by omega, decide_true, pickD_iff, reduceIte]
  refine ifD_true.2 ?_
  have D : Ext w0 w0.drew := (Ext.refl _).drew
  have s0 := x0.size
  have hub : ∀ i, q.uv.ownBlock = some i → i < w.heap.size := fun i hi => h.hi i (.inl (.inr (.inr (.inr hi))))
  have hnb : ¬ q.uv.ownBlock = some w.heap.size := fun he => by have := hub _ he; omega
  have hnu : ¬ q.uv.ownBlock = some q.ub := fun he => (h.une _ he).2.2 rfl
  refine drawD.mk' (fun w' => Fr (fun i => q.uv.ownBlock = some i) w0 w') (Fr.of_ext D) ⟨.inl ⟨_, rfl⟩, ?_⟩
  refine yfB (fun w' hw => (hw.blk h0.ubox hnu).boxed) (by first | exact fa_105_0 | exact fa_105_1 | exact fa_105_2 | exact fa_105_3 | exact fa_105_4 | exact fa_116_0 | exact fa_116_1 | exact fa_120_0 | exact fa_120_1 | exact fa_42_0 | exact fa_42_1 | exact fa_42_2 | exact fa_42_3 | exact fa_42_4 | exact fa_42_5 | exact fa_42_6 | exact fa_57_0 | exact fa_63_0 | exact fa_63_2 | exact fa_63_3 | exact fa_63_4 | exact fa_80_0 | exact fa_80_2 | exact fa_80_3 | exact fa_80_4 | exact fa_91_0 | exact fa_95_0 | exact fa_95_1 | exact fa_95_2 | exact fa_95_3 | exact fa_95_4 | exact fa_95_5) (by first | exact l1_114 | exact l1_21 | exact l1_23 | exact l1_3 | exact l1_32 | exact l1_39 | exact l1_4 | exact l1_40 | exact l1_5 | exact l1_50 | exact l1_55 | exact l1_59 | exact l1_61 | exact l1_76) rfl ?_
  refine yA (fun w' hw => (hw.blk hb0 hnb).boxed) la_74 rfl ?_
  refine V.ok (v := .slice (some ⟨w0.drew.heap.size, 0, none⟩) 1 1) (w' := w0.drew.alloc (.cells e.cells.toArray 74)) (by kernel_rfl) ?_
  have hb1 : Blk (w0.drew.alloc (.cells e.cells.toArray 74)) w0.drew.heap.size e.cells 74 := by unfold Blk; rw [heap_alloc_new]
  have x1 : Ext w0.drew (w0.drew.alloc (.cells e.cells.toArray 74)) := (Ext.refl _).alloc _
  have d0 := D.size
  have hdz : w0.drew.heap.size = w0.heap.size := rfl
  generalize w0.drew.alloc (.cells e.cells.toArray 74) = w1 at hb1 x1 ⊢
  have X1 := D.trans x1
  have s1 := X1.size
  refine ⟨Fr.of_ext X1, ?_⟩
  have ho1 : w1.ownsRow 0 74 4 (.slice (some ⟨w0.drew.heap.size, 0, none⟩) 1 1) 1 e.cells := own_blk hb1 rfl (Nat.zero_le _) (by unfold maxLen; omega)
  have h1 := h0.ext X1
  refine apZ Tryd.underlying55 inf74 rfl (by omega) h1.trow ho1 (by omega) (by rfl) (by omega) (by unfold maxLen; omega) (by omega) fun g' cap' w2 ho2 hg2 hlies => ?_
  have f2 : Fr (fun i => q.uv.ownBlock = some i) w1 w2 := Fr.of_grown hg2 fun k hk => hk
  have f02 : Fr (fun i => q.uv.ownBlock = some i) w0 w2 := (Fr.of_ext (S := fun i => q.uv.ownBlock = some i) X1).trans f2 fun _ _ h => h
  refine ⟨f02, .inl ⟨_, rfl⟩, ?_⟩
  refine yieldS.ok (fun w' _ => r_fd_57_0) ?_
  have hb2 := f02.blk h0.ubox hnu
  have hul := h.ubox.lt
  refine stFU inf55 hb2 rfl (by simp) rfl ?_
  have f3 : Fr (fun i => i = q.ub) w2 (w2.setCell ⟨q.ub, 0, none⟩ (.slice (some ⟨g', 0, none⟩) (q.tr.length + 1) cap')) := Fr.of_set rfl
  have hb3 := hb2.set 0 (.slice (some ⟨g', 0, none⟩) (q.tr.length + 1) cap')
  have hlie : q.uv.ownBlock = some g' ∨ w.heap.size ≤ g' := by
    rcases hlies with hl | hl
    · exact .inl hl
    · exact .inr (by omega)
  have hgu : ¬ g' = q.ub := fun he => by
    rcases hlie with hl | hl
    · exact hnu (he ▸ hl)
    · omega
  have ho3 := f3.own ho2 fun k hk => by
    have : g' = k := by simpa [Value.ownBlock] using hk
    omega
  generalize w2.setCell ⟨q.ub, 0, none⟩ (.slice (some ⟨g', 0, none⟩) (q.tr.length + 1) cap') = w3 at f3 hb3 ho3 ⊢
  have F : Fr (fun i => i = q.ub ∨ q.uv.ownBlock = some i) w w3 := ((Fr.of_ext (S := fun i => q.uv.ownBlock = some i) x0).trans f02 fun _ _ h => h).or f3 |>.mono fun i hi => hi.symm
  have hM : ∀ i, (i = q.ub ∨ q.uv.ownBlock = some i) → RMu q i := fun i hi => hi.elim (fun h => .inr (.inr (.inl h))) fun h => .inr (.inr (.inr h))
  have hC : ∀ i, (i = q.ub ∨ q.uv.ownBlock = some i) → ¬ RCo q i := fun i hi => h.dj i (hM i hi)
  have hx : ¬ (q.xb = q.ub ∨ q.uv.ownBlock = some q.xb) := fun hi => hi.elim h.xu fun e => (h.une _ e).1 rfl
  have hy : ¬ (q.yb = q.ub ∨ q.uv.ownBlock = some q.yb) := fun hi => hi.elim h.yu fun e => (h.une _ e).2.1 rfl
  have hxl := h.xbox.lt
  have hyl := h.ybox.lt
  have mm : ∀ i, RMu { q with uv := .slice (some ⟨g', 0, none⟩) (q.tr.length + 1) cap', tr := q.tr ++ [e] } i → RMu q i ∨ w.heap.size ≤ i := fun i hi => by
    rcases hi with hi | hi | hi | hi
    · exact .inl (.inl hi)
    · exact .inl (.inr (.inl hi))
    · exact .inl (.inr (.inr (.inl hi)))
    · have : g' = i := by simpa [Value.ownBlock] using hi
      subst this
      exact hlie.imp (fun h => .inr (.inr (.inr h))) id
  refine ⟨.slice (some ⟨g', 0, none⟩) (q.tr.length + 1) cap', ⟨F.seg h.xbox hx, F.blk h.ybox hy, hb3, F.own h.list fun i hi hs => hC i hs (.inl (by simpa [Value.ownBlock] using hi.symm)), fun a ha => F.own (h.data a ha) fun i hi hs => hC i hs (.inr (.inl ⟨a, ha, hi⟩)), h.len, F.own h.qp fun i hi hs => hC i hs (.inr (.inr (.inl hi))), F.own h.qs fun i hi hs => hC i hs (.inr (.inr (.inr hi))), h.lp, h.ls, ?_, h.xy, h.xu, h.yu, fun i hi => ?_, fun i hi hc => ?_, h.two, h.cnt, h.sz⟩, ⟨rfl, rfl, rfl, rfl, rfl, rfl, fun i hi => ?_, mm, F.mono hM⟩⟩
  · show w3.ownsRow 0 74 4 (.slice (some ⟨g', 0, none⟩) (q.tr.length + 1) cap') (q.tr ++ [e]).length (trC (q.tr ++ [e]))
    rw [trC_app, List.length_append]
    have : trC [e] = e.cells := by simp [trC]
    rw [this]
    exact ho3
  · have hgi : g' = i := by simpa [Value.ownBlock] using hi
    subst hgi
    rcases hlie with hl | hl
    · exact h.une _ hl
    · exact ⟨by show g' ≠ q.xb; omega, by show g' ≠ q.yb; omega, by show g' ≠ q.ub; omega⟩
  · rcases mm i hi with hm | hm
    · exact h.dj i hm hc
    · have := h.hi i (.inr hc); omega
  · rcases hi with hi | hi
    · exact (mm i hi).imp id .inr
    · exact .inr (.inl hi)
end Go.Proofs.YtgjmpnngheohbaaDoor
namespace Go.Proofs.YtgjmpnngheohbaaDoor
open Go.Vc
section
variable {w w' : World} {K : Value → World → Prop}
theorem bs0K (hk : ∀ w', w'.ownsRow w.heap.size 105 5 (.slice (some ⟨w.heap.size, 0, none⟩) 0 0) 0 [] → Ext w w' → w.heap.size < w'.heap.size → K (.slice (some ⟨w.heap.size, 0, none⟩) 0 0) w') : V Tryd.prog (Instr.buildSlice 114 0 #[]) w K := by
  refine V.ok (v := .slice (some ⟨w.heap.size, 0, none⟩) 0 0) (w' := w.alloc (.cells (([] : List Value)).toArray 105)) (by kernel_rfl) ?_
  have hb1 : Blk (w.alloc (.cells (([] : List Value)).toArray 105)) w.heap.size [] 105 := by unfold Blk; rw [heap_alloc_new]
  exact hk _ (own_blk hb1 rfl (Nat.le_refl _) (by unfold maxLen; omega)) ((Ext.refl _).alloc _) hb1.lt
theorem cpK {B g cap n : Nat} {v : Value} {cs : List Value} (ho : w.ownsRow B 105 5 v 0 []) (hs : w.ownsRow 0 105 5 (.slice (some ⟨g, 0, none⟩) n cap) n cs) (hn : 0 < n) (hn2 : n ≤ 1000) (h1 : cs.all oneC = true) (hB : B ≤ w.heap.size)
    (hk : ∀ g' cap' w', w'.ownsRow B 105 5 (.slice (some ⟨g', 0, none⟩) n cap') n cs → w.grownBy w' v.ownBlock → (v.ownBlock = some g' ∨ g' = w.heap.size) → g' < w'.heap.size → K (.slice (some ⟨g', 0, none⟩) n cap') w') :
    V Tryd.prog (Builtin.append_ #[114, 114] 114 #[v, .slice (some ⟨g, 0, none⟩) n cap]) w K := by
  refine apZ Tryd.underlying114 inf105 rfl (by omega) ho hs hn h1 (by omega) (by unfold maxLen; omega) hB fun g' cap' w2 ho2 hg2 hlies => ?_
  rw [Nat.zero_add, List.nil_append] at ho2
  rw [Nat.zero_add]
  exact hk g' cap' w2 ho2 hg2 hlies (ho2.lt _ rfl).2
theorem rowC_one {ar : List Arr} (h : ∀ a ∈ ar, oneC a.dv = true) : (rowC ar).all oneC = true := by
  rw [List.all_eq_true]
  intro v hv
  obtain ⟨a, ha, he⟩ := List.mem_flatMap.1 hv
  exact List.all_eq_true.1 (cells_one (h a ha)) v he
end
section
variable {q : QP} {w w' : World}
theorem RefT.rowOne (h : RefT q w) : (rowC q.ar).all oneC = true := rowC_one fun a ha => own_one (h.data a ha)
/-- The list is laid anew. -/
theorem RefT.setL (h : RefT q w) {g' cap' : Nat} {ar' : List Arr} (hl : w.ownsRow 0 105 5 (.slice (some ⟨g', 0, none⟩) ar'.length cap') ar'.length (rowC ar')) (hd : ∀ a ∈ ar', w.ownsRow 0 5 1 a.dv a.data.length (a.data.map u8)) (hlen : ∀ a ∈ ar', a.data.length ≤ 64) (h2 : 2 ≤ ar'.length) (hc : ar'.length ≤ 1000) (hg : ¬ RMu q g') (hn : ∀ a ∈ ar', ∀ i, a.dv.ownBlock = some i → ¬ RMu q i) :
    RefT { q with g := g', cap := cap', ar := ar' } (w.setCell ⟨q.yb, 1, none⟩ (.slice (some ⟨g', 0, none⟩) ar'.length cap')) ∧ Fr (fun i => i = q.yb) w (w.setCell ⟨q.yb, 1, none⟩ (.slice (some ⟨g', 0, none⟩) ar'.length cap')) := by
  have f : Fr (fun i => i = q.yb) w (w.setCell ⟨q.yb, 1, none⟩ (.slice (some ⟨g', 0, none⟩) ar'.length cap')) := Fr.of_set rfl
  have hM : RMu q q.yb := .inr (.inl rfl)
  refine ⟨⟨f.seg h.xbox h.xy, h.ybox.set 1 _, f.blk h.ubox fun e => h.yu e.symm, f.own hl fun i hi e => hg (by have h1 : g' = i := (by simpa [Value.ownBlock] using hi); rw [h1, e]; exact hM), fun a ha => f.own (hd a ha) fun i hi e => hn a ha i hi (e ▸ hM), hlen,
    f.own h.qp fun i hi e => h.dj i (e ▸ hM) (.inr (.inr (.inl hi))), f.own h.qs fun i hi e => h.dj i (e ▸ hM) (.inr (.inr (.inr hi))), h.lp, h.ls, f.own h.trow fun i hi e => (h.une i hi).2.1 e, h.xy, h.xu, h.yu, h.une, fun i hi hr => ?_, h2, hc, h.sz⟩, f⟩
  rcases hr with hr | ⟨a, ha, he⟩ | hr | hr
  · have hr : i = g' := hr
    exact hg (hr ▸ hi)
  · exact hn a ha i he hi
  · exact h.dj i hi (.inr (.inr (.inl hr)))
  · exact h.dj i hi (.inr (.inr (.inr hr)))
theorem RefT.stpL (h : RefT q w) {w1 : World} {g' cap' : Nat} {ar' : List Arr} (hf : Fr (RMu q) w w1) (hg : g' = q.g ∨ w.heap.size ≤ g') (hn : ∀ a ∈ ar', ∀ i, a.dv.ownBlock = some i → (∃ b ∈ q.ar, b.dv.ownBlock = some i) ∨ w.heap.size ≤ i) : StpQ q { q with g := g', cap := cap', ar := ar' } w w1 := by
  refine ⟨rfl, rfl, rfl, rfl, rfl, rfl, fun i hi => ?_, fun i hi => .inl hi, hf⟩
  rcases hi with hi | hi | ⟨a, ha, he⟩ | hi
  · exact .inl hi
  · have hi : i = g' := hi
    rcases hg with hg | hg
    · exact .inr (.inl (.inl (hi.trans hg)))
    · exact .inr (.inr (hi ▸ hg))
  · rcases hn a ha i he with ⟨b, hb, e⟩ | hs
    · exact .inr (.inl (.inr (.inl ⟨b, hb, e⟩)))
    · exact .inr (.inr hs)
  · exact .inr (.inl (.inr (.inr hi)))
theorem useN_ge : ∀ (l : List PA) (i : Nat), i ≤ l.length - 2 → 8 * i ≤ useN l i
  | l, 0, _ => Nat.zero_le _
  | l, i + 1, hi => by
    have ih := useN_ge l i (by omega)
    obtain ⟨a, ha⟩ := ex_get (l := l) (j := i + 2) (by omega)
    have hd : (l.drop 2)[i]? = some a := by rw [List.getElem?_drop, show 2 + i = i + 2 by omega]; exact ha
    unfold useN at ih ⊢
    rw [List.take_add_one, hd]
    simp [List.sum_append] at ih ⊢
    omega
theorem usedP_ge (ar : List Arr) (h : 2 ≤ ar.length) : 8 * (ar.length - 2) ≤ usedP (ar.map pa) := by
  have := useN_ge (ar.map pa) (ar.length - 2) (by simp)
  unfold usedP
  simpa using this
set_option maxHeartbeats 6400000 in
theorem allocR3_ok (h : RefT q w) {who life : Int} {n : Nat} {share : Bool} (hl : 0 ≤ life ∧ life ≤ 3) (hn : n ≤ 64) :
    callD Tryd.prog 46 #[ybT q, i64 who, i64 3, i64 life, .bool share, i64 (n : Int)] w fun v w' =>
      ((life > 2 ∨ 8 + (n : Int) > q.size - usedP (q.ar.map pa)) ∧ v = .tuple #[i64 0, .bool false] ∧ Ext w w') ∨ (¬ (life > 2 ∨ 8 + (n : Int) > q.size - usedP (q.ar.map pa)) ∧ v = .tuple #[i64 ((q.ar.length + 1 : Nat) : Int), .bool true] ∧ ∃ g' cap' dv, RefT { q with g := g', cap := cap', ar := q.ar ++ [⟨who, 3, life, share, dv, List.replicate n 0⟩] } w' ∧ StpQ q { q with g := g', cap := cap', ar := q.ar ++ [⟨who, 3, life, share, dv, List.replicate n 0⟩] } w w' ∧ Fr (fun i => i = q.yb) w w') := by
  apply F46_wp
  unfold F46_den
  have hcnt := h.cnt
  have htwo := h.two
  have hszq := h.sz
  have D0 : Ext w w.drew := (Ext.refl _).drew
  refine drawD.mk' (fun w' => Ext w w') D0 ?_
  refine yieldS.ok (fun w' _ => r_neqI) ?_
  simp only [show decide ((3 : Int) ≠ 3) = false by decide, gdY_f, gdY_ft, pickD_iff, reduceIte, Bool.false_eq_true]
  refine yieldS.ok (fun w' _ => r_lss) ?_
  simp only [show ¬ life < 0 by omega, gdY_f, pickD_iff, reduceIte, Bool.false_eq_true, decide_false]
  refine yieldS.ok (fun w' _ => r_gtr) ?_
  by_cases hlife : life > 2
  · simp only [hlife, gd_tf, gdY_tf, pickD_iff, ifD_true, reduceIte, decide_true]
    exact ⟨D0, .inl ⟨.inl (by first | exact hlife | trivial), by first | rfl | trivial, D0⟩⟩
  simp only [hlife, gdY_f, pickD_iff, reduceIte, Bool.false_eq_true, decide_false]
  refine yieldS.ok (fun w' _ => r_lss) ?_
  simp only [show ¬ ((n : Nat) : Int) < 0 by omega, gdY_f, pickD_iff, reduceIte, Bool.false_eq_true, decide_false]
  refine yieldS.ok (fun w' _ => r_gtr) ?_
  simp only [show ¬ ((n : Nat) : Int) > 64 by omega, gd_f, gdY_f, pickD_iff, reduceIte, Bool.false_eq_true, decide_false]
  refine yieldS.ok (fun w' _ => r_add) ?_
  rw [wrap_id (by omega) (by omega)]
  refine ⟨.inl ⟨_, rfl⟩, ?_⟩
  refine yfB (fun w' hw => (h.ybox.ext hw).boxed) (by first | exact fa_105_0 | exact fa_105_1 | exact fa_105_2 | exact fa_105_3 | exact fa_105_4 | exact fa_116_0 | exact fa_116_1 | exact fa_120_0 | exact fa_120_1 | exact fa_42_0 | exact fa_42_1 | exact fa_42_2 | exact fa_42_3 | exact fa_42_4 | exact fa_42_5 | exact fa_42_6 | exact fa_57_0 | exact fa_63_0 | exact fa_63_2 | exact fa_63_3 | exact fa_63_4 | exact fa_80_0 | exact fa_80_2 | exact fa_80_3 | exact fa_80_4 | exact fa_91_0 | exact fa_95_0 | exact fa_95_1 | exact fa_95_2 | exact fa_95_3 | exact fa_95_4 | exact fa_95_5) (by first | exact l1_114 | exact l1_21 | exact l1_23 | exact l1_3 | exact l1_32 | exact l1_39 | exact l1_4 | exact l1_40 | exact l1_5 | exact l1_50 | exact l1_55 | exact l1_59 | exact l1_61 | exact l1_76) rfl ?_
  refine (usedR_ok (h.ext D0)).mono fun v w' ⟨⟨hv, hz2⟩, hw⟩ => ?_
  subst hv; have hw := hw.symm; subst hw
  refine ⟨D0, ?_⟩
  refine yieldS.ok (fun w' _ => r_sub) ?_
  rw [wrap_id (by omega) (by omega)]
  refine yieldS.ok (fun w' _ => r_gtr) ?_
  refine ifD_dec (fun hfull => .inl ⟨by first | exact .inr hfull | exact hfull | omega, by first | rfl | trivial, D0⟩) fun hroom => ?_
  have X3 : Ext w w.drew.drew := D0.drew
  have hz3 := X3.size
  -- the last append, and the store
  refine ⟨fun w' => ∃ g' cap' dv, RefT { q with g := g', cap := cap', ar := q.ar ++ [⟨who, 3, life, share, dv, List.replicate n 0⟩] } w' ∧ StpQ q { q with g := g', cap := cap', ar := q.ar ++ [⟨who, 3, life, share, dv, List.replicate n 0⟩] } w w' ∧ Fr (fun i => i = q.yb) w w', ?_, ?_⟩
  · refine drawD.mk' (fun w' => Ext w w') X3 ⟨.inl ⟨_, rfl⟩, ?_⟩
    refine yfB (fun w' hw => (h.ybox.ext hw).boxed) (by first | exact fa_105_0 | exact fa_105_1 | exact fa_105_2 | exact fa_105_3 | exact fa_105_4 | exact fa_116_0 | exact fa_116_1 | exact fa_120_0 | exact fa_120_1 | exact fa_42_0 | exact fa_42_1 | exact fa_42_2 | exact fa_42_3 | exact fa_42_4 | exact fa_42_5 | exact fa_42_6 | exact fa_57_0 | exact fa_63_0 | exact fa_63_2 | exact fa_63_3 | exact fa_63_4 | exact fa_80_0 | exact fa_80_2 | exact fa_80_3 | exact fa_80_4 | exact fa_91_0 | exact fa_95_0 | exact fa_95_1 | exact fa_95_2 | exact fa_95_3 | exact fa_95_4 | exact fa_95_5) (by first | exact l1_114 | exact l1_21 | exact l1_23 | exact l1_3 | exact l1_32 | exact l1_39 | exact l1_4 | exact l1_40 | exact l1_5 | exact l1_50 | exact l1_55 | exact l1_59 | exact l1_61 | exact l1_76) rfl ?_
    have fin : ∀ {w7 : World} {b60 g54 c54 b62 : Nat}, Blk w7 b60 (List.replicate n (u8 0)) 5 → w7.ownsRow w.heap.size 105 5 (.slice (some ⟨g54, 0, none⟩) q.ar.length c54) q.ar.length (rowC q.ar) → Blk w7 b62 (⟨who, 3, life, share, .slice (some ⟨b60, 0, none⟩) n n, List.replicate n 0⟩ : Arr).cells 105 → Ext w w7 → w.heap.size ≤ b60 → b60 ≠ g54 → b60 ≠ b62 → g54 ≠ b62 →
        V Tryd.prog (Builtin.append_ #[114, 114] 114 #[.slice (some ⟨g54, 0, none⟩) q.ar.length c54, .slice (some ⟨b62, 0, none⟩) 1 1]) w7 fun t63 w8 => Ext w w8 ∧ Go.Vc.Safe (ybT q) ∧ yieldS Tryd.prog (fun w' => Ext w w') (Instr.fieldAt 116 (ybT q) 1) fun t65 => U Tryd.prog (Instr.storeAt 114 t65 t63) w8 fun _ w9 =>
          ∃ g' cap' dv, RefT { q with g := g', cap := cap', ar := q.ar ++ [⟨who, 3, life, share, dv, List.replicate n 0⟩] } w9 ∧ StpQ q { q with g := g', cap := cap', ar := q.ar ++ [⟨who, 3, life, share, dv, List.replicate n 0⟩] } w w9 ∧ Fr (fun i => i = q.yb) w w9 := by
      intro w7 b60 g54 c54 b62 hdv h54 h62 X7 hb60 hne1 hne2 hne3
      have s7 := X7.size
      have ho62 : w7.ownsRow 0 105 5 (.slice (some ⟨b62, 0, none⟩) 1 1) 1 _ := own_blk h62 rfl (Nat.zero_le _) (by unfold maxLen; omega)
      refine apZ Tryd.underlying114 inf105 rfl (by omega) h54 ho62 (by omega) rfl (by omega) (by unfold maxLen; omega) s7 fun g' cap' w8 ho8 hg8 hlies => ?_
      have f8 : Fr (fun i => i = g54) w7 w8 := Fr.of_grown hg8 fun i hi => by simpa [Value.ownBlock] using hi.symm
      have X8 : Ext w w8 := X7.grown hg8 fun i hi => (h54.lt i hi).1
      have hlies : g' = g54 ∨ g' = w7.heap.size := hlies.imp (fun h => by simpa [Value.ownBlock] using h.symm) id
      have hg54 : w.heap.size ≤ g54 := (h54.lt _ rfl).1
      have h8 := h.ext X8
      have hdl := hdv.lt
      have hg'w : w.heap.size ≤ g' := by omega
      have hdv8 : w8.ownsRow 0 5 1 (.slice (some ⟨b60, 0, none⟩) n n) (List.replicate n (0 : Int)).length ((List.replicate n (0 : Int)).map u8) := by
        have := own_blk (B := 0) (size := 1) (n := n) (f8.blk hdv hne1) (by simp) (Nat.zero_le _) (by unfold maxLen; omega)
        simpa using this
      have hnM : ∀ i, w.heap.size ≤ i → ¬ RMu q i := fun i hi hm => by have := h.hi i (.inl hm); omega
      refine ⟨X8, .inl ⟨_, rfl⟩, ?_⟩
      refine yieldS.ok (fun w' _ => r_fd_116_1) ?_
      refine stFU inf114 h8.ybox rfl (by simp) rfl ?_
      have hlist : w8.ownsRow 0 105 5 (.slice (some ⟨g', 0, none⟩) (q.ar ++ [(⟨who, 3, life, share, .slice (some ⟨b60, 0, none⟩) n n, List.replicate n 0⟩ : Arr)]).length cap') (q.ar ++ [(⟨who, 3, life, share, .slice (some ⟨b60, 0, none⟩) n n, List.replicate n 0⟩ : Arr)]).length (rowC (q.ar ++ [⟨who, 3, life, share, .slice (some ⟨b60, 0, none⟩) n n, List.replicate n 0⟩])) := by
        rw [rowC_snoc, List.length_append]
        exact own_mono ho8 (Nat.zero_le _)
      have used : 8 * (q.ar.length - 2) ≤ usedP (q.ar.map pa) := usedP_ge q.ar htwo
      obtain ⟨h9, f9⟩ := h8.setL hlist (fun a ha => by
        rcases List.mem_append.1 ha with ha | ha
        · exact h8.data a ha
        · obtain rfl := List.mem_singleton.1 ha
          exact hdv8) (fun a ha => by
        rcases List.mem_append.1 ha with ha | ha
        · exact h.len a ha
        · obtain rfl := List.mem_singleton.1 ha
          simpa using hn) (by simp; omega) (by simp; omega) (hnM _ hg'w) (fun a ha i hi => by
        rcases List.mem_append.1 ha with ha | ha
        · exact fun hm => h.dj i hm (.inr (.inl ⟨a, ha, hi⟩))
        · obtain rfl := List.mem_singleton.1 ha
          have : b60 = i := by simpa [Value.ownBlock] using hi
          exact hnM i (by omega))
      rw [List.length_append] at h9 f9
      refine ⟨g', cap', _, h9, h.stpL ((Fr.of_ext (S := RMu q) X8).trans (f9.mono fun i hi => .inr (.inl hi)) fun _ _ h => h) (.inr hg'w) fun a ha i hi => ?_, (Fr.of_ext (S := fun i => i = q.yb) X8).trans f9 fun _ _ h => h⟩
      rcases List.mem_append.1 ha with ha | ha
      · exact .inl ⟨a, ha, hi⟩
      · obtain rfl := List.mem_singleton.1 ha
        have : b60 = i := by simpa [Value.ownBlock] using hi
        exact .inr (by omega)
    generalize w.drew.drew = w3 at X3 hz3 ⊢
    refine ⟨?_, ?_⟩
    · refine bs0K fun w4 h49 x4 l4 => ?_
      have X4 := X3.trans x4
      have h49 := own_mono h49 X3.size
      have s4 := x4.size
      have t4 := X4.size
      refine ⟨X4, ?_⟩
      refine ⟨?_, ?_⟩
      · refine cpK h49 (X4.own h.list) (by omega) (by omega) h.rowOne X4.size fun g54 c54 w5 h54 hg54 hl54 l5 => ?_
        have X5 : Ext w w5 := X4.grown hg54 fun i hi => (h49.lt i hi).1
        have f54 : Fr (fun i => i = w3.heap.size) w4 w5 := Fr.of_grown hg54 fun i hi => by simpa [Value.ownBlock] using hi.symm
        have s5 := f54.size
        have hl54 : g54 = w3.heap.size ∨ g54 = w4.heap.size := hl54.imp (fun h => by simpa [Value.ownBlock] using h.symm) id
        have t5 := X5.size
        refine ⟨X5, ?_⟩
        refine mkBv (n := n) rfl Tryd.underlying40 inf5 rfl (by omega) (by omega) fun w6 hdv x6 l6 => ?_
        have X6 := X5.trans x6
        have s6 := x6.size
        have h54 := x6.own h54
        have t6 := X6.size
        refine ⟨X6, ?_⟩
        refine yBld bd_105 [(0, i64 who), (1, i64 3), (2, i64 life), (3, .bool share), (4, .slice (some ⟨w5.heap.size, 0, none⟩) n n)] rfl rfl ?_
        refine V.ok (v := .slice (some ⟨w6.heap.size, 0, none⟩) 1 1) (w' := w6.alloc (.cells (⟨who, 3, life, share, .slice (some ⟨w5.heap.size, 0, none⟩) n n, List.replicate n 0⟩ : Arr).cells.toArray 105)) (by kernel_rfl) ?_
        have h62 : Blk (w6.alloc (.cells (⟨who, 3, life, share, .slice (some ⟨w5.heap.size, 0, none⟩) n n, List.replicate n 0⟩ : Arr).cells.toArray 105)) w6.heap.size (⟨who, 3, life, share, .slice (some ⟨w5.heap.size, 0, none⟩) n n, List.replicate n 0⟩ : Arr).cells 105 := by unfold Blk; rw [heap_alloc_new]
        have x7 : Ext w6 (w6.alloc (.cells (⟨who, 3, life, share, .slice (some ⟨w5.heap.size, 0, none⟩) n n, List.replicate n 0⟩ : Arr).cells.toArray 105)) := (Ext.refl _).alloc _
        have l7 := h62.lt
        generalize w6.alloc (.cells (⟨who, 3, life, share, .slice (some ⟨w5.heap.size, 0, none⟩) n n, List.replicate n 0⟩ : Arr).cells.toArray 105) = w7 at h62 x7 l7 ⊢
        have X7 := X6.trans x7
        have s7 := x7.size
        have h54 := x7.own h54
        have hdv := hdv.ext x7
        have t7 := X7.size
        refine ⟨X7, ?_⟩
        exact fin hdv h54 h62 X7 (by omega) (by omega) (by omega) (by omega)
      · refine mkBv (n := n) rfl Tryd.underlying40 inf5 rfl (by omega) (by omega) fun w5 hdv x5 l5 => ?_
        have X5 := X4.trans x5
        have s5 := x5.size
        have h49 := x5.own h49
        have t5 := X5.size
        refine ⟨X5, ?_⟩
        refine yBld bd_105 [(0, i64 who), (1, i64 3), (2, i64 life), (3, .bool share), (4, .slice (some ⟨w4.heap.size, 0, none⟩) n n)] rfl rfl ?_
        refine ⟨?_, ?_⟩
        · refine cpK h49 (X5.own h.list) (by omega) (by omega) h.rowOne X5.size fun g54 c54 w6 h54 hg54 hl54 l6 => ?_
          have X6 : Ext w w6 := X5.grown hg54 fun i hi => (h49.lt i hi).1
          have f54 : Fr (fun i => i = w3.heap.size) w5 w6 := Fr.of_grown hg54 fun i hi => by simpa [Value.ownBlock] using hi.symm
          have s6 := f54.size
          have hl54 : g54 = w3.heap.size ∨ g54 = w5.heap.size := hl54.imp (fun h => by simpa [Value.ownBlock] using h.symm) id
          have hdv := f54.blk hdv (by omega)
          have t6 := X6.size
          refine ⟨X6, ?_⟩
          refine V.ok (v := .slice (some ⟨w6.heap.size, 0, none⟩) 1 1) (w' := w6.alloc (.cells (⟨who, 3, life, share, .slice (some ⟨w4.heap.size, 0, none⟩) n n, List.replicate n 0⟩ : Arr).cells.toArray 105)) (by kernel_rfl) ?_
          have h62 : Blk (w6.alloc (.cells (⟨who, 3, life, share, .slice (some ⟨w4.heap.size, 0, none⟩) n n, List.replicate n 0⟩ : Arr).cells.toArray 105)) w6.heap.size (⟨who, 3, life, share, .slice (some ⟨w4.heap.size, 0, none⟩) n n, List.replicate n 0⟩ : Arr).cells 105 := by unfold Blk; rw [heap_alloc_new]
          have x7 : Ext w6 (w6.alloc (.cells (⟨who, 3, life, share, .slice (some ⟨w4.heap.size, 0, none⟩) n n, List.replicate n 0⟩ : Arr).cells.toArray 105)) := (Ext.refl _).alloc _
          have l7 := h62.lt
          generalize w6.alloc (.cells (⟨who, 3, life, share, .slice (some ⟨w4.heap.size, 0, none⟩) n n, List.replicate n 0⟩ : Arr).cells.toArray 105) = w7 at h62 x7 l7 ⊢
          have X7 := X6.trans x7
          have s7 := x7.size
          have hdv := hdv.ext x7
          have h54 := x7.own h54
          have t7 := X7.size
          refine ⟨X7, ?_⟩
          exact fin hdv h54 h62 X7 (by omega) (by omega) (by omega) (by omega)
        · refine V.ok (v := .slice (some ⟨w5.heap.size, 0, none⟩) 1 1) (w' := w5.alloc (.cells (⟨who, 3, life, share, .slice (some ⟨w4.heap.size, 0, none⟩) n n, List.replicate n 0⟩ : Arr).cells.toArray 105)) (by kernel_rfl) ?_
          have h62 : Blk (w5.alloc (.cells (⟨who, 3, life, share, .slice (some ⟨w4.heap.size, 0, none⟩) n n, List.replicate n 0⟩ : Arr).cells.toArray 105)) w5.heap.size (⟨who, 3, life, share, .slice (some ⟨w4.heap.size, 0, none⟩) n n, List.replicate n 0⟩ : Arr).cells 105 := by unfold Blk; rw [heap_alloc_new]
          have x6 : Ext w5 (w5.alloc (.cells (⟨who, 3, life, share, .slice (some ⟨w4.heap.size, 0, none⟩) n n, List.replicate n 0⟩ : Arr).cells.toArray 105)) := (Ext.refl _).alloc _
          have l6 := h62.lt
          generalize w5.alloc (.cells (⟨who, 3, life, share, .slice (some ⟨w4.heap.size, 0, none⟩) n n, List.replicate n 0⟩ : Arr).cells.toArray 105) = w6 at h62 x6 l6 ⊢
          have X6 := X5.trans x6
          have s6 := x6.size
          have h49 := x6.own h49
          have hdv := hdv.ext x6
          have t6 := X6.size
          refine ⟨X6, ?_⟩
          refine cpK h49 (X6.own h.list) (by omega) (by omega) h.rowOne X6.size fun g54 c54 w7 h54 hg54 hl54 l7 => ?_
          have X7 : Ext w w7 := X6.grown hg54 fun i hi => (h49.lt i hi).1
          have f54 : Fr (fun i => i = w3.heap.size) w6 w7 := Fr.of_grown hg54 fun i hi => by simpa [Value.ownBlock] using hi.symm
          have s7 := f54.size
          have hl54 : g54 = w3.heap.size ∨ g54 = w6.heap.size := hl54.imp (fun h => by simpa [Value.ownBlock] using h.symm) id
          have hdv := f54.blk hdv (by omega)
          have h62 := f54.blk h62 (by omega)
          have t7 := X7.size
          refine ⟨X7, ?_⟩
          exact fin hdv h54 h62 X7 (by omega) (by omega) (by omega) (by omega)
    · refine mkBv (n := n) rfl Tryd.underlying40 inf5 rfl (by omega) (by omega) fun w4 hdv x4 l4 => ?_
      have X4 := X3.trans x4
      have s4 := x4.size
      have t4 := X4.size
      refine ⟨X4, ?_⟩
      refine yBld bd_105 [(0, i64 who), (1, i64 3), (2, i64 life), (3, .bool share), (4, .slice (some ⟨w3.heap.size, 0, none⟩) n n)] rfl rfl ?_
      refine ⟨?_, ?_⟩
      · refine bs0K fun w5 h49 x5 l5 => ?_
        have X5 := X4.trans x5
        have h49 := own_mono h49 X4.size
        have s5 := x5.size
        have hdv := hdv.ext x5
        have t5 := X5.size
        refine ⟨X5, ?_⟩
        refine ⟨?_, ?_⟩
        · refine cpK h49 (X5.own h.list) (by omega) (by omega) h.rowOne X5.size fun g54 c54 w6 h54 hg54 hl54 l6 => ?_
          have X6 : Ext w w6 := X5.grown hg54 fun i hi => (h49.lt i hi).1
          have f54 : Fr (fun i => i = w4.heap.size) w5 w6 := Fr.of_grown hg54 fun i hi => by simpa [Value.ownBlock] using hi.symm
          have s6 := f54.size
          have hl54 : g54 = w4.heap.size ∨ g54 = w5.heap.size := hl54.imp (fun h => by simpa [Value.ownBlock] using h.symm) id
          have hdv := f54.blk hdv (by omega)
          have t6 := X6.size
          refine ⟨X6, ?_⟩
          refine V.ok (v := .slice (some ⟨w6.heap.size, 0, none⟩) 1 1) (w' := w6.alloc (.cells (⟨who, 3, life, share, .slice (some ⟨w3.heap.size, 0, none⟩) n n, List.replicate n 0⟩ : Arr).cells.toArray 105)) (by kernel_rfl) ?_
          have h62 : Blk (w6.alloc (.cells (⟨who, 3, life, share, .slice (some ⟨w3.heap.size, 0, none⟩) n n, List.replicate n 0⟩ : Arr).cells.toArray 105)) w6.heap.size (⟨who, 3, life, share, .slice (some ⟨w3.heap.size, 0, none⟩) n n, List.replicate n 0⟩ : Arr).cells 105 := by unfold Blk; rw [heap_alloc_new]
          have x7 : Ext w6 (w6.alloc (.cells (⟨who, 3, life, share, .slice (some ⟨w3.heap.size, 0, none⟩) n n, List.replicate n 0⟩ : Arr).cells.toArray 105)) := (Ext.refl _).alloc _
          have l7 := h62.lt
          generalize w6.alloc (.cells (⟨who, 3, life, share, .slice (some ⟨w3.heap.size, 0, none⟩) n n, List.replicate n 0⟩ : Arr).cells.toArray 105) = w7 at h62 x7 l7 ⊢
          have X7 := X6.trans x7
          have s7 := x7.size
          have hdv := hdv.ext x7
          have h54 := x7.own h54
          have t7 := X7.size
          refine ⟨X7, ?_⟩
          exact fin hdv h54 h62 X7 (by omega) (by omega) (by omega) (by omega)
        · refine V.ok (v := .slice (some ⟨w5.heap.size, 0, none⟩) 1 1) (w' := w5.alloc (.cells (⟨who, 3, life, share, .slice (some ⟨w3.heap.size, 0, none⟩) n n, List.replicate n 0⟩ : Arr).cells.toArray 105)) (by kernel_rfl) ?_
          have h62 : Blk (w5.alloc (.cells (⟨who, 3, life, share, .slice (some ⟨w3.heap.size, 0, none⟩) n n, List.replicate n 0⟩ : Arr).cells.toArray 105)) w5.heap.size (⟨who, 3, life, share, .slice (some ⟨w3.heap.size, 0, none⟩) n n, List.replicate n 0⟩ : Arr).cells 105 := by unfold Blk; rw [heap_alloc_new]
          have x6 : Ext w5 (w5.alloc (.cells (⟨who, 3, life, share, .slice (some ⟨w3.heap.size, 0, none⟩) n n, List.replicate n 0⟩ : Arr).cells.toArray 105)) := (Ext.refl _).alloc _
          have l6 := h62.lt
          generalize w5.alloc (.cells (⟨who, 3, life, share, .slice (some ⟨w3.heap.size, 0, none⟩) n n, List.replicate n 0⟩ : Arr).cells.toArray 105) = w6 at h62 x6 l6 ⊢
          have X6 := X5.trans x6
          have s6 := x6.size
          have hdv := hdv.ext x6
          have h49 := x6.own h49
          have t6 := X6.size
          refine ⟨X6, ?_⟩
          refine cpK h49 (X6.own h.list) (by omega) (by omega) h.rowOne X6.size fun g54 c54 w7 h54 hg54 hl54 l7 => ?_
          have X7 : Ext w w7 := X6.grown hg54 fun i hi => (h49.lt i hi).1
          have f54 : Fr (fun i => i = w4.heap.size) w6 w7 := Fr.of_grown hg54 fun i hi => by simpa [Value.ownBlock] using hi.symm
          have s7 := f54.size
          have hl54 : g54 = w4.heap.size ∨ g54 = w6.heap.size := hl54.imp (fun h => by simpa [Value.ownBlock] using h.symm) id
          have hdv := f54.blk hdv (by omega)
          have h62 := f54.blk h62 (by omega)
          have t7 := X7.size
          refine ⟨X7, ?_⟩
          exact fin hdv h54 h62 X7 (by omega) (by omega) (by omega) (by omega)
      · refine V.ok (v := .slice (some ⟨w4.heap.size, 0, none⟩) 1 1) (w' := w4.alloc (.cells (⟨who, 3, life, share, .slice (some ⟨w3.heap.size, 0, none⟩) n n, List.replicate n 0⟩ : Arr).cells.toArray 105)) (by kernel_rfl) ?_
        have h62 : Blk (w4.alloc (.cells (⟨who, 3, life, share, .slice (some ⟨w3.heap.size, 0, none⟩) n n, List.replicate n 0⟩ : Arr).cells.toArray 105)) w4.heap.size (⟨who, 3, life, share, .slice (some ⟨w3.heap.size, 0, none⟩) n n, List.replicate n 0⟩ : Arr).cells 105 := by unfold Blk; rw [heap_alloc_new]
        have x5 : Ext w4 (w4.alloc (.cells (⟨who, 3, life, share, .slice (some ⟨w3.heap.size, 0, none⟩) n n, List.replicate n 0⟩ : Arr).cells.toArray 105)) := (Ext.refl _).alloc _
        have l5 := h62.lt
        generalize w4.alloc (.cells (⟨who, 3, life, share, .slice (some ⟨w3.heap.size, 0, none⟩) n n, List.replicate n 0⟩ : Arr).cells.toArray 105) = w5 at h62 x5 l5 ⊢
        have X5 := X4.trans x5
        have s5 := x5.size
        have hdv := hdv.ext x5
        have t5 := X5.size
        refine ⟨X5, ?_⟩
        refine bs0K fun w6 h49 x6 l6 => ?_
        have X6 := X5.trans x6
        have h49 := own_mono h49 X5.size
        have s6 := x6.size
        have hdv := hdv.ext x6
        have h62 := h62.ext x6
        have t6 := X6.size
        refine ⟨X6, ?_⟩
        refine cpK h49 (X6.own h.list) (by omega) (by omega) h.rowOne X6.size fun g54 c54 w7 h54 hg54 hl54 l7 => ?_
        have X7 : Ext w w7 := X6.grown hg54 fun i hi => (h49.lt i hi).1
        have f54 : Fr (fun i => i = w5.heap.size) w6 w7 := Fr.of_grown hg54 fun i hi => by simpa [Value.ownBlock] using hi.symm
        have s7 := f54.size
        have hl54 : g54 = w5.heap.size ∨ g54 = w6.heap.size := hl54.imp (fun h => by simpa [Value.ownBlock] using h.symm) id
        have hdv := f54.blk hdv (by omega)
        have h62 := f54.blk h62 (by omega)
        have t7 := X7.size
        refine ⟨X7, ?_⟩
        exact fin hdv h54 h62 X7 (by omega) (by omega) (by omega) (by omega)
  · rintro w9 ⟨g', cap', dv, h9, s9, f9⟩ _
    refine ⟨.inl ⟨_, rfl⟩, ?_⟩
    refine ldB h9.ybox.boxed (by first | exact fa_105_0 | exact fa_105_1 | exact fa_105_2 | exact fa_105_3 | exact fa_105_4 | exact fa_116_0 | exact fa_116_1 | exact fa_120_0 | exact fa_120_1 | exact fa_42_0 | exact fa_42_1 | exact fa_42_2 | exact fa_42_3 | exact fa_42_4 | exact fa_42_5 | exact fa_42_6 | exact fa_57_0 | exact fa_63_0 | exact fa_63_2 | exact fa_63_3 | exact fa_63_4 | exact fa_80_0 | exact fa_80_2 | exact fa_80_3 | exact fa_80_4 | exact fa_91_0 | exact fa_95_0 | exact fa_95_1 | exact fa_95_2 | exact fa_95_3 | exact fa_95_4 | exact fa_95_5) (by first | exact l1_114 | exact l1_21 | exact l1_23 | exact l1_3 | exact l1_32 | exact l1_39 | exact l1_4 | exact l1_40 | exact l1_5 | exact l1_50 | exact l1_55 | exact l1_59 | exact l1_61 | exact l1_76) rfl (V_ln_114.2 ?_)
    exact .inr ⟨by first | exact hroom | omega | (intro hh; rcases hh with hh | hh <;> first | exact hh.elim | omega | exact absurd hh hroom), by simp, g', cap', dv, h9, s9, f9⟩
set_option maxHeartbeats 6400000 in
theorem allocR4_ok (h : RefT q w) {who life : Int} {n : Nat} {share : Bool} (hl : 0 ≤ life ∧ life ≤ 3) (hn : n ≤ 64) :
    callD Tryd.prog 46 #[ybT q, i64 who, i64 4, i64 life, .bool share, i64 (n : Int)] w fun v w' =>
      ((life > 2 ∨ 8 + (n : Int) > q.size - usedP (q.ar.map pa)) ∧ v = .tuple #[i64 0, .bool false] ∧ Ext w w') ∨ (¬ (life > 2 ∨ 8 + (n : Int) > q.size - usedP (q.ar.map pa)) ∧ v = .tuple #[i64 ((q.ar.length + 1 : Nat) : Int), .bool true] ∧ ∃ g' cap' dv, RefT { q with g := g', cap := cap', ar := q.ar ++ [⟨who, 4, life, share, dv, List.replicate n 0⟩] } w' ∧ StpQ q { q with g := g', cap := cap', ar := q.ar ++ [⟨who, 4, life, share, dv, List.replicate n 0⟩] } w w' ∧ Fr (fun i => i = q.yb) w w') := by
  apply F46_wp
  unfold F46_den
  have hcnt := h.cnt
  have htwo := h.two
  have hszq := h.sz
  have D0 : Ext w w.drew := (Ext.refl _).drew
  refine drawD.mk' (fun w' => Ext w w') D0 ?_
  refine yieldS.ok (fun w' _ => r_neqI) ?_
  simp only [show decide ((4 : Int) ≠ 3) = true by decide, gdY_t, pickD_iff, reduceIte]
  refine yieldS.ok (fun w' _ => r_neqI) ?_
  simp only [show decide ((4 : Int) ≠ 4) = false by decide, gdY_f, pickD_iff, reduceIte, Bool.false_eq_true]
  refine yieldS.ok (fun w' _ => r_lss) ?_
  simp only [show ¬ life < 0 by omega, gdY_f, pickD_iff, reduceIte, Bool.false_eq_true, decide_false]
  refine yieldS.ok (fun w' _ => r_gtr) ?_
  by_cases hlife : life > 2
  · simp only [hlife, gd_tf, gdY_tf, pickD_iff, ifD_true, reduceIte, decide_true]
    exact ⟨D0, .inl ⟨.inl (by first | exact hlife | trivial), by first | rfl | trivial, D0⟩⟩
  simp only [hlife, gdY_f, pickD_iff, reduceIte, Bool.false_eq_true, decide_false]
  refine yieldS.ok (fun w' _ => r_lss) ?_
  simp only [show ¬ ((n : Nat) : Int) < 0 by omega, gdY_f, pickD_iff, reduceIte, Bool.false_eq_true, decide_false]
  refine yieldS.ok (fun w' _ => r_gtr) ?_
  simp only [show ¬ ((n : Nat) : Int) > 64 by omega, gd_f, gdY_f, pickD_iff, reduceIte, Bool.false_eq_true, decide_false]
  refine yieldS.ok (fun w' _ => r_add) ?_
  rw [wrap_id (by omega) (by omega)]
  refine ⟨.inl ⟨_, rfl⟩, ?_⟩
  refine yfB (fun w' hw => (h.ybox.ext hw).boxed) (by first | exact fa_105_0 | exact fa_105_1 | exact fa_105_2 | exact fa_105_3 | exact fa_105_4 | exact fa_116_0 | exact fa_116_1 | exact fa_120_0 | exact fa_120_1 | exact fa_42_0 | exact fa_42_1 | exact fa_42_2 | exact fa_42_3 | exact fa_42_4 | exact fa_42_5 | exact fa_42_6 | exact fa_57_0 | exact fa_63_0 | exact fa_63_2 | exact fa_63_3 | exact fa_63_4 | exact fa_80_0 | exact fa_80_2 | exact fa_80_3 | exact fa_80_4 | exact fa_91_0 | exact fa_95_0 | exact fa_95_1 | exact fa_95_2 | exact fa_95_3 | exact fa_95_4 | exact fa_95_5) (by first | exact l1_114 | exact l1_21 | exact l1_23 | exact l1_3 | exact l1_32 | exact l1_39 | exact l1_4 | exact l1_40 | exact l1_5 | exact l1_50 | exact l1_55 | exact l1_59 | exact l1_61 | exact l1_76) rfl ?_
  refine (usedR_ok (h.ext D0)).mono fun v w' ⟨⟨hv, hz2⟩, hw⟩ => ?_
  subst hv; have hw := hw.symm; subst hw
  refine ⟨D0, ?_⟩
  refine yieldS.ok (fun w' _ => r_sub) ?_
  rw [wrap_id (by omega) (by omega)]
  refine yieldS.ok (fun w' _ => r_gtr) ?_
  refine ifD_dec (fun hfull => .inl ⟨by first | exact .inr hfull | exact hfull | omega, by first | rfl | trivial, D0⟩) fun hroom => ?_
  have X3 : Ext w w.drew.drew := D0.drew
  have hz3 := X3.size
  -- the last append, and the store
  refine ⟨fun w' => ∃ g' cap' dv, RefT { q with g := g', cap := cap', ar := q.ar ++ [⟨who, 4, life, share, dv, List.replicate n 0⟩] } w' ∧ StpQ q { q with g := g', cap := cap', ar := q.ar ++ [⟨who, 4, life, share, dv, List.replicate n 0⟩] } w w' ∧ Fr (fun i => i = q.yb) w w', ?_, ?_⟩
  · refine drawD.mk' (fun w' => Ext w w') X3 ⟨.inl ⟨_, rfl⟩, ?_⟩
    refine yfB (fun w' hw => (h.ybox.ext hw).boxed) (by first | exact fa_105_0 | exact fa_105_1 | exact fa_105_2 | exact fa_105_3 | exact fa_105_4 | exact fa_116_0 | exact fa_116_1 | exact fa_120_0 | exact fa_120_1 | exact fa_42_0 | exact fa_42_1 | exact fa_42_2 | exact fa_42_3 | exact fa_42_4 | exact fa_42_5 | exact fa_42_6 | exact fa_57_0 | exact fa_63_0 | exact fa_63_2 | exact fa_63_3 | exact fa_63_4 | exact fa_80_0 | exact fa_80_2 | exact fa_80_3 | exact fa_80_4 | exact fa_91_0 | exact fa_95_0 | exact fa_95_1 | exact fa_95_2 | exact fa_95_3 | exact fa_95_4 | exact fa_95_5) (by first | exact l1_114 | exact l1_21 | exact l1_23 | exact l1_3 | exact l1_32 | exact l1_39 | exact l1_4 | exact l1_40 | exact l1_5 | exact l1_50 | exact l1_55 | exact l1_59 | exact l1_61 | exact l1_76) rfl ?_
    have fin : ∀ {w7 : World} {b60 g54 c54 b62 : Nat}, Blk w7 b60 (List.replicate n (u8 0)) 5 → w7.ownsRow w.heap.size 105 5 (.slice (some ⟨g54, 0, none⟩) q.ar.length c54) q.ar.length (rowC q.ar) → Blk w7 b62 (⟨who, 4, life, share, .slice (some ⟨b60, 0, none⟩) n n, List.replicate n 0⟩ : Arr).cells 105 → Ext w w7 → w.heap.size ≤ b60 → b60 ≠ g54 → b60 ≠ b62 → g54 ≠ b62 →
        V Tryd.prog (Builtin.append_ #[114, 114] 114 #[.slice (some ⟨g54, 0, none⟩) q.ar.length c54, .slice (some ⟨b62, 0, none⟩) 1 1]) w7 fun t63 w8 => Ext w w8 ∧ Go.Vc.Safe (ybT q) ∧ yieldS Tryd.prog (fun w' => Ext w w') (Instr.fieldAt 116 (ybT q) 1) fun t65 => U Tryd.prog (Instr.storeAt 114 t65 t63) w8 fun _ w9 =>
          ∃ g' cap' dv, RefT { q with g := g', cap := cap', ar := q.ar ++ [⟨who, 4, life, share, dv, List.replicate n 0⟩] } w9 ∧ StpQ q { q with g := g', cap := cap', ar := q.ar ++ [⟨who, 4, life, share, dv, List.replicate n 0⟩] } w w9 ∧ Fr (fun i => i = q.yb) w w9 := by
      intro w7 b60 g54 c54 b62 hdv h54 h62 X7 hb60 hne1 hne2 hne3
      have s7 := X7.size
      have ho62 : w7.ownsRow 0 105 5 (.slice (some ⟨b62, 0, none⟩) 1 1) 1 _ := own_blk h62 rfl (Nat.zero_le _) (by unfold maxLen; omega)
      refine apZ Tryd.underlying114 inf105 rfl (by omega) h54 ho62 (by omega) rfl (by omega) (by unfold maxLen; omega) s7 fun g' cap' w8 ho8 hg8 hlies => ?_
      have f8 : Fr (fun i => i = g54) w7 w8 := Fr.of_grown hg8 fun i hi => by simpa [Value.ownBlock] using hi.symm
      have X8 : Ext w w8 := X7.grown hg8 fun i hi => (h54.lt i hi).1
      have hlies : g' = g54 ∨ g' = w7.heap.size := hlies.imp (fun h => by simpa [Value.ownBlock] using h.symm) id
      have hg54 : w.heap.size ≤ g54 := (h54.lt _ rfl).1
      have h8 := h.ext X8
      have hdl := hdv.lt
      have hg'w : w.heap.size ≤ g' := by omega
      have hdv8 : w8.ownsRow 0 5 1 (.slice (some ⟨b60, 0, none⟩) n n) (List.replicate n (0 : Int)).length ((List.replicate n (0 : Int)).map u8) := by
        have := own_blk (B := 0) (size := 1) (n := n) (f8.blk hdv hne1) (by simp) (Nat.zero_le _) (by unfold maxLen; omega)
        simpa using this
      have hnM : ∀ i, w.heap.size ≤ i → ¬ RMu q i := fun i hi hm => by have := h.hi i (.inl hm); omega
      refine ⟨X8, .inl ⟨_, rfl⟩, ?_⟩
      refine yieldS.ok (fun w' _ => r_fd_116_1) ?_
      refine stFU inf114 h8.ybox rfl (by simp) rfl ?_
      have hlist : w8.ownsRow 0 105 5 (.slice (some ⟨g', 0, none⟩) (q.ar ++ [(⟨who, 4, life, share, .slice (some ⟨b60, 0, none⟩) n n, List.replicate n 0⟩ : Arr)]).length cap') (q.ar ++ [(⟨who, 4, life, share, .slice (some ⟨b60, 0, none⟩) n n, List.replicate n 0⟩ : Arr)]).length (rowC (q.ar ++ [⟨who, 4, life, share, .slice (some ⟨b60, 0, none⟩) n n, List.replicate n 0⟩])) := by
        rw [rowC_snoc, List.length_append]
        exact own_mono ho8 (Nat.zero_le _)
      have used : 8 * (q.ar.length - 2) ≤ usedP (q.ar.map pa) := usedP_ge q.ar htwo
      obtain ⟨h9, f9⟩ := h8.setL hlist (fun a ha => by
        rcases List.mem_append.1 ha with ha | ha
        · exact h8.data a ha
        · obtain rfl := List.mem_singleton.1 ha
          exact hdv8) (fun a ha => by
        rcases List.mem_append.1 ha with ha | ha
        · exact h.len a ha
        · obtain rfl := List.mem_singleton.1 ha
          simpa using hn) (by simp; omega) (by simp; omega) (hnM _ hg'w) (fun a ha i hi => by
        rcases List.mem_append.1 ha with ha | ha
        · exact fun hm => h.dj i hm (.inr (.inl ⟨a, ha, hi⟩))
        · obtain rfl := List.mem_singleton.1 ha
          have : b60 = i := by simpa [Value.ownBlock] using hi
          exact hnM i (by omega))
      rw [List.length_append] at h9 f9
      refine ⟨g', cap', _, h9, h.stpL ((Fr.of_ext (S := RMu q) X8).trans (f9.mono fun i hi => .inr (.inl hi)) fun _ _ h => h) (.inr hg'w) fun a ha i hi => ?_, (Fr.of_ext (S := fun i => i = q.yb) X8).trans f9 fun _ _ h => h⟩
      rcases List.mem_append.1 ha with ha | ha
      · exact .inl ⟨a, ha, hi⟩
      · obtain rfl := List.mem_singleton.1 ha
        have : b60 = i := by simpa [Value.ownBlock] using hi
        exact .inr (by omega)
    generalize w.drew.drew = w3 at X3 hz3 ⊢
    refine ⟨?_, ?_⟩
    · refine bs0K fun w4 h49 x4 l4 => ?_
      have X4 := X3.trans x4
      have h49 := own_mono h49 X3.size
      have s4 := x4.size
      have t4 := X4.size
      refine ⟨X4, ?_⟩
      refine ⟨?_, ?_⟩
      · refine cpK h49 (X4.own h.list) (by omega) (by omega) h.rowOne X4.size fun g54 c54 w5 h54 hg54 hl54 l5 => ?_
        have X5 : Ext w w5 := X4.grown hg54 fun i hi => (h49.lt i hi).1
        have f54 : Fr (fun i => i = w3.heap.size) w4 w5 := Fr.of_grown hg54 fun i hi => by simpa [Value.ownBlock] using hi.symm
        have s5 := f54.size
        have hl54 : g54 = w3.heap.size ∨ g54 = w4.heap.size := hl54.imp (fun h => by simpa [Value.ownBlock] using h.symm) id
        have t5 := X5.size
        refine ⟨X5, ?_⟩
        refine mkBv (n := n) rfl Tryd.underlying40 inf5 rfl (by omega) (by omega) fun w6 hdv x6 l6 => ?_
        have X6 := X5.trans x6
        have s6 := x6.size
        have h54 := x6.own h54
        have t6 := X6.size
        refine ⟨X6, ?_⟩
        refine yBld bd_105 [(0, i64 who), (1, i64 4), (2, i64 life), (3, .bool share), (4, .slice (some ⟨w5.heap.size, 0, none⟩) n n)] rfl rfl ?_
        refine V.ok (v := .slice (some ⟨w6.heap.size, 0, none⟩) 1 1) (w' := w6.alloc (.cells (⟨who, 4, life, share, .slice (some ⟨w5.heap.size, 0, none⟩) n n, List.replicate n 0⟩ : Arr).cells.toArray 105)) (by kernel_rfl) ?_
        have h62 : Blk (w6.alloc (.cells (⟨who, 4, life, share, .slice (some ⟨w5.heap.size, 0, none⟩) n n, List.replicate n 0⟩ : Arr).cells.toArray 105)) w6.heap.size (⟨who, 4, life, share, .slice (some ⟨w5.heap.size, 0, none⟩) n n, List.replicate n 0⟩ : Arr).cells 105 := by unfold Blk; rw [heap_alloc_new]
        have x7 : Ext w6 (w6.alloc (.cells (⟨who, 4, life, share, .slice (some ⟨w5.heap.size, 0, none⟩) n n, List.replicate n 0⟩ : Arr).cells.toArray 105)) := (Ext.refl _).alloc _
        have l7 := h62.lt
        generalize w6.alloc (.cells (⟨who, 4, life, share, .slice (some ⟨w5.heap.size, 0, none⟩) n n, List.replicate n 0⟩ : Arr).cells.toArray 105) = w7 at h62 x7 l7 ⊢
        have X7 := X6.trans x7
        have s7 := x7.size
        have h54 := x7.own h54
        have hdv := hdv.ext x7
        have t7 := X7.size
        refine ⟨X7, ?_⟩
        exact fin hdv h54 h62 X7 (by omega) (by omega) (by omega) (by omega)
      · refine mkBv (n := n) rfl Tryd.underlying40 inf5 rfl (by omega) (by omega) fun w5 hdv x5 l5 => ?_
        have X5 := X4.trans x5
        have s5 := x5.size
        have h49 := x5.own h49
        have t5 := X5.size
        refine ⟨X5, ?_⟩
        refine yBld bd_105 [(0, i64 who), (1, i64 4), (2, i64 life), (3, .bool share), (4, .slice (some ⟨w4.heap.size, 0, none⟩) n n)] rfl rfl ?_
        refine ⟨?_, ?_⟩
        · refine cpK h49 (X5.own h.list) (by omega) (by omega) h.rowOne X5.size fun g54 c54 w6 h54 hg54 hl54 l6 => ?_
          have X6 : Ext w w6 := X5.grown hg54 fun i hi => (h49.lt i hi).1
          have f54 : Fr (fun i => i = w3.heap.size) w5 w6 := Fr.of_grown hg54 fun i hi => by simpa [Value.ownBlock] using hi.symm
          have s6 := f54.size
          have hl54 : g54 = w3.heap.size ∨ g54 = w5.heap.size := hl54.imp (fun h => by simpa [Value.ownBlock] using h.symm) id
          have hdv := f54.blk hdv (by omega)
          have t6 := X6.size
          refine ⟨X6, ?_⟩
          refine V.ok (v := .slice (some ⟨w6.heap.size, 0, none⟩) 1 1) (w' := w6.alloc (.cells (⟨who, 4, life, share, .slice (some ⟨w4.heap.size, 0, none⟩) n n, List.replicate n 0⟩ : Arr).cells.toArray 105)) (by kernel_rfl) ?_
          have h62 : Blk (w6.alloc (.cells (⟨who, 4, life, share, .slice (some ⟨w4.heap.size, 0, none⟩) n n, List.replicate n 0⟩ : Arr).cells.toArray 105)) w6.heap.size (⟨who, 4, life, share, .slice (some ⟨w4.heap.size, 0, none⟩) n n, List.replicate n 0⟩ : Arr).cells 105 := by unfold Blk; rw [heap_alloc_new]
          have x7 : Ext w6 (w6.alloc (.cells (⟨who, 4, life, share, .slice (some ⟨w4.heap.size, 0, none⟩) n n, List.replicate n 0⟩ : Arr).cells.toArray 105)) := (Ext.refl _).alloc _
          have l7 := h62.lt
          generalize w6.alloc (.cells (⟨who, 4, life, share, .slice (some ⟨w4.heap.size, 0, none⟩) n n, List.replicate n 0⟩ : Arr).cells.toArray 105) = w7 at h62 x7 l7 ⊢
          have X7 := X6.trans x7
          have s7 := x7.size
          have hdv := hdv.ext x7
          have h54 := x7.own h54
          have t7 := X7.size
          refine ⟨X7, ?_⟩
          exact fin hdv h54 h62 X7 (by omega) (by omega) (by omega) (by omega)
        · refine V.ok (v := .slice (some ⟨w5.heap.size, 0, none⟩) 1 1) (w' := w5.alloc (.cells (⟨who, 4, life, share, .slice (some ⟨w4.heap.size, 0, none⟩) n n, List.replicate n 0⟩ : Arr).cells.toArray 105)) (by kernel_rfl) ?_
          have h62 : Blk (w5.alloc (.cells (⟨who, 4, life, share, .slice (some ⟨w4.heap.size, 0, none⟩) n n, List.replicate n 0⟩ : Arr).cells.toArray 105)) w5.heap.size (⟨who, 4, life, share, .slice (some ⟨w4.heap.size, 0, none⟩) n n, List.replicate n 0⟩ : Arr).cells 105 := by unfold Blk; rw [heap_alloc_new]
          have x6 : Ext w5 (w5.alloc (.cells (⟨who, 4, life, share, .slice (some ⟨w4.heap.size, 0, none⟩) n n, List.replicate n 0⟩ : Arr).cells.toArray 105)) := (Ext.refl _).alloc _
          have l6 := h62.lt
          generalize w5.alloc (.cells (⟨who, 4, life, share, .slice (some ⟨w4.heap.size, 0, none⟩) n n, List.replicate n 0⟩ : Arr).cells.toArray 105) = w6 at h62 x6 l6 ⊢
          have X6 := X5.trans x6
          have s6 := x6.size
          have h49 := x6.own h49
          have hdv := hdv.ext x6
          have t6 := X6.size
          refine ⟨X6, ?_⟩
          refine cpK h49 (X6.own h.list) (by omega) (by omega) h.rowOne X6.size fun g54 c54 w7 h54 hg54 hl54 l7 => ?_
          have X7 : Ext w w7 := X6.grown hg54 fun i hi => (h49.lt i hi).1
          have f54 : Fr (fun i => i = w3.heap.size) w6 w7 := Fr.of_grown hg54 fun i hi => by simpa [Value.ownBlock] using hi.symm
          have s7 := f54.size
          have hl54 : g54 = w3.heap.size ∨ g54 = w6.heap.size := hl54.imp (fun h => by simpa [Value.ownBlock] using h.symm) id
          have hdv := f54.blk hdv (by omega)
          have h62 := f54.blk h62 (by omega)
          have t7 := X7.size
          refine ⟨X7, ?_⟩
          exact fin hdv h54 h62 X7 (by omega) (by omega) (by omega) (by omega)
    · refine mkBv (n := n) rfl Tryd.underlying40 inf5 rfl (by omega) (by omega) fun w4 hdv x4 l4 => ?_
      have X4 := X3.trans x4
      have s4 := x4.size
      have t4 := X4.size
      refine ⟨X4, ?_⟩
      refine yBld bd_105 [(0, i64 who), (1, i64 4), (2, i64 life), (3, .bool share), (4, .slice (some ⟨w3.heap.size, 0, none⟩) n n)] rfl rfl ?_
      refine ⟨?_, ?_⟩
      · refine bs0K fun w5 h49 x5 l5 => ?_
        have X5 := X4.trans x5
        have h49 := own_mono h49 X4.size
        have s5 := x5.size
        have hdv := hdv.ext x5
        have t5 := X5.size
        refine ⟨X5, ?_⟩
        refine ⟨?_, ?_⟩
        · refine cpK h49 (X5.own h.list) (by omega) (by omega) h.rowOne X5.size fun g54 c54 w6 h54 hg54 hl54 l6 => ?_
          have X6 : Ext w w6 := X5.grown hg54 fun i hi => (h49.lt i hi).1
          have f54 : Fr (fun i => i = w4.heap.size) w5 w6 := Fr.of_grown hg54 fun i hi => by simpa [Value.ownBlock] using hi.symm
          have s6 := f54.size
          have hl54 : g54 = w4.heap.size ∨ g54 = w5.heap.size := hl54.imp (fun h => by simpa [Value.ownBlock] using h.symm) id
          have hdv := f54.blk hdv (by omega)
          have t6 := X6.size
          refine ⟨X6, ?_⟩
          refine V.ok (v := .slice (some ⟨w6.heap.size, 0, none⟩) 1 1) (w' := w6.alloc (.cells (⟨who, 4, life, share, .slice (some ⟨w3.heap.size, 0, none⟩) n n, List.replicate n 0⟩ : Arr).cells.toArray 105)) (by kernel_rfl) ?_
          have h62 : Blk (w6.alloc (.cells (⟨who, 4, life, share, .slice (some ⟨w3.heap.size, 0, none⟩) n n, List.replicate n 0⟩ : Arr).cells.toArray 105)) w6.heap.size (⟨who, 4, life, share, .slice (some ⟨w3.heap.size, 0, none⟩) n n, List.replicate n 0⟩ : Arr).cells 105 := by unfold Blk; rw [heap_alloc_new]
          have x7 : Ext w6 (w6.alloc (.cells (⟨who, 4, life, share, .slice (some ⟨w3.heap.size, 0, none⟩) n n, List.replicate n 0⟩ : Arr).cells.toArray 105)) := (Ext.refl _).alloc _
          have l7 := h62.lt
          generalize w6.alloc (.cells (⟨who, 4, life, share, .slice (some ⟨w3.heap.size, 0, none⟩) n n, List.replicate n 0⟩ : Arr).cells.toArray 105) = w7 at h62 x7 l7 ⊢
          have X7 := X6.trans x7
          have s7 := x7.size
          have hdv := hdv.ext x7
          have h54 := x7.own h54
          have t7 := X7.size
          refine ⟨X7, ?_⟩
          exact fin hdv h54 h62 X7 (by omega) (by omega) (by omega) (by omega)
        · refine V.ok (v := .slice (some ⟨w5.heap.size, 0, none⟩) 1 1) (w' := w5.alloc (.cells (⟨who, 4, life, share, .slice (some ⟨w3.heap.size, 0, none⟩) n n, List.replicate n 0⟩ : Arr).cells.toArray 105)) (by kernel_rfl) ?_
          have h62 : Blk (w5.alloc (.cells (⟨who, 4, life, share, .slice (some ⟨w3.heap.size, 0, none⟩) n n, List.replicate n 0⟩ : Arr).cells.toArray 105)) w5.heap.size (⟨who, 4, life, share, .slice (some ⟨w3.heap.size, 0, none⟩) n n, List.replicate n 0⟩ : Arr).cells 105 := by unfold Blk; rw [heap_alloc_new]
          have x6 : Ext w5 (w5.alloc (.cells (⟨who, 4, life, share, .slice (some ⟨w3.heap.size, 0, none⟩) n n, List.replicate n 0⟩ : Arr).cells.toArray 105)) := (Ext.refl _).alloc _
          have l6 := h62.lt
          generalize w5.alloc (.cells (⟨who, 4, life, share, .slice (some ⟨w3.heap.size, 0, none⟩) n n, List.replicate n 0⟩ : Arr).cells.toArray 105) = w6 at h62 x6 l6 ⊢
          have X6 := X5.trans x6
          have s6 := x6.size
          have hdv := hdv.ext x6
          have h49 := x6.own h49
          have t6 := X6.size
          refine ⟨X6, ?_⟩
          refine cpK h49 (X6.own h.list) (by omega) (by omega) h.rowOne X6.size fun g54 c54 w7 h54 hg54 hl54 l7 => ?_
          have X7 : Ext w w7 := X6.grown hg54 fun i hi => (h49.lt i hi).1
          have f54 : Fr (fun i => i = w4.heap.size) w6 w7 := Fr.of_grown hg54 fun i hi => by simpa [Value.ownBlock] using hi.symm
          have s7 := f54.size
          have hl54 : g54 = w4.heap.size ∨ g54 = w6.heap.size := hl54.imp (fun h => by simpa [Value.ownBlock] using h.symm) id
          have hdv := f54.blk hdv (by omega)
          have h62 := f54.blk h62 (by omega)
          have t7 := X7.size
          refine ⟨X7, ?_⟩
          exact fin hdv h54 h62 X7 (by omega) (by omega) (by omega) (by omega)
      · refine V.ok (v := .slice (some ⟨w4.heap.size, 0, none⟩) 1 1) (w' := w4.alloc (.cells (⟨who, 4, life, share, .slice (some ⟨w3.heap.size, 0, none⟩) n n, List.replicate n 0⟩ : Arr).cells.toArray 105)) (by kernel_rfl) ?_
        have h62 : Blk (w4.alloc (.cells (⟨who, 4, life, share, .slice (some ⟨w3.heap.size, 0, none⟩) n n, List.replicate n 0⟩ : Arr).cells.toArray 105)) w4.heap.size (⟨who, 4, life, share, .slice (some ⟨w3.heap.size, 0, none⟩) n n, List.replicate n 0⟩ : Arr).cells 105 := by unfold Blk; rw [heap_alloc_new]
        have x5 : Ext w4 (w4.alloc (.cells (⟨who, 4, life, share, .slice (some ⟨w3.heap.size, 0, none⟩) n n, List.replicate n 0⟩ : Arr).cells.toArray 105)) := (Ext.refl _).alloc _
        have l5 := h62.lt
        generalize w4.alloc (.cells (⟨who, 4, life, share, .slice (some ⟨w3.heap.size, 0, none⟩) n n, List.replicate n 0⟩ : Arr).cells.toArray 105) = w5 at h62 x5 l5 ⊢
        have X5 := X4.trans x5
        have s5 := x5.size
        have hdv := hdv.ext x5
        have t5 := X5.size
        refine ⟨X5, ?_⟩
        refine bs0K fun w6 h49 x6 l6 => ?_
        have X6 := X5.trans x6
        have h49 := own_mono h49 X5.size
        have s6 := x6.size
        have hdv := hdv.ext x6
        have h62 := h62.ext x6
        have t6 := X6.size
        refine ⟨X6, ?_⟩
        refine cpK h49 (X6.own h.list) (by omega) (by omega) h.rowOne X6.size fun g54 c54 w7 h54 hg54 hl54 l7 => ?_
        have X7 : Ext w w7 := X6.grown hg54 fun i hi => (h49.lt i hi).1
        have f54 : Fr (fun i => i = w5.heap.size) w6 w7 := Fr.of_grown hg54 fun i hi => by simpa [Value.ownBlock] using hi.symm
        have s7 := f54.size
        have hl54 : g54 = w5.heap.size ∨ g54 = w6.heap.size := hl54.imp (fun h => by simpa [Value.ownBlock] using h.symm) id
        have hdv := f54.blk hdv (by omega)
        have h62 := f54.blk h62 (by omega)
        have t7 := X7.size
        refine ⟨X7, ?_⟩
        exact fin hdv h54 h62 X7 (by omega) (by omega) (by omega) (by omega)
  · rintro w9 ⟨g', cap', dv, h9, s9, f9⟩ _
    refine ⟨.inl ⟨_, rfl⟩, ?_⟩
    refine ldB h9.ybox.boxed (by first | exact fa_105_0 | exact fa_105_1 | exact fa_105_2 | exact fa_105_3 | exact fa_105_4 | exact fa_116_0 | exact fa_116_1 | exact fa_120_0 | exact fa_120_1 | exact fa_42_0 | exact fa_42_1 | exact fa_42_2 | exact fa_42_3 | exact fa_42_4 | exact fa_42_5 | exact fa_42_6 | exact fa_57_0 | exact fa_63_0 | exact fa_63_2 | exact fa_63_3 | exact fa_63_4 | exact fa_80_0 | exact fa_80_2 | exact fa_80_3 | exact fa_80_4 | exact fa_91_0 | exact fa_95_0 | exact fa_95_1 | exact fa_95_2 | exact fa_95_3 | exact fa_95_4 | exact fa_95_5) (by first | exact l1_114 | exact l1_21 | exact l1_23 | exact l1_3 | exact l1_32 | exact l1_39 | exact l1_4 | exact l1_40 | exact l1_5 | exact l1_50 | exact l1_55 | exact l1_59 | exact l1_61 | exact l1_76) rfl (V_ln_114.2 ?_)
    exact .inr ⟨by first | exact hroom | omega | (intro hh; rcases hh with hh | hh <;> first | exact hh.elim | omega | exact absurd hh hroom), by simp, g', cap', dv, h9, s9, f9⟩
end
end Go.Proofs.YtgjmpnngheohbaaDoor
namespace Go.Proofs.YtgjmpnngheohbaaDoor
open Go.Vc
section
variable {q : QP} {w w' : World} {K : Value → World → Prop}
theorem apArgs {B : Nat} {v sv : Value} {l : List Int} (ho : w.ownsRow B 5 1 v 0 []) (h : ArgsU8 w sv l) (hl : l.length ≤ 1000000) (hB : B ≤ w.heap.size)
    (hk : ∀ v' w', w'.ownsRow B 5 1 v' l.length (l.map u8) → w.grownBy w' v.ownBlock → (v'.ownBlock = v.ownBlock ∨ v'.ownBlock = some w.heap.size) → K v' w') :
    V Tryd.prog (Builtin.append_ #[40, 40] 40 #[v, sv]) w K := by
  have go : SliceIs w sv 1 l.length (l.map u8) → V Tryd.prog (Builtin.append_ #[40, 40] 40 #[v, sv]) w K := fun hs => by
    refine apS xe_40 ho hs (all_u8 _) (by omega) (by unfold maxLen; omega) hB fun v' w' ho' hg hl => ?_
    rw [Nat.zero_add, List.nil_append] at ho'
    exact hk v' w' ho' hg hl
  rcases h with ⟨rfl, rfl⟩ | ⟨ad, c, rfl, hb⟩
  · exact go (SliceIs.nil _ _)
  · by_cases h0 : 0 < l.length
    · exact go (hb h0)
    · have hl0 : l = [] := List.eq_nil_of_length_eq_zero (by omega)
      subst hl0
      obtain ⟨a, c1, hv⟩ := (SliceIs.of_own ho).shape
      subst hv
      refine V.ok (append_none Tryd.underlying40 inf5 (Nat.zero_le _)) (hk _ _ ho ⟨rfl, rfl, rfl, Nat.le_refl _, fun _ _ _ => rfl⟩ (.inl rfl))
/-- A list with one array's bytes laid anew. -/
theorem RefT.relist (h : RefT q w) {B g54 c54 : Nat} {dv : Value} {d' : List Int} {k : Nat} {x : Arr} (hk : q.ar[k]? = some x) (h54 : w.ownsRow B 105 5 (.slice (some ⟨g54, 0, none⟩) q.ar.length c54) q.ar.length (rowC q.ar)) (hdv : w.ownsRow B 5 1 dv d'.length (d'.map u8)) (hne : dv.ownBlock ≠ some g54) (hd : d'.length ≤ 64) (hB : ∀ i, B ≤ i → ¬ RMu q i ∧ ¬ RCo q i) :
    RefT { q with g := g54, cap := c54, ar := q.ar.set k { x with dv := dv, data := d' } } ((w.setCell ⟨g54, k * 5 + 4, none⟩ dv).setCell ⟨q.yb, 1, none⟩ (.slice (some ⟨g54, 0, none⟩) q.ar.length c54)) ∧ Fr (fun i => i = g54) w (w.setCell ⟨g54, k * 5 + 4, none⟩ dv) ∧ Fr (fun i => i = q.yb) (w.setCell ⟨g54, k * 5 + 4, none⟩ dv) ((w.setCell ⟨g54, k * 5 + 4, none⟩ dv).setCell ⟨q.yb, 1, none⟩ (.slice (some ⟨g54, 0, none⟩) q.ar.length c54)) := by
  have hkl : k < q.ar.length := (List.getElem?_eq_some_iff.1 hk).1
  have hgB : B ≤ g54 := (h54.lt _ rfl).1
  have f1 : Fr (fun i => i = g54) w (w.setCell ⟨g54, k * 5 + 4, none⟩ dv) := Fr.of_set rfl
  have h1 := h.fr f1 fun i hi => hB i (hi ▸ hgB)
  have row1 := (h54.stored (k * 5 + 4) dv).1
  rw [← rowC_set hk dv d'] at row1
  have hdv1 := f1.own hdv fun i hi e => hne (e ▸ hi)
  have each : ∀ a ∈ q.ar.set k { x with dv := dv, data := d' }, a = { x with dv := dv, data := d' } ∨ a ∈ q.ar := by
    intro a ha
    obtain ⟨i, hi⟩ := List.getElem?_of_mem ha
    by_cases hik : k = i
    · subst hik
      rw [List.getElem?_set_self hkl] at hi
      cases hi
      exact .inl rfl
    · rw [List.getElem?_set_ne hik] at hi
      exact .inr (List.mem_of_getElem? hi)
  have hlen : (q.ar.set k { x with dv := dv, data := d' }).length = q.ar.length := by simp
  obtain ⟨h2, f2⟩ := h1.setL (g' := g54) (cap' := c54) (ar' := q.ar.set k { x with dv := dv, data := d' }) (by rw [hlen]; exact own_mono row1 (Nat.zero_le _)) (fun a ha => by
      rcases each a ha with rfl | ha
      · exact own_mono hdv1 (Nat.zero_le _)
      · exact h1.data a ha) (fun a ha => by
      rcases each a ha with rfl | ha
      · exact hd
      · exact h.len a ha) (by rw [hlen]; exact h.two) (by rw [hlen]; exact h.cnt) (hB g54 hgB).1 (fun a ha i hi => by
      rcases each a ha with rfl | ha
      · exact (hB i (hdv.lt i hi).1).1
      · exact fun hm => h.dj i hm (.inr (.inl ⟨a, ha, hi⟩)))
  rw [hlen] at h2 f2
  exact ⟨h2, f1, f2⟩
theorem RefT.stpR (h : RefT q w) {w1 : World} {g54 c54 : Nat} {dv : Value} {d' : List Int} {k : Nat} {x : Arr} (hk : q.ar[k]? = some x) (hf : Fr (RMu q) w w1) (hg : w.heap.size ≤ g54) (hdv : ∀ i, dv.ownBlock = some i → w.heap.size ≤ i) : StpQ q { q with g := g54, cap := c54, ar := q.ar.set k { x with dv := dv, data := d' } } w w1 := by
  have hkl : k < q.ar.length := (List.getElem?_eq_some_iff.1 hk).1
  refine h.stpL hf (.inr hg) fun a ha i hi => ?_
  obtain ⟨j, hj⟩ := List.getElem?_of_mem ha
  by_cases hik : k = j
  · subst hik
    rw [List.getElem?_set_self hkl] at hj
    cases hj
    exact .inr (hdv i hi)
  · rw [List.getElem?_set_ne hik] at hj
    exact .inl ⟨a, List.mem_of_getElem? hj, hi⟩
theorem RefT.above (h : RefT q w) : ∀ i, w.heap.size ≤ i → ¬ RMu q i ∧ ¬ RCo q i := fun i hi => ⟨fun hm => by have := h.hi i (.inl hm); omega, fun hm => by have := h.hi i (.inr hm); omega⟩
set_option maxHeartbeats 3200000 in
theorem putR_ok (h : RefT q w) {k : Nat} {x : Arr} (hk : q.ar[k]? = some x) {r : Int} (hr : r = (k : Int) + 1) {a : Nat} {sv : Value} {S : List Int} (hS : BytesAre w sv S) (hn : a + S.length ≤ x.data.length) :
    callD Tryd.prog 50 #[ybT q, i64 r, i64 (a : Int), sv] w fun _ w' => ∃ g' cap' dv, RefT { q with g := g', cap := cap', ar := q.ar.set k { x with dv := dv, data := x.data.take a ++ S ++ x.data.drop (a + S.length) } } w' ∧ StpQ q { q with g := g', cap := cap', ar := q.ar.set k { x with dv := dv, data := x.data.take a ++ S ++ x.data.drop (a + S.length) } } w w' ∧ Fr (fun i => i = q.yb) w w' := by
  have hkl : k < q.ar.length := (List.getElem?_eq_some_iff.1 hk).1
  have hxm := List.mem_of_getElem? hk
  have hxl := h.len x hxm
  have hcnt := h.cnt
  have hw := h.hi
  apply F50_wp
  unfold F50_den
  refine bsl xe_40 [] rfl rfl (by simp) rfl fun v1 w1 ho1 x1 => ?_
  refine ⟨.inl ⟨_, rfl⟩, ?_⟩
  refine ldB (h.ybox.ext x1).boxed (by first | exact fa_105_0 | exact fa_105_1 | exact fa_105_2 | exact fa_105_3 | exact fa_105_4 | exact fa_116_0 | exact fa_116_1 | exact fa_120_0 | exact fa_120_1 | exact fa_42_0 | exact fa_42_1 | exact fa_42_2 | exact fa_42_3 | exact fa_42_4 | exact fa_42_5 | exact fa_42_6 | exact fa_57_0 | exact fa_63_0 | exact fa_63_2 | exact fa_63_3 | exact fa_63_4 | exact fa_80_0 | exact fa_80_2 | exact fa_80_3 | exact fa_80_4 | exact fa_91_0 | exact fa_95_0 | exact fa_95_1 | exact fa_95_2 | exact fa_95_3 | exact fa_95_4 | exact fa_95_5) (by first | exact l1_114 | exact l1_21 | exact l1_23 | exact l1_3 | exact l1_32 | exact l1_39 | exact l1_4 | exact l1_40 | exact l1_5 | exact l1_50 | exact l1_55 | exact l1_59 | exact l1_61 | exact l1_76) rfl (V_sub.2 ?_)
  rw [show IntKind.i64.wrap (r - 1) = (k : Int) from by rw [wrap_id (by omega) (by omega)]; omega]
  refine V.ok (r_ix_114 (by omega) (by omega)) ?_
  have e : 0 + ((k : Nat) : Int).toNat * 5 = k * 5 := by omega
  rw [e]
  refine V.ok r_fd_105_4 ?_
  refine V.ok (r_ld_40 ((h.ext x1).get hk (by omega : 4 < 5))) ?_
  have s1 := x1.size
  refine apS xe_40 ho1 (SliceIs.of_own (x1.own (h.data x hxm))) (all_u8 _) (by omega) (by unfold maxLen; omega) s1 fun v2 w2 ho2 hg2 hl2 => ?_
  rw [Nat.zero_add, List.nil_append] at ho2
  have x2 : Ext w w2 := x1.grown hg2 fun i hi => (ho1.lt i hi).1
  refine ⟨fun v w' => ∃ (i : Nat) (cur : List Int), v = i64 i ∧ i ≤ S.length ∧ CopySo x.data S a i cur ∧ w'.ownsRow w.heap.size 5 1 v2 x.data.length (cur.map u8) ∧ Ext w w', fun v _ => S.length - (RowKit.intOf v).toNat, ⟨0, x.data, rfl, Nat.zero_le _, ⟨rfl, fun j => by rw [if_neg (by omega)]⟩, ho2, x2⟩, ?_⟩
  rintro _ w3 ⟨i, cur, rfl, hi, hcur, ho3, x3⟩ _
  have hS3 := hS.ext x3
  refine lnx (by first | exact xa_114 | exact xa_22 | exact xa_32 | exact xa_39 | exact xa_40 | exact xa_55 | exact xa_61) hS3 ?_
  refine V_lss.2 (ifD_dec (fun hlt => ?_) fun hge => ?_)
  · refine V_add.2 ?_
    rw [show IntKind.i64.wrap ((a : Int) + (i : Int)) = ((a + i : Nat) : Int) from by rw [wrap_id (by omega) (by omega)]; omega]
    refine ldx xa_40 l1_5 hS3 (by omega) (by omega) (getD_u8 (by omega)) ?_
    refine stO xa_40 inf5 ho3 (by omega) (by omega) rfl fun w4 ho4 hg4 => ?_
    rw [Int.toNat_natCast] at ho4
    refine V_add.2 ?_
    rw [wrap_id (by omega) (by omega), i64_succ]
    refine ⟨⟨i + 1, cur.set (a + i) (S.getD i 0), rfl, by omega, hcur.step (by omega) (by omega), ?_, x3.grown hg4 fun j hj => (ho3.lt j hj).1⟩, by simp only [intOf_i64]; omega⟩
    simpa [List.map_set] using ho4
  · have hin : i = S.length := by omega
    subst hin
    have hd := hcur.done hn
    refine bs0K fun w4 h49 x4 l4 => ?_
    have X4 := x3.trans x4
    have h49 := own_mono h49 x3.size
    have s4 := X4.size
    have z3 := x3.size
    refine ⟨.inl ⟨_, rfl⟩, ?_⟩
    refine ldB (h.ybox.ext X4).boxed (by first | exact fa_105_0 | exact fa_105_1 | exact fa_105_2 | exact fa_105_3 | exact fa_105_4 | exact fa_116_0 | exact fa_116_1 | exact fa_120_0 | exact fa_120_1 | exact fa_42_0 | exact fa_42_1 | exact fa_42_2 | exact fa_42_3 | exact fa_42_4 | exact fa_42_5 | exact fa_42_6 | exact fa_57_0 | exact fa_63_0 | exact fa_63_2 | exact fa_63_3 | exact fa_63_4 | exact fa_80_0 | exact fa_80_2 | exact fa_80_3 | exact fa_80_4 | exact fa_91_0 | exact fa_95_0 | exact fa_95_1 | exact fa_95_2 | exact fa_95_3 | exact fa_95_4 | exact fa_95_5) (by first | exact l1_114 | exact l1_21 | exact l1_23 | exact l1_3 | exact l1_32 | exact l1_39 | exact l1_4 | exact l1_40 | exact l1_5 | exact l1_50 | exact l1_55 | exact l1_59 | exact l1_61 | exact l1_76) rfl ?_
    refine cpK h49 (X4.own h.list) (by omega) (by omega) h.rowOne s4 fun g54 c54 w5 h54 hg54 hl54 l5 => ?_
    have X5 : Ext w w5 := X4.grown hg54 fun i hi => (h49.lt i hi).1
    have f54 : Fr (fun i => i = w3.heap.size) w4 w5 := Fr.of_grown hg54 fun i hi => by simpa [Value.ownBlock] using hi.symm
    have hl54 : g54 = w3.heap.size ∨ g54 = w4.heap.size := hl54.imp (fun h => by simpa [Value.ownBlock] using h.symm) id
    have hv2 : ∀ j, v2.ownBlock = some j → j < w3.heap.size := fun j hj => (ho3.lt j hj).2
    have ho5 := f54.own (x4.own ho3) fun j hj e => by have := hv2 j hj; omega
    refine V_sub.2 ?_
    rw [show IntKind.i64.wrap (r - 1) = (k : Int) from by rw [wrap_id (by omega) (by omega)]; omega]
    refine V.ok (r_ix_114 (by omega) (by omega)) ?_
    rw [e]
    refine V.ok r_fd_105_4 ?_
    have hcell := h54.cellAt (k * 5 + 4) (by omega)
    rw [rowC_get hk (by omega : 4 < 5)] at hcell
    refine U.ok (r_store inf40 (own_one ho5) hcell (h54.frozenAt _)) ?_
    refine ⟨.inl ⟨_, rfl⟩, ?_⟩
    have hB := h.above
    have hl : (x.data.take a ++ S ++ x.data.drop (a + S.length)).length = x.data.length := by rw [← hd]; exact hcur.1
    have ho5' : w5.ownsRow w.heap.size 5 1 v2 (x.data.take a ++ S ++ x.data.drop (a + S.length)).length ((x.data.take a ++ S ++ x.data.drop (a + S.length)).map u8) := by
      rw [hl, ← hd]; exact ho5
    obtain ⟨h6, f6, f7⟩ := (h.ext X5).relist hk h54 ho5' (fun e => by have := hv2 _ e; omega) (by rw [hl]; exact hxl) hB
    refine V.ok r_fd_116_1 ?_
    have hy6 := f6.blk ((h.ext X5).ybox) (fun e => (hB _ (h54.lt _ rfl).1).1 (.inr (.inl e.symm)))
    refine stFU inf114 hy6 rfl (by simp) rfl ?_
    refine ⟨g54, c54, v2, h6, h.stpR hk ?_ (h54.lt _ rfl).1 (fun i hi => (ho5.lt i hi).1), ?_⟩
    all_goals have g1 : Ext w (w5.setCell ⟨g54, k * 5 + 4, none⟩ v2) := f6.ext X5 fun i hi => by rw [hi]; exact (h54.lt _ rfl).1
    · exact (Fr.of_ext (S := RMu q) g1).trans (f7.mono fun i hi => .inr (.inl hi)) fun _ _ h => h
    · exact (Fr.of_ext (S := fun i => i = q.yb) g1).trans f7 fun _ _ h => h
set_option maxHeartbeats 3200000 in
theorem setbufR_ok (h : RefT q w) {k : Nat} (hk2 : k < 2) {x : Arr} (hk : q.ar[k]? = some x) {sv : Value} {l : List Int} (hv : ArgsU8 w sv l) (hl : l.length ≤ 64) :
    callD Tryd.prog 31 #[ybT q, i64 ((k : Int) + 1), sv] w fun _ w' => ∃ g' cap' dv, RefT { q with g := g', cap := cap', ar := q.ar.set k { x with dv := dv, data := l } } w' ∧ StpQ q { q with g := g', cap := cap', ar := q.ar.set k { x with dv := dv, data := l } } w w' := by
  have hkl : k < q.ar.length := (List.getElem?_eq_some_iff.1 hk).1
  have hcnt := h.cnt
  apply F31_wp
  unfold F31_den
  obtain ⟨sa, sc, hsv⟩ := hv.shape
  rw [hsv] at hv ⊢
  refine V_lss.2 ?_
  simp only [show ¬ ((k : Int) + 1 < 1) by omega, V_gtr, gd_f, pickD_iff, reduceIte, Bool.false_eq_true, decide_false]
  simp only [show ¬ ((k : Int) + 1 > 2) by omega, gd_f, reduceIte, Bool.false_eq_true, decide_false]
  refine V_ln_40.2 (V_gtr.2 ?_)
  simp only [show ¬ (((l.length : Nat) : Int) > 64) by omega, ifD_false, decide_false]
  refine bs0K fun w4 h49 x4 l4 => ?_
  refine ⟨.inl ⟨_, rfl⟩, ?_⟩
  refine ldB (h.ybox.ext x4).boxed (by first | exact fa_105_0 | exact fa_105_1 | exact fa_105_2 | exact fa_105_3 | exact fa_105_4 | exact fa_116_0 | exact fa_116_1 | exact fa_120_0 | exact fa_120_1 | exact fa_42_0 | exact fa_42_1 | exact fa_42_2 | exact fa_42_3 | exact fa_42_4 | exact fa_42_5 | exact fa_42_6 | exact fa_57_0 | exact fa_63_0 | exact fa_63_2 | exact fa_63_3 | exact fa_63_4 | exact fa_80_0 | exact fa_80_2 | exact fa_80_3 | exact fa_80_4 | exact fa_91_0 | exact fa_95_0 | exact fa_95_1 | exact fa_95_2 | exact fa_95_3 | exact fa_95_4 | exact fa_95_5) (by first | exact l1_114 | exact l1_21 | exact l1_23 | exact l1_3 | exact l1_32 | exact l1_39 | exact l1_4 | exact l1_40 | exact l1_5 | exact l1_50 | exact l1_55 | exact l1_59 | exact l1_61 | exact l1_76) rfl ?_
  refine cpK h49 (x4.own h.list) (by omega) (by omega) h.rowOne x4.size fun g54 c54 w5 h54 hg54 hl54 l5 => ?_
  have X5 : Ext w w5 := x4.grown hg54 fun i hi => (h49.lt i hi).1
  have s5 := X5.size
  refine V_sub.2 ?_
  rw [show IntKind.i64.wrap ((k : Int) + 1 - 1) = (k : Int) from by rw [wrap_id (by omega) (by omega)]; omega]
  refine bsl xe_40 [] rfl rfl (by simp) rfl fun v1 w6 ho1 x6 => ?_
  have X6 := X5.trans x6
  have s6 := x6.size
  refine apArgs ho1 (hv.ext X6) (by omega) s6 fun v2 w7 ho2 hg2 hl2 => ?_
  have f2 : Fr (fun i => v1.ownBlock = some i) w6 w7 := Fr.of_grown hg2 fun i hi => hi
  have X7 : Ext w w7 := X6.grown hg2 fun i hi => Nat.le_trans s5 (ho1.lt i hi).1
  have h54' := f2.own (x6.own h54) fun i hi e => by
    have : g54 = i := by simpa [Value.ownBlock] using hi
    have := (ho1.lt i e).1; omega
  have ho2' := own_mono ho2 s5
  refine V.ok (r_ix_114 (by omega) (by omega)) ?_
  have e : 0 + ((k : Nat) : Int).toNat * 5 = k * 5 := by omega
  rw [e]
  refine V.ok r_fd_105_4 ?_
  have hcell := h54'.cellAt (k * 5 + 4) (by omega)
  rw [rowC_get hk (by omega : 4 < 5)] at hcell
  refine U.ok (r_store inf40 (own_one ho2) hcell (h54'.frozenAt _)) ?_
  refine ⟨.inl ⟨_, rfl⟩, ?_⟩
  have hB := h.above
  obtain ⟨h8, f8, f9⟩ := (h.ext X7).relist hk h54' ho2' (fun e => by have := (ho2.lt _ e).1; omega) hl hB
  refine V.ok r_fd_116_1 ?_
  have hy8 := f8.blk ((h.ext X7).ybox) (fun e => (hB _ (h54.lt _ rfl).1).1 (.inr (.inl e.symm)))
  refine stFU inf114 hy8 rfl (by simp) rfl ?_
  refine ⟨g54, c54, v2, h8, h.stpR hk ?_ (h54.lt _ rfl).1 fun i hi => (ho2'.lt i hi).1⟩
  have g1 : Ext w (w7.setCell ⟨g54, k * 5 + 4, none⟩ v2) := f8.ext X7 fun i hi => by rw [hi]; exact (h54.lt _ rfl).1
  exact (Fr.of_ext (S := RMu q) g1).trans (f9.mono fun i hi => .inr (.inl hi)) fun _ _ h => h
theorem RefT.clear (h : RefT q w) : RefT { q with pub := .slice none 0 0, sec := .slice none 0 0, tp := [], ts := [] } ((w.setCell ⟨q.xb, 0 + 3, none⟩ (.slice none 0 0)).setCell ⟨q.xb, 0 + 4, none⟩ (.slice none 0 0)) ∧ Fr (fun i => i = q.xb) w ((w.setCell ⟨q.xb, 0 + 3, none⟩ (.slice none 0 0)).setCell ⟨q.xb, 0 + 4, none⟩ (.slice none 0 0)) := by
  have r1 := h.xbox.set (j := 3) (by simp) (.slice none 0 0)
  have r2 := r1.set (j := 4) (by simp) (.slice none 0 0)
  have f1 : Fr (fun i => i = q.xb) w (w.setCell ⟨q.xb, 0 + 3, none⟩ (.slice none 0 0)) := Fr.of_set rfl
  have f : Fr (fun i => i = q.xb) w ((w.setCell ⟨q.xb, 0 + 3, none⟩ (.slice none 0 0)).setCell ⟨q.xb, 0 + 4, none⟩ (.slice none 0 0)) := f1.set rfl
  have hM : RMu q q.xb := .inl rfl
  refine ⟨⟨r2, f.blk h.ybox fun e => h.xy e.symm, f.blk h.ubox fun e => h.xu e.symm, f.own h.list fun i hi e => h.dj i (e ▸ hM) (.inl (by simpa [Value.ownBlock] using hi.symm)), fun a ha => f.own (h.data a ha) fun i hi e => h.dj i (e ▸ hM) (.inr (.inl ⟨a, ha, hi⟩)), h.len, ⟨rfl, .inl ⟨rfl, rfl⟩⟩, ⟨rfl, .inl ⟨rfl, rfl⟩⟩, by simp, by simp, f.own h.trow fun i hi e => (h.une i hi).1 e, h.xy, h.xu, h.yu, h.une, fun i hi hr => ?_, h.two, h.cnt, h.sz⟩, f⟩
  rcases hr with hr | hr | hr | hr
  · exact h.dj i hi (.inl hr)
  · exact h.dj i hi (.inr (.inl hr))
  · cases hr
  · cases hr
set_option maxHeartbeats 1600000 in
theorem beginR_ok (h : RefT q w) {pv qv : Value} {a b : List Int} (ha : ArgsU8 w pv a) (hb : ∀ w', Fr (RMu q) w w' → ArgsU8 w' qv b) :
    callD Tryd.prog 19 #[xbT q, pv, qv] w fun r w' => ∃ q', r = .bool (sBegin q.ps a b).1 ∧ q'.ps = (sBegin q.ps a b).2 ∧ RefT q' w' ∧ StpQ q q' w w' := by
  apply F19_wp
  unfold F19_den
  obtain ⟨a1, c1, rfl⟩ := ha.shape
  obtain ⟨b1, d1, rfl⟩ := (hb w (Fr.refl _ _)).shape
  refine V_ln_40.2 (V_gtr.2 ?_)
  by_cases h1 : ((a.length : Nat) : Int) > 64
  · simp only [h1, gd_tf, pickD_iff, ifD_true, reduceIte, decide_true]
    refine ⟨q, ?_, ?_, h, StpQ.of_ext (Ext.refl _)⟩ <;> unfold sBegin <;> rw [if_pos (.inl (by omega))]
  simp only [h1, gd_f, pickD_iff, reduceIte, Bool.false_eq_true, decide_false]
  refine V_ln_40.2 (V_gtr.2 ?_)
  by_cases h2 : ((b.length : Nat) : Int) > 64
  · simp only [h2, ifD_true, decide_true]
    refine ⟨q, ?_, ?_, h, StpQ.of_ext (Ext.refl _)⟩ <;> unfold sBegin <;> rw [if_pos (.inr (by omega))]
  simp only [h2, ifD_false, decide_false]
  have hno : ¬ (a.length > 64 ∨ b.length > 64) := by omega
  have htwo := h.two
  obtain ⟨x, hx⟩ := ex_get (l := q.ar) (j := 0) (by omega)
  obtain ⟨y, hy⟩ := ex_get (l := q.ar) (j := 1) (by omega)
  refine ⟨.inl ⟨_, rfl⟩, ?_⟩
  refine ldB h.xbox.boxed (by first | exact fa_105_0 | exact fa_105_1 | exact fa_105_2 | exact fa_105_3 | exact fa_105_4 | exact fa_116_0 | exact fa_116_1 | exact fa_120_0 | exact fa_120_1 | exact fa_42_0 | exact fa_42_1 | exact fa_42_2 | exact fa_42_3 | exact fa_42_4 | exact fa_42_5 | exact fa_42_6 | exact fa_57_0 | exact fa_63_0 | exact fa_63_2 | exact fa_63_3 | exact fa_63_4 | exact fa_80_0 | exact fa_80_2 | exact fa_80_3 | exact fa_80_4 | exact fa_91_0 | exact fa_95_0 | exact fa_95_1 | exact fa_95_2 | exact fa_95_3 | exact fa_95_4 | exact fa_95_5) (by first | exact l1_114 | exact l1_21 | exact l1_23 | exact l1_3 | exact l1_32 | exact l1_39 | exact l1_4 | exact l1_40 | exact l1_5 | exact l1_50 | exact l1_55 | exact l1_59 | exact l1_61 | exact l1_76) rfl ?_
  refine (setbufR_ok h (k := 0) (by omega) hx ha (by omega)).mono fun _ w1 ⟨g1, c1', v1, k1, s1⟩ => ?_
  refine ⟨.inl ⟨_, rfl⟩, ?_⟩
  refine ldB k1.xbox.boxed (by first | exact fa_105_0 | exact fa_105_1 | exact fa_105_2 | exact fa_105_3 | exact fa_105_4 | exact fa_116_0 | exact fa_116_1 | exact fa_120_0 | exact fa_120_1 | exact fa_42_0 | exact fa_42_1 | exact fa_42_2 | exact fa_42_3 | exact fa_42_4 | exact fa_42_5 | exact fa_42_6 | exact fa_57_0 | exact fa_63_0 | exact fa_63_2 | exact fa_63_3 | exact fa_63_4 | exact fa_80_0 | exact fa_80_2 | exact fa_80_3 | exact fa_80_4 | exact fa_91_0 | exact fa_95_0 | exact fa_95_1 | exact fa_95_2 | exact fa_95_3 | exact fa_95_4 | exact fa_95_5) (by first | exact l1_114 | exact l1_21 | exact l1_23 | exact l1_3 | exact l1_32 | exact l1_39 | exact l1_4 | exact l1_40 | exact l1_5 | exact l1_50 | exact l1_55 | exact l1_59 | exact l1_61 | exact l1_76) rfl ?_
  have hy1 : (q.ar.set 0 { x with dv := v1, data := a })[1]? = some y := by rw [List.getElem?_set_ne (by decide)]; exact hy
  refine (setbufR_ok k1 (k := 1) (by omega) hy1 (hb w1 s1.fr) (by omega)).mono fun _ w2 ⟨g2, c2, v2, k2, s2⟩ => ?_
  have S2 := s1.trans s2
  refine ⟨.inl ⟨_, rfl⟩, ?_⟩
  refine V.ok r_fd_63_3 ?_
  refine stFS inf40 k2.xbox rfl (by simp) rfl ?_
  have r3 := k2.xbox.set (j := 3) (by simp) (.slice none 0 0)
  refine ⟨.inl ⟨_, rfl⟩, ?_⟩
  refine V.ok r_fd_63_4 ?_
  refine stFS inf40 r3 rfl (by simp) rfl ?_
  obtain ⟨k4, f4⟩ := k2.clear
  refine ⟨_, ?_, ?_, k4, S2.trans ⟨rfl, rfl, rfl, rfl, rfl, rfl, fun i hi => ?_, fun i hi => .inl hi, f4.mono fun i hi => .inl hi⟩⟩
  · unfold sBegin; rw [if_neg hno]
  · unfold sBegin; rw [if_neg hno]
    show (⟨q.size, ((q.ar.set 0 { x with dv := v1, data := a }).set 1 { y with dv := v2, data := b }).map pa, [], [], q.tr⟩ : PS) = _
    rw [set_dv (r := 2) hy1 (by omega), set_dv (r := 1) hx (by omega)]
    rfl
  · rcases hi with hi | hm | hm | hm | hm
    · exact .inl hi
    · exact .inr (.inl (.inl hm))
    · exact .inr (.inl (.inr (.inl hm)))
    · cases hm
    · cases hm
end
end Go.Proofs.YtgjmpnngheohbaaDoor
