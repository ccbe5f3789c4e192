/- RoomServes: a room, and what shows. RoomServes: length, get, put. RoomServes: both ranges; copy. RoomServes: same. -/
import Derived.Test.YtgjmpnngheohbaaDoorJa
import Derived.Test.YtgjmpnngheohbaaDoorJb
namespace Go.Vc
theorem Seg.boxed {w : World} {b : Nat} {cs : List Value} (h : Seg w b 0 cs) : Boxed w b cs := fun j u hj => h.cell hj
theorem Fr.seg {S : Nat → Prop} {w w' : World} {b o : Nat} {cs : List Value} (f : Fr S w w') (h : Seg w b o cs) (hn : ¬ S b) : Seg w' b o cs := h.of (f.block b h.lt hn)
/-- A store into a field of what lies at b. -/
theorem stFS {P : Program} {w : World} {K : World → Prop} {ft b o n by_ : Nat} {z u : Value} {cs : List Value} (hi : Inf P ft z 1 by_) (hb : Seg w b 0 cs) (hn : cs.length = n) (ho : o < n) (hu : oneC u = true) (hk : K (w.setCell ⟨b, 0 + o, none⟩ u)) :
    U P (Instr.storeAt ft (.pointer (some ⟨b, 0 + o, none⟩)) u) w fun _ w2 => K w2 :=
  U.ok (r_store hi hu (hb.cell (List.getElem?_eq_getElem (by omega))) (hb.frozen (by omega))) hk
end Go.Vc
namespace Go.Proofs.YtgjmpnngheohbaaDoor
open Go.Vc
/-- What shows. -/
structure Evt where
  what : Int
  a : Int
  b : Int
  c : Int
def Evt.cells (e : Evt) : List Value := [i64 e.what, i64 e.a, i64 e.b, i64 e.c]
def trC (l : List Evt) : List Value := l.flatMap Evt.cells
theorem trC_app (l m : List Evt) : trC (l ++ m) = trC l ++ trC m := by simp [trC]
theorem trC_one (l : List Evt) : (trC l).all oneC = true := by
  rw [List.all_eq_true]
  intro v hv
  obtain ⟨e, _, he⟩ := List.mem_flatMap.1 hv
  simp only [Evt.cells, List.mem_cons, List.not_mem_nil, or_false] at he
  rcases he with rfl | rfl | rfl | rfl <;> rfl
/-- An array, but for where its bytes lie. -/
structure PA where
  owner : Int
  label : Int
  life : Int
  share : Bool
  data : List Int
def pa (a : Arr) : PA := ⟨a.owner, a.label, a.life, a.share, a.data⟩
/-- A room's state. -/
structure PS where
  size : Int
  ar : List PA
  tp : List Int
  ts : List Int
  tr : List Evt
def PS.ev (s : PS) (l : List Evt) : PS := { s with tr := s.tr ++ l }
/-- Where a room lies. -/
structure RP where
  (rb hb B g cap tb : Nat) (size : Int) (ar : List Arr) (iv fv pub sec tv : Value) (tp ts : List Int) (tr : List Evt)
def RP.ps (p : RP) : PS := ⟨p.size, p.ar.map pa, p.tp, p.ts, p.tr⟩
@[reducible] def RP.ev1 (p : RP) (tv' : Value) (e : Evt) : RP := { p with tv := tv', tr := p.tr ++ [e] }
def MuP (p : RP) (i : Nat) : Prop := i = p.rb ∨ i = p.hb ∨ i = p.g ∨ (∃ a ∈ p.ar, a.dv.ownBlock = some i) ∨ p.pub.ownBlock = some i ∨ p.sec.ownBlock = some i
def TbP (p : RP) (i : Nat) : Prop := i = p.tb ∨ p.tv.ownBlock = some i
def okB (l : List Int) : Prop := ∀ b ∈ l, 0 ≤ b ∧ b < 256
structure RoomT (p : RP) (w : World) : Prop where
  room : Seg w p.rb 0 [.pointer (some ⟨p.hb, 0, none⟩), p.iv, p.fv, p.pub, p.sec]
  h : HeapG w p.hb p.B p.size p.g p.cap p.ar
  qp : w.ownsRow p.B 5 1 p.pub p.tp.length (p.tp.map u8)
  qs : w.ownsRow p.B 5 1 p.sec p.ts.length (p.ts.map u8)
  lp : p.tp.length ≤ 128
  ls : p.ts.length ≤ 128
  ne : ∀ x, p.pub.ownBlock = some x → p.sec.ownBlock ≠ some x
  np : ∀ a ∈ p.ar, ∀ x, a.dv.ownBlock = some x → p.pub.ownBlock ≠ some x
  ns : ∀ a ∈ p.ar, ∀ x, a.dv.ownBlock = some x → p.sec.ownBlock ≠ some x
  gp : p.pub.ownBlock ≠ some p.g
  gs : p.sec.ownBlock ≠ some p.g
  lt : p.rb ≠ p.hb
  fresh : ∀ x, (x = p.rb ∨ x = p.hb) → x ≠ p.g ∧ (∀ a ∈ p.ar, a.dv.ownBlock ≠ some x) ∧ p.pub.ownBlock ≠ some x ∧ p.sec.ownBlock ≠ some x
  tbox : Blk w p.tb [p.tv] 91
  trow : w.ownsRow p.B 74 4 p.tv p.tr.length (trC p.tr)
  tne : p.tv.ownBlock ≠ some p.tb
  tfr : ∀ i, TbP p i → ¬ MuP p i
  two : 2 ≤ p.ar.length
  sz : 0 ≤ p.size ∧ p.size ≤ 1000
  bytes : ∀ a ∈ p.ar, okB a.data
variable {p : RP} {w w' : World}
theorem RoomT.hi (h : RoomT p w) : ∀ i, MuP p i ∨ TbP p i → i < w.heap.size := by
  intro i hm
  rcases hm with (rfl | rfl | rfl | ⟨a, ha, he⟩ | he | he) | rfl | he
  · exact h.room.lt
  · exact h.h.heap.lt
  · exact (h.h.row.lt _ rfl).2
  · exact ((h.h.data a ha).lt _ he).2
  · exact (h.qp.lt _ he).2
  · exact (h.qs.lt _ he).2
  · exact h.tbox.lt
  · exact (h.trow.lt _ he).2
theorem HeapG.frT {S : Nat → Prop} {hb B : Nat} {size : Int} {g cap : Nat} {ar : List Arr} (h : HeapG w hb B size g cap ar) (hf : Fr S w w') (hn : ∀ i, S i → i ≠ hb ∧ i ≠ g ∧ ∀ a ∈ ar, a.dv.ownBlock ≠ some i) : HeapG w' hb B size g cap ar :=
  ⟨hf.blk h.heap fun hs => (hn _ hs).1 rfl, hf.own h.row fun i hi hs => (hn i hs).2.1 (by simpa [Value.ownBlock] using hi.symm), fun a ha => hf.own (h.data a ha) fun i hi hs => (hn i hs).2.2 a ha hi, h.len, h.dist, h.drow, by have := hf.size; have := h.lt; omega, h.cnt, h.fresh⟩
theorem RoomT.fr {S : Nat → Prop} (h : RoomT p w) (f : Fr S w w') (hn : ∀ i, S i → ¬ MuP p i ∧ ¬ TbP p i) : RoomT p w' :=
  ⟨f.seg h.room fun hs => (hn _ hs).1 (.inl rfl), h.h.frT f fun i hs => ⟨fun e => (hn i hs).1 (.inr (.inl e)), fun e => (hn i hs).1 (.inr (.inr (.inl e))), fun a ha e => (hn i hs).1 (.inr (.inr (.inr (.inl ⟨a, ha, e⟩))))⟩,
    f.own h.qp fun i hi hs => (hn i hs).1 (.inr (.inr (.inr (.inr (.inl hi))))), f.own h.qs fun i hi hs => (hn i hs).1 (.inr (.inr (.inr (.inr (.inr hi))))), h.lp, h.ls, h.ne, h.np, h.ns, h.gp, h.gs, h.lt, h.fresh,
    f.blk h.tbox fun hs => (hn _ hs).2 (.inl rfl), f.own h.trow fun i hi hs => (hn i hs).2 (.inr hi), h.tne, h.tfr, h.two, h.sz, h.bytes⟩
theorem RoomT.ext (h : RoomT p w) (hx : Ext w w') : RoomT p w' := h.fr (Fr.of_ext (S := fun _ => False) hx) fun _ hf => hf.elim
def svcT (p : RP) (who a b : Int) (av : Value) : Value := .agg #[.pointer (some ⟨p.rb, 0, none⟩), .pointer (some ⟨p.tb, 0, none⟩), i64 who, i64 a, i64 b, av]
/-- From one state to another. -/
structure Stp (p p' : RP) (w w' : World) : Prop where
  rb : p'.rb = p.rb
  hb : p'.hb = p.hb
  B : p'.B = p.B
  tb : p'.tb = p.tb
  size : p'.size = p.size
  iv : p'.iv = p.iv
  fv : p'.fv = p.fv
  mu : ∀ i, MuP p' i ∨ TbP p' i → MuP p i ∨ TbP p i ∨ w.heap.size ≤ i
  fr : Fr (fun i => MuP p i ∨ TbP p i) w w'
theorem Stp.of_ext (hx : Ext w w') : Stp p p w w' := ⟨rfl, rfl, rfl, rfl, rfl, rfl, rfl, fun i hi => hi.elim .inl fun h => .inr (.inl h), Fr.of_ext hx⟩
theorem Stp.trans {p1 p2 : RP} {w1 w2 : World} (h : Stp p p1 w w1) (k : Stp p1 p2 w1 w2) : Stp p p2 w w2 :=
  ⟨k.rb.trans h.rb, k.hb.trans h.hb, k.B.trans h.B, k.tb.trans h.tb, k.size.trans h.size, k.iv.trans h.iv, k.fv.trans h.fv, fun i hi => by
    rcases k.mu i hi with h1 | h1 | h1
    · exact h.mu i (.inl h1)
    · exact h.mu i (.inr h1)
    · exact .inr (.inr (Nat.le_trans h.fr.size h1)), h.fr.trans k.fr fun i hi hs => by
    rcases h.mu i hs with h1 | h1 | h1
    · exact .inl h1
    · exact .inr h1
    · omega⟩
/-- An event is added. -/
theorem addT_ok (h : RoomT p w) (hl : p.tr.length ≤ 100000) {e : Evt} : callD Tryd.prog 84 #[.pointer (some ⟨p.tb, 0, none⟩), i64 e.what, i64 e.a, i64 e.b, i64 e.c] w fun _ w' =>
    ∃ tv', RoomT (p.ev1 tv' e) w' ∧ Stp p (p.ev1 tv' e) w w' ∧ Fr (TbP p) w w' ∧ ∀ i, TbP (p.ev1 tv' e) i → TbP p i ∨ w.heap.size ≤ i := by
  apply F84_wp
  unfold F84_den
  refine ⟨.inl ⟨_, rfl⟩, ?_⟩
  refine ldB h.tbox.boxed (by first | exact fa_105_0 | exact fa_105_1 | exact fa_105_2 | exact fa_105_3 | exact fa_105_4 | exact fa_116_0 | exact fa_116_1 | exact fa_120_0 | exact fa_120_1 | exact fa_42_0 | exact fa_42_1 | exact fa_42_2 | exact fa_42_3 | exact fa_42_4 | exact fa_42_5 | exact fa_42_6 | exact fa_57_0 | exact fa_63_0 | exact fa_63_2 | exact fa_63_3 | exact fa_63_4 | exact fa_80_0 | exact fa_80_2 | exact fa_80_3 | exact fa_80_4 | exact fa_91_0 | exact fa_95_0 | exact fa_95_1 | exact fa_95_2 | exact fa_95_3 | exact fa_95_4 | exact fa_95_5) (by first | exact l1_114 | exact l1_21 | exact l1_23 | exact l1_3 | exact l1_32 | exact l1_39 | exact l1_4 | exact l1_40 | exact l1_5 | exact l1_50 | exact l1_55 | exact l1_59 | exact l1_61 | exact l1_76) rfl (lnx xa_55 (SliceIs.of_own h.trow) ?_)
  refine V_geq.2 ?_
  simp only [show ¬ ((p.tr.length : Int) ≥ 200000) by omega, ifD_false, decide_false]
  refine ⟨.inl ⟨_, rfl⟩, ?_⟩
  refine ldB h.tbox.boxed (by first | exact fa_105_0 | exact fa_105_1 | exact fa_105_2 | exact fa_105_3 | exact fa_105_4 | exact fa_116_0 | exact fa_116_1 | exact fa_120_0 | exact fa_120_1 | exact fa_42_0 | exact fa_42_1 | exact fa_42_2 | exact fa_42_3 | exact fa_42_4 | exact fa_42_5 | exact fa_42_6 | exact fa_57_0 | exact fa_63_0 | exact fa_63_2 | exact fa_63_3 | exact fa_63_4 | exact fa_80_0 | exact fa_80_2 | exact fa_80_3 | exact fa_80_4 | exact fa_91_0 | exact fa_95_0 | exact fa_95_1 | exact fa_95_2 | exact fa_95_3 | exact fa_95_4 | exact fa_95_5) (by first | exact l1_114 | exact l1_21 | exact l1_23 | exact l1_3 | exact l1_32 | exact l1_39 | exact l1_4 | exact l1_40 | exact l1_5 | exact l1_50 | exact l1_55 | exact l1_59 | exact l1_61 | exact l1_76) rfl ?_
  refine bld bd_74 [(0, i64 e.what), (1, i64 e.a), (2, i64 e.b), (3, i64 e.c)] rfl rfl ?_
  refine V.ok (v := .slice (some ⟨w.heap.size, 0, none⟩) 1 1) (w' := w.alloc (.cells e.cells.toArray 74)) (by kernel_rfl) ?_
  have hb1 : Blk (w.alloc (.cells e.cells.toArray 74)) w.heap.size e.cells 74 := by unfold Blk; rw [heap_alloc_new]
  have x1 : Ext w (w.alloc (.cells e.cells.toArray 74)) := (Ext.refl _).alloc _
  generalize w.alloc (.cells e.cells.toArray 74) = w1 at hb1 x1 ⊢
  have ho1 : w1.ownsRow 0 74 4 (.slice (some ⟨w.heap.size, 0, none⟩) 1 1) 1 e.cells := own_blk hb1 rfl (Nat.zero_le _) (by unfold maxLen; omega)
  have h1 := h.ext x1
  have hlt := h1.h.lt
  refine apZ Tryd.underlying55 inf74 rfl (by omega) h1.trow ho1 (by omega) (by rfl) (by omega) (by unfold maxLen; omega) (by omega) fun g' cap' w2 ho2 hg2 hlies => ?_
  have f2 : Fr (fun i => p.tv.ownBlock = some i) w1 w2 := Fr.of_grown hg2 fun k hk => hk
  refine ⟨.inl ⟨_, rfl⟩, ?_⟩
  refine V.ok r_fd_91_0 ?_
  have hb2 := f2.blk h1.tbox h.tne
  have htl := h.tbox.lt
  have s1 := x1.size
  refine stFU inf55 hb2 rfl (by simp) rfl ?_
  have f3 : Fr (fun i => i = p.tb) w2 (w2.setCell ⟨p.tb, 0, none⟩ (.slice (some ⟨g', 0, none⟩) (p.tr.length + 1) cap')) := Fr.of_set rfl
  have hb3 := hb2.set 0 (.slice (some ⟨g', 0, none⟩) (p.tr.length + 1) cap')
  have hgt : ¬ g' = p.tb := fun he => by
    rcases hlies with hl | hl
    · exact h.tne (he ▸ hl)
    · omega
  have ho3 := f3.own ho2 fun k hk => by
    have : g' = k := by simpa [Value.ownBlock] using hk
    omega
  generalize w2.setCell ⟨p.tb, 0, none⟩ (.slice (some ⟨g', 0, none⟩) (p.tr.length + 1) cap') = w3 at f3 hb3 ho3 ⊢
  have F : Fr (TbP p) w w3 := ((Fr.of_ext (S := fun i => p.tv.ownBlock = some i) x1).trans f2 fun _ _ h => h).or f3 |>.mono fun i hi => hi.elim .inr .inl
  have hS : ∀ i, TbP p i → ¬ MuP p i := h.tfr
  have hlie : ∀ i, g' = i → TbP p i ∨ w.heap.size ≤ i := fun i hi => by
    subst hi
    rcases hlies with hl | hl
    · exact .inl (.inr hl)
    · exact .inr (by omega)
  have hgm : ¬ MuP p g' := fun hm => by
    rcases hlie g' rfl with h' | h'
    · exact h.tfr _ h' hm
    · have := h.hi g' (.inl hm); omega
  refine ⟨.slice (some ⟨g', 0, none⟩) (p.tr.length + 1) cap', ⟨F.seg h.room fun hs => hS _ hs (.inl rfl), h.h.frT F fun i hs => ⟨fun e => hS i hs (.inr (.inl e)), fun e => hS i hs (.inr (.inr (.inl e))), fun a ha e => hS i hs (.inr (.inr (.inr (.inl ⟨a, ha, e⟩))))⟩,
    F.own h.qp fun i hi hs => hS i hs (.inr (.inr (.inr (.inr (.inl hi))))), F.own h.qs fun i hi hs => hS i hs (.inr (.inr (.inr (.inr (.inr hi))))), h.lp, h.ls, h.ne, h.np, h.ns, h.gp, h.gs, h.lt, h.fresh, hb3, ?_, fun he => hgt (by simpa [Value.ownBlock] using he), fun i hi hm => ?_, h.two, h.sz, h.bytes⟩, ⟨rfl, rfl, rfl, rfl, rfl, rfl, rfl, fun i hi => ?_, F.mono fun i hi => .inr hi⟩, F, fun i hi => ?_⟩
  · show w3.ownsRow p.B 74 4 (.slice (some ⟨g', 0, none⟩) (p.tr.length + 1) cap') (p.tr ++ [e]).length (trC (p.tr ++ [e]))
    rw [trC_app, List.length_append]
    have : trC [e] = e.cells := by simp [trC]
    rw [this]
    exact ho3
  · rcases hi with hi | hi
    · exact h.tfr i (.inl hi) hm
    · have : g' = i := by simpa [Value.ownBlock] using hi
      exact hgm (this ▸ hm)
  · rcases hi with hi | hi | hi
    · exact .inl hi
    · exact .inr (.inl (.inl hi))
    · have : g' = i := by simpa [Value.ownBlock] using hi
      exact .inr (hlie i this)
  · rcases hi with hi | hi
    · exact .inl (.inl hi)
    · have : g' = i := by simpa [Value.ownBlock] using hi
      exact hlie i this
theorem r_neqPtrS {P : Program} {w : World} {s e : TypeId} (hs : P.underlying s = some (.pointer e)) {x y : Operand} {a : Addr} :
    (do eqGuard .neq s x y (.pointer (some a)) (.pointer none); binOp .neq s (.pointer (some a)) (.pointer none)).run P w = .ok (.bool true) w := by
  simp [eqGuard, binOp, equal_succ, q_ptr hs]
theorem showsT_ok (h : RoomT p w) (hl : p.tr.length ≤ 100000) {who a b k q r s : Int} {av : Value} : callD Tryd.prog 67 #[svcT p who a b av, i64 k, i64 q, i64 r, i64 s] w fun _ w' =>
    ∃ tv', RoomT (p.ev1 tv' ⟨k, q, r, s⟩) w' ∧ Stp p (p.ev1 tv' ⟨k, q, r, s⟩) w w' ∧ Fr (TbP p) w w' ∧ ∀ i, TbP (p.ev1 tv' ⟨k, q, r, s⟩) i → TbP p i ∨ w.heap.size ≤ i := by
  apply F67_wp
  unfold F67_den
  refine bx fun b w1 hb x1 => ?_
  refine ldB hb (by first | exact fa_105_0 | exact fa_105_1 | exact fa_105_2 | exact fa_105_3 | exact fa_105_4 | exact fa_116_0 | exact fa_116_1 | exact fa_120_0 | exact fa_120_1 | exact fa_42_0 | exact fa_42_1 | exact fa_42_2 | exact fa_42_3 | exact fa_42_4 | exact fa_42_5 | exact fa_42_6 | exact fa_57_0 | exact fa_63_0 | exact fa_63_2 | exact fa_63_3 | exact fa_63_4 | exact fa_80_0 | exact fa_80_2 | exact fa_80_3 | exact fa_80_4 | exact fa_91_0 | exact fa_95_0 | exact fa_95_1 | exact fa_95_2 | exact fa_95_3 | exact fa_95_4 | exact fa_95_5) (by first | exact l1_114 | exact l1_21 | exact l1_23 | exact l1_3 | exact l1_32 | exact l1_39 | exact l1_4 | exact l1_40 | exact l1_5 | exact l1_50 | exact l1_55 | exact l1_59 | exact l1_61 | exact l1_76) rfl ?_
  refine V.ok (r_neqPtrS Tryd.underlying50) (ifD_true.2 ?_)
  refine ldB hb (by first | exact fa_105_0 | exact fa_105_1 | exact fa_105_2 | exact fa_105_3 | exact fa_105_4 | exact fa_116_0 | exact fa_116_1 | exact fa_120_0 | exact fa_120_1 | exact fa_42_0 | exact fa_42_1 | exact fa_42_2 | exact fa_42_3 | exact fa_42_4 | exact fa_42_5 | exact fa_42_6 | exact fa_57_0 | exact fa_63_0 | exact fa_63_2 | exact fa_63_3 | exact fa_63_4 | exact fa_80_0 | exact fa_80_2 | exact fa_80_3 | exact fa_80_4 | exact fa_91_0 | exact fa_95_0 | exact fa_95_1 | exact fa_95_2 | exact fa_95_3 | exact fa_95_4 | exact fa_95_5) (by first | exact l1_114 | exact l1_21 | exact l1_23 | exact l1_3 | exact l1_32 | exact l1_39 | exact l1_4 | exact l1_40 | exact l1_5 | exact l1_50 | exact l1_55 | exact l1_59 | exact l1_61 | exact l1_76) rfl ?_
  refine (addT_ok (h.ext x1) hl (e := ⟨k, q, r, s⟩)).mono fun _ w2 ⟨tv', h2, s2, f2, t2⟩ => ?_
  exact ⟨tv', h2, (Stp.of_ext x1).trans s2, (Fr.of_ext (S := TbP p) x1).trans f2 fun _ _ h => h, fun i hi => (t2 i hi).imp id fun h => Nat.le_trans x1.size h⟩
theorem touchT_ok (h : RoomT p w) (hl : p.tr.length ≤ 100000) {who a b q r s : Int} {av : Value} : callD Tryd.prog 69 #[svcT p who a b av, i64 q, i64 r, i64 s] w fun _ w' =>
    ∃ tv', RoomT (p.ev1 tv' ⟨2, q, r, s⟩) w' ∧ Stp p (p.ev1 tv' ⟨2, q, r, s⟩) w w' ∧ Fr (TbP p) w w' ∧ ∀ i, TbP (p.ev1 tv' ⟨2, q, r, s⟩) i → TbP p i ∨ w.heap.size ≤ i := by
  apply F69_wp
  unfold F69_den
  refine bx fun b w1 hb x1 => ?_
  refine ldA hb la_95 rfl ?_
  refine (showsT_ok (h.ext x1) hl).mono fun _ w2 ⟨tv', h2, s2, f2, t2⟩ => ?_
  exact ⟨tv', h2, (Stp.of_ext x1).trans s2, (Fr.of_ext (S := TbP p) x1).trans f2 fun _ _ h => h, fun i hi => (t2 i hi).imp id fun h => Nat.le_trans x1.size h⟩
end Go.Proofs.YtgjmpnngheohbaaDoor
namespace Go.Proofs.YtgjmpnngheohbaaDoor
open Go.Vc
def mayP (a : PA) (who : Int) : Bool := decide (a.owner = -1) || decide (a.owner = who) || a.share
def chkP (l : List PA) (r who : Int) : Int := if 1 ≤ r ∧ r ≤ l.length then (match l[r.toNat - 1]? with | some a => if mayP a who then 36864 else 28420 | none => 28417) else 28417
def rngP (l : List PA) (r a n who : Int) : Int := if chkP l r who = 36864 then (match l[r.toNat - 1]? with | some x => if a < 0 ∨ n < 0 ∨ a > x.data.length ∨ n > x.data.length - a then 28418 else 36864 | none => 28418) else chkP l r who
def datP (l : List PA) (r : Int) : List Int := match l[r.toNat - 1]? with | some x => x.data | none => []
def setP (l : List PA) (r : Int) (d : List Int) : List PA := match l[r.toNat - 1]? with | some x => l.set (r.toNat - 1) { x with data := d } | none => l
theorem chk_pa (ar : List Arr) (r who : Int) : chk ar r who = chkP (ar.map pa) r who := by
  unfold chk chkP
  simp only [List.length_map, List.getElem?_map]
  cases ar[r.toNat - 1]? <;> rfl
theorem rng_pa (ar : List Arr) (r a n who : Int) : rng ar r a n who = rngP (ar.map pa) r a n who := by
  unfold rng rngP
  rw [chk_pa]
  simp only [List.getElem?_map]
  cases ar[r.toNat - 1]? <;> rfl
theorem dat_pa {ar : List Arr} {r : Int} {k : Nat} {x : Arr} (hk : ar[k]? = some x) (hr : r = (k : Int) + 1) : datP (ar.map pa) r = x.data := by
  unfold datP
  rw [List.getElem?_map, show r.toNat - 1 = k by omega, hk]
  rfl
theorem map_set (ar : List Arr) (k : Nat) (y : Arr) : (ar.set k y).map pa = (ar.map pa).set k (pa y) := by simp
theorem set_pa {ar : List Arr} {r : Int} {k : Nat} {x : Arr} (hk : ar[k]? = some x) (hr : r = (k : Int) + 1) (d : List Int) : (ar.set k { x with data := d }).map pa = setP (ar.map pa) r d := by
  unfold setP
  rw [List.getElem?_map, show r.toNat - 1 = k by omega, hk, map_set]
  rfl
abbrev Res := Int × Int × PS
def sLen (s : PS) (who r : Int) : Res := if chkP s.ar r who = 36864 then (IntKind.i32.wrap (((datP s.ar r).length : Nat) : Int), 36864, s.ev [⟨2, r, 0, 0⟩]) else (0, chkP s.ar r who, s.ev [⟨2, r, 0, 0⟩])
def sGet (s : PS) (who r a : Int) : Res := if rngP s.ar r a 1 who = 36864 then (IntKind.i32.wrap ((datP s.ar r).getD a.toNat 0), 36864, s.ev [⟨2, r, a, 1⟩]) else (0, rngP s.ar r a 1 who, s.ev [⟨2, r, a, 1⟩])
def sPut (s : PS) (who r a z : Int) : Res := if rngP s.ar r a 1 who = 36864 then (0, 36864, { s.ev [⟨2, r, a, 1⟩] with ar := setP s.ar r ((datP s.ar r).set a.toNat (IntKind.u8.wrap z)) }) else (0, rngP s.ar r a 1 who, s.ev [⟨2, r, a, 1⟩])
/-- What a service answers, and leaves. -/
def SvR (p : RP) (w : World) (x : Res) (r : Value) (w' : World) : Prop := ∃ p', r = .tuple #[i32 x.1, i64 x.2.1] ∧ p'.ps = x.2.2 ∧ RoomT p' w' ∧ Stp p p' w w'
section
variable {p : RP} {w w' : World} {av : Value}
theorem svEnd {p1 : RP} {w1 : World} (h1 : RoomT p1 w1) (s1 : Stp p p1 w w1) (hx : Ext w1 w') {x : Res} {r : Value} (hr : r = .tuple #[i32 x.1, i64 x.2.1]) (hp : p1.ps = x.2.2) : SvR p w x r w' :=
  ⟨p1, hr, hp, h1.ext hx, s1.trans (Stp.of_ext hx)⟩
theorem RoomT.nT (h : RoomT p w) : ¬ TbP p w.heap.size := fun ht => by have := h.hi _ (.inr ht); omega
theorem RoomT.nM (h : RoomT p w) : ¬ MuP p w.heap.size := fun ht => by have := h.hi _ (.inl ht); omega
theorem rangesT_ok (h : RoomT p w) {who sa sb r a n : Int} :
    callD Tryd.prog 71 #[svcT p who sa sb av, i64 r, i64 a, i64 n] w fun q w' => q = i64 (rngP (p.ar.map pa) r a n who) ∧ Ext w w' := by
  rw [← rng_pa]
  apply F71_wp
  unfold F71_den
  refine bx fun b w1 hb1 x1 => ?_
  have D1 : Ext w1 w1.drew := (Ext.refl _).drew
  refine drawD.mk' (fun w' => Ext w1 w') D1 ?_
  refine yfB (fun w' hw => hb1.ext hw) (by first | exact fa_105_0 | exact fa_105_1 | exact fa_105_2 | exact fa_105_3 | exact fa_105_4 | exact fa_116_0 | exact fa_116_1 | exact fa_120_0 | exact fa_120_1 | exact fa_42_0 | exact fa_42_1 | exact fa_42_2 | exact fa_42_3 | exact fa_42_4 | exact fa_42_5 | exact fa_42_6 | exact fa_57_0 | exact fa_63_0 | exact fa_63_2 | exact fa_63_3 | exact fa_63_4 | exact fa_80_0 | exact fa_80_2 | exact fa_80_3 | exact fa_80_4 | exact fa_91_0 | exact fa_95_0 | exact fa_95_1 | exact fa_95_2 | exact fa_95_3 | exact fa_95_4 | exact fa_95_5) (by first | exact l1_114 | exact l1_21 | exact l1_23 | exact l1_3 | exact l1_32 | exact l1_39 | exact l1_4 | exact l1_40 | exact l1_5 | exact l1_50 | exact l1_55 | exact l1_59 | exact l1_61 | exact l1_76) rfl ?_
  refine ⟨.inl ⟨_, rfl⟩, ?_⟩
  refine yfB (fun w' hw => (h.room.ext (x1.trans hw)).boxed) (by first | exact fa_105_0 | exact fa_105_1 | exact fa_105_2 | exact fa_105_3 | exact fa_105_4 | exact fa_116_0 | exact fa_116_1 | exact fa_120_0 | exact fa_120_1 | exact fa_42_0 | exact fa_42_1 | exact fa_42_2 | exact fa_42_3 | exact fa_42_4 | exact fa_42_5 | exact fa_42_6 | exact fa_57_0 | exact fa_63_0 | exact fa_63_2 | exact fa_63_3 | exact fa_63_4 | exact fa_80_0 | exact fa_80_2 | exact fa_80_3 | exact fa_80_4 | exact fa_91_0 | exact fa_95_0 | exact fa_95_1 | exact fa_95_2 | exact fa_95_3 | exact fa_95_4 | exact fa_95_5) (by first | exact l1_114 | exact l1_21 | exact l1_23 | exact l1_3 | exact l1_32 | exact l1_39 | exact l1_4 | exact l1_40 | exact l1_5 | exact l1_50 | exact l1_55 | exact l1_59 | exact l1_61 | exact l1_76) rfl ?_
  refine yfB (fun w' hw => hb1.ext hw) (by first | exact fa_105_0 | exact fa_105_1 | exact fa_105_2 | exact fa_105_3 | exact fa_105_4 | exact fa_116_0 | exact fa_116_1 | exact fa_120_0 | exact fa_120_1 | exact fa_42_0 | exact fa_42_1 | exact fa_42_2 | exact fa_42_3 | exact fa_42_4 | exact fa_42_5 | exact fa_42_6 | exact fa_57_0 | exact fa_63_0 | exact fa_63_2 | exact fa_63_3 | exact fa_63_4 | exact fa_80_0 | exact fa_80_2 | exact fa_80_3 | exact fa_80_4 | exact fa_91_0 | exact fa_95_0 | exact fa_95_1 | exact fa_95_2 | exact fa_95_3 | exact fa_95_4 | exact fa_95_5) (by first | exact l1_114 | exact l1_21 | exact l1_23 | exact l1_3 | exact l1_32 | exact l1_39 | exact l1_4 | exact l1_40 | exact l1_5 | exact l1_50 | exact l1_55 | exact l1_59 | exact l1_61 | exact l1_76) rfl ?_
  refine (rangeG_ok (h.h.ext (x1.trans D1))).mono fun q w2 ⟨hq, x2⟩ => ?_
  exact ⟨D1.trans x2, hq, (x1.trans D1).trans x2⟩
theorem bytesT_ok (h : RoomT p w) {k : Nat} {x : Arr} (hk : p.ar[k]? = some x) {who sa sb r : Int} (hr : r = (k : Int) + 1) {a n : Nat} (hn : a + n ≤ x.data.length) :
    callD Tryd.prog 75 #[svcT p who sa sb av, i64 r, i64 (a : Int), i64 (n : Int)] w fun q w' => (∀ w2, Fr (fun i => i < w.heap.size) w' w2 → BytesAre w2 q ((x.data.drop a).take n)) ∧ Ext w w' := by
  have hxl := h.h.len x (List.mem_of_getElem? hk)
  apply F75_wp
  unfold F75_den
  refine bx fun b w1 hb1 x1 => ?_
  refine ldB hb1 (by first | exact fa_105_0 | exact fa_105_1 | exact fa_105_2 | exact fa_105_3 | exact fa_105_4 | exact fa_116_0 | exact fa_116_1 | exact fa_120_0 | exact fa_120_1 | exact fa_42_0 | exact fa_42_1 | exact fa_42_2 | exact fa_42_3 | exact fa_42_4 | exact fa_42_5 | exact fa_42_6 | exact fa_57_0 | exact fa_63_0 | exact fa_63_2 | exact fa_63_3 | exact fa_63_4 | exact fa_80_0 | exact fa_80_2 | exact fa_80_3 | exact fa_80_4 | exact fa_91_0 | exact fa_95_0 | exact fa_95_1 | exact fa_95_2 | exact fa_95_3 | exact fa_95_4 | exact fa_95_5) (by first | exact l1_114 | exact l1_21 | exact l1_23 | exact l1_3 | exact l1_32 | exact l1_39 | exact l1_4 | exact l1_40 | exact l1_5 | exact l1_50 | exact l1_55 | exact l1_59 | exact l1_61 | exact l1_76) rfl ⟨.inl ⟨_, rfl⟩, ?_⟩
  refine ldB (h.room.ext x1).boxed (by first | exact fa_105_0 | exact fa_105_1 | exact fa_105_2 | exact fa_105_3 | exact fa_105_4 | exact fa_116_0 | exact fa_116_1 | exact fa_120_0 | exact fa_120_1 | exact fa_42_0 | exact fa_42_1 | exact fa_42_2 | exact fa_42_3 | exact fa_42_4 | exact fa_42_5 | exact fa_42_6 | exact fa_57_0 | exact fa_63_0 | exact fa_63_2 | exact fa_63_3 | exact fa_63_4 | exact fa_80_0 | exact fa_80_2 | exact fa_80_3 | exact fa_80_4 | exact fa_91_0 | exact fa_95_0 | exact fa_95_1 | exact fa_95_2 | exact fa_95_3 | exact fa_95_4 | exact fa_95_5) (by first | exact l1_114 | exact l1_21 | exact l1_23 | exact l1_3 | exact l1_32 | exact l1_39 | exact l1_4 | exact l1_40 | exact l1_5 | exact l1_50 | exact l1_55 | exact l1_59 | exact l1_61 | exact l1_76) rfl ?_
  refine (arrayG_ok (h.h.ext x1) hk hr).mono fun q w2 ⟨⟨v, hq, ho⟩, x2⟩ => ?_
  subst hq
  refine V_ext0.2 (V_ext1.2 ?_)
  refine asK (by first | exact sa_105 | exact sa_42 | exact sa_95) rfl (cells_one (own_one ho)) fun w3 hc x3 => ?_
  refine ldB hc.boxed (by first | exact fa_105_0 | exact fa_105_1 | exact fa_105_2 | exact fa_105_3 | exact fa_105_4 | exact fa_116_0 | exact fa_116_1 | exact fa_120_0 | exact fa_120_1 | exact fa_42_0 | exact fa_42_1 | exact fa_42_2 | exact fa_42_3 | exact fa_42_4 | exact fa_42_5 | exact fa_42_6 | exact fa_57_0 | exact fa_63_0 | exact fa_63_2 | exact fa_63_3 | exact fa_63_4 | exact fa_80_0 | exact fa_80_2 | exact fa_80_3 | exact fa_80_4 | exact fa_91_0 | exact fa_95_0 | exact fa_95_1 | exact fa_95_2 | exact fa_95_3 | exact fa_95_4 | exact fa_95_5) (by first | exact l1_114 | exact l1_21 | exact l1_23 | exact l1_3 | exact l1_32 | exact l1_39 | exact l1_4 | exact l1_40 | exact l1_5 | exact l1_50 | exact l1_55 | exact l1_59 | exact l1_61 | exact l1_76) rfl (V_add.2 ?_)
  rw [wrap_id (by omega) (by omega)]
  have ho3 := x3.own ho
  obtain ⟨v', hr', hs⟩ := r_sl (P := Tryd.prog) Tryd.underlying40 inf5 (SliceIs.of_own ho3) (lo := some (i64 (a : Int))) (hi' := some (i64 ((a : Int) + (n : Int)))) (a := a) (b := a + n) (.inr rfl) (.inr (by simp)) (by omega) hn
  refine V.ok (hr' _) ⟨fun w2 hf => ?_, (x1.trans x2).trans x3⟩
  have := hs w2 (SliceIs.of_own (hf.own ho3 fun i hi hlt => by have := (ho3.lt i hi).1; have := x1.size; omega))
  have e : ((x.data.drop a).take n).length = n := by simp; omega
  unfold BytesAre
  rw [e]
  simp only [Nat.add_sub_cancel_left] at this
  rw [List.map_take, List.map_drop]
  exact this
set_option maxHeartbeats 1600000 in
theorem lengthT_ok (h : RoomT p w) (hl : p.tr.length ≤ 100000) {who sa sb r : Int} (hav : SliceIs w av 1 1 [i64 r]) :
    callD Tryd.prog 37 #[svcT p who sa sb av] w fun q w' => SvR p w (sLen p.ps who r) q w' := by
  apply F37_wp
  unfold F37_den
  refine bxK fun w1 hb1 x1 => ?_
  refine ldB hb1.boxed (by first | exact fa_105_0 | exact fa_105_1 | exact fa_105_2 | exact fa_105_3 | exact fa_105_4 | exact fa_116_0 | exact fa_116_1 | exact fa_120_0 | exact fa_120_1 | exact fa_42_0 | exact fa_42_1 | exact fa_42_2 | exact fa_42_3 | exact fa_42_4 | exact fa_42_5 | exact fa_42_6 | exact fa_57_0 | exact fa_63_0 | exact fa_63_2 | exact fa_63_3 | exact fa_63_4 | exact fa_80_0 | exact fa_80_2 | exact fa_80_3 | exact fa_80_4 | exact fa_91_0 | exact fa_95_0 | exact fa_95_1 | exact fa_95_2 | exact fa_95_3 | exact fa_95_4 | exact fa_95_5) (by first | exact l1_114 | exact l1_21 | exact l1_23 | exact l1_3 | exact l1_32 | exact l1_39 | exact l1_4 | exact l1_40 | exact l1_5 | exact l1_50 | exact l1_55 | exact l1_59 | exact l1_61 | exact l1_76) rfl ?_
  refine ldx xa_32 l1_3 (hav.ext x1) (by omega) (by omega) rfl ?_
  refine ldA hb1.boxed la_95 rfl ?_
  refine (touchT_ok (h.ext x1) hl (who := who) (a := sa) (b := sb) (av := av)).mono fun _ w2 ⟨tv', h2, s2, f2, _⟩ => ?_
  have hb2 := f2.blk hb1 h.nT
  have S2 := (Stp.of_ext (p := p) x1).trans s2
  have D2 : Ext w2 w2.drew := (Ext.refl _).drew
  refine drawD.mk' (fun w' => Ext w2 w') D2 ?_
  refine yfB (fun w' hw => (hb2.ext hw).boxed) (by first | exact fa_105_0 | exact fa_105_1 | exact fa_105_2 | exact fa_105_3 | exact fa_105_4 | exact fa_116_0 | exact fa_116_1 | exact fa_120_0 | exact fa_120_1 | exact fa_42_0 | exact fa_42_1 | exact fa_42_2 | exact fa_42_3 | exact fa_42_4 | exact fa_42_5 | exact fa_42_6 | exact fa_57_0 | exact fa_63_0 | exact fa_63_2 | exact fa_63_3 | exact fa_63_4 | exact fa_80_0 | exact fa_80_2 | exact fa_80_3 | exact fa_80_4 | exact fa_91_0 | exact fa_95_0 | exact fa_95_1 | exact fa_95_2 | exact fa_95_3 | exact fa_95_4 | exact fa_95_5) (by first | exact l1_114 | exact l1_21 | exact l1_23 | exact l1_3 | exact l1_32 | exact l1_39 | exact l1_4 | exact l1_40 | exact l1_5 | exact l1_50 | exact l1_55 | exact l1_59 | exact l1_61 | exact l1_76) rfl ⟨.inl ⟨_, rfl⟩, ?_⟩
  refine yfB (fun w' hw => (h2.room.ext hw).boxed) (by first | exact fa_105_0 | exact fa_105_1 | exact fa_105_2 | exact fa_105_3 | exact fa_105_4 | exact fa_116_0 | exact fa_116_1 | exact fa_120_0 | exact fa_120_1 | exact fa_42_0 | exact fa_42_1 | exact fa_42_2 | exact fa_42_3 | exact fa_42_4 | exact fa_42_5 | exact fa_42_6 | exact fa_57_0 | exact fa_63_0 | exact fa_63_2 | exact fa_63_3 | exact fa_63_4 | exact fa_80_0 | exact fa_80_2 | exact fa_80_3 | exact fa_80_4 | exact fa_91_0 | exact fa_95_0 | exact fa_95_1 | exact fa_95_2 | exact fa_95_3 | exact fa_95_4 | exact fa_95_5) (by first | exact l1_114 | exact l1_21 | exact l1_23 | exact l1_3 | exact l1_32 | exact l1_39 | exact l1_4 | exact l1_40 | exact l1_5 | exact l1_50 | exact l1_55 | exact l1_59 | exact l1_61 | exact l1_76) rfl ?_
  refine yfB (fun w' hw => (hb2.ext hw).boxed) (by first | exact fa_105_0 | exact fa_105_1 | exact fa_105_2 | exact fa_105_3 | exact fa_105_4 | exact fa_116_0 | exact fa_116_1 | exact fa_120_0 | exact fa_120_1 | exact fa_42_0 | exact fa_42_1 | exact fa_42_2 | exact fa_42_3 | exact fa_42_4 | exact fa_42_5 | exact fa_42_6 | exact fa_57_0 | exact fa_63_0 | exact fa_63_2 | exact fa_63_3 | exact fa_63_4 | exact fa_80_0 | exact fa_80_2 | exact fa_80_3 | exact fa_80_4 | exact fa_91_0 | exact fa_95_0 | exact fa_95_1 | exact fa_95_2 | exact fa_95_3 | exact fa_95_4 | exact fa_95_5) (by first | exact l1_114 | exact l1_21 | exact l1_23 | exact l1_3 | exact l1_32 | exact l1_39 | exact l1_4 | exact l1_40 | exact l1_5 | exact l1_50 | exact l1_55 | exact l1_59 | exact l1_61 | exact l1_76) rfl ?_
  refine (checkG_ok (h2.h.ext D2)).mono fun q w3 ⟨hq, x3⟩ => ?_
  subst hq
  have X3 := D2.trans x3
  have hce : chk p.ar r who = chkP p.ps.ar r who := chk_pa _ _ _
  refine ⟨X3, V_neqI.2 (ifD_dec (fun hne => ?_) fun hfine => ?_)⟩
  · refine svEnd h2 S2 X3 (x := sLen p.ps who r) ?_ ?_ <;> unfold sLen <;> rw [if_neg (by rw [← hce]; exact hne)]
    · rw [← hce]
    · rfl
  have hf : chk p.ar r who = 36864 := Classical.not_not.1 hfine
  obtain ⟨k, x, hk, hr, hm⟩ := chk_fine hf
  refine ldB (hb2.ext X3).boxed (by first | exact fa_105_0 | exact fa_105_1 | exact fa_105_2 | exact fa_105_3 | exact fa_105_4 | exact fa_116_0 | exact fa_116_1 | exact fa_120_0 | exact fa_120_1 | exact fa_42_0 | exact fa_42_1 | exact fa_42_2 | exact fa_42_3 | exact fa_42_4 | exact fa_42_5 | exact fa_42_6 | exact fa_57_0 | exact fa_63_0 | exact fa_63_2 | exact fa_63_3 | exact fa_63_4 | exact fa_80_0 | exact fa_80_2 | exact fa_80_3 | exact fa_80_4 | exact fa_91_0 | exact fa_95_0 | exact fa_95_1 | exact fa_95_2 | exact fa_95_3 | exact fa_95_4 | exact fa_95_5) (by first | exact l1_114 | exact l1_21 | exact l1_23 | exact l1_3 | exact l1_32 | exact l1_39 | exact l1_4 | exact l1_40 | exact l1_5 | exact l1_50 | exact l1_55 | exact l1_59 | exact l1_61 | exact l1_76) rfl ⟨.inl ⟨_, rfl⟩, ?_⟩
  refine ldB (h2.room.ext X3).boxed (by first | exact fa_105_0 | exact fa_105_1 | exact fa_105_2 | exact fa_105_3 | exact fa_105_4 | exact fa_116_0 | exact fa_116_1 | exact fa_120_0 | exact fa_120_1 | exact fa_42_0 | exact fa_42_1 | exact fa_42_2 | exact fa_42_3 | exact fa_42_4 | exact fa_42_5 | exact fa_42_6 | exact fa_57_0 | exact fa_63_0 | exact fa_63_2 | exact fa_63_3 | exact fa_63_4 | exact fa_80_0 | exact fa_80_2 | exact fa_80_3 | exact fa_80_4 | exact fa_91_0 | exact fa_95_0 | exact fa_95_1 | exact fa_95_2 | exact fa_95_3 | exact fa_95_4 | exact fa_95_5) (by first | exact l1_114 | exact l1_21 | exact l1_23 | exact l1_3 | exact l1_32 | exact l1_39 | exact l1_4 | exact l1_40 | exact l1_5 | exact l1_50 | exact l1_55 | exact l1_59 | exact l1_61 | exact l1_76) rfl ?_
  refine (arrayG_ok (h2.h.ext X3) hk hr).mono fun q w4 ⟨⟨v, hq, ho⟩, x4⟩ => ?_
  subst hq
  refine V_ext0.2 (V_ext1.2 ?_)
  refine asK (by first | exact sa_105 | exact sa_42 | exact sa_95) rfl (cells_one (own_one ho)) fun w5 hc x5 => ?_
  refine ldB hc.boxed (by first | exact fa_105_0 | exact fa_105_1 | exact fa_105_2 | exact fa_105_3 | exact fa_105_4 | exact fa_116_0 | exact fa_116_1 | exact fa_120_0 | exact fa_120_1 | exact fa_42_0 | exact fa_42_1 | exact fa_42_2 | exact fa_42_3 | exact fa_42_4 | exact fa_42_5 | exact fa_42_6 | exact fa_57_0 | exact fa_63_0 | exact fa_63_2 | exact fa_63_3 | exact fa_63_4 | exact fa_80_0 | exact fa_80_2 | exact fa_80_3 | exact fa_80_4 | exact fa_91_0 | exact fa_95_0 | exact fa_95_1 | exact fa_95_2 | exact fa_95_3 | exact fa_95_4 | exact fa_95_5) (by first | exact l1_114 | exact l1_21 | exact l1_23 | exact l1_3 | exact l1_32 | exact l1_39 | exact l1_4 | exact l1_40 | exact l1_5 | exact l1_50 | exact l1_55 | exact l1_59 | exact l1_61 | exact l1_76) rfl (lnx (by first | exact xa_114 | exact xa_22 | exact xa_32 | exact xa_39 | exact xa_40 | exact xa_55 | exact xa_61) (SliceIs.of_own (x5.own ho)) ?_)
  refine V.ok (r_convI Tryd.underlying3 Tryd.underlying21) (svEnd h2 S2 ((X3.trans x4).trans x5) (x := sLen p.ps who r) ?_ ?_) <;> unfold sLen <;> rw [if_pos (by rw [← hce]; exact hf)]
  · rw [show datP p.ps.ar r = x.data from dat_pa hk hr]
  · rfl
set_option maxHeartbeats 1600000 in
theorem getT_ok (h : RoomT p w) (hl : p.tr.length ≤ 100000) {who sa sb r a : Int} (hav : SliceIs w av 1 2 [i64 r, i64 a]) :
    callD Tryd.prog 38 #[svcT p who sa sb av] w fun q w' => SvR p w (sGet p.ps who r a) q w' := by
  apply F38_wp
  unfold F38_den
  refine bxK fun w1 hb1 x1 => ?_
  have D1 : Ext w1 w1.drew := (Ext.refl _).drew
  have hav1 := hav.ext x1
  refine drawD.mk' (fun w' => Ext w1 w') D1 ?_
  refine yfB (fun w' hw => (hb1.ext hw).boxed) (by first | exact fa_105_0 | exact fa_105_1 | exact fa_105_2 | exact fa_105_3 | exact fa_105_4 | exact fa_116_0 | exact fa_116_1 | exact fa_120_0 | exact fa_120_1 | exact fa_42_0 | exact fa_42_1 | exact fa_42_2 | exact fa_42_3 | exact fa_42_4 | exact fa_42_5 | exact fa_42_6 | exact fa_57_0 | exact fa_63_0 | exact fa_63_2 | exact fa_63_3 | exact fa_63_4 | exact fa_80_0 | exact fa_80_2 | exact fa_80_3 | exact fa_80_4 | exact fa_91_0 | exact fa_95_0 | exact fa_95_1 | exact fa_95_2 | exact fa_95_3 | exact fa_95_4 | exact fa_95_5) (by first | exact l1_114 | exact l1_21 | exact l1_23 | exact l1_3 | exact l1_32 | exact l1_39 | exact l1_4 | exact l1_40 | exact l1_5 | exact l1_50 | exact l1_55 | exact l1_59 | exact l1_61 | exact l1_76) rfl ?_
  refine ySl xa_32 l1_3 hav1 (fun w' hw => hw) (by omega) (by omega) rfl ?_
  refine yfB (fun w' hw => (hb1.ext hw).boxed) (by first | exact fa_105_0 | exact fa_105_1 | exact fa_105_2 | exact fa_105_3 | exact fa_105_4 | exact fa_116_0 | exact fa_116_1 | exact fa_120_0 | exact fa_120_1 | exact fa_42_0 | exact fa_42_1 | exact fa_42_2 | exact fa_42_3 | exact fa_42_4 | exact fa_42_5 | exact fa_42_6 | exact fa_57_0 | exact fa_63_0 | exact fa_63_2 | exact fa_63_3 | exact fa_63_4 | exact fa_80_0 | exact fa_80_2 | exact fa_80_3 | exact fa_80_4 | exact fa_91_0 | exact fa_95_0 | exact fa_95_1 | exact fa_95_2 | exact fa_95_3 | exact fa_95_4 | exact fa_95_5) (by first | exact l1_114 | exact l1_21 | exact l1_23 | exact l1_3 | exact l1_32 | exact l1_39 | exact l1_4 | exact l1_40 | exact l1_5 | exact l1_50 | exact l1_55 | exact l1_59 | exact l1_61 | exact l1_76) rfl ?_
  refine ySl xa_32 l1_3 hav1 (fun w' hw => hw) (by omega) (by omega) rfl ?_
  refine ldA (hb1.ext D1).boxed la_95 rfl ?_
  have X1 := x1.trans D1
  refine (touchT_ok (h.ext X1) hl (who := who) (a := sa) (b := sb) (av := av)).mono fun _ w2 ⟨tv', h2, s2, f2, _⟩ => ?_
  have hb2 := f2.blk (hb1.ext D1) h.nT
  have S2 := (Stp.of_ext (p := p) X1).trans s2
  refine ldA hb2.boxed la_95 rfl ?_
  refine (rangesT_ok h2 (av := av)).mono fun q w3 ⟨hq, x3⟩ => ?_
  subst hq
  have hce : rng p.ar r a 1 who = rngP p.ps.ar r a 1 who := rng_pa _ _ _ _ _
  refine V_neqI.2 (ifD_dec (fun hne => ?_) fun hfine => ?_)
  · refine svEnd h2 S2 x3 (x := sGet p.ps who r a) ?_ ?_ <;> unfold sGet <;> rw [if_neg (show ¬ rngP p.ps.ar r a 1 who = 36864 from hne)]
    · rfl
    · rfl
  have hf : rng p.ar r a 1 who = 36864 := hce.trans (Classical.not_not.1 hfine)
  obtain ⟨k, x, hk, hr, hm, ha0, _, han⟩ := rng_fine hf
  obtain ⟨a, rfl⟩ : ∃ n : Nat, a = n := ⟨a.toNat, by omega⟩
  refine ldB (hb2.ext x3).boxed (by first | exact fa_105_0 | exact fa_105_1 | exact fa_105_2 | exact fa_105_3 | exact fa_105_4 | exact fa_116_0 | exact fa_116_1 | exact fa_120_0 | exact fa_120_1 | exact fa_42_0 | exact fa_42_1 | exact fa_42_2 | exact fa_42_3 | exact fa_42_4 | exact fa_42_5 | exact fa_42_6 | exact fa_57_0 | exact fa_63_0 | exact fa_63_2 | exact fa_63_3 | exact fa_63_4 | exact fa_80_0 | exact fa_80_2 | exact fa_80_3 | exact fa_80_4 | exact fa_91_0 | exact fa_95_0 | exact fa_95_1 | exact fa_95_2 | exact fa_95_3 | exact fa_95_4 | exact fa_95_5) (by first | exact l1_114 | exact l1_21 | exact l1_23 | exact l1_3 | exact l1_32 | exact l1_39 | exact l1_4 | exact l1_40 | exact l1_5 | exact l1_50 | exact l1_55 | exact l1_59 | exact l1_61 | exact l1_76) rfl ⟨.inl ⟨_, rfl⟩, ?_⟩
  refine ldB (h2.room.ext x3).boxed (by first | exact fa_105_0 | exact fa_105_1 | exact fa_105_2 | exact fa_105_3 | exact fa_105_4 | exact fa_116_0 | exact fa_116_1 | exact fa_120_0 | exact fa_120_1 | exact fa_42_0 | exact fa_42_1 | exact fa_42_2 | exact fa_42_3 | exact fa_42_4 | exact fa_42_5 | exact fa_42_6 | exact fa_57_0 | exact fa_63_0 | exact fa_63_2 | exact fa_63_3 | exact fa_63_4 | exact fa_80_0 | exact fa_80_2 | exact fa_80_3 | exact fa_80_4 | exact fa_91_0 | exact fa_95_0 | exact fa_95_1 | exact fa_95_2 | exact fa_95_3 | exact fa_95_4 | exact fa_95_5) (by first | exact l1_114 | exact l1_21 | exact l1_23 | exact l1_3 | exact l1_32 | exact l1_39 | exact l1_4 | exact l1_40 | exact l1_5 | exact l1_50 | exact l1_55 | exact l1_59 | exact l1_61 | exact l1_76) rfl ?_
  refine (getG_ok (h2.h.ext x3) hk hr (a := a) (by omega)).mono fun q w4 ⟨hq, hw⟩ => ?_
  subst hq; have hw := hw.symm; subst hw
  refine V_ext0.2 (V_ext1.2 ?_)
  refine V.ok (r_convI Tryd.underlying5 Tryd.underlying21) (svEnd h2 S2 x3 (x := sGet p.ps who r a) ?_ ?_) <;> unfold sGet <;> rw [if_pos (by rw [← hce]; exact hf)]
  · rw [show datP p.ps.ar r = x.data from dat_pa hk hr]
    rfl
  · rfl
/-- An array's bytes are turned. -/
theorem RoomT.upd (h : RoomT p w) {k : Nat} {x : Arr} (hk : p.ar[k]? = some x) {d' : List Int} (hd : d'.length ≤ 64) (hok : okB d') (ho : w'.ownsRow p.B 5 1 x.dv d'.length (d'.map u8)) (hf : Fr (fun i => x.dv.ownBlock = some i) w w') :
    RoomT { p with ar := p.ar.set k { x with data := d' } } w' ∧ ∀ i, MuP { p with ar := p.ar.set k { x with data := d' } } i → MuP p i := by
  have hxm := List.mem_of_getElem? hk
  have hkl : k < p.ar.length := (List.getElem?_eq_some_iff.1 hk).1
  have hlt := h.lt
  have each : ∀ a ∈ p.ar.set k { x with data := d' }, (∃ b ∈ p.ar, b.dv = a.dv) ∧ okB a.data := by
    intro a ha
    obtain ⟨i, hi⟩ := List.getElem?_of_mem ha
    by_cases hik : k = i
    · subst hik
      rw [List.getElem?_set_self hkl] at hi
      cases hi
      exact ⟨⟨x, hxm, rfl⟩, hok⟩
    · rw [List.getElem?_set_ne hik] at hi
      exact ⟨⟨a, List.mem_of_getElem? hi, rfl⟩, h.bytes a (List.mem_of_getElem? hi)⟩
  have hxM : ∀ i, x.dv.ownBlock = some i → MuP p i := fun i hi => .inr (.inr (.inr (.inl ⟨x, hxm, hi⟩)))
  have mu : ∀ i, MuP { p with ar := p.ar.set k { x with data := d' } } i → MuP p i := fun i hi => by
    rcases hi with hi | hi | hi | ⟨a, ha, he⟩ | hi
    · exact .inl hi
    · exact .inr (.inl hi)
    · exact .inr (.inr (.inl hi))
    · obtain ⟨⟨b, hb', e⟩, _⟩ := each a ha
      exact .inr (.inr (.inr (.inl ⟨b, hb', e ▸ he⟩)))
    · exact .inr (.inr (.inr (.inr hi)))
  refine ⟨⟨hf.seg h.room (fun he => (h.fresh p.rb (.inl rfl)).2.1 x hxm he), h.h.upd hk hd ho hf, hf.own h.qp fun i hi he => h.np x hxm i he hi, hf.own h.qs fun i hi he => h.ns x hxm i he hi, h.lp, h.ls, h.ne, fun a ha y hy => ?_, fun a ha y hy => ?_, h.gp, h.gs, h.lt, fun y hy => ⟨(h.fresh y hy).1, fun a ha => ?_, (h.fresh y hy).2.2⟩,
    hf.blk h.tbox fun he => h.tfr _ (.inl rfl) (hxM _ he), hf.own h.trow fun i hi he => h.tfr i (.inr hi) (hxM _ he), h.tne, fun i hi hm => h.tfr i hi (mu i hm), by simpa using h.two, h.sz, fun a ha => (each a ha).2⟩, mu⟩
  · obtain ⟨⟨b, hb', e⟩, _⟩ := each a ha
    exact h.np b hb' y (e ▸ hy)
  · obtain ⟨⟨b, hb', e⟩, _⟩ := each a ha
    exact h.ns b hb' y (e ▸ hy)
  · obtain ⟨⟨b, hb', e⟩, _⟩ := each a ha
    rw [← e]
    exact (h.fresh y hy).2.1 b hb'
theorem okB_set {l : List Int} (h : okB l) {a : Nat} {z : Int} (hz : 0 ≤ z ∧ z < 256) : okB (l.set a z) := fun b hb => by
  rcases List.mem_or_eq_of_mem_set hb with hb | rfl
  · exact h b hb
  · exact hz
theorem wrap_u8 (z : Int) : 0 ≤ IntKind.u8.wrap z ∧ IntKind.u8.wrap z < 256 := by
  simp only [IntKind.wrap_u8]
  omega
set_option maxHeartbeats 1600000 in
theorem putT_ok (h : RoomT p w) (hl : p.tr.length ≤ 100000) {who sa sb r a z : Int} (hva : ∀ w', Fr (fun i => MuP p i ∨ TbP p i) w w' → SliceIs w' av 1 3 [i64 r, i64 a, i64 z]) :
    callD Tryd.prog 39 #[svcT p who sa sb av] w fun q w' => SvR p w (sPut p.ps who r a z) q w' := by
  apply F39_wp
  unfold F39_den
  have hav := hva w (Fr.refl _ _)
  refine bxK fun w1 hb1 x1 => ?_
  have D1 : Ext w1 w1.drew := (Ext.refl _).drew
  have hav1 := hav.ext x1
  refine drawD.mk' (fun w' => Ext w1 w') D1 ?_
  refine yfB (fun w' hw => (hb1.ext hw).boxed) (by first | exact fa_105_0 | exact fa_105_1 | exact fa_105_2 | exact fa_105_3 | exact fa_105_4 | exact fa_116_0 | exact fa_116_1 | exact fa_120_0 | exact fa_120_1 | exact fa_42_0 | exact fa_42_1 | exact fa_42_2 | exact fa_42_3 | exact fa_42_4 | exact fa_42_5 | exact fa_42_6 | exact fa_57_0 | exact fa_63_0 | exact fa_63_2 | exact fa_63_3 | exact fa_63_4 | exact fa_80_0 | exact fa_80_2 | exact fa_80_3 | exact fa_80_4 | exact fa_91_0 | exact fa_95_0 | exact fa_95_1 | exact fa_95_2 | exact fa_95_3 | exact fa_95_4 | exact fa_95_5) (by first | exact l1_114 | exact l1_21 | exact l1_23 | exact l1_3 | exact l1_32 | exact l1_39 | exact l1_4 | exact l1_40 | exact l1_5 | exact l1_50 | exact l1_55 | exact l1_59 | exact l1_61 | exact l1_76) rfl ?_
  refine ySl xa_32 l1_3 hav1 (fun w' hw => hw) (by omega) (by omega) rfl ?_
  refine yfB (fun w' hw => (hb1.ext hw).boxed) (by first | exact fa_105_0 | exact fa_105_1 | exact fa_105_2 | exact fa_105_3 | exact fa_105_4 | exact fa_116_0 | exact fa_116_1 | exact fa_120_0 | exact fa_120_1 | exact fa_42_0 | exact fa_42_1 | exact fa_42_2 | exact fa_42_3 | exact fa_42_4 | exact fa_42_5 | exact fa_42_6 | exact fa_57_0 | exact fa_63_0 | exact fa_63_2 | exact fa_63_3 | exact fa_63_4 | exact fa_80_0 | exact fa_80_2 | exact fa_80_3 | exact fa_80_4 | exact fa_91_0 | exact fa_95_0 | exact fa_95_1 | exact fa_95_2 | exact fa_95_3 | exact fa_95_4 | exact fa_95_5) (by first | exact l1_114 | exact l1_21 | exact l1_23 | exact l1_3 | exact l1_32 | exact l1_39 | exact l1_4 | exact l1_40 | exact l1_5 | exact l1_50 | exact l1_55 | exact l1_59 | exact l1_61 | exact l1_76) rfl ?_
  refine ySl xa_32 l1_3 hav1 (fun w' hw => hw) (by omega) (by omega) rfl ?_
  refine ldA (hb1.ext D1).boxed la_95 rfl ?_
  have X1 := x1.trans D1
  refine (touchT_ok (h.ext X1) hl (who := who) (a := sa) (b := sb) (av := av)).mono fun _ w2 ⟨tv', h2, s2, f2, _⟩ => ?_
  have hb2 := f2.blk (hb1.ext D1) h.nT
  have S2 := (Stp.of_ext (p := p) X1).trans s2
  refine ldA hb2.boxed la_95 rfl ?_
  refine (rangesT_ok h2 (av := av)).mono fun q w3 ⟨hq, x3⟩ => ?_
  subst hq
  have hce : rng p.ar r a 1 who = rngP p.ps.ar r a 1 who := rng_pa _ _ _ _ _
  refine V_neqI.2 (ifD_dec (fun hne => ?_) fun hfine => ?_)
  · refine svEnd h2 S2 x3 (x := sPut p.ps who r a z) ?_ ?_ <;> unfold sPut <;> rw [if_neg (show ¬ rngP p.ps.ar r a 1 who = 36864 from hne)]
    · rfl
    · rfl
  have hf : rng p.ar r a 1 who = 36864 := hce.trans (Classical.not_not.1 hfine)
  obtain ⟨k, x, hk, hr, hm, ha0, _, han⟩ := rng_fine hf
  obtain ⟨a, rfl⟩ : ∃ n : Nat, a = n := ⟨a.toNat, by omega⟩
  have hxm := List.mem_of_getElem? hk
  have D3 : Ext w3 w3.drew := (Ext.refl _).drew
  have h3 := h2.ext (x3.trans D3)
  have hxM : ∀ i, x.dv.ownBlock = some i → MuP p i := fun i hi => .inr (.inr (.inr (.inl ⟨x, hxm, hi⟩)))
  have hnb : x.dv.ownBlock ≠ some w.heap.size := fun he => h.nM (hxM _ he)
  have hnr : x.dv.ownBlock ≠ some p.rb := (h.fresh p.rb (.inl rfl)).2.1 x hxm
  have S3 := S2.trans (Stp.of_ext x3)
  refine drawD.mk' (fun w' => Fr (fun i => x.dv.ownBlock = some i) w3 w') (Fr.of_ext D3) ?_
  refine yfB (fun w' hw => (hw.blk (hb2.ext x3) hnb).boxed) (by first | exact fa_105_0 | exact fa_105_1 | exact fa_105_2 | exact fa_105_3 | exact fa_105_4 | exact fa_116_0 | exact fa_116_1 | exact fa_120_0 | exact fa_120_1 | exact fa_42_0 | exact fa_42_1 | exact fa_42_2 | exact fa_42_3 | exact fa_42_4 | exact fa_42_5 | exact fa_42_6 | exact fa_57_0 | exact fa_63_0 | exact fa_63_2 | exact fa_63_3 | exact fa_63_4 | exact fa_80_0 | exact fa_80_2 | exact fa_80_3 | exact fa_80_4 | exact fa_91_0 | exact fa_95_0 | exact fa_95_1 | exact fa_95_2 | exact fa_95_3 | exact fa_95_4 | exact fa_95_5) (by first | exact l1_114 | exact l1_21 | exact l1_23 | exact l1_3 | exact l1_32 | exact l1_39 | exact l1_4 | exact l1_40 | exact l1_5 | exact l1_50 | exact l1_55 | exact l1_59 | exact l1_61 | exact l1_76) rfl ⟨.inl ⟨_, rfl⟩, ?_⟩
  refine yfB (fun w' hw => (hw.seg (h2.room.ext x3) hnr).boxed) (by first | exact fa_105_0 | exact fa_105_1 | exact fa_105_2 | exact fa_105_3 | exact fa_105_4 | exact fa_116_0 | exact fa_116_1 | exact fa_120_0 | exact fa_120_1 | exact fa_42_0 | exact fa_42_1 | exact fa_42_2 | exact fa_42_3 | exact fa_42_4 | exact fa_42_5 | exact fa_42_6 | exact fa_57_0 | exact fa_63_0 | exact fa_63_2 | exact fa_63_3 | exact fa_63_4 | exact fa_80_0 | exact fa_80_2 | exact fa_80_3 | exact fa_80_4 | exact fa_91_0 | exact fa_95_0 | exact fa_95_1 | exact fa_95_2 | exact fa_95_3 | exact fa_95_4 | exact fa_95_5) (by first | exact l1_114 | exact l1_21 | exact l1_23 | exact l1_3 | exact l1_32 | exact l1_39 | exact l1_4 | exact l1_40 | exact l1_5 | exact l1_50 | exact l1_55 | exact l1_59 | exact l1_61 | exact l1_76) rfl ?_
  refine yfB (fun w' hw => (hw.blk (hb2.ext x3) hnb).boxed) (by first | exact fa_105_0 | exact fa_105_1 | exact fa_105_2 | exact fa_105_3 | exact fa_105_4 | exact fa_116_0 | exact fa_116_1 | exact fa_120_0 | exact fa_120_1 | exact fa_42_0 | exact fa_42_1 | exact fa_42_2 | exact fa_42_3 | exact fa_42_4 | exact fa_42_5 | exact fa_42_6 | exact fa_57_0 | exact fa_63_0 | exact fa_63_2 | exact fa_63_3 | exact fa_63_4 | exact fa_80_0 | exact fa_80_2 | exact fa_80_3 | exact fa_80_4 | exact fa_91_0 | exact fa_95_0 | exact fa_95_1 | exact fa_95_2 | exact fa_95_3 | exact fa_95_4 | exact fa_95_5) (by first | exact l1_114 | exact l1_21 | exact l1_23 | exact l1_3 | exact l1_32 | exact l1_39 | exact l1_4 | exact l1_40 | exact l1_5 | exact l1_50 | exact l1_55 | exact l1_59 | exact l1_61 | exact l1_76) rfl ?_
  have mono : ∀ w', Fr (fun i => x.dv.ownBlock = some i) w3 w' → Fr (fun i => MuP p i ∨ TbP p i) w w' := fun w' hf => S3.fr.trans hf fun i _ hi => .inl (hxM i hi)
  refine ySlF xa_32 l1_3 hav (fun w' hw => hva w' (mono w' hw)) (by omega) (by omega) rfl ?_
  refine yieldS.ok (fun w' _ => r_convI Tryd.underlying3 Tryd.underlying5) ?_
  refine (putG_ok h3.h hk hr (a := a) (by omega)).mono fun _ w4 ⟨ho4, hg4⟩ => ?_
  have f4 : Fr (fun i => x.dv.ownBlock = some i) w3.drew w4 := Fr.of_grown hg4 fun i hi => hi
  have f34 : Fr (fun i => x.dv.ownBlock = some i) w3 w4 := (Fr.of_ext (S := fun i => x.dv.ownBlock = some i) D3).trans f4 fun _ _ h => h
  have hxl := h.h.len x hxm
  obtain ⟨h5, mu5⟩ := h3.upd hk (d' := x.data.set a (IntKind.u8.wrap z)) (by simpa using hxl) (okB_set (h.bytes x hxm) (wrap_u8 z)) (by simpa using ho4) f4
  refine ⟨f34, _, ?_, ?_, h5, S3.trans ⟨rfl, rfl, rfl, rfl, rfl, rfl, rfl, fun i hi => ?_, f34.mono fun i hi => .inl (hxM i hi)⟩⟩
  · unfold sPut; rw [if_pos (by rw [← hce]; exact hf)]
  · unfold sPut; rw [if_pos (by rw [← hce]; exact hf)]
    rw [show datP p.ps.ar r = x.data from dat_pa hk hr, Int.toNat_natCast]
    show (⟨p.size, (p.ar.set k { x with data := x.data.set a (IntKind.u8.wrap z) }).map pa, p.tp, p.ts, p.tr ++ [⟨2, r, a, 1⟩]⟩ : PS) = _
    rw [set_pa hk hr]
    rfl
  · rcases hi with hi | hi
    · exact .inl (mu5 i hi)
    · exact .inr (.inl hi)
end
end Go.Proofs.YtgjmpnngheohbaaDoor
namespace Go.Proofs.YtgjmpnngheohbaaDoor
open Go.Vc
def sBoth (s : PS) (who r1 a1 r2 a2 n : Int) : Int := if rngP s.ar r1 a1 n who = 36864 then rngP s.ar r2 a2 n who else rngP s.ar r1 a1 n who
def PS.ev2 (s : PS) (r1 a1 r2 a2 n : Int) : PS := (s.ev [⟨2, r1, a1, n⟩]).ev [⟨2, r2, a2, n⟩]
def cpyP (l : List PA) (r1 a1 r2 a2 n : Int) : List Int := (datP l r1).take a1.toNat ++ ((datP l r2).drop a2.toNat).take n.toNat ++ (datP l r1).drop (a1.toNat + n.toNat)
def sCopy (s : PS) (who r1 a1 r2 a2 n : Int) : Res := if sBoth s who r1 a1 r2 a2 n = 36864 then (0, 36864, { s.ev2 r1 a1 r2 a2 n with ar := setP s.ar r1 (cpyP s.ar r1 a1 r2 a2 n) }) else (0, sBoth s who r1 a1 r2 a2 n, s.ev2 r1 a1 r2 a2 n)
theorem both_fine {s : PS} {who r1 a1 r2 a2 n : Int} (h : sBoth s who r1 a1 r2 a2 n = 36864) : rngP s.ar r1 a1 n who = 36864 ∧ rngP s.ar r2 a2 n who = 36864 := by
  unfold sBoth at h
  by_cases h1 : rngP s.ar r1 a1 n who = 36864
  · rw [if_pos h1] at h; exact ⟨h1, h⟩
  · rw [if_neg h1] at h; exact absurd h h1
section
variable {p : RP} {w w' : World} {av : Value}
set_option maxHeartbeats 1600000 in
theorem bothT_ok (h : RoomT p w) (hl : p.tr.length ≤ 99000) {who sa sb r1 a1 r2 a2 n : Int} (hva : ∀ w', Fr (fun i => MuP p i ∨ TbP p i) w w' → SliceIs w' av 1 5 [i64 r1, i64 a1, i64 r2, i64 a2, i64 n]) :
    callD Tryd.prog 74 #[svcT p who sa sb av] w fun q w' => q = i64 (sBoth p.ps who r1 a1 r2 a2 n) ∧ ∃ tv1 tv2, RoomT ((p.ev1 tv1 ⟨2, r1, a1, n⟩).ev1 tv2 ⟨2, r2, a2, n⟩) w' ∧ Stp p ((p.ev1 tv1 ⟨2, r1, a1, n⟩).ev1 tv2 ⟨2, r2, a2, n⟩) w w' ∧ Fr (TbP p) w w' := by
  apply F74_wp
  unfold F74_den
  have hav := hva w (Fr.refl _ _)
  refine bxK fun w1 hb1 x1 => ?_
  refine ldB hb1.boxed (by first | exact fa_105_0 | exact fa_105_1 | exact fa_105_2 | exact fa_105_3 | exact fa_105_4 | exact fa_116_0 | exact fa_116_1 | exact fa_120_0 | exact fa_120_1 | exact fa_42_0 | exact fa_42_1 | exact fa_42_2 | exact fa_42_3 | exact fa_42_4 | exact fa_42_5 | exact fa_42_6 | exact fa_57_0 | exact fa_63_0 | exact fa_63_2 | exact fa_63_3 | exact fa_63_4 | exact fa_80_0 | exact fa_80_2 | exact fa_80_3 | exact fa_80_4 | exact fa_91_0 | exact fa_95_0 | exact fa_95_1 | exact fa_95_2 | exact fa_95_3 | exact fa_95_4 | exact fa_95_5) (by first | exact l1_114 | exact l1_21 | exact l1_23 | exact l1_3 | exact l1_32 | exact l1_39 | exact l1_4 | exact l1_40 | exact l1_5 | exact l1_50 | exact l1_55 | exact l1_59 | exact l1_61 | exact l1_76) rfl ?_
  refine ldx xa_32 l1_3 (hav.ext x1) (by omega) (by omega) rfl ?_
  have D1 : Ext w1 w1.drew := (Ext.refl _).drew
  have hF : ∀ w', Fr (TbP p) w1 w' → SliceIs w' av 1 5 [i64 r1, i64 a1, i64 r2, i64 a2, i64 n] := fun w' hf => hva w' ((Fr.of_ext (S := fun i => MuP p i ∨ TbP p i) x1).trans hf fun _ _ h => .inr h)
  have hB : ∀ w', Fr (TbP p) w1 w' → Boxed w' w.heap.size (svcT p who sa sb av).cells.toList := fun w' hf => (hf.blk hb1 h.nT).boxed
  refine drawD.mk' (fun w' => Fr (TbP p) w1 w') (Fr.of_ext D1) ?_
  refine yA hB la_95 rfl ?_
  refine ySlF xa_32 l1_3 hav hF (by omega) (by omega) rfl ?_
  refine ySlF xa_32 l1_3 hav hF (by omega) (by omega) rfl ?_
  have X1 := x1.trans D1
  refine (touchT_ok (h.ext X1) (by omega) (who := who) (a := sa) (b := sb) (av := av)).mono fun _ w2 ⟨tv1, h2, s2, f2, t2⟩ => ?_
  have F2 : Fr (TbP p) w1 w2 := (Fr.of_ext (S := TbP p) D1).trans f2 fun _ _ h => h
  refine ⟨F2, ?_⟩
  have D2 : Ext w2 w2.drew := (Ext.refl _).drew
  have F2d : Fr (TbP p) w1 w2.drew := F2.trans (Fr.of_ext (S := TbP p) D2) fun _ _ h => h
  refine drawD.mk' (fun w' => Fr (TbP p) w1 w') F2d ?_
  refine yA hB la_95 rfl ?_
  refine ySlF xa_32 l1_3 hav hF (by omega) (by omega) rfl ?_
  refine ySlF xa_32 l1_3 hav hF (by omega) (by omega) rfl ?_
  refine (touchT_ok (h2.ext D2) (by show (p.tr ++ [_]).length ≤ _; simp; omega) (who := who) (a := sa) (b := sb) (av := av)).mono fun _ w3 ⟨tv2, h3, s3, f3, t3⟩ => ?_
  have s12 := X1.size
  have F3 : Fr (TbP p) w1 w3 := F2d.trans f3 fun i hi hs => by
    rcases t2 i hs with h' | h'
    · exact h'
    · have := D1.size; omega
  have S3 := ((Stp.of_ext (p := p) X1).trans s2).trans ((Stp.of_ext D2).trans s3)
  refine ⟨F3, ?_⟩
  have D3 : Ext w3 w3.drew := (Ext.refl _).drew
  have G3 : ∀ {w'}, Ext w3 w' → Fr (TbP p) w1 w' := fun hx => F3.trans (Fr.of_ext (S := TbP p) hx) fun _ _ h => h
  have fin : ∀ {w'}, Ext w3 w' → ∃ tv1 tv2, RoomT ((p.ev1 tv1 ⟨2, r1, a1, n⟩).ev1 tv2 ⟨2, r2, a2, n⟩) w' ∧ Stp p ((p.ev1 tv1 ⟨2, r1, a1, n⟩).ev1 tv2 ⟨2, r2, a2, n⟩) w w' ∧ Fr (TbP p) w w' := fun hx =>
    ⟨tv1, tv2, h3.ext hx, S3.trans (Stp.of_ext hx), (Fr.of_ext (S := TbP p) x1).trans (G3 hx) fun _ _ h => h⟩
  refine drawD.mk' (fun w' => Fr (TbP p) w1 w') (G3 D3) ?_
  refine yA hB la_95 rfl ?_
  refine ySlF xa_32 l1_3 hav hF (by omega) (by omega) rfl ?_
  refine ySlF xa_32 l1_3 hav hF (by omega) (by omega) rfl ?_
  refine (rangesT_ok (h3.ext D3) (who := who) (sa := sa) (sb := sb) (av := av)).mono fun q w4 ⟨hq, x4⟩ => ?_
  subst hq
  have X4 := D3.trans x4
  refine ⟨G3 X4, V_neqI.2 (ifD_dec (fun hne => ⟨?_, fin X4⟩) fun hfine => ?_)⟩
  · unfold sBoth
    rw [if_neg (show ¬ rngP p.ps.ar r1 a1 n who = 36864 from hne)]
    rfl
  have D4 : Ext w4 w4.drew := (Ext.refl _).drew
  have X4' := X4.trans D4
  refine drawD.mk' (fun w' => Fr (TbP p) w1 w') (G3 X4') ?_
  refine yA hB la_95 rfl ?_
  refine ySlF xa_32 l1_3 hav hF (by omega) (by omega) rfl ?_
  refine ySlF xa_32 l1_3 hav hF (by omega) (by omega) rfl ?_
  refine (rangesT_ok (h3.ext X4') (who := who) (sa := sa) (sb := sb) (av := av)).mono fun q w5 ⟨hq, x5⟩ => ?_
  refine ⟨G3 (X4'.trans x5), ?_, fin (X4'.trans x5)⟩
  rw [hq]
  unfold sBoth
  rw [if_pos (show rngP p.ps.ar r1 a1 n who = 36864 from Classical.not_not.1 hfine)]
  rfl
theorem okB_take {l : List Int} (h : okB l) (n : Nat) : okB (l.take n) := fun b hb => h b (List.mem_of_mem_take hb)
theorem okB_drop {l : List Int} (h : okB l) (n : Nat) : okB (l.drop n) := fun b hb => h b (List.mem_of_mem_drop hb)
theorem okB_getD {l : List Int} (h : okB l) (i : Nat) : 0 ≤ l.getD i 0 ∧ l.getD i 0 < 256 := by
  by_cases hi : i < l.length
  · rw [List.getD_eq_getElem?_getD, List.getElem?_eq_getElem hi]
    exact h _ (List.getElem_mem hi)
  · rw [List.getD_eq_getElem?_getD, List.getElem?_eq_none (by omega)]
    simp
set_option maxHeartbeats 3200000 in
theorem copyT_ok (h : RoomT p w) (hl : p.tr.length ≤ 99000) {who sa sb r1 a1 r2 a2 n : Int} (hva : ∀ w', Fr (fun i => MuP p i ∨ TbP p i) w w' → SliceIs w' av 1 5 [i64 r1, i64 a1, i64 r2, i64 a2, i64 n]) :
    callD Tryd.prog 40 #[svcT p who sa sb av] w fun q w' => SvR p w (sCopy p.ps who r1 a1 r2 a2 n) q w' := by
  apply F40_wp
  unfold F40_den
  have hav := hva w (Fr.refl _ _)
  refine bxK fun w1 hb1 x1 => ?_
  refine ldA hb1.boxed la_95 rfl ?_
  refine (bothT_ok (h.ext x1) hl (sa := sa) (sb := sb) (who := who) (fun w' hf => hva w' ((Fr.of_ext (S := fun i => MuP p i ∨ TbP p i) x1).trans hf fun _ _ h => h))).mono fun q w2 ⟨hq, tv1, tv2, h2, s2, f2⟩ => ?_
  subst hq
  have hb2 := f2.blk hb1 h.nT
  have S2 := (Stp.of_ext (p := p) x1).trans s2
  refine V_neqI.2 (ifD_dec (fun hne => ?_) fun hfine => ?_)
  · refine svEnd h2 S2 (Ext.refl _) (x := sCopy p.ps who r1 a1 r2 a2 n) ?_ ?_ <;> unfold sCopy <;> rw [if_neg hne]
    · rfl
  have hfine : sBoth p.ps who r1 a1 r2 a2 n = 36864 := Classical.not_not.1 hfine
  obtain ⟨hf1, hf2⟩ := both_fine hfine
  obtain ⟨k1, y1, hk1, hr1, hm1, ha1, hn0, hn1⟩ := rng_fine ((rng_pa _ _ _ _ _).trans hf1)
  obtain ⟨k2, y2, hk2, hr2, hm2, ha2, _, hn2⟩ := rng_fine ((rng_pa _ _ _ _ _).trans hf2)
  obtain ⟨n, rfl⟩ : ∃ m : Nat, n = m := ⟨n.toNat, by omega⟩
  obtain ⟨a, rfl⟩ : ∃ m : Nat, a1 = m := ⟨a1.toNat, by omega⟩
  obtain ⟨c, rfl⟩ : ∃ m : Nat, a2 = m := ⟨a2.toNat, by omega⟩
  have hxm := List.mem_of_getElem? hk1
  have hym := List.mem_of_getElem? hk2
  have hxl := h.h.len y1 hxm
  have hyl := h.h.len y2 hym
  have hxM : ∀ i, y1.dv.ownBlock = some i → MuP p i := fun i hi => .inr (.inr (.inr (.inl ⟨y1, hxm, hi⟩)))
  have hob : ∀ i, y1.dv.ownBlock = some i → i < w.heap.size := fun i hi => h.hi i (.inl (hxM i hi))
  have hnb : y1.dv.ownBlock ≠ some w.heap.size := fun he => by have := hob _ he; omega
  have hav2 := hva w2 S2.fr
  refine ldB hb2.boxed (by first | exact fa_105_0 | exact fa_105_1 | exact fa_105_2 | exact fa_105_3 | exact fa_105_4 | exact fa_116_0 | exact fa_116_1 | exact fa_120_0 | exact fa_120_1 | exact fa_42_0 | exact fa_42_1 | exact fa_42_2 | exact fa_42_3 | exact fa_42_4 | exact fa_42_5 | exact fa_42_6 | exact fa_57_0 | exact fa_63_0 | exact fa_63_2 | exact fa_63_3 | exact fa_63_4 | exact fa_80_0 | exact fa_80_2 | exact fa_80_3 | exact fa_80_4 | exact fa_91_0 | exact fa_95_0 | exact fa_95_1 | exact fa_95_2 | exact fa_95_3 | exact fa_95_4 | exact fa_95_5) (by first | exact l1_114 | exact l1_21 | exact l1_23 | exact l1_3 | exact l1_32 | exact l1_39 | exact l1_4 | exact l1_40 | exact l1_5 | exact l1_50 | exact l1_55 | exact l1_59 | exact l1_61 | exact l1_76) rfl ?_
  have D2 : Ext w2 w2.drew := (Ext.refl _).drew
  refine drawD.mk' (fun w' => Ext w2 w') D2 ?_
  refine yA (fun w' hw => (hb2.ext hw).boxed) la_95 rfl ?_
  refine ySl xa_32 l1_3 hav2 (fun w' hw => hw) (by omega) (by omega) rfl ?_
  refine ySl xa_32 l1_3 hav2 (fun w' hw => hw) (by omega) (by omega) rfl ?_
  refine ySl xa_32 l1_3 hav2 (fun w' hw => hw) (by omega) (by omega) rfl ?_
  refine (bytesT_ok (h2.ext D2) hk2 (who := who) (sa := sa) (sb := sb) (av := av) hr2 (a := c) (n := n) (by omega)).mono fun sv w3 ⟨hsv, x3⟩ => ?_
  have x23 := D2.trans x3
  refine ⟨x23, ?_⟩
  have h3 := h2.ext x23
  have S3 := S2.trans (Stp.of_ext x23)
  have hSl : ((y2.data.drop c).take n).length = n := by simp; omega
  have hS3 := hsv w3 (Fr.refl _ _)
  have s2z := S2.fr.size
  have okS : okB ((y2.data.drop c).take n) := okB_take (okB_drop (h.bytes y2 hym) c) n
  refine yLen (by first | exact xa_114 | exact xa_22 | exact xa_32 | exact xa_39 | exact xa_40 | exact xa_55 | exact xa_61) hS3 ?_
  refine ⟨fun v w' => ∃ (i : Nat) (cur : List Int), v = i64 i ∧ i ≤ n ∧ CopySo y1.data ((y2.data.drop c).take n) a i cur ∧ okB cur ∧ RoomT { ((p.ev1 tv1 ⟨2, r1, a, n⟩).ev1 tv2 ⟨2, r2, c, n⟩) with ar := p.ar.set k1 { y1 with data := cur } } w' ∧ (∀ i, MuP { ((p.ev1 tv1 ⟨2, r1, a, n⟩).ev1 tv2 ⟨2, r2, c, n⟩) with ar := p.ar.set k1 { y1 with data := cur } } i → MuP p i) ∧ Fr (fun i => y1.dv.ownBlock = some i) w3 w',
    fun v _ => n - (RowKit.intOf v).toNat, ⟨0, y1.data, rfl, Nat.zero_le _, ⟨rfl, fun j => by rw [if_neg (by omega)]⟩, h.bytes y1 hxm, (h3.upd hk1 hxl (h.bytes y1 hxm) (h3.h.data y1 hxm) (Fr.refl _ _)).1, (h3.upd hk1 hxl (h.bytes y1 hxm) (h3.h.data y1 hxm) (Fr.refl _ _)).2, Fr.refl _ _⟩, ?_⟩
  rintro _ w4 ⟨i, cur, rfl, hi, hcur, hok, h4, mu4, f4⟩ _
  have hcl := hcur.1
  have F4 : Fr (fun i => MuP p i ∨ TbP p i) w w4 := S3.fr.trans f4 fun i _ hi => .inl (hxM i hi)
  rw [hSl]
  have hkl : k1 < p.ar.length := (List.getElem?_eq_some_iff.1 hk1).1
  have hk4 : (p.ar.set k1 { y1 with data := cur })[k1]? = some { y1 with data := cur } := List.getElem?_set_self hkl
  refine V_lss.2 (ifD_dec (fun hlt2 => ?_) fun hge => ?_)
  · have hi' : i < n := by omega
    have hS4 := hsv w4 (f4.mono fun j hj => by have := hob j hj; have := D2.size; omega)
    have hS4' : SliceIs w4 sv 1 n (((y2.data.drop c).take n).map u8) := by have := hS4; unfold BytesAre at this; rw [hSl] at this; exact this
    refine ldx xa_40 l1_5 hS4' (by omega) (by omega) (getD_u8 (by omega)) ?_
    have hb4 : Blk w4 w.heap.size _ _ := f4.blk (hb2.ext x23) hnb
    have D4 : Ext w4 w4.drew := (Ext.refl _).drew
    have G : ∀ w', Fr (fun i => y1.dv.ownBlock = some i) w4 w' → Fr (fun i => MuP p i ∨ TbP p i) w w' := fun w' hw => F4.trans hw fun i _ hi => .inl (hxM i hi)
    have hnr : y1.dv.ownBlock ≠ some p.rb := (h.fresh p.rb (.inl rfl)).2.1 y1 hxm
    refine drawD.mk' (fun w' => Fr (fun i => y1.dv.ownBlock = some i) w4 w') (Fr.of_ext D4) ?_
    refine yfB (fun w' hw => (hw.blk hb4 hnb).boxed) (by first | exact fa_105_0 | exact fa_105_1 | exact fa_105_2 | exact fa_105_3 | exact fa_105_4 | exact fa_116_0 | exact fa_116_1 | exact fa_120_0 | exact fa_120_1 | exact fa_42_0 | exact fa_42_1 | exact fa_42_2 | exact fa_42_3 | exact fa_42_4 | exact fa_42_5 | exact fa_42_6 | exact fa_57_0 | exact fa_63_0 | exact fa_63_2 | exact fa_63_3 | exact fa_63_4 | exact fa_80_0 | exact fa_80_2 | exact fa_80_3 | exact fa_80_4 | exact fa_91_0 | exact fa_95_0 | exact fa_95_1 | exact fa_95_2 | exact fa_95_3 | exact fa_95_4 | exact fa_95_5) (by first | exact l1_114 | exact l1_21 | exact l1_23 | exact l1_3 | exact l1_32 | exact l1_39 | exact l1_4 | exact l1_40 | exact l1_5 | exact l1_50 | exact l1_55 | exact l1_59 | exact l1_61 | exact l1_76) rfl ⟨.inl ⟨_, rfl⟩, ?_⟩
    refine yfB (fun w' hw => (hw.seg h4.room hnr).boxed) (by first | exact fa_105_0 | exact fa_105_1 | exact fa_105_2 | exact fa_105_3 | exact fa_105_4 | exact fa_116_0 | exact fa_116_1 | exact fa_120_0 | exact fa_120_1 | exact fa_42_0 | exact fa_42_1 | exact fa_42_2 | exact fa_42_3 | exact fa_42_4 | exact fa_42_5 | exact fa_42_6 | exact fa_57_0 | exact fa_63_0 | exact fa_63_2 | exact fa_63_3 | exact fa_63_4 | exact fa_80_0 | exact fa_80_2 | exact fa_80_3 | exact fa_80_4 | exact fa_91_0 | exact fa_95_0 | exact fa_95_1 | exact fa_95_2 | exact fa_95_3 | exact fa_95_4 | exact fa_95_5) (by first | exact l1_114 | exact l1_21 | exact l1_23 | exact l1_3 | exact l1_32 | exact l1_39 | exact l1_4 | exact l1_40 | exact l1_5 | exact l1_50 | exact l1_55 | exact l1_59 | exact l1_61 | exact l1_76) rfl ?_
    refine ySlF xa_32 l1_3 hav (fun w' hw => hva w' (G w' hw)) (by omega) (by omega) rfl ?_
    refine ySlF xa_32 l1_3 hav (fun w' hw => hva w' (G w' hw)) (by omega) (by omega) rfl ?_
    refine yieldS.ok (fun w' _ => r_add) ?_
    rw [show IntKind.i64.wrap ((a : Int) + (i : Int)) = ((a + i : Nat) : Int) from by rw [wrap_id (by omega) (by omega)]; omega]
    refine (putG_ok (h4.ext D4).h hk4 hr1 (a := a + i) (by show a + i < cur.length; omega)).mono fun _ w5 ⟨ho6, hg6⟩ => ?_
    have f5 : Fr (fun i => y1.dv.ownBlock = some i) w4.drew w5 := Fr.of_grown hg6 fun k hk => hk
    have f45 : Fr (fun i => y1.dv.ownBlock = some i) w4 w5 := (Fr.of_ext (S := fun i => y1.dv.ownBlock = some i) D4).trans f5 fun _ _ h => h
    refine ⟨f45, V_add.2 ?_⟩
    rw [wrap_id (by omega) (by omega), i64_succ]
    have hok5 : okB (cur.set (a + i) (((y2.data.drop c).take n).getD i 0)) := okB_set hok (okB_getD okS i)
    have h5 := (h4.ext D4).upd hk4 (d' := cur.set (a + i) (((y2.data.drop c).take n).getD i 0)) (by simp; omega) hok5 (by simpa using ho6) f5
    simp only [List.set_set] at h5
    exact ⟨⟨i + 1, _, rfl, by omega, hcur.step (by omega) (by omega), hok5, h5.1, fun i hi => mu4 i (h5.2 i hi), f4.trans f45 fun _ _ h => h⟩, by simp only [intOf_i64]; omega⟩
  · have hin : i = n := by omega
    subst hin
    have h9 : CopySo y1.data ((y2.data.drop c).take i) a ((y2.data.drop c).take i).length cur := by rw [hSl]; exact hcur
    have hd := h9.done (by omega)
    rw [hSl] at hd
    refine ⟨_, ?_, ?_, h4, S3.trans ⟨rfl, rfl, rfl, rfl, rfl, rfl, rfl, fun j hj => ?_, f4.mono fun j hj => .inl (hxM j hj)⟩⟩
    · unfold sCopy; rw [if_pos hfine]
    · unfold sCopy; rw [if_pos hfine]
      have e1 : cpyP p.ps.ar r1 (a : Int) r2 (c : Int) (i : Int) = cur := by
        unfold cpyP
        rw [show datP p.ps.ar r1 = y1.data from dat_pa hk1 hr1, show datP p.ps.ar r2 = y2.data from dat_pa hk2 hr2, hd]
        simp only [Int.toNat_natCast]
      rw [e1]
      show (⟨p.size, (p.ar.set k1 { y1 with data := cur }).map pa, p.tp, p.ts, (p.tr ++ [_]) ++ [_]⟩ : PS) = _
      rw [set_pa hk1 hr1]
      rfl
    · rcases hj with hj | hj
      · exact .inl (mu4 j hj)
      · exact .inr (.inl hj)
end
end Go.Proofs.YtgjmpnngheohbaaDoor
namespace Go.Proofs.YtgjmpnngheohbaaDoor
open Go.Vc
def shrF (a b : Int) : Int := IntKind.i32.wrap ((IntKind.u32.wrap a).fdiv (2 ^ (min (IntKind.i32.wrap (BitVec.ofInt IntKind.i32.bits b &&& BitVec.ofInt IntKind.i32.bits 31).toNat).toNat IntKind.u32.bits)))
theorem shr_ex (a b : Int) (w : World) : callD Tryd.prog 91 #[i32 a, i32 b] w fun r w' => r = i32 (shrF a b) ∧ w' = w := F91_wp (by
  unfold F91_den
  exact V.ok (r_convI Tryd.underlying21 Tryd.underlying149) (V.ok r_and (V.ok (r_shr (and31 b)) (V.ok (r_convI Tryd.underlying149 Tryd.underlying21) ⟨rfl, rfl⟩))))
def someF (a : Int) : Int := shrF (IntKind.i32.wrap (BitVec.ofInt IntKind.i32.bits a ||| BitVec.ofInt IntKind.i32.bits (IntKind.i32.wrap (0 - a))).toNat) 31
theorem some_ex (a : Int) (w : World) : callD Tryd.prog 88 #[i32 a] w fun r w' => r = i32 (someF a) ∧ w' = w := by
  apply F88_wp
  unfold F88_den
  refine V.ok r_neg (V.ok r_or ?_)
  exact (shr_ex _ _ w).mono fun _ _ h => h
theorem someF_all : ∀ n : Fin 256, someF (n.val : Int) = if n.val = 0 then 0 else 1 := by decide +kernel
theorem someF_eq {z : Int} (h : 0 ≤ z ∧ z < 256) : someF z = if z = 0 then 0 else 1 := by
  obtain ⟨n, rfl⟩ : ∃ n : Nat, z = n := ⟨z.toNat, by omega⟩
  have := someF_all ⟨n, by omega⟩
  simp only at this
  rw [this]
  by_cases hn : n = 0
  · subst hn; rfl
  · rw [if_neg hn, if_neg (by omega)]
def xorF (x y : Int) : Int := IntKind.u8.wrap (BitVec.ofInt IntKind.u8.bits x ^^^ BitVec.ofInt IntKind.u8.bits y).toNat
def orF (x y : Int) : Int := IntKind.u8.wrap (BitVec.ofInt IntKind.u8.bits x ||| BitVec.ofInt IntKind.u8.bits y).toNat
theorem ofInt_toNat {x : Int} (h : 0 ≤ x ∧ x < 256) : (BitVec.ofInt IntKind.u8.bits x).toNat = x.toNat := by
  rw [BitVec.toNat_ofInt]
  show (x % ((2 ^ 8 : Nat) : Int)).toNat = x.toNat
  rw [Int.emod_eq_of_lt h.1 (by simpa using h.2)]
theorem wrap8 {n : Nat} (h : n < 256) : IntKind.u8.wrap (n : Int) = n := by
  simp only [IntKind.wrap_u8]; omega
theorem xorF_eq {x y : Int} (hx : 0 ≤ x ∧ x < 256) (hy : 0 ≤ y ∧ y < 256) : (0 ≤ xorF x y ∧ xorF x y < 256) ∧ (xorF x y = 0 ↔ x = y) := by
  have hlt : x.toNat ^^^ y.toNat < 256 := Nat.xor_lt_two_pow (n := 8) (by omega) (by omega)
  have e : xorF x y = ((x.toNat ^^^ y.toNat : Nat) : Int) := by
    unfold xorF
    rw [BitVec.toNat_xor, ofInt_toNat hx, ofInt_toNat hy, wrap8 hlt]
  rw [e]
  refine ⟨by omega, ⟨fun h => ?_, fun h => by subst h; simp⟩⟩
  have h0 : x.toNat ^^^ y.toNat = 0 := by omega
  have : x.toNat = y.toNat := by
    apply Nat.eq_of_testBit_eq
    intro i
    have := congrArg (fun n => n.testBit i) h0
    simp only [Nat.testBit_xor, Nat.zero_testBit] at this
    cases hx' : x.toNat.testBit i <;> cases hy' : y.toNat.testBit i <;> simp [hx', hy'] at this ⊢
  omega
theorem orF_eq {x y : Int} (hx : 0 ≤ x ∧ x < 256) (hy : 0 ≤ y ∧ y < 256) : (0 ≤ orF x y ∧ orF x y < 256) ∧ (orF x y = 0 ↔ x = 0 ∧ y = 0) := by
  have hlt : x.toNat ||| y.toNat < 256 := Nat.or_lt_two_pow (n := 8) (by omega) (by omega)
  have e : orF x y = ((x.toNat ||| y.toNat : Nat) : Int) := by
    unfold orF
    rw [BitVec.toNat_or, ofInt_toNat hx, ofInt_toNat hy, wrap8 hlt]
  rw [e]
  have h1 : x.toNat ≤ x.toNat ||| y.toNat := Nat.left_le_or
  have h2 : y.toNat ≤ x.toNat ||| y.toNat := Nat.right_le_or
  refine ⟨by omega, ⟨fun h => by omega, fun ⟨h, h'⟩ => by subst h; subst h'; rfl⟩⟩
theorem sameEx_ok {w : World} {v1 v2 : Value} {l1 l2 : List Int} (h1 : BytesAre w v1 l1) (h2 : BytesAre w v2 l2) (hl : l1.length ≤ 1000) (ho1 : okB l1) (ho2 : okB l2) (he : l1.length = l2.length) : callD Tryd.prog 76 #[v1, v2] w fun r w' => r = i32 (if l1 = l2 then 1 else 0) ∧ Ext w w' := by
  apply F76_wp
  unfold F76_den
  refine lnx (by first | exact xa_114 | exact xa_22 | exact xa_32 | exact xa_39 | exact xa_40 | exact xa_55 | exact xa_61) h1 ?_
  refine lnx (by first | exact xa_114 | exact xa_22 | exact xa_32 | exact xa_39 | exact xa_40 | exact xa_55 | exact xa_61) h2 ?_
  refine V_neqI.2 (ifD_dec (fun hn => absurd (by rw [he]) hn) fun _ => ?_)
  refine lnx (by first | exact xa_114 | exact xa_22 | exact xa_32 | exact xa_39 | exact xa_40 | exact xa_55 | exact xa_61) h1 ?_
  refine ⟨fun v v' w' => ∃ (z : Int) (i : Nat), v = u8 z ∧ v' = i64 i ∧ i ≤ l1.length ∧ (0 ≤ z ∧ z < 256) ∧ (z = 0 ↔ ∀ j, j < i → l1.getD j 0 = l2.getD j 0) ∧ Ext w w', fun _ v _ => l1.length - (RowKit.intOf v).toNat, ⟨0, 0, rfl, rfl, Nat.zero_le _, by omega, ⟨fun _ j hj => absurd hj (Nat.not_lt_zero _), fun _ => rfl⟩, Ext.refl _⟩, ?_⟩
  rintro _ _ w1 ⟨z, i, rfl, rfl, hi, hz, hzi, x1⟩ _
  refine V_lss.2 (ifD_dec (fun hlt => ?_) fun hge => ?_)
  · have D1 : Ext w1 w1.drew := (Ext.refl _).drew
    refine drawD.mk' (fun w' => w' = w1.drew) rfl ?_
    refine ySl xa_40 l1_5 ((h1.ext x1).ext D1) (fun w' hw => hw ▸ Ext.refl _) (by omega) (by omega) (getD_u8 (by omega)) ?_
    refine ySl xa_40 l1_5 ((h2.ext x1).ext D1) (fun w' hw => hw ▸ Ext.refl _) (by omega) (by omega) (getD_u8 (by omega)) ?_
    refine yieldS.ok (fun w' _ => r_xor) ?_
    refine yieldS.ok (fun w' _ => r_or) ?_
    refine V_add.2 ?_
    rw [wrap_id (by omega) (by omega), i64_succ]
    obtain ⟨hx1, hx2⟩ := xorF_eq (okB_getD ho1 i) (okB_getD ho2 i)
    obtain ⟨hor1, hor2⟩ := orF_eq hz hx1
    refine ⟨⟨orF z (xorF (l1.getD i 0) (l2.getD i 0)), i + 1, rfl, rfl, by omega, hor1, ?_, x1.trans D1⟩, by simp only [intOf_i64]; omega⟩
    rw [hor2, hx2, hzi]
    constructor
    · rintro ⟨ha, hb⟩ j hj
      by_cases hji : j = i
      · subst hji; exact hb
      · exact ha j (by omega)
    · intro ha
      exact ⟨fun j hj => ha j (by omega), ha i (by omega)⟩
  · refine V.ok (r_convI Tryd.underlying5 Tryd.underlying21) ?_
    refine (some_ex (IntKind.i32.wrap z) w1).mono fun r w2 ⟨hr, hw⟩ => ?_
    subst hr; have hw := hw.symm; subst hw
    have hwz : IntKind.i32.wrap z = z := by simp only [IntKind.wrap_i32]; omega
    rw [hwz, someF_eq hz]
    have hil : i = l1.length := by omega
    have hiff : l1 = l2 ↔ z = 0 := by
      rw [hzi, hil]
      constructor
      · intro h j _; rw [h]
      · intro h
        apply List.ext_getElem? 
        intro j
        by_cases hj : j < l1.length
        · have := h j hj
          rw [List.getD_eq_getElem?_getD, List.getD_eq_getElem?_getD, List.getElem?_eq_getElem hj, List.getElem?_eq_getElem (by omega)] at this
          rw [List.getElem?_eq_getElem hj, List.getElem?_eq_getElem (by omega)]
          simpa using this
        · rw [List.getElem?_eq_none (by omega), List.getElem?_eq_none (by omega)]
    refine V_sub.2 ⟨?_, x1⟩
    by_cases hz0 : z = 0
    · rw [if_pos hz0, if_pos (hiff.2 hz0)]; rfl
    · rw [if_neg hz0, if_neg (fun h => hz0 (hiff.1 h))]; rfl
def parP (l : List PA) (r a n : Int) : List Int := ((datP l r).drop a.toNat).take n.toNat
def sSame (s : PS) (who r1 a1 r2 a2 n : Int) : Res := if sBoth s who r1 a1 r2 a2 n = 36864 then (if parP s.ar r1 a1 n = parP s.ar r2 a2 n then 1 else 0, 36864, s.ev2 r1 a1 r2 a2 n) else (0, sBoth s who r1 a1 r2 a2 n, s.ev2 r1 a1 r2 a2 n)
section
variable {p : RP} {w w' : World} {av : Value}
set_option maxHeartbeats 1600000 in
theorem sameT_ok (h : RoomT p w) (hl : p.tr.length ≤ 99000) {who sa sb r1 a1 r2 a2 n : Int} (hva : ∀ w', Fr (fun i => MuP p i ∨ TbP p i) w w' → SliceIs w' av 1 5 [i64 r1, i64 a1, i64 r2, i64 a2, i64 n]) :
    callD Tryd.prog 41 #[svcT p who sa sb av] w fun q w' => SvR p w (sSame p.ps who r1 a1 r2 a2 n) q w' := by
  apply F41_wp
  unfold F41_den
  refine bxK fun w1 hb1 x1 => ?_
  refine ldA hb1.boxed la_95 rfl ?_
  refine (bothT_ok (h.ext x1) hl (sa := sa) (sb := sb) (who := who) (fun w' hf => hva w' ((Fr.of_ext (S := fun i => MuP p i ∨ TbP p i) x1).trans hf fun _ _ h => h))).mono fun q w2 ⟨hq, tv1, tv2, h2, s2, f2⟩ => ?_
  subst hq
  have hb2 := f2.blk hb1 h.nT
  have S2 := (Stp.of_ext (p := p) x1).trans s2
  refine V_neqI.2 (ifD_dec (fun hne => ?_) fun hfine => ?_)
  · refine svEnd h2 S2 (Ext.refl _) (x := sSame p.ps who r1 a1 r2 a2 n) ?_ ?_ <;> unfold sSame <;> rw [if_neg hne]
    · rfl
  have hfine : sBoth p.ps who r1 a1 r2 a2 n = 36864 := Classical.not_not.1 hfine
  obtain ⟨hf1, hf2⟩ := both_fine hfine
  obtain ⟨k1, y1, hk1, hr1, hm1, ha1, hn0, hn1⟩ := rng_fine ((rng_pa _ _ _ _ _).trans hf1)
  obtain ⟨k2, y2, hk2, hr2, hm2, ha2, _, hn2⟩ := rng_fine ((rng_pa _ _ _ _ _).trans hf2)
  obtain ⟨n, rfl⟩ : ∃ m : Nat, n = m := ⟨n.toNat, by omega⟩
  obtain ⟨a, rfl⟩ : ∃ m : Nat, a1 = m := ⟨a1.toNat, by omega⟩
  obtain ⟨c, rfl⟩ : ∃ m : Nat, a2 = m := ⟨a2.toNat, by omega⟩
  have hxm := List.mem_of_getElem? hk1
  have hym := List.mem_of_getElem? hk2
  have hxl := h.h.len y1 hxm
  have hav2 := hva w2 S2.fr
  refine ldB hb2.boxed (by first | exact fa_105_0 | exact fa_105_1 | exact fa_105_2 | exact fa_105_3 | exact fa_105_4 | exact fa_116_0 | exact fa_116_1 | exact fa_120_0 | exact fa_120_1 | exact fa_42_0 | exact fa_42_1 | exact fa_42_2 | exact fa_42_3 | exact fa_42_4 | exact fa_42_5 | exact fa_42_6 | exact fa_57_0 | exact fa_63_0 | exact fa_63_2 | exact fa_63_3 | exact fa_63_4 | exact fa_80_0 | exact fa_80_2 | exact fa_80_3 | exact fa_80_4 | exact fa_91_0 | exact fa_95_0 | exact fa_95_1 | exact fa_95_2 | exact fa_95_3 | exact fa_95_4 | exact fa_95_5) (by first | exact l1_114 | exact l1_21 | exact l1_23 | exact l1_3 | exact l1_32 | exact l1_39 | exact l1_4 | exact l1_40 | exact l1_5 | exact l1_50 | exact l1_55 | exact l1_59 | exact l1_61 | exact l1_76) rfl ?_
  have D2 : Ext w2 w2.drew := (Ext.refl _).drew
  refine drawD.mk' (fun w' => Ext w2 w') D2 ?_
  refine yA (fun w' hw => (hb2.ext hw).boxed) la_95 rfl ?_
  refine ySl xa_32 l1_3 hav2 (fun w' hw => hw) (by omega) (by omega) rfl ?_
  refine ySl xa_32 l1_3 hav2 (fun w' hw => hw) (by omega) (by omega) rfl ?_
  refine ySl xa_32 l1_3 hav2 (fun w' hw => hw) (by omega) (by omega) rfl ?_
  refine yA (fun w' hw => (hb2.ext hw).boxed) la_95 rfl ?_
  refine ySl xa_32 l1_3 hav2 (fun w' hw => hw) (by omega) (by omega) rfl ?_
  refine ySl xa_32 l1_3 hav2 (fun w' hw => hw) (by omega) (by omega) rfl ?_
  refine ySl xa_32 l1_3 hav2 (fun w' hw => hw) (by omega) (by omega) rfl ?_
  refine (bytesT_ok (h2.ext D2) hk1 (who := who) (sa := sa) (sb := sb) (av := av) hr1 (a := a) (n := n) (by omega)).mono fun v1 w3 ⟨hv1, x3⟩ => ?_
  have X3 := D2.trans x3
  refine ⟨X3, ?_⟩
  refine (bytesT_ok (h2.ext X3) hk2 (who := who) (sa := sa) (sb := sb) (av := av) hr2 (a := c) (n := n) (by omega)).mono fun v2 w4 ⟨hv2, x4⟩ => ?_
  have X4 := X3.trans x4
  refine ⟨X4, ?_⟩
  refine (sameEx_ok (hv1 w4 (Fr.of_ext x4)) (hv2 w4 (Fr.refl _ _)) (by simp; omega) (okB_take (okB_drop (h.bytes y1 hxm) a) n) (okB_take (okB_drop (h.bytes y2 hym) c) n) (by simp; omega)).mono fun q w5 ⟨hq, x5⟩ => ?_
  subst hq
  refine ⟨X4.trans x5, svEnd h2 S2 (X4.trans x5) (x := sSame p.ps who r1 a r2 c n) ?_ ?_⟩ <;> unfold sSame <;> rw [if_pos hfine]
  · unfold parP
    rw [show datP p.ps.ar r1 = y1.data from dat_pa hk1 hr1, show datP p.ps.ar r2 = y2.data from dat_pa hk2 hr2]
    simp only [Int.toNat_natCast]
  · rfl
end
end Go.Proofs.YtgjmpnngheohbaaDoor
