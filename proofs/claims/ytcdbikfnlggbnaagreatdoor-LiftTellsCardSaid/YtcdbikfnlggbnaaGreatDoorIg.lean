/- The lifting: what is reached. The lifting: the program under way, in memory. The lifting: a node of the program is set; jumps aim well. The lifting, walked. LiftTicks: there is a Tick for each start, at its place, and no other; the law, walked. Chapter 18's example: a closed call, by the contract of Lift. Contracts of package ir's functions on single nodes. Contracts: which nodes may be. The lifted program may be: each node stands right. Plain nodes: what PlainNode makes of a node. Plain nodes: which may be; what they write; what comes next. Slices of structs; the reference's check of a program. Plain: a program as the reference has it. The reference: where a plain node writes. An element of a row of structs, read in a region. The reference's node of an instruction, walked. The reference's lifting, walked; two plain programs that are the same. The reference's lifting, walked. Two plain programs that are the same; LiftTells, walked. LiftTells: the law, walked. The row's last step, from 'Ext': what was there is as it was; new blocks may be anything. What an argument reads as, it reads as behind a call that leaves all that was there. What a row lays, read at an element of an array, wherever the array stands on the list. -/
import Derived.Test.YtcdbikfnlggbnaaGreatDoorIf
import Derived.Test.YtcdbikfnlggbnaaGreatDoorIb
import Derived.WalkKit
import Derived.ProofKit
import Derived.OpenShut
import Derived.WideKeyArgs
import Derived.ChangeArms
import Derived.FnData
namespace Go.Tc
def cf (r : List Bool) : Nat := r.countP (· == false)
theorem cf_set {r : List Bool} {k : Nat} (hk : k < r.length) (h : r.getD k false = false) : cf (r.set k true) + 1 = cf r := by
  have e : r[k] = false := by
    rw [List.getD_eq_getElem?_getD, List.getElem?_eq_getElem hk] at h; exact h
  have h1 : 0 < r.countP (· == false) := List.countP_pos_iff.2 ⟨r[k], List.getElem_mem hk, by rw [e]; rfl⟩
  have h2 : (r.set k true).countP (· == false) = r.countP (· == false) - 1 + 0 := by
    rw [List.countP_set hk, e]; rfl
  unfold cf
  omega
/-- What is pushed. -/
def pushP (x : Ins) (pc : Nat) : List Int := (if x.op = 23 ∨ x.op = 24 then [x.a] else []) ++ (if x.op ≠ 23 ∧ x.op ≠ 39 then [(pc : Int) + 1] else [])
theorem push_mem {x : Ins} {pc : Nat} {t : Int} : t ∈ pushP x pc ↔ t ∈ nextS x pc := by
  unfold pushP nextS
  by_cases c1 : x.op = 23
  · simp [c1]
  by_cases c2 : x.op = 24
  · simp [c2]; exact Or.comm
  by_cases c3 : x.op = 39
  · simp [c3]
  · simp [c1, c2, c3]
end Go.Tc
namespace Go.Proofs.YtcdbikfnlggbnaaGreatDoor
open Go.Vc Go.Tc
variable {w : World} {K : Value → World → Prop}
structure Rch (i : Img) (m : Mth) (st : St) (l : List Int) (r : List Bool) : Prop where
  rl : r.length = m.code.length
  ls : ∀ t ∈ l, 0 ≤ t ∧ t < m.code.length ∧ st.h t.toNat = true
  rs : ∀ k, r.getD k false = true → st.h k = true
  z : r.getD 0 false = true ∨ (0 : Int) ∈ l
  cl : ∀ k, r.getD k false = true → ∀ to ∈ nextS (m.ins k) k, r.getD to.toNat false = true ∨ to ∈ l
  bd : 3 * cf r + l.length ≤ 3 * m.code.length + 1
/-- The work list and the marks, in memory. -/
structure Rm (gr : Nat) (w3 w : World) (v : Value) (l : List Int) (r : List Bool) : Prop where
  own : w.ownsRow (gr + 1) 3 1 v l.length (l.map i64)
  sh : ∃ a c, v = .slice (some ⟨a, 0, none⟩) l.length c
  blk : Blk w gr (r.map .bool) 4
  fr : Fr (fun k => gr ≤ k) w3 w
theorem Rm.ext {gr : Nat} {w3 w' : World} {v : Value} {l : List Int} {r : List Bool} (h : Rm gr w3 w v l r) (hx : Ext w w') : Rm gr w3 w' v l r := ⟨hx.own h.own, h.sh, h.blk.ext hx, h.fr.trans (Fr.of_ext hx) fun _ _ h => h⟩
theorem Rm.push {gr : Nat} {w3 : World} {v : Value} {l : List Int} {r : List Bool} {t : Int} (h : Rm gr w3 w v l r) (hl : l.length ≤ 100000) (hk : ∀ v' w', Rm gr w3 w' v' (l ++ [t]) r → Fr (fun k => v.ownBlock = some k) w w' → K v' w') :
    V Tryz.prog (Instr.buildSlice 23 1 #[(0, i64 t)]) w fun u w1 => V Tryz.prog (Builtin.append_ #[23, 23] 23 #[v, u]) w1 K := by
  refine bsl xe_23 [i64 t] rfl rfl (by simp) rfl fun u w1 ho1 x1 => ?_
  have h1 := h.ext x1
  have hB := h1.blk.lt
  refine apO xe_23 h1.own (SliceIs.of_own ho1) rfl (by omega) (by unfold maxLen; omega) (by omega) fun v2 w2 ho2 hg2 => ?_
  have hlo : ∀ k, v.ownBlock = some k → gr + 1 ≤ k := fun k hk => (h.own.lt k hk).1
  have f2 : Fr (fun k => v.ownBlock = some k) w1 w2 := Fr.of_grown hg2 fun k hk => hk
  have ho2 : w2.ownsRow (gr + 1) 3 1 v2 (l ++ [t]).length ((l ++ [t]).map i64) := by simpa using ho2
  refine hk v2 w2 ⟨ho2, ?_, f2.blk h1.blk fun hk => by have := hlo _ hk; omega, h1.fr.trans (f2.mono fun k hk => by have := hlo k hk; omega) fun _ _ h => h⟩ ((Fr.of_ext x1).trans f2 fun _ _ h => h)
  rcases ho2.2 with ⟨_, e⟩ | ⟨g, cap, _, rfl, _⟩
  · simp at e
  · exact ⟨_, _, rfl⟩
set_option maxHeartbeats 1000000 in
theorem reached30 {row : List Value} {i : Img} {m : Mth} {st : St} (hrow : MthIs w row m) (hn1 : 1 ≤ m.code.length) (hn2 : m.code.length ≤ 120) (h0 : st.h 0 = true) (hled : ∀ k, st.h k = true → Led i m st k) (_ : WF m st)
    (hk : ∀ g r w', Blk w' g (r.map .bool) 4 → w.heap.size ≤ g → Rch i m st [] r → Ext w w' → K (.slice (some ⟨g, 0, none⟩) m.code.length m.code.length) w') : callD Tryz.prog 30 #[.agg row.toArray] w K := by
  obtain ⟨pv, lv, cv, rfl, hp, hl, hc⟩ := hrow
  apply F30_wp
  unfold F30_den
  refine bx fun b1 w1 hb1 x1 => ?_
  have hb1 : Boxed w1 b1 [pv, i64 m.result, lv, cv] := hb1
  refine ldB hb1 fa_47_3 l1_45 rfl (lnx xa_45 (hc.ext x1) ?_)
  refine mkB Tryz.underlying78 inf4 rfl (by omega) (by omega) fun w2 hB2 x2 z2 => ?_
  have hgr : w.heap.size ≤ w1.heap.size := x1.size
  generalize hgr1 : w1.heap.size = gr at hB2 z2 hgr
  refine bsl xe_23 [i64 0] rfl rfl (by simp) rfl fun v3 w3 ho3 x3 => ?_
  have x13 := x2.trans x3
  have hb3 := hb1.ext x13
  have hc3 := hc.ext (x1.trans x13)
  have x03 := x1.trans x13
  have hB3 := hB2.ext x3
  have cf0 : cf (List.replicate m.code.length false) = m.code.length := by simp [cf, List.countP_replicate]
  have gd0 : ∀ k, (List.replicate m.code.length false).getD k false = false := fun k => by
    simp only [List.getD_eq_getElem?_getD, List.getElem?_replicate]; split <;> rfl
  have ini : Rm gr w3 w3 v3 [0] (List.replicate m.code.length false) ∧ Rch i m st [0] (List.replicate m.code.length false) := by
    refine ⟨⟨own_mono ho3 (by omega), ?_, by simpa using hB3, Fr.refl _ _⟩, by simp, fun t ht => ?_, fun k hk => ?_, .inr (by simp), fun k hk => ?_, by rw [cf0]; simp⟩
    · rcases ho3.2 with ⟨_, e⟩ | ⟨g, cap, _, rfl, _⟩
      · cases e
      · exact ⟨_, _, rfl⟩
    · rw [List.mem_singleton] at ht; subst ht; exact ⟨by omega, by omega, h0⟩
    · rw [gd0] at hk; cases hk
    · rw [gd0] at hk; cases hk
  refine ⟨fun t w' => ∃ l r, Rm gr w3 w' t l r ∧ Rch i m st l r, fun t w' => mu fun q => ∃ l r, (Rm gr w3 w' t l r ∧ Rch i m st l r) ∧ 3 * cf r + l.length = q, ⟨_, _, ini⟩, ?_⟩
  rintro t w4 ⟨l0, r0, hh0⟩ _
  obtain ⟨l, r, ⟨M, R⟩, hmu⟩ := mu_spec (p := fun q => ∃ l r, (Rm gr w3 w4 t l r ∧ Rch i m st l r) ∧ 3 * cf r + l.length = q) ⟨_, l0, r0, hh0, rfl⟩
  clear hh0 l0 r0
  obtain ⟨ga, cap, rfl⟩ := M.sh
  have ho := M.own
  have hbd := R.bd
  have hrl := R.rl
  have step : ∀ {t' : Value} {w' : World} {l' : List Int} {r' : List Bool}, Rm gr w3 w' t' l' r' → Rch i m st l' r' → 3 * cf r' + l'.length < 3 * cf r + l.length → (∃ l r, Rm gr w3 w' t' l r ∧ Rch i m st l r) ∧ mu (fun q => ∃ l r, (Rm gr w3 w' t' l r ∧ Rch i m st l r) ∧ 3 * cf r + l.length = q) < mu (fun q => ∃ l' r, (Rm gr w3 w4 (.slice (some ⟨ga, 0, none⟩) l.length cap) l' r ∧ Rch i m st l' r) ∧ 3 * cf r + l'.length = q) := fun h1 h2 h3 => ⟨⟨_, _, h1, h2⟩, by
    rw [← hmu]
    exact Nat.lt_of_le_of_lt (mu_le ⟨_, _, ⟨h1, h2⟩, rfl⟩) h3⟩
  refine lnx xa_23 (SliceIs.of_own ho) (V_gtr.2 (ifD_dec (fun hgt => ?_) fun hle => ?_))
  case refine_2 =>
    have : l = [] := List.eq_nil_of_length_eq_zero (by omega)
    subst this
    exact hk gr r w4 M.blk hgr R (M.fr.ext x03 fun k hk => by omega)
  refine lnx xa_23 (SliceIs.of_own ho) (V_sub.2 ?_)
  rw [wrap_id (by omega) (by omega), show (l.length : Int) - 1 = ((l.length - 1 : Nat) : Int) by omega]
  have hlm := getN (l := l) (j := l.length - 1) (by omega)
  refine ldO' xa_23 l1_3 ho (by omega) (by omega) (getI hlm) ?_
  obtain ⟨t0, t1, t2⟩ := R.ls _ (List.mem_of_getElem? hlm)
  have hsplit : l = l.take (l.length - 1) ++ [nth l (l.length - 1)] := by
    have := List.take_add_one (l := l) (i := l.length - 1)
    rw [hlm] at this
    simp only [Option.toList_some] at this
    rw [← this, List.take_of_length_le (by omega)]
  obtain ⟨pc, hpc⟩ : ∃ pc : Nat, nth l (l.length - 1) = pc := ⟨(nth l (l.length - 1)).toNat, by omega⟩
  rw [hpc] at t0 t1 t2 hsplit ⊢
  rw [Int.toNat_natCast] at t2
  have hlen2 : (l.take (l.length - 1)).length = l.length - 1 := by simp
  refine lnx xa_23 (SliceIs.of_own ho) (V_sub.2 ?_)
  rw [wrap_id (by omega) (by omega), show (l.length : Int) - 1 = ((l.length - 1 : Nat) : Int) by omega]
  refine slO Tryz.underlying23 inf3 (by decide) ho (by omega) (by omega) fun ho2 => ?_
  rw [Nat.mul_one, ← List.map_take] at ho2
  generalize hl2 : l.take (l.length - 1) = l2 at *
  have M2 : Rm gr w3 w4 (.slice (some ⟨ga, 0, none⟩) (l.length - 1) cap) l2 r := ⟨by rw [hlen2]; exact ho2, ⟨ga, cap, by rw [hlen2]⟩, M.blk, M.fr⟩
  have hin : ∀ t, t ∈ l → t ∈ l2 ∨ t = pc := fun t ht => by
    rw [hsplit] at ht
    rcases List.mem_append.1 ht with h | h
    · exact .inl h
    · rw [List.mem_singleton] at h; exact .inr h
  have hin2 : ∀ t, t ∈ l2 → t ∈ l := fun t ht => by rw [hsplit]; exact List.mem_append_left _ ht
  have hsl : SliceIs w4 (.slice (some ⟨gr, 0, none⟩) m.code.length m.code.length) 1 m.code.length (r.map .bool) := M.blk.slice (by simpa using hrl) (by unfold maxLen; omega)
  refine ldx xa_78 l1_4 hsl (by omega) (by omega) (getB' (by omega)) ?_
  cases hr : r.getD pc false with
  | true =>
    refine ifD_true.2 (step M2 ⟨hrl, fun t ht => R.ls t (hin2 t ht), R.rs, ?_, fun k hk to hto => ?_, by omega⟩ (by omega))
    · rcases R.z with h | h
      · exact .inl h
      · rcases hin _ h with h | h
        · exact .inr h
        · left
          have : pc = 0 := by omega
          rw [← this]; exact hr
    · rcases R.cl k hk to hto with h | h
      · exact .inl h
      · rcases hin _ h with h | h
        · exact .inr h
        · left; subst h; rw [Int.toNat_natCast]; exact hr
  | false =>
  refine ifD_false.2 ?_
  refine stB xa_78 inf4 M2.blk (n := m.code.length) (by simpa using hrl) (by omega) (by omega) rfl ?_
  rw [Int.toNat_natCast]
  have M3 : Rm gr w3 (w4.setCell ⟨gr, pc, none⟩ (.bool true)) (.slice (some ⟨ga, 0, none⟩) (l.length - 1) cap) l2 (r.set pc true) := by
    refine ⟨(Fr.of_set (S := fun k => k = gr) rfl).own M2.own fun k hk he => by have := (M2.own.lt k hk).1; omega, M2.sh, ?_, M2.fr.set (Nat.le_refl _)⟩
    have := M2.blk.set pc (.bool true)
    rwa [← List.map_set] at this
  generalize w4.setCell ⟨gr, pc, none⟩ (.bool true) = w5 at M3
  have x15 : Ext w1 w5 := M3.fr.ext x13 fun k hk => by omega
  have x05 := x1.trans x15
  refine ldB (hb1.ext x15) fa_47_3 l1_45 rfl ?_
  have hxi := insC_mem (m := m) (k := pc) (by omega)
  refine ldI (hc.ext x05) hxi ?_
  refine asK sa_71 rfl rfl fun w6 hB6 x6 => ?_
  have hB6 : Blk w6 w5.heap.size [i64 (m.ins pc).op, i64 (m.ins pc).a, i64 (m.ins pc).b] 71 := hB6
  have hga5 := (M3.own.lt ga rfl).2
  have hb6 := Blk.boxed hB6
  have M6 := M3.ext x6
  have hcf := cf_set (r := r) (k := pc) (by omega) hr
  -- what is pushed
  have fin : ∀ {v : Value} {w' : World} {l3 : List Int}, Rm gr w3 w' v (l2 ++ l3) (r.set pc true) → (∀ t, t ∈ l3 ↔ t ∈ nextS (m.ins pc) pc) → l3.length ≤ 2 → Rm gr w3 w' v (l2 ++ l3) (r.set pc true) ∧ Rch i m st (l2 ++ l3) (r.set pc true) ∧ 3 * cf (r.set pc true) + (l2 ++ l3).length < 3 * cf r + l.length := by
    intro v w' l3 hM hl3 hle
    obtain ⟨out, _, hout⟩ := hled pc t2
    have hlen : (l2 ++ l3).length = l2.length + l3.length := List.length_append
    have hgs : ∀ k, (r.set pc true).getD k false = true ↔ k = pc ∨ r.getD k false = true := fun k => by
      rw [getD_set]
      by_cases hkp : k = pc
      · rw [if_pos ⟨hkp, by omega⟩]; simp [hkp]
      · rw [if_neg fun h => hkp h.1]; simp [hkp]
    refine ⟨hM, ⟨by simpa using hrl, fun t ht => ?_, fun k hk => ?_, ?_, fun k hk to hto => ?_, by omega⟩, by omega⟩
    · rcases List.mem_append.1 ht with h | h
      · exact R.ls t (hin2 t h)
      · obtain ⟨q1, q2, q3, _⟩ := hout t ((hl3 t).1 h)
        exact ⟨q1, q2, q3⟩
    · rcases (hgs k).1 hk with h | h
      · rw [h]; exact t2
      · exact R.rs k h
    · rcases R.z with h | h
      · exact .inl ((hgs 0).2 (.inr h))
      · rcases hin _ h with h | h
        · exact .inr (List.mem_append_left _ h)
        · exact .inl ((hgs 0).2 (.inl (by omega)))
    · rcases (hgs k).1 hk with h | h
      · subst h; exact .inr (List.mem_append_right _ ((hl3 to).2 hto))
      · rcases R.cl k h to hto with h | h
        · exact .inl ((hgs _).2 (.inr h))
        · rcases hin _ h with h | h
          · exact .inr (List.mem_append_left _ h)
          · exact .inl ((hgs _).2 (.inl (by omega)))
  have hpm := fun t => push_mem (x := m.ins pc) (pc := pc) (t := t)
  unfold pushP at hpm
  obtain ⟨A, hA⟩ : ∃ A, A = (if (m.ins pc).op = 23 ∨ (m.ins pc).op = 24 then [(m.ins pc).a] else []) := ⟨_, rfl⟩
  obtain ⟨C, hC⟩ : ∃ C, C = (if (m.ins pc).op ≠ 23 ∧ (m.ins pc).op ≠ 39 then [(pc : Int) + 1] else []) := ⟨_, rfl⟩
  rw [← hA, ← hC] at hpm
  have hAl : A.length ≤ 1 := by rw [hA]; split <;> simp
  have hCl : C.length ≤ 1 := by rw [hC]; split <;> simp
  have fin2 : ∀ {v : Value} {w' : World}, Rm gr w3 w' v (l2 ++ A ++ C) (r.set pc true) → (∃ l r, Rm gr w3 w' v l r ∧ Rch i m st l r) ∧ mu (fun q => ∃ l r, (Rm gr w3 w' v l r ∧ Rch i m st l r) ∧ 3 * cf r + l.length = q) < mu (fun q => ∃ l' r, (Rm gr w3 w4 (.slice (some ⟨ga, 0, none⟩) l.length cap) l' r ∧ Rch i m st l' r) ∧ 3 * cf r + l'.length = q) := fun hM => by
    rw [List.append_assoc] at hM
    obtain ⟨f1, f2, f3⟩ := fin hM hpm (by rw [List.length_append]; omega)
    exact step f1 f2 f3
  clear fin hpm
  refine ⟨fun v w' => Rm gr w3 w' v (l2 ++ A) (r.set pc true) ∧ Boxed w' w5.heap.size [i64 (m.ins pc).op, i64 (m.ins pc).a, i64 (m.ins pc).b], ?_, ?_⟩
  · have psh : (m.ins pc).op = 23 ∨ (m.ins pc).op = 24 → V Tryz.prog (Instr.buildSlice 23 1 #[(0, i64 (m.ins pc).a)]) w6 fun u w1 => V Tryz.prog (Builtin.append_ #[23, 23] 23 #[.slice (some ⟨ga, 0, none⟩) (l.length - 1) cap, u]) w1 fun v w' => Rm gr w3 w' v (l2 ++ A) (r.set pc true) ∧ Boxed w' w5.heap.size [i64 (m.ins pc).op, i64 (m.ins pc).a, i64 (m.ins pc).b] := fun hop => by
      refine M6.push (by omega) fun v' w' hM hF => ⟨?_, Blk.boxed (hF.blk hB6 fun hk => ?_)⟩
      · rw [hA, if_pos hop]; exact hM
      · have hk : some ga = some w5.heap.size := hk
        rw [Option.some.injEq] at hk
        omega
    refine ldB hb6 fa_71_0 l1_3 rfl (V_eqlI.2 ?_)
    by_cases c1 : (m.ins pc).op = 23
    · simp only [c1, evL, reduceIte, decide_true]
      rw [← c1]
      exact ldB hb6 fa_71_1 l1_3 rfl (psh (.inl c1))
    simp only [c1, evL, reduceIte, Bool.false_eq_true, decide_false]
    refine ldB hb6 fa_71_0 l1_3 rfl (V_eqlI.2 ?_)
    by_cases c2 : (m.ins pc).op = 24
    · simp only [c2, evL, decide_true]
      rw [← c2]
      exact ldB hb6 fa_71_1 l1_3 rfl (psh (.inr c2))
    simp only [c2, evL, decide_false]
    refine ⟨?_, hb6⟩
    have hA0 : A = [] := by rw [hA, if_neg (by simp [c1, c2])]
    rw [hA0, List.append_nil]; exact M6
  rintro v7 w7 ⟨M7, hb7⟩ _
  refine ldB hb7 fa_71_0 l1_3 rfl (V_neqI.2 ?_)
  have hl2a : (l2 ++ A).length ≤ 100000 := by rw [List.length_append]; omega
  by_cases c1 : (m.ins pc).op = 23
  · simp only [c1, evL, not_true_eq_false, ne_eq, reduceIte, Bool.false_eq_true, decide_false]
    refine fin2 ?_
    have hC0 : C = [] := by rw [hC, if_neg (by simp [c1])]
    rw [hC0, List.append_nil]; exact M7
  simp only [c1, evL, not_false_eq_true, ne_eq, reduceIte, decide_true]
  refine ldB hb7 fa_71_0 l1_3 rfl (V_neqI.2 ?_)
  by_cases c2 : (m.ins pc).op = 39
  · simp only [c2, evL, not_true_eq_false, ne_eq, decide_false]
    refine fin2 ?_
    have hC0 : C = [] := by rw [hC, if_neg (by simp [c2])]
    rw [hC0, List.append_nil]; exact M7
  simp only [c2, evL, not_false_eq_true, ne_eq, decide_true]
  refine V_add.2 ?_
  rw [wrap_id (by omega) (by omega)]
  refine M7.push hl2a fun v8 w8 M8 _ => fin2 ?_
  have hC1 : C = [(pc : Int) + 1] := by rw [hC, if_pos ⟨c1, c2⟩]
  rw [hC1]; exact M8
end Go.Proofs.YtcdbikfnlggbnaaGreatDoor
namespace Go.Proofs.YtcdbikfnlggbnaaGreatDoor
open Go.Vc Go.Tc
variable {w : World} {K : Value → World → Prop}
/-- The nodes and the starts, up to a pc. -/
def liftK (i : Img) (m : Mth) (st : St) (r : List Bool) : Nat → List GNode × List Int
  | 0 => ((List.range m.locals.length).map fun (j : Nat) => GNode.const ((m.params.length : Int) + ((j : Nat) : Int)) 0, [])
  | k + 1 =>
    let p := liftK i m st r k
    if r.getD k false then (p.1 ++ .tick :: (liftN i m (m.ins k) (st.s k).length).toList, p.2 ++ [(p.1.length : Int)]) else (p.1, p.2 ++ [-1])
def liftP (i : Img) (m : Mth) (st : St) (r : List Bool) : List GNode := let p := liftK i m st r m.code.length; p.1.map (aimN p.2)
/-- A node in a row: its arguments lie aside from two rows' blocks. -/
def NodeAt (g : Nat) (nv tv : Value) (w : World) (u : Value) (n : GNode) : Prop := ∃ sv, u = n.val sv ∧ w.ownsRow (g + 1) 3 1 sv n.args.length (n.args.map i64) ∧ ∀ q, sv.ownBlock = some q → nv.ownBlock ≠ some q ∧ tv.ownBlock ≠ some q
/-- A program under way: block g, its nodes and its starts in rows of the call's own. -/
structure Lp (g : Nat) (np : Int) (nv tv : Value) (w : World) (N : List GNode) (T : List Int) : Prop where
  blk : Blk w g [i64 np, i64 18, nv] 38
  row : ∃ xs : List Value, w.ownsRow (g + 1) 52 1 nv N.length xs ∧ ∀ (k : Nat) n, N[k]? = some n → ∃ u, xs[k]? = some u ∧ NodeAt g nv tv w u n
  st : w.ownsRow (g + 1) 3 1 tv T.length (T.map i64)
  ne : ∀ q, nv.ownBlock = some q → tv.ownBlock ≠ some q
theorem Lp.ext {g : Nat} {np : Int} {nv tv : Value} {w' : World} {N : List GNode} {T : List Int} (h : Lp g np nv tv w N T) (hx : Ext w w') : Lp g np nv tv w' N T := by
  obtain ⟨h1, ⟨xs, h2, h3⟩, h8, h9⟩ := h
  refine ⟨h1.ext hx, ⟨xs, hx.own h2, fun k n hk => ?_⟩, hx.own h8, h9⟩
  obtain ⟨u, h4, sv, h5, h6, h7⟩ := h3 k n hk
  exact ⟨u, h4, sv, h5, hx.own h6, h7⟩
theorem val_one (n : GNode) (sv : Value) : oneC (n.val sv) = true := by cases n <;> rfl
theorem Lp.nodes {g : Nat} {np : Int} {nv tv : Value} {N : List GNode} {T : List Int} (h : Lp g np nv tv w N T) : NodesAre w nv N := by
  obtain ⟨_, ⟨xs, h2, h3⟩, _, _⟩ := h
  refine ⟨xs, SliceIs.of_own h2, fun k n hk => ?_⟩
  obtain ⟨u, h4, sv, h5, h6, _⟩ := h3 k n hk
  exact ⟨u, h4, sv, h5, SliceIs.of_own h6⟩
/-- A start more. -/
theorem Lp.start {g : Nat} {np : Int} {nv tv : Value} {N : List GNode} {T : List Int} {t : Int} (h : Lp g np nv tv w N T) (hT : T.length ≤ 100000) (hk : ∀ tv' w', Lp g np nv tv' w' N (T ++ [t]) → Fr (fun k => tv.ownBlock = some k) w w' → (∀ q, tv'.ownBlock = some q → tv.ownBlock = some q ∨ w.heap.size ≤ q) → K tv' w') :
    V Tryz.prog (Instr.buildSlice 23 1 #[(0, i64 t)]) w fun u w1 => V Tryz.prog (Builtin.append_ #[23, 23] 23 #[tv, u]) w1 K := by
  obtain ⟨hB, ⟨xs, ho, hxs⟩, hst, hne⟩ := h
  have hg := hB.lt
  refine bsl xe_23 [i64 t] rfl rfl (by simp) rfl fun u w1 ho1 x1 => ?_
  have s1 := x1.size
  refine apS xe_23 (x1.own hst) (SliceIs.of_own ho1) rfl (by omega) (by unfold maxLen; omega) (by omega) fun tv' w2 ho2 hg2 hl2 => ?_
  have hlo : ∀ k, tv.ownBlock = some k → g + 1 ≤ k := fun k hk => (hst.lt k hk).1
  have f2 : Fr (fun k => tv.ownBlock = some k) w1 w2 := Fr.of_grown hg2 fun k hk => hk
  refine hk tv' w2 ⟨f2.blk (hB.ext x1) fun hk => by have := hlo _ hk; omega, ⟨xs, f2.own (x1.own ho) fun k hk hS => hne k hk hS, fun k n hk => ?_⟩, by simpa using ho2, fun q hq hq' => ?_⟩ ((Fr.of_ext x1).trans f2 fun _ _ h => h) (fun q hq => by
      rcases hl2 with h2 | h2
      · rw [h2] at hq; exact .inl hq
      · rw [h2] at hq; cases hq; exact .inr (by omega))
  · obtain ⟨u, h4, sv, h5, h6, h7⟩ := hxs k n hk
    refine ⟨u, h4, sv, h5, f2.own (x1.own h6) fun q hq hS => (h7 q hq).2 hS, fun q hq => ⟨(h7 q hq).1, fun hq' => ?_⟩⟩
    rcases hl2 with h2 | h2
    · rw [h2] at hq'; exact (h7 q hq).2 hq'
    · rw [h2] at hq'; cases hq'; have := (h6.lt _ hq).2; omega
  · rcases hl2 with h2 | h2
    · rw [h2] at hq'; exact hne q hq hq'
    · rw [h2] at hq'; cases hq'; have := (ho.lt _ hq).2; omega
/-- A node more. -/
theorem Lp.push {g : Nat} {np : Int} {nv tv u : Value} {N : List GNode} {T : List Int} {n : GNode} {K' : World → Prop} (h : Lp g np nv tv w N T) (hu : NodeAt g nv tv w u n) (hN : N.length ≤ 100000) (hk : ∀ nv' w', Lp g np nv' tv w' (N ++ [n]) T → Fr (fun k => k = g ∨ nv.ownBlock = some k) w w' → (∀ q, nv'.ownBlock = some q → nv.ownBlock = some q ∨ w.heap.size ≤ q) → K' w') :
    V Tryz.prog (Instr.buildSlice 36 1 #[(0, u)]) w fun t w1 => V Tryz.prog (Builtin.append_ #[36, 36] 36 #[nv, t]) w1 fun t2 w2 => V Tryz.prog (Instr.fieldAt 38 (.pointer (some ⟨g, 0, none⟩)) 2) w2 fun q w3 => U Tryz.prog (Instr.storeAt 36 q t2) w3 fun _ w4 => K' w4 := by
  obtain ⟨sv, rfl, hso, hsn⟩ := hu
  obtain ⟨hB, ⟨xs, ho, hxs⟩, hst, hne⟩ := h
  have hg := hB.lt
  refine bsl xe_36 [n.val sv] rfl rfl (by simp) (by simp [val_one]) fun t w1 ho1 x1 => ?_
  have s1 := x1.size
  refine apS xe_36 (x1.own ho) (SliceIs.of_own ho1) (by simp [val_one]) (by omega) (by unfold maxLen; omega) (by omega) fun nv' w2 ho2 hg2 hl2 => ?_
  have hlo : ∀ k, nv.ownBlock = some k → g + 1 ≤ k := fun k hk => (ho.lt k hk).1
  have f2 : Fr (fun k => nv.ownBlock = some k) w1 w2 := Fr.of_grown hg2 fun k hk => hk
  have hB2 := f2.blk (hB.ext x1) fun hk => by have := hlo _ hk; omega
  refine stF fa_38_2 inf36 hB2 (n := 3) rfl (by decide) (own_one ho2) ?_
  have f3 : Fr (fun k => k = g) w2 (w2.setCell ⟨g, 2, none⟩ nv') := Fr.of_set rfl
  have hB3 := hB2.set 2 nv'
  generalize w2.setCell ⟨g, 2, none⟩ nv' = w3 at f3 hB3
  have fresh : ∀ {q : Nat}, q < w.heap.size → nv.ownBlock ≠ some q → nv'.ownBlock ≠ some q := fun hlt hb hq' => by
    rcases hl2 with h2 | h2
    · rw [h2] at hq'; exact hb hq'
    · rw [h2] at hq'; cases hq'; omega
  have keep0 : ∀ {sv : Value} {l : List Int}, w.ownsRow (g + 1) 3 1 sv l.length (l.map i64) → (∀ q, sv.ownBlock = some q → nv.ownBlock ≠ some q) → w3.ownsRow (g + 1) 3 1 sv l.length (l.map i64) := fun ha hb =>
    f3.own (f2.own (x1.own ha) fun k hk hS => hb k hk hS) fun k hk hS => by have := (ha.lt k hk).1; have hS : k = g := hS; omega
  have keep : ∀ {sv : Value} {l : List Int}, w.ownsRow (g + 1) 3 1 sv l.length (l.map i64) → (∀ q, sv.ownBlock = some q → nv.ownBlock ≠ some q ∧ tv.ownBlock ≠ some q) → w3.ownsRow (g + 1) 3 1 sv l.length (l.map i64) ∧ ∀ q, sv.ownBlock = some q → nv'.ownBlock ≠ some q ∧ tv.ownBlock ≠ some q := fun ha hb =>
    ⟨keep0 ha fun q hq => (hb q hq).1, fun q hq => ⟨fresh (ha.lt q hq).2 (hb q hq).1, (hb q hq).2⟩⟩
  refine hk nv' w3 ⟨hB3, ⟨xs ++ [n.val sv], ?_, fun k y hy => ?_⟩, keep0 hst fun q hq hq' => hne q hq' hq, fun q hq hq' => fresh (hst.lt q hq').2 (fun h => hne q h hq') hq⟩ (((Fr.of_ext x1).trans (f2.mono fun k hk => .inr hk) fun _ _ h => h).trans (f3.mono fun k hk => .inl hk) fun _ _ h => h) (fun q hq => by
      rcases hl2 with h2 | h2
      · rw [h2] at hq; exact .inl hq
      · rw [h2] at hq; cases hq; exact .inr (by omega))
  · rw [List.length_append]
    exact f3.own ho2 fun k hk hS => by have := (ho2.lt k hk).1; have hS : k = g := hS; omega
  · rw [List.getElem?_append] at hy ⊢
    have hxl : xs.length = N.length := by have := ho.1; omega
    split at hy
    · rename_i hlt
      obtain ⟨u, h4, sv2, h5, h6, h7⟩ := hxs k y hy
      rw [if_pos (by omega)]
      obtain ⟨k1, k2⟩ := keep h6 h7
      exact ⟨u, h4, sv2, h5, k1, k2⟩
    · rename_i hge
      rw [if_neg (by omega), hxl]
      have hk0 : k - N.length = 0 := by
        have := (List.getElem?_eq_some_iff.1 hy).1
        simpa using this
      rw [hk0] at hy ⊢
      cases hy
      obtain ⟨k1, k2⟩ := keep hso hsn
      exact ⟨n.val sv, rfl, sv, rfl, k1, k2⟩
end Go.Proofs.YtcdbikfnlggbnaaGreatDoor
namespace Go.Proofs.YtcdbikfnlggbnaaGreatDoor
open Go.Vc Go.Tc
variable {w : World} {K : Value → World → Prop}
theorem Lp.set {g : Nat} {np : Int} {gn c j : Nat} {tv u : Value} {N : List GNode} {T : List Int} {n : GNode} {K' : World → Prop} (h : Lp g np (.slice (some ⟨gn, 0, none⟩) N.length c) tv w N T) (hj : j < N.length) (hu : NodeAt g (.slice (some ⟨gn, 0, none⟩) N.length c) tv w u n)
    (hk : ∀ w', Lp g np (.slice (some ⟨gn, 0, none⟩) (N.set j n).length c) tv w' (N.set j n) T → Fr (fun k => k = gn) w w' → K' w') : U Tryz.prog (Instr.storeAt 52 (.pointer (some ⟨gn, 0 + j * 1, none⟩)) u) w fun _ w2 => K' w2 := by
  obtain ⟨sv, rfl, hso, hsn⟩ := hu
  obtain ⟨hB, ⟨xs, ho, hxs⟩, hst, hne⟩ := h
  have hgn := ho.lt gn rfl
  have hxl : xs.length = N.length := by have := ho.1; omega
  refine stY inf52 ho hj (val_one _ _) fun w' ho' hg' => ?_
  have f : Fr (fun k => k = gn) w w' := Fr.of_grown hg' fun k hk => by cases hk; rfl
  have keep : ∀ {sv : Value} {l : List Int}, w.ownsRow (g + 1) 3 1 sv l.length (l.map i64) → (∀ q, sv.ownBlock = some q → gn ≠ q) → w'.ownsRow (g + 1) 3 1 sv l.length (l.map i64) := fun ha hb => f.own ha fun k hk hS => hb k hk hS.symm
  have hne' : ∀ {v : Value} {q : Nat}, (Value.slice (some ⟨gn, 0, none⟩) N.length c).ownBlock ≠ some q → gn ≠ q := fun h e => h (by rw [e]; rfl)
  refine hk w' ⟨by rw [List.length_set]; exact f.blk hB (by omega), ⟨xs.set j (n.val sv), by rw [List.length_set]; exact ho', fun k y hy => ?_⟩, keep hst fun q hq e => hne gn rfl (by rw [e]; exact hq), by rw [List.length_set]; exact hne⟩ f
  rw [List.length_set]
  rw [List.getElem?_set] at hy ⊢
  by_cases hkj : j = k
  · subst hkj
    rw [if_pos rfl, if_pos hj] at hy
    rw [if_pos rfl, if_pos (by omega)]
    cases hy
    exact ⟨_, rfl, sv, rfl, keep hso fun q hq => hne' (v := sv) (hsn q hq).1, hsn⟩
  · rw [if_neg hkj] at hy ⊢
    obtain ⟨u2, h4, sv2, h5, h6, h7⟩ := hxs k y hy
    exact ⟨u2, h4, sv2, h5, keep h6 fun q hq => hne' (v := sv2) (h7 q hq).1, h7⟩
theorem liftN_aim {i : Img} {m : Mth} {x : Ins} {h pc : Nat} {n : GNode} {T : List Int} (hn : liftN i m x h = some n) (hT : ∀ to ∈ nextS x pc, 0 ≤ to ∧ to < T.length) : aimOk T n := by
  by_cases c1 : x.op = 23
  · have : n = .goto x.a := by simp [liftN, c1] at hn; exact hn.symm
    subst this
    exact hT x.a (by simp [nextS, c1])
  by_cases c2 : x.op = 24
  · have : n = .branch (10 + ((h : Int) - 1)) x.a := by simp [liftN, c2] at hn; exact hn.symm
    subst this
    exact hT x.a (by simp [nextS, c2])
  unfold liftN at hn
  by_cases d0 : x.op = 1
  · rw [if_pos d0] at hn; cases hn; trivial
  rw [if_neg d0] at hn
  by_cases d1 : x.op = 2
  · rw [if_pos d1] at hn; cases hn; trivial
  rw [if_neg d1] at hn
  by_cases d2 : x.op = 3
  · rw [if_pos d2] at hn; cases hn; trivial
  rw [if_neg d2] at hn
  by_cases d3 : x.op = 4
  · rw [if_pos d3] at hn; cases hn
  rw [if_neg d3] at hn
  by_cases d4 : x.op = 5
  · rw [if_pos d4] at hn; cases hn; trivial
  rw [if_neg d4] at hn
  by_cases d5 : x.op = 15 ∨ x.op = 16 ∨ x.op = 26
  · rw [if_pos d5] at hn; cases hn; trivial
  rw [if_neg d5] at hn
  by_cases d6 : x.op = 22
  · rw [if_pos d6] at hn; cases hn; trivial
  rw [if_neg d6] at hn
  rw [if_neg c1] at hn
  rw [if_neg c2] at hn
  by_cases d9 : x.op = 25
  · rw [if_pos d9] at hn; cases hn; trivial
  rw [if_neg d9] at hn
  by_cases d10 : x.op = 35
  · rw [if_pos d10] at hn; cases hn; trivial
  rw [if_neg d10] at hn
  by_cases d11 : x.op = 33
  · rw [if_pos d11] at hn; cases hn; trivial
  rw [if_neg d11] at hn
  by_cases d12 : x.op = 34
  · rw [if_pos d12] at hn; cases hn; trivial
  rw [if_neg d12] at hn
  by_cases d13 : x.op = 37
  · rw [if_pos d13] at hn; cases hn; trivial
  rw [if_neg d13] at hn
  by_cases d14 : x.op = 38
  · rw [if_pos d14] at hn; cases hn; trivial
  rw [if_neg d14] at hn
  by_cases d15 : x.op = 39
  · rw [if_pos d15] at hn; cases hn; trivial
  rw [if_neg d15] at hn
  by_cases d16 : (srvP x.op).1 ≠ 0
  · rw [if_pos d16] at hn; cases hn; trivial
  rw [if_neg d16] at hn
  cases hn
  trivial
theorem liftK_aim {i : Img} {m : Mth} {st : St} {r : List Bool} {T : List Int} (hT : T.length = m.code.length) (hled : ∀ k, st.h k = true → Led i m st k) (hr : ∀ k, r.getD k false = true → st.h k = true) : ∀ (k : Nat) (n : GNode), n ∈ (liftK i m st r k).1 → aimOk T n
  | 0, n, h => by
    simp only [liftK, List.mem_map] at h
    obtain ⟨j, _, rfl⟩ := h
    trivial
  | k + 1, n, h => by
    have ih := liftK_aim hT hled hr k
    cases hk : r.getD k false with
    | false =>
      have e : (liftK i m st r (k + 1)).1 = (liftK i m st r k).1 := by simp only [liftK, hk]; rfl
      rw [e] at h
      exact ih n h
    | true =>
      have e : (liftK i m st r (k + 1)).1 = (liftK i m st r k).1 ++ .tick :: (liftN i m (m.ins k) (st.s k).length).toList := by simp only [liftK, hk]; rfl
      rw [e] at h
      rcases List.mem_append.1 h with h | h
      · exact ih n h
      · rcases List.mem_cons.1 h with h | h
        · subst h; trivial
        · obtain ⟨out, _, hto⟩ := hled k (hr k hk)
          refine liftN_aim (pc := k) (by simpa using h) fun to ht => ?_
          obtain ⟨q1, q2, _⟩ := hto to ht
          exact ⟨q1, by rw [hT]; exact q2⟩
end Go.Proofs.YtcdbikfnlggbnaaGreatDoor
namespace Go.Proofs.YtcdbikfnlggbnaaGreatDoor
open Go.Vc Go.Tc
variable {w : World} {K : Value → World → Prop}
theorem val_neq {n : GNode} {sv : Value} {x y : Operand} {R : Value → World → Prop} (hk : R (.bool true) w) : V Tryz.prog (do eqGuard .neq 52 x y (n.val sv) Value.nilIface; binOp .neq 52 (n.val sv) Value.nilIface) w R := by
  cases n <;> exact V.ok (r_neqNilIface Tryz.underlying52) hk
set_option maxHeartbeats 4000000 in
theorem lift12 {p : ImgV} {i : Img} {k : Int} (h : ImgAt w p i) (hn : NamesOk w i) (hrg : i.rg)
    (yes : ∀ st r nv sv w', Taken i → 0 ≤ k → k < i.methods.length → Walk i (i.meth k) (some st) → Rch i (i.meth k) st [] r → NodesAre w' nv (liftP i (i.meth k) st r) → IntsAre w' sv (liftK i (i.meth k) st r (i.meth k).code.length).2 → Ext w w' → K (.tuple #[.agg #[i64 (i.meth k).params.length, i64 18, nv], sv, .bool true]) w')
    (no : ∀ w', ¬ (Taken i ∧ 0 ≤ k ∧ k < i.methods.length) → Ext w w' → K (.tuple #[.agg #[i64 0, i64 0, nilS], nilS, .bool false]) w') : callD Tryz.prog 12 #[p.val i, i64 k] w K := by
  apply F12_wp
  unfold F12_den ImgV.val
  refine bx fun b2 w1 hb2 x1 => ?_
  have hb2 : Boxed w1 b2 [.string i.name, p.fv, p.iv, p.mv, p.xv] := hb2
  refine alK inf38 fun w2 hB4 x2 => ?_
  have hB4 : Blk w2 w1.heap.size [i64 0, i64 0, nilS] 38 := hB4
  have x02 := x1.trans x2
  have hg4 := x1.size
  have hb2 := hb2.ext x2
  generalize w1.heap.size = g4 at hB4 hg4
  refine ldA hb2 la_27 rfl ?_
  refine states29 (p := p) (i := i) (h.ext x02) (hn.ext x02) hrg (fun st sv w3 ht h0 hkl hw hst x3 => ?_) fun w3 hne x3 => ?_
  case refine_2 =>
    refine V_ext0.2 (V_ext1.2 (V_not.2 ?_))
    simp only [evL, Int.reduceNeg, Bool.not_false]
    refine bld bd_38 [] rfl rfl ?_
    refine stA inf38 (hB4.ext x3) (l := [i64 0, i64 0, nilS]) rfl rfl rfl rfl fun w4 hB hc => ?_
    exact ⟨_, r_var Tryz.underlying38 rfl inf38 hB rfl, ⟨_, rfl⟩, no w4 hne (hc.ext _ (x02.trans x3) hg4)⟩
  refine V_ext0.2 (V_ext1.2 (V_not.2 ?_))
  simp only [evL, Int.reduceNeg, Bool.not_true]
  obtain ⟨kn, rfl⟩ : ∃ q : Nat, k = q := ⟨k.toNat, by omega⟩
  have hmi := meth_get (i := i) (a := (kn : Int)) (by omega) (by omega)
  rw [Int.toNat_natCast] at hmi
  have ir := ht.1
  have mr : (i.meth kn).right := ir.2.2.1.2.1 _ (List.mem_of_getElem? hmi)
  obtain ⟨hox, hwf, hh0, hs0, hled⟩ := hw.led ir mr
  have x03 := x02.trans x3
  have hb3 := hb2.ext x3
  refine ldB hb3 fa_27_3 l1_25 rfl ?_
  refine ldS xa_25 la_47 (h.ext x03).mt hmi mth_len fun row hrow => ?_
  generalize hmm : i.meth kn = m at *
  have hrow0 := hrow
  obtain ⟨pv, lv, cv, rfl, hp, hl, hc⟩ := hrow
  have hone : ([pv, i64 m.result, lv, cv] : List Value).all oneC = true := by
    obtain ⟨a1, c1, rfl⟩ := hp.shape
    obtain ⟨a2, c2, rfl⟩ := hl.shape
    obtain ⟨a3, c3, rfl⟩ := SliceIs.shape hc
    rfl
  refine asB sa_47 rfl hone fun b9 w4 hb9 x4 => ?_
  have hb9 : Boxed w4 b9 [pv, i64 m.result, lv, cv] := hb9
  have hp4 := hp.ext x4
  refine ldB hb9 fa_47_0 l1_23 rfl (lnx xa_23 hp4 ?_)
  refine bld bd_38 [(0, i64 m.params.length), (1, i64 18)] rfl rfl ?_
  refine asK sa_38 rfl rfl fun w5 hB5 x5 => ?_
  have hB5 : Blk w5 w4.heap.size [i64 m.params.length, i64 18, nilS] 38 := hB5
  have hg4' : g4 < w4.heap.size := by have := hB4.lt; have := x3.size; have := x4.size; omega
  have hb9' := hb9.ext x5
  refine ldB hb9' fa_47_2 l1_23 rfl (lnx xa_23 ((hl.ext x4).ext x5) ?_)
  have hL0 : Lp w4.heap.size m.params.length nilS nilS w5 [] [] := ⟨hB5, ⟨[], World.ownsRow_nil _ _ _ _, fun k n hk => by simp at hk⟩, World.ownsRow_nil _ _ _ _, fun q hq => by cases hq⟩
  have x04 := x03.trans x4
  have hgx := hB5.lt
  generalize hgg : w4.heap.size = g at *
  have pl := mr.1.2
  have ll := mr.2.2.1.2
  -- the locals
  refine ⟨fun v w' => ∃ (j : Nat) (nv : Value), v = i64 j ∧ j ≤ m.locals.length ∧ Ext w4 w' ∧ Lp g m.params.length nv nilS w' ((List.range j).map fun (j : Nat) => GNode.const ((m.params.length : Int) + ((j : Nat) : Int)) 0) [], fun v _ => m.locals.length - (RowKit.intOf v).toNat, ⟨0, nilS, rfl, Nat.zero_le _, x5, hL0⟩, ?_⟩
  clear hL0 hB5
  rintro _ w6 ⟨j, nv, rfl, hj, x6, hL⟩ _
  refine V_lss.2 (ifD_dec (fun hlt => ?_) fun hge => ?_)
  · refine ldB (Blk.boxed hL.blk) fa_38_2 l1_36 rfl ?_
    refine ldB (hb9.ext x6) fa_47_0 l1_23 rfl (lnx xa_23 (hp4.ext x6) (V_add.2 ?_))
    rw [wrap_id (by omega) (by omega)]
    refine bld bd_84 [(0, i64 ((m.params.length : Int) + (j : Int)))] rfl rfl (mki mi_84 ?_)
    refine hL.push (n := .const ((m.params.length : Int) + (j : Int)) 0) ⟨nilS, rfl, World.ownsRow_nil _ _ _ _, fun q hq => by cases hq⟩ (by simp; omega) fun nv' w7 hL7 f7 _ => V_add.2 ?_
    rw [wrap_id (by omega) (by omega), i64_succ]
    have hnv : ∀ q, nv.ownBlock = some q → g + 1 ≤ q := fun q hq => by obtain ⟨xs, ho, _⟩ := hL.row; exact (ho.lt q hq).1
    refine ⟨⟨j + 1, nv', rfl, by omega, f7.ext x6 fun q hq => ?_, ?_⟩, by simp only [intOf_i64]; omega⟩
    · rcases hq with hq | hq
      · omega
      · have := hnv q hq; omega
    · rw [List.range_succ, List.map_append]; exact hL7
  have hjl : j = m.locals.length := by omega
  subst hjl
  have hn1 := mr.2.2.2.1.1; have hn2 := mr.2.2.2.1.2
  refine ldA (hb9.ext x6) la_47 rfl ?_
  refine reached30 (i := i) (m := m) (st := st) (row := [pv, i64 m.result, lv, cv]) ((hrow0.ext x4).ext x6) hn1 (by omega) hh0 hled hwf fun gr r w7 hBr hgr R x7 => ?_
  have x47 := x6.trans x7
  refine ldB (hb9.ext x47) fa_47_3 l1_45 rfl (lnx xa_45 ((hc.ext x4).ext x47) ?_)
  have hnvb : ∀ q, nv.ownBlock = some q → q ≠ gr := fun q hq => by obtain ⟨xs, ho, _⟩ := hL.row; have := (ho.lt q hq).2; omega
  have hgg6 : g < w6.heap.size := hL.blk.lt
  have hgrg : gr ≠ g := by omega
  -- the nodes
  refine ⟨fun tv v w' => ∃ (j : Nat) (nv : Value), v = i64 j ∧ j ≤ m.code.length ∧ Ext w4 w' ∧ Lp g m.params.length nv tv w' (liftK i m st r j).1 (liftK i m st r j).2 ∧ (liftK i m st r j).1.length ≤ 10 + 2 * j ∧ (liftK i m st r j).2.length = j ∧ Blk w' gr (r.map .bool) 4 ∧ ∀ q, nv.ownBlock = some q ∨ tv.ownBlock = some q → q ≠ gr,
    fun _ v _ => m.code.length - (RowKit.intOf v).toNat, ⟨0, nv, rfl, Nat.zero_le _, x47, hL.ext x7, by simp [liftK]; omega, rfl, hBr, fun q hq => ?_⟩, ?_⟩
  · rcases hq with hq | hq
    · exact hnvb q hq
    · cases hq
  clear hL hBr hnvb
  rintro tv _ w8 ⟨j, nv, rfl, hj, x8, hL, hNl, hTl, hBr, hgb⟩ _
  refine V_lss.2 (ifD_dec (fun hlt => ?_) fun hge => ?_)
  · have hj' : j < m.code.length := by omega
    have hxi := insC_mem (m := m) (k := j) hj'
    have ox := hox _ (List.mem_of_getElem? hxi)
    refine ldI ((hc.ext x4).ext x8) hxi ?_
    refine asK sa_71 rfl rfl fun w9 hB15 x9 => ?_
    have hB15 : Blk w9 w8.heap.size [i64 (m.ins j).op, i64 (m.ins j).a, i64 (m.ins j).b] 71 := hB15
    have hnv8 : ∀ q, nv.ownBlock = some q → q < w8.heap.size := fun q hq => by obtain ⟨xs, ho, _⟩ := hL.row; exact (ho.lt q hq).2
    have htv8 : ∀ q, tv.ownBlock = some q → q < w8.heap.size := fun q hq => (hL.st.lt q hq).2
    have hg8 : g < w8.heap.size := hL.blk.lt
    have x49 := x8.trans x9
    have hL9 := hL.ext x9
    have hB9 := hBr.ext x9
    have hrl := R.rl
    have hsl : SliceIs w9 (.slice (some ⟨gr, 0, none⟩) m.code.length m.code.length) 1 m.code.length (r.map .bool) := hB9.slice (by simpa using hrl) (by unfold maxLen; omega)
    refine ldx xa_78 l1_4 hsl (by omega) (by omega) (getB' (by omega)) (V_not.2 ?_)
    have hlo : ∀ q, nv.ownBlock = some q ∨ tv.ownBlock = some q → g + 1 ≤ q := fun q hq => by
      rcases hq with hq | hq
      · obtain ⟨xs, ho, _⟩ := hL.row; exact (ho.lt q hq).1
      · exact (hL.st.lt q hq).1
    cases hrj : r.getD j false with
    | false =>
      simp only [evL, Int.reduceNeg, ne_eq, Bool.not_false]
      refine hL9.start (by omega) fun tv' w10 hL10 f10 q10 => V_add.2 ?_
      rw [wrap_id (by omega) (by omega), i64_succ]
      have hK : liftK i m st r (j + 1) = ((liftK i m st r j).1, (liftK i m st r j).2 ++ [-1]) := by simp only [liftK, hrj]; rfl
      refine ⟨⟨j + 1, nv, rfl, by omega, f10.ext x49 fun q hq => ?_, by rw [hK]; exact hL10, by rw [hK]; dsimp only; omega, by rw [hK]; simp [hTl], f10.blk hB9 fun hq => hgb gr (.inr hq) rfl, fun q hq => ?_⟩, by simp only [intOf_i64]; omega⟩
      · have := hlo q (.inr hq); omega
      · have hs9 := hB9.lt
        rcases hq with hq | hq
        · exact hgb q (.inl hq)
        · rcases q10 q hq with h10 | h10
          · exact hgb q (.inr h10)
          · omega
    | true =>
      simp only [evL, Int.reduceNeg, ne_eq, Bool.not_true]
      have hh := R.rs j hrj
      obtain ⟨out, hdo, _⟩ := hled j hh
      obtain ⟨hkd, hl8⟩ := hwf.kd j hh
      obtain ⟨_, _, hask, _⟩ := doS_ok ox hkd hdo
      refine ldB (Blk.boxed hL9.blk) fa_38_2 l1_36 rfl ?_
      have hnl : ∀ {nv tv w' N T}, Lp g m.params.length nv tv w' N T → ∃ vs, SliceIs w' nv 1 N.length vs := fun h => by obtain ⟨vs, h1, _⟩ := h.nodes; exact ⟨vs, h1⟩
      obtain ⟨nvs, hnvs⟩ := hnl hL9
      refine lnx xa_36 hnvs ?_
      refine hL9.start (by omega) fun tv' w10 hL10 f10 q10 => ?_
      have x10 : Ext w4 w10 := f10.ext x49 fun q hq => by have := hlo q (.inr hq); omega
      have hB10 := f10.blk hB9 fun hq => hgb gr (.inr hq) rfl
      refine ldB (Blk.boxed hL10.blk) fa_38_2 l1_36 rfl ?_
      refine bld bd_49 [] rfl rfl (mki mi_49 ?_)
      refine hL10.push (n := .tick) ⟨nilS, rfl, World.ownsRow_nil _ _ _ _, fun q hq => by cases hq⟩ (by omega) fun nv' w11 hL11 f11 q11 => ?_
      have hgw : w4.heap.size = g := hgg
      have x11 : Ext w4 w11 := f11.ext x10 fun q hq => by
        rcases hq with hq | hq
        · omega
        · have := hlo q (.inl hq); omega
      have hB11 := f11.blk hB10 fun hq => by
        rcases hq with hq | hq
        · exact hgrg hq
        · exact hgb gr (.inl hq) rfl
      have hB15' := f11.blk (f10.blk hB15 fun hq => by have := htv8 _ hq; omega) fun hq => by
        rcases hq with hq | hq
        · omega
        · have := hnv8 _ hq; omega
      have D1 : Ext w11 w11.drew := (Ext.refl _).drew
      have x1D := x11.trans D1
      obtain ⟨svs, hsv1, hsv2⟩ := (hst.ext x4).ext x1D
      have hstl : st.st.length = m.code.length := hwf.l1
      obtain ⟨su, hsu, hsi⟩ := hsv2 j (by omega)
      refine drawD.mk' (fun w' => Ext w11.drew w') (Ext.refl _) ?_
      refine yA (fun w' hx => ((hb3.ext x4).ext x1D).ext hx) la_27 rfl ?_
      refine yA (fun w' hx => (hb9.ext x1D).ext hx) la_47 rfl ?_
      refine yA (fun w' hx => (Blk.boxed (hB15'.ext D1)).ext hx) la_71 rfl ?_
      refine ySl xa_77 l1_23 hsv1 (fun _ h => h) (by omega) (by omega) (by simpa using hsu) ?_
      refine yLen xa_23 hsi ?_
      refine node31 (p := p) (i := i) (m := m) (x := m.ins j) (row := [pv, i64 m.result, lv, cv]) ((h.ext (x03.trans x4)).ext x1D) ((hrow0.ext x4).ext x1D) ox hl8 hask fun v w12 hv x12 => ⟨x12, ?_⟩
      have x1E := x1D.trans x12
      have xDE := D1.trans x12
      have hL12 := hL11.ext xDE
      have hB12 := hB11.ext xDE
      have sD := D1.size
      have s12 := x12.size
      have hK : liftK i m st r (j + 1) = ((liftK i m st r j).1 ++ .tick :: (liftN i m (m.ins j) (st.s j).length).toList, (liftK i m st r j).2 ++ [((liftK i m st r j).1.length : Int)]) := by simp only [liftK, hrj]; rfl
      have hs9 := hB9.lt
      have hs10 := f10.size
      have hs11 := f11.size
      have hgb11 : ∀ q, nv'.ownBlock = some q ∨ tv'.ownBlock = some q → q ≠ gr := fun q hq => by
        rcases hq with hq | hq
        · rcases q11 q hq with h11 | h11
          · exact hgb q (.inl h11)
          · omega
        · rcases q10 q hq with h10 | h10
          · exact hgb q (.inr h10)
          · omega
      have hv : LN w11.drew.heap.size w12 v (liftN i m (m.ins j) (st.s j).length) := hv
      cases ho : liftN i m (m.ins j) (st.s j).length with
      | none =>
        rw [ho] at hv hK
        have hv : v = Value.nilIface := hv
        subst hv
        refine V.ok (r_neqNilNil Tryz.underlying52) (ifD_false.2 (V_add.2 ?_))
        rw [wrap_id (by omega) (by omega), i64_succ]
        exact ⟨⟨j + 1, nv', rfl, by omega, x1E, by rw [hK]; exact hL12, by rw [hK]; simp; omega, by rw [hK]; simp [hTl], hB12, hgb11⟩, by simp only [intOf_i64]; omega⟩
      | some n =>
        rw [ho] at hv hK
        obtain ⟨asv, rfl, hown⟩ := hv
        refine val_neq (ifD_true.2 ?_)
        refine ldB (Blk.boxed hL12.blk) fa_38_2 l1_36 rfl ?_
        have hnv11 : ∀ q, nv'.ownBlock = some q ∨ tv'.ownBlock = some q → q < w11.heap.size ∧ g + 1 ≤ q := fun q hq => by
          rcases hq with hq | hq
          · obtain ⟨xs, ho, _⟩ := hL11.row; have := ho.lt q hq; omega
          · have := hL11.st.lt q hq; omega
        have hg11 := hL11.blk.lt
        refine hL12.push (n := n) ⟨asv, rfl, own_mono hown (by omega), fun q hq => ⟨fun h => ?_, fun h => ?_⟩⟩ (by simp; omega) fun nv2 w13 hL13 f13 q13 => V_add.2 ?_
        · have := (hown.lt q hq).1; have := (hnv11 q (.inl h)).1; omega
        · have := (hown.lt q hq).1; have := (hnv11 q (.inr h)).1; omega
        rw [wrap_id (by omega) (by omega), i64_succ]
        refine ⟨⟨j + 1, nv2, rfl, by omega, f13.ext x1E fun q hq => ?_, by rw [hK]; simpa using hL13, by rw [hK]; simp; omega, by rw [hK]; simp [hTl], f13.blk hB12 fun hq => ?_, fun q hq => ?_⟩, by simp only [intOf_i64]; omega⟩
        · rcases hq with hq | hq
          · omega
          · have := (hnv11 q (.inl hq)).2; omega
        · rcases hq with hq | hq
          · exact hgrg hq
          · exact hgb11 gr (.inl hq) rfl
        · rcases hq with hq | hq
          · rcases q13 q hq with h13 | h13
            · exact hgb11 q (.inl h13)
            · have := hB12.lt; omega
          · exact hgb11 q (.inr hq)
  · have hjn : j = m.code.length := by omega
    subst hjn
    have haim : ∀ (q : Nat) y, (liftK i m st r m.code.length).1[q]? = some y → aimOk (liftK i m st r m.code.length).2 y := fun q y hy => liftK_aim hTl hled R.rs _ y (List.mem_of_getElem? hy)
    have eP : liftP i m st r = (liftK i m st r m.code.length).1.map (aimN (liftK i m st r m.code.length).2) := rfl
    generalize hNN : (liftK i m st r m.code.length).1 = N at *
    generalize hTT : (liftK i m st r m.code.length).2 = T at *
    refine ldB (Blk.boxed hL.blk) fa_38_2 l1_36 rfl ?_
    obtain ⟨nvs, hnvs, _⟩ := hL.nodes
    refine lnx xa_36 hnvs ?_
    refine ⟨fun v w' => ∃ (q : Nat) (M : List GNode), v = i64 q ∧ q ≤ N.length ∧ Ext w4 w' ∧ Lp g m.params.length nv tv w' M T ∧ M.length = N.length ∧ ∀ a : Nat, M[a]? = if a < q then (N[a]?).map (aimN T) else N[a]?, fun v _ => N.length - (RowKit.intOf v).toNat, ⟨0, N, rfl, Nat.zero_le _, x8, hL, rfl, fun a => by simp⟩, ?_⟩
    rintro _ w9 ⟨q, M, rfl, hq, x9, hM, hMl, hMa⟩ _
    refine V_lss.2 (ifD_dec (fun hlt => ?_) fun hge2 => ?_)
    · obtain ⟨xs, hox2, hxs⟩ := hM.row
      obtain ⟨y, hy⟩ := ex_get (l := N) (j := q) (by omega)
      have hyM : M[q]? = some y := by rw [hMa, if_neg (by omega)]; exact hy
      obtain ⟨u, hu, asv, rfl, has, hapart⟩ := hxs q y hyM
      obtain ⟨gn, cn, rfl⟩ : ∃ gn c, nv = .slice (some ⟨gn, 0, none⟩) M.length c := by
        rcases hox2.2 with ⟨_, e⟩ | ⟨g', c', _, rfl, _⟩
        · omega
        · exact ⟨g', c', rfl⟩
      refine ldx xa_36 l1_52 (SliceIs.of_own hox2) (by omega) (by omega) (by simpa using hu) ?_
      have D1 : Ext w9 w9.drew := (Ext.refl _).drew
      have hMd := hM.ext D1
      refine drawD.mk' (fun w' => Ext w9.drew w') (Ext.refl _) ?_
      refine yfB (fun w' hx => Blk.boxed (hMd.blk.ext hx)) fa_38_2 l1_36 rfl ?_
      refine aimed32 (SliceIs.of_own hMd.st) (haim q y hy) fun w10 x10 => ⟨x10, ?_⟩
      refine yieldS.ok (fun w' _ => r_index Tryz.underlying36 inf52 (by omega) (by omega)) ?_
      rw [Int.toNat_natCast]
      have hargs : (aimN T y).args = y.args := by cases y <;> rfl
      have hMl2 : (M.set q (aimN T y)).length = M.length := List.length_set
      have hgn := hox2.lt gn rfl
      refine (hMd.ext x10).set (n := aimN T y) (by omega) ⟨asv, rfl, by rw [hargs]; exact (D1.trans x10).own has, hapart⟩ fun w11 hM11 f11 => V_add.2 ?_
      rw [wrap_id (by omega) (by omega), i64_succ]
      rw [hMl2] at hM11
      refine ⟨⟨q + 1, M.set q (aimN T y), rfl, by omega, f11.ext (x9.trans (D1.trans x10)) fun k hk => by omega, hM11, by omega, fun a => ?_⟩, by simp only [intOf_i64]; omega⟩
      rw [List.getElem?_set]
      by_cases haq : q = a
      · subst haq
        rw [if_pos rfl, if_pos (by omega), if_pos (by omega), hy]; rfl
      · rw [if_neg haq, hMa]
        by_cases hlt2 : a < q
        · rw [if_pos hlt2, if_pos (by omega)]
        · rw [if_neg hlt2, if_neg (by omega)]
    · have hMe : M = liftP i m st r := by
        rw [eP]
        apply List.ext_getElem?
        intro a
        rw [hMa, List.getElem?_map]
        by_cases ha : a < q
        · rw [if_pos ha]
        · rw [if_neg ha, List.getElem?_eq_none (by omega)]; rfl
      have hB4E := ((hB4.ext x3).ext x4).ext x9
      obtain ⟨xs, hox2, hxs⟩ := hM.row
      refine ldA (Blk.boxed hM.blk) la_38 rfl ?_
      refine stA inf38 hB4E (l := [i64 m.params.length, i64 18, nv]) rfl rfl rfl (by simp [own_one hox2, one_i]) fun wE hBE hcE => ?_
      refine ⟨_, r_var Tryz.underlying38 rfl inf38 hBE rfl, ⟨_, rfl⟩, ?_⟩
      have fE := chg_fr hcE
      have kp : ∀ {e : TypeId} {v : Value} {n : Nat} {ys : List Value}, w9.ownsRow (g + 1) e 1 v n ys → wE.ownsRow (g + 1) e 1 v n ys := fun ho => fE.own ho fun k hk hS => by have := (ho.lt k hk).1; have hS : k = g4 := hS; omega
      refine yes st r nv tv wE ht h0 hkl hw R ?_ (by rw [hTT]; exact SliceIs.of_own (kp hM.st)) (hcE.ext _ (x04.trans x9) (by omega))
      rw [← hMe]
      refine ⟨xs, SliceIs.of_own (kp hox2), fun k y hy => ?_⟩
      obtain ⟨u, h4, asv, h5, h6, _⟩ := hxs k y hy
      exact ⟨u, h4, asv, h5, SliceIs.of_own (kp h6)⟩
end Go.Proofs.YtcdbikfnlggbnaaGreatDoor
namespace Go.Proofs.YtcdbikfnlggbnaaGreatDoor
open Go.Vc Go.Tc
variable {w : World} {K : Value → World → Prop}
def GNode.isTick : GNode → Bool
  | .tick => true
  | _ => false
theorem ite_some {α : Type} {c : Prop} [Decidable c] {a b : Option α} {n : α} (h : (if c then a else b) = some n) : (c ∧ a = some n) ∨ (¬ c ∧ b = some n) := by
  by_cases hc : c
  · rw [if_pos hc] at h; exact .inl ⟨hc, h⟩
  · rw [if_neg hc] at h; exact .inr ⟨hc, h⟩
theorem ite_none {α : Type} {c : Prop} [Decidable c] {a b : Option α} (h : (if c then a else b) = none) : (c ∧ a = none) ∨ (¬ c ∧ b = none) := by
  by_cases hc : c
  · rw [if_pos hc] at h; exact .inl ⟨hc, h⟩
  · rw [if_neg hc] at h; exact .inr ⟨hc, h⟩
theorem aim_tick (T : List Int) (n : GNode) : (aimN T n).isTick = n.isTick := by cases n <;> rfl
theorem liftN_tick {i : Img} {m : Mth} {x : Ins} {h : Nat} {n : GNode} (hn : liftN i m x h = some n) : n.isTick = false := by
  unfold liftN at hn
  repeat (rcases ite_some hn with ⟨_, hn⟩ | ⟨_, hn⟩; · (first | (cases hn; done) | (cases hn; rfl)))
  cases hn; rfl
def tickC (l : List GNode) : Nat := l.countP GNode.isTick
def onC (T : List Int) : Nat := T.countP fun t => decide (0 ≤ t)
theorem liftK_ticks (i : Img) (m : Mth) (st : St) (r : List Bool) : ∀ k, tickC (liftK i m st r k).1 = onC (liftK i m st r k).2 ∧ (liftK i m st r k).2.length = k ∧ (liftK i m st r k).1.length ≤ m.locals.length + 2 * k ∧ ∀ (pc : Nat) (t : Int), (liftK i m st r k).2[pc]? = some t → 0 ≤ t → (liftK i m st r k).1[t.toNat]? = some .tick
  | 0 => by
    refine ⟨?_, rfl, by simp [liftK], fun pc t h => by simp [liftK] at h⟩
    simp [liftK, tickC, onC, List.countP_eq_zero, GNode.isTick]
  | k + 1 => by
    obtain ⟨h1, h2, h3, h4⟩ := liftK_ticks i m st r k
    cases hk : r.getD k false with
    | false =>
      have e : liftK i m st r (k + 1) = ((liftK i m st r k).1, (liftK i m st r k).2 ++ [-1]) := by simp only [liftK, hk]; rfl
      rw [e]
      refine ⟨by simpa [onC] using h1, by simp [h2], by dsimp only; omega, fun pc t h h0 => ?_⟩
      rw [List.getElem?_append] at h
      split at h
      · exact h4 pc t h h0
      · have : t = -1 := by
          have := List.mem_of_getElem? h
          simpa using this
        omega
    | true =>
      have e : liftK i m st r (k + 1) = ((liftK i m st r k).1 ++ .tick :: (liftN i m (m.ins k) (st.s k).length).toList, (liftK i m st r k).2 ++ [((liftK i m st r k).1.length : Int)]) := by simp only [liftK, hk]; rfl
      rw [e]
      have hz : tickC (liftN i m (m.ins k) (st.s k).length).toList = 0 := by
        cases ho : liftN i m (m.ins k) (st.s k).length with
        | none => rfl
        | some n => simp [tickC, liftN_tick ho]
      have hl : (liftN i m (m.ins k) (st.s k).length).toList.length ≤ 1 := by cases liftN i m (m.ins k) (st.s k).length <;> simp
      refine ⟨?_, by simp [h2], by simp; omega, fun pc t h h0 => ?_⟩
      · simp only [tickC, onC] at h1 hz ⊢
        rw [List.countP_append, List.countP_cons, List.countP_append, h1, hz]
        simp [GNode.isTick]
      · rw [List.getElem?_append] at h
        split at h
        · have := h4 pc t h h0
          rw [List.getElem?_append_left (List.getElem?_eq_some_iff.1 this).1]
          exact this
        · have : t = ((liftK i m st r k).1.length : Int) := by
            have := List.mem_of_getElem? h
            simpa using this
          subst this
          rw [Int.toNat_natCast, List.getElem?_append_right (Nat.le_refl _)]
          simp
theorem liftP_ticks (i : Img) (m : Mth) (st : St) (r : List Bool) : tickC (liftP i m st r) = onC (liftK i m st r m.code.length).2 ∧ (liftK i m st r m.code.length).2.length = m.code.length ∧ (liftP i m st r).length ≤ m.locals.length + 2 * m.code.length ∧ ∀ (pc : Nat) (t : Int), (liftK i m st r m.code.length).2[pc]? = some t → 0 ≤ t → (liftP i m st r)[t.toNat]? = some .tick := by
  obtain ⟨h1, h2, h3, h4⟩ := liftK_ticks i m st r m.code.length
  refine ⟨?_, h2, by simpa [liftP] using h3, fun pc t h h0 => ?_⟩
  · rw [← h1]
    show ((liftK i m st r m.code.length).1.map _).countP _ = _
    rw [List.countP_map]
    exact List.countP_congr fun n _ => by simp [aim_tick]
  · show ((liftK i m st r m.code.length).1.map _)[t.toNat]? = _
    rw [List.getElem?_map, h4 pc t h h0]; rfl
end Go.Proofs.YtcdbikfnlggbnaaGreatDoor
namespace Go.Proofs.YtcdbikfnlggbnaaGreatDoor
open Go.Vc Go.Tc
variable {w : World} {K : Value → World → Prop}
def m18 : Mth := ⟨[], 0, [], [⟨1, 7, 0⟩, ⟨4, 0, 0⟩, ⟨39, 0, 0⟩]⟩
def i18 : Img := ⟨⟨#[97]⟩, [], [], [m18], []⟩
theorem taken18 : Taken i18 := by
  refine ⟨by simp [Img.right, kindsR, Kds, Mth.right, Ins.right, lim, Img.meth, i18, m18], fun m hm => ?_⟩
  have : m = m18 := by simpa [i18] using hm
  subst this
  refine ⟨⟨[[], [1], []], [true, true, true], [false, false, false]⟩, .inr ⟨by simp [m18, namesS], ?_⟩⟩
  exact .go (pc := 0) (s' := ⟨[[], [1], []], [true, true, false], [false, true, false]⟩) rfl rfl (.go (pc := 1) (s' := ⟨[[], [1], []], [true, true, true], [false, false, true]⟩) rfl rfl (.go (pc := 2) (s' := ⟨[[], [1], []], [true, true, true], [false, false, false]⟩) rfl rfl (.done rfl)))
theorem lift18 {st : Tc.St} {r : List Bool} (hw : Walk i18 m18 (some st)) (R : Rch i18 m18 st [] r) : liftP i18 m18 st r = [.tick, .const 10 7, .tick, .tick, .ret (-1)] ∧ (liftK i18 m18 st r 3).2 = [0, 2, 3] := by
  have mr : m18.right := taken18.1.2.2.1.2.1 m18 (by simp [i18])
  obtain ⟨hox, hwf, hh0, hs0, hled⟩ := hw.led taken18.1 mr
  have h0 : r.getD 0 false = true := by rcases R.z with h | h; exact h; cases h
  have h1 : r.getD 1 false = true := by rcases R.cl 0 h0 1 (by decide) with h | h; exact h; cases h
  have h2 : r.getD 2 false = true := by rcases R.cl 1 h1 2 (by decide) with h | h; exact h; cases h
  have e1 : liftN i18 m18 (m18.ins 0) (st.s 0).length = some (.const 10 7) := by rw [hs0]; rfl
  have e2 : liftN i18 m18 (m18.ins 1) (st.s 1).length = none := rfl
  have e3 : liftN i18 m18 (m18.ins 2) (st.s 2).length = some (.ret (-1)) := rfl
  have k : liftK i18 m18 st r 3 = ([.tick, .const 10 7, .tick, .tick, .ret (-1)], [0, 2, 3]) := by
    simp only [liftK, h0, h1, h2, e1, e2, e3, if_true]; rfl
  refine ⟨?_, by rw [k]⟩
  show (liftK i18 m18 st r 3).1.map (aimN (liftK i18 m18 st r 3).2) = _
  rw [k]; rfl
theorem eqConst {x y : Operand} : (do eqGuard .eql 84 x y (.agg #[i64 10, i32 7]) (.agg #[i64 10, i32 7]); binOp .eql 84 (.agg #[i64 10, i32 7]) (.agg #[i64 10, i32 7])).run Tryz.prog w = .ok (.bool true) w := by kernel_rfl
theorem eqTick {x y : Operand} : (do eqGuard .eql 52 x y (.iface 49 (.agg #[])) (.iface 49 (.agg #[])); binOp .eql 52 (.iface 49 (.agg #[])) (.iface 49 (.agg #[]))).run Tryz.prog w = .ok (.bool true) w := by kernel_rfl
theorem nameA (hT : Tabs w) : NameOk w ⟨#[97]⟩ := fun w' hx =>
  have h : nmOkB ⟨#[97]⟩ [⟨#[97]⟩, ⟨#[]⟩] [0, 1] = true := by kernel_rfl
  ⟨isName52 (hT.ext hx) (nmOkB_ok h), isName126 (hT.ext hx) (nmOkB_ok h) (by kernel_rfl)⟩
set_option maxHeartbeats 4000000 in
theorem known18 (hT : Tabs w) : callD Tryz.prog 13 #[] w fun v w' => v = .bool true ∧ Ext w w' := by
  apply F13_wp
  suffices key : ∀ R : Value → World → Prop, (∀ w', Ext w w' → R (.bool true) w') → F13_den w R from key _ fun _ hx => ⟨rfl, hx⟩
  intro R hR
  unfold F13_den
  refine bld bd_71 [(0, i64 1), (1, i64 7)] rfl rfl (bld bd_71 [(0, i64 4)] rfl rfl (bld bd_71 [(0, i64 39)] rfl rfl ?_))
  refine bslG Tryz.underlying45 inf71 rfl (by decide) [.agg #[i64 1, i64 7, i64 0], .agg #[i64 4, i64 0, i64 0], .agg #[i64 39, i64 0, i64 0]] rfl rfl (by intro v hv; simp only [List.mem_cons, List.not_mem_nil, or_false] at hv; rcases hv with rfl | rfl | rfl <;> rfl) (by decide) (by decide) fun cv w1 hc1 x1 => ?_
  have hc : InsAre w1 cv m18.code := SliceIs.of_own hc1
  obtain ⟨ca, cc, rfl⟩ := SliceIs.shape hc
  refine bld bd_47 [(3, _)] rfl rfl ?_
  refine bslG Tryz.underlying25 inf47 rfl (by decide) [.agg #[nilS, i64 0, nilS, .slice ca m18.code.length cc]] rfl rfl (by intro v hv; rw [List.mem_singleton] at hv; subst hv; rfl) (by decide) (by decide) fun mv w2 hm2 x2 => ?_
  have hm : MthsAre w2 mv [m18] := by
    refine ⟨[nilS, i64 0, nilS, .slice ca m18.code.length cc], SliceIs.of_own hm2, fun k x hk => ?_⟩
    match k, hk with
    | 0, hk => cases hk; exact ⟨_, rfl, nilS, nilS, _, rfl, SliceIs.nil _ _, SliceIs.nil _ _, hc.ext x2⟩
    | k + 1, hk => simp at hk
  obtain ⟨ma, mc, rfl⟩ : ∃ a c, mv = .slice a 1 c := by obtain ⟨cs, h1, _⟩ := hm; exact SliceIs.shape h1
  refine bld bd_27 [(0, .string ⟨#[97]⟩), (3, _)] rfl rfl ?_
  have x02 := x1.trans x2
  have hA : ImgAt w2 ⟨nilS, nilS, .slice ma 1 mc, nilS⟩ i18 := ⟨SliceIs.nil _ _, ⟨[], SliceIs.nil _ _, fun k x hk => by simp [i18] at hk⟩, hm, SliceIs.nil _ _⟩
  refine lift12 (p := ⟨nilS, nilS, .slice ma 1 mc, nilS⟩) (i := i18) (k := 0) hA ⟨nameA (hT.ext x02), fun x hx => by simp [i18] at hx⟩ (by simp [Img.rg, i18, m18, Ins.rg]) (fun st r nv sv w3 _ _ _ hw Rc hN hS x3 => ?_) fun w3 hne _ => absurd ⟨taken18, by decide, by decide⟩ hne
  have hw : Walk i18 m18 (some st) := hw
  have Rc : Rch i18 m18 st [] r := Rc
  obtain ⟨e1, e2⟩ := lift18 hw Rc
  have hN : NodesAre w3 nv [.tick, .const 10 7, .tick, .tick, .ret (-1)] := by rw [← e1]; exact hN
  have hS : IntsAre w3 sv [0, 2, 3] := by rw [← e2]; exact hS
  obtain ⟨vs, hvs, hvn⟩ := hN
  obtain ⟨na, nc, rfl⟩ := hvs.shape
  obtain ⟨u0, hu0, s0, rfl, _⟩ := hvn 0 _ rfl
  obtain ⟨u1, hu1, s1, rfl, _⟩ := hvn 1 _ rfl
  obtain ⟨u3, hu3, s3, rfl, _⟩ := hvn 3 _ rfl
  refine V_tup (v := .agg #[i64 0, i64 18, .slice na 5 nc]) rfl (V_tup (v := sv) rfl (V_tup (v := .bool true) rfl ?_))
  refine asB sa_38 rfl rfl fun b4 w4 hb4 x4 => ?_
  have hb4 : Boxed w4 b4 [i64 0, i64 18, .slice na 5 nc] := hb4
  have hvs4 : SliceIs w4 (.slice na 5 nc) 1 5 vs := hvs.ext x4
  have ne : ∀ {a : Int}, decide (a ≠ a) = false := fun {a} => decide_eq_false fun h => h rfl
  refine V_not.2 ?_
  simp only [Bool.not_true, gd_f]
  refine ldB hb4 fa_38_2 l1_36 rfl (lnx xa_36 hvs4 (V_neqI.2 ?_))
  rw [show decide (((5 : Nat) : Int) ≠ 5) = false from rfl]
  simp only [pickD_iff, gd_f, reduceIte, Bool.false_eq_true]
  refine lnx xa_23 (hS.ext x4) (V_neqI.2 ?_)
  rw [show decide (((([0, 2, 3] : List Int).length : Nat) : Int) ≠ 3) = false from rfl]
  simp only [gd_f]
  refine ldB hb4 fa_38_1 l1_3 rfl (V_neqI.2 ?_)
  rw [ne]
  refine pickF (ifD_false.2 ?_)
  refine ldB hb4 fa_38_2 l1_36 rfl (ldx xa_36 l1_52 hvs4 (by decide) (by decide) hu1 ?_)
  refine V.ok (r_ta Tryz.underlying84 rfl inf84) ?_
  rw [if_pos rfl]
  refine V_ext0.2 (V_ext1.2 ?_)
  refine asB sa_84 rfl rfl fun b5 w5 hb5 x5 => ?_
  have hb5 : Boxed w5 b5 [i64 10, i32 7] := hb5
  have hb4 := hb4.ext x5
  have hvs5 := hvs4.ext x5
  simp only [gd_t]
  refine ldA hb5 la_84 rfl (bld bd_84 [(0, i64 10), (1, i32 7)] rfl rfl ?_)
  refine V.ok eqConst ?_
  simp only [pickD_iff, gd_t, reduceIte]
  refine ldB hb4 fa_38_2 l1_36 rfl (ldx xa_36 l1_52 hvs5 (by decide) (by decide) hu0 ?_)
  refine bld bd_49 [] rfl rfl (mki mi_49 (V.ok eqTick ?_))
  simp only [pickD_iff, gd_t, reduceIte]
  refine ldB hb4 fa_38_2 l1_36 rfl (ldx xa_36 l1_52 hvs5 (by decide) (by decide) hu3 ?_)
  refine bld bd_49 [] rfl rfl (mki mi_49 (V.ok eqTick ?_))
  simp only [pickD_iff, gd_t, reduceIte]
  have hS5 := (hS.ext x4).ext x5
  have te : ∀ {a : Int}, decide (a = a) = true := fun {a} => decide_eq_true rfl
  refine ldx xa_23 l1_3 hS5 (by decide) (by decide) (u := i64 0) rfl (V_eqlI.2 ?_)
  rw [te]
  simp only [pickD_iff, gd_t, reduceIte]
  refine ldx xa_23 l1_3 hS5 (by decide) (by decide) (u := i64 2) rfl (V_eqlI.2 ?_)
  rw [te]
  simp only [pickD_iff, gd_t, reduceIte]
  refine ldx xa_23 l1_3 hS5 (by decide) (by decide) (u := i64 3) rfl (V_eqlI.2 ?_)
  rw [te]

  exact hR _ (((x02.trans x3).trans x4).trans x5)
end Go.Proofs.YtcdbikfnlggbnaaGreatDoor
namespace Go.Proofs.YtcdbikfnlggbnaaGreatDoor
open Go.Vc

theorem all_i64 (l : List Int) : (l.map i64).all oneC = true := by simp [oneC]
theorem clone_int {v : Value} {l : List Int} {w : World} (h : IntsAre w v l) (hl : l.length ≤ 4294967296) :
    callD Tryz.prog 109 #[v] w fun r w' => w'.ownsRow w.heap.size 3 1 r l.length (l.map i64) ∧ Ext w w' := by
  apply F109_wp
  unfold F109_den
  exact cloneD (R := fun r w' => w'.ownsRow w.heap.size 3 1 r l.length (l.map i64) ∧ Ext w w') xe_23 h (all_i64 l) (by omega) fun v' w' h1 h2 => ⟨h1, h2⟩
theorem def_ok {n : GNode} {v : Value} {w : World} (h : NodeIs w v n) : callD Tryz.prog 73 #[v] w fun r w' => r = i64 n.df ∧ Ext w w' := by
  obtain ⟨sv, rfl, hs⟩ := h
  obtain ⟨sa, sc, rfl⟩ := hs.shape
  apply F73_wp
  unfold F73_den
  cases n <;> (dsimp only [GNode.val]; (repeat (first | (with_reducible refine th (by first | exact ta_105 | exact ta_113 | exact ta_140 | exact ta_142 | exact ta_144 | exact ta_146 | exact ta_148 | exact ta_150 | exact ta_152 | exact ta_155 | exact ta_157 | exact ta_162 | exact ta_84) ?_) | ((with_reducible refine tm (by first | exact ta_105 | exact ta_113 | exact ta_140 | exact ta_142 | exact ta_144 | exact ta_146 | exact ta_148 | exact ta_150 | exact ta_152 | exact ta_155 | exact ta_157 | exact ta_162 | exact ta_49 | exact ta_84) (by decide) ?_); intro _ _ _))); first | exact ⟨rfl, Ext.refl _⟩ | (refine asB (by first | exact sa_105 | exact sa_113 | exact sa_140 | exact sa_142 | exact sa_144 | exact sa_146 | exact sa_148 | exact sa_150 | exact sa_152 | exact sa_155 | exact sa_157 | exact sa_162 | exact sa_84) rfl rfl fun b w1 hb x1 => ?_; refine ldB hb (by first | exact fa_105_0 | exact fa_113_0 | exact fa_113_1 | exact fa_113_2 | exact fa_113_3 | exact fa_118_0 | exact fa_118_1 | exact fa_118_2 | exact fa_118_3 | exact fa_118_4 | exact fa_120_0 | exact fa_120_1 | exact fa_120_2 | exact fa_120_3 | exact fa_137_0 | exact fa_137_1 | exact fa_137_2 | exact fa_137_3 | exact fa_137_4 | exact fa_137_5 | exact fa_140_0 | exact fa_140_1 | exact fa_142_0 | exact fa_142_1 | exact fa_142_2 | exact fa_144_0 | exact fa_144_1 | exact fa_144_2 | exact fa_144_3 | exact fa_146_0 | exact fa_148_0 | exact fa_148_1 | exact fa_150_0 | exact fa_150_1 | exact fa_152_0 | exact fa_152_1 | exact fa_155_0 | exact fa_155_1 | exact fa_155_2 | exact fa_157_0 | exact fa_157_1 | exact fa_157_2 | exact fa_162_0 | exact fa_162_1 | exact fa_162_2 | exact fa_162_3 | exact fa_84_0) (by first | exact l1_126 | exact l1_179 | exact l1_21 | exact l1_210 | exact l1_212 | exact l1_22 | exact l1_23 | exact l1_24 | exact l1_25 | exact l1_3) rfl ?_; exact ⟨rfl, x1⟩))

theorem uses_ok {n : GNode} {v : Value} {w : World} (h : NodeIs w v n) (hl : n.args.length ≤ 4294967296) : callD Tryz.prog 71 #[v] w fun r w' => w'.ownsRow w.heap.size 3 1 r n.us.length (n.us.map i64) ∧ Ext w w' := by
  obtain ⟨sv, rfl, hs⟩ := h
  obtain ⟨sa, sc, rfl⟩ := hs.shape
  apply F71_wp
  unfold F71_den
  cases n with
  | const _ _ | tick | goto _ | getField _ _ => dsimp only [GNode.val]; (repeat (first | (with_reducible refine th ta_105 ?_) | ((with_reducible refine tm (by first | exact ta_105 | exact ta_113 | exact ta_140 | exact ta_142 | exact ta_144 | exact ta_146 | exact ta_148 | exact ta_150 | exact ta_152 | exact ta_155 | exact ta_157 | exact ta_162) (by decide) ?_); intro _ _ _))); exact ⟨World.ownsRow_nil _ _ _ _, Ext.refl _⟩
  | move _ a | un _ _ a | branch a _ | putField _ a =>
    dsimp only [GNode.val]; (repeat (first | (with_reducible refine th (by first | exact ta_105 | exact ta_113 | exact ta_140 | exact ta_142 | exact ta_144 | exact ta_146 | exact ta_148 | exact ta_152) ?_) | ((with_reducible refine tm (by first | exact ta_105 | exact ta_113 | exact ta_140 | exact ta_142 | exact ta_144 | exact ta_148) (by decide) ?_); intro _ _ _)))
    refine asB (by first | exact sa_105 | exact sa_113 | exact sa_140 | exact sa_142 | exact sa_144 | exact sa_146 | exact sa_148 | exact sa_152) rfl rfl fun b w1 hb x1 => ?_; refine ldB hb (by first | exact fa_105_0 | exact fa_113_0 | exact fa_113_1 | exact fa_113_2 | exact fa_113_3 | exact fa_118_0 | exact fa_118_1 | exact fa_118_2 | exact fa_118_3 | exact fa_118_4 | exact fa_120_0 | exact fa_120_1 | exact fa_120_2 | exact fa_120_3 | exact fa_137_0 | exact fa_137_1 | exact fa_137_2 | exact fa_137_3 | exact fa_137_4 | exact fa_137_5 | exact fa_140_0 | exact fa_140_1 | exact fa_142_0 | exact fa_142_1 | exact fa_142_2 | exact fa_144_0 | exact fa_144_1 | exact fa_144_2 | exact fa_144_3 | exact fa_146_0 | exact fa_148_0 | exact fa_152_1) (by first | exact l1_126 | exact l1_179 | exact l1_21 | exact l1_210 | exact l1_212 | exact l1_22 | exact l1_23 | exact l1_24 | exact l1_25 | exact l1_3) rfl ?_
    refine bsl (by first | exact xe_202 | exact xe_23) [i64 a] rfl rfl (by simp) rfl fun v w2 ho x2 => ?_
    exact ⟨own_mono ho x1.size, x1.trans x2⟩
  | bin _ _ a c =>
    dsimp only [GNode.val]; (repeat (first | (with_reducible refine th (by first | exact ta_105 | exact ta_113) ?_) | ((with_reducible refine tm (by first | exact ta_105 | exact ta_140) (by decide) ?_); intro _ _ _)))
    refine asB sa_113 rfl rfl fun b w1 hb x1 => ?_; refine ldB hb fa_113_2 l1_3 rfl ?_; refine ldB hb fa_113_3 l1_3 rfl ?_
    refine bsl xe_23 [i64 a, i64 c] rfl rfl (by simp) rfl fun v w2 ho x2 => ?_
    exact ⟨own_mono ho x1.size, x1.trans x2⟩
  | choose _ a c d =>
    dsimp only [GNode.val]; (repeat (first | (with_reducible refine th (by first | exact ta_105 | exact ta_144) ?_) | ((with_reducible refine tm (by first | exact ta_105 | exact ta_113 | exact ta_140 | exact ta_142) (by decide) ?_); intro _ _ _)))
    refine asB sa_144 rfl rfl fun b w1 hb x1 => ?_; refine ldB hb fa_144_1 l1_3 rfl ?_; refine ldB hb fa_144_2 l1_3 rfl ?_; refine ldB hb fa_144_3 l1_3 rfl ?_
    refine bsl xe_23 [i64 a, i64 c, i64 d] rfl rfl (by simp) rfl fun v w2 ho x2 => ?_
    exact ⟨own_mono ho x1.size, x1.trans x2⟩
  | serve _ _ _ _ l | call _ _ l | callX _ _ l =>
    dsimp only [GNode.val]; (repeat (first | (with_reducible refine th (by first | exact ta_105 | exact ta_113 | exact ta_140 | exact ta_142 | exact ta_144 | exact ta_146 | exact ta_148 | exact ta_150 | exact ta_152 | exact ta_155 | exact ta_157 | exact ta_162) ?_) | ((with_reducible refine tm (by first | exact ta_105 | exact ta_113 | exact ta_140 | exact ta_142 | exact ta_144 | exact ta_146 | exact ta_148 | exact ta_150 | exact ta_152 | exact ta_155 | exact ta_157 | exact ta_162) (by decide) ?_); intro _ _ _)))
    refine asB (by first | exact sa_105 | exact sa_113 | exact sa_140 | exact sa_142 | exact sa_144 | exact sa_146 | exact sa_148 | exact sa_150 | exact sa_152 | exact sa_155 | exact sa_157 | exact sa_162) rfl rfl fun b w1 hb x1 => ?_; refine ldB hb (by first | exact fa_105_0 | exact fa_113_0 | exact fa_113_1 | exact fa_113_2 | exact fa_113_3 | exact fa_118_0 | exact fa_118_1 | exact fa_118_2 | exact fa_118_3 | exact fa_118_4 | exact fa_120_0 | exact fa_120_1 | exact fa_120_2 | exact fa_120_3 | exact fa_137_0 | exact fa_137_1 | exact fa_137_2 | exact fa_137_3 | exact fa_137_4 | exact fa_137_5 | exact fa_140_0 | exact fa_140_1 | exact fa_142_0 | exact fa_142_1 | exact fa_142_2 | exact fa_144_0 | exact fa_144_1 | exact fa_144_2 | exact fa_144_3 | exact fa_146_0 | exact fa_148_0 | exact fa_148_1 | exact fa_150_0 | exact fa_150_1 | exact fa_152_0 | exact fa_152_1 | exact fa_155_0 | exact fa_155_1 | exact fa_155_2 | exact fa_157_0 | exact fa_157_1 | exact fa_157_2 | exact fa_162_4) (by first | exact l1_126 | exact l1_179 | exact l1_21 | exact l1_210 | exact l1_212 | exact l1_22 | exact l1_23) rfl ?_
    exact (clone_int (hs.ext x1) hl).mono fun r w2 ⟨h1, h2⟩ => ⟨own_mono h1 x1.size, x1.trans h2⟩
  | ret s =>
    dsimp only [GNode.val]; (repeat (first | (with_reducible refine th ta_105 ?_) | ((with_reducible refine tm (by first | exact ta_105 | exact ta_113 | exact ta_140 | exact ta_142 | exact ta_144 | exact ta_146 | exact ta_148 | exact ta_150 | exact ta_152 | exact ta_155 | exact ta_157 | exact ta_162) (by decide) ?_); intro _ _ _)))
    refine asB sa_105 rfl rfl fun b w1 hb x1 => ?_; refine ldB hb fa_105_0 l1_3 rfl ?_
    refine V_neqI.2 (ifD_dec (fun hne => ?_) fun heq => ?_)
    · refine ldB hb fa_105_0 l1_3 rfl ?_
      refine bsl xe_23 [i64 s] rfl rfl (by simp) rfl fun v w2 ho x2 => ?_
      have hu : GNode.us (.ret s) = [s] := by simp only [GNode.us]; rw [if_neg hne]
      rw [hu]
      exact ⟨own_mono ho x1.size, x1.trans x2⟩
    · have hu : GNode.us (.ret s) = [] := by simp only [GNode.us]; rw [if_pos (by omega)]
      rw [hu]
      exact ⟨World.ownsRow_nil _ _ _ _, x1⟩

theorem next_ok {n : GNode} {v : Value} {w : World} {k : Int} (h : NodeIs w v n) (h0 : 0 ≤ k) (h1 : k ≤ 1000000) : callD Tryz.prog 72 #[v, i64 k] w fun r w' => w'.ownsRow w.heap.size 3 1 r (n.nx k).length ((n.nx k).map i64) ∧ Ext w w' := by
  obtain ⟨sv, rfl, hs⟩ := h
  obtain ⟨sa, sc, rfl⟩ := hs.shape
  apply F72_wp
  unfold F72_den
  have hw : IntKind.i64.wrap (k + 1) = k + 1 := wrap_id (by omega) (by omega)
  cases n with
  | goto t =>
    dsimp only [GNode.val]
    refine V_eqni_52.2 (ifD_false.2 ?_)
    (repeat (first | (with_reducible refine th (by first | exact ta_105 | exact ta_146) ?_) | ((with_reducible refine tm ta_105 (by decide) ?_); intro _ _ _)))
    refine asB sa_146 rfl rfl fun b w1 hb x1 => ?_; refine ldB hb fa_146_0 l1_3 rfl ?_
    refine bsl xe_23 [i64 t] rfl rfl (by simp) rfl fun v w2 ho x2 => ?_
    exact ⟨own_mono ho x1.size, x1.trans x2⟩
  | ret s =>
    dsimp only [GNode.val]
    refine V_eqni_52.2 (ifD_false.2 ?_)
    (repeat (first | (with_reducible refine th ta_105 ?_) | ((with_reducible refine tm (by first | exact ta_105 | exact ta_113 | exact ta_140 | exact ta_142 | exact ta_144 | exact ta_146 | exact ta_148) (by decide) ?_); intro _ _ _)))
    refine asB sa_105 rfl rfl fun b w1 hb x1 => ?_
    exact ⟨World.ownsRow_nil _ _ _ _, x1⟩
  | branch c t =>
    dsimp only [GNode.val]
    refine V_eqni_52.2 (ifD_false.2 ?_)
    (repeat (first | (with_reducible refine th (by first | exact ta_105 | exact ta_148) ?_) | ((with_reducible refine tm (by first | exact ta_105 | exact ta_146) (by decide) ?_); intro _ _ _)))
    refine asB sa_148 rfl rfl fun b w1 hb x1 => ?_; refine ldB hb fa_148_1 l1_3 rfl ?_
    refine V_add.2 ?_
    rw [hw]
    refine V_neqI.2 (ifD_dec (fun hne => ?_) fun heq => ?_)
    · refine V_add.2 ?_
      rw [hw]
      refine ldB hb fa_148_1 l1_3 rfl ?_
      refine bsl xe_23 [i64 (k + 1), i64 t] rfl rfl (by simp) rfl fun v w2 ho x2 => ?_
      have hu : GNode.nx (.branch c t) k = [k + 1, t] := by simp only [GNode.nx]; rw [if_neg hne]
      rw [hu]
      exact ⟨own_mono ho x1.size, x1.trans x2⟩
    · refine V_add.2 ?_
      rw [hw]
      refine bsl xe_23 [i64 (k + 1)] rfl rfl (by simp) rfl fun v w2 ho x2 => ?_
      have hu : GNode.nx (.branch c t) k = [k + 1] := by simp only [GNode.nx]; rw [if_pos (by omega)]
      rw [hu]
      exact ⟨own_mono ho x1.size, x1.trans x2⟩
  | _ =>
    dsimp only [GNode.val]
    refine V_eqni_52.2 (ifD_false.2 ?_)
    (repeat (first | (with_reducible refine th ta_105 ?_) | ((with_reducible refine tm (by first | exact ta_105 | exact ta_113 | exact ta_140 | exact ta_142 | exact ta_144 | exact ta_146 | exact ta_148) (by decide) ?_); intro _ _ _)))
    refine V_add.2 ?_
    rw [hw]
    refine bsl (by first | exact xe_202 | exact xe_23) [i64 (k + 1)] rfl rfl (by simp) rfl fun v w2 ho x2 => ?_
    exact ⟨ho, x2⟩

theorem in_ok {n c : Int} {w : World} : callD Tryz.prog 37 #[i64 n, i64 c] w fun r w' => r = .bool (decide (0 ≤ n ∧ n < c)) ∧ w' = w := by
  apply F37_wp
  unfold F37_den
  refine V_geq.2 ?_
  by_cases h : n ≥ 0
  · simp only [h, decide_true, gd_iff, reduceIte, V_lss, pickD_iff]
    have h' : 0 ≤ n := h
    simp []
  · simp only [h, decide_false, gd_iff, Bool.false_eq_true, reduceIte, pickD_iff]
    have h' : ¬ 0 ≤ n := h
    simp []
end Go.Proofs.YtcdbikfnlggbnaaGreatDoor
namespace Go.Proofs.YtcdbikfnlggbnaaGreatDoor
open Go.Vc

def serves (op : Int) : Int :=
  if op = 27 ∨ op = 28 then 1 else if op = 17 ∨ op = 18 ∨ op = 29 then 2 else if op = 30 ∨ op = 36 then 3 else if op = 31 ∨ op = 32 then 5 else -1
def okBin (op : Int) : Prop := (6 ≤ op ∧ op ≤ 14) ∨ (19 ≤ op ∧ op ≤ 21)
def okUn (op : Int) : Prop := op = 15 ∨ op = 16 ∨ op = 26
def GNode.okF : GNode → Prop
  | .bin op _ _ _ => okBin op
  | .un op _ _ => okUn op
  | .getField _ f => 0 ≤ f ∧ f < 8
  | .putField f _ => 0 ≤ f ∧ f < 8
  | .serve op _ _ _ l => serves op = l.length
  | .call m _ l => (0 ≤ m ∧ m < 8) ∧ l.length ≤ 4
  | .callX i _ l => (0 ≤ i ∧ i < 4) ∧ l.length ≤ 4
  | _ => True
def GNode.bareN : GNode → Bool
  | .const _ _ | .move _ _ | .bin _ _ _ _ | .un _ _ _ | .choose _ _ _ _ | .getField _ _ => false
  | _ => true

theorem binary_ok {op : Int} {w : World} : callD Tryz.prog 106 #[i64 op] w fun r w' => (∃ b, r = .bool b ∧ (b = true ↔ okBin op)) ∧ w' = w := by
  apply F106_wp
  have key : ∀ R : Value → World → Prop, (∀ b : Bool, (b = true ↔ okBin op) → R (.bool b) w) → F106_den (i64 op) w R := by
    intro R hR
    unfold F106_den
    by_cases h1 : op ≥ 6 <;> by_cases h2 : op ≤ 14 <;> by_cases h3 : op ≥ 19 <;> by_cases h4 : op ≤ 21 <;>
      simp only [h1, h2, h3, h4, V_leq, V_geq, gd_t, gd_f, gd_tf, gd_ft, gd_undef, pickD_iff, reduceIte, Bool.false_eq_true, decide_true, decide_false] <;> exact hR _ (by simp [okBin]; omega)
  exact key _ fun b hb => ⟨⟨b, rfl, hb⟩, rfl⟩
theorem unary_ok {op : Int} {w : World} : callD Tryz.prog 107 #[i64 op] w fun r w' => (∃ b, r = .bool b ∧ (b = true ↔ okUn op)) ∧ w' = w := by
  apply F107_wp
  have key : ∀ R : Value → World → Prop, (∀ b : Bool, (b = true ↔ okUn op) → R (.bool b) w) → F107_den (i64 op) w R := by
    intro R hR
    unfold F107_den
    rcases Bool.eq_false_or_eq_true (decide (op = 15)) with e1 | e1 <;> rcases Bool.eq_false_or_eq_true (decide (op = 16)) with e2 | e2 <;> rcases Bool.eq_false_or_eq_true (decide (op = 26)) with e3 | e3 <;>
      simp only [e1, e2, e3, V_eqlI, gd_f, gd_tf, pickD_iff, reduceIte, Bool.false_eq_true] <;> exact hR _ (by simp at e1 e2 e3; simp [okUn]; omega)
  exact key _ fun b hb => ⟨⟨b, rfl, hb⟩, rfl⟩
theorem serves_ok {op : Int} {w : World} : callD Tryz.prog 108 #[i64 op] w fun r w' => r = i64 (serves op) ∧ w' = w := by
  apply F108_wp
  unfold F108_den
  refine ⟨fun v w' => v = .bool (decide (op = 27 ∨ op = 28)) ∧ w' = w, ?_, ?_⟩
  · refine V_eqlI.2 (ifD_dec (fun h => ?_) fun h => V_eqlI.2 ?_) <;> exact ⟨by simp [h], rfl⟩
  rintro _ w1 ⟨rfl, rfl⟩ _
  refine ifD_dec (fun h => ⟨by simp [serves, h], rfl⟩) fun h1 => ?_
  refine ⟨fun v w' => v = .bool (decide (op = 17 ∨ op = 18 ∨ op = 29)) ∧ w' = w1, ?_, ?_⟩
  · refine V_eqlI.2 (ifD_dec (fun h => ?_) fun h => V_eqlI.2 (ifD_dec (fun h' => ?_) fun h' => V_eqlI.2 ?_))
    · exact ⟨by simp [h], rfl⟩
    · exact ⟨by simp [h'], rfl⟩
    · exact ⟨by simp [h, h'], rfl⟩
  rintro _ w2 ⟨rfl, rfl⟩ _
  refine ifD_dec (fun h => ⟨by simp [serves, h1, h], rfl⟩) fun h2 => ?_
  refine ⟨fun v w' => v = .bool (decide (op = 30 ∨ op = 36)) ∧ w' = w2, ?_, ?_⟩
  · refine V_eqlI.2 (ifD_dec (fun h => ?_) fun h => V_eqlI.2 ?_) <;> exact ⟨by simp [h], rfl⟩
  rintro _ w3 ⟨rfl, rfl⟩ _
  refine ifD_dec (fun h => ⟨by simp [serves, h1, h2, h], rfl⟩) fun h3 => ?_
  refine V_eqlI.2 (ifD_dec (fun h => ?_) fun h => ?_)
  · exact ifD_dec (fun _ => ⟨by subst h; rfl, rfl⟩) fun h' => absurd h h'
  refine V_eqlI.2 (ifD_dec (fun h' => ?_) fun h' => ?_)
  · exact ⟨by subst h'; rfl, rfl⟩
  · exact ⟨by simp [serves, h1, h2, h3, h, h'], rfl⟩

theorem fields_ok {n : GNode} {v : Value} {w : World} (h : NodeIs w v n) : callD Tryz.prog 70 #[v] w fun r w' => (∃ b, r = .bool b ∧ (b = true ↔ n.okF)) ∧ Ext w w' := by
  obtain ⟨sv, rfl, hs⟩ := h
  obtain ⟨sa, sc, rfl⟩ := hs.shape
  apply F70_wp
  unfold F70_den
  cases n with
  | bin op _ _ _ =>
    dsimp only [GNode.val]; (repeat (first | (with_reducible refine th (by first | exact ta_105 | exact ta_113) ?_) | ((with_reducible refine tm ta_105 (by decide) ?_); intro _ _ _))); refine asB sa_113 rfl rfl fun b w1 hb x1 => ?_; refine ldB hb fa_113_0 l1_3 rfl ?_
    exact binary_ok.mono fun r w2 ⟨h1, h2⟩ => ⟨h1, h2 ▸ x1⟩
  | un op _ _ =>
    dsimp only [GNode.val]; (repeat (first | (with_reducible refine th (by first | exact ta_105 | exact ta_142) ?_) | ((with_reducible refine tm (by first | exact ta_105 | exact ta_113) (by decide) ?_); intro _ _ _))); refine asB sa_142 rfl rfl fun b w1 hb x1 => ?_; refine ldB hb fa_142_0 l1_3 rfl ?_
    exact unary_ok.mono fun r w2 ⟨h1, h2⟩ => ⟨h1, h2 ▸ x1⟩
  | getField _ f | putField f _ =>
    dsimp only [GNode.val]; (repeat (first | (with_reducible refine th (by first | exact ta_105 | exact ta_113 | exact ta_140 | exact ta_142 | exact ta_144 | exact ta_146 | exact ta_148 | exact ta_150 | exact ta_152) ?_) | ((with_reducible refine tm (by first | exact ta_105 | exact ta_113 | exact ta_140 | exact ta_142 | exact ta_150) (by decide) ?_); intro _ _ _))); refine asB (by first | exact sa_105 | exact sa_113 | exact sa_140 | exact sa_142 | exact sa_144 | exact sa_146 | exact sa_148 | exact sa_150 | exact sa_152) rfl rfl fun b w1 hb x1 => ?_; refine ldB hb (by first | exact fa_105_0 | exact fa_113_0 | exact fa_113_1 | exact fa_113_2 | exact fa_113_3 | exact fa_118_0 | exact fa_118_1 | exact fa_118_2 | exact fa_118_3 | exact fa_118_4 | exact fa_120_0 | exact fa_120_1 | exact fa_120_2 | exact fa_120_3 | exact fa_137_0 | exact fa_137_1 | exact fa_137_2 | exact fa_137_3 | exact fa_137_4 | exact fa_137_5 | exact fa_140_0 | exact fa_140_1 | exact fa_142_0 | exact fa_142_1 | exact fa_142_2 | exact fa_144_0 | exact fa_144_1 | exact fa_144_2 | exact fa_144_3 | exact fa_146_0 | exact fa_148_0 | exact fa_148_1 | exact fa_150_0 | exact fa_150_1 | exact fa_152_0) (by first | exact l1_126 | exact l1_179 | exact l1_21 | exact l1_210 | exact l1_212 | exact l1_22 | exact l1_23 | exact l1_24 | exact l1_25 | exact l1_3) rfl ?_
    exact in_ok.mono fun r w2 ⟨h1, h2⟩ => ⟨⟨_, h1, by simp [GNode.okF]⟩, h2 ▸ x1⟩
  | serve op _ _ _ l =>
    dsimp only [GNode.val]; (repeat (first | (with_reducible refine th (by first | exact ta_105 | exact ta_162) ?_) | ((with_reducible refine tm (by first | exact ta_105 | exact ta_113 | exact ta_140 | exact ta_142 | exact ta_144 | exact ta_146 | exact ta_148 | exact ta_150 | exact ta_152) (by decide) ?_); intro _ _ _))); refine asB sa_162 rfl rfl fun b w1 hb x1 => ?_
    refine drawD.mk' (fun w' => Boxed w' b _) (hb.ext (Ext.refl _).drew) ?_
    refine yieldS.ok (fun w' hw => fa_162_0.ex w' b 0) ?_
    refine yieldS.ok (fun w' hw => r_ld_3 (hw 0 _ rfl)) ?_
    refine yieldS.ok (fun w' hw => fa_162_4.ex w' b 0) ?_
    refine yieldS.ok (fun w' hw => r_ld_23 (hw 4 _ rfl)) ?_
    refine yieldS.ok (fun w' hw => r_len Tryz.underlying23) ?_
    refine serves_ok.mono fun r w2 ⟨h1, h2⟩ => ?_
    subst h1 h2
    refine ⟨hb.ext (Ext.refl _).drew, ?_⟩
    refine yieldS.ok (fun w' hw => r_eqlI) ?_
    exact ⟨⟨_, rfl, decide_eq_true_iff⟩, x1.drew⟩
  | call m _ l | callX m _ l =>
    dsimp only [GNode.val]; (repeat (first | (with_reducible refine th (by first | exact ta_105 | exact ta_113 | exact ta_140 | exact ta_142 | exact ta_144 | exact ta_146 | exact ta_148 | exact ta_150 | exact ta_152 | exact ta_155 | exact ta_157) ?_) | ((with_reducible refine tm (by first | exact ta_105 | exact ta_113 | exact ta_140 | exact ta_142 | exact ta_144 | exact ta_146 | exact ta_148 | exact ta_150 | exact ta_152 | exact ta_155 | exact ta_157 | exact ta_162) (by decide) ?_); intro _ _ _))); refine asB (by first | exact sa_105 | exact sa_113 | exact sa_140 | exact sa_142 | exact sa_144 | exact sa_146 | exact sa_148 | exact sa_150 | exact sa_152 | exact sa_155 | exact sa_157) rfl rfl fun b w1 hb x1 => ?_; refine ldB hb (by first | exact fa_105_0 | exact fa_113_0 | exact fa_113_1 | exact fa_113_2 | exact fa_113_3 | exact fa_118_0 | exact fa_118_1 | exact fa_118_2 | exact fa_118_3 | exact fa_118_4 | exact fa_120_0 | exact fa_120_1 | exact fa_120_2 | exact fa_120_3 | exact fa_137_0 | exact fa_137_1 | exact fa_137_2 | exact fa_137_3 | exact fa_137_4 | exact fa_137_5 | exact fa_140_0 | exact fa_140_1 | exact fa_142_0 | exact fa_142_1 | exact fa_142_2 | exact fa_144_0 | exact fa_144_1 | exact fa_144_2 | exact fa_144_3 | exact fa_146_0 | exact fa_148_0 | exact fa_148_1 | exact fa_150_0 | exact fa_150_1 | exact fa_152_0 | exact fa_152_1 | exact fa_155_0 | exact fa_157_0) (by first | exact l1_126 | exact l1_179 | exact l1_21 | exact l1_210 | exact l1_212 | exact l1_22 | exact l1_23 | exact l1_24 | exact l1_25 | exact l1_3) rfl ?_
    refine in_ok.mono fun r w2 ⟨h1, h2⟩ => ?_
    subst h1 h2
    refine gd_iff.2 ?_
    split
    · rename_i hin
      refine V.ok (FA.ex (by first | exact fa_105_0 | exact fa_113_0 | exact fa_113_1 | exact fa_113_2 | exact fa_113_3 | exact fa_118_0 | exact fa_118_1 | exact fa_118_2 | exact fa_118_3 | exact fa_118_4 | exact fa_120_0 | exact fa_120_1 | exact fa_120_2 | exact fa_120_3 | exact fa_137_0 | exact fa_137_1 | exact fa_137_2 | exact fa_137_3 | exact fa_137_4 | exact fa_137_5 | exact fa_140_0 | exact fa_140_1 | exact fa_142_0 | exact fa_142_1 | exact fa_142_2 | exact fa_144_0 | exact fa_144_1 | exact fa_144_2 | exact fa_144_3 | exact fa_146_0 | exact fa_148_0 | exact fa_148_1 | exact fa_150_0 | exact fa_150_1 | exact fa_152_0 | exact fa_152_1 | exact fa_155_0 | exact fa_155_1 | exact fa_155_2 | exact fa_157_2) _ _ _) (gd_iff.2 ?_)
      rw [if_pos hin]
      refine V.ok (r_ld_23 (hb 2 _ rfl)) (gd_iff.2 ?_)
      rw [if_pos hin]
      refine V.ok (r_len Tryz.underlying23) (gd_iff.2 ?_)
      rw [if_pos hin]
      refine V_leq.2 (pickD_mk ?_)
      rw [if_pos hin]
      have := of_decide_eq_true hin
      exact ⟨⟨_, rfl, decide_eq_true_iff.trans ⟨fun h => ⟨this, by simp only [GNode.args] at h; omega⟩, fun h => by have := h.2; simp only [GNode.args]; omega⟩⟩, x1⟩
    · rename_i hin
      refine gd_iff.2 ?_
      rw [if_neg hin]
      refine gd_iff.2 ?_
      rw [if_neg hin]
      refine gd_iff.2 ?_
      rw [if_neg hin]
      refine pickD_mk ?_
      rw [if_neg hin]
      exact ⟨⟨_, rfl, by simp [GNode.okF] at hin ⊢; omega⟩, x1⟩
  | _ => dsimp only [GNode.val]; (repeat (first | (with_reducible refine th ta_105 ?_) | ((with_reducible refine tm (by first | exact ta_105 | exact ta_113 | exact ta_140 | exact ta_142 | exact ta_144 | exact ta_146 | exact ta_148 | exact ta_150 | exact ta_152 | exact ta_155 | exact ta_157 | exact ta_162) (by decide) ?_); intro _ _ _))); refine V_neqni_52.2 ?_; exact ⟨⟨_, rfl, by simp [GNode.okF]⟩, Ext.refl _⟩

theorem bare_ok {n : GNode} {v : Value} {w : World} (h : NodeIs w v n) : callD Tryz.prog 74 #[v] w fun r w' => r = .bool n.bareN ∧ w' = w := by
  obtain ⟨sv, rfl, hs⟩ := h
  apply F74_wp
  have key : ∀ R : Value → World → Prop, R (.bool n.bareN) w → F74_den (n.val sv) w R := by
    intro R hR
    unfold F74_den
    cases n <;> simp only [GNode.val, V_ta_84, V_ta_140, V_ta_113, V_ta_142, V_ta_144, V_ta_150, V_ext0, V_ext1, reduceIte, Nat.reduceEqDiff, pickD_iff, ifD_true, ifD_false, Bool.false_eq_true] <;> exact hR
  exact key _ ⟨rfl, rfl⟩

/-- A node may stand at place k of a program of so many registers and nodes. -/
structure RightN (n : GNode) (k regs count : Int) : Prop where
  f : n.okF
  u : ∀ r ∈ n.us, 0 ≤ r ∧ r < regs
  t : ∀ r ∈ n.nx k, 0 ≤ r ∧ r < count
  d : (0 ≤ n.df ∧ n.df < regs) ∨ (n.df = -1 ∧ n.bareN = true)


theorem right_ok {p : GProg} {pv nv : Value} {n : GNode} {k : Int} {w : World} (hp : ProgIs w pv p) (hn : NodeIs w nv n) (hl : n.args.length ≤ 4294967296) (h0 : 0 ≤ k) (h1 : k ≤ 1000000) :
    callD Tryz.prog 38 #[pv, nv, i64 k] w fun r w' => (∃ b, r = .bool b ∧ (b = true ↔ RightN n k p.regs p.nodes.length)) ∧ Ext w w' := by
  obtain ⟨ns, rfl, ⟨vs, hs, _⟩, _⟩ := hp
  apply F38_wp
  unfold F38_den
  refine bx fun b w1 hb x1 => ?_
  refine (fields_ok (hn.ext x1)).mono fun r w2 ⟨⟨bf, hr, hbf⟩, x2⟩ => ?_
  subst hr
  refine V_not.2 (ifD.mk (fun hf => ?_) fun hf => ?_)
  · refine ⟨⟨false, rfl, ⟨(fun h => by cases h), fun h => ?_⟩⟩, x1.trans x2⟩
    have := hbf.2 h.f
    subst this; cases hf
  have hok : n.okF := hbf.1 (by cases bf <;> simp_all)
  refine (uses_ok (hn.ext (x1.trans x2)) hl).mono fun ul w3 ⟨hu', x3⟩ => ?_
  have hu : IntsAre w3 ul n.us := SliceIs.of_own hu'
  clear hu'
  have X3 := x1.trans (x2.trans x3)
  have hb3 := hb.ext (x2.trans x3)
  have hlen := us_len n
  refine lnx xa_23 hu ?_
  refine ⟨fun v w' => ∃ j : Nat, v = i64 j ∧ j ≤ n.us.length ∧ Ext w3 w' ∧ ∀ (i : Nat) u, i < j → n.us[i]? = some u → 0 ≤ u ∧ u < p.regs, fun v _ => n.us.length - (RowKit.intOf v).toNat,
    ⟨0, rfl, by omega, Ext.refl _, fun i u hi => by omega⟩, ?_⟩
  rintro _ w4 ⟨j, rfl, hj, x4, hall⟩ _
  refine V_lss.2 (ifD_dec (fun hlt => ?_) fun hge => ?_)
  · have hlt' : j < n.us.length := by omega
    obtain ⟨u, hu'⟩ := ex_get hlt'
    refine ldx xa_23 l1_3 (hu.ext x4) (by omega) (by omega) (getI hu') ?_
    refine ldB (hb3.ext x4) fa_38_1 l1_3 rfl ?_
    refine in_ok.mono fun r w5 ⟨hr, hw⟩ => ?_
    subst hr hw
    refine V_not.2 (ifD.mk (fun hf => ?_) fun hf => ?_)
    · refine ⟨⟨false, rfl, ⟨(fun h => by cases h), fun h => ?_⟩⟩, X3.trans x4⟩
      have := h.u u (List.mem_of_getElem? hu')
      simp [this] at hf
    · have hin : 0 ≤ u ∧ u < p.regs := by simpa using hf
      refine V_add.2 ?_
      rw [wrap_id (by omega) (by omega), i64_succ]
      refine ⟨⟨j + 1, rfl, by omega, x4, fun i u' hi hu2 => ?_⟩, by simp only [intOf_i64]; omega⟩
      by_cases hij : i = j
      · subst hij; rw [hu'] at hu2; cases hu2; exact hin
      · exact hall i u' (by omega) hu2
  have hju : j = n.us.length := by omega
  have hus : ∀ r ∈ n.us, 0 ≤ r ∧ r < p.regs := fun r hr => by
    obtain ⟨i, hi⟩ := List.getElem?_of_mem hr
    exact hall i r (by have := (List.getElem?_eq_some_iff.1 hi).1; omega) hi
  have X4 := X3.trans x4
  have hb4 := hb3.ext x4
  refine (next_ok (hn.ext X4) h0 h1).mono fun tl w5 ⟨ht', x5⟩ => ?_
  have ht : IntsAre w5 tl (n.nx k) := SliceIs.of_own ht'
  clear ht'
  have X5 := X4.trans x5
  have hb5 := hb4.ext x5
  have hlen2 := nx_len n k
  refine lnx xa_23 ht ?_
  refine ⟨fun v w' => ∃ j : Nat, v = i64 j ∧ j ≤ (n.nx k).length ∧ Ext w5 w' ∧ ∀ (i : Nat) u, i < j → (n.nx k)[i]? = some u → 0 ≤ u ∧ u < p.nodes.length, fun v _ => (n.nx k).length - (RowKit.intOf v).toNat,
    ⟨0, rfl, by omega, Ext.refl _, fun i u hi => by omega⟩, ?_⟩
  rintro _ w6 ⟨j2, rfl, hj2, x6, hall2⟩ _
  refine V_lss.2 (ifD_dec (fun hlt => ?_) fun hge2 => ?_)
  · have hlt' : j2 < (n.nx k).length := by omega
    obtain ⟨u, hu'⟩ := ex_get hlt'
    refine ldx xa_23 l1_3 (ht.ext x6) (by omega) (by omega) (getI hu') ?_
    refine ldB (hb5.ext x6) fa_38_2 l1_36 rfl ?_
    refine lnx xa_36 (hs.ext (X5.trans x6)) ?_
    refine in_ok.mono fun r w7 ⟨hr, hw⟩ => ?_
    subst hr hw
    refine V_not.2 (ifD.mk (fun hf => ?_) fun hf => ?_)
    · refine ⟨⟨false, rfl, ⟨(fun h => by cases h), fun h => ?_⟩⟩, X5.trans x6⟩
      have := h.t u (List.mem_of_getElem? hu')
      simp [this] at hf
    · have hin : 0 ≤ u ∧ u < p.nodes.length := by simpa using hf
      refine V_add.2 ?_
      rw [wrap_id (by omega) (by omega), i64_succ]
      refine ⟨⟨j2 + 1, rfl, by omega, x6, fun i u' hi hu2 => ?_⟩, by simp only [intOf_i64]; omega⟩
      by_cases hij : i = j2
      · subst hij; rw [hu'] at hu2; cases hu2; exact hin
      · exact hall2 i u' (by omega) hu2
  have hns : ∀ r ∈ n.nx k, 0 ≤ r ∧ r < p.nodes.length := fun r hr => by
    obtain ⟨i, hi⟩ := List.getElem?_of_mem hr
    exact hall2 i r (by have := (List.getElem?_eq_some_iff.1 hi).1; omega) hi
  have X6 := X5.trans x6
  have hb6 := hb5.ext x6
  refine (def_ok (hn.ext X6)).mono fun r w7 ⟨hr, x7⟩ => ?_
  subst hr
  refine ldB (hb6.ext x7) fa_38_1 l1_3 rfl ?_
  refine in_ok.mono fun r w8 ⟨hr, hw⟩ => ?_
  subst hr hw
  have X7 := X6.trans x7
  by_cases hd : 0 ≤ n.df ∧ n.df < p.regs
  · simp only [decide_eq_true hd, gd_tf, gd_undef, pickD_iff, reduceIte]
    exact ⟨⟨true, rfl, ⟨fun _ => ⟨hok, hus, hns, .inl hd⟩, fun _ => rfl⟩⟩, X7⟩
  · simp only [decide_eq_false hd, gd_f, pickD_iff, V_eqlI]
    by_cases hm : n.df = -1
    · simp only [decide_eq_true hm, gd_t]
      refine (bare_ok (hn.ext X7)).mono fun r w9 ⟨hr, hw⟩ => ?_
      subst hr hw
      refine ⟨⟨n.bareN, by simp, ⟨fun hb => ⟨hok, hus, hns, .inr ⟨hm, hb⟩⟩, fun h => ?_⟩⟩, X7⟩
      rcases h.d with h | h
      · exact absurd h hd
      · exact h.2
    · simp only [decide_eq_false hm, gd_ft]
      refine ⟨⟨false, by simp, ⟨(fun h => by cases h), fun h => ?_⟩⟩, X7⟩
      rcases h.d with h | h
      · exact absurd h hd
      · exact absurd h.1 hm

/-- A program that may be. -/
structure OkProg (p : GProg) : Prop where
  l1 : 1 ≤ p.nodes.length
  l2 : p.nodes.length ≤ 250
  r1 : 0 ≤ p.regs
  r2 : p.regs ≤ 40
  p1 : 0 ≤ p.params
  p2 : p.params ≤ 4
  p3 : p.params ≤ p.regs
  nodes : ∀ (i : Nat) n, p.nodes[i]? = some n → RightN n i p.regs p.nodes.length

theorem check_ok {p : GProg} {pv : Value} {w : World} (hp : ProgIs w pv p) (hv : OkProg p) :
    callD Tryz.prog 18 #[pv] w fun r w' => r = .bool true ∧ Ext w w' := by
  obtain ⟨ns, rfl, hn, hargs⟩ := hp
  have hn' := hn
  obtain ⟨vs, hs, hvs⟩ := hn'
  obtain ⟨l1, l2, r1, r2, p1, p2, p3, hnodes⟩ := hv
  apply F18_wp
  unfold F18_den
  refine bx fun b w1 hb x1 => ?_
  refine ldB hb fa_38_2 l1_36 rfl (lnx xa_36 (hs.ext x1) (V_lss.2 ?_))
  simp only [show decide ((p.nodes.length : Int) < 1) = false from by simp; omega, gd_f]
  refine ldB hb fa_38_2 l1_36 rfl (lnx xa_36 (hs.ext x1) (V_gtr.2 ?_))
  simp only [show decide ((p.nodes.length : Int) > 250) = false from by simp; omega, pickD_iff, Bool.false_eq_true, reduceIte, gd_f]
  refine ldB hb fa_38_1 l1_3 rfl ?_
  refine in_ok.mono fun r w5 ⟨hr, hw⟩ => ?_
  subst hr hw
  simp only [show decide (0 ≤ p.regs ∧ p.regs < 41) = true from by simp; omega, V_not, Bool.not_true, pickD_iff, Bool.false_eq_true, reduceIte, gd_f]
  refine ldB hb fa_38_0 l1_3 rfl ?_
  refine in_ok.mono fun r w5 ⟨hr, hw⟩ => ?_
  subst hr hw
  simp only [show decide (0 ≤ p.params ∧ p.params < 5) = true from by simp; omega, V_not, Bool.not_true, pickD_iff, Bool.false_eq_true, reduceIte, gd_f]
  refine ldB hb fa_38_0 l1_3 rfl (ldB hb fa_38_1 l1_3 rfl (V_gtr.2 ?_))
  simp only [show decide (p.params > p.regs) = false from by simp; omega, ifD_false]
  refine ldB hb fa_38_2 l1_36 rfl (lnx xa_36 (hs.ext x1) ?_)
  refine ⟨fun v w' => ∃ j : Nat, v = i64 j ∧ j ≤ p.nodes.length ∧ Ext w5 w', fun v _ => p.nodes.length - (RowKit.intOf v).toNat, ⟨0, rfl, by omega, Ext.refl _⟩, ?_⟩
  rintro _ w6 ⟨j, rfl, hj, x6⟩ _
  refine V_lss.2 (ifD_dec (fun hlt => ?_) fun hge => ⟨trivial, x1.trans x6⟩)
  have hlt' : j < p.nodes.length := by omega
  obtain ⟨n, hn1⟩ := ex_get hlt'
  obtain ⟨u, hu, hnu⟩ := hvs j n hn1
  have hb6 := hb.ext x6
  refine ldx xa_36 l1_52 (hs.ext (x1.trans x6)) (by omega) (by omega) (by simpa using hu) ?_
  refine ldA hb6 la_38 rfl ?_
  refine (right_ok (p := p) ⟨ns, rfl, hn.ext (x1.trans x6), hargs⟩ (hnu.ext (x1.trans x6)) (hargs n (List.mem_of_getElem? hn1)) (by omega) (by omega)).mono fun r w7 ⟨⟨bb, hr, hbb⟩, x7⟩ => ?_
  subst hr
  have := hbb.2 (hnodes j n hn1)
  subst this
  refine V_not.2 (ifD_false.2 (V_add.2 ?_))
  rw [wrap_id (by omega) (by omega), i64_succ]
  exact ⟨⟨j + 1, rfl, by omega, x6.trans x7⟩, by simp only [intOf_i64]; omega⟩
end Go.Proofs.YtcdbikfnlggbnaaGreatDoor
namespace Go.Proofs.YtcdbikfnlggbnaaGreatDoor
open Go.Vc Go.Tc
/-- A node that may stand among 18 registers, its way aside. -/
def OkNode (n : GNode) : Prop := n.okF ∧ (∀ r ∈ n.us, 0 ≤ r ∧ r < 18) ∧ ((0 ≤ n.df ∧ n.df < 18) ∨ (n.df = -1 ∧ n.bareN = true))
theorem rowP_in {h n : Nat} (h1 : n ≤ h) (h2 : h ≤ 8) : ∀ r ∈ rowP h n, 0 ≤ r ∧ r < 18 := fun r hr => by
  simp only [rowP, List.mem_map, List.mem_range] at hr
  obtain ⟨k, hk, rfl⟩ := hr
  omega
theorem rowP_len (h n : Nat) : (rowP h n).length = n := by simp [rowP]
theorem liftN_ok {i : Img} {m : Mth} {x : Ins} {h : Nat} {n : GNode} (ox : Okx i m x) (h8 : h ≤ 8) (ha : (asked i m x).length ≤ h) (hg : h - (asked i m x).length + hgt i m x ≤ 8) (hn : liftN i m x h = some n) : OkNode n := by
  have xr := ox.xr
  have hop := xr.1
  have hl := xr.2.1
  have hu := xr.2.2.1
  have nm := ox.nm
  have pl := ox.mr.1.2
  have ll := ox.mr.2.2.1.2
  have fl := ox.ir.1.2
  have locl : m.locs.length ≤ 10 := by simp [Mth.locs]; omega
  unfold liftN at hn
  by_cases d0 : x.op = 1
  · rw [if_pos d0] at hn; cases hn
    have e1 : hgt i m x = 1 := by simp [hgt, givesS, d0]
    have e2 : asked i m x = [] := by simp [asked, d0, isBin]
    rw [e1, e2] at hg
    exact ⟨trivial, by simp [GNode.us], .inl (by simp only [GNode.df]; simp at hg; omega)⟩
  rw [if_neg d0] at hn
  by_cases d1 : x.op = 2
  · rw [if_pos d1] at hn; cases hn
    have e1 : hgt i m x = 1 := by simp [hgt, givesS, d1]
    have e2 : asked i m x = [] := by simp [asked, d1, isBin]
    rw [e1, e2] at hg
    simp only [namesS, d1, true_or, if_true] at nm
    simp [lim, d1] at hl hu
    exact ⟨trivial, by simp [GNode.us]; omega, .inl (by simp only [GNode.df]; simp at hg; omega)⟩
  rw [if_neg d1] at hn
  by_cases d2 : x.op = 3
  · rw [if_pos d2] at hn; cases hn
    have e2 : (asked i m x).length = 1 := by simp [asked, d2]
    simp [lim, d2] at hl hu
    exact ⟨trivial, by simp [GNode.us]; omega, .inl (by simp only [GNode.df]; omega)⟩
  rw [if_neg d2] at hn
  by_cases d3 : x.op = 4
  · rw [if_pos d3] at hn; cases hn
  rw [if_neg d3] at hn
  by_cases d4 : x.op = 5
  · rw [if_pos d4] at hn; cases hn
    have e1 : hgt i m x = 2 := by simp [hgt, givesS, d4]
    have e2 : (asked i m x).length = 1 := by simp [asked, d4]
    rw [e1, e2] at hg
    exact ⟨trivial, by simp [GNode.us]; omega, .inl (by simp only [GNode.df]; omega)⟩
  rw [if_neg d4] at hn
  by_cases d5 : x.op = 15 ∨ x.op = 16 ∨ x.op = 26
  · rw [if_pos d5] at hn; cases hn
    have e2 : (asked i m x).length = 1 := by rcases d5 with d5 | d5 | d5 <;> simp [asked, d5, isBin]
    exact ⟨d5, by simp [GNode.us]; omega, .inl (by simp only [GNode.df]; omega)⟩
  rw [if_neg d5] at hn
  by_cases d6 : x.op = 22
  · rw [if_pos d6] at hn; cases hn
    have e2 : (asked i m x).length = 3 := by simp [asked, d6, isBin]
    exact ⟨trivial, by simp [GNode.us]; omega, .inl (by simp only [GNode.df]; omega)⟩
  rw [if_neg d6] at hn
  by_cases c1 : x.op = 23
  · rw [if_pos c1] at hn; cases hn
    exact ⟨trivial, by simp [GNode.us], .inr ⟨rfl, rfl⟩⟩
  rw [if_neg c1] at hn
  by_cases c2 : x.op = 24
  · rw [if_pos c2] at hn; cases hn
    have e2 : (asked i m x).length = 1 := by simp [asked, c2, isBin]
    exact ⟨trivial, by simp [GNode.us]; omega, .inr ⟨rfl, rfl⟩⟩
  rw [if_neg c2] at hn
  by_cases d9 : x.op = 25
  · rw [if_pos d9] at hn; cases hn
    have e1 : hgt i m x = 1 := by simp [hgt, givesS, d9, isBin]
    have e2 : asked i m x = [] := by simp [asked, d9, isBin]
    rw [e1, e2] at hg
    exact ⟨trivial, by simp [GNode.us], .inl (by simp only [GNode.df]; simp at hg; omega)⟩
  rw [if_neg d9] at hn
  by_cases d10 : x.op = 35
  · rw [if_pos d10] at hn; cases hn
    have e1 : hgt i m x = 1 := by simp [hgt, givesS, d10, isBin]
    have e2 : asked i m x = [] := by simp [asked, d10, isBin]
    rw [e1, e2] at hg
    exact ⟨trivial, by simp [GNode.us], .inl (by simp only [GNode.df]; simp at hg; omega)⟩
  rw [if_neg d10] at hn
  by_cases d11 : x.op = 33
  · rw [if_pos d11] at hn; cases hn
    have e1 : hgt i m x = 1 := by simp [hgt, givesS, d11]
    have e2 : asked i m x = [] := by simp [asked, d11, isBin]
    rw [e1, e2] at hg
    simp [lim, d11] at hl hu
    exact ⟨⟨by omega, by omega⟩, by simp [GNode.us], .inl (by simp only [GNode.df]; simp at hg; omega)⟩
  rw [if_neg d11] at hn
  by_cases d12 : x.op = 34
  · rw [if_pos d12] at hn; cases hn
    have e2 : (asked i m x).length = 1 := by simp [asked, d12]
    simp [lim, d12] at hl hu
    exact ⟨⟨by omega, by omega⟩, by simp [GNode.us]; omega, .inr ⟨rfl, rfl⟩⟩
  rw [if_neg d12] at hn
  have res : ∀ {r : Int} {q : Nat}, q ≤ h → h - q + (resL r).length ≤ 8 → (0 ≤ resP r ((h : Int) - (q : Nat)) ∧ resP r ((h : Int) - (q : Nat)) < 18) ∨ resP r ((h : Int) - (q : Nat)) = -1 := fun {r q} hq hr => by
    unfold resP resL at *
    by_cases h0 : r = 0
    · rw [if_pos h0]; exact .inr rfl
    · rw [if_neg h0] at hr ⊢; simp at hr; exact .inl (by omega)
  by_cases d13 : x.op = 37
  · rw [if_pos d13] at hn; cases hn
    have e1 : hgt i m x = (resL (i.meth x.a).result).length := by simp [hgt, givesS, d13, isBin]
    have e2 : asked i m x = (i.meth x.a).params := by simp [asked, d13, isBin]
    rw [e2] at ha hg
    rw [e1] at hg
    simp [lim, d13] at hl hu
    simp [namesS, d13] at nm
    have hp := (ox.ir.2.2.1.2.1 _ (Img.meth_mem hl nm)).1.2
    refine ⟨⟨⟨by omega, by omega⟩, by rw [rowP_len]; omega⟩, fun r hr => rowP_in ha h8 r hr, ?_⟩
    rcases res ha hg with h1 | h1
    · exact .inl h1
    · exact .inr ⟨h1, rfl⟩
  rw [if_neg d13] at hn
  by_cases d14 : x.op = 38
  · rw [if_pos d14] at hn; cases hn
    have e1 : hgt i m x = (resL (i.imp x.a).result).length := by simp [hgt, givesS, d14, isBin]
    have e2 : asked i m x = (i.imp x.a).params := by simp [asked, d14, isBin]
    rw [e2] at ha hg
    rw [e1] at hg
    simp [lim, d14] at hl hu
    simp [namesS, d14] at nm
    have hp := (ox.ir.2.1.2 _ (Img.imp_mem hl nm)).2.1.2
    refine ⟨⟨⟨by omega, by omega⟩, by rw [rowP_len]; omega⟩, fun r hr => rowP_in ha h8 r hr, ?_⟩
    rcases res ha hg with h1 | h1
    · exact .inl h1
    · exact .inr ⟨h1, rfl⟩
  rw [if_neg d14] at hn
  by_cases d15 : x.op = 39
  · rw [if_pos d15] at hn; cases hn
    have e2 : asked i m x = resL m.result := by simp [asked, d15, isBin]
    rw [e2] at ha
    refine ⟨trivial, fun r hr => ?_, .inr ⟨rfl, rfl⟩⟩
    simp only [GNode.us] at hr
    split at hr
    · simp at hr
    · rename_i hne
      simp only [List.mem_singleton] at hr
      unfold resP at hr hne
      unfold resL at ha
      by_cases h0 : m.result = 0
      · rw [if_pos h0] at hne; exact absurd rfl hne
      · rw [if_neg h0] at hr ha; simp at ha; omega
  rw [if_neg d15] at hn
  by_cases d16 : (srvP x.op).1 ≠ 0
  · rw [if_pos d16] at hn; cases hn
    have e0 : x.op = 27 ∨ x.op = 28 ∨ x.op = 17 ∨ x.op = 18 ∨ x.op = 29 ∨ x.op = 30 ∨ x.op = 36 ∨ x.op = 31 ∨ x.op = 32 := by
      apply Classical.byContradiction
      intro hne
      apply d16
      simp only [srvP]
      rw [if_neg (by omega), if_neg (by omega), if_neg (by omega), if_neg (by omega), if_neg (by omega)]
    rcases e0 with e | e | e | e | e | e | e | e | e <;>
      (have e1 : (asked i m x).length = (srvP x.op).1.toNat := by simp [asked, srvP, e, isBin]
       have e2 : hgt i m x = if (srvP x.op).2 then 1 else 0 := by first | (simp [hgt, givesS, srvP, e, isBin]; done) | (simp [hgt, givesS, srvP, e, isBin]; split <;> rfl)
       simp [srvP, e] at e1 e2
       refine ⟨by simp [GNode.okF, serves, rowP_len, srvP, e], fun r hr => rowP_in (n := (srvP x.op).1.toNat) (by simp [srvP, e]; omega) h8 r hr, ?_⟩
       simp [GNode.df, GNode.bareN, srvP, e]
       try omega)
  · rw [if_neg d16] at hn; cases hn
    have e0 : isBin x.op := by
      have d16' : (srvP x.op).1 = 0 := by simpa using d16
      unfold isBin
      simp only [srvP] at d16'
      repeat' (split at d16' <;> first | (simp at d16'; done) | skip)
      omega
    have e2 : (asked i m x).length = 2 := by
      unfold asked
      rw [if_neg (by omega), if_neg (by omega), if_neg (by omega), if_neg (by omega), if_pos e0]; rfl
    exact ⟨e0, by simp [GNode.us]; omega, .inl (by simp only [GNode.df]; omega)⟩
/-- The way goes on to the next one. -/
def GNode.falls : GNode → Bool
  | .goto _ | .ret _ => false
  | _ => true
theorem liftN_falls {i : Img} {m : Mth} {x : Ins} {h k : Nat} {n : GNode} (hn : liftN i m x h = some n) (hf : n.falls = true) : ((k : Int) + 1) ∈ nextS x k := by
  by_cases c1 : x.op = 23
  · have : n = .goto x.a := by simp [liftN, c1] at hn; exact hn.symm
    subst this; cases hf
  by_cases c2 : x.op = 39
  · have : n = .ret (resP m.result ((h : Int) - 1)) := by simp [liftN, c2] at hn; exact hn.symm
    subst this; cases hf
  unfold nextS
  rw [if_neg c1]
  by_cases c3 : x.op = 24
  · rw [if_pos c3]; exact List.mem_cons_self
  · rw [if_neg c3, if_neg c2]; exact List.mem_singleton.2 rfl
theorem liftN_none {i : Img} {m : Mth} {x : Ins} {h : Nat} (ho : liftN i m x h = none) : x.op = 4 := by
  apply Classical.byContradiction
  intro hne
  unfold liftN at ho
  iterate 17 (rcases ite_none ho with ⟨hc, ho⟩ | ⟨_, ho⟩; · (first | (cases ho; done) | exact absurd hc hne))
  cases ho
theorem liftN_goto {i : Img} {m : Mth} {x : Ins} {h : Nat} {t : Int} (hn : liftN i m x h = some (.goto t)) : x.op = 23 ∧ t = x.a := by
  unfold liftN at hn
  iterate 17 (rcases ite_some hn with ⟨hc, hn⟩ | ⟨_, hn⟩; · (first | (cases hn; done) | (cases hn; exact ⟨hc, rfl⟩)))
  cases hn
theorem liftN_branch {i : Img} {m : Mth} {x : Ins} {h : Nat} {q t : Int} (hn : liftN i m x h = some (.branch q t)) : x.op = 24 ∧ t = x.a := by
  unfold liftN at hn
  iterate 17 (rcases ite_some hn with ⟨hc, hn⟩ | ⟨_, hn⟩; · (first | (cases hn; done) | (cases hn; exact ⟨hc, rfl⟩)))
  cases hn
theorem liftK_end {i : Img} {m : Mth} {st : St} {r : List Bool} (R : Rch i m st [] r) : ∀ k, ∀ (a : Nat) (n : GNode), (liftK i m st r k).1[a]? = some n → n.falls = true → a + 1 < (liftK i m st r k).1.length ∨ (a + 1 = (liftK i m st r k).1.length ∧ r.getD k false = true)
  | 0, a, n, h, _ => by
    have hlt := (List.getElem?_eq_some_iff.1 h).1
    have hz : r.getD 0 false = true := by rcases R.z with hz | hz; exact hz; cases hz
    by_cases h1 : a + 1 < (liftK i m st r 0).1.length
    · exact .inl h1
    · exact .inr ⟨by omega, hz⟩
  | k + 1, a, n, h, hf => by
    have ih := liftK_end R k
    cases hk : r.getD k false with
    | false =>
      have e : (liftK i m st r (k + 1)).1 = (liftK i m st r k).1 := by simp only [liftK, hk]; rfl
      rw [e] at h ⊢
      rcases ih a n h hf with h1 | ⟨_, h1⟩
      · exact .inl h1
      · rw [hk] at h1; cases h1
    | true =>
      have e : (liftK i m st r (k + 1)).1 = (liftK i m st r k).1 ++ .tick :: (liftN i m (m.ins k) (st.s k).length).toList := by simp only [liftK, hk]; rfl
      have next : ((k : Int) + 1) ∈ nextS (m.ins k) k → r.getD (k + 1) false = true := fun hm => by
        rcases R.cl k hk _ hm with h1 | h1
        · rwa [show ((k : Int) + 1).toNat = k + 1 by omega] at h1
        · cases h1
      rw [e] at h ⊢
      rw [List.getElem?_append] at h
      split at h
      · left; simp; omega
      · rename_i hge
        have hlt := (List.getElem?_eq_some_iff.1 h).1
        cases ho : liftN i m (m.ins k) (st.s k).length with
        | none =>
          rw [ho] at hlt
          simp at hlt
          right
          refine ⟨by simp; omega, next ?_⟩
          have h4 : (m.ins k).op = 4 := liftN_none ho
          simp [nextS, h4]
        | some y =>
          rw [ho] at hlt h
          simp at hlt
          by_cases ha : a = (liftK i m st r k).1.length
          · left; simp; omega
          · right
            have ea : a - (liftK i m st r k).1.length = 1 := by omega
            rw [ea] at h
            simp at h
            subst h
            exact ⟨by simp; omega, next (liftN_falls ho hf)⟩
theorem liftK_at {i : Img} {m : Mth} {st : St} {r : List Bool} : ∀ (k pc : Nat), pc < k → r.getD pc false = true → ∃ t : Nat, (liftK i m st r k).2[pc]? = some (t : Int) ∧ t < (liftK i m st r k).1.length
  | k + 1, pc, h, hr => by
    have hl := (liftK_ticks i m st r k).2.1
    by_cases hpk : pc = k
    · subst hpk
      have e : liftK i m st r (pc + 1) = ((liftK i m st r pc).1 ++ .tick :: (liftN i m (m.ins pc) (st.s pc).length).toList, (liftK i m st r pc).2 ++ [((liftK i m st r pc).1.length : Int)]) := by simp only [liftK, hr]; rfl
      rw [e]
      exact ⟨(liftK i m st r pc).1.length, by rw [List.getElem?_append_right (by omega), hl]; simp, by simp⟩
    · obtain ⟨t, h1, h2⟩ := liftK_at (i := i) (m := m) (st := st) (r := r) k pc (by omega) hr
      cases hk : r.getD k false with
      | false =>
        have e : liftK i m st r (k + 1) = ((liftK i m st r k).1, (liftK i m st r k).2 ++ [-1]) := by simp only [liftK, hk]; rfl
        rw [e]
        exact ⟨t, by rw [List.getElem?_append_left (by omega)]; exact h1, h2⟩
      | true =>
        have e : liftK i m st r (k + 1) = ((liftK i m st r k).1 ++ .tick :: (liftN i m (m.ins k) (st.s k).length).toList, (liftK i m st r k).2 ++ [((liftK i m st r k).1.length : Int)]) := by simp only [liftK, hk]; rfl
        rw [e]
        exact ⟨t, by rw [List.getElem?_append_left (by omega)]; exact h1, by simp; omega⟩
/-- Each node stands right; what it jumps to is reached. -/
theorem liftK_okn {i : Img} {m : Mth} {st : St} {r : List Bool} (hox : ∀ x ∈ m.code, Okx i m x) (hwf : WF m st) (hled : ∀ k, st.h k = true → Led i m st k) (R : Rch i m st [] r) : ∀ k, k ≤ m.code.length → ∀ n ∈ (liftK i m st r k).1, OkNode n ∧ (match n with | .goto t | .branch _ t => r.getD t.toNat false = true | _ => True)
  | 0, _, n, h => by
    simp only [liftK, List.mem_map, List.mem_range] at h
    obtain ⟨j, hj, rfl⟩ := h
    have mr : m.right ∨ m.code.length = 0 := by
      by_cases h0 : m.code.length = 0
      · exact .inr h0
      · obtain ⟨x, hx⟩ := ex_get (l := m.code) (j := 0) (by omega)
        exact .inl (hox x (List.mem_of_getElem? hx)).mr
    have hz : r.getD 0 false = true := by rcases R.z with hz | hz; exact hz; cases hz
    have h0 : 0 < r.length := getD_lt hz
    have hrl := R.rl
    rcases mr with mr | mr
    · have pl := mr.1.2
      have ll := mr.2.2.1.2
      exact ⟨⟨trivial, by simp [GNode.us], .inl (by simp only [GNode.df]; omega)⟩, trivial⟩
    · omega
  | k + 1, hk1, n, h => by
    have ih := liftK_okn hox hwf hled R k (by omega)
    cases hk : r.getD k false with
    | false =>
      have e : (liftK i m st r (k + 1)).1 = (liftK i m st r k).1 := by simp only [liftK, hk]; rfl
      rw [e] at h
      exact ih n h
    | true =>
      have e : (liftK i m st r (k + 1)).1 = (liftK i m st r k).1 ++ .tick :: (liftN i m (m.ins k) (st.s k).length).toList := by simp only [liftK, hk]; rfl
      rw [e] at h
      rcases List.mem_append.1 h with h | h
      · exact ih n h
      · rcases List.mem_cons.1 h with h | h
        · subst h
          exact ⟨⟨trivial, by simp [GNode.us], .inr ⟨rfl, rfl⟩⟩, trivial⟩
        · have hn : liftN i m (m.ins k) (st.s k).length = some n := by simpa using h
          have hh := R.rs k hk
          obtain ⟨out, hdo, _⟩ := hled k hh
          obtain ⟨hkd, hl8⟩ := hwf.kd k hh
          have ox := hox _ (ins_mem (m := m) (k := k) (by omega))
          obtain ⟨_, ho8, hask, hlen⟩ := doS_ok ox hkd hdo
          refine ⟨liftN_ok ox hl8 hask (by omega) hn, ?_⟩
          have jmp : ∀ t, t ∈ nextS (m.ins k) k → r.getD t.toNat false = true := fun t ht => by
            rcases R.cl k hk t ht with h1 | h1
            · exact h1
            · cases h1
          cases n with
          | goto t =>
            obtain ⟨e1, rfl⟩ := liftN_goto hn
            exact jmp _ (by simp [nextS, e1])
          | branch q t =>
            obtain ⟨e1, rfl⟩ := liftN_branch hn
            exact jmp _ (by simp [nextS, e1])
          | _ => trivial
/-- The lifted program is one that may be. -/
theorem lift_okProg {i : Img} {k : Nat} {st : St} {r : List Bool} (ht : Taken i) (hk : k < i.methods.length) (hw : Walk i (i.meth k) (some st)) (R : Rch i (i.meth k) st [] r) : OkProg ⟨(i.meth k).params.length, 18, liftP i (i.meth k) st r⟩ := by
  have hmi := meth_get (i := i) (a := (k : Int)) (by omega) (by omega)
  rw [Int.toNat_natCast] at hmi
  have ir := ht.1
  have mr : (i.meth k).right := ir.2.2.1.2.1 _ (List.mem_of_getElem? hmi)
  obtain ⟨hox, hwf, hh0, hs0, hled⟩ := hw.led ir mr
  generalize hmm : i.meth k = m at *
  have pl := mr.1.2
  have ll := mr.2.2.1.2
  have lc := mr.2.2.2.1.2
  obtain ⟨c1, c2, c3, c4⟩ := liftP_ticks i m st r
  have hz : r.getD 0 false = true := by rcases R.z with hz | hz; exact hz; cases hz
  have hl0 : 0 < m.code.length := by have := getD_lt hz; have := R.rl; omega
  obtain ⟨t0, ht0, htl⟩ := liftK_at (i := i) (m := m) (st := st) (r := r) m.code.length 0 hl0 hz
  have hlen : (liftP i m st r).length = (liftK i m st r m.code.length).1.length := by simp [liftP]
  refine ⟨by dsimp only; omega, by dsimp only; omega, by dsimp only; decide, by dsimp only; decide, by dsimp only; omega, by dsimp only; omega, by dsimp only; omega, fun a n hn => ?_⟩
  have hn : (liftP i m st r)[a]? = some n := hn
  have hn' := hn
  rw [show liftP i m st r = (liftK i m st r m.code.length).1.map (aimN (liftK i m st r m.code.length).2) from rfl, List.getElem?_map, Option.map_eq_some_iff] at hn'
  obtain ⟨y, hy, rfl⟩ := hn'
  obtain ⟨⟨o1, o2, o3⟩, o4⟩ := liftK_okn hox hwf hled R m.code.length (Nat.le_refl _) y (List.mem_of_getElem? hy)
  have hcend : r.getD m.code.length false = false := by
    cases hc : r.getD m.code.length false with
    | false => rfl
    | true => have := getD_lt hc; have := R.rl; omega
  have fall : y.falls = true → (a : Int) + 1 < ((liftP i m st r).length : Int) := fun hf => by
    rcases liftK_end R m.code.length a y hy hf with h1 | ⟨_, h1⟩
    · omega
    · rw [hcend] at h1; cases h1
  have aim : ∀ t : Int, r.getD t.toNat false = true → 0 ≤ nth (liftK i m st r m.code.length).2 t.toNat ∧ nth (liftK i m st r m.code.length).2 t.toNat < ((liftP i m st r).length : Int) := fun t hr => by
    have := getD_lt hr
    have := R.rl
    obtain ⟨q, h1, h2⟩ := liftK_at (i := i) (m := m) (st := st) (r := r) m.code.length t.toNat (by omega) hr
    have e : nth (liftK i m st r m.code.length).2 t.toNat = (q : Int) := by
      unfold nth
      rw [List.getD_eq_getElem?_getD, h1]; rfl
    rw [e]
    omega
  refine ⟨?_, ?_, ?_, ?_⟩
  · cases y <;> exact o1
  · cases y <;> exact o2
  · intro t htn
    cases y with
    | goto to =>
      have htn : t ∈ [nth (liftK i m st r m.code.length).2 to.toNat] := htn
      rw [List.mem_singleton] at htn
      subst htn
      exact aim to o4
    | branch q to =>
      have hA := aim to o4
      have hF := fall rfl
      simp only [aimN, GNode.nx] at htn
      split at htn
      · rw [List.mem_singleton] at htn; subst htn; exact ⟨by omega, hF⟩
      · rcases List.mem_cons.1 htn with h1 | h1
        · subst h1; exact ⟨by omega, hF⟩
        · rw [List.mem_singleton] at h1; subst h1; exact hA
    | ret s => simp [aimN, GNode.nx] at htn
    | _ =>
      have hF := fall rfl
      simp only [aimN, GNode.nx, List.mem_singleton] at htn
      subst htn
      exact ⟨by omega, hF⟩
  · cases y <;> exact o3
end Go.Proofs.YtcdbikfnlggbnaaGreatDoor
namespace Go.Proofs.YtcdbikfnlggbnaaGreatDoor
open Go.Vc
def GNode.pk : GNode → Int
  | .const _ _ => 1 | .move _ _ => 2 | .bin _ _ _ _ => 3 | .un _ _ _ => 4 | .choose _ _ _ _ => 5 | .tick => 6 | .goto _ => 7 | .branch _ _ => 8
  | .getField _ _ => 9 | .putField _ _ => 10 | .serve _ _ _ _ _ => 11 | .call _ _ _ => 12 | .callX _ _ _ => 13 | .ret _ => 14
def GNode.pop : GNode → Int
  | .bin op _ _ _ | .un op _ _ | .serve op _ _ _ _ => op
  | _ => 0
def GNode.pN (_ : Int) : GNode → Int
  | .const _ n => IntKind.i64.wrap n
  | .getField _ f | .putField f _ => f
  | .call k _ _ | .callX k _ _ => k
  | _ => 0
def GNode.pA : GNode → Int
  | .serve _ a _ _ _ => a
  | _ => 0
def GNode.pB : GNode → Int
  | .serve _ _ b _ _ => b
  | _ => 0
def GNode.pT : GNode → Int
  | .goto t | .branch _ t => t
  | _ => 0
def GNode.pcs (g : GNode) (m : Int) (sv : Value) : List Value := [i64 g.pk, i64 g.df, i64 g.pop, i64 (g.pN m), i64 g.pA, i64 g.pB, i64 g.pT, sv]
/-- A value is what PlainNode makes of the node g (a Const's number as an int). -/
def PlainIs (w : World) (v : Value) (g : GNode) : Prop := ∃ m sv, v = .agg (g.pcs m sv).toArray ∧ IntsAre w sv g.us
theorem PlainIs.ext {w w' : World} {v : Value} {g : GNode} (h : PlainIs w v g) (hx : Ext w w') : PlainIs w' v g := by
  obtain ⟨m, sv, h1, h2⟩ := h
  exact ⟨m, sv, h1, h2.ext hx⟩
theorem ints_nil (w : World) : IntsAre w (.slice none 0 0) [] := SliceIs.nil w 1
/-- The end of each arm: the struct is built, laid, and read. -/
theorem plainEnd {R : Value → World → Prop} {w0 w1 : World} {g : Nat} {old : List Value} {parts : Array (Nat × Value)} (n : GNode) (m : Int) (sv : Value) (l : List (Nat × Value)) (hp : parts = l.toArray) (h1 : (l.all fun x => decide (x.1 < 8) && oneC x.2) = true)
    (hl : l.foldl (fun cs x => cs.set x.1 x.2) [i64 0, i64 0, i64 0, i64 0, i64 0, i64 0, i64 0, .slice none 0 0] = n.pcs m sv) (hsv : oneC sv = true) (hb : Blk w1 g old 92) (ho : old.length = 8)
    (hx : Ext w0 w1) (hg : w0.heap.size ≤ g) (hk : ∀ w', Ext w0 w' → Chg w1 g w' → R (.agg (n.pcs m sv).toArray) w') :
    V Tryz.prog (Instr.build 92 parts) w1 fun t w2 => U Tryz.prog (Instr.storeAt 92 (.pointer (some ⟨g, 0, none⟩)) t) w2 fun _ w3 =>
      ∃ r1, (loadVar 92 (match (Value.pointer (some ⟨g, 0, none⟩)) with | .pointer (some p) => p | _ => ⟨0, 0, none⟩)).run Tryz.prog w3 = .ok r1 w3 ∧ (∃ p, (Value.pointer (some ⟨g, 0, none⟩)) = Value.pointer (some p)) ∧ R r1 w3 := by
  refine bld bd_92 l hp h1 ?_
  have hl' : l.foldl (fun cs x => cs.set x.1 x.2) [.int .i64 0, .int .i64 0, .int .i64 0, .int .i64 0, .int .i64 0, .int .i64 0, .int .i64 0, .slice none 0 0] = n.pcs m sv := hl
  rw [hl']
  refine stA inf92 hb (l := n.pcs m sv) rfl rfl ho (by simp [GNode.pcs, oneC, hsv]; cases sv <;> simp_all [oneC]) fun w' h2 hc => ?_
  exact ⟨_, r_var Tryz.underlying92 rfl inf92 h2 rfl, ⟨_, rfl⟩, hk w' (hc.ext _ hx hg) hc⟩
/-- .. where its slice lies: with what was there, or in a row of its own. -/
def PlainO (v0 : Value) (w w' : World) (v : Value) (g : GNode) : Prop := ∃ m sv, v = .agg (g.pcs m sv).toArray ∧ ((∀ w0, NodeIs w0 v0 g → IntsAre w0 sv g.us) ∨ w'.ownsRow w.heap.size 3 1 sv g.us.length (g.us.map i64))
theorem own1 {w : World} {B e n : Nat} {v : Value} {xs : List Value} (h : w.ownsRow B e 1 v n xs) : oneC v = true := by
  obtain ⟨a, c, rfl⟩ := (SliceIs.of_own h).shape; rfl
theorem shape_ints {w : World} {sv : Value} {l : List Int} (h : IntsAre w sv l) : oneC sv = true := by
  obtain ⟨a, c, rfl⟩ := h.shape; rfl
set_option maxHeartbeats 1000000 in
theorem plainO_ok {n : GNode} {v : Value} {w : World} (h : NodeIs w v n) : callD Tryz.prog 36 #[v] w fun r w' => PlainO v w w' r n ∧ Ext w w' := by
  obtain ⟨sv, rfl, hs⟩ := h
  obtain ⟨sa, sc, rfl⟩ := hs.shape
  apply F36_wp
  unfold F36_den
  refine alK inf92 fun w0 h0 x0 => ?_
  have fin0 : ∀ {n : GNode} {v0 : Value} {m : Int} {w1 w2 : World}, Ext w w2 → Chg w1 w.heap.size w2 → n.us = [] → PlainO v0 w w2 (.agg (n.pcs m (.slice none 0 0)).toArray) n ∧ Ext w w2 := fun {n v0 m w1 w2} hx _ hu => ⟨⟨m, _, rfl, .inl fun _ _ => by rw [hu]; exact ints_nil _⟩, hx⟩
  cases n with
  | const d m =>
    dsimp only [GNode.val]; (repeat (first | (with_reducible refine th (by first | exact ta_105 | exact ta_84) ?_) | ((with_reducible refine tm ta_105 (by decide) ?_); intro _ _ _)))
    refine asB sa_84 rfl rfl fun b w1 hb x1 => ?_; refine ldB hb fa_84_0 l1_3 rfl ?_; refine ldB hb fa_84_1 l1_21 rfl ?_
    refine V_cv_21_3.2 ?_
    exact plainEnd (.const d m) 0 (.slice none 0 0) [(0, i64 1), (1, i64 d), (3, _)] rfl rfl rfl rfl (h0.ext x1) rfl (x0.trans x1) (Nat.le_refl _) fun w' hx hc => fin0 hx hc rfl
  | tick =>
    dsimp only [GNode.val]; (repeat (first | (with_reducible refine th (by first | exact ta_105 | exact ta_49) ?_) | ((with_reducible refine tm (by first | exact ta_105 | exact ta_113 | exact ta_140 | exact ta_142 | exact ta_144 | exact ta_84) (by decide) ?_); intro _ _ _)))
    refine asB sa_49 rfl rfl fun b w1 hb x1 => ?_
    exact plainEnd .tick 0 (.slice none 0 0) [(0, i64 6), (1, i64 (-1))] rfl rfl rfl rfl (h0.ext x1) rfl (x0.trans x1) (Nat.le_refl _) fun w' hx hc => fin0 hx hc rfl
  | goto t =>
    dsimp only [GNode.val]; (repeat (first | (with_reducible refine th (by first | exact ta_105 | exact ta_146) ?_) | ((with_reducible refine tm (by first | exact ta_105 | exact ta_113 | exact ta_140 | exact ta_142 | exact ta_144 | exact ta_146 | exact ta_148 | exact ta_150 | exact ta_152 | exact ta_155 | exact ta_157 | exact ta_162 | exact ta_49 | exact ta_84) (by decide) ?_); intro _ _ _)))
    refine asB sa_146 rfl rfl fun b w1 hb x1 => ?_; refine ldB hb fa_146_0 l1_3 rfl ?_
    exact plainEnd (.goto t) 0 (.slice none 0 0) [(0, i64 7), (1, i64 (-1)), (6, i64 t)] rfl rfl rfl rfl (h0.ext x1) rfl (x0.trans x1) (Nat.le_refl _) fun w' hx hc => fin0 hx hc rfl
  | getField d f =>
    dsimp only [GNode.val]; (repeat (first | (with_reducible refine th (by first | exact ta_105 | exact ta_150) ?_) | ((with_reducible refine tm (by first | exact ta_105 | exact ta_113 | exact ta_140 | exact ta_142 | exact ta_144 | exact ta_146 | exact ta_148 | exact ta_150 | exact ta_152 | exact ta_155 | exact ta_157 | exact ta_162 | exact ta_49 | exact ta_84) (by decide) ?_); intro _ _ _)))
    refine asB sa_150 rfl rfl fun b w1 hb x1 => ?_; refine ldB hb fa_150_0 l1_3 rfl ?_; refine ldB hb fa_150_1 l1_3 rfl ?_
    exact plainEnd (.getField d f) 0 (.slice none 0 0) [(0, i64 9), (1, i64 d), (3, i64 f)] rfl rfl rfl rfl (h0.ext x1) rfl (x0.trans x1) (Nat.le_refl _) fun w' hx hc => fin0 hx hc rfl
  | move d s =>
    dsimp only [GNode.val]; (repeat (first | (with_reducible refine th (by first | exact ta_105 | exact ta_140) ?_) | ((with_reducible refine tm (by first | exact ta_105 | exact ta_84) (by decide) ?_); intro _ _ _)))
    refine asB sa_140 rfl rfl fun b w1 hb x1 => ?_; refine ldB hb fa_140_0 l1_3 rfl ?_; refine ldB hb fa_140_1 l1_3 rfl ?_
    refine bsl xe_23 [i64 s] rfl rfl (by simp) rfl fun v w2 ho x2 => ?_
    exact plainEnd (.move d s) 0 v [(0, i64 2), (1, i64 d), (7, v)] rfl (by obtain ⟨_, _, rfl⟩ := (SliceIs.of_own ho).shape; rfl) rfl (own1 ho) ((h0.ext x1).ext x2) rfl ((x0.trans x1).trans x2) (Nat.le_refl _) fun w' hx hc => ⟨⟨0, v, rfl, .inr (own_mono (hc.ownRow ho (Nat.lt_of_lt_of_le h0.lt x1.size)) (x0.trans x1).size)⟩, hx⟩
  | bin op d a c =>
    dsimp only [GNode.val]; (repeat (first | (with_reducible refine th (by first | exact ta_105 | exact ta_113) ?_) | ((with_reducible refine tm (by first | exact ta_105 | exact ta_113 | exact ta_140 | exact ta_84) (by decide) ?_); intro _ _ _)))
    refine asB sa_113 rfl rfl fun b w1 hb x1 => ?_; refine ldB hb fa_113_0 l1_3 rfl ?_; refine ldB hb fa_113_1 l1_3 rfl ?_; refine ldB hb fa_113_2 l1_3 rfl ?_; refine ldB hb fa_113_3 l1_3 rfl ?_
    refine bsl xe_23 [i64 a, i64 c] rfl rfl (by simp) rfl fun v w2 ho x2 => ?_
    exact plainEnd (.bin op d a c) 0 v [(0, i64 3), (2, i64 op), (1, i64 d), (7, v)] rfl (by obtain ⟨_, _, rfl⟩ := (SliceIs.of_own ho).shape; rfl) rfl (own1 ho) ((h0.ext x1).ext x2) rfl ((x0.trans x1).trans x2) (Nat.le_refl _) fun w' hx hc => ⟨⟨0, v, rfl, .inr (own_mono (hc.ownRow ho (Nat.lt_of_lt_of_le h0.lt x1.size)) (x0.trans x1).size)⟩, hx⟩
  | un op d a =>
    dsimp only [GNode.val]; (repeat (first | (with_reducible refine th (by first | exact ta_105 | exact ta_142) ?_) | ((with_reducible refine tm (by first | exact ta_105 | exact ta_113 | exact ta_140 | exact ta_84) (by decide) ?_); intro _ _ _)))
    refine asB sa_142 rfl rfl fun b w1 hb x1 => ?_; refine ldB hb fa_142_0 l1_3 rfl ?_; refine ldB hb fa_142_1 l1_3 rfl ?_; refine ldB hb fa_142_2 l1_3 rfl ?_
    refine bsl xe_23 [i64 a] rfl rfl (by simp) rfl fun v w2 ho x2 => ?_
    exact plainEnd (.un op d a) 0 v [(0, i64 4), (2, i64 op), (1, i64 d), (7, v)] rfl (by obtain ⟨_, _, rfl⟩ := (SliceIs.of_own ho).shape; rfl) rfl (own1 ho) ((h0.ext x1).ext x2) rfl ((x0.trans x1).trans x2) (Nat.le_refl _) fun w' hx hc => ⟨⟨0, v, rfl, .inr (own_mono (hc.ownRow ho (Nat.lt_of_lt_of_le h0.lt x1.size)) (x0.trans x1).size)⟩, hx⟩
  | choose d c a e =>
    dsimp only [GNode.val]; (repeat (first | (with_reducible refine th (by first | exact ta_105 | exact ta_144) ?_) | ((with_reducible refine tm (by first | exact ta_105 | exact ta_113 | exact ta_140 | exact ta_142 | exact ta_84) (by decide) ?_); intro _ _ _)))
    refine asB sa_144 rfl rfl fun b w1 hb x1 => ?_; refine ldB hb fa_144_0 l1_3 rfl ?_; refine ldB hb fa_144_1 l1_3 rfl ?_; refine ldB hb fa_144_2 l1_3 rfl ?_; refine ldB hb fa_144_3 l1_3 rfl ?_
    refine bsl xe_23 [i64 c, i64 a, i64 e] rfl rfl (by simp) rfl fun v w2 ho x2 => ?_
    exact plainEnd (.choose d c a e) 0 v [(0, i64 5), (1, i64 d), (7, v)] rfl (by obtain ⟨_, _, rfl⟩ := (SliceIs.of_own ho).shape; rfl) rfl (own1 ho) ((h0.ext x1).ext x2) rfl ((x0.trans x1).trans x2) (Nat.le_refl _) fun w' hx hc => ⟨⟨0, v, rfl, .inr (own_mono (hc.ownRow ho (Nat.lt_of_lt_of_le h0.lt x1.size)) (x0.trans x1).size)⟩, hx⟩
  | branch c t =>
    dsimp only [GNode.val]; (repeat (first | (with_reducible refine th (by first | exact ta_105 | exact ta_148) ?_) | ((with_reducible refine tm (by first | exact ta_105 | exact ta_113 | exact ta_140 | exact ta_142 | exact ta_144 | exact ta_146 | exact ta_148 | exact ta_150 | exact ta_152 | exact ta_155 | exact ta_157 | exact ta_162 | exact ta_49 | exact ta_84) (by decide) ?_); intro _ _ _)))
    refine asB sa_148 rfl rfl fun b w1 hb x1 => ?_; refine ldB hb fa_148_1 l1_3 rfl ?_; refine ldB hb fa_148_0 l1_3 rfl ?_
    refine bsl xe_23 [i64 c] rfl rfl (by simp) rfl fun v w2 ho x2 => ?_
    exact plainEnd (.branch c t) 0 v [(0, i64 8), (1, i64 (-1)), (6, i64 t), (7, v)] rfl (by obtain ⟨_, _, rfl⟩ := (SliceIs.of_own ho).shape; rfl) rfl (own1 ho) ((h0.ext x1).ext x2) rfl ((x0.trans x1).trans x2) (Nat.le_refl _) fun w' hx hc => ⟨⟨0, v, rfl, .inr (own_mono (hc.ownRow ho (Nat.lt_of_lt_of_le h0.lt x1.size)) (x0.trans x1).size)⟩, hx⟩
  | putField f s =>
    dsimp only [GNode.val]; (repeat (first | (with_reducible refine th (by first | exact ta_105 | exact ta_152) ?_) | ((with_reducible refine tm (by first | exact ta_105 | exact ta_113 | exact ta_140 | exact ta_142 | exact ta_144 | exact ta_146 | exact ta_148 | exact ta_150 | exact ta_152 | exact ta_155 | exact ta_157 | exact ta_162 | exact ta_49 | exact ta_84) (by decide) ?_); intro _ _ _)))
    refine asB sa_152 rfl rfl fun b w1 hb x1 => ?_; refine ldB hb fa_152_0 l1_3 rfl ?_; refine ldB hb fa_152_1 l1_3 rfl ?_
    refine bsl xe_23 [i64 s] rfl rfl (by simp) rfl fun v w2 ho x2 => ?_
    exact plainEnd (.putField f s) 0 v [(0, i64 10), (1, i64 (-1)), (3, i64 f), (7, v)] rfl (by obtain ⟨_, _, rfl⟩ := (SliceIs.of_own ho).shape; rfl) rfl (own1 ho) ((h0.ext x1).ext x2) rfl ((x0.trans x1).trans x2) (Nat.le_refl _) fun w' hx hc => ⟨⟨0, v, rfl, .inr (own_mono (hc.ownRow ho (Nat.lt_of_lt_of_le h0.lt x1.size)) (x0.trans x1).size)⟩, hx⟩
  | serve op a c d l =>
    dsimp only [GNode.val]; (repeat (first | (with_reducible refine th (by first | exact ta_105 | exact ta_162) ?_) | ((with_reducible refine tm (by first | exact ta_105 | exact ta_113 | exact ta_140 | exact ta_142 | exact ta_144 | exact ta_146 | exact ta_148 | exact ta_150 | exact ta_152 | exact ta_155 | exact ta_157 | exact ta_162 | exact ta_49 | exact ta_84) (by decide) ?_); intro _ _ _)))
    refine asB sa_162 rfl rfl fun b w1 hb x1 => ?_; refine ldB hb fa_162_0 l1_3 rfl ?_; refine ldB hb fa_162_1 l1_3 rfl ?_; refine ldB hb fa_162_2 l1_3 rfl ?_; refine ldB hb fa_162_3 l1_3 rfl ?_; refine ldB hb fa_162_4 l1_23 rfl ?_
    exact plainEnd (.serve op a c d l) 0 _ [(0, i64 11), (2, i64 op), (4, i64 a), (5, i64 c), (1, i64 d), (7, _)] rfl rfl rfl rfl (h0.ext x1) rfl (x0.trans x1) (Nat.le_refl _) fun w' hx hc => ⟨⟨0, _, rfl, .inl fun w0 h0 => by obtain ⟨sv', e, h⟩ := h0; simp only [GNode.val] at e; cases e; exact h⟩, hx⟩
  | call k d l =>
    dsimp only [GNode.val]; (repeat (first | (with_reducible refine th (by first | exact ta_105 | exact ta_155) ?_) | ((with_reducible refine tm (by first | exact ta_105 | exact ta_113 | exact ta_140 | exact ta_142 | exact ta_144 | exact ta_146 | exact ta_148 | exact ta_150 | exact ta_152 | exact ta_155 | exact ta_157 | exact ta_162 | exact ta_49 | exact ta_84) (by decide) ?_); intro _ _ _)))
    refine asB sa_155 rfl rfl fun b w1 hb x1 => ?_; refine ldB hb fa_155_0 l1_3 rfl ?_; refine ldB hb fa_155_1 l1_3 rfl ?_; refine ldB hb fa_155_2 l1_23 rfl ?_
    exact plainEnd (.call k d l) 0 _ [(0, i64 12), (3, i64 k), (1, i64 d), (7, _)] rfl rfl rfl rfl (h0.ext x1) rfl (x0.trans x1) (Nat.le_refl _) fun w' hx hc => ⟨⟨0, _, rfl, .inl fun w0 h0 => by obtain ⟨sv', e, h⟩ := h0; simp only [GNode.val] at e; cases e; exact h⟩, hx⟩
  | callX k d l =>
    dsimp only [GNode.val]; (repeat (first | (with_reducible refine th (by first | exact ta_105 | exact ta_157) ?_) | ((with_reducible refine tm (by first | exact ta_105 | exact ta_113 | exact ta_140 | exact ta_142 | exact ta_144 | exact ta_146 | exact ta_148 | exact ta_150 | exact ta_152 | exact ta_155 | exact ta_157 | exact ta_162 | exact ta_49 | exact ta_84) (by decide) ?_); intro _ _ _)))
    refine asB sa_157 rfl rfl fun b w1 hb x1 => ?_; refine ldB hb fa_157_0 l1_3 rfl ?_; refine ldB hb fa_157_1 l1_3 rfl ?_; refine ldB hb fa_157_2 l1_23 rfl ?_
    exact plainEnd (.callX k d l) 0 _ [(0, i64 13), (3, i64 k), (1, i64 d), (7, _)] rfl rfl rfl rfl (h0.ext x1) rfl (x0.trans x1) (Nat.le_refl _) fun w' hx hc => ⟨⟨0, _, rfl, .inl fun w0 h0 => by obtain ⟨sv', e, h⟩ := h0; simp only [GNode.val] at e; cases e; exact h⟩, hx⟩
  | ret s =>
    dsimp only [GNode.val]; (repeat (first | (with_reducible refine th ta_105 ?_) | ((with_reducible refine tm (by first | exact ta_105 | exact ta_113 | exact ta_140 | exact ta_142 | exact ta_144 | exact ta_146 | exact ta_148 | exact ta_150 | exact ta_152 | exact ta_155 | exact ta_157 | exact ta_162 | exact ta_49 | exact ta_84) (by decide) ?_); intro _ _ _)))
    refine asB sa_105 rfl rfl fun b w1 hb x1 => ?_; refine ldB hb fa_105_0 l1_3 rfl ?_
    refine V_eqlI.2 (ifD_dec (fun heq => ?_) fun hne => ?_)
    · exact plainEnd (.ret s) 0 (.slice none 0 0) [(0, i64 14), (1, i64 (-1))] rfl rfl rfl rfl (h0.ext x1) rfl (x0.trans x1) (Nat.le_refl _) fun w' hx hc => fin0 hx hc (by simp [GNode.us, heq])
    · refine ldB hb fa_105_0 l1_3 rfl ?_
      refine bsl xe_23 [i64 s] rfl rfl (by simp) rfl fun v w2 ho x2 => ?_
      exact plainEnd (.ret s) 0 v [(0, i64 14), (1, i64 (-1)), (7, v)] rfl (by obtain ⟨_, _, rfl⟩ := (SliceIs.of_own ho).shape; rfl) rfl (own1 ho) ((h0.ext x1).ext x2) rfl ((x0.trans x1).trans x2) (Nat.le_refl _) fun w' hx hc => ⟨⟨0, v, rfl, by
        have hu : GNode.us (.ret s) = [s] := by simp only [GNode.us]; rw [if_neg hne]
        rw [hu]
        exact .inr (own_mono (hc.ownRow ho (Nat.lt_of_lt_of_le h0.lt x1.size)) (x0.trans x1).size)⟩, hx⟩
/-- A slice literal of one struct. -/
theorem bs83 {w : World} {K : Value → World → Prop} {g : GNode} {m : Int} {sv : Value} (_ : oneC sv = true) (hk : ∀ w', w'.ownsRow w.heap.size 92 8 (.slice (some ⟨w.heap.size, 0, none⟩) 1 1) 1 (g.pcs m sv) → Ext w w' → K (.slice (some ⟨w.heap.size, 0, none⟩) 1 1) w') :
    V Tryz.prog (Instr.buildSlice 54 1 #[(0, .agg (g.pcs m sv).toArray)]) w K := by
  have hr : (Instr.buildSlice 54 1 #[(0, .agg (g.pcs m sv).toArray)]).run Tryz.prog w = .ok (.slice (some ⟨w.heap.size, 0, none⟩) 1 1) (w.alloc (.cells (g.pcs m sv).toArray 92)) := by
    simp only [Instr.buildSlice, Sem.run_bind, run_underlying Tryz.underlying54, Result.andThen_ok, run_size inf92]
    rw [if_neg (by decide), if_neg (by decide)]
    simp only [Sem.run_bind, run_zero inf92, Result.andThen_ok, Sem.run_pure]
    have hf : ∀ z : Array Value, z = #[.int .i64 0, .int .i64 0, .int .i64 0, .int .i64 0, .int .i64 0, .int .i64 0, .int .i64 0, .slice none 0 0] → Instr.fill (fun i => some (i * 8, 8)) (Array.map (fun x => z[x % z.size]!) (Array.range (1 * 8))) [(0, Value.agg (g.pcs m sv).toArray)] = some (g.pcs m sv).toArray := by
      rintro _ rfl
      kernel_rfl
    have hf' := hf _ rfl
    simp only [Value.cells] at hf' ⊢
    erw [hf']
    simp [newRow, newObj, Sem.run]
  refine V.ok hr (hk _ ?_ ((Ext.refl w).alloc _))
  exact ⟨rfl, .inr ⟨_, 1, _, rfl, Nat.le_refl _, by rw [heap_alloc_new], by decide, by decide, by rfl, rfl⟩⟩
end Go.Proofs.YtcdbikfnlggbnaaGreatDoor
namespace Go.Proofs.YtcdbikfnlggbnaaGreatDoor
open Go.Vc
theorem serves8_ok {op : Int} {w : World} : callD Tryz.prog 68 #[i64 op] w fun r w' => r = i64 (serves op) ∧ w' = w := by
  apply F68_wp
  unfold F68_den
  refine ⟨fun v w' => v = .bool (decide (op = 27 ∨ op = 28)) ∧ w' = w, ?_, ?_⟩
  · refine V_eqlI.2 (ifD_dec (fun h => ?_) fun h => V_eqlI.2 ?_) <;> exact ⟨by simp [h], rfl⟩
  rintro _ w1 ⟨rfl, rfl⟩ _
  refine ifD_dec (fun h => ⟨by simp [serves, h], rfl⟩) fun h1 => ?_
  refine ⟨fun v w' => v = .bool (decide (op = 17 ∨ op = 18 ∨ op = 29)) ∧ w' = w1, ?_, ?_⟩
  · refine V_eqlI.2 (ifD_dec (fun h => ?_) fun h => V_eqlI.2 (ifD_dec (fun h' => ?_) fun h' => V_eqlI.2 ?_))
    · exact ⟨by simp [h], rfl⟩
    · exact ⟨by simp [h'], rfl⟩
    · exact ⟨by simp [h, h'], rfl⟩
  rintro _ w2 ⟨rfl, rfl⟩ _
  refine ifD_dec (fun h => ⟨by simp [serves, h1, h], rfl⟩) fun h2 => ?_
  refine ⟨fun v w' => v = .bool (decide (op = 30 ∨ op = 36)) ∧ w' = w2, ?_, ?_⟩
  · refine V_eqlI.2 (ifD_dec (fun h => ?_) fun h => V_eqlI.2 ?_) <;> exact ⟨by simp [h], rfl⟩
  rintro _ w3 ⟨rfl, rfl⟩ _
  refine ifD_dec (fun h => ⟨by simp [serves, h1, h2, h], rfl⟩) fun h3 => ?_
  refine V_eqlI.2 (ifD_dec (fun h => ?_) fun h => ?_)
  · exact ifD_dec (fun _ => ⟨by subst h; rfl, rfl⟩) fun h' => absurd h h'
  refine V_eqlI.2 (ifD_dec (fun h' => ?_) fun h' => ?_)
  · exact ⟨by subst h'; rfl, rfl⟩
  · exact ⟨by simp [serves, h1, h2, h3, h, h'], rfl⟩


def GNode.wr : GNode → Int
  | .const _ _ | .move _ _ | .bin _ _ _ _ | .un _ _ _ | .choose _ _ _ _ | .getField _ _ => 1
  | .serve _ _ _ _ _ | .call _ _ _ | .callX _ _ _ => 0
  | _ => -1
theorem writes_ok {g : GNode} {v : Value} {w : World} (h : PlainIs w v g) : callD Tryz.prog 78 #[v] w fun r w' => r = i64 g.wr ∧ Ext w w' := by
  obtain ⟨m, sv, rfl, hs⟩ := h
  apply F78_wp
  unfold F78_den
  refine bx fun b w1 hb x1 => ?_
  refine ldB hb fa_92_0 l1_3 rfl ?_
  refine ⟨fun v w' => v = .bool (decide (g.wr = 1)) ∧ w' = w1, ?_, ?_⟩
  · cases g <;> (simp only [GNode.pk, V_eqlI, Int.reduceEq, decide_true, decide_false, ifD_true, ifD_false]; first | exact ⟨rfl, rfl⟩ | simp [GNode.wr])
  · rintro _ w2 ⟨rfl, rfl⟩ _
    cases g <;> (simp only [GNode.wr, GNode.pk, V_eqlI, Int.reduceEq, Int.reduceNeg, decide_true, decide_false, ifD_true, ifD_false]; first | exact ⟨rfl, x1⟩ | exact ⟨trivial, x1⟩)
end Go.Proofs.YtcdbikfnlggbnaaGreatDoor
namespace Go.Proofs.YtcdbikfnlggbnaaGreatDoor
open Go.Vc
/-- A program of plain nodes, as a value. -/
def PProgIs (w : World) (v : Value) (params regs : Int) (gs : List GNode) : Prop := ∃ ns cs, v = .agg #[i64 params, i64 regs, ns] ∧ SliceIs w ns 8 gs.length cs ∧ ∀ (i : Nat) g, gs[i]? = some g → ∃ m sv, (cs.drop (i * 8)).take 8 = g.pcs m sv ∧ IntsAre w sv g.us
end Go.Proofs.YtcdbikfnlggbnaaGreatDoor
namespace Go.Vc
open Go.Proofs
section
variable {P : Program} {w : World}
theorem Blk.grown {w w' : World} {g : Nat} {cs : List Value} {e : TypeId} {row : Option Nat} (h : Blk w g cs e) (hg : w.grownBy w' row) (hne : row ≠ some g) : Blk w' g cs e := by
  have := hg.block g h.lt (fun he => hne he.symm)
  unfold Blk at h ⊢
  rw [this]; exact h
theorem own_ty {w : World} {B B' e e' s s' n n' : Nat} {v v' : Value} {xs xs' : List Value} (h : w.ownsRow B e s v n xs) (h' : w.ownsRow B' e' s' v' n' xs') (hne : e ≠ e') : v.ownBlock = none ∨ v.ownBlock ≠ v'.ownBlock := by
  rcases h.2 with ⟨rfl, _⟩ | ⟨g, cap, cur, rfl, _, h1, _⟩
  · exact .inl rfl
  · refine .inr ?_
    rcases h'.2 with ⟨rfl, _⟩ | ⟨g', cap', cur', rfl, _, h2, _⟩
    · simp [Value.ownBlock]
    · simp only [Value.ownBlock, ne_eq, Option.some.injEq]
      rintro rfl
      rw [h1] at h2
      cases h2
      exact hne rfl
theorem own_blk {w : World} {B e s n g : Nat} {v : Value} {xs : List Value} (h : w.ownsRow B e s v n xs) (hg : g < B) : v.ownBlock ≠ some g := fun he => by have := (h.lt g he).1; omega
theorem set_grown {w : World} {g o : Nat} {u : Value} : w.grownBy (w.setCell ⟨g, o, none⟩ u) (some g) := ⟨rfl, rfl, rfl, by simp, fun _ _ hne => heap_setCell_other _ _ _ _ (fun he => hne (by simp [he]))⟩
theorem own_set {w : World} {B e s n g o : Nat} {v u : Value} {xs : List Value} (h : w.ownsRow B e s v n xs) (hg : g < B) : (w.setCell ⟨g, o, none⟩ u).ownsRow B e s v n xs :=
  h.kept set_grown (.inr (own_blk h hg))
theorem el_old {cs l : List Value} {i j sz : Nat} (hl : cs.length = i * sz) (hj : j < i) : ((cs ++ l).drop (j * sz)).take sz = (cs.drop (j * sz)).take sz := by
  have h1 : (j + 1) * sz ≤ i * sz := Nat.mul_le_mul_right sz hj
  rw [Nat.add_mul, Nat.one_mul] at h1
  rw [List.drop_append_of_le_length (by omega), List.take_append_of_le_length (by rw [List.length_drop]; omega)]
theorem el_new {cs l : List Value} {i sz : Nat} (hl : cs.length = i * sz) (h2 : l.length = sz) : ((cs ++ l).drop (i * sz)).take sz = l := by
  rw [← hl, List.drop_left, ← h2, List.take_length]
end
end Go.Vc
namespace Go.Proofs.YtcdbikfnlggbnaaGreatDoor
open Go.Vc
theorem own1' {w : World} {B e s n : Nat} {v : Value} {xs : List Value} (h : w.ownsRow B e s v n xs) : oneC v = true := by
  obtain ⟨a, c, rfl⟩ := (SliceIs.of_own h).shape; rfl
/-- The rows so far. -/
def El (p : GProg) (w0 w : World) (B i : Nat) (cs : List Value) : Prop := ∀ j, j < i → ∃ g m sv, p.nodes[j]? = some g ∧ (cs.drop (j * 8)).take 8 = g.pcs m sv ∧ (IntsAre w0 sv g.us ∨ w.ownsRow B 3 1 sv g.us.length (g.us.map i64))
set_option maxHeartbeats 2000000 in
theorem plainProg_ok {p : GProg} {pv : Value} {w : World} (hp : ProgIs w pv p) (hl : p.nodes.length ≤ 1000) : callD Tryz.prog 17 #[pv] w fun r w' => PProgIs w' r p.params p.regs p.nodes ∧ Ext w w' := by
  obtain ⟨ns, rfl, ⟨vs, hs, hvs⟩, _⟩ := hp
  apply F17_wp
  unfold F17_den
  refine bxK fun w1 h1 x1 => ?_
  refine alK inf56 fun w2 h2 x2 => ?_
  have h12 : Blk w2 w.heap.size [i64 p.params, i64 p.regs, ns] 38 := h1.ext x2
  refine ldB h12.boxed fa_38_0 l1_3 rfl ?_
  refine ldB h12.boxed fa_38_1 l1_3 rfl ?_
  refine bld bd_56 [(0, i64 p.params), (1, i64 p.regs)] rfl rfl ?_
  refine asK sa_56 rfl rfl fun w3 h3 x3 => ?_
  obtain ⟨na, nc, rfl⟩ := hs.shape
  have l1 := h1.lt
  have l2 := h2.lt
  have X3 := (x1.trans x2).trans x3
  refine ⟨fun v w' => ∃ (i : Nat) (nv : Value) (cs : List Value), v = i64 i ∧ i ≤ p.nodes.length ∧ Ext w w' ∧ w2.heap.size < w'.heap.size ∧ Blk w' w.heap.size [i64 p.params, i64 p.regs, .slice na p.nodes.length nc] 38 ∧ Blk w' w1.heap.size [i64 0, i64 0, .slice none 0 0] 56 ∧
      Blk w' w2.heap.size [i64 p.params, i64 p.regs, nv] 56 ∧ w'.ownsRow (w2.heap.size + 1) 92 8 nv i cs ∧ El p w w' (w2.heap.size + 1) i cs, fun v _ => p.nodes.length - (RowKit.intOf v).toNat,
    ⟨0, .slice none 0 0, [], rfl, Nat.zero_le _, X3, h3.lt, h12.ext x3, h2.ext x3, h3, World.ownsRow_nil _ _ _ _, fun j hj => by omega⟩, ?_⟩
  rintro _ w4 ⟨i, nv, cs, rfl, hi, X4, hsz, k1, k2, k3, ho, hel⟩ _
  refine ldB k1.boxed fa_38_2 l1_36 rfl ?_
  refine V_ln_36.2 (V_lss.2 (ifD_dec (fun hlt => ?_) fun hge => ?_))
  · have hi' : i < p.nodes.length := by omega
    obtain ⟨g, hg⟩ := ex_get hi'
    obtain ⟨u, hu, hnu⟩ := hvs i g hg
    have D4 : Ext w4 w4.drew := (Ext.refl _).drew
    refine drawD.mk' (fun w' => Ext w w' ∧ Blk w' w.heap.size [i64 p.params, i64 p.regs, .slice na p.nodes.length nc] 38 ∧ Blk w' w2.heap.size [i64 p.params, i64 p.regs, nv] 56) ⟨X4.trans D4, k1.ext D4, k3.ext D4⟩ ?_
    refine yfB (fun w' hw => hw.2.2.boxed) fa_56_2 l1_54 rfl ?_
    refine yfB (fun w' hw => hw.2.1.boxed) fa_38_2 l1_36 rfl ?_
    refine ySl xa_36 l1_52 hs (fun _ h => h.1) (by omega) (by omega) (by simpa using hu) ?_
    refine (plainO_ok (hnu.ext (X4.trans D4))).mono fun r w5 ⟨⟨m, sv, hr, hsv⟩, x5⟩ => ?_
    subst hr
    have D5 := D4.trans x5
    refine ⟨⟨X4.trans D5, k1.ext D5, k3.ext D5⟩, ?_⟩
    have hsvc : oneC sv = true := by
      rcases hsv with h | h
      · exact shape_ints (h _ hnu)
      · exact own1 h
    refine bs83 hsvc fun w6 ho6 x6 => ?_
    have D6 := D5.trans x6
    refine ⟨⟨X4.trans D6, k1.ext D6, k3.ext D6⟩, ?_⟩
    have hoo := D6.own ho
    have hs6 := D6.size
    refine apA Tryz.underlying54 inf92 rfl (by decide) hoo (SliceIs.of_own ho6) (by simp only [GNode.pcs, List.all_cons, List.all_nil, hsvc, Bool.and_true]; rfl) (by omega) (by unfold maxLen; omega) (by omega) fun nv' w7 ho7 hg7 => ?_
    have hrow : ∀ k, nv.ownBlock = some k → w2.heap.size + 1 ≤ k := fun k hk => (hoo.lt k hk).1
    have X7 : Ext w w7 := (X4.trans D6).grown hg7 fun k hk => by have := hrow k hk; omega
    have k1' := (k1.ext D6).grown hg7 (own_blk hoo (by omega))
    have k2' := (k2.ext D6).grown hg7 (own_blk hoo (by omega))
    have k3' := (k3.ext D6).grown hg7 (own_blk hoo (by omega))
    refine ⟨⟨X7, k1', k3'⟩, ?_⟩
    refine yieldS.ok (fun w' _ => r_fd_56_2) ?_
    refine U.ok (r_store inf54 (own1' ho7) (by rw [Nat.zero_add, k3'.cell]; rfl) (by rw [Nat.zero_add]; exact k3'.frozen 2)) ?_
    refine V_add.2 ?_
    rw [wrap_id (by omega) (by omega), i64_succ, Nat.zero_add]
    refine ⟨⟨i + 1, nv', cs ++ g.pcs m sv, rfl, by omega, X7.setCell (by omega) _, by have := hg7.size; rw [show (w7.setCell ⟨w2.heap.size, 2, none⟩ nv').heap.size = w7.heap.size by simp]; omega, k1'.other (by omega), k2'.other (by omega), k3'.set 2 nv', own_set ho7 (by omega), fun j hj => ?_⟩, by simp only [intOf_i64]; omega⟩
    have hcl : cs.length = i * 8 := ho.1
    by_cases hji : j = i
    · subst hji
      refine ⟨g, m, sv, hg, el_new hcl rfl, ?_⟩
      rcases hsv with h | h
      · exact .inl (h _ hnu)
      · have h6 := own_mono (x6.own h) (show w2.heap.size + 1 ≤ w4.drew.heap.size by have := D4.size; omega)
        exact .inr (own_set (h6.kept hg7 (own_ty h6 hoo (by decide))) (by omega))
    · obtain ⟨g', m', sv', e1, e2, e3⟩ := hel j (by omega)
      refine ⟨g', m', sv', e1, (el_old hcl (by omega)).trans e2, e3.imp id fun h => ?_⟩
      exact own_set ((D6.own h).kept hg7 (own_ty (D6.own h) hoo (by decide))) (by omega)
  · refine ldA k3.boxed la_56 rfl ?_
    refine stA inf56 k2 (l := [i64 p.params, i64 p.regs, nv]) rfl rfl rfl (by have := own1' ho; simp only [List.all_cons, List.all_nil, this, Bool.and_true]; rfl) fun w' h2' hc => ?_
    have hin : i = p.nodes.length := by omega
    subst hin
    have X' := hc.ext _ X4 (by omega)
    refine ⟨_, r_var Tryz.underlying56 rfl inf56 h2' rfl, ⟨_, rfl⟩, ⟨nv, cs, rfl, SliceIs.of_own (hc.ownRow ho (by omega)), fun j g hg => ?_⟩, X'⟩
    obtain ⟨g', m', sv', e1, e2, e3⟩ := hel j (List.getElem?_eq_some_iff.1 hg).1
    rw [hg] at e1
    cases e1
    refine ⟨m', sv', e2, ?_⟩
    rcases e3 with h | h
    · exact h.ext X'
    · exact SliceIs.of_own (hc.ownRow h (by omega))
end Go.Proofs.YtcdbikfnlggbnaaGreatDoor
namespace Go.Proofs.YtcdbikfnlggbnaaGreatDoor
open Go.Vc
theorem wr_df {g : GNode} (h : g.wr < 0) : g.df = -1 := by cases g <;> simp_all [GNode.wr, GNode.df]
theorem def36_ok {g : GNode} {v : Value} {w : World} (h : PlainIs w v g) : callD Tryz.prog 44 #[v] w fun r w' => r = i64 g.df ∧ Ext w w' := by
  have h0 := h
  obtain ⟨m, sv, rfl, hs⟩ := h
  apply F44_wp
  unfold F44_den
  refine bx fun b w1 hb x1 => ?_
  refine ldA hb la_92 rfl ?_
  refine (writes_ok (h0.ext x1)).mono fun r w2 ⟨hr, x2⟩ => ?_
  subst hr
  refine V_lss.2 (ifD_dec (fun hlt => ?_) fun hge => ?_)
  · exact ⟨by rw [wr_df hlt], x1.trans x2⟩
  · refine ldB (hb.ext x2) fa_92_1 l1_3 rfl ?_
    exact ⟨rfl, x1.trans x2⟩
end Go.Proofs.YtcdbikfnlggbnaaGreatDoor
namespace Go.Vc
section
variable {P : Program} {w : World} {S : World → Prop} {L : Value → Prop}
theorem yldxA {t x : TypeId} {v : Value} {n sz : Nat} {cs l : List Value} {k : IntKind} {i : Int} (h : XA P t sz) (ht : ∃ d z by_, P.underlying x = some d ∧ aggB d = true ∧ Inf P x z sz by_) (hs : SliceIs w v sz n cs) (hx : ∀ w', S w' → Ext w w') (h0 : 0 ≤ i) (h1 : i < n)
    (hc : (cs.drop (i.toNat * sz)).take sz = l) (hl : l.length = sz) (hk : L (.agg l.toArray)) :
    yieldS P S (Instr.indexAt t v (.int k i)) fun p => yieldS P S (Instr.loadAt x p) L := by
  obtain ⟨e, z, b', hte, hi⟩ := h
  obtain ⟨d, z', by_, h2, h3, h4⟩ := ht
  obtain ⟨b, off, cap, rfl, hcell⟩ := hs.there (by omega)
  refine yieldS.ok (fun w' _ => r_index hte hi h0 h1) (yieldS.ok (fun w' hw => r_loadAgg h2 h3 h4 hl fun j hj => ?_) hk)
  obtain ⟨u, hu⟩ : ∃ u, l[j]? = some u := ⟨_, List.getElem?_eq_getElem hj⟩
  rw [hu, Nat.add_assoc]
  refine (hx w' hw).cell (hcell _ u ?_)
  rw [← hc, List.getElem?_take, List.getElem?_drop] at hu
  split at hu
  · exact hu
  · cases hu
end
end Go.Vc
namespace Go.Proofs.YtcdbikfnlggbnaaGreatDoor
open Go.Vc Go.Tc
variable {w : World} {K : Value → World → Prop}
theorem S66 {k : Int} (h : -1000 ≤ k ∧ k ≤ 1000) (hk : K (i64 (10 + k)) w) : callD Tryz.prog 66 #[i64 k] w K := by
  apply F66_wp
  unfold F66_den
  refine V_add.2 ?_
  rw [wrap_id (by omega) (by omega)]
  exact hk
theorem takes65 {p : ImgV} {i : Img} {k : Nat} {x : Ins} (h : ImgAt w p i) (hk : k < i.methods.length) (hx : Okx i (i.meth k) x) (hK : ∀ w', Ext w w' → K (i64 (asked i (i.meth k) x).length) w') :
    callD Tryz.prog 65 #[p.val i, i64 k, .agg #[i64 x.op, i64 x.a, i64 x.b]] w K := by
  have hm := meth_get (i := i) (a := (k : Int)) (by omega) (by omega)
  rw [Int.toNat_natCast] at hm
  apply F65_wp
  unfold F65_den ImgV.val
  refine bx fun b1 w1 hb1 x1 => bx fun b2 w2 hb2 x2 => ?_
  have hb1 : Boxed w2 b1 [.string i.name, p.fv, p.iv, p.mv, p.xv] := hb1.ext x2
  have hb2 : Boxed w2 b2 [i64 x.op, i64 x.a, i64 x.b] := hb2
  have x02 := x1.trans x2
  have D : Ext w2 w2.drew := (Ext.refl _).drew
  refine drawD.mk' (fun w' => Ext w2 w') D ?_
  refine yA (fun w' hw => hb1.ext hw) la_27 rfl ?_
  refine yfB (fun w' hw => hb1.ext hw) fa_27_3 l1_25 rfl ?_
  refine ySS xa_25 la_47 (h.ext x02).mt (fun _ h => h) hm mth_len fun row hrow => ?_
  refine yA (fun w' hw => hb2.ext hw) la_71 rfl ?_
  exact takes92 ((h.ext x02).ext D) (hrow.ext D) hx fun w4 x4 => ⟨D.trans x4, hK _ ((x02.trans D).trans x4)⟩
theorem gives67 {p : ImgV} {i : Img} {m : Mth} {x : Ins} (h : ImgAt w p i) (hx : Okx i m x) (hK : ∀ w', Ext w w' → K (i64 (hgt i m x)) w') :
    callD Tryz.prog 67 #[p.val i, .agg #[i64 x.op, i64 x.a, i64 x.b]] w K := by
  apply F67_wp
  unfold F67_den ImgV.val
  refine bx fun b1 w1 hb1 x1 => bx fun b2 w2 hb2 x2 => ?_
  refine ldA (hb1.ext x2) la_27 rfl (ldA hb2 la_71 rfl ?_)
  have x02 := x1.trans x2
  exact count93 (p := p) (h.ext x02) hx fun w4 x4 => hK _ (x02.trans x4)
def dstP (i : Img) (m : Mth) (x : Ins) (h : Nat) : Int := if 0 < hgt i m x then 10 + ((h : Int) - ((asked i m x).length : Nat)) else -1
theorem row1 {h : Nat} (hh : 1 ≤ h) : rowP h 1 = [10 + ((h : Int) - 1)] := by simp [rowP]; omega
theorem row2 {h : Nat} (hh : 2 ≤ h) : rowP h 2 = [10 + ((h : Int) - 2), 10 + ((h : Int) - 1)] := by simp [rowP, List.range_succ]; omega
theorem row3 {h : Nat} (hh : 3 ≤ h) : rowP h 3 = [10 + ((h : Int) - 3), 10 + ((h : Int) - 2), 10 + ((h : Int) - 1)] := by simp [rowP, List.range_succ]; omega
theorem ww (a : Int) (h1 : -2147483648 ≤ a) (h2 : a ≤ 2147483647) : IntKind.i64.wrap (IntKind.i32.wrap a) = a := by
  have e : IntKind.i32.wrap a = a := by simp only [IntKind.wrap_i32]; omega
  rw [e, wrap_id (by omega) (by omega)]
theorem dst_of {i : Img} {m : Mth} {x : Ins} {h : Nat} {r : Int} {q : Nat} (h1 : hgt i m x = (resL r).length) (h2 : (asked i m x).length = q) : dstP i m x h = resP r ((h : Int) - (q : Nat)) := by
  unfold dstP resP
  rw [h1, h2]
  unfold resL
  by_cases h0 : r = 0
  · rw [if_pos h0, if_pos h0]; rfl
  · rw [if_neg h0, if_neg h0]; rfl
theorem ret_row {r : Int} {h j : Nat} (h1 : (resL r).length = j) (h2 : j ≤ h) : rowP h j = (GNode.ret (resP r ((h : Int) - 1))).us := by
  unfold resL at h1
  unfold resP GNode.us
  by_cases h0 : r = 0
  · rw [if_pos h0] at h1; subst h1
    rw [if_pos h0]; rfl
  · rw [if_neg h0] at h1
    obtain rfl : 1 = j := h1
    rw [if_neg h0, row1 h2]
    show _ = if (10 + ((h : Int) - 1)) = -1 then [] else [10 + ((h : Int) - 1)]
    rw [if_neg (by omega)]
set_option maxHeartbeats 8000000 in
theorem node34 {p : ImgV} {i : Img} {k : Nat} {x : Ins} {h : Nat} {n : GNode} {tv : Value} {T : List Int} (hA : ImgAt w p i) (hk : k < i.methods.length) (hx : Okx i (i.meth k) x) (hh : h ≤ 8) (ha : (asked i (i.meth k) x).length ≤ h) (hn : liftN i (i.meth k) x h = some n) (hT : IntsAre w tv T) (haim : aimOk T n)
    (hK : ∀ sv w', w'.ownsRow w.heap.size 3 1 sv (aimN T n).us.length ((aimN T n).us.map i64) → Ext w w' → K (.agg ((aimN T n).pcs 0 sv).toArray) w') :
    callD Tryz.prog 34 #[p.val i, i64 k, .agg #[i64 x.op, i64 x.a, i64 x.b], i64 h, tv] w K := by
  apply F34_wp
  unfold F34_den ImgV.val
  refine bx fun b5 w1 hb5 x1 => bx fun b7 w2 hb7 x2 => alK inf92 fun w3 hB x3 => ?_
  have hb5 : Boxed w3 b5 [.string i.name, p.fv, p.iv, p.mv, p.xv] := (hb5.ext x2).ext x3
  have hb7 : Boxed w3 b7 [i64 x.op, i64 x.a, i64 x.b] := hb7.ext x3
  have hB : Blk w3 w2.heap.size [i64 0, i64 0, i64 0, i64 0, i64 0, i64 0, i64 0, nilS] 92 := hB
  have x02 := x1.trans x2
  have x03 := x02.trans x3
  have hg0 : w.heap.size ≤ w2.heap.size := x02.size
  have hg3 := hB.lt
  generalize w2.heap.size = g at hB hg0 hg3
  refine ldA hb5 la_27 rfl (ldA hb7 la_71 rfl ?_)
  refine takes65 (hA.ext x03) hk hx fun w4 x4 => ?_
  have x04 := x03.trans x4
  generalize hna : (asked i (i.meth k) x).length = na at ha
  refine ⟨fun t v w' => ∃ j : Nat, v = i64 j ∧ j ≤ na ∧ Ext w3 w' ∧ w'.ownsRow w3.heap.size 3 1 t j (((rowP h na).take j).map i64), fun _ v _ => na - (RowKit.intOf v).toNat, ⟨0, rfl, Nat.zero_le _, x4, World.ownsRow_nil _ _ _ _⟩, ?_⟩
  rintro t12 _ w5 ⟨j, rfl, hj, x5, ho⟩ _
  refine V_lss.2 (ifD_dec (fun hlt => ?_) fun hge => ?_)
  · refine V_sub.2 (V_add.2 ?_)
    rw [wrap_id (n := (h : Int) - (na : Nat)) (by omega) (by omega), wrap_id (by omega) (by omega)]
    refine S66 (by omega) ?_
    refine bsl xe_23 [i64 (10 + ((h : Int) - (na : Nat) + (j : Nat)))] rfl rfl (by simp) rfl fun v6 w6 ho6 x6 => ?_
    refine apO xe_23 (x6.own ho) (SliceIs.of_own ho6) rfl (by omega) (by unfold maxLen; omega) (x5.trans x6).size fun v7 w7 ho7 hg7 => ?_
    refine V_add.2 ?_
    rw [wrap_id (by omega) (by omega), i64_succ]
    refine ⟨⟨j + 1, rfl, by omega, (x5.trans x6).grown hg7 fun q hq => ((x6.own ho).lt q hq).1, ?_⟩, by simp only [intOf_i64]; omega⟩
    rw [rowP_snoc (by omega), List.map_append]
    have e : (10 + ((h : Int) - (na : Nat) + (j : Nat))) = 10 + ((h - na + j : Nat) : Int) := by omega
    rw [e] at ho7
    exact ho7
  have hjn : j = na := by omega
  subst hjn
  rw [List.take_of_length_le (by rw [rowP_len]; omega)] at ho
  -- where the answer goes
  refine ⟨fun v w' => v = i64 (dstP i (i.meth k) x h) ∧ Ext w5 w', ?_, ?_⟩
  · refine ldA (hb5.ext x5) la_27 rfl (ldA (hb7.ext x5) la_71 rfl ?_)
    refine gives67 (hA.ext (x03.trans x5)) hx fun w6 x6 => V_gtr.2 (ifD_dec (fun hp => ?_) fun hp => ?_)
    · refine V_sub.2 ?_
      rw [wrap_id (by omega) (by omega)]
      refine S66 (by omega) ⟨?_, x6⟩
      unfold dstP
      rw [if_pos (by omega), hna]
    · refine ⟨?_, x6⟩
      unfold dstP
      rw [if_neg (by omega)]
  rintro _ w6 ⟨rfl, x6⟩ _
  have x36 := x5.trans x6
  have X := x03.trans x36
  have hb7 := hb7.ext x36
  have hB := hB.ext x36
  have ho := x6.own ho
  have hT := hT.ext X
  have s36 := x36.size
  clear hb5 x1 x2 x3 x4 x04 x02 hA
  refine ldB hb7 fa_71_0 l1_3 rfl ?_
  -- the end of each arm
  have fin : ∀ {w' : World} {c : List Value} {sv : Value} {g' : GNode}, Ext w6 w' → w'.ownsRow w3.heap.size 3 1 sv g'.us.length (g'.us.map i64) → aimN T n = g' → c = g'.pcs 0 sv → U Tryz.prog (Instr.storeAt 92 (.pointer (some ⟨g, 0, none⟩)) (.agg c.toArray)) w' fun _ w7 =>
      ∃ r1, (loadVar 92 (match (Value.pointer (some ⟨g, 0, none⟩)) with | .pointer (some p) => p | _ => ⟨0, 0, none⟩)).run Tryz.prog w7 = .ok r1 w7 ∧ (∃ p, (Value.pointer (some ⟨g, 0, none⟩)) = Value.pointer (some p)) ∧ K r1 w7 := by
    intro w' c sv g' hx' hs he hc
    subst hc
    have hone : (g'.pcs 0 sv).all oneC = true := by simp [GNode.pcs, one_i, own_one hs]
    refine stA inf92 (hB.ext hx') (l := g'.pcs 0 sv) rfl rfl rfl hone fun w7 h7 hc => ?_
    refine ⟨_, r_var Tryz.underlying92 rfl inf92 h7 rfl, ⟨_, rfl⟩, ?_⟩
    subst he
    refine hK sv w7 (own_mono ((chg_fr hc).own hs fun q hq hS => ?_) (by omega)) (hc.ext _ (X.trans hx') hg0)
    have := (hs.lt q hq).1
    have hS : q = g := hS
    omega
  have nil0 : ∀ {w' : World}, w'.ownsRow w3.heap.size 3 1 nilS 0 [] := World.ownsRow_nil _ _ _ _
  have D : Ext w6 w6.drew := (Ext.refl _).drew
  obtain ⟨op, a, b⟩ := x
  obtain ⟨ir, mr, ⟨hop, a1, a2, _⟩, hnm⟩ := hx
  have hop : 1 ≤ op ∧ op ≤ 39 := hop
  have hb7 : Boxed w6 b7 [i64 op, i64 a, i64 b] := hb7
  have own : ∀ {l : List Int}, rowP h j = l → w6.ownsRow w3.heap.size 3 1 t12 l.length (l.map i64) := fun {l} e => by subst e; rw [rowP_len]; exact ho
  rcases op39 hop with rfl | rfl | rfl | rfl | rfl | rfl | rfl | rfl | rfl | rfl | rfl | rfl | rfl | rfl | rfl | rfl | rfl | rfl | rfl | rfl | rfl | rfl | rfl | rfl | rfl | rfl | rfl | rfl | rfl | rfl | rfl | rfl | rfl | rfl | rfl | rfl | rfl | rfl | rfl
  · have hn : some (GNode.const (10 + (h : Int)) (IntKind.i32.wrap a)) = some n := hn
    cases hn
    simp only [evL, Int.reduceEq, Int.reduceNeg, decide_true, decide_false]
    intros
    refine drawD.mk' (fun w' => Ext w6 w') D ?_
    refine yfB (fun w' hw => hb7.ext hw) fa_71_1 l1_3 rfl ?_
    refine S66 (by omega) ⟨D, ?_⟩
    refine yBld bd_92 [(0, i64 1), (1, i64 (10 + (h : Int))), (3, i64 a)] rfl rfl ?_
    exact fin (sv := nilS) (g' := .const (10 + (h : Int)) (IntKind.i32.wrap a)) D nil0 rfl (by simp only [GNode.pcs, GNode.pN, ww a a1 a2]; rfl)
  · have hn : some (GNode.move (10 + (h : Int)) a) = some n := hn
    cases hn
    simp only [evL, Int.reduceEq, Int.reduceNeg, decide_true, decide_false]
    intros
    refine ⟨fun w7 => ∃ sv w', Ext w6 w' ∧ w'.ownsRow w3.heap.size 3 1 sv 1 [i64 a] ∧ Blk w7 g (GNode.pcs (.move (10 + (h : Int)) a) 0 sv) 92 ∧ Chg w' g w7, ?_, ?_⟩
    · refine drawD.mk' (fun w' => Ext w6 w') D ?_
      refine yfB (fun w' hw => hb7.ext hw) fa_71_1 l1_3 rfl ?_
      refine ⟨?_, ?_⟩
      · refine S66 (by omega) ⟨D, ?_⟩
        refine bsl xe_23 [i64 a] rfl rfl (by simp) rfl fun v8 w8 ho8 x8 => ⟨D.trans x8, ?_⟩
        refine yBld bd_92 [(0, i64 2), (1, i64 (10 + (h : Int))), (7, v8)] rfl (by simp [own_one ho8, one_i]) ?_
        exact stA inf92 (hB.ext (D.trans x8)) (l := GNode.pcs (.move (10 + (h : Int)) a) 0 v8) rfl rfl rfl (by simp [GNode.pcs, one_i, own_one ho8]) fun w9 h9 hc => ⟨v8, w8, D.trans x8, own_mono ho8 (by have := D.size; omega), h9, hc⟩
      · refine bsl xe_23 [i64 a] rfl rfl (by simp) rfl fun v8 w8 ho8 x8 => ⟨D.trans x8, ?_⟩
        refine S66 (by omega) ⟨D.trans x8, ?_⟩
        refine yBld bd_92 [(0, i64 2), (1, i64 (10 + (h : Int))), (7, v8)] rfl (by simp [own_one ho8, one_i]) ?_
        exact stA inf92 (hB.ext (D.trans x8)) (l := GNode.pcs (.move (10 + (h : Int)) a) 0 v8) rfl rfl rfl (by simp [GNode.pcs, one_i, own_one ho8]) fun w9 h9 hc => ⟨v8, w8, D.trans x8, own_mono ho8 (by have := D.size; omega), h9, hc⟩
    · rintro w7 ⟨sv, w', hx', hs, h7, hc⟩ _
      refine ⟨_, r_var Tryz.underlying92 rfl inf92 h7 rfl, ⟨_, rfl⟩, ?_⟩
      refine hK sv w7 (own_mono ((chg_fr hc).own hs fun q hq hS => ?_) (by omega)) (hc.ext _ (X.trans hx') hg0)
      have := (hs.lt q hq).1
      have hS : q = g := hS
      omega
  · obtain rfl : 1 = j := hna
    have ha : 1 ≤ h := ha
    have hn : some (GNode.move a (10 + ((h : Int) - 1))) = some n := hn
    cases hn
    simp only [evL, Int.reduceEq, Int.reduceNeg, decide_true, decide_false]
    intros
    refine ldB hb7 fa_71_1 l1_3 rfl ?_
    obtain ⟨sa, sc, rfl⟩ := (SliceIs.of_own ho).shape
    refine bld bd_92 [(0, i64 2), (1, i64 a), (7, _)] rfl rfl ?_
    exact fin (g' := .move a (10 + ((h : Int) - 1))) (Ext.refl _) (own (row1 ha)) rfl rfl
  · cases (hn : none = some n)
  · obtain rfl : 1 = j := hna
    have ha : 1 ≤ h := ha
    have hn : some (GNode.move (10 + (h : Int)) (10 + ((h : Int) - 1))) = some n := hn
    cases hn
    simp only [evL, Int.reduceEq, Int.reduceNeg, decide_true, decide_false]
    intros
    refine S66 (by omega) ?_
    obtain ⟨sa, sc, rfl⟩ := (SliceIs.of_own ho).shape
    refine bld bd_92 [(0, i64 2), (1, i64 (10 + (h : Int))), (7, _)] rfl rfl ?_
    exact fin (g' := .move (10 + (h : Int)) (10 + ((h : Int) - 1))) (Ext.refl _) (own (row1 ha)) rfl rfl
  · obtain rfl : 2 = j := hna
    have ha : 2 ≤ h := ha
    have hn : some (GNode.bin 6 (10 + ((h : Int) - 2)) (10 + ((h : Int) - 2)) (10 + ((h : Int) - 1))) = some n := hn
    cases hn
    simp only [evL, Int.reduceEq, Int.reduceNeg, decide_false]
    intros
    refine ldB hb7 fa_71_0 l1_3 rfl ?_
    refine serves8_ok.mono fun r8 w8 ⟨hr8, hw8⟩ => ?_
    subst hr8
    subst hw8
    refine V_geq.2 (ifD_false.2 ?_)
    refine ldB hb7 fa_71_0 l1_3 rfl ?_
    obtain ⟨sa, sc, rfl⟩ := (SliceIs.of_own ho).shape
    refine bld bd_92 [(0, i64 3), (2, i64 6), (1, i64 _), (7, _)] rfl rfl ?_
    exact fin (g' := GNode.bin 6 (10 + ((h : Int) - 2)) (10 + ((h : Int) - 2)) (10 + ((h : Int) - 1))) (Ext.refl _) (own (row2 ha)) rfl rfl
  · obtain rfl : 2 = j := hna
    have ha : 2 ≤ h := ha
    have hn : some (GNode.bin 7 (10 + ((h : Int) - 2)) (10 + ((h : Int) - 2)) (10 + ((h : Int) - 1))) = some n := hn
    cases hn
    simp only [evL, Int.reduceEq, Int.reduceNeg, decide_false]
    intros
    refine ldB hb7 fa_71_0 l1_3 rfl ?_
    refine serves8_ok.mono fun r8 w8 ⟨hr8, hw8⟩ => ?_
    subst hr8
    subst hw8
    refine V_geq.2 (ifD_false.2 ?_)
    refine ldB hb7 fa_71_0 l1_3 rfl ?_
    obtain ⟨sa, sc, rfl⟩ := (SliceIs.of_own ho).shape
    refine bld bd_92 [(0, i64 3), (2, i64 7), (1, i64 _), (7, _)] rfl rfl ?_
    exact fin (g' := GNode.bin 7 (10 + ((h : Int) - 2)) (10 + ((h : Int) - 2)) (10 + ((h : Int) - 1))) (Ext.refl _) (own (row2 ha)) rfl rfl
  · obtain rfl : 2 = j := hna
    have ha : 2 ≤ h := ha
    have hn : some (GNode.bin 8 (10 + ((h : Int) - 2)) (10 + ((h : Int) - 2)) (10 + ((h : Int) - 1))) = some n := hn
    cases hn
    simp only [evL, Int.reduceEq, Int.reduceNeg, decide_false]
    intros
    refine ldB hb7 fa_71_0 l1_3 rfl ?_
    refine serves8_ok.mono fun r8 w8 ⟨hr8, hw8⟩ => ?_
    subst hr8
    subst hw8
    refine V_geq.2 (ifD_false.2 ?_)
    refine ldB hb7 fa_71_0 l1_3 rfl ?_
    obtain ⟨sa, sc, rfl⟩ := (SliceIs.of_own ho).shape
    refine bld bd_92 [(0, i64 3), (2, i64 8), (1, i64 _), (7, _)] rfl rfl ?_
    exact fin (g' := GNode.bin 8 (10 + ((h : Int) - 2)) (10 + ((h : Int) - 2)) (10 + ((h : Int) - 1))) (Ext.refl _) (own (row2 ha)) rfl rfl
  · obtain rfl : 2 = j := hna
    have ha : 2 ≤ h := ha
    have hn : some (GNode.bin 9 (10 + ((h : Int) - 2)) (10 + ((h : Int) - 2)) (10 + ((h : Int) - 1))) = some n := hn
    cases hn
    simp only [evL, Int.reduceEq, Int.reduceNeg, decide_false]
    intros
    refine ldB hb7 fa_71_0 l1_3 rfl ?_
    refine serves8_ok.mono fun r8 w8 ⟨hr8, hw8⟩ => ?_
    subst hr8
    subst hw8
    refine V_geq.2 (ifD_false.2 ?_)
    refine ldB hb7 fa_71_0 l1_3 rfl ?_
    obtain ⟨sa, sc, rfl⟩ := (SliceIs.of_own ho).shape
    refine bld bd_92 [(0, i64 3), (2, i64 9), (1, i64 _), (7, _)] rfl rfl ?_
    exact fin (g' := GNode.bin 9 (10 + ((h : Int) - 2)) (10 + ((h : Int) - 2)) (10 + ((h : Int) - 1))) (Ext.refl _) (own (row2 ha)) rfl rfl
  · obtain rfl : 2 = j := hna
    have ha : 2 ≤ h := ha
    have hn : some (GNode.bin 10 (10 + ((h : Int) - 2)) (10 + ((h : Int) - 2)) (10 + ((h : Int) - 1))) = some n := hn
    cases hn
    simp only [evL, Int.reduceEq, Int.reduceNeg, decide_false]
    intros
    refine ldB hb7 fa_71_0 l1_3 rfl ?_
    refine serves8_ok.mono fun r8 w8 ⟨hr8, hw8⟩ => ?_
    subst hr8
    subst hw8
    refine V_geq.2 (ifD_false.2 ?_)
    refine ldB hb7 fa_71_0 l1_3 rfl ?_
    obtain ⟨sa, sc, rfl⟩ := (SliceIs.of_own ho).shape
    refine bld bd_92 [(0, i64 3), (2, i64 10), (1, i64 _), (7, _)] rfl rfl ?_
    exact fin (g' := GNode.bin 10 (10 + ((h : Int) - 2)) (10 + ((h : Int) - 2)) (10 + ((h : Int) - 1))) (Ext.refl _) (own (row2 ha)) rfl rfl
  · obtain rfl : 2 = j := hna
    have ha : 2 ≤ h := ha
    have hn : some (GNode.bin 11 (10 + ((h : Int) - 2)) (10 + ((h : Int) - 2)) (10 + ((h : Int) - 1))) = some n := hn
    cases hn
    simp only [evL, Int.reduceEq, Int.reduceNeg, decide_false]
    intros
    refine ldB hb7 fa_71_0 l1_3 rfl ?_
    refine serves8_ok.mono fun r8 w8 ⟨hr8, hw8⟩ => ?_
    subst hr8
    subst hw8
    refine V_geq.2 (ifD_false.2 ?_)
    refine ldB hb7 fa_71_0 l1_3 rfl ?_
    obtain ⟨sa, sc, rfl⟩ := (SliceIs.of_own ho).shape
    refine bld bd_92 [(0, i64 3), (2, i64 11), (1, i64 _), (7, _)] rfl rfl ?_
    exact fin (g' := GNode.bin 11 (10 + ((h : Int) - 2)) (10 + ((h : Int) - 2)) (10 + ((h : Int) - 1))) (Ext.refl _) (own (row2 ha)) rfl rfl
  · obtain rfl : 2 = j := hna
    have ha : 2 ≤ h := ha
    have hn : some (GNode.bin 12 (10 + ((h : Int) - 2)) (10 + ((h : Int) - 2)) (10 + ((h : Int) - 1))) = some n := hn
    cases hn
    simp only [evL, Int.reduceEq, Int.reduceNeg, decide_false]
    intros
    refine ldB hb7 fa_71_0 l1_3 rfl ?_
    refine serves8_ok.mono fun r8 w8 ⟨hr8, hw8⟩ => ?_
    subst hr8
    subst hw8
    refine V_geq.2 (ifD_false.2 ?_)
    refine ldB hb7 fa_71_0 l1_3 rfl ?_
    obtain ⟨sa, sc, rfl⟩ := (SliceIs.of_own ho).shape
    refine bld bd_92 [(0, i64 3), (2, i64 12), (1, i64 _), (7, _)] rfl rfl ?_
    exact fin (g' := GNode.bin 12 (10 + ((h : Int) - 2)) (10 + ((h : Int) - 2)) (10 + ((h : Int) - 1))) (Ext.refl _) (own (row2 ha)) rfl rfl
  · obtain rfl : 2 = j := hna
    have ha : 2 ≤ h := ha
    have hn : some (GNode.bin 13 (10 + ((h : Int) - 2)) (10 + ((h : Int) - 2)) (10 + ((h : Int) - 1))) = some n := hn
    cases hn
    simp only [evL, Int.reduceEq, Int.reduceNeg, decide_false]
    intros
    refine ldB hb7 fa_71_0 l1_3 rfl ?_
    refine serves8_ok.mono fun r8 w8 ⟨hr8, hw8⟩ => ?_
    subst hr8
    subst hw8
    refine V_geq.2 (ifD_false.2 ?_)
    refine ldB hb7 fa_71_0 l1_3 rfl ?_
    obtain ⟨sa, sc, rfl⟩ := (SliceIs.of_own ho).shape
    refine bld bd_92 [(0, i64 3), (2, i64 13), (1, i64 _), (7, _)] rfl rfl ?_
    exact fin (g' := GNode.bin 13 (10 + ((h : Int) - 2)) (10 + ((h : Int) - 2)) (10 + ((h : Int) - 1))) (Ext.refl _) (own (row2 ha)) rfl rfl
  · obtain rfl : 2 = j := hna
    have ha : 2 ≤ h := ha
    have hn : some (GNode.bin 14 (10 + ((h : Int) - 2)) (10 + ((h : Int) - 2)) (10 + ((h : Int) - 1))) = some n := hn
    cases hn
    simp only [evL, Int.reduceEq, Int.reduceNeg, decide_false]
    intros
    refine ldB hb7 fa_71_0 l1_3 rfl ?_
    refine serves8_ok.mono fun r8 w8 ⟨hr8, hw8⟩ => ?_
    subst hr8
    subst hw8
    refine V_geq.2 (ifD_false.2 ?_)
    refine ldB hb7 fa_71_0 l1_3 rfl ?_
    obtain ⟨sa, sc, rfl⟩ := (SliceIs.of_own ho).shape
    refine bld bd_92 [(0, i64 3), (2, i64 14), (1, i64 _), (7, _)] rfl rfl ?_
    exact fin (g' := GNode.bin 14 (10 + ((h : Int) - 2)) (10 + ((h : Int) - 2)) (10 + ((h : Int) - 1))) (Ext.refl _) (own (row2 ha)) rfl rfl
  · obtain rfl : 1 = j := hna
    have ha : 1 ≤ h := ha
    have hn : some (GNode.un 15 (10 + ((h : Int) - 1)) (10 + ((h : Int) - 1))) = some n := hn
    cases hn
    simp only [evL, Int.reduceEq, Int.reduceNeg, decide_true, decide_false]
    intros
    refine ldB hb7 fa_71_0 l1_3 rfl ?_
    obtain ⟨sa, sc, rfl⟩ := (SliceIs.of_own ho).shape
    refine bld bd_92 [(0, i64 4), (2, i64 15), (1, i64 _), (7, _)] rfl rfl ?_
    exact fin (g' := .un 15 (10 + ((h : Int) - 1)) (10 + ((h : Int) - 1))) (Ext.refl _) (own (row1 ha)) rfl rfl
  · obtain rfl : 1 = j := hna
    have ha : 1 ≤ h := ha
    have hn : some (GNode.un 16 (10 + ((h : Int) - 1)) (10 + ((h : Int) - 1))) = some n := hn
    cases hn
    simp only [evL, Int.reduceEq, Int.reduceNeg, decide_true, decide_false]
    intros
    refine ldB hb7 fa_71_0 l1_3 rfl ?_
    obtain ⟨sa, sc, rfl⟩ := (SliceIs.of_own ho).shape
    refine bld bd_92 [(0, i64 4), (2, i64 16), (1, i64 _), (7, _)] rfl rfl ?_
    exact fin (g' := .un 16 (10 + ((h : Int) - 1)) (10 + ((h : Int) - 1))) (Ext.refl _) (own (row1 ha)) rfl rfl
  · obtain rfl : 2 = j := hna
    have ha : 2 ≤ h := ha
    have hn : some (GNode.serve 17 a b (10 + ((h : Int) - 2)) (rowP h 2)) = some n := hn
    cases hn
    simp only [evL, Int.reduceEq, Int.reduceNeg, decide_false]
    intros
    refine ldB hb7 fa_71_0 l1_3 rfl ?_
    refine serves8_ok.mono fun r8 w8 ⟨hr8, hw8⟩ => ?_
    subst hr8
    subst hw8
    refine V_geq.2 (ifD_true.2 ?_)
    refine ldB hb7 fa_71_0 l1_3 rfl ?_
    refine ldB hb7 fa_71_1 l1_3 rfl ?_
    refine ldB hb7 fa_71_2 l1_3 rfl ?_
    obtain ⟨sa, sc, rfl⟩ := (SliceIs.of_own ho).shape
    refine bld bd_92 [(0, i64 11), (2, i64 17), (4, i64 a), (5, i64 b), (1, i64 _), (7, _)] rfl rfl ?_
    exact fin (g' := GNode.serve 17 a b (10 + ((h : Int) - 2)) (rowP h 2)) (Ext.refl _) (own rfl) rfl rfl
  · obtain rfl : 2 = j := hna
    have ha : 2 ≤ h := ha
    have hn : some (GNode.serve 18 a b (10 + ((h : Int) - 2)) (rowP h 2)) = some n := hn
    cases hn
    simp only [evL, Int.reduceEq, Int.reduceNeg, decide_false]
    intros
    refine ldB hb7 fa_71_0 l1_3 rfl ?_
    refine serves8_ok.mono fun r8 w8 ⟨hr8, hw8⟩ => ?_
    subst hr8
    subst hw8
    refine V_geq.2 (ifD_true.2 ?_)
    refine ldB hb7 fa_71_0 l1_3 rfl ?_
    refine ldB hb7 fa_71_1 l1_3 rfl ?_
    refine ldB hb7 fa_71_2 l1_3 rfl ?_
    obtain ⟨sa, sc, rfl⟩ := (SliceIs.of_own ho).shape
    refine bld bd_92 [(0, i64 11), (2, i64 18), (4, i64 a), (5, i64 b), (1, i64 _), (7, _)] rfl rfl ?_
    exact fin (g' := GNode.serve 18 a b (10 + ((h : Int) - 2)) (rowP h 2)) (Ext.refl _) (own rfl) rfl rfl
  · obtain rfl : 2 = j := hna
    have ha : 2 ≤ h := ha
    have hn : some (GNode.bin 19 (10 + ((h : Int) - 2)) (10 + ((h : Int) - 2)) (10 + ((h : Int) - 1))) = some n := hn
    cases hn
    simp only [evL, Int.reduceEq, Int.reduceNeg, decide_false]
    intros
    refine ldB hb7 fa_71_0 l1_3 rfl ?_
    refine serves8_ok.mono fun r8 w8 ⟨hr8, hw8⟩ => ?_
    subst hr8
    subst hw8
    refine V_geq.2 (ifD_false.2 ?_)
    refine ldB hb7 fa_71_0 l1_3 rfl ?_
    obtain ⟨sa, sc, rfl⟩ := (SliceIs.of_own ho).shape
    refine bld bd_92 [(0, i64 3), (2, i64 19), (1, i64 _), (7, _)] rfl rfl ?_
    exact fin (g' := GNode.bin 19 (10 + ((h : Int) - 2)) (10 + ((h : Int) - 2)) (10 + ((h : Int) - 1))) (Ext.refl _) (own (row2 ha)) rfl rfl
  · obtain rfl : 2 = j := hna
    have ha : 2 ≤ h := ha
    have hn : some (GNode.bin 20 (10 + ((h : Int) - 2)) (10 + ((h : Int) - 2)) (10 + ((h : Int) - 1))) = some n := hn
    cases hn
    simp only [evL, Int.reduceEq, Int.reduceNeg, decide_false]
    intros
    refine ldB hb7 fa_71_0 l1_3 rfl ?_
    refine serves8_ok.mono fun r8 w8 ⟨hr8, hw8⟩ => ?_
    subst hr8
    subst hw8
    refine V_geq.2 (ifD_false.2 ?_)
    refine ldB hb7 fa_71_0 l1_3 rfl ?_
    obtain ⟨sa, sc, rfl⟩ := (SliceIs.of_own ho).shape
    refine bld bd_92 [(0, i64 3), (2, i64 20), (1, i64 _), (7, _)] rfl rfl ?_
    exact fin (g' := GNode.bin 20 (10 + ((h : Int) - 2)) (10 + ((h : Int) - 2)) (10 + ((h : Int) - 1))) (Ext.refl _) (own (row2 ha)) rfl rfl
  · obtain rfl : 2 = j := hna
    have ha : 2 ≤ h := ha
    have hn : some (GNode.bin 21 (10 + ((h : Int) - 2)) (10 + ((h : Int) - 2)) (10 + ((h : Int) - 1))) = some n := hn
    cases hn
    simp only [evL, Int.reduceEq, Int.reduceNeg, decide_false]
    intros
    refine ldB hb7 fa_71_0 l1_3 rfl ?_
    refine serves8_ok.mono fun r8 w8 ⟨hr8, hw8⟩ => ?_
    subst hr8
    subst hw8
    refine V_geq.2 (ifD_false.2 ?_)
    refine ldB hb7 fa_71_0 l1_3 rfl ?_
    obtain ⟨sa, sc, rfl⟩ := (SliceIs.of_own ho).shape
    refine bld bd_92 [(0, i64 3), (2, i64 21), (1, i64 _), (7, _)] rfl rfl ?_
    exact fin (g' := GNode.bin 21 (10 + ((h : Int) - 2)) (10 + ((h : Int) - 2)) (10 + ((h : Int) - 1))) (Ext.refl _) (own (row2 ha)) rfl rfl
  · obtain rfl : 3 = j := hna
    have ha : 3 ≤ h := ha
    have hn : some (GNode.choose (10 + ((h : Int) - 3)) (10 + ((h : Int) - 3)) (10 + ((h : Int) - 2)) (10 + ((h : Int) - 1))) = some n := hn
    cases hn
    simp only [evL, Int.reduceEq, Int.reduceNeg, decide_true, decide_false]
    intros
    obtain ⟨sa, sc, rfl⟩ := (SliceIs.of_own ho).shape
    refine bld bd_92 [(0, i64 5), (1, i64 _), (7, _)] rfl rfl ?_
    exact fin (g' := .choose (10 + ((h : Int) - 3)) (10 + ((h : Int) - 3)) (10 + ((h : Int) - 2)) (10 + ((h : Int) - 1))) (Ext.refl _) (own (row3 ha)) rfl rfl
  · have hn : some (GNode.goto a) = some n := hn
    cases hn
    simp only [evL, Int.reduceEq, Int.reduceNeg, decide_true, decide_false]
    intros
    refine ldB hb7 fa_71_1 l1_3 rfl ?_
    obtain ⟨q, rfl⟩ : ∃ q : Nat, a = q := ⟨a.toNat, by have := haim.1; omega⟩
    have hq := haim.2
    refine ldx xa_23 l1_3 hT (by omega) (by omega) (getI (getN (by omega))) ?_
    refine bld bd_92 [(0, i64 7), (1, i64 (-1)), (6, i64 _)] rfl rfl ?_
    exact fin (sv := nilS) (g' := .goto (nth T q)) (Ext.refl _) nil0 rfl rfl
  · obtain rfl : 1 = j := hna
    have ha : 1 ≤ h := ha
    have hn : some (GNode.branch (10 + ((h : Int) - 1)) a) = some n := hn
    cases hn
    simp only [evL, Int.reduceEq, Int.reduceNeg, decide_true, decide_false]
    intros
    refine ldB hb7 fa_71_1 l1_3 rfl ?_
    obtain ⟨q, rfl⟩ : ∃ q : Nat, a = q := ⟨a.toNat, by have := haim.1; omega⟩
    have hq := haim.2
    refine ldx xa_23 l1_3 hT (by omega) (by omega) (getI (getN (by omega))) ?_
    obtain ⟨sa, sc, rfl⟩ := (SliceIs.of_own ho).shape
    refine bld bd_92 [(0, i64 8), (1, i64 (-1)), (6, i64 _), (7, _)] rfl rfl ?_
    exact fin (g' := .branch (10 + ((h : Int) - 1)) (nth T q)) (Ext.refl _) (own (row1 ha)) rfl rfl
  · have hn : some (GNode.const (10 + (h : Int)) 0) = some n := hn
    cases hn
    simp only [evL, Int.reduceEq, Int.reduceNeg, decide_true, decide_false]
    intros
    refine S66 (by omega) ?_
    refine bld bd_92 [(0, i64 1), (1, i64 (10 + (h : Int)))] rfl rfl ?_
    exact fin (sv := nilS) (g' := .const (10 + (h : Int)) 0) (Ext.refl _) nil0 rfl rfl
  · obtain rfl : 1 = j := hna
    have ha : 1 ≤ h := ha
    have hn : some (GNode.un 26 (10 + ((h : Int) - 1)) (10 + ((h : Int) - 1))) = some n := hn
    cases hn
    simp only [evL, Int.reduceEq, Int.reduceNeg, decide_true, decide_false]
    intros
    refine ldB hb7 fa_71_0 l1_3 rfl ?_
    obtain ⟨sa, sc, rfl⟩ := (SliceIs.of_own ho).shape
    refine bld bd_92 [(0, i64 4), (2, i64 26), (1, i64 _), (7, _)] rfl rfl ?_
    exact fin (g' := .un 26 (10 + ((h : Int) - 1)) (10 + ((h : Int) - 1))) (Ext.refl _) (own (row1 ha)) rfl rfl
  · obtain rfl : 1 = j := hna
    have ha : 1 ≤ h := ha
    have hn : some (GNode.serve 27 a b (10 + ((h : Int) - 1)) (rowP h 1)) = some n := hn
    cases hn
    simp only [evL, Int.reduceEq, Int.reduceNeg, decide_false]
    intros
    refine ldB hb7 fa_71_0 l1_3 rfl ?_
    refine serves8_ok.mono fun r8 w8 ⟨hr8, hw8⟩ => ?_
    subst hr8
    subst hw8
    refine V_geq.2 (ifD_true.2 ?_)
    refine ldB hb7 fa_71_0 l1_3 rfl ?_
    refine ldB hb7 fa_71_1 l1_3 rfl ?_
    refine ldB hb7 fa_71_2 l1_3 rfl ?_
    obtain ⟨sa, sc, rfl⟩ := (SliceIs.of_own ho).shape
    refine bld bd_92 [(0, i64 11), (2, i64 27), (4, i64 a), (5, i64 b), (1, i64 _), (7, _)] rfl rfl ?_
    exact fin (g' := GNode.serve 27 a b (10 + ((h : Int) - 1)) (rowP h 1)) (Ext.refl _) (own rfl) rfl rfl
  · obtain rfl : 1 = j := hna
    have ha : 1 ≤ h := ha
    have hn : some (GNode.serve 28 a b (10 + ((h : Int) - 1)) (rowP h 1)) = some n := hn
    cases hn
    simp only [evL, Int.reduceEq, Int.reduceNeg, decide_false]
    intros
    refine ldB hb7 fa_71_0 l1_3 rfl ?_
    refine serves8_ok.mono fun r8 w8 ⟨hr8, hw8⟩ => ?_
    subst hr8
    subst hw8
    refine V_geq.2 (ifD_true.2 ?_)
    refine ldB hb7 fa_71_0 l1_3 rfl ?_
    refine ldB hb7 fa_71_1 l1_3 rfl ?_
    refine ldB hb7 fa_71_2 l1_3 rfl ?_
    obtain ⟨sa, sc, rfl⟩ := (SliceIs.of_own ho).shape
    refine bld bd_92 [(0, i64 11), (2, i64 28), (4, i64 a), (5, i64 b), (1, i64 _), (7, _)] rfl rfl ?_
    exact fin (g' := GNode.serve 28 a b (10 + ((h : Int) - 1)) (rowP h 1)) (Ext.refl _) (own rfl) rfl rfl
  · obtain rfl : 2 = j := hna
    have ha : 2 ≤ h := ha
    have hn : some (GNode.serve 29 a b (10 + ((h : Int) - 2)) (rowP h 2)) = some n := hn
    cases hn
    simp only [evL, Int.reduceEq, Int.reduceNeg, decide_false]
    intros
    refine ldB hb7 fa_71_0 l1_3 rfl ?_
    refine serves8_ok.mono fun r8 w8 ⟨hr8, hw8⟩ => ?_
    subst hr8
    subst hw8
    refine V_geq.2 (ifD_true.2 ?_)
    refine ldB hb7 fa_71_0 l1_3 rfl ?_
    refine ldB hb7 fa_71_1 l1_3 rfl ?_
    refine ldB hb7 fa_71_2 l1_3 rfl ?_
    obtain ⟨sa, sc, rfl⟩ := (SliceIs.of_own ho).shape
    refine bld bd_92 [(0, i64 11), (2, i64 29), (4, i64 a), (5, i64 b), (1, i64 _), (7, _)] rfl rfl ?_
    exact fin (g' := GNode.serve 29 a b (10 + ((h : Int) - 2)) (rowP h 2)) (Ext.refl _) (own rfl) rfl rfl
  · obtain rfl : 3 = j := hna
    have ha : 3 ≤ h := ha
    have hn : some (GNode.serve 30 a b (-1) (rowP h 3)) = some n := hn
    cases hn
    simp only [evL, Int.reduceEq, Int.reduceNeg, decide_false]
    intros
    refine ldB hb7 fa_71_0 l1_3 rfl ?_
    refine serves8_ok.mono fun r8 w8 ⟨hr8, hw8⟩ => ?_
    subst hr8
    subst hw8
    refine V_geq.2 (ifD_true.2 ?_)
    refine ldB hb7 fa_71_0 l1_3 rfl ?_
    refine ldB hb7 fa_71_1 l1_3 rfl ?_
    refine ldB hb7 fa_71_2 l1_3 rfl ?_
    obtain ⟨sa, sc, rfl⟩ := (SliceIs.of_own ho).shape
    refine bld bd_92 [(0, i64 11), (2, i64 30), (4, i64 a), (5, i64 b), (1, i64 _), (7, _)] rfl rfl ?_
    exact fin (g' := GNode.serve 30 a b (-1) (rowP h 3)) (Ext.refl _) (own rfl) rfl rfl
  · obtain rfl : 5 = j := hna
    have ha : 5 ≤ h := ha
    have hn : some (GNode.serve 31 a b (-1) (rowP h 5)) = some n := hn
    cases hn
    simp only [evL, Int.reduceEq, Int.reduceNeg, decide_false]
    intros
    refine ldB hb7 fa_71_0 l1_3 rfl ?_
    refine serves8_ok.mono fun r8 w8 ⟨hr8, hw8⟩ => ?_
    subst hr8
    subst hw8
    refine V_geq.2 (ifD_true.2 ?_)
    refine ldB hb7 fa_71_0 l1_3 rfl ?_
    refine ldB hb7 fa_71_1 l1_3 rfl ?_
    refine ldB hb7 fa_71_2 l1_3 rfl ?_
    obtain ⟨sa, sc, rfl⟩ := (SliceIs.of_own ho).shape
    refine bld bd_92 [(0, i64 11), (2, i64 31), (4, i64 a), (5, i64 b), (1, i64 _), (7, _)] rfl rfl ?_
    exact fin (g' := GNode.serve 31 a b (-1) (rowP h 5)) (Ext.refl _) (own rfl) rfl rfl
  · obtain rfl : 5 = j := hna
    have ha : 5 ≤ h := ha
    have hn : some (GNode.serve 32 a b (10 + ((h : Int) - 5)) (rowP h 5)) = some n := hn
    cases hn
    simp only [evL, Int.reduceEq, Int.reduceNeg, decide_false]
    intros
    refine ldB hb7 fa_71_0 l1_3 rfl ?_
    refine serves8_ok.mono fun r8 w8 ⟨hr8, hw8⟩ => ?_
    subst hr8
    subst hw8
    refine V_geq.2 (ifD_true.2 ?_)
    refine ldB hb7 fa_71_0 l1_3 rfl ?_
    refine ldB hb7 fa_71_1 l1_3 rfl ?_
    refine ldB hb7 fa_71_2 l1_3 rfl ?_
    obtain ⟨sa, sc, rfl⟩ := (SliceIs.of_own ho).shape
    refine bld bd_92 [(0, i64 11), (2, i64 32), (4, i64 a), (5, i64 b), (1, i64 _), (7, _)] rfl rfl ?_
    exact fin (g' := GNode.serve 32 a b (10 + ((h : Int) - 5)) (rowP h 5)) (Ext.refl _) (own rfl) rfl rfl
  · have hn : some (GNode.getField (10 + (h : Int)) a) = some n := hn
    cases hn
    simp only [evL, Int.reduceEq, Int.reduceNeg, decide_true, decide_false]
    intros
    refine drawD.mk' (fun w' => Ext w6 w') D ?_
    refine yfB (fun w' hw => hb7.ext hw) fa_71_1 l1_3 rfl ?_
    refine S66 (by omega) ⟨D, ?_⟩
    refine yBld bd_92 [(0, i64 9), (1, i64 (10 + (h : Int))), (3, i64 a)] rfl rfl ?_
    exact fin (sv := nilS) (g' := .getField (10 + (h : Int)) a) D nil0 rfl rfl
  · obtain rfl : 1 = j := hna
    have ha : 1 ≤ h := ha
    have hn : some (GNode.putField a (10 + ((h : Int) - 1))) = some n := hn
    cases hn
    simp only [evL, Int.reduceEq, Int.reduceNeg, decide_true, decide_false]
    intros
    refine ldB hb7 fa_71_1 l1_3 rfl ?_
    obtain ⟨sa, sc, rfl⟩ := (SliceIs.of_own ho).shape
    refine bld bd_92 [(0, i64 10), (1, i64 (-1)), (3, i64 a), (7, _)] rfl rfl ?_
    exact fin (g' := .putField a (10 + ((h : Int) - 1))) (Ext.refl _) (own (row1 ha)) rfl rfl
  · have hn : some (GNode.const (10 + (h : Int)) (IntKind.i32.wrap a)) = some n := hn
    cases hn
    simp only [evL, Int.reduceEq, Int.reduceNeg, decide_true, decide_false]
    intros
    refine drawD.mk' (fun w' => Ext w6 w') D ?_
    refine yfB (fun w' hw => hb7.ext hw) fa_71_1 l1_3 rfl ?_
    refine S66 (by omega) ⟨D, ?_⟩
    refine yBld bd_92 [(0, i64 1), (1, i64 (10 + (h : Int))), (3, i64 a)] rfl rfl ?_
    exact fin (sv := nilS) (g' := .const (10 + (h : Int)) (IntKind.i32.wrap a)) D nil0 rfl (by simp only [GNode.pcs, GNode.pN, ww a (by simp [lim] at a1; omega) (by simp [lim] at a2; omega)]; rfl)
  · obtain rfl : 3 = j := hna
    have ha : 3 ≤ h := ha
    have hn : some (GNode.serve 36 a b (-1) (rowP h 3)) = some n := hn
    cases hn
    simp only [evL, Int.reduceEq, Int.reduceNeg, decide_false]
    intros
    refine ldB hb7 fa_71_0 l1_3 rfl ?_
    refine serves8_ok.mono fun r8 w8 ⟨hr8, hw8⟩ => ?_
    subst hr8
    subst hw8
    refine V_geq.2 (ifD_true.2 ?_)
    refine ldB hb7 fa_71_0 l1_3 rfl ?_
    refine ldB hb7 fa_71_1 l1_3 rfl ?_
    refine ldB hb7 fa_71_2 l1_3 rfl ?_
    obtain ⟨sa, sc, rfl⟩ := (SliceIs.of_own ho).shape
    refine bld bd_92 [(0, i64 11), (2, i64 36), (4, i64 a), (5, i64 b), (1, i64 _), (7, _)] rfl rfl ?_
    exact fin (g' := GNode.serve 36 a b (-1) (rowP h 3)) (Ext.refl _) (own rfl) rfl rfl
  · have hna : (i.meth a).params.length = j := hna
    have ed : dstP i (i.meth k) ⟨37, a, b⟩ h = resP (i.meth a).result ((h : Int) - (i.meth a).params.length) := dst_of rfl rfl
    rw [ed]
    have hn : some (GNode.call a (resP (i.meth a).result ((h : Int) - (i.meth a).params.length)) (rowP h (i.meth a).params.length)) = some n := hn
    cases hn
    simp only [evL, Int.reduceEq, Int.reduceNeg, decide_true, decide_false]
    intros
    refine ldB hb7 fa_71_1 l1_3 rfl ?_
    obtain ⟨sa, sc, rfl⟩ := (SliceIs.of_own ho).shape
    refine bld bd_92 [(0, i64 12), (3, i64 a), (1, i64 _), (7, _)] rfl rfl ?_
    exact fin (g' := .call a (resP (i.meth a).result ((h : Int) - (i.meth a).params.length)) (rowP h (i.meth a).params.length)) (Ext.refl _) (own (show rowP h j = rowP h (i.meth a).params.length by rw [hna])) rfl rfl
  · have hna : (i.imp a).params.length = j := hna
    have ed : dstP i (i.meth k) ⟨38, a, b⟩ h = resP (i.imp a).result ((h : Int) - (i.imp a).params.length) := dst_of rfl rfl
    rw [ed]
    have hn : some (GNode.callX a (resP (i.imp a).result ((h : Int) - (i.imp a).params.length)) (rowP h (i.imp a).params.length)) = some n := hn
    cases hn
    simp only [evL, Int.reduceEq, Int.reduceNeg, decide_true, decide_false]
    intros
    refine ldB hb7 fa_71_1 l1_3 rfl ?_
    obtain ⟨sa, sc, rfl⟩ := (SliceIs.of_own ho).shape
    refine bld bd_92 [(0, i64 13), (3, i64 a), (1, i64 _), (7, _)] rfl rfl ?_
    exact fin (g' := .callX a (resP (i.imp a).result ((h : Int) - (i.imp a).params.length)) (rowP h (i.imp a).params.length)) (Ext.refl _) (own (show rowP h j = rowP h (i.imp a).params.length by rw [hna])) rfl rfl
  · have hna : (resL (i.meth k).result).length = j := hna
    have hn : some (GNode.ret (resP (i.meth k).result ((h : Int) - 1))) = some n := hn
    cases hn
    simp only [evL, Int.reduceEq, Int.reduceNeg, decide_true, decide_false]
    intros
    obtain ⟨sa, sc, rfl⟩ := (SliceIs.of_own ho).shape
    refine bld bd_92 [(0, i64 14), (1, i64 (-1)), (7, _)] rfl rfl ?_
    refine fin (g' := .ret (resP (i.meth k).result ((h : Int) - 1))) (Ext.refl _) (own ?_) rfl rfl
    exact ret_row hna ha
end Go.Proofs.YtcdbikfnlggbnaaGreatDoor
namespace Go.Tc
theorem goesS_h {n : Nat} {s s' : St} {to : Int} {stack : List Int} (h : goesS n s to stack = some s') : ∀ k, s'.h k = true → s.h k = true ∨ k = to.toNat := fun k hk => by
  unfold goesS at h
  split at h
  · cases h
  split at h
  · obtain ⟨j, _, h⟩ := Option.bind_eq_some_iff.1 h
    split at h
    · cases h; exact .inl hk
    · cases h; exact .inl hk
  · cases h
    simp only [St.h] at hk ⊢
    rw [getD_set] at hk
    split at hk
    · rename_i hc; exact .inr hc.1
    · exact .inl hk
theorem goesL_h {n : Nat} {stack : List Int} : ∀ {l : List Int} {s s' : St}, goesL n stack l s = some s' → ∀ k, s'.h k = true → s.h k = true ∨ ∃ to ∈ l, k = to.toNat
  | [], s, s', h, k, hk => by cases h; exact .inl hk
  | to :: l, s, s', h, k, hk => by
    simp only [goesL, Option.bind_eq_some_iff] at h
    obtain ⟨s1, h1, h2⟩ := h
    rcases goesL_h h2 k hk with h3 | ⟨t, ht, he⟩
    · rcases goesS_h h1 k h3 with h4 | h4
      · exact .inl h4
      · exact .inr ⟨to, List.mem_cons_self, h4⟩
    · exact .inr ⟨t, List.mem_cons_of_mem _ ht, he⟩
theorem Runs.least {i : Img} {m : Mth} {C : Nat → Prop} (hx : ∀ x ∈ m.code, Okx i m x) (hc : ∀ k, C k → ∀ to ∈ nextS (m.ins k) k, C to.toNat) {s : St} {r : Option St} (h : Runs i m s r) : ∀ s', r = some s' → WF m s → Inv i m s → (∀ k, s.h k = true → C k) → ∀ k, s'.h k = true → C k := by
  induction h with
  | done h1 => intro s' he _ _ hC; cases he; exact hC
  | fail _ _ => intro s' he; cases he
  | @go s s1 pc r h1 h2 _ ih =>
    intro s' he hw hi hC
    obtain ⟨a, b, _⟩ := step_ok hx hw hi h1 h2
    refine ih s' he a b fun k hk => ?_
    have ht : s.t pc = true := (firstT_some h1).1
    have hp : s.h pc = true := by
      cases hh : s.h pc with
      | true => rfl
      | false => rw [(hw.no pc hh).2] at ht; cases ht
    obtain ⟨stack, _, h3⟩ := Option.bind_eq_some_iff.1 h2
    rcases goesL_h h3 k hk with h4 | ⟨to, h4, rfl⟩
    · exact hC k h4
    · exact hc pc (hC pc hp) to h4
theorem Walk.least {i : Img} {m : Mth} {C : Nat → Prop} {s : St} (hi : i.right) (hm : m.right) (h : Walk i m (some s)) (h0 : C 0) (hc : ∀ k, C k → ∀ to ∈ nextS (m.ins k) k, C to.toNat) : ∀ k, s.h k = true → C k := by
  rcases h with ⟨_, h⟩ | ⟨h1, h2⟩
  · cases h
  have hx : ∀ x ∈ m.code, Okx i m x := fun x hx => ⟨hi, hm, hm.2.2.2.2 x hx, h1 x hx⟩
  obtain ⟨a, b⟩ := first_ok (i := i) hm.2.2.2.1.1
  refine h2.least hx hc s rfl a b fun k hk => ?_
  simp only [St.h, St.first] at hk
  rw [getD_set] at hk
  split at hk
  · rename_i hh; rw [hh.1]; exact h0
  · rw [List.getD_eq_getElem?_getD, List.getElem?_replicate] at hk
    split at hk <;> simp at hk
end Go.Tc
namespace Go.Proofs.YtcdbikfnlggbnaaGreatDoor
open Go.Vc Go.Tc
variable {w : World} {K : Value → World → Prop}
theorem rch_eq {i : Img} {m : Mth} {st : Tc.St} {r : List Bool} (hi : i.right) (hm : m.right) (hw : Walk i m (some st)) (R : Rch i m st [] r) (k : Nat) : r.getD k false = st.h k := by
  have h0 : r.getD 0 false = true := by rcases R.z with hz | hz; exact hz; cases hz
  cases hh : st.h k with
  | true => exact hw.least hi hm (C := fun k => r.getD k false = true) h0 (fun k hk to ht => by rcases R.cl k hk to ht with h1 | h1; exact h1; cases h1) k hh
  | false =>
    cases hr : r.getD k false with
    | false => rfl
    | true => rw [R.rs k hr] at hh; cases hh
/-- Plain nodes in a row. -/
def RowN (g : Nat) (w : World) (v : Value) (N : List GNode) : Prop := ∃ cs, w.ownsRow (g + 1) 92 8 v N.length cs ∧ ∀ (j : Nat) n, N[j]? = some n → ∃ sv, (cs.drop (j * 8)).take 8 = n.pcs 0 sv ∧ w.ownsRow (g + 1) 3 1 sv n.us.length (n.us.map i64)
theorem RowN.ext {g : Nat} {w' : World} {v : Value} {N : List GNode} (h : RowN g w v N) (hx : Ext w w') : RowN g w' v N := by
  obtain ⟨cs, h1, h2⟩ := h
  refine ⟨cs, hx.own h1, fun j n hn => ?_⟩
  obtain ⟨sv, h3, h4⟩ := h2 j n hn
  exact ⟨sv, h3, hx.own h4⟩
theorem RowN.nil (g : Nat) (w : World) : RowN g w nilS [] := ⟨[], World.ownsRow_nil _ _ _ _, fun j n hn => by simp at hn⟩
theorem RowN.one {g : Nat} {v : Value} {N : List GNode} (h : RowN g w v N) : oneC v = true := by obtain ⟨cs, h1, _⟩ := h; exact Go.Proofs.YtcdbikfnlggbnaaGreatDoor.own_one h1
theorem RowN.blk {g : Nat} {v : Value} {N : List GNode} (h : RowN g w v N) : ∀ q, v.ownBlock = some q → g + 1 ≤ q ∧ q < w.heap.size := by obtain ⟨cs, h1, _⟩ := h; exact fun q hq => h1.lt q hq
theorem RowN.fr {g : Nat} {w' : World} {v : Value} {N : List GNode} (h : RowN g w v N) (f : Fr (fun q => q = g) w w') : RowN g w' v N := by
  obtain ⟨cs, h1, h2⟩ := h
  have no : ∀ {e sz n v xs}, w.ownsRow (g + 1) e sz v n xs → w'.ownsRow (g + 1) e sz v n xs := fun ho => f.own ho fun q hq hS => by have := (ho.lt q hq).1; have hS : q = g := hS; omega
  refine ⟨cs, no h1, fun j n hn => ?_⟩
  obtain ⟨sv, h3, h4⟩ := h2 j n hn
  exact ⟨sv, h3, no h4⟩
/-- A node more. -/
theorem RowN.ap {g : Nat} {v u : Value} {N : List GNode} {n : GNode} {sv : Value} {t ty : TypeId} (hte : Program.underlying Tryz.prog t = some (.slice 92)) (h : RowN g w v N) (hu : SliceIs w u 8 1 (n.pcs 0 sv)) (hs : w.ownsRow (g + 1) 3 1 sv n.us.length (n.us.map i64)) (hN : N.length ≤ 100000) (hg : g + 1 ≤ w.heap.size)
    (hk : ∀ v' w', RowN g w' v' (N ++ [n]) → Fr (fun q => v.ownBlock = some q) w w' → (∀ q, v'.ownBlock = some q → v.ownBlock = some q ∨ w.heap.size ≤ q) → K v' w') : V Tryz.prog (Builtin.append_ #[t, t] ty #[v, u]) w K := by
  obtain ⟨cs, h1, h2⟩ := h
  refine apG hte inf92 rfl (by decide) h1 hu (by simp [GNode.pcs, one_i, own_one hs]) (by omega) (by unfold maxLen; omega) hg fun v' w' ho' hg' hl' => ?_
  have f : Fr (fun q => v.ownBlock = some q) w w' := Fr.of_grown hg' fun q hq => hq
  have keep : ∀ {sv : Value} {m : Nat} {xs : List Value}, w.ownsRow (g + 1) 3 1 sv m xs → w'.ownsRow (g + 1) 3 1 sv m xs := fun ho => f.own ho fun q hq hS => by
    rcases own_ty h1 ho (by decide) with hb | hb
    · rw [hb] at hS; cases hS
    · exact hb (by rw [hS]; exact hq.symm)
  have hcl : cs.length = N.length * 8 := h1.1
  refine hk v' w' ⟨cs ++ n.pcs 0 sv, by simpa using ho', fun j m hm => ?_⟩ f fun q hq => ?_
  · rw [List.getElem?_append] at hm
    split at hm
    · rename_i hlt
      obtain ⟨sv2, h3, h4⟩ := h2 j m hm
      exact ⟨sv2, by rw [el_old hcl hlt]; exact h3, keep h4⟩
    · rename_i hge
      have hj : j - N.length = 0 := by have := (List.getElem?_eq_some_iff.1 hm).1; simpa using this
      rw [hj] at hm
      cases hm
      have : j = N.length := by omega
      subst this
      exact ⟨sv, el_new hcl rfl, keep hs⟩
  · rcases hl' with hl | hl
    · rw [hl] at hq; exact .inl hq
    · rw [hl] at hq; cases hq; exact .inr (Nat.le_refl _)
end Go.Proofs.YtcdbikfnlggbnaaGreatDoor
namespace Go.Proofs.YtcdbikfnlggbnaaGreatDoor
open Go.Vc Go.Tc
variable {w : World} {K : Value → World → Prop}
theorem RowN.keepI {g B n : Nat} {v sv : Value} {N : List GNode} {xs : List Value} (h : RowN g w v N) (ho : w.ownsRow B 3 1 sv n xs) : ∀ q, sv.ownBlock = some q → ¬ v.ownBlock = some q := fun q hq hv => by
  obtain ⟨cs, h1, _⟩ := h
  rcases own_ty h1 ho (by decide) with hb | hb
  · rw [hb] at hv; cases hv
  · exact hb (by rw [hv]; exact hq.symm)
theorem liftN_ex {i : Img} {m : Mth} {x : Ins} {h : Nat} (h4 : x.op ≠ 4) : ∃ n, liftN i m x h = some n := by
  cases hn : liftN i m x h with
  | some n => exact ⟨n, rfl⟩
  | none => exact absurd (liftN_none hn) h4
theorem liftN_4 {i : Img} {m : Mth} {x : Ins} {h : Nat} (h4 : x.op = 4) : liftN i m x h = none := by simp [liftN, h4]
/-- A program under way, and a node more: block g. -/
def Rq (g : Nat) (np : Int) (w : World) (N : List GNode) (nv : Value) : Prop := Blk w g [i64 np, i64 18, nv] 56 ∧ RowN g w nv N
theorem Rq.ext {g : Nat} {np : Int} {w' : World} {N : List GNode} {nv : Value} (h : Rq g np w N nv) (hx : Ext w w') : Rq g np w' N nv := ⟨h.1.ext hx, h.2.ext hx⟩
theorem Rq.push {g : Nat} {np : Int} {nv : Value} {N : List GNode} {n : GNode} {sv : Value} {K' : World → Prop} (h : Rq g np w N nv) (hs : w.ownsRow (g + 1) 3 1 sv n.us.length (n.us.map i64)) (hN : N.length ≤ 100000)
    (hk : ∀ nv' w', Rq g np w' (N ++ [n]) nv' → Fr (fun q => q = g ∨ nv.ownBlock = some q) w w' → K' w') :
    V Tryz.prog (Instr.buildSlice 54 1 #[(0, .agg (n.pcs 0 sv).toArray)]) w fun t w1 => V Tryz.prog (Builtin.append_ #[54, 54] 54 #[nv, t]) w1 fun t2 w2 => V Tryz.prog (Instr.fieldAt 56 (.pointer (some ⟨g, 0, none⟩)) 2) w2 fun q w3 => U Tryz.prog (Instr.storeAt 54 q t2) w3 fun _ w4 => K' w4 := by
  obtain ⟨hB, hR⟩ := h
  have hg := hB.lt
  refine bslG Tryz.underlying54 inf92 rfl (by decide) [.agg (n.pcs 0 sv).toArray] rfl rfl (by intro v hv; rw [List.mem_singleton] at hv; subst hv; rfl) (by decide) (by decide) fun u w1 hu x1 => ?_
  have s1 := x1.size
  have huS : SliceIs w1 u 8 1 (n.pcs 0 sv) := by simpa [Value.cells] using SliceIs.of_own hu
  refine (hR.ext x1).ap Tryz.underlying54 huS (x1.own hs) hN (by omega) fun v' w' hR' f' hq' => ?_
  have hb := hR.blk
  have hB' := f'.blk (hB.ext x1) fun hS => by have := (hb g hS).1; omega
  refine stF fa_56_2 inf54 hB' (n := 3) rfl (by decide) hR'.one ?_
  have f3 : Fr (fun q => q = g) w' (w'.setCell ⟨g, 2, none⟩ v') := Fr.of_set rfl
  have hB3 := hB'.set 2 v'
  generalize w'.setCell ⟨g, 2, none⟩ v' = w3 at f3 hB3
  exact hk v' w3 ⟨hB3, hR'.fr f3⟩ (((Fr.of_ext x1).trans (f'.mono fun k hk => .inr hk) fun _ _ h => h).trans (f3.mono fun k hk => .inl hk) fun _ _ h => h)
set_option maxHeartbeats 8000000 in
theorem lift15 {p : ImgV} {i : Img} {k : Nat} {st : Tc.St} {r : List Bool} (h : ImgAt w p i) (ht : Taken i) (hk : k < i.methods.length) (hw : Walk i (i.meth k) (some st)) (R : Rch i (i.meth k) st [] r)
    (hK : ∀ pv sv w', PProgIs w' pv (i.meth k).params.length 18 (liftP i (i.meth k) st r) → IntsAre w' sv (liftK i (i.meth k) st r (i.meth k).code.length).2 → Ext w w' → K (.tuple #[pv, sv]) w') : callD Tryz.prog 15 #[p.val i, i64 k] w K := by
  have hmi := meth_get (i := i) (a := (k : Int)) (by omega) (by omega)
  rw [Int.toNat_natCast] at hmi
  have ir := ht.1
  have mr : (i.meth k).right := ir.2.2.1.2.1 _ (List.mem_of_getElem? hmi)
  obtain ⟨hox, hwf, hh0, hs0, hled⟩ := hw.led ir mr
  have hrh := rch_eq ir mr hw R
  have pl := mr.1.2
  have ll := mr.2.2.1.2
  have lc := mr.2.2.2.1.2
  obtain ⟨_, c2, c3, _⟩ := liftP_ticks i (i.meth k) st r
  have haim : ∀ n ∈ (liftK i (i.meth k) st r (i.meth k).code.length).1, aimOk (liftK i (i.meth k) st r (i.meth k).code.length).2 n := liftK_aim c2 hled R.rs _
  apply F15_wp
  unfold F15_den ImgV.val
  refine bx fun b2 w1 hb2 x1 => ?_
  have hb2 : Boxed w1 b2 [.string i.name, p.fv, p.iv, p.mv, p.xv] := hb2
  refine alK inf56 fun w2 hB4 x2 => ?_
  have hB4 : Blk w2 w1.heap.size [i64 0, i64 0, nilS] 56 := hB4
  have hg4 := x1.size
  have hb2 := hb2.ext x2
  have x02 := x1.trans x2
  generalize w1.heap.size = g4 at hB4 hg4
  refine ldB hb2 fa_27_3 l1_25 rfl ?_
  refine ldS xa_25 la_47 (h.ext x02).mt hmi mth_len fun row hrow => ?_
  generalize hmm : i.meth k = m at *
  obtain ⟨pv, lv, cv, rfl, hp, hl, hc⟩ := hrow
  have hone : ([pv, i64 m.result, lv, cv] : List Value).all oneC = true := by
    obtain ⟨a1, c1, rfl⟩ := hp.shape
    obtain ⟨a2, c2, rfl⟩ := hl.shape
    obtain ⟨a3, c3, rfl⟩ := SliceIs.shape hc
    rfl
  refine asB sa_47 rfl hone fun b6 w3 hb6 x3 => ?_
  have hb6 : Boxed w3 b6 [pv, i64 m.result, lv, cv] := hb6
  have x03 := x02.trans x3
  refine ldA (hb2.ext x3) la_27 rfl ?_
  -- the states
  have hwk : Walk i (i.meth k) (some st) := by rw [hmm]; exact hw
  apply F33_wp
  unfold F33_den
  refine bx fun b7 w4 hb7 x4 => ?_
  refine ldA hb7 la_27 rfl ?_
  refine walk28 (p := p) (i := i) (k := k) (h.ext (x03.trans x4)) ir hk (fun st' sv hv wB hw' hst hhv x5 => ?_) (fun pc e wB hw' _ x5 => ?_)
  case refine_2 => have := hw'.det hwk; cases this
  obtain rfl : st = st' := by have := hwk.det hw'; exact Option.some.inj this
  refine V_ext40.2 (V_ext41.2 (V_ext42.2 (V_ext43.2 ?_)))
  refine V_ext0.2 (V_ext1.2 ?_)
  have x0B := (x03.trans x4).trans x5
  have x3B := x4.trans x5
  have hb2 := (hb2.ext x3).ext x3B
  have hb6 := hb6.ext x3B
  have hB4 := (hB4.ext x3).ext x3B
  have hp := (hp.ext x3).ext x3B
  have hl := (hl.ext x3).ext x3B
  have hc : InsAre wB cv m.code := (hc.ext x3).ext x3B
  have h := h.ext x0B
  clear x4 x5 x3B hb7
  refine ldB hb6 fa_47_0 l1_23 rfl (lnx xa_23 hp ?_)
  refine bld bd_56 [(0, i64 m.params.length), (1, i64 18)] rfl rfl ?_
  refine asK sa_56 rfl rfl fun w9 hB9 x9 => ?_
  have hB9 : Blk w9 wB.heap.size [i64 m.params.length, i64 18, nilS] 56 := hB9
  have hL0 : Rq wB.heap.size m.params.length w9 [] nilS := ⟨hB9, RowN.nil _ _⟩
  have hg4B : g4 < wB.heap.size := hB4.lt
  have sB0 := x0B.size
  generalize hgg : wB.heap.size = g at *
  have cut : ∀ {w' w'' : World} {nv : Value} {N : List GNode}, Rq g m.params.length w' N nv → Ext wB w' → Fr (fun q => q = g ∨ nv.ownBlock = some q) w' w'' → Ext wB w'' := fun hR hx f => f.ext hx fun q hq => by
    rcases hq with hq | hq
    · omega
    · have := (hR.2.blk q hq).1; omega
  -- the locals
  refine ⟨fun v w' => ∃ (j : Nat) (nv : Value), v = i64 j ∧ j ≤ m.locals.length ∧ Ext wB w' ∧ Rq g m.params.length w' ((List.range j).map fun (j : Nat) => GNode.const ((m.params.length : Int) + ((j : Nat) : Int)) 0) nv, fun v _ => m.locals.length - (RowKit.intOf v).toNat, ⟨0, nilS, rfl, Nat.zero_le _, x9, hL0⟩, ?_⟩
  clear hL0 hB9
  rintro _ w10 ⟨j, nv, rfl, hj, x10, hL⟩ _
  refine ldB (hb6.ext x10) fa_47_2 l1_23 rfl (lnx xa_23 (hl.ext x10) (V_lss.2 (ifD_dec (fun hlt => ?_) fun hge => ?_)))
  · refine ldB (Blk.boxed hL.1) fa_56_2 l1_54 rfl ?_
    refine ldB (hb6.ext x10) fa_47_0 l1_23 rfl (lnx xa_23 (hp.ext x10) (V_add.2 ?_))
    rw [wrap_id (by omega) (by omega)]
    refine bld bd_92 [(0, i64 1), (1, i64 ((m.params.length : Int) + (j : Int)))] rfl rfl ?_
    refine hL.push (n := .const ((m.params.length : Int) + (j : Int)) 0) (sv := nilS) (World.ownsRow_nil _ _ _ _) (by simp; omega) fun nv' w11 hL11 f11 => V_add.2 ?_
    rw [wrap_id (by omega) (by omega), i64_succ]
    refine ⟨⟨j + 1, nv', rfl, by omega, cut hL x10 f11, ?_⟩, by simp only [intOf_i64]; omega⟩
    rw [List.range_succ, List.map_append]; exact hL11
  have hjl : j = m.locals.length := by omega
  subst hjl
  have hL : Rq g m.params.length w10 (liftK i m st r 0).1 nv := hL
  refine ldB (Blk.boxed hL.1) fa_56_2 l1_54 rfl ?_
  obtain ⟨ncs, hncs, _⟩ := hL.2
  refine lnx xa_54 (SliceIs.of_own hncs) ?_
  have hhas : ∀ {w' : World} {j : Nat} {R' : Value → World → Prop}, Ext wB w' → j < m.code.length → R' (.bool (r.getD j false)) w' → V Tryz.prog (Instr.indexAt 78 hv (i64 j)) w' fun q w1 => V Tryz.prog (Instr.loadAt 4 q) w1 R' := fun {w' j R'} hx hj hR' => by
    have hl2 := hwf.l2
    refine ldx xa_78 l1_4 (hhv.ext hx) (by omega) (by omega) (getB' (by omega)) ?_
    have : st.has.getD j false = r.getD j false := (hrh j).symm
    rw [this]; exact hR'
  have hins : ∀ {w' : World} {j : Nat} {R' : Value → World → Prop}, Ext wB w' → j < m.code.length → R' (i64 (m.ins j).op) w' → V Tryz.prog (Instr.indexAt 45 cv (i64 j)) w' fun q w1 => V Tryz.prog (Instr.fieldAt 71 q 0) w1 fun q2 w2 => V Tryz.prog (Instr.loadAt 3 q2) w2 R' := fun {w' j R'} hx hj hR' => by
    have hxi := insC_mem (m := m) (k := j) hj
    exact ldSF xa_45 fa_71_0 l1_3 (InsAre.strs (hc.ext hx)) hxi fun row hrow => ⟨i64 (m.ins j).op, by rw [hrow]; rfl, by decide, hR'⟩
  -- where each pc's stand
  refine ⟨fun tv a v w' => ∃ j : Nat, v = i64 j ∧ j ≤ m.code.length ∧ a = i64 (liftK i m st r j).1.length ∧ Ext w10 w' ∧ w'.ownsRow w10.heap.size 3 1 tv j ((liftK i m st r j).2.map i64), fun _ _ v _ => m.code.length - (RowKit.intOf v).toNat, ⟨0, rfl, Nat.zero_le _, rfl, Ext.refl _, World.ownsRow_nil _ _ _ _⟩, ?_⟩
  rintro tv _ _ w11 ⟨j, rfl, hj, rfl, x11, hT⟩ _
  have xB11 := x10.trans x11
  have hlen : (liftK i m st r j).1.length ≤ m.locals.length + 2 * j := (liftK_ticks i m st r j).2.2.1
  refine ldB (hb6.ext xB11) fa_47_3 l1_45 rfl (lnx xa_45 (SliceIs.ext hc xB11) (V_lss.2 (ifD_dec (fun hlt => ?_) fun hge => ?_)))
  · refine hhas xB11 (by omega) (V_not.2 ?_)
    cases hrj : r.getD j false with
    | false =>
      have hK : liftK i m st r (j + 1) = ((liftK i m st r j).1, (liftK i m st r j).2 ++ [-1]) := by simp only [liftK, hrj]; rfl
      simp only [Bool.not_false, evL, Int.reduceNeg, Bool.not_false]
      refine bsl xe_23 [i64 (-1)] rfl rfl (by simp) rfl fun u12 w12 ho12 x12 => ?_
      refine apO xe_23 (x12.own hT) (SliceIs.of_own ho12) rfl (by omega) (by unfold maxLen; omega) (x11.trans x12).size fun u13 w13 ho13 hg13 => V_add.2 ?_
      rw [wrap_id (by omega) (by omega), i64_succ]
      refine ⟨⟨j + 1, rfl, by omega, by rw [hK], (x11.trans x12).grown hg13 fun q hq => (hT.lt q hq).1, by rw [hK]; simpa using ho13⟩, by simp only [intOf_i64]; omega⟩
    | true =>
      simp only [Bool.not_true, evL, Int.reduceNeg, Bool.not_true]
      refine bsl xe_23 [i64 (liftK i m st r j).1.length] rfl rfl (by simp) rfl fun u12 w12 ho12 x12 => ?_
      refine apO xe_23 (x12.own hT) (SliceIs.of_own ho12) rfl (by omega) (by unfold maxLen; omega) (x11.trans x12).size fun u13 w13 ho13 hg13 => V_add.2 ?_
      have x13 : Ext w10 w13 := (x11.trans x12).grown hg13 fun q hq => (hT.lt q hq).1
      have xB13 := x10.trans x13
      rw [wrap_id (by omega) (by omega), i64_succ]
      refine ldB (hb6.ext xB13) fa_47_3 l1_45 rfl (hins xB13 (by omega) (V_neqI.2 (ifD_dec (fun hne => ?_) fun heq => ?_)))
      · obtain ⟨n, hn⟩ := liftN_ex (i := i) (m := m) (h := (st.s j).length) hne
        have hK : liftK i m st r (j + 1) = ((liftK i m st r j).1 ++ [.tick, n], (liftK i m st r j).2 ++ [((liftK i m st r j).1.length : Int)]) := by simp only [liftK, hrj, hn]; rfl
        refine V_add.2 (V_add.2 ?_)
        rw [wrap_id (by omega) (by omega), wrap_id (by omega) (by omega), i64_succ, i64_succ]
        refine ⟨⟨j + 1, rfl, by omega, by rw [hK]; simp; omega, x13, by rw [hK]; simpa using ho13⟩, by simp only [intOf_i64]; omega⟩
      · have hK : liftK i m st r (j + 1) = ((liftK i m st r j).1 ++ [.tick], (liftK i m st r j).2 ++ [((liftK i m st r j).1.length : Int)]) := by simp only [liftK, hrj, liftN_4 (show (m.ins j).op = 4 by omega)]; rfl
        refine V_add.2 ?_
        rw [wrap_id (by omega) (by omega), i64_succ]
        refine ⟨⟨j + 1, rfl, by omega, by rw [hK]; simp, x13, by rw [hK]; simpa using ho13⟩, by simp only [intOf_i64]; omega⟩
  have hjn : j = m.code.length := by omega
  subst hjn
  have eP : liftP i m st r = (liftK i m st r m.code.length).1.map (aimN (liftK i m st r m.code.length).2) := rfl
  generalize hTT : (liftK i m st r m.code.length).2 = T at *
  have hT0 : w11.ownsRow (g + 1) 3 1 tv T.length (T.map i64) := by
    rw [c2]
    have := hL.1.lt
    exact own_mono hT (by omega)
  clear hT
  -- the nodes
  refine ⟨fun v w' => ∃ (j : Nat) (nv : Value), v = i64 j ∧ j ≤ m.code.length ∧ Ext wB w' ∧ Rq g m.params.length w' ((liftK i m st r j).1.map (aimN T)) nv ∧ w'.ownsRow (g + 1) 3 1 tv T.length (T.map i64), fun v _ => m.code.length - (RowKit.intOf v).toNat, ⟨0, nv, rfl, Nat.zero_le _, xB11, ?_, hT0⟩, ?_⟩
  · have e0 : (liftK i m st r 0).1.map (aimN T) = (liftK i m st r 0).1 := by
      show ((List.range m.locals.length).map _).map _ = _
      rw [List.map_map]; rfl
    rw [e0]
    exact hL.ext x11
  clear hL hT0 hncs x11 xB11 x10
  rintro _ w12 ⟨j, nv, rfl, hj, x12, hL, hT⟩ _
  have hlen2 : (liftK i m st r j).1.length ≤ m.locals.length + 2 * j := (liftK_ticks i m st r j).2.2.1
  refine ldB (hb6.ext x12) fa_47_3 l1_45 rfl (lnx xa_45 (SliceIs.ext hc x12) (V_lss.2 (ifD_dec (fun hlt => ?_) fun hge => ?_)))
  · refine hhas x12 (by omega) (V_not.2 ?_)
    cases hrj : r.getD j false with
    | false =>
      have hK : liftK i m st r (j + 1) = ((liftK i m st r j).1, (liftK i m st r j).2 ++ [-1]) := by simp only [liftK, hrj]; rfl
      simp only [Bool.not_false, evL, Int.reduceNeg, Bool.not_false]
      refine V_add.2 ?_
      rw [wrap_id (by omega) (by omega), i64_succ]
      exact ⟨⟨j + 1, nv, rfl, by omega, x12, by rw [hK]; exact hL, hT⟩, by simp only [intOf_i64]; omega⟩
    | true =>
      simp only [Bool.not_true, evL, Int.reduceNeg, Bool.not_true]
      refine ldB (Blk.boxed hL.1) fa_56_2 l1_54 rfl ?_
      refine bld bd_92 [(0, i64 6), (1, i64 (-1))] rfl rfl ?_
      refine hL.push (n := .tick) (sv := nilS) (World.ownsRow_nil _ _ _ _) (by simp; omega) fun nv2 w13 hL13 f13 => ?_
      have x13 := cut hL x12 f13
      have hT13 := f13.own hT fun q hq hS => by
        rcases hS with hS | hS
        · have := (hT.lt q hq).1; omega
        · exact hL.2.keepI hT q hq hS
      clear hL f13
      refine ldB (hb6.ext x13) fa_47_3 l1_45 rfl (hins x13 (by omega) (V_neqI.2 (ifD_dec (fun hne => ?_) fun heq => ?_)))
      · obtain ⟨n, hn⟩ := liftN_ex (i := i) (m := m) (h := (st.s j).length) hne
        have hK : liftK i m st r (j + 1) = ((liftK i m st r j).1 ++ [.tick, n], (liftK i m st r j).2 ++ [((liftK i m st r j).1.length : Int)]) := by simp only [liftK, hrj, hn]; rfl
        have hh := R.rs j hrj
        obtain ⟨out, hdo, hto⟩ := hled j hh
        obtain ⟨hkd, hl8⟩ := hwf.kd j hh
        have ox := hox _ (ins_mem (m := m) (k := j) (by omega))
        obtain ⟨_, _, hask, _⟩ := doS_ok ox hkd hdo
        have ham : aimOk T n := liftN_aim hn fun to ht' => by
          obtain ⟨q1, q2, _⟩ := hto to ht'
          exact ⟨q1, by rw [c2]; exact q2⟩
        have D : Ext w13 w13.drew := (Ext.refl _).drew
        have xD := x13.trans D
        have hLD := hL13.ext D
        have hTD := D.own hT13
        have S2 : ∀ w', Fr (fun q => nv2.ownBlock = some q) w13.drew w' → Ext wB w' := fun w' f => f.ext xD fun q hq => by have := (hLD.2.blk q hq).1; omega
        have hgn : ¬ nv2.ownBlock = some g := fun hS => by have := (hLD.2.blk g hS).1; omega
        obtain ⟨svs, hsv1, hsv2⟩ := hst
        have hstl : st.st.length = m.code.length := hwf.l1
        obtain ⟨su, hsu, hsi⟩ := hsv2 j (by omega)
        refine drawD.mk' (fun w' => Fr (fun q => nv2.ownBlock = some q) w13.drew w') (Fr.refl _ _) ?_
        refine yfB (fun w' hw => Blk.boxed (hw.blk hLD.1 hgn)) fa_56_2 l1_54 rfl ?_
        refine yA (fun w' hw => hb2.ext (S2 w' hw)) la_27 rfl ?_
        refine yfB (fun w' hw => hb6.ext (S2 w' hw)) fa_47_3 l1_45 rfl ?_
        refine yI hc S2 (insC_mem (m := m) (k := j) (by omega)) ?_
        refine ySl xa_77 l1_23 hsv1 S2 (by omega) (by omega) (by simpa using hsu) ?_
        refine yLen xa_23 hsi ?_
        refine node34 (p := p) (i := i) (k := k) (x := m.ins j) (n := n) (h.ext xD) hk (by rw [hmm]; exact ox) hl8 (by rw [hmm]; exact hask) (by rw [hmm]; exact hn) (SliceIs.of_own hTD) ham fun sv2 w14 hs14 x14 => ⟨Fr.of_ext x14, ?_⟩
        have hgD := hLD.1.lt
        refine bslG Tryz.underlying54 inf92 rfl (by decide) [.agg ((aimN T n).pcs 0 sv2).toArray] rfl rfl (by intro v hv; rw [List.mem_singleton] at hv; subst hv; rfl) (by decide) (by decide) fun u15 w15 hu15 x15 => ⟨Fr.of_ext (x14.trans x15), ?_⟩
        have x45 := x14.trans x15
        have s45 := x45.size
        have huS : SliceIs w15 u15 8 1 ((aimN T n).pcs 0 sv2) := by simpa [Value.cells] using SliceIs.of_own hu15
        refine (hLD.2.ext x45).ap Tryz.underlying54 huS (own_mono (x15.own hs14) (by omega)) (by simp; omega) (by omega) fun v16 w16 hR16 f16 _ => ?_
        have fD : Fr (fun q => nv2.ownBlock = some q) w13.drew w16 := (Fr.of_ext x45).trans f16 fun _ _ h => h
        refine ⟨fD, yieldS.ok (fun w' _ => fa_56_2.ex w' g 0) ?_⟩
        have hB16 := fD.blk hLD.1 hgn
        refine stFU inf54 hB16 (n := 3) rfl (by decide) hR16.one ?_
        have f17 : Fr (fun q => q = g) w16 (w16.setCell ⟨g, 2, none⟩ v16) := Fr.of_set rfl
        have hB17 := hB16.set 2 v16
        have x17 : Ext wB (w16.setCell ⟨g, 2, none⟩ v16) := (S2 _ fD).setCell (by omega) _
        generalize w16.setCell ⟨g, 2, none⟩ v16 = w17 at f17 hB17 x17
        refine V_add.2 ?_
        rw [wrap_id (by omega) (by omega), i64_succ]
        have hT16 := fD.own hTD fun q hq hS => hLD.2.keepI hTD q hq hS
        refine ⟨⟨j + 1, v16, rfl, by omega, x17, ⟨hB17, ?_⟩, f17.own hT16 fun q hq hS => by have := (hT16.lt q hq).1; have hS : q = g := hS; omega⟩, by simp only [intOf_i64]; omega⟩
        rw [hK, List.map_append]
        have h18 := hR16.fr f17
        rw [List.append_assoc] at h18
        exact h18
      · have hK : liftK i m st r (j + 1) = ((liftK i m st r j).1 ++ [.tick], (liftK i m st r j).2 ++ [((liftK i m st r j).1.length : Int)]) := by simp only [liftK, hrj, liftN_4 (show (m.ins j).op = 4 by omega)]; rfl
        refine V_add.2 ?_
        rw [wrap_id (by omega) (by omega), i64_succ]
        refine ⟨⟨j + 1, nv2, rfl, by omega, x13, by rw [hK, List.map_append]; exact hL13, hT13⟩, by simp only [intOf_i64]; omega⟩
  have hjn : j = m.code.length := by omega
  subst hjn
  refine ldA (Blk.boxed hL.1) la_56 rfl ?_
  have hgl := hL.1.lt
  refine stA inf56 (hB4.ext x12) (l := [i64 m.params.length, i64 18, nv]) rfl rfl rfl (by simp [hL.2.one, one_i]) fun wE hBE hcE => ?_
  refine ⟨_, r_var Tryz.underlying56 rfl inf56 hBE rfl, ⟨_, rfl⟩, ?_⟩
  have fE := chg_fr hcE
  have kp : ∀ {e : TypeId} {v : Value} {s n : Nat} {ys : List Value}, w12.ownsRow (g + 1) e s v n ys → wE.ownsRow (g + 1) e s v n ys := fun ho => fE.own ho fun q hq hS => by have := (ho.lt q hq).1; have hS : q = g4 := hS; omega
  refine hK _ tv wE ?_ (SliceIs.of_own (kp hT)) (hcE.ext _ (x0B.trans x12) (by omega))
  rw [eP]
  obtain ⟨cs, h1, h2⟩ := hL.2
  refine ⟨nv, cs, rfl, SliceIs.of_own (kp h1), fun a n hn => ?_⟩
  obtain ⟨sv2, h3, h4⟩ := h2 a n hn
  exact ⟨0, sv2, h3, SliceIs.of_own (kp h4)⟩
end Go.Proofs.YtcdbikfnlggbnaaGreatDoor
namespace Go.Proofs.YtcdbikfnlggbnaaGreatDoor
open Go.Vc Go.Tc
variable {w : World} {K : Value → World → Prop}
theorem yEqS {S : World → Prop} {L : Value → Prop} {t : TypeId} {x y : Operand} {k : IntKind} {a : Int} (hk : L (.bool true)) : yieldS Tryz.prog S (do eqGuard .eql t x y (.int k a) (.int k a); binOp .eql t (.int k a) (.int k a)) L :=
  yieldS.ok (fun _ _ => r_eqlI) (by rw [decide_eq_true rfl]; exact hk)
theorem yNeS {S : World → Prop} {L : Value → Prop} {t : TypeId} {x y : Operand} {k : IntKind} {a : Int} (hk : L (.bool false)) : yieldS Tryz.prog S (do eqGuard .neq t x y (.int k a) (.int k a); binOp .neq t (.int k a) (.int k a)) L :=
  yieldS.ok (fun _ _ => r_neqI) (by rw [decide_eq_false (fun h => h rfl)]; exact hk)
theorem ints69 {a b : Value} {l : List Int} (ha : IntsAre w a l) (hb : IntsAre w b l) (hl : l.length ≤ 1000) (hk : ∀ w', Ext w w' → K (.bool true) w') : callD Tryz.prog 69 #[a, b] w K := by
  apply F69_wp
  unfold F69_den
  refine lnx xa_23 ha (lnx xa_23 hb (V_neqI.2 (ifD_dec (fun h => absurd rfl h) fun _ => ?_)))
  refine ⟨fun v w' => ∃ i : Nat, v = i64 i ∧ i ≤ l.length ∧ Ext w w', fun v _ => l.length - (RowKit.intOf v).toNat, ⟨0, rfl, Nat.zero_le _, Ext.refl _⟩, ?_⟩
  rintro _ w1 ⟨i, rfl, hi, x1⟩ _
  refine lnx xa_23 (ha.ext x1) (V_lss.2 (ifD_dec (fun hlt => ?_) fun hge => hk _ x1))
  obtain ⟨z, hz⟩ := ex_get (l := l) (j := i) (by omega)
  have hzi : (l.map i64)[((i : Nat) : Int).toNat]? = some (i64 z) := by simp [hz]
  have D1 : Ext w1 w1.drew := (Ext.refl _).drew
  refine drawD.mk' (fun w' => Ext w1 w') D1 ?_
  refine ySl xa_23 l1_3 (ha.ext x1) (fun _ h => h) (by omega) (by omega) hzi ?_
  refine ySl xa_23 l1_3 (hb.ext x1) (fun _ h => h) (by omega) (by omega) hzi ?_
  refine yNeS (ifD_false.2 (V_add.2 ?_))
  rw [wrap_id (by omega) (by omega), i64_succ]
  exact ⟨⟨i + 1, rfl, by omega, x1.trans D1⟩, by simp only [intOf_i64]; omega⟩
set_option maxHeartbeats 4000000 in
theorem sameNode35 {g : GNode} {a b : Value} (ha : IntsAre w a g.us) (hb : IntsAre w b g.us) (hl : g.us.length ≤ 1000) (hk : ∀ w', Ext w w' → K (.bool true) w') : callD Tryz.prog 35 #[.agg (g.pcs 0 a).toArray, .agg (g.pcs 0 b).toArray] w K := by
  apply F35_wp
  unfold F35_den
  refine bx fun b2 w1 h2 x1 => bx fun b3 w2 h3 x2 => ?_
  have h2 : Boxed w2 b2 (g.pcs 0 a) := h2.ext x2
  have h3 : Boxed w2 b3 (g.pcs 0 b) := h3
  have x02 := x1.trans x2
  have D : Ext w2 w2.drew := (Ext.refl _).drew
  refine drawD.mk' (fun w' => Ext w2 w') D ?_
  refine yfB (fun w' hw => h2.ext hw) fa_92_0 l1_3 rfl (yfB (fun w' hw => h3.ext hw) fa_92_0 l1_3 rfl (yEqS ?_))
  simp only [gdY_t, gd_t]
  refine yA (fun w' hw => h2.ext hw) la_92 rfl (yA (fun w' hw => h3.ext hw) la_92 rfl ?_)
  refine (def36_ok (g := g) ⟨0, a, rfl, ha.ext (x02.trans D)⟩).mono fun r3 w3 ⟨e3, x3⟩ => ?_
  subst e3
  have x23 := D.trans x3
  refine ⟨x23, (def36_ok (g := g) ⟨0, b, rfl, hb.ext (x02.trans x23)⟩).mono fun r4 w4 ⟨e4, x4⟩ => ?_⟩
  subst e4
  have x24 := x23.trans x4
  refine ⟨x24, yEqS (pickT ?_)⟩
  simp only [gdY_t]
  refine yfB (fun w' hw => h2.ext hw) fa_92_2 l1_3 rfl (yfB (fun w' hw => h3.ext hw) fa_92_2 l1_3 rfl (yEqS (pickT ?_)))
  simp only [gdY_t]
  refine yfB (fun w' hw => h2.ext hw) fa_92_3 l1_3 rfl (yfB (fun w' hw => h3.ext hw) fa_92_3 l1_3 rfl (yEqS (pickT ?_)))
  simp only [gdY_t]
  refine yfB (fun w' hw => h2.ext hw) fa_92_4 l1_3 rfl (yfB (fun w' hw => h3.ext hw) fa_92_4 l1_3 rfl (yEqS (pickT ?_)))
  simp only [gdY_t]
  refine yfB (fun w' hw => h2.ext hw) fa_92_5 l1_3 rfl (yfB (fun w' hw => h3.ext hw) fa_92_5 l1_3 rfl (yEqS (pickT ?_)))
  simp only [gdY_t]
  refine yfB (fun w' hw => h2.ext hw) fa_92_6 l1_3 rfl (yfB (fun w' hw => h3.ext hw) fa_92_6 l1_3 rfl (yEqS (pickT ?_)))
  simp only [gdY_t, gd_t]
  refine yfB (fun w' hw => h2.ext hw) fa_92_7 l1_23 rfl (yfB (fun w' hw => h3.ext hw) fa_92_7 l1_23 rfl ?_)
  exact ints69 (ha.ext (x02.trans x24)) (hb.ext (x02.trans x24)) hl fun w5 x5 => ⟨x24.trans x5, pickT (hk _ ((x02.trans x24).trans x5))⟩
set_option maxHeartbeats 4000000 in
theorem same16 {pr rg : Int} {gs : List GNode} {a b : Value} (ha : PProgIs w a pr rg gs) (hb : PProgIs w b pr rg gs) (hl : ∀ n ∈ gs, n.us.length ≤ 1000) (hgl : gs.length ≤ 1000) (hk : ∀ w', Ext w w' → K (.bool true) w') : callD Tryz.prog 16 #[a, b] w K := by
  obtain ⟨na, ca, rfl, hsa, hea⟩ := ha
  obtain ⟨nb, cb, rfl, hsb, heb⟩ := hb
  apply F16_wp
  unfold F16_den
  refine bx fun b2 w1 h2 x1 => bx fun b3 w2 h3 x2 => ?_
  have h2 : Boxed w2 b2 [i64 pr, i64 rg, na] := h2.ext x2
  have h3 : Boxed w2 b3 [i64 pr, i64 rg, nb] := h3
  have x02 := x1.trans x2
  have hsa := hsa.ext x02
  have hsb := hsb.ext x02
  have ne : ∀ {a : Int}, decide (a ≠ a) = false := fun {a} => decide_eq_false fun h => h rfl
  refine ldB h2 fa_56_0 l1_3 rfl (ldB h3 fa_56_0 l1_3 rfl (V_neqI.2 ?_))
  rw [ne]
  simp only [gd_f]
  refine ldB h2 fa_56_1 l1_3 rfl (ldB h3 fa_56_1 l1_3 rfl (V_neqI.2 ?_))
  rw [ne]
  refine pickF ?_
  simp only [gd_f]
  refine ldB h2 fa_56_2 l1_54 rfl (lnx xa_54 hsa (ldB h3 fa_56_2 l1_54 rfl (lnx xa_54 hsb (V_neqI.2 ?_))))
  rw [ne]
  refine pickF (ifD_false.2 ?_)
  refine ⟨fun v w' => ∃ i : Nat, v = i64 i ∧ i ≤ gs.length ∧ Ext w2 w', fun v _ => gs.length - (RowKit.intOf v).toNat, ⟨0, rfl, Nat.zero_le _, Ext.refl _⟩, ?_⟩
  rintro _ w4 ⟨i, rfl, hi, x4⟩ _
  refine ldB (h2.ext x4) fa_56_2 l1_54 rfl (lnx xa_54 (hsa.ext x4) (V_lss.2 (ifD_dec (fun hlt => ?_) fun hge => hk _ (x02.trans x4))))
  obtain ⟨n, hn⟩ := ex_get (l := gs) (j := i) (by omega)
  obtain ⟨ma, sa, e1, i1⟩ := hea i n hn
  obtain ⟨mb, sb, e2, i2⟩ := heb i n hn
  have em : ∀ m sv, n.pcs m sv = n.pcs 0 sv := fun m sv => by cases n <;> rfl
  rw [em] at e1 e2
  have D : Ext w4 w4.drew := (Ext.refl _).drew
  have xD := x4.trans D
  refine drawD.mk' (fun w' => Ext w4 w') D ?_
  refine yfB (fun w' hw => (h2.ext x4).ext hw) fa_56_2 l1_54 rfl ?_
  refine yldxA (l := n.pcs 0 sa) xa_54 la_92 (hsa.ext x4) (fun _ h => h) (by omega) (by omega) (by rw [Int.toNat_natCast]; exact e1) rfl ?_
  refine yfB (fun w' hw => (h3.ext x4).ext hw) fa_56_2 l1_54 rfl ?_
  refine yldxA (l := n.pcs 0 sb) xa_54 la_92 (hsb.ext x4) (fun _ h => h) (by omega) (by omega) (by rw [Int.toNat_natCast]; exact e2) rfl ?_
  refine sameNode35 (i1.ext (x02.trans xD)) (i2.ext (x02.trans xD)) (hl n (List.mem_of_getElem? hn)) fun w5 x5 => ⟨D.trans x5, ?_⟩
  refine yieldS.ok (fun _ _ => rfl) (ifD_false.2 (V_add.2 ?_))
  rw [wrap_id (by omega) (by omega), i64_succ]
  exact ⟨⟨i + 1, rfl, by omega, xD.trans x5⟩, by simp only [intOf_i64]; omega⟩
end Go.Proofs.YtcdbikfnlggbnaaGreatDoor
namespace Go.Proofs.YtcdbikfnlggbnaaGreatDoor
open Go.Vc Go.Tc
variable {w : World} {K : Value → World → Prop}
theorem RightN.al5 {n : GNode} {k r c : Int} (h : RightN n k r c) : n.args.length ≤ 5 ∧ n.us.length ≤ 5 := by
  have hf := h.f
  cases n with
  | serve op a b d l =>
    have hf : serves op = l.length := hf
    unfold serves at hf
    have : l.length ≤ 5 := by
      split at hf
      · omega
      · split at hf
        · omega
        · split at hf
          · omega
          · split at hf <;> omega
    exact ⟨this, this⟩
  | call m d l => have := hf.2; have : l.length ≤ 5 := by omega
                  exact ⟨this, this⟩
  | callX m d l => have := hf.2; have : l.length ≤ 5 := by omega
                   exact ⟨this, this⟩
  | ret s => exact ⟨Nat.zero_le _, by simp only [GNode.us]; split <;> simp⟩
  | _ => exact ⟨Nat.zero_le _, by simp [GNode.us]⟩
theorem PProgIs.ext {w w' : World} {v : Value} {params regs : Int} {gs : List GNode} (h : PProgIs w v params regs gs) (hx : Ext w w') : PProgIs w' v params regs gs := by
  obtain ⟨ns, cs, h1, h2, h3⟩ := h
  refine ⟨ns, cs, h1, h2.ext hx, fun i g hg => ?_⟩
  obtain ⟨m, sv, h4, h5⟩ := h3 i g hg
  exact ⟨m, sv, h4, h5.ext hx⟩
theorem yN {S : World → Prop} {L : Value → Prop} {b : Bool} (hk : L (.bool (!b))) : yieldS Tryz.prog S (Op.unary UnOp.not (.bool b)) L := yieldS.ok (fun _ _ => rfl) hk
set_option maxHeartbeats 4000000 in
theorem tells5 {n a b e : Int} {rv : Value} {rl : List Rw} (hr : RwsAre w rv rl) (hb : BinsOk w) (hT : Tabs w) (rn : rl.length ≤ 5000000000000) (known : ∀ {w}, Tabs w → callD Tryz.prog 13 #[] w fun v w' => v = .bool true ∧ Ext w w') :
    callD Tryz.prog 5 #[i64 n, rv, i64 a, i64 b, i64 e] w fun v w' => v = .bool true ∧ Ext w w' := by
  apply F5_wp
  suffices key : ∀ R : Value → World → Prop, (∀ w', Ext w w' → R (.bool true) w') → F5_den (i64 n) rv (i64 a) (i64 b) (i64 e) w R from key _ fun _ hx => ⟨rfl, hx⟩
  intro R hR
  unfold F5_den
  refine applet14 hr hb hT rn fun p i ok w3 hA hok x3 => ?_
  refine V_ext0.2 (V_ext1.2 ?_)
  refine asB sa_27 rfl hA.one fun b4 w4 hb4 x4 => ?_
  have hb4 : Boxed w4 b4 (p.cells i) := hb4
  have hA4 := hA.ext x4
  refine (known (hT.ext (x3.trans x4))).mono fun kv w6 ⟨hkv, x6⟩ => ?_
  subst hkv
  have x06 := (x3.trans x4).trans x6
  refine V_not.2 ?_
  cases ok with
  | false =>
    simp only [Bool.not_true, evL, reduceIte, Bool.false_eq_true, Bool.not_true, Bool.not_false]
    exact (known (hT.ext x06)).mono fun kv w7 ⟨hkv, x7⟩ => by subst hkv; exact hR _ (x06.trans x7)
  | true =>
    simp only [Bool.not_true, evL, reduceIte, Bool.false_eq_true, Bool.not_true]
    have ht := hok rfl
    refine ⟨fun v w' => ∃ j : Nat, v = i64 j ∧ j ≤ i.methods.length ∧ Ext w4 w', fun v _ => i.methods.length - (RowKit.intOf v).toNat, ⟨0, rfl, Nat.zero_le _, x6⟩, ?_⟩
    rintro _ w7 ⟨j, rfl, hj, x7⟩ _
    have hA7 := hA4.ext x7
    have hb7 := hb4.ext x7
    refine ldB hb7 fa_27_3 l1_25 rfl (lnS xa_25 hA7.at_.mt (V_lss.2 (ifD_dec (fun hlt => ?_) fun hge => hR _ ((x3.trans x4).trans x7))))
    refine ldA hb7 la_27 rfl ?_
    refine lift12 (p := p) (i := i) hA7.at_ hA7.nm hA7.rg (fun st r nv sv w8 _ h0 hkl hw Rc hN hS x8 => ?_) fun w8 hne x8 => absurd ⟨ht, by omega, by omega⟩ hne
    have hmi := meth_get (i := i) (a := (j : Int)) (by omega) (by omega)
    rw [Int.toNat_natCast] at hmi
    have mr : (i.meth j).right := ht.1.2.2.1.2.1 _ (List.mem_of_getElem? hmi)
    have ml := ht.1.2.2.1.1.2
    have lc := mr.2.2.2.1.2
    obtain ⟨_, c2, _, _⟩ := liftP_ticks i (i.meth j) st r
    have okp := lift_okProg ht (by omega) hw Rc
    have hP : ProgIs w8 (.agg #[i64 (i.meth j).params.length, i64 18, nv]) ⟨(i.meth j).params.length, 18, liftP i (i.meth j) st r⟩ := ⟨nv, rfl, hN, fun n hn => by
      obtain ⟨q, hq⟩ := List.getElem?_of_mem hn
      have := (okp.nodes q n hq).al5.1
      omega⟩
    obtain ⟨na, nc, rfl⟩ : ∃ a c, nv = .slice a (liftP i (i.meth j) st r).length c := by obtain ⟨vs, h1, _⟩ := hN; exact SliceIs.shape h1
    refine V_tup (v := .agg #[i64 (i.meth j).params.length, i64 18, .slice na (liftP i (i.meth j) st r).length nc]) rfl (V_tup (v := sv) rfl (V_tup (v := .bool true) rfl ?_))
    refine asB sa_38 rfl rfl fun b9 w9 hb9 x9 => ?_
    have hb9 : Boxed w9 b9 [i64 (i.meth j).params.length, i64 18, .slice na (liftP i (i.meth j) st r).length nc] := hb9
    have x49 := (x7.trans x8).trans x9
    refine ldA (hb4.ext x49) la_27 rfl ?_
    refine lift15 (p := p) (i := i) (hA4.ext x49).at_ ht (by omega) hw Rc fun qv sv2 w10 hq hS2 x10 => ?_
    refine V_ext0.2 (V_ext1.2 ?_)
    have hq0 := hq
    obtain ⟨qs, qcs, rfl, hqs, _⟩ := hq
    obtain ⟨qa, qc, rfl⟩ := hqs.shape
    refine asB sa_56 rfl rfl fun b11 w11 hb11 x11 => ?_
    have hb11 : Boxed w11 b11 [i64 (i.meth j).params.length, i64 18, .slice qa (liftP i (i.meth j) st r).length qc] := hb11
    have x91 := x10.trans x11
    have hb9 := hb9.ext x91
    have D : Ext w11 w11.drew := (Ext.refl _).drew
    have hP11 := (hP.ext x9).ext x91
    have hq11 := hq0.ext x11
    refine drawD.mk' (fun w' => Ext w11 w') D ?_
    refine yN ?_
    simp only [Bool.not_true, gdY_f, gd_f]
    refine yA (fun w' hw => hb9.ext hw) la_38 rfl (yA (fun w' hw => hb11.ext hw) la_56 rfl ?_)
    have l2 := okp.l2
    refine (plainProg_ok (hP11.ext D) (by omega)).mono fun pv w12 ⟨hpp, x12⟩ => ⟨D.trans x12, ?_⟩
    have xD := D.trans x12
    refine same16 hpp (hq11.ext xD) (fun n hn => ?_) (by omega) fun w13 x13 => ⟨xD.trans x13, ?_⟩
    · obtain ⟨q, hq⟩ := List.getElem?_of_mem hn
      have := (okp.nodes q n hq).al5.2
      omega
    have xD3 := xD.trans x13
    refine yN (pickF ?_)
    simp only [Bool.not_true, gdY_f]
    refine yLen xa_23 (hS.ext x9) (yLen xa_23 hS2 (yNeS (pickF ?_)))
    simp only [gdY_f, gd_f]
    refine yA (fun w' hw => hb9.ext hw) la_38 rfl ?_
    refine (check_ok (hP11.ext xD3) okp).mono fun cv w14 ⟨hcv, x14⟩ => ⟨xD3.trans x14, ?_⟩
    subst hcv
    have xD4 := xD3.trans x14
    refine yN (pickF (ifD_false.2 ?_))
    -- the starts
    have hS4 := ((hS.ext x9).ext x91).ext xD4
    have hS24 := (hS2.ext x11).ext xD4
    generalize hTT : (liftK i (i.meth j) st r (i.meth j).code.length).2 = T at *
    refine ⟨fun u w' => ∃ q : Nat, u = i64 q ∧ q ≤ T.length ∧ Ext w14 w', fun u _ => T.length - (RowKit.intOf u).toNat, ⟨0, rfl, Nat.zero_le _, Ext.refl _⟩, ?_⟩
    rintro _ w15 ⟨q, rfl, hq, x15⟩ _
    refine lnx xa_23 (hS4.ext x15) (V_lss.2 (ifD_dec (fun hlt2 => ?_) fun hge2 => ?_))
    · obtain ⟨t, hty⟩ := ex_get (l := T) (j := q) (by omega)
      have hti : (T.map i64)[((q : Nat) : Int).toNat]? = some (i64 t) := by simp [hty]
      have D5 : Ext w15 w15.drew := (Ext.refl _).drew
      refine drawD.mk' (fun w' => Ext w15 w') D5 ?_
      refine ySl xa_23 l1_3 (hS4.ext x15) (fun _ h => h) (by omega) (by omega) hti ?_
      refine ySl xa_23 l1_3 (hS24.ext x15) (fun _ h => h) (by omega) (by omega) hti ?_
      refine yNeS (ifD_false.2 (V_add.2 ?_))
      rw [wrap_id (by omega) (by omega), i64_succ]
      exact ⟨⟨q + 1, rfl, by omega, x15.trans D5⟩, by simp only [intOf_i64]; omega⟩
    · refine V_add.2 ?_
      rw [wrap_id (by omega) (by omega), i64_succ]
      exact ⟨⟨j + 1, rfl, by omega, ((x49.trans x91).trans xD4).trans x15⟩, by simp only [intOf_i64]; omega⟩
end Go.Proofs.YtcdbikfnlggbnaaGreatDoor
namespace Go.Vc
open Go.ChangeShapes Go.WideShapes Go.ChangeAt Go.RowKit
variable {H : Type} {enc : TypeId × Value → H} {P : Program}

theorem post_of_ext {f : Func} {s : ChangeSpec} {apart fresh handsOn again : Bool} {W W' : World} {args : Array Value} {v : Value} {ds gs : List (DataW H)} {pa pv : List MemPlace}
    (hW : DataW.Whole enc P f.params.toList s.vars apart W args.toList ds gs (pa ++ pv)) (hx : Ext W W')
    (hr : ∀ b sp hd, DataW.TrodAll enc P W' b sp hd f.resultTypes.toList (v.resultList f.resultTypes.size) (s.fn H (ds ++ gs)).results [])
    (ha : ∀ sp : Nat → Bool, (∀ p ∈ pa ++ pv, sp p.block = true) → DataW.TrodAll enc P W' 0 sp true f.params.toList args.toList (s.fn H (ds ++ gs)).args pa)
    (hv : ∀ sp : Nat → Bool, (∀ p ∈ pa ++ pv, sp p.block = true) → DataW.TrodVars enc P W' sp s.vars (s.fn H (ds ++ gs)).vars pv)
    (hok : ∀ (j : Nat) (t : TypeId) (r : Value), f.resultTypes[j]? = some t → (v.resultList f.resultTypes.size)[j]? = some r → Value.okWide P W' .any 0 t r) :
    s.post enc P f apart fresh handsOn again W args v W' := by
  have hlt := hW.lt
  have hall : ∀ p ∈ pa ++ pv, (fun b => decide (b < W.heap.size)) p.block = true := fun p hp => decide_eq_true (hlt p hp)
  have hk := hx.below.frame (· ∈ pa ++ pv)
  refine ⟨ds, gs, pa ++ pv, [], pa, pv, hW, hr _ _ _, ha _ hall, hv _ hall, World.keptBut_mono (fun p hp => ⟨hp, .inr (by simpa using hp)⟩) hk, fun _ => ?_⟩
  obtain ⟨_, _, _, _, _, hz, hn⟩ := hW
  have h2 := trodAll_append (ha (fun _ => true) fun _ _ => rfl) (hr 0 (fun _ => true) true)
  refine ⟨hok, _, _, pa ++ pv, ⟨pa, pv, (by simpa using h2), hv _ fun _ _ => rfl, rfl, fun b off hp => ?_, hn⟩, fun p hp _ => hp⟩
  rw [hx.below.frozen (hlt _ hp)]
  exact hz b off hp
end Go.Vc
namespace Go.Vc
open Go.ChangeShapes Go.WideShapes Go.ChangeAt Go.RowKit
variable {H : Type} {enc : TypeId × Value → H} {P : Program}
theorem args_stay (hl : laidOutB P = true) {W W' : World} (hx : Ext W W') {sp : Nat → Bool} : ∀ {ts : List TypeId} {vs : List Value} {ds : List (DataW H)} {p : List MemPlace}, (ts.all fun t => P.readableRec t && decide (t < P.types.size)) = true →
    DataW.TrodAll enc P W 0 (fun _ => true) true ts vs ds p → (∀ x ∈ p, x.block < W.heap.size) → (∀ x ∈ p, sp x.block = true) → DataW.TrodAll enc P W' 0 sp true ts vs ds p
  | [], vs, ds, p, _, h, _, _ => by
    obtain ⟨rfl, rfl, rfl⟩ := trodAll_nil h
    exact trodAll_mk0
  | t :: ts, vs, ds, p, hr, h, hlt, hs => by
    simp only [List.all_cons, Bool.and_eq_true, decide_eq_true_eq] at hr
    obtain ⟨v, vs', d, ds', p1, p2, rfl, rfl, rfl, h1, h2⟩ := trodAll_cons h
    exact trodAll_cons_mk (WideElems.Trod_stays hl hr.1.1 hr.1.2 h1 (fun x hx' => hx.below.same (hlt x (by simp [hx']))) fun x hx' => hs x (by simp [hx']))
      (args_stay hl hx (by simpa using hr.2) h2 (fun x hx' => hlt x (by simp [hx'])) fun x hx' => hs x (by simp [hx']))
end Go.Vc
namespace Go.Vc
open Go.ChangeShapes
theorem laid_elem {P : Program} {W : World} {x : String} {ds : List (DataW Unit)} {g t e m : Nat} (hg : P.globalNamed x = some g) (ht : (P.globals[g]?).map (·.type) = some t) (hu : P.underlying t = some (.array m e)) {i : Nat} (hi : i < m) :
    ∀ {laid : List (String × DataW Unit)} {ps : List MemPlace}, DataW.LaidVars P W laid ps → (x, .agg ds) ∈ laid → ∃ (fuel : Nat) (q : List MemPlace) (cs : List Value) (d : DataW Unit), ds[i]? = some d ∧ DataW.trod (fun _ => ()) P W 0 (fun _ => true) false fuel e ((cs.drop (i * P.cellsOf e)).take (P.cellsOf e)) = some (d, q) ∧ ∀ j : Nat, W.cell? ⟨g, j, none⟩ = cs[j]?
  | [], _, _, hm => by cases hm
  | (n', d') :: r, ps, h, hm => by
    obtain ⟨g', t', cs, fuel, p, q, h1, h2, h3, h4, h5, _⟩ := h
    rcases List.mem_cons.1 hm with e1 | e1
    · cases e1
      obtain rfl := Option.some.inj (hg.symm.trans h1)
      obtain rfl := Option.some.inj (ht.symm.trans h2)
      obtain ⟨xs, m', _, ex, _, hxl, hel⟩ := DataW.trod_array hu h4
      have hE := hel i hi
      rw [List.getElem?_eq_getElem (by omega)] at hE
      refine ⟨m', (xs[i]'(by omega)).2, cs.toList, (xs[i]'(by omega)).1, ?_, hE, fun j => by rw [World.var?_cell hg h3 j, ← Array.getElem?_toList]⟩
      have : ds = xs.map (·.1) := by have := congrArg Prod.fst ex; simpa using this
      rw [this, List.getElem?_map, List.getElem?_eq_getElem (by omega)]; rfl
    · exact laid_elem hg ht hu hi h5 e1
/-- A whole number of an array of them. -/
theorem laid_int {P : Program} {W : World} {x : String} {ds : List (DataW Unit)} {g t e m : Nat} {k : IntKind} {laid : List (String × DataW Unit)} {ps : List MemPlace} (hg : P.globalNamed x = some g) (ht : (P.globals[g]?).map (·.type) = some t) (hu : P.underlying t = some (.array m e)) (he : P.underlying e = some (.int k)) (c1 : P.cellsOf e = 1)
    (h : DataW.LaidVars P W laid ps) (hm : (x, .agg ds) ∈ laid) {i : Nat} (hi : i < m) : ∃ z, ds[i]? = some (.lit (.int k z)) ∧ W.cell? ⟨g, i, none⟩ = some (.int k z) := by
  obtain ⟨fuel, q, cs, d, h1, h2, h3⟩ := laid_elem hg ht hu hi h hm
  rw [c1, Nat.mul_one] at h2
  obtain ⟨z, e1, e2, _⟩ := DataW.trod_int he h2
  cases e2
  refine ⟨z, h1, ?_⟩
  rw [h3 i]
  have h0 : ((cs.drop i).take 1)[0]? = some (.int k z) := by rw [e1]; rfl
  simpa using h0
/-- A field that is a whole number, of an array of structs. -/
theorem laid_fld {P : Program} {W : World} {x : String} {ds : List (DataW Unit)} {g t e m c f o u : Nat} {fs : Array Field} {k : IntKind} {laid : List (String × DataW Unit)} {ps : List MemPlace} (hg : P.globalNamed x = some g) (ht : (P.globals[g]?).map (·.type) = some t) (hu : P.underlying t = some (.array m e)) (he : P.underlying e = some (.struct fs)) (hc : P.cellsOf e = c)
    (hf : (fs[f]?).map (fun y => (y.type, y.offset)) = some (u, o)) (hk : P.underlying u = some (.int k)) (c1 : P.cellsOf u = 1) (ho : o < c)
    (h : DataW.LaidVars P W laid ps) (hm : (x, .agg ds) ∈ laid) {i : Nat} (hi : i < m) : ∃ l z, ds[i]? = some (.agg l) ∧ l[f]? = some (.lit (.int k z)) ∧ W.cell? ⟨g, i * c + o, none⟩ = some (.int k z) := by
  obtain ⟨fuel, q, cs, d, h1, h2, h3⟩ := laid_elem hg ht hu hi h hm
  rw [hc] at h2
  obtain ⟨xs, n, _, ex, _, hxl, hel⟩ := DataW.trod_struct he h2
  obtain ⟨fd, hfd, hfe⟩ := Option.map_eq_some_iff.1 hf
  have h4 := hel f fd hfd
  have hlt : f < fs.size := (Array.getElem?_eq_some_iff.1 hfd).1
  simp only [Prod.mk.injEq] at hfe
  obtain ⟨rfl, rfl⟩ := hfe
  rw [c1, List.getElem?_eq_getElem (by omega)] at h4
  obtain ⟨z, e1, e2, _⟩ := DataW.trod_int hk h4
  have e3 : d = .agg (xs.map (·.1)) := congrArg Prod.fst ex
  refine ⟨_, z, by rw [h1, e3], by rw [List.getElem?_map, List.getElem?_eq_getElem (by omega)]; simp [e2], ?_⟩
  rw [h3]
  have h0 : ((((cs.drop (i * c)).take c).drop fd.offset).take 1)[0]? = some (.int k z) := by rw [e1]; rfl
  simpa [List.getElem?_take, List.getElem?_drop, ho] using h0
end Go.Vc
