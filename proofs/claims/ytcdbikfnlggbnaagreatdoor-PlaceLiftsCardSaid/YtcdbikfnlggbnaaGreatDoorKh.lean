/- Package place: may a register have a place? Which nodes are pure; which leave the chip's registers. -/
import Derived.Test.YtcdbikfnlggbnaaGreatDoorKg
import Derived.Deep.AppendLies
import Derived.Test.YtcdbikfnlggbnaaGreatDoorKb
import Derived.WalkKit
import Derived.ProofKit
import Derived.OpenShut
import Derived.WideKeyArgs
import Derived.ChangeArms
import Derived.FnData
namespace Go.Proofs.YtcdbikfnlggbnaaGreatDoor
open Tryz
open Go.Vc
def MayP (m : Mx) (sl : List Bool) (of : List Int) (r : Nat) (at' : Int) : Prop := (sl[r]? = some true → 16 ≤ at') ∧ ∀ (o : Nat) (y : Int), of[o]? = some y → m r o = true → y ≠ at'
set_option maxHeartbeats 1000000 in
theorem may_ok {R : Nat} {m : Mx} {sl : List Bool} {of : List Int} {mv slv ov ofv : Value} {r : Nat} {at' : Int} {w : World} (hR : R ≤ 40) (hm : MatIs w mv R R m) (hs : BoolsAre w slv sl) (hsl : sl.length = R) (ho : IntsAre w ofv of) (hof : of.length = R) (hr : r < R) :
  callD prog 47 #[.agg #[mv, slv, ov], i64 r, i64 at', ofv] w fun q w' => (∃ ok : Bool, q = .bool ok ∧ (ok = true ↔ MayP m sl of r at')) ∧ Ext w w' := by
 apply F47_wp
 unfold F47_den
 obtain ⟨cs, hcs, hrow⟩ := hm.row (by omega) hR
 obtain ⟨u, hu, hub⟩ := hrow r hr
 obtain ⟨oa, oc, rfl⟩ := ho.shape
 obtain ⟨s, hss⟩ := ex_get (l := sl) (j := r) (by omega)
 refine bx fun b w1 hb1 x1 => ?_
 refine ldB hb1 fa_109_1 l1_78 rfl ?_
 refine ldx xa_78 l1_4 (hs.ext x1) (by omega) (by omega) (getB hss) ?_
 have key : ∀ {X : Prop}, ((s = true ∧ at' < 16) → (∃ ok : Bool, Value.bool false = .bool ok ∧ (ok = true ↔ MayP m sl of r at')) ∧ Ext w w1) ∧ (¬ (s = true ∧ at' < 16) → X) → True := fun _ => trivial
 have no : ∀ {w'}, Ext w w' → ¬ MayP m sl of r at' → (∃ ok : Bool, Value.bool false = .bool ok ∧ (ok = true ↔ MayP m sl of r at')) ∧ Ext w w' := fun hx hn => ⟨⟨false, rfl, fun h => (by cases h), fun h => absurd h hn⟩, hx⟩
 have rest : (s = true → 16 ≤ at') → ∃ (I1 : NP 1) (μ1 : NF 1), I1 (Value.int IntKind.i64 0) w1 ∧
   ∀ (t22 : Value), ∀ w10 : World, I1 t22 w10 → ∀ _f : Env,
   V prog (binOp .lss 3 t22 (i64 of.length)) w10 fun t23 w11 =>
   ifD t23 (
   V prog (Instr.indexAt 23 (.slice oa of.length oc) t22) w11 fun t25 w12 =>
   V prog (Instr.loadAt 3 t25) w12 fun t26 w13 =>
   V prog (Instr.fieldAt 109 (.pointer (some ⟨b, 0, none⟩)) 0) w13 fun t27 w14 =>
   V prog (Instr.loadAt 98 t27) w14 fun t28 w15 =>
   V prog (Instr.indexAt 98 t28 (i64 r)) w15 fun t30 w16 =>
   V prog (Instr.loadAt 78 t30) w16 fun t31 w17 =>
   V prog (Instr.indexAt 78 t31 t22) w17 fun t33 w18 =>
   V prog (Instr.loadAt 4 t33) w18 fun t34 w19 =>
   gd t34 true (fun K => K t26 w19) w19 fun t36 w20 =>
   gd t34 true (fun K => K (i64 at') w20) w20 fun t37 w21 =>
   gd t34 true (fun K => V prog (do eqGuard .eql 3 (Operand.tmp 36) (Operand.tmp 37) t36 t37; binOp .eql 3 t36 t37) w21 K) w21 fun t38 w22 =>
   pickD t34 t38 (Value.bool false) fun t39 =>
   ifD t39 (
   (∃ ok : Bool, Value.bool false = .bool ok ∧ (ok = true ↔ MayP m sl of r at')) ∧ Ext w w22) (
   V prog (binOp .add 3 t22 (Value.int IntKind.i64 1)) w22 fun t40 w24 =>
   I1 t40 w24 ∧ μ1 t40 w24 < μ1 t22 w10)) (
   (∃ ok : Bool, Value.bool true = .bool ok ∧ (ok = true ↔ MayP m sl of r at')) ∧ Ext w w11) := by
  intro hslot
  refine ⟨fun v w' => ∃ i : Nat, v = i64 i ∧ i ≤ of.length ∧ w1 = w' ∧ ∀ (o : Nat) (y : Int), o < i → of[o]? = some y → m r o = true → y ≠ at', fun v _ => of.length - (RowKit.intOf v).toNat, ⟨0, rfl, Nat.zero_le _, rfl, fun o y h => by omega⟩, ?_⟩
  rintro _ _ ⟨i, rfl, hi, rfl, hdone⟩ _
  refine V_lss.2 (ifD_dec (fun hlt => ?_) fun hge => ?_)
  ·have hi' : i < of.length := by omega
   obtain ⟨y, hy⟩ := ex_get hi'
   refine ldx xa_23 l1_3 (ho.ext x1) (by omega) (by omega) (getI hy) ?_
   refine ldB hb1 fa_109_0 l1_98 rfl ?_
   refine ldx xa_98 l1_78 (hcs.ext x1) (by omega) (by omega) (by simpa using hu) ?_
   have hub' : SliceIs w u 1 R ((rowL m r R).map Value.bool) := by have := hub; unfold BoolsAre at this; rw [rowL_len] at this; exact this
   refine ldx xa_78 l1_4 (hub'.ext x1) (by omega) (by omega) (getB (rowL_get (by omega))) ?_
   have go : (m r i = true → y ≠ at') → V prog (binOp .add 3 (i64 i) (Value.int IntKind.i64 1)) w1 fun t40 w24 => (∃ i : Nat, t40 = i64 i ∧ i ≤ of.length ∧ w1 = w24 ∧ ∀ (o : Nat) (y : Int), o < i → of[o]? = some y → m r o = true → y ≠ at') ∧ of.length - (RowKit.intOf t40).toNat < of.length - (RowKit.intOf (i64 (i : Int))).toNat := by
    intro h
    refine V_add.2 ?_
    rw [wrap_id (by omega) (by omega), i64_succ]
    refine ⟨⟨i + 1, rfl, by omega, rfl, fun o y' ho1 ho2 => ?_⟩, by simp only [intOf_i64]; omega⟩
    by_cases hoi : o = i
    ·subst hoi
     rw [hy] at ho2
     cases ho2
     exact h
    ·exact hdone o y' (by omega) ho2
   cases hmi : m r i with
   | false =>
    simp only [gd_ft, pickD_iff, Bool.false_eq_true, reduceIte, ifD_false]
    exact go fun h => by rw [hmi] at h; cases h
   | true =>
    simp only [gd_t]
    refine V_eqlI.2 ?_
    simp only [pickD_iff, reduceIte]
    refine ifD_dec (fun heq => ?_) fun hne => ?_
    ·exact no x1 fun h => h.2 i y hy hmi heq
    ·exact go fun _ h => hne h
  ·have hil : i = of.length := by omega
   refine ⟨⟨true, rfl, fun _ => ⟨fun h => hslot (by rw [hss] at h; exact Option.some.inj h), fun o y h1 h2 => hdone o y (by have := (List.getElem?_eq_some_iff.1 h1).1; omega) h1 h2⟩, fun _ => rfl⟩, x1⟩
 clear key
 cases s with
 | false =>
  simp only [gd_ft, pickD_iff, Bool.false_eq_true, reduceIte, ifD_false]
  refine V_ln_23.2 ?_
  exact rest fun h => by cases h
 | true =>
  simp only [gd_t]
  refine V_lss.2 ?_
  simp only [pickD_iff, reduceIte]
  refine ifD_dec (fun hlt => ?_) fun hge => ?_
  ·exact no x1 fun h => by have := h.1 hss; omega
  ·refine V_ln_23.2 ?_
   exact rest fun _ => by omega
end Go.Proofs.YtcdbikfnlggbnaaGreatDoor
namespace Go.Proofs.YtcdbikfnlggbnaaGreatDoor
open Tryz
open Go.Vc
def GNode.pureB : GNode → Bool
 | .const _ _ | .move _ _ | .bin _ _ _ _ | .un _ _ _ | .choose _ _ _ _ | .tick | .goto _ | .branch _ _ => true
 | _ => false
def GNode.leavesB : GNode → Bool
 | .getField _ _ | .putField _ _ => true
 | g => g.pureB
set_option maxHeartbeats 1000000 in
theorem pure_ok {g : GNode} {v : Value} {w : World} (h : NodeIs w v g) : callD prog 111 #[v] w fun r w' => r = .bool g.pureB ∧ w' = w := by
 obtain ⟨sv, rfl, hs⟩ := h
 apply F111_wp
 unfold F111_den
 cases g <;> (dsimp only [GNode.val]; (repeat (first | (with_reducible refine thK (by first | exact ta_105 | exact ta_113 | exact ta_140 | exact ta_142 | exact ta_144 | exact ta_146 | exact ta_148 | exact ta_150 | exact ta_152 | exact ta_155 | exact ta_157 | exact ta_162 | exact ta_49 | exact ta_84) ?_) | (with_reducible refine tmK (by first | exact ta_105 | exact ta_113 | exact ta_140 | exact ta_142 | exact ta_144 | exact ta_146 | exact ta_148 | exact ta_150 | exact ta_152 | exact ta_155 | exact ta_157 | exact ta_162 | exact ta_49 | exact ta_84) (by decide) fun _ => ?_))); simp only [pickD_iff, ifD_true, ifD_false, Bool.false_eq_true, reduceIte]; first | exact ⟨rfl, rfl⟩ | exact ⟨trivial, rfl⟩ | exact ⟨trivial, trivial⟩ | exact ⟨rfl, trivial⟩)
set_option maxHeartbeats 1000000 in
theorem leaves_ok {g : GNode} {v : Value} {w : World} (h : NodeIs w v g) : callD prog 82 #[v] w fun r w' => r = .bool g.leavesB ∧ w' = w := by
 have h0 := h
 obtain ⟨sv, rfl, hs⟩ := h
 apply F82_wp
 unfold F82_den
 have hp := pure_ok h0
 cases g <;> (dsimp only [GNode.val] at hp ⊢; (repeat (first | (with_reducible refine thK (by first | exact ta_105 | exact ta_113 | exact ta_140 | exact ta_142 | exact ta_144 | exact ta_146 | exact ta_148 | exact ta_150 | exact ta_152) ?_) | (with_reducible refine tmK (by first | exact ta_105 | exact ta_113 | exact ta_140 | exact ta_142 | exact ta_144 | exact ta_146 | exact ta_148 | exact ta_150 | exact ta_152) (by decide) fun _ => ?_))); simp only [pickD_iff, ifD_true, ifD_false, Bool.false_eq_true, reduceIte]; first | exact ⟨rfl, rfl⟩ | exact ⟨trivial, rfl⟩ | exact ⟨trivial, trivial⟩ | exact ⟨rfl, trivial⟩ | exact hp)
end Go.Proofs.YtcdbikfnlggbnaaGreatDoor
namespace Go.Proofs.YtcdbikfnlggbnaaGreatDoor
open Tryz
open Go.Vc
structure Ru (w0 w : World) (ub g0 sg : Nat) (ov : Value) (gs : List Nat) (R : Nat) (m : Mx) (sb : List Bool) : Prop where
 x : Ext w0 w
 u : Blk w ub [.slice (some ⟨g0, 0, none⟩) R R, .slice (some ⟨sg, 0, none⟩) R R, ov] 109
 out : Blk w g0 (gs.map (sl R)) 78
 slot : Blk w sg (sb.map Value.bool) 4
 rows : ∀ (k g : Nat), gs[k]? = some g → Blk w g ((rowL m k R).map Value.bool) 4
 lo : w0.heap.size ≤ ub ∧ w0.heap.size ≤ g0 ∧ w0.heap.size ≤ sg ∧ ∀ g ∈ gs, w0.heap.size ≤ g
 ne : ub ≠ g0 ∧ ub ≠ sg ∧ g0 ≠ sg ∧ ∀ g ∈ gs, g ≠ ub ∧ g ≠ g0 ∧ g ≠ sg
 nd : gs.Nodup
theorem Ru.setRow {w0 w : World} {ub g0 sg R : Nat} {ov : Value} {gs : List Nat} {m : Mx} {sb : List Bool} (h : Ru w0 w ub g0 sg ov gs R m sb) {k g : Nat} (hk : gs[k]? = some g) (r : Nat) (v : Bool) :
  Ru w0 (w.setCell ⟨g, r, none⟩ (.bool v)) ub g0 sg ov gs R (updM m k r v) sb := by
 have hgm := List.mem_of_getElem? hk
 obtain ⟨n1, n2, n3⟩ := h.ne.2.2.2 g hgm
 refine ⟨h.x.setCell (h.lo.2.2.2 g hgm) _, h.u.other (Ne.symm n1), h.out.other (Ne.symm n2), h.slot.other (Ne.symm n3), fun k' g' hk' => ?_, h.lo, h.ne, h.nd⟩
 by_cases he : k' = k
 ·subst he
  rw [hk] at hk'
  cases hk'
  rw [rowL_upd, ← map_set_b]
  exact (h.rows _ _ hk).set r _
 ·rw [rowL_other he]
  exact (h.rows k' g' hk').other fun hgg => he (nd_inj h.nd hk' (hgg ▸ hk))
theorem Ru.setSlot {w0 w : World} {ub g0 sg R : Nat} {ov : Value} {gs : List Nat} {m : Mx} {sb : List Bool} (h : Ru w0 w ub g0 sg ov gs R m sb) (r : Nat) (v : Bool) :
  Ru w0 (w.setCell ⟨sg, r, none⟩ (.bool v)) ub g0 sg ov gs R m (sb.set r v) := by
 refine ⟨h.x.setCell h.lo.2.2.1 _, h.u.other h.ne.2.1, h.out.other h.ne.2.2.1, ?_, fun k' g' hk' => (h.rows k' g' hk').other ((h.ne.2.2.2 g' (List.mem_of_getElem? hk')).2.2), h.lo, h.ne, h.nd⟩
 rw [← map_set_b]
 exact h.slot.set r _
end Go.Proofs.YtcdbikfnlggbnaaGreatDoor
namespace Go.Proofs.YtcdbikfnlggbnaaGreatDoor
open Tryz
open Go.Vc
set_option maxHeartbeats 1600000 in
theorem all_ok {w0 w : World} {ub g0 sg R B : Nat} {ov lv : Value} {gs : List Nat} {m : Mx} {sb l : List Bool} (hR : R ≤ 40) (hgl : gs.length = R) (hl : l.length = R) (hu : Ru w0 w ub g0 sg ov gs R m sb)
  (ha : w.ownsRow B 4 1 lv R (l.map Value.bool)) (hgB : ∀ k, lv.ownBlock = some k → ¬ k ∈ gs) :
  callD prog 80 #[.pointer (some ⟨ub, 0, none⟩), lv] w fun _ w' => (∃ m', Ru w0 w' ub g0 sg ov gs R m' sb ∧ ∀ a b, a < R → b < R → (m' a b = true ↔ m a b = true ∨ (a ≠ b ∧ l[a]? = some true ∧ l[b]? = some true))) ∧ Fr (fun i => i ∈ gs) w w' := by
 apply F80_wp
 unfold F80_den
 refine lnx xa_78 (SliceIs.of_own ha) ?_
 refine ⟨fun v w' => ∃ (i : Nat) (m1 : Mx), v = i64 i ∧ i ≤ R ∧ Ru w0 w' ub g0 sg ov gs R m1 sb ∧ Fr (fun i => i ∈ gs) w w' ∧ ∀ a b, a < R → b < R → (m1 a b = true ↔ m a b = true ∨ (a < i ∧ a ≠ b ∧ l[a]? = some true ∧ l[b]? = some true)), fun v _ => R - (RowKit.intOf v).toNat,
  ⟨0, m, rfl, Nat.zero_le _, hu, Fr.refl _ _, fun a b _ _ => by simp⟩, ?_⟩
 rintro _ w1 ⟨i, m1, rfl, hi, hu1, hk1, hm1⟩ _
 refine V_lss.2 (ifD_dec (fun hlt => ?_) fun hge => ?_)
 ·have hi' : i < R := by omega
  have ha1 := hk1.own ha hgB
  obtain ⟨p, hp⟩ := ex_get (l := l) (j := i) (by omega)
  obtain ⟨g, hg⟩ := ex_get (l := gs) (j := i) (by omega)
  refine ldO' xa_78 l1_4 ha1 (by omega) (by omega) (getB hp) ?_
  refine lnx xa_78 (SliceIs.of_own ha1) ?_
  refine ⟨fun v w' => ∃ (j : Nat) (m2 : Mx), v = i64 j ∧ j ≤ R ∧ Ru w0 w' ub g0 sg ov gs R m2 sb ∧ Fr (fun i => i ∈ gs) w w' ∧ ∀ a b, a < R → b < R → (m2 a b = true ↔ m1 a b = true ∨ (a = i ∧ b < j ∧ a ≠ b ∧ l[a]? = some true ∧ l[b]? = some true)), fun v _ => R - (RowKit.intOf v).toNat,
   ⟨0, m1, rfl, Nat.zero_le _, hu1, hk1, fun a b _ _ => by simp⟩, ?_⟩
  rintro _ w2 ⟨j, m2, rfl, hj, hu2, hk2, hm2⟩ _
  refine V_lss.2 (ifD_dec (fun hjl => ?_) fun hjg => ?_)
  ·have hj' : j < R := by omega
   have ha2 := hk2.own ha hgB
   obtain ⟨q, hq⟩ := ex_get (l := l) (j := j) (by omega)
   refine ldO' xa_78 l1_4 ha2 (by omega) (by omega) (getB hq) ?_
   have stay : ¬ (i ≠ j ∧ l[i]? = some true ∧ l[j]? = some true) → V prog (binOp .add 3 (i64 j) (Value.int IntKind.i64 1)) w2 fun t40 w24 => (∃ (j : Nat) (m2 : Mx), t40 = i64 j ∧ j ≤ R ∧ Ru w0 w24 ub g0 sg ov gs R m2 sb ∧ Fr (fun i => i ∈ gs) w w24 ∧ ∀ a b, a < R → b < R → (m2 a b = true ↔ m1 a b = true ∨ (a = i ∧ b < j ∧ a ≠ b ∧ l[a]? = some true ∧ l[b]? = some true))) ∧ R - (RowKit.intOf t40).toNat < R - (RowKit.intOf (i64 (j : Int))).toNat := by
    intro hn
    refine V_add.2 ?_
    rw [wrap_id (by omega) (by omega), i64_succ]
    refine ⟨⟨j + 1, m2, rfl, by omega, hu2, hk2, fun a b h1 h2 => ?_⟩, by simp only [intOf_i64]; omega⟩
    rw [hm2 a b h1 h2]
    constructor
    ·rintro (h | ⟨h3, h4, h5⟩)
     ·exact .inl h
     ·exact .inr ⟨h3, by omega, h5⟩
    ·rintro (h | ⟨h3, h4, h5⟩)
     ·exact .inl h
     ·by_cases hbj : b = j
      ·subst h3 hbj; exact absurd h5 hn
      ·exact .inr ⟨h3, by omega, h5⟩
   cases p with
   | false =>
    simp only [gd_ft, pickD_iff, Bool.false_eq_true, reduceIte, ifD_false]
    exact stay fun h => by rw [hp] at h; cases h.2.1
   | true =>
    simp only [gd_t, pickD_iff, reduceIte]
    cases q with
    | false =>
     simp only [gd_ft, Bool.false_eq_true, reduceIte, ifD_false]
     exact stay fun h => by rw [hq] at h; cases h.2.2
    | true =>
     simp only [gd_t, reduceIte]
     refine V_neqI.2 ?_
     try simp only [pickD_iff, reduceIte]
     refine ifD_dec (fun hne => ?_) fun heq => ?_
     ·refine ⟨.inl ⟨_, rfl⟩, ?_⟩
      refine ldB hu2.u.boxed fa_109_0 l1_98 rfl ?_
      refine ldx xa_98 l1_78 (hu2.out.slice (n := R) (by simpa using hgl) (by unfold maxLen; omega)) (by omega) (by omega) (by simp [hg] : (gs.map (sl R))[((i : Nat) : Int).toNat]? = some (sl R g)) ?_
      refine stB xa_78 inf4 (hu2.rows i g hg) (by simp [rowL_len]) (by omega) (by omega) rfl ?_
      refine V_add.2 ?_
      rw [wrap_id (by omega) (by omega), i64_succ]
      have hij : i ≠ j := fun h => hne (by rw [h])
      refine ⟨⟨j + 1, updM m2 i j true, rfl, by omega, hu2.setRow hg j true, hk2.set (List.mem_of_getElem? hg), fun a b h1 h2 => ?_⟩, by simp only [intOf_i64]; omega⟩
      have hm := hm2 a b h1 h2
      by_cases hab : a = i ∧ b = j
      ·obtain ⟨rfl, rfl⟩ := hab
       simp [updM, hp, hq, hij]
      ·have : updM m2 i j true a b = m2 a b := by unfold updM; rw [if_neg hab]
       rw [this, hm]
       constructor
       ·rintro (h | ⟨h3, h4, h5⟩)
        ·exact .inl h
        ·exact .inr ⟨h3, by omega, h5⟩
       ·rintro (h | ⟨h3, h4, h5⟩)
        ·exact .inl h
        ·exact .inr ⟨h3, by have : b ≠ j := fun h => hab ⟨h3, h⟩; omega, h5⟩
     ·exact stay fun h => h.1 (by have : (i : Int) = j := by simpa using heq
                                  omega)
  ·have hjR : j = R := by omega
   subst hjR
   refine V_add.2 ?_
   rw [wrap_id (by omega) (by omega), i64_succ]
   refine ⟨⟨i + 1, m2, rfl, by omega, hu2, hk2, fun a b h1 h2 => ?_⟩, by simp only [intOf_i64]; omega⟩
   rw [hm2 a b h1 h2, hm1 a b h1 h2]
   constructor
   ·rintro ((h | ⟨h3, h4⟩) | ⟨h3, _, h5⟩)
    ·exact .inl h
    ·exact .inr ⟨by omega, h4⟩
    ·exact .inr ⟨by omega, h5⟩
   ·rintro (h | ⟨h3, h4⟩)
    ·exact .inl (.inl h)
    ·by_cases hai : a = i
     ·exact .inr ⟨hai, h2, h4⟩
     ·exact .inl (.inr ⟨by omega, h4⟩)
 ·have hiR : i = R := by omega
  subst hiR
  refine ⟨⟨m1, hu1, fun a b h1 h2 => ?_⟩, hk1⟩
  rw [hm1 a b h1 h2]
  simp [h1]
end Go.Proofs.YtcdbikfnlggbnaaGreatDoor
namespace Go.Proofs.YtcdbikfnlggbnaaGreatDoor
open Tryz
open Go.Vc
def Valid (x slots : Int) : Prop := x = 5 ∨ x = 6 ∨ (16 ≤ x ∧ x < 16 + slots)
def SetK (p : GProg) (k r : Nat) : Prop := Alive p k r ∨ (r : Int) = (p.at' k).df
def SetS (p : GProg) (r : Nat) : Prop := AheadP p (Alive p) 0 r ∨ (r : Int) < p.params
def ApartS (S : Nat → Prop) (R : Nat) (of : List Int) : Prop := ∀ (r s : Nat), s < r → r < R → S r → S s → of[r]? ≠ of[s]?
structure GoodP (p : GProg) (R : Nat) (of : List Int) (slots : Int) : Prop where
 len : of.length = R
 s0 : 0 ≤ slots
 s1 : slots ≤ 40
 val : ∀ (r : Nat) (x : Int), of[r]? = some x → Valid x slots
 sets : ∀ k, k < p.nodes.length → ApartS (SetK p k) R of
 slot : ∀ k, k < p.nodes.length → (p.at' k).leavesB = false → ∀ (r : Nat) (x : Int), Alive p k r → (r : Int) ≠ (p.at' k).df → of[r]? = some x → 16 ≤ x
 start : ApartS (SetS p) R of
theorem apart_set {S : Nat → Prop} {R : Nat} {l : List Bool} {of : List Int} (hl : l.length = R) (h : ∀ r, r < R → (l[r]? = some true ↔ S r)) : Apart l of ↔ ApartS S R of := by
 constructor
 ·intro h1 r s hs hr h2 h3
  exact h1 r s hs ((h r hr).2 h2) ((h s (by omega)).2 h3)
 ·intro h1 r s hs h2 h3
  have hr : r < R := by have := (List.getElem?_eq_some_iff.1 h2).1; omega
  exact h1 r s hs hr ((h r hr).1 h2) ((h s (by omega)).1 h3)
theorem leaves_pk (g : GNode) : g.leavesB = false ↔ g.pk ≥ 11 := by cases g <;> simp [GNode.leavesB, GNode.pureB, GNode.pk]
theorem withL_set {p : GProg} {R k : Nat} {m : Mx} (hm : ∀ r, r < R → (m k r = true ↔ Alive p k r)) (_ : (p.at' k).df < R) : ∀ r, r < R → ((withL (rowL m k R) (p.at' k).df)[r]? = some true ↔ SetK p k r) := by
 intro r hr
 unfold withL SetK
 split
 ·rename_i h0
  by_cases he : (p.at' k).df.toNat = r
  ·rw [he, List.getElem?_set_self (by rw [rowL_len]; exact hr)]
   simp
   right; omega
  ·rw [List.getElem?_set_ne he, rowL_get hr]
   simp only [Option.some.injEq]
   rw [hm r hr]
   constructor
   ·exact .inl
   ·rintro (h | h)
    ·exact h
    ·omega
 ·rename_i h0
  rw [rowL_get hr]
  simp only [Option.some.injEq]
  rw [hm r hr]
  constructor
  ·exact .inl
  ·rintro (h | h)
   ·exact h
   ·omega
end Go.Proofs.YtcdbikfnlggbnaaGreatDoor
namespace Go.Proofs.YtcdbikfnlggbnaaGreatDoor
open Tryz
open Go.Vc
theorem ldxF {P : Program} {w : World} {K : Value → World → Prop} {t s f o ft sz : Nat} {v : Value} {n : Nat} {cs : List Value} {k : IntKind} {i : Int} {u : Value} (h : XA P t sz) (hf : FA P s f o) (hl : L1 P ft) (hs : SliceIs w v sz n cs) (h0 : 0 ≤ i) (h1 : i < n)
  (hu : cs[i.toNat * sz + o]? = some u) (hk : K u w) :
  V P (Instr.indexAt t v (.int k i)) w fun p w1 => V P (Instr.fieldAt s p f) w1 fun q w2 => V P (Instr.loadAt ft q) w2 K := by
 obtain ⟨e, z, b', hte, hi⟩ := h
 obtain ⟨d, hd, ha⟩ := hl
 obtain ⟨b, off, cap, rfl, hcell⟩ := hs.there (by omega)
 refine V.ok (r_index hte hi h0 h1) (V.ok (hf.ex w b _) (V.ok (r_load hd ha ?_) hk))
 have := hcell _ _ hu
 rw [← Nat.add_assoc] at this
 exact this
theorem pk_cell {cs : List Value} {k : Nat} {g : GNode} {m : Int} {sv : Value} (h : (cs.drop (k * 8)).take 8 = g.pcs m sv) : cs[(k : Int).toNat * 8 + 0]? = some (i64 g.pk) := by
 have : ((cs.drop (k * 8)).take 8)[0]? = some (i64 g.pk) := by rw [h]; rfl
 simpa [List.getElem?_take, List.getElem?_drop] using this
set_option maxHeartbeats 4000000 in
theorem refRight_ok {p : GProg} {R : Nat} {pv ofv : Value} {of : List Int} {slots : Int} {w : World} (hp : PProgIs w pv p.params p.regs p.nodes) (hargs : ∀ n ∈ p.nodes, n.args.length ≤ 4294967296) (hv : OkProg p) (hR : p.regs = R)
  (hpar : 0 ≤ p.params ∧ p.params ≤ R) (ho : IntsAre w ofv of) (_ : of.length ≤ 1000000) :
  callD prog 22 #[pv, .agg #[ofv, i64 slots]] w fun r w' => (∃ ok : Bool, r = .bool ok ∧ (ok = true ↔ GoodP p R of slots)) ∧ Ext w w' := by
 have hp0 := hp
 obtain ⟨ns, cs, rfl, hs, hel⟩ := hp
 obtain ⟨na, nc, rfl⟩ := hs.shape
 obtain ⟨oa, oc, rfl⟩ := ho.shape
 have hl1 := hv.l1; have hl2 := hv.l2; have hr1 := hv.r1; have hr2 := hv.r2
 have no : ∀ {w'}, Ext w w' → ¬ GoodP p R of slots → (∃ ok : Bool, Value.bool false = .bool ok ∧ (ok = true ↔ GoodP p R of slots)) ∧ Ext w w' := fun hx hn => ⟨⟨false, rfl, fun h => (by cases h), fun h => absurd h hn⟩, hx⟩
 apply F22_wp
 unfold F22_den
 refine bx fun b w1 hb x1 => ?_
 refine bx fun b2 w2 hb2 x2 => ?_
 have X2 := x1.trans x2
 have hb' := hb.ext x2
 refine ldB hb2 fa_68_0 l1_23 rfl (lnx xa_23 (ho.ext X2) ?_)
 refine ldB hb' fa_56_1 l1_3 rfl (V_neqI.2 ?_)
 rw [hR]
 by_cases h1 : ((of.length : Nat) : Int) ≠ ((R : Nat) : Int)
 ·simp only [h1, ne_eq, not_false_eq_true, gd_tf, pickD_iff, ifD_true, reduceIte, decide_true]
  exact no X2 fun h => h1 (by have := h.len; omega)
 have h1' : of.length = R := by omega
 simp only [h1, gd_f, pickD_iff, reduceIte, Bool.false_eq_true, decide_false]
 refine ldB hb2 fa_68_1 l1_3 rfl (V_lss.2 ?_)
 by_cases h2 : slots < 0
 ·simp only [h2, gd_tf, pickD_iff, ifD_true, reduceIte, decide_true]
  exact no X2 fun h => by have := h.s0; omega
 simp only [h2, gd_f, pickD_iff, reduceIte, Bool.false_eq_true, decide_false]
 refine ldB hb2 fa_68_1 l1_3 rfl (V_gtr.2 ?_)
 by_cases h3 : slots > 40
 ·simp only [h3, ifD_true, decide_true]
  exact no X2 fun h => by have := h.s1; omega
 simp only [h3, ifD_false, decide_false]
 refine ⟨fun v w' => ∃ i : Nat, v = i64 i ∧ i ≤ of.length ∧ w2 = w' ∧ ∀ (r : Nat) (x : Int), r < i → of[r]? = some x → Valid x slots, fun v _ => of.length - (RowKit.intOf v).toNat, ⟨0, rfl, Nat.zero_le _, rfl, fun r x h => by omega⟩, ?_⟩
 rintro _ _ ⟨i, rfl, hi, rfl, hval⟩ _
 refine ldB hb2 fa_68_0 l1_23 rfl (lnx xa_23 (ho.ext X2) (V_lss.2 (ifD_dec (fun hlt => ?_) fun hge => ?_)))
 ·have hi' : i < of.length := by omega
  obtain ⟨x, hx⟩ := ex_get hi'
  refine ldB hb2 fa_68_0 l1_23 rfl ?_
  refine ldx xa_23 l1_3 (ho.ext X2) (by omega) (by omega) (getI hx) (V_neqI.2 ?_)
  have go : Valid x slots → V prog (binOp .add 3 (i64 i) (Value.int IntKind.i64 1)) w2 fun t36 w40 => (∃ i : Nat, t36 = i64 i ∧ i ≤ of.length ∧ w2 = w40 ∧ ∀ (r : Nat) (x : Int), r < i → of[r]? = some x → Valid x slots) ∧ of.length - (RowKit.intOf t36).toNat < of.length - (RowKit.intOf (i64 (i : Int))).toNat := by
   intro h
   refine V_add.2 ?_
   rw [wrap_id (by omega) (by omega), i64_succ]
   refine ⟨⟨i + 1, rfl, by omega, rfl, fun r y hr hy => ?_⟩, by simp only [intOf_i64]; omega⟩
   by_cases hri : r = i
   ·subst hri
    rw [hx] at hy
    cases hy
    exact h
   ·exact hval r y (by omega) hy
  by_cases h5 : x = 5
  ·simp only [h5, ne_eq, not_true_eq_false, gd_ft, gd_undef, pickD_iff, ifD_false, reduceIte, Bool.false_eq_true, decide_false]
   exact go (.inl h5)
  simp only [h5, ne_eq, not_false_eq_true, V_neqI, gd_t, pickD_iff, reduceIte, decide_true]
  by_cases h6 : x = 6
  ·simp only [h6, not_true_eq_false, gd_ft, gd_undef, ifD_false, reduceIte, Bool.false_eq_true, decide_false]
   exact go (.inr (.inl h6))
  simp only [h6, not_false_eq_true, V_lss, gd_t, pickD_iff, reduceIte, decide_true]
  by_cases h16 : x < 16
  ·simp only [h16, gd_tf, ifD_true, reduceIte, decide_true]
   exact no X2 fun h => by have := h.val i x hx; unfold Valid at this; omega
  simp only [h16, gd_f, reduceIte, Bool.false_eq_true, decide_false]
  refine ldB hb2 fa_68_1 l1_3 rfl (V_add.2 ?_)
  rw [wrap_id (by omega) (by omega)]
  simp only [V_geq]
  by_cases h17 : x ≥ 16 + slots
  ·simp only [h17, ifD_true, decide_true]
   exact no X2 fun h => by have := h.val i x hx; unfold Valid at this; omega
  simp only [h17, ifD_false, decide_false]
  exact go (by unfold Valid; omega)
 have hval' : ∀ (r : Nat) (x : Int), of[r]? = some x → Valid x slots := fun r x h => hval r x (by have := (List.getElem?_eq_some_iff.1 h).1; omega) h
 refine ldA hb' la_56 rfl ?_
 refine (behindP_ok (p := p) (hp0.ext X2) hargs hv hR).mono fun bv w3 ⟨⟨m, hm, ham⟩, x3⟩ => ?_
 obtain ⟨mcs, hmcs, hrow⟩ := hm.row hl2 (by omega)
 have hb3 := hb'.ext x3
 have hb23 := hb2.ext x3
 have X3 := X2.trans x3
 refine ⟨fun v w' => ∃ k : Nat, v = i64 k ∧ k ≤ p.nodes.length ∧ Ext w3 w' ∧ (∀ q, q < k → ApartS (SetK p q) R of) ∧ (∀ q, q < k → (p.at' q).leavesB = false → ∀ (r : Nat) (x : Int), Alive p q r → (r : Int) ≠ (p.at' q).df → of[r]? = some x → 16 ≤ x), fun v _ => p.nodes.length - (RowKit.intOf v).toNat,
  ⟨0, rfl, Nat.zero_le _, Ext.refl _, fun q h => by omega, fun q h => by omega⟩, ?_⟩
 rintro _ w4 ⟨k, rfl, hk, x4, hsets, hslots⟩ _
 have X4 := X3.trans x4
 refine ldB (hb3.ext x4) fa_56_2 l1_54 rfl (lnx xa_54 (hs.ext X4) (V_lss.2 (ifD_dec (fun hlt => ?_) fun hge => ?_)))
 ·have hk' : k < p.nodes.length := by omega
  obtain ⟨hat, hrt⟩ := hv.at (k := k) hk'
  obtain ⟨um, usv, hue, hui⟩ := hel k _ hat
  obtain ⟨u, hu, hub⟩ := hrow k hk'
  have hub' : SliceIs w3 u 1 R ((rowL m k R).map Value.bool) := by have := hub; unfold BoolsAre at this; rw [rowL_len] at this; exact this
  have hdf : (p.at' k).df < R := by rcases hrt.d with h | h <;> omega
  have hset := withL_set (p := p) (R := R) (k := k) (m := m) (fun r hr => ham k r hk' hr) hdf
  refine ldB (hb3.ext x4) fa_56_2 l1_54 rfl ?_
  refine ldxA xa_54 la_92 (hs.ext X4) (by omega) (by omega) hue rfl ?_
  refine (def36_ok (g := p.at' k) ⟨um, usv, rfl, hui.ext X4⟩).mono fun r w5 ⟨hr, x5⟩ => ?_
  subst hr
  refine bsl xe_78 [] rfl rfl (by simp) rfl fun v0 w6 ho6 x6 => ?_
  have x36 := x4.trans (x5.trans x6)
  refine ldx xa_98 l1_78 (hmcs.ext x36) (by omega) (by omega) (by simpa using hu) ?_
  refine apO xe_78 ho6 (hub'.ext x36) (by simp [oneC]) (by omega) (by unfold maxLen; omega) x6.size fun ov w7 ho7 hg7 => ?_
  have x57 : Ext w5 w7 := x6.grown hg7 fun k hk => (ho6.lt k hk).1
  simp only [Nat.zero_add, List.nil_append] at ho7
  refine ⟨fun w' => w'.ownsRow w5.heap.size 4 1 ov R ((withL (rowL m k R) (p.at' k).df).map Value.bool) ∧ Ext w5 w', ?_, ?_⟩
  ·refine V_geq.2 (ifD_dec (fun hge => ?_) fun hlt => ?_)
   ·have hge' : 0 ≤ (p.at' k).df := hge
    refine stO xa_78 inf4 ho7 hge' hdf rfl fun w8 ho8 hg => ?_
    rw [map_set_b] at ho8
    refine ⟨?_, x57.grown hg fun k hk => (ho7.lt k hk).1⟩
    unfold withL
    rw [if_pos hge']
    exact ho8
   ·refine ⟨?_, x57⟩
    unfold withL
    rw [if_neg (by simpa using hlt)]
    exact ho7
  rintro w8 ⟨ho8, x8⟩ _
  have x38 := (x4.trans x5).trans x8
  refine ldA (hb23.ext x38) la_68 rfl ?_
  have hll : (withL (rowL m k R) (p.at' k).df).length = R := by rw [withL_len, rowL_len]
  refine (apart_ok (l := withL (rowL m k R) (p.at' k).df) (of := of) (by have := SliceIs.of_own ho8; unfold BoolsAre; rw [hll]; exact this) (ho.ext (X3.trans x38)) (by omega) (by omega)).mono fun r w9 ⟨⟨ok, hr, hok⟩, x9⟩ => ?_
  subst hr
  have x39 := x38.trans x9
  have X9 := X3.trans x39
  refine V_not.2 (ifD.mk (fun hn => ?_) fun hn => ?_)
  ·refine no X9 fun h => ?_
   have := hok.2 ((apart_set hll hset).2 (h.sets k hk'))
   subst this
   cases hn
  have hA : ApartS (SetK p k) R of := (apart_set hll hset).1 (hok.1 (by simpa using hn))
  refine ⟨fun v w' => ∃ r : Nat, v = i64 r ∧ r ≤ R ∧ w9 = w' ∧ ((p.at' k).leavesB = false → ∀ (s : Nat) (x : Int), s < r → Alive p k s → (s : Int) ≠ (p.at' k).df → of[s]? = some x → 16 ≤ x), fun v _ => R - (RowKit.intOf v).toNat,
   ⟨0, rfl, Nat.zero_le _, rfl, fun _ s x h => by omega⟩, ?_⟩
  rintro _ _ ⟨r, rfl, hr, rfl, hin⟩ _
  refine ldB (hb3.ext x39) fa_56_1 l1_3 rfl ?_
  rw [hR]
  refine V_lss.2 (ifD_dec (fun hlt2 => ?_) fun hge2 => ?_)
  ·have hr' : r < R := by omega
   obtain ⟨x, hx⟩ := ex_get (l := of) (j := r) (by omega)
   have go : ((p.at' k).leavesB = false → Alive p k r → (r : Int) ≠ (p.at' k).df → 16 ≤ x) → V prog (binOp .add 3 (i64 r) (Value.int IntKind.i64 1)) w9 fun t94 w93 => (∃ r : Nat, t94 = i64 r ∧ r ≤ R ∧ w9 = w93 ∧ ((p.at' k).leavesB = false → ∀ (s : Nat) (x : Int), s < r → Alive p k s → (s : Int) ≠ (p.at' k).df → of[s]? = some x → 16 ≤ x)) ∧ R - (RowKit.intOf t94).toNat < R - (RowKit.intOf (i64 (r : Int))).toNat := by
    intro h
    refine V_add.2 ?_
    rw [wrap_id (by omega) (by omega), i64_succ]
    refine ⟨⟨r + 1, rfl, by omega, rfl, fun hb s y hs hal hne hy => ?_⟩, by simp only [intOf_i64]; omega⟩
    by_cases hsr : s = r
    ·subst hsr
     rw [hx] at hy
     cases hy
     exact h hb hal hne
    ·exact hin hb s y (by omega) hal hne hy
   refine ldB (hb3.ext x39) fa_56_2 l1_54 rfl ?_
   refine ldxF xa_54 fa_92_0 l1_3 (hs.ext X9) (by omega) (by omega) (pk_cell hue) (V_geq.2 ?_)
   by_cases hpk : (p.at' k).pk ≥ 11
   ·simp only [hpk, gd_t, pickD_iff, reduceIte, decide_true]
    refine ldx xa_98 l1_78 (hmcs.ext x39) (by omega) (by omega) (by simpa using hu) ?_
    refine ldx xa_78 l1_4 (hub'.ext x39) (by omega) (by omega) (getB (rowL_get hr')) ?_
    by_cases hm1 : m k r = true
    ·simp only [hm1, V_neqI, gd_t, pickD_iff, reduceIte]
     by_cases hrd : (r : Int) ≠ (p.at' k).df
     ·simp only [hrd, ne_eq, not_false_eq_true, gd_t, reduceIte, decide_true]
      refine ldB (hb23.ext x39) fa_68_0 l1_23 rfl ?_
      refine ldx xa_23 l1_3 (ho.ext X9) (by omega) (by omega) (getI hx) (V_lss.2 ?_)
      by_cases hx16 : x < 16
      ·simp only [hx16, ifD_true, decide_true]
       refine no X9 fun h => ?_
       have := h.slot k hk' ((leaves_pk _).2 hpk) r x ((ham k r hk' hr').1 hm1) hrd hx
       omega
      ·simp only [hx16, ifD_false, decide_false]
       exact go fun _ _ _ => by omega
     ·simp only [hrd, gd_ft, ifD_false, reduceIte, Bool.false_eq_true, decide_false]
      exact go fun _ _ h => absurd h hrd
    ·simp only [hm1, gd_ft, pickD_iff, ifD_false, reduceIte, Bool.false_eq_true]
     exact go fun _ h _ => absurd ((ham k r hk' hr').2 h) hm1
   ·simp only [hpk, gd_ft, pickD_iff, ifD_false, reduceIte, Bool.false_eq_true, decide_false]
    exact go fun h _ _ => absurd ((leaves_pk _).1 h) hpk
  ·refine V_add.2 ?_
   rw [wrap_id (by omega) (by omega), i64_succ]
   have hrR : r = R := by omega
   subst hrR
   refine ⟨⟨k + 1, rfl, by omega, x39, fun q hq => ?_, fun q hq hb s y hal hne hy => ?_⟩, by simp only [intOf_i64]; omega⟩
   ·by_cases hqk : q = k
    ·subst hqk; exact hA
    ·exact hsets q (by omega)
   ·by_cases hqk : q = k
    ·subst hqk; exact hin hb s y (by have := (List.getElem?_eq_some_iff.1 hy).1; omega) hal hne hy
    ·exact hslots q (by omega) hb s y hal hne hy
 ·have hkN : k = p.nodes.length := by omega
  subst hkN
  refine ldA (hb3.ext x4) la_56 rfl ?_
  refine (aheadP_ok (p := p) (hp0.ext X4) hargs hv hR).mono fun av w5 ⟨⟨l, hll, hlo, hla⟩, x5⟩ => ?_
  have X5 := X4.trans x5
  refine ⟨fun v w' => ∃ r : Nat, v = i64 r ∧ (r : Int) ≤ p.params ∧ Ext w4 w' ∧ ∃ l' : List Bool, l'.length = R ∧ w'.ownsRow w4.heap.size 4 1 av R (l'.map Value.bool) ∧ ∀ s, s < R → (l'[s]? = some true ↔ (AheadP p (Alive p) 0 s ∨ s < r)), fun v _ => p.params.toNat - (RowKit.intOf v).toNat,
   ⟨0, rfl, hpar.1, x5, l, hll, hlo, fun s hs => by rw [hla s hs]; simp⟩, ?_⟩
  rintro _ w6 ⟨r, rfl, hr, x6, l', hl', hlo', hla'⟩ _
  have x46 := x6
  have X6 := X4.trans x46
  refine ldB (hb3.ext (x4.trans x46)) fa_56_0 l1_3 rfl (V_lss.2 (ifD_dec (fun hlt2 => ?_) fun hge2 => ?_))
  ·refine stO xa_78 inf4 hlo' (by omega) (by omega) rfl fun w8 ho8 hg => ?_
   rw [map_set_b] at ho8
   refine V_add.2 ?_
   rw [wrap_id (by omega) (by omega), i64_succ]
   refine ⟨⟨r + 1, rfl, by omega, ?_, l'.set r true, by simp [hl'], ho8, fun s hs => ?_⟩, by simp only [intOf_i64]; omega⟩
   ·exact x6.grown hg fun k hk => (hlo'.lt k hk).1
   ·by_cases hsr : r = s
    ·subst hsr
     rw [List.getElem?_set_self (by omega)]
     simp
    ·rw [List.getElem?_set_ne hsr, hla' s hs]
     constructor <;> (rintro (h | h) <;> first | exact .inl h | exact .inr (by omega))
  ·have hrp : (r : Int) = p.params := by omega
   refine ldA (hb23.ext (x4.trans x46)) la_68 rfl ?_
   refine (apart_ok (l := l') (of := of) (by have := SliceIs.of_own hlo'; unfold BoolsAre; rw [hl']; exact this) (ho.ext X6) (by omega) (by omega)).mono fun rr w9 ⟨⟨ok, hr2, hok⟩, x9⟩ => ?_
   subst hr2
   refine ⟨⟨ok, rfl, ?_⟩, X6.trans x9⟩
   rw [hok, apart_set (S := SetS p) hl' fun s hs => by rw [hla' s hs]; unfold SetS; constructor <;> (rintro (h | h) <;> first | exact .inl h | exact .inr (by omega))]
   exact ⟨fun h => ⟨h1', by omega, by omega, hval', hsets, hslots, h⟩, fun h => h.start⟩
end Go.Proofs.YtcdbikfnlggbnaaGreatDoor
namespace Go.Proofs.YtcdbikfnlggbnaaGreatDoor
open Tryz
open Go.Vc
def addO (o : List Int) (r : Int) : List Int := if 0 ≤ r ∧ r ∉ o then o ++ [r] else o
def addAll (o l : List Int) : List Int := l.foldl addO o
theorem addAll_snoc (o l : List Int) (r : Int) : addAll o (l ++ [r]) = addO (addAll o l) r := by simp [addAll]
theorem addO_len (o : List Int) (r : Int) : (addO o r).length ≤ o.length + 1 := by unfold addO; split <;> simp
theorem addAll_len (o l : List Int) : (addAll o l).length ≤ o.length + l.length := by
 induction l generalizing o with
 | nil => simp [addAll]
 | cons a l ih =>
  have := ih (addO o a)
  have h1 := addO_len o a
  simp only [addAll, List.foldl_cons, List.length_cons] at this ⊢
  omega
def seenL (R : Nat) (o : List Int) : List Bool := (List.range R).map fun r => decide (((r : Nat) : Int) ∈ o)
theorem seenL_len (R : Nat) (o : List Int) : (seenL R o).length = R := by simp [seenL]
theorem seenL_get {R r : Nat} {o : List Int} (h : r < R) : (seenL R o)[r]? = some (decide ((r : Int) ∈ o)) := by simp [seenL, h]
theorem seenL_add {R r : Nat} {o : List Int} (h : r < R) (hn : (r : Int) ∉ o) : (seenL R o).set r true = seenL R (addO o r) := by
 apply List.ext_getElem?
 intro j
 by_cases hj : j < R
 ·rw [seenL_get hj]
  by_cases hr : r = j
  ·subst hr
   rw [List.getElem?_set_self (by rw [seenL_len]; exact h)]
   simp [addO, hn]
  ·rw [List.getElem?_set_ne hr, seenL_get hj]
   have : ((j : Int) ∈ addO o r) ↔ (j : Int) ∈ o := by
    unfold addO
    rw [if_pos ⟨by omega, hn⟩]
    simp
    omega
   simp only [this]
 ·rw [List.getElem?_eq_none (by simp [seenL_len]; omega), List.getElem?_eq_none (by rw [seenL_len]; omega)]
theorem seenL_nil (R : Nat) : (seenL R []).map Value.bool = List.replicate R (.bool false) := by
 apply List.ext_getElem?
 intro j
 by_cases hj : j < R
 ·simp [seenL, hj]
 ·rw [List.getElem?_eq_none (by simp [seenL_len]; omega), List.getElem?_eq_none (by simp; omega)]
structure RC where
 ub : Nat
 g0 : Nat
 sg : Nat
 sx : Nat
 sn : Nat
 R : Nat
 L : Nat
 B : Nat
 gs : List Nat
def Mu (c : RC) (ov : Value) (i : Nat) : Prop := i = c.ub ∨ i = c.g0 ∨ i = c.sg ∨ i = c.sx ∨ i = c.sn ∨ i ∈ c.gs ∨ ov.ownBlock = some i
structure Rx (w0 w : World) (c : RC) (ov : Value) (m : Mx) (sb : List Bool) (ord : List Int) : Prop where
 ru : Ru w0 w c.ub c.g0 c.sg ov c.gs c.R m sb
 box : Blk w c.sx [sl c.R c.sn] 78
 seen : Blk w c.sn ((seenL c.R ord).map Value.bool) 4
 ov : w.ownsRow c.B 3 1 ov ord.length (ord.map i64)
 lim : c.ub < c.L ∧ c.g0 < c.L ∧ c.sg < c.L ∧ ∀ g ∈ c.gs, g < c.L
 ord' : w0.heap.size ≤ c.L ∧ c.L ≤ c.sn ∧ c.sn < c.sx ∧ c.sx < c.B ∧ c.B ≤ w.heap.size
structure Mv (c : RC) (ov : Value) (w : World) (ov' : Value) (w' : World) : Prop where
 fr : Fr (Mu c ov) w w'
 own : ∀ k, ov'.ownBlock = some k → ov.ownBlock = some k ∨ w.heap.size ≤ k
theorem Mv.refl (c : RC) (ov : Value) (w : World) : Mv c ov w ov w := ⟨Fr.refl _ _, fun _ h => .inl h⟩
theorem Mv.trans {c : RC} {a b d : Value} {w1 w2 w3 : World} (h : Mv c a w1 b w2) (k : Mv c b w2 d w3) : Mv c a w1 d w3 := by
 refine ⟨h.fr.trans k.fr fun i hi hm => ?_, fun i hi => ?_⟩
 ·unfold Mu at hm ⊢
  rcases hm with h1 | h1 | h1 | h1 | h1 | h1 | h1
  all_goals try (simp only [h1, true_or, or_true]; done)
  rcases h.own i h1 with h2 | h2
  ·simp only [h2, or_true]
  ·omega
 ·rcases k.own i hi with h1 | h1
  ·exact h.own i h1
  ·exact .inr (Nat.le_trans h.fr.size h1)
theorem Mv.of_ext {c : RC} {ov : Value} {w w' : World} (h : Ext w w') : Mv c ov w ov w' := ⟨Fr.of_ext h, fun _ h => .inl h⟩
theorem Mv.far {c : RC} {a b : Value} {w w' : World} (h : Mv c a w b w') {i : Nat} (hi : i < w.heap.size) (hn : ¬ Mu c a i) : ¬ Mu c b i := by
 intro hm
 refine hn ?_
 unfold Mu at hm ⊢
 rcases hm with h1 | h1 | h1 | h1 | h1 | h1 | h1
 all_goals try (simp only [h1, true_or, or_true]; done)
 rcases h.own i h1 with h2 | h2
 ·simp only [h2, or_true]
 ·omega
theorem Rx.lo {w0 w : World} {c : RC} {ov : Value} {m : Mx} {sb : List Bool} {ord : List Int} (h : Rx w0 w c ov m sb ord) : ∀ i, Mu c ov i → w0.heap.size ≤ i := by
 have h1 := h.ord'
 have h2 := h.ru.lo
 intro i hm
 unfold Mu at hm
 rcases hm with rfl | rfl | rfl | rfl | rfl | hm | hm
 ·exact h2.1
 ·exact h2.2.1
 ·exact h2.2.2.1
 iterate 2
  ·omega
 ·exact h2.2.2.2 i hm
 ·have := (h.ov.lt i hm).1
  omega
theorem Rx.hi {w0 w : World} {c : RC} {ov : Value} {m : Mx} {sb : List Bool} {ord : List Int} (h : Rx w0 w c ov m sb ord) : ∀ i, Mu c ov i → i < w.heap.size := by
 have h1 := h.ord'
 have h2 := h.lim
 intro i hm
 unfold Mu at hm
 rcases hm with rfl | rfl | rfl | rfl | rfl | hm | hm
 iterate 5
  ·omega
 ·have := h2.2.2.2 i hm; omega
 ·exact (h.ov.lt i hm).2
theorem Rx.fr {w0 w w' : World} {c : RC} {ov : Value} {m : Mx} {sb : List Bool} {ord : List Int} (h : Rx w0 w c ov m sb ord) {S : Nat → Prop} (hf : Fr S w w') (hS : ∀ i, Mu c ov i → ¬ S i) (hx : Ext w0 w') : Rx w0 w' c ov m sb ord := by
 have m1 : ∀ {i}, Mu c ov i → ¬ S i := fun h => hS _ h
 refine ⟨⟨hx, hf.blk h.ru.u (m1 (.inl rfl)), hf.blk h.ru.out (m1 (.inr (.inl rfl))), hf.blk h.ru.slot (m1 (.inr (.inr (.inl rfl)))), fun k g hk => hf.blk (h.ru.rows k g hk) (m1 (.inr (.inr (.inr (.inr (.inr (.inl (List.mem_of_getElem? hk)))))))), h.ru.lo, h.ru.ne, h.ru.nd⟩,
  hf.blk h.box (m1 (.inr (.inr (.inr (.inl rfl))))), hf.blk h.seen (m1 (.inr (.inr (.inr (.inr (.inl rfl)))))), hf.own h.ov fun k hk => m1 (.inr (.inr (.inr (.inr (.inr (.inr hk)))))), h.lim, ?_⟩
 have := h.ord'
 have := hf.size
 omega
theorem Rx.ext {w0 w w' : World} {c : RC} {ov : Value} {m : Mx} {sb : List Bool} {ord : List Int} (h : Rx w0 w c ov m sb ord) (hx : Ext w w') : Rx w0 w' c ov m sb ord :=
 h.fr (S := fun _ => False) (Fr.of_ext hx) (fun _ _ h => h) (h.ru.x.trans hx)
set_option maxHeartbeats 1600000 in
theorem add_ok {w0 w : World} {c : RC} {ov : Value} {m : Mx} {sb : List Bool} {ord : List Int} {r : Int} (h : Rx w0 w c ov m sb ord) (hr : r < c.R) (hR : c.R ≤ 40) (hl : ord.length ≤ 1000) :
  dynD prog (.func (.func 79) #[] #[.pointer (some ⟨c.sx, 0, none⟩), .pointer (some ⟨c.ub, 0, none⟩)]) #[i64 r] w fun _ w' => ∃ ov', Rx w0 w' c ov' m sb (addO ord r) ∧ Mv c ov w ov' w' := by
 refine ⟨_, _, rfl, ?_⟩
 refine F79_wp (t0 := i64 r) (t1 := .pointer (some ⟨c.sx, 0, none⟩)) (t2 := .pointer (some ⟨c.ub, 0, none⟩)) ?_
 unfold F79_den
 have stay : addO ord r = ord → ∃ ov', Rx w0 w c ov' m sb (addO ord r) ∧ Mv c ov w ov' w := fun he => ⟨ov, by rw [he]; exact h, Mv.refl _ _ _⟩
 have hs0 := h.seen.slice (n := c.R) (by simp [seenL_len]) (by unfold maxLen; omega)
 refine V_geq.2 ?_
 by_cases h0 : r ≥ 0
 ·simp only [h0, gd_t, pickD_iff, reduceIte, decide_true]
  obtain ⟨k, rfl⟩ : ∃ k : Nat, r = k := ⟨r.toNat, by omega⟩
  have hk : k < c.R := by omega
  refine ldV l1_78 h.box ?_
  refine ldx xa_78 l1_4 hs0 (by omega) (by omega) (getB (seenL_get hk)) ?_
  by_cases hin : (k : Int) ∈ ord
  ·simp only [hin, V_not, ifD_false, Bool.not_true, decide_true]
   exact stay (by simp [addO, hin])
  ·simp only [hin, V_not, ifD_true, Bool.not_false, decide_false]
   refine ldV l1_78 h.box ?_
   refine stB xa_78 inf4 h.seen (by simp [seenL_len]) (by omega) (by omega) rfl ?_
   have hne := h.ru.ne
   have hlim := h.lim
   have hord := h.ord'
   have hlo := h.ru.lo
   have hsn : c.sn < w.heap.size := h.seen.lt
   have f1 : Fr (fun i => i = c.sn) w (w.setCell ⟨c.sn, (k : Int).toNat, none⟩ (.bool true)) := Fr.of_set rfl
   have hov1 := f1.own h.ov fun i hi => by have := (h.ov.lt i hi).1; omega
   refine ldB (f1.blk h.ru.u (by omega)).boxed fa_109_2 l1_23 rfl ?_
   refine bsl xe_23 [i64 (k : Int)] rfl rfl (by simp) rfl fun v2 w2 ho2 x2 => ?_
   have hov2 := x2.own hov1
   have hsz2 : w.heap.size ≤ w2.heap.size := by have := x2.size; have := f1.size; omega
   refine apL xe_23 hov2 ho2 (by simp) (by simp [oneC]) (by omega) (by unfold maxLen; omega) (by omega) fun g cap w3 ho3 hg3 hlies => ?_
   have f2 : Fr (fun i => i = c.sn) w w2 := f1.trans (Fr.of_ext (S := fun i => i = c.sn) x2) fun _ _ h => h
   have f3 : Fr (fun i => i = c.sn ∨ ov.ownBlock = some i) w w3 := f2.or (Fr.of_grown (S := fun i => ov.ownBlock = some i) hg3 fun k hk => hk)
   have far : ∀ i, i < c.B → ov.ownBlock ≠ some i := fun i hi he => by have := (h.ov.lt i he).1; omega
   have hu3 := f3.blk h.ru.u (fun h => h.elim (by omega) (far c.ub (by omega)))
   refine stF fa_109_2 inf23 hu3 rfl (by simp) rfl ?_
   have f4 : Fr (fun i => (i = c.sn ∨ ov.ownBlock = some i) ∨ i = c.ub) w (w3.setCell ⟨c.ub, 2, none⟩ (.slice (some ⟨g, 0, none⟩) (ord.length + 1) cap)) := f3.or (Fr.of_set rfl)
   have f34 : Fr (fun i => i = c.ub) w3 (w3.setCell ⟨c.ub, 2, none⟩ (.slice (some ⟨g, 0, none⟩) (ord.length + 1) cap)) := Fr.of_set rfl
   have f14 : Fr (fun i => ov.ownBlock = some i ∨ i = c.ub) (w.setCell ⟨c.sn, (k : Int).toNat, none⟩ (.bool true)) (w3.setCell ⟨c.ub, 2, none⟩ (.slice (some ⟨g, 0, none⟩) (ord.length + 1) cap)) :=
    ((Fr.of_ext (S := fun _ => False) x2).or (Fr.of_grown (S := fun i => ov.ownBlock = some i) hg3 fun k hk => hk)).or f34 |>.mono fun i hi => by
     rcases hi with (hi | hi) | hi
     ·exact hi.elim
     ·exact .inl hi
     ·exact .inr hi
   have keep : ∀ {i}, i < c.B → i ≠ c.sn → i ≠ c.ub → ¬ ((i = c.sn ∨ ov.ownBlock = some i) ∨ i = c.ub) := fun {i} h1 h2 h3 h4 => by
    rcases h4 with (h4 | h4) | h4
    ·exact h2 h4
    ·exact far i h1 h4
    ·exact h3 h4
   have hord' : addO ord (k : Int) = ord ++ [(k : Int)] := by simp [addO, hin]
   have hMu : Fr (Mu c ov) w (w3.setCell ⟨c.ub, 2, none⟩ (.slice (some ⟨g, 0, none⟩) (ord.length + 1) cap)) := f4.mono fun i hi => by
    unfold Mu
    rcases hi with (hi | hi) | hi <;> simp only [hi, true_or, or_true]
   refine ⟨.slice (some ⟨g, 0, none⟩) (ord.length + 1) cap, ⟨⟨hMu.ext h.ru.x h.lo, ?_, f4.blk h.ru.out (keep (by omega) (by omega) (by omega)), f4.blk h.ru.slot (keep (by omega) (by omega) (by omega)), fun q g' hq => f4.blk (h.ru.rows q g' hq) (by have := hlim.2.2.2 g' (List.mem_of_getElem? hq); have := hne.2.2.2 g' (List.mem_of_getElem? hq); exact keep (by omega) (by omega) (by omega)), h.ru.lo, h.ru.ne, h.ru.nd⟩,
    f4.blk h.box (keep (by omega) (by omega) (by omega)), ?_, ?_, hlim, by have := f4.size; omega⟩, hMu, fun i hi => ?_⟩
   ·exact hu3.set 2 _
   ·rw [← seenL_add hk hin, ← map_set_b]
    have := f14.blk (h.seen.set k (.bool true)) (fun h => h.elim (far c.sn (by omega)) (by omega))
    simpa using this
   ·rw [hord']
    have := f34.own ho3 fun i hi hu => by have := (ho3.lt i hi).1; omega
    simpa using this
   ·have : g = i := by simpa [Value.ownBlock] using hi
    subst this
    rcases hlies with h1 | h1
    ·exact .inl h1
    ·exact .inr (by omega)
 ·simp only [h0, gd_ft, pickD_iff, ifD_false, reduceIte, Bool.false_eq_true, decide_false]
  exact stay (by simp [addO]; omega)
end Go.Proofs.YtcdbikfnlggbnaaGreatDoor
namespace Go.Proofs.YtcdbikfnlggbnaaGreatDoor
open Tryz
open Go.Vc
theorem Rx.setSlot {w0 w : World} {c : RC} {ov : Value} {m : Mx} {sb : List Bool} {ord : List Int} (h : Rx w0 w c ov m sb ord) (r : Nat) (v : Bool) : Rx w0 (w.setCell ⟨c.sg, r, none⟩ (.bool v)) c ov m (sb.set r v) ord := by
 have f : Fr (fun i => i = c.sg) w (w.setCell ⟨c.sg, r, none⟩ (.bool v)) := Fr.of_set rfl
 have h1 := h.ord'; have h2 := h.lim
 refine ⟨h.ru.setSlot r v, f.blk h.box (by omega), f.blk h.seen (by omega), f.own h.ov fun k hk he => ?_, h.lim, by have := f.size; omega⟩
 have := (h.ov.lt k hk).1
 omega
theorem Mv.set {c : RC} {ov ov' : Value} {w w' : World} (h : Mv c ov w ov' w') (r : Nat) (v : Value) : Mv c ov w ov' (w'.setCell ⟨c.sg, r, none⟩ v) := ⟨h.fr.set (.inr (.inr (.inl rfl))), h.own⟩
def upTo (n : Nat) : List Int := (List.range n).map fun r => ((r : Nat) : Int)
theorem upTo_succ (n : Nat) : upTo (n + 1) = upTo n ++ [((n : Nat) : Int)] := by simp [upTo, List.range_succ]
theorem upTo_len (n : Nat) : (upTo n).length = n := by simp [upTo]
set_option maxHeartbeats 1600000 in
theorem AheadO_ok {p : GProg} {R : Nat} {pv : Value} {w : World} (hp : ProgIs w pv p) (hv : OkProg p) (hR : p.regs = R) :
  callD prog 42 #[pv] w fun r w' => (∃ l : List Bool, l.length = R ∧ w'.ownsRow w.heap.size 4 1 r R (l.map .bool) ∧ ∀ r < R, (l[r]? = some true ↔ AheadP p (Alive p) 0 r)) ∧ Ext w w' := by
 have hp0 := hp
 obtain ⟨ns, rfl, hns, hargs⟩ := hp
 have hns0 := hns
 obtain ⟨vs, hs, hvs⟩ := hns
 have hl1 := hv.l1; have hl2 := hv.l2; have hr1 := hv.r1; have hr2 := hv.r2
 obtain ⟨hpt, hrt⟩ := hv.at (k := 0) (by omega)
 obtain ⟨u, hu, hnu⟩ := hvs 0 _ hpt
 apply F42_wp
 unfold F42_den
 refine bx fun b w1 hb x1 => ?_
 refine ldA hb la_38 rfl ?_
 refine (check_ok (p := p) (hp0.ext x1) hv).mono fun r w2 ⟨hr, x2⟩ => ?_
 subst hr
 refine V_not.2 (ifD_false.2 ?_)
 have hb2 := hb.ext x2
 have X2 := x1.trans x2
 refine drawD.mk' (fun w' => Ext w2 w') (Ext.refl _).drew ?_
 refine yfB (fun w' hw => hb2.ext hw) fa_38_2 l1_36 rfl ?_
 refine ySl xa_36 l1_52 (hs.ext X2) (fun _ h => h) (by omega) (by omega) (by simpa using hu) ?_
 refine yA (fun w' hw => hb2.ext hw) la_38 rfl ?_
 refine (behind_ok (hp0.ext (X2.trans (Ext.refl _).drew)) hv hR).mono fun mv w3 ⟨⟨m, hm, ham⟩, x3⟩ => ?_
 have x3' : Ext w2 w3 := Ext.trans (Ext.refl _).drew x3
 refine ⟨x3', fun w' => Ext w3 w', fun w' h => x3'.trans h, Ext.refl _, ?_⟩
 obtain ⟨cs, hcs, hrow⟩ := hm.row hl2 (by omega)
 obtain ⟨rv, hrv, hrb⟩ := hrow 0 (by omega)
 refine ySl xa_98 l1_78 hcs (fun _ h => h) (by omega) (by omega) (by simpa using hrv) ?_
 have hdf : (p.at' 0).df < R := by rcases hrt.d with h | h <;> omega
 have hus : ∀ r ∈ (p.at' 0).us, 0 ≤ r ∧ r < ((rowL m 0 R).length : Int) := fun r hr => by have := hrt.u r hr; rw [rowL_len]; omega
 refine (ahead_ok (hnu.ext (X2.trans x3')) hrb (hargs _ (List.mem_of_getElem? hpt)) (by rw [rowL_len]; omega) (by rw [rowL_len]; exact hdf) hus).mono fun av w4 ⟨hav, x4⟩ => ?_
 refine ⟨x4, fun w' => Ext w3 w', fun _ h => h, x4, ⟨⟨_, ?_, (own_mono (by rw [rowL_len] at hav; exact hav) (X2.trans x3').size), fun r hr => ?_⟩, (X2.trans x3').trans x4⟩⟩
 ·rw [aheadL_len, rowL_len]
 ·rw [aheadL_get (by rw [rowL_len]; exact hr) (fun x hx => (hus x hx).1)]
  rw [List.getD_eq_getElem?_getD, rowL_get hr]
  simp only [Option.getD_some, Option.some.injEq, Bool.or_eq_true, Bool.and_eq_true, decide_eq_true_eq]
  unfold AheadP
  rw [ham 0 r (by omega) hr]
theorem allX_ok {w0 w : World} {c : RC} {ov lv : Value} {m : Mx} {sb l : List Bool} {ord : List Int} {B : Nat} (h : Rx w0 w c ov m sb ord) (hR : c.R ≤ 40) (hgl : c.gs.length = c.R) (hl : l.length = c.R)
  (ha : w.ownsRow B 4 1 lv c.R (l.map Value.bool)) (hn : ∀ k, lv.ownBlock = some k → ¬ Mu c ov k) :
  callD prog 80 #[.pointer (some ⟨c.ub, 0, none⟩), lv] w fun _ w' => (∃ m', Rx w0 w' c ov m' sb ord ∧ ∀ a b, a < c.R → b < c.R → (m' a b = true ↔ m a b = true ∨ (a ≠ b ∧ l[a]? = some true ∧ l[b]? = some true))) ∧ Fr (fun i => i ∈ c.gs) w w' := by
 refine (all_ok hR hgl hl h.ru ha fun k hk hg => hn k hk (.inr (.inr (.inr (.inr (.inr (.inl hg))))))).mono fun r w' ⟨⟨m', hru, hm⟩, hf⟩ => ⟨⟨m', ⟨hru, hf.blk h.box ?_, hf.blk h.seen ?_, hf.own h.ov fun k hk hg => ?_, h.lim, ?_⟩, hm⟩, hf⟩
 iterate 2
  ·intro hg; have := h.lim.2.2.2 _ hg; have := h.ord'; omega
 ·have := h.lim.2.2.2 _ hg; have := h.ord'; have := (h.ov.lt k hk).1; omega
 ·have := h.ord'; have := hf.size; omega
def Laid (w2 : World) (R : Nat) (t3 : Value) (w : World) : Prop := ∃ ub g0 sg, t3 = .pointer (some ⟨ub, 0, none⟩) ∧ Ext w2 w ∧ Blk w ub [sl R g0, sl R sg, .slice none 0 0] 109 ∧ Blk w g0 (List.replicate R (.slice none 0 0)) 78 ∧ Blk w sg (List.replicate R (.bool false)) 4 ∧
 w2.heap.size ≤ ub ∧ w2.heap.size ≤ g0 ∧ w2.heap.size ≤ sg ∧ ub ≠ g0 ∧ ub ≠ sg ∧ g0 ≠ sg
theorem laidEnd {w2 w : World} {R ub g0 sg : Nat} (hx : Ext w2 w) (hu : Blk w ub [.slice none 0 0, .slice none 0 0, .slice none 0 0] 109) (hm : Blk w g0 (List.replicate R (.slice none 0 0)) 78) (hs : Blk w sg (List.replicate R (.bool false)) 4)
  (h1 : w2.heap.size ≤ ub) (h2 : w2.heap.size ≤ g0) (h3 : w2.heap.size ≤ sg) (h4 : ub ≠ g0) (h5 : ub ≠ sg) (h6 : g0 ≠ sg) :
  U prog (Instr.storeAt 109 (.pointer (some ⟨ub, 0, none⟩)) (.agg #[sl R g0, sl R sg, .slice none 0 0])) w fun _ w' => Laid w2 R (.pointer (some ⟨ub, 0, none⟩)) w' :=
 stA inf109 hu (l := [sl R g0, sl R sg, .slice none 0 0]) rfl rfl rfl rfl fun _ hu' hc => ⟨ub, g0, sg, rfl, hc.ext w2 hx h1, hu', hc.other (Ne.symm h4) hm, hc.other (Ne.symm h5) hs, h1, h2, h3, h4, h5, h6⟩
end Go.Proofs.YtcdbikfnlggbnaaGreatDoor
namespace Go.Proofs.YtcdbikfnlggbnaaGreatDoor
open Tryz
open Go.Vc
def Meets (p : GProg) (a b : Nat) : Prop := a ≠ b ∧ ((SetS p a ∧ SetS p b) ∨ ∃ k, k < p.nodes.length ∧ SetK p k a ∧ SetK p k b)
def Slotted (p : GProg) (r : Nat) : Prop := ∃ k, k < p.nodes.length ∧ (p.at' k).leavesB = false ∧ Alive p k r ∧ (r : Int) ≠ (p.at' k).df
def ordL (p : GProg) (R : Nat) : List Int := upTo p.params.toNat ++ p.nodes.map GNode.df ++ upTo R
def RulesV (p : GProg) (R : Nat) (r : Value) (w : World) : Prop := ∃ g0 sg ov m sb, r = .agg #[sl R g0, sl R sg, ov] ∧ MatIs w (sl R g0) R R m ∧ BoolsAre w (sl R sg) sb ∧ sb.length = R ∧ IntsAre w ov (addAll [] (ordL p R)) ∧
 (∀ a b, a < R → b < R → (m a b = true ↔ Meets p a b)) ∧ ∀ r, r < R → (sb[r]? = some true ↔ Slotted p r)
set_option maxHeartbeats 4000000 in
theorem rulesOf_ok {p : GProg} {R : Nat} {pv : Value} {w : World} (hp : ProgIs w pv p) (hv : OkProg p) (hR : p.regs = R) :
  callD prog 46 #[pv] w fun r w' => RulesV p R r w' ∧ Ext w w' := by
 have hp0 := hp
 obtain ⟨ns, rfl, hns, hargs⟩ := hp
 obtain ⟨vs, hs, hvs⟩ := hns
 have hl1 := hv.l1; have hl2 := hv.l2; have hr1 := hv.r1; have hr2 := hv.r2; have hp1 := hv.p1; have hp2 := hv.p2; have hp3 := hv.p3
 apply F46_wp
 unfold F46_den
 refine bx fun b w1 hb x1 => ?_
 refine alK inf109 fun w2 hz x2 => ?_
 have hb2 := hb.ext x2
 have X12 := x1.trans x2
 refine ⟨Laid w2 R, ?_, ?_⟩
 rotate_left
 ·rintro _ w25 ⟨ub, g0, sg, rfl, x25, hu25, hg25, hs25, l1, l2, l3, n1, n2, n3⟩ _
  refine ldB (hb2.ext x25) fa_38_1 l1_3 rfl ?_
  rw [hR]
  have hu25' := hu25.lt; have hg25' := hg25.lt; have hs25' := hs25.lt
  refine ⟨fun v w' => ∃ gs : List Nat, v = i64 gs.length ∧ gs.length ≤ R ∧ Ext w2 w' ∧ Blk w' ub [sl R g0, sl R sg, .slice none 0 0] 109 ∧ Blk w' sg (List.replicate R (.bool false)) 4 ∧ (∀ g ∈ gs, w2.heap.size ≤ g ∧ g < w'.heap.size ∧ g ≠ ub ∧ g ≠ g0 ∧ g ≠ sg) ∧ gs.Nodup ∧
    Blk w' g0 (gs.map (sl R) ++ List.replicate (R - gs.length) (.slice none 0 0)) 78 ∧ ∀ g ∈ gs, Blk w' g (List.replicate R (.bool false)) 4,
   fun v _ => R - (RowKit.intOf v).toNat, ⟨[], rfl, Nat.zero_le _, x25, hu25, hs25, by simp, List.nodup_nil, by simpa using hg25, by simp⟩, ?_⟩
  rintro _ w4 ⟨gs, rfl, hle, x4, hu4, hs4, hgg, hnd, ho4, hrows4⟩ _
  have hu4' := hu4.lt; have hs4' := hs4.lt; have ho4' := ho4.lt
  refine V_lss.2 (ifD_dec (fun hlt => ?_) fun hge => ?_)
  ·have D4 : Ext w4 w4.drew := (Ext.refl _).drew
   refine drawD.mk' (fun w' => Ext w4 w') D4 ?_
   refine yfB (fun w' hw => (hu4.ext hw).boxed) fa_109_0 l1_98 rfl ?_
   refine yfB (fun w' hw => hb2.ext (x4.trans hw)) fa_38_1 l1_3 rfl ?_
   refine mkBv hR underlying78 inf4 rfl (n := R) (by omega) (by omega) fun w5 hrow x5 hsz5 => ?_
   have x45 := D4.trans x5
   have hz4 : w4.drew.heap.size = w4.heap.size := rfl
   rw [hz4] at hrow hsz5
   refine ⟨x45, ?_⟩
   refine yieldS.ok (fun w' _ => r_ix_98 (by omega) (by omega)) ?_
   rw [Int.toNat_natCast]
   refine stBY inf78 (ho4.ext x45) (by simp; omega) rfl ?_
   refine V_add.2 ?_
   rw [wrap_id (by omega) (by omega), i64_succ]
   have hset := (ho4.ext x45).set gs.length (sl R w4.heap.size)
   rw [set_rows R _ gs R (by omega)] at hset
   have hx45 := x45.size
   refine ⟨⟨gs ++ [w4.heap.size], by simp, by simp; omega, (x4.trans x45).setCell l2 _, (hu4.ext x45).other n1, (hs4.ext x45).other (Ne.symm n3), ?_, ?_, hset, ?_⟩, by simp only [intOf_i64]; omega⟩
   ·intro g hg
    simp only [World.size_setCell]
    rcases List.mem_append.1 hg with h | h
    ·have := hgg g h; omega
    ·have : g = w4.heap.size := by simpa using h
     have := x4.size
     omega
   ·refine List.nodup_append.2 ⟨hnd, by simp, ?_⟩
    intro a ha c hc
    have : c = w4.heap.size := by simpa using hc
    have := hgg a ha
    omega
   ·intro g hg
    rcases List.mem_append.1 hg with h | h
    ·exact ((hrows4 g h).ext x45).other (by have := hgg g h; omega)
    ·have he : g = w4.heap.size := by simpa using h
     subst he
     exact hrow.other (by omega)
  have hgl : gs.length = R := by omega
  rw [hgl, Nat.sub_self] at ho4
  simp only [List.replicate_zero, List.append_nil] at ho4
  refine ldA (hb2.ext x4) la_38 rfl ?_
  refine (AheadO_ok (hp0.ext (X12.trans x4)) hv hR).mono fun av w5 ⟨⟨l, hll, hlo, hla⟩, x5⟩ => ?_
  have x25' := x4.trans x5
  refine ldB (hb2.ext x25') fa_38_1 l1_3 rfl ?_
  refine mkBv hR underlying78 inf4 rfl (n := R) (by omega) (by omega) fun w6 hsn x6 hsz6 => ?_
  refine asK sa_78 rfl rfl fun w7 hsx x7 => ?_
  refine fnK ?_
  have x57 := x6.trans x7
  have x27 := x25'.trans x57
  have hsx' := hsx.lt
  have hx7 := x7.size
  have hx5 := x5.size
  have hx4 := x4.size
  have hc : ∃ c : RC, c = ⟨ub, g0, sg, w6.heap.size, w5.heap.size, R, w4.heap.size, w7.heap.size, gs⟩ := ⟨_, rfl⟩
  obtain ⟨c, hc⟩ := hc
  have hRx : Rx w2 w7 c (.slice none 0 0) (fun _ _ => false) (List.replicate R false) [] := by
   subst hc
   refine ⟨⟨x27, (hu4.ext x5).ext x57, (ho4.ext x5).ext x57, by simpa using (hs4.ext x5).ext x57, fun k g hk => by rw [rowL_false]; exact ((hrows4 g (List.mem_of_getElem? hk)).ext x5).ext x57, ⟨l1, l2, l3, fun g hg => (hgg g hg).1⟩, ⟨n1, n2, n3, fun g hg => (hgg g hg).2.2⟩, hnd⟩,
    hsx, by rw [seenL_nil]; exact hsn.ext x7, ⟨rfl, .inl ⟨rfl, rfl⟩⟩, ⟨hu4', ho4', hs4', fun g hg => (hgg g hg).2.1⟩, ⟨hx4, hx5, by show w5.heap.size < w6.heap.size; omega, by show w6.heap.size < w7.heap.size; omega, Nat.le_refl _⟩⟩
  have hcub : c.ub = ub := by rw [hc]
  have hcsx : c.sx = w6.heap.size := by rw [hc]
  have hcg0 : c.g0 = g0 := by rw [hc]
  have hcsg : c.sg = sg := by rw [hc]
  have hcgs : c.gs = gs := by rw [hc]
  have hcR : c.R = R := by rw [hc]
  have hav : ∀ k, av.ownBlock = some k → ¬ Mu c (.slice none 0 0) k := by
   intro k hk hm
   have hlt := hlo.lt k hk
   have h1 := hRx.ord'
   have h2 := hRx.lim
   subst hc
   simp only at h1 h2
   unfold Mu at hm
   rcases hm with h | h | h | h | h | h | h
   iterate 3
    ·omega
   iterate 2
    ·simp only at h; omega
   ·have := h2.2.2.2 k h; omega
   ·cases h
  have hlo7 := x57.own hlo
  rw [← hcub, ← hcsx]
  clear hu4 hs4 ho4 hrows4 hgg hu25 hg25 hs25 hsn hsx
  have hb7 : ∀ {w'}, Ext w2 w' → Boxed w' b _ := fun h => hb2.ext h
  refine ldB (hb7 x27) fa_38_0 l1_3 rfl ?_
  refine ⟨fun v w' => ∃ (r : Nat) (ov : Value) (l' : List Bool), v = i64 r ∧ (r : Int) ≤ p.params ∧ Rx w2 w' c ov (fun _ _ => false) (List.replicate R false) (addAll [] (upTo r)) ∧ l'.length = R ∧ w'.ownsRow w4.heap.size 4 1 av R (l'.map .bool) ∧
    (∀ s, s < R → (l'[s]? = some true ↔ (AheadP p (Alive p) 0 s ∨ s < r))) ∧ ∀ k, av.ownBlock = some k → ¬ Mu c ov k,
   fun v _ => p.params.toNat - (RowKit.intOf v).toNat, ⟨0, _, l, rfl, hp1, hRx, hll, hlo7, fun s hs => by rw [hla s hs]; simp, hav⟩, ?_⟩
  rintro _ w8 ⟨r, ov, l', rfl, hr, hRx8, hll', hlo8, hla', hav8⟩ _
  have hordlen := addAll_len [] (upTo r)
  rw [upTo_len] at hordlen
  refine V_lss.2 (ifD_dec (fun hlt => ?_) fun hge2 => ?_)
  ·refine stO xa_78 inf4 hlo8 (by omega) (by omega) rfl fun w9 ho9 hg9 => ?_
   rw [map_set_b] at ho9
   have hx9 : Ext w2 w9 := hRx8.ru.x.grown hg9 fun k hk => by have := (hlo8.lt k hk).1; omega
   have hRx9 := hRx8.fr (S := fun i => av.ownBlock = some i) (Fr.of_grown hg9 fun k hk => hk) (fun i hi hk => hav8 i hk hi) hx9
   refine (add_ok hRx9 (r := (r : Int)) (by rw [hcR]; omega) (by rw [hcR]; omega) (by simp at hordlen; omega)).mono fun _ w10 ⟨ov', hRx10, hmv⟩ => ?_
   refine V_add.2 ?_
   rw [wrap_id (by omega) (by omega), i64_succ]
   refine ⟨⟨r + 1, ov', l'.set r true, rfl, by omega, by rw [upTo_succ, addAll_snoc]; exact hRx10, by simp [hll'], hmv.fr.own ho9 hav8, fun s hs => ?_, fun k hk => hmv.far (ho9.lt k hk).2 (hav8 k hk)⟩, by simp only [intOf_i64]; omega⟩
   by_cases hsr : r = s
   ·subst hsr
    rw [List.getElem?_set_self (by omega)]
    simp
   ·rw [List.getElem?_set_ne hsr, hla' s hs]
    constructor <;> (rintro (h | h) <;> first | exact .inl h | exact .inr (by omega))
  have hrp : (r : Int) = p.params := by omega
  have hset : ∀ s, s < R → (l'[s]? = some true ↔ SetS p s) := fun s hs => by
   rw [hla' s hs]
   unfold SetS
   constructor <;> (rintro (h | h) <;> first | exact .inl h | exact .inr (by omega))
  refine (allX_ok (l := l') hRx8 (by rw [hcR]; omega) (by rw [hcgs, hcR]; exact hgl) (by rw [hcR]; exact hll') (by rw [hcR]; exact hlo8) hav8).mono fun _ w9 ⟨⟨m1, hRx9, hm1⟩, _⟩ => ?_
  refine ldA (hb7 hRx9.ru.x) la_38 rfl ?_
  refine (behindO_ok (hp0.ext (X12.trans hRx9.ru.x)) hv hR).mono fun bv w10 ⟨⟨mB, hmB, hal⟩, x10⟩ => ?_
  have hhi := hRx9.hi
  have hRx10 := hRx9.ext x10
  rw [show r = p.params.toNat by omega] at hRx10
  obtain ⟨g0', gs', rfl, hgl', hout', hrows', hlo0', hlog'⟩ := hmB
  have keepB : ∀ {ov' w'}, Mv c ov w10 ov' w' → Blk w' g0' (gs'.map (sl R)) 78 ∧ ∀ (k g : Nat), gs'[k]? = some g → Blk w' g ((rowL mB k R).map Value.bool) 4 := fun {ov' w'} h =>
   ⟨h.fr.blk hout' fun hi => by have := hhi _ hi; omega, fun k g hk => h.fr.blk (hrows' k g hk) fun hi => by have := hhi _ hi; have := hlog' g (List.mem_of_getElem? hk); omega⟩
  refine lnx xa_98 (hout'.slice (n := p.nodes.length) (by simpa using hgl') (by unfold maxLen; omega)) ?_
  refine ⟨fun v w' => ∃ (k : Nat) (ov' : Value) (m' : Mx) (sb' : List Bool), v = i64 k ∧ k ≤ p.nodes.length ∧ Rx w2 w' c ov' m' sb' (addAll [] (upTo p.params.toNat ++ (p.nodes.take k).map GNode.df)) ∧ Mv c ov w10 ov' w' ∧ sb'.length = R ∧
    (∀ a b, a < R → b < R → (m' a b = true ↔ a ≠ b ∧ ((SetS p a ∧ SetS p b) ∨ ∃ q, q < k ∧ SetK p q a ∧ SetK p q b))) ∧
    (∀ s, s < R → (sb'[s]? = some true ↔ ∃ q, q < k ∧ (p.at' q).leavesB = false ∧ Alive p q s ∧ (s : Int) ≠ (p.at' q).df)),
   fun v _ => p.nodes.length - (RowKit.intOf v).toNat, ⟨0, ov, m1, _, rfl, Nat.zero_le _, by simpa using hRx10, Mv.refl _ _ _, by simp, fun a b ha hb => ?_, fun s hs => by rw [List.getElem?_replicate_of_lt hs]; simp⟩, ?_⟩
  ·rw [hm1 a b (by omega) (by omega), hset a ha, hset b hb]
   simp
  rintro _ w11 ⟨k, ov1, m2, sb2, rfl, hk, hRx11, hmv11, hsbl, hm2, hsb2⟩ _
  refine V_lss.2 (ifD_dec (fun hlt => ?_) fun hge3 => ?_)
  ·have hk' : k < p.nodes.length := by omega
   obtain ⟨hat, hrt⟩ := hv.at hk'
   obtain ⟨nv, hnv, hni⟩ := hvs k _ hat
   obtain ⟨g', hg'⟩ := ex_get (l := gs') (j := k) (by omega)
   have hdf : (p.at' k).df < R := by rcases hrt.d with h | h <;> omega
   refine ldx xa_98 l1_78 ((keepB hmv11).1.slice (n := p.nodes.length) (by simpa using hgl') (by unfold maxLen; omega)) (by omega) (by omega) (by simp [hg'] : (gs'.map (sl R))[((k : Nat) : Int).toNat]? = some (sl R g')) ?_
   have hX11 := hRx11.ru.x
   refine ldB (hb7 hX11) fa_38_2 l1_36 rfl ?_
   refine ldx xa_36 l1_52 (hs.ext (X12.trans hX11)) (by omega) (by omega) (by simpa using hnv) ?_
   refine (def_ok (hni.ext (X12.trans hX11))).mono fun dv w12 ⟨hd, x12⟩ => ?_
   subst hd
   have hRx12 := hRx11.ext x12
   have hol : (addAll [] (upTo p.params.toNat ++ (p.nodes.take k).map GNode.df)).length ≤ 1000 := by
    have := addAll_len [] (upTo p.params.toNat ++ (p.nodes.take k).map GNode.df)
    simp only [List.length_append, List.length_map, List.length_take, upTo_len, List.length_nil] at this
    omega
   refine (add_ok hRx12 (r := (p.at' k).df) (by rw [hcR]; exact hdf) (by rw [hcR]; omega) hol).mono fun _ w13 ⟨ov2, hRx13, hmv13⟩ => ?_
   have hmv13' := (hmv11.trans (Mv.of_ext x12)).trans hmv13
   have hordk : addO (addAll [] (upTo p.params.toNat ++ (p.nodes.take k).map GNode.df)) (p.at' k).df = addAll [] (upTo p.params.toNat ++ (p.nodes.take (k + 1)).map GNode.df) := by
    rw [← addAll_snoc, List.append_assoc, List.take_add_one, hat]
    simp
   rw [hordk] at hRx13
   have hrow13 := (keepB hmv13').2 k g' hg'
   have hrl13 : BoolsAre w13 (sl R g') (rowL mB k R) := by
    have := hrow13.slice (n := R) (by simp [rowL_len]) (by unfold maxLen; omega)
    unfold BoolsAre
    rw [rowL_len]; exact this
   refine (with_ok hrl13 (by rw [rowL_len]; omega) (by rw [rowL_len]; exact hdf)).mono fun wv w14 ⟨hwo, x14⟩ => ?_
   rw [rowL_len] at hwo
   have hRx14 := hRx13.ext x14
   have hhi13 := hRx13.hi
   have hwl : (withL (rowL mB k R) (p.at' k).df).length = R := by rw [withL_len, rowL_len]
   refine (allX_ok (l := withL (rowL mB k R) (p.at' k).df) hRx14 (by rw [hcR]; omega) (by rw [hcgs, hcR]; exact hgl) (by rw [hcR]; exact hwl) (by rw [hcR]; exact hwo) (fun i hi hm => by have := hhi13 i hm; have := (hwo.lt i hi).1; omega)).mono fun _ w15 ⟨⟨m3, hRx15, hm3⟩, hf15⟩ => ?_
   have hmv15 : Mv c ov w10 ov2 w15 := (hmv13'.trans (Mv.of_ext x14)).trans ⟨hf15.mono fun i hi => .inr (.inr (.inr (.inr (.inr (.inl hi))))), fun _ h => .inl h⟩
   have hwset := withL_set (p := p) (R := R) (k := k) (m := mB) (fun r hr => hal k r hk' hr) hdf
   have hm3' : ∀ a b, a < R → b < R → (m3 a b = true ↔ a ≠ b ∧ ((SetS p a ∧ SetS p b) ∨ ∃ q, q < k + 1 ∧ SetK p q a ∧ SetK p q b)) := by
    intro a b ha hb
    rw [hm3 a b (by omega) (by omega), hm2 a b ha hb, hwset a ha, hwset b hb]
    constructor
    ·rintro (⟨h1, h2 | ⟨q, h3, h4⟩⟩ | ⟨h1, h2⟩)
     ·exact ⟨h1, .inl h2⟩
     ·exact ⟨h1, .inr ⟨q, by omega, h4⟩⟩
     ·exact ⟨h1, .inr ⟨k, by omega, h2⟩⟩
    ·rintro ⟨h1, h2 | ⟨q, h3, h4⟩⟩
     ·exact .inl ⟨h1, .inl h2⟩
     ·by_cases hqk : q = k
      ·subst hqk; exact .inr ⟨h1, h4⟩
      ·exact .inl ⟨h1, .inr ⟨q, by omega, h4⟩⟩
   have hsl15 : ∀ {ov' w'}, Mv c ov w10 ov' w' → SliceIs w' (sl R g') 1 R ((rowL mB k R).map Value.bool) := fun h => ((keepB h).2 k g' hg').slice (n := R) (by simp [rowL_len]) (by unfold maxLen; omega)
   refine lnx xa_78 (hsl15 hmv15) ?_
   refine ⟨fun v w' => ∃ (r : Nat) (sb' : List Bool), v = i64 r ∧ r ≤ R ∧ Rx w2 w' c ov2 m3 sb' (addAll [] (upTo p.params.toNat ++ (p.nodes.take (k + 1)).map GNode.df)) ∧ Mv c ov w10 ov2 w' ∧ sb'.length = R ∧
     (∀ s, s < R → (sb'[s]? = some true ↔ (sb2[s]? = some true ∨ (s < r ∧ (p.at' k).leavesB = false ∧ Alive p k s ∧ (s : Int) ≠ (p.at' k).df)))),
    fun v _ => R - (RowKit.intOf v).toNat, ⟨0, sb2, rfl, Nat.zero_le _, hRx15, hmv15, hsbl, fun s hs => by simp⟩, ?_⟩
   rintro _ w16 ⟨r2, sb3, rfl, hr2, hRx16, hmv16, hsb3l, hsb3⟩ _
   refine V_lss.2 (ifD_dec (fun hlt5 => ?_) fun hge5 => ?_)
   ·have hr2' : r2 < R := by omega
    refine ldx xa_78 l1_4 (hsl15 hmv16) (by omega) (by omega) (getB (rowL_get hr2')) ?_
    obtain ⟨sv, hsv⟩ := ex_get (l := sb3) (j := r2) (by omega)
    have D16 : Ext w16 w16.drew := (Ext.refl _).drew
    have hRx17 := hRx16.ext D16
    have hss : SliceIs w16.drew (.slice (some ⟨c.sg, 0, none⟩) c.R c.R) 1 c.R (sb3.map Value.bool) := hRx17.ru.slot.slice (by simp; omega) (by unfold maxLen; omega)
    have fin : ∀ nv : Bool, (nv = true ↔ (sv = true ∨ ((p.at' k).leavesB = false ∧ Alive p k r2 ∧ (r2 : Int) ≠ (p.at' k).df))) →
      yieldS prog (fun w' => w' = w16.drew) (Instr.indexAt 78 (.slice (some ⟨c.sg, 0, none⟩) c.R c.R) (i64 (r2 : Int))) fun t106 => U prog (Instr.storeAt 4 t106 (.bool nv)) w16.drew fun _ w73 => V prog (binOp .add 3 (i64 (r2 : Int)) (Value.int IntKind.i64 1)) w73 fun t107 w74 =>
       (∃ (r : Nat) (sb' : List Bool), t107 = i64 r ∧ r ≤ R ∧ Rx w2 w74 c ov2 m3 sb' (addAll [] (upTo p.params.toNat ++ (p.nodes.take (k + 1)).map GNode.df)) ∧ Mv c ov w10 ov2 w74 ∧ sb'.length = R ∧ (∀ s, s < R → (sb'[s]? = some true ↔ (sb2[s]? = some true ∨ (s < r ∧ (p.at' k).leavesB = false ∧ Alive p k s ∧ (s : Int) ≠ (p.at' k).df))))) ∧ R - (RowKit.intOf t107).toNat < R - (RowKit.intOf (i64 (r2 : Int))).toNat := by
     intro nv hnv
     refine yieldS.ok (fun w' _ => r_ix_78 (by omega) (by omega)) ?_
     rw [Int.toNat_natCast]
     refine stBY inf4 hRx17.ru.slot (by simp; omega) rfl ?_
     refine V_add.2 ?_
     rw [wrap_id (by omega) (by omega), i64_succ]
     refine ⟨⟨r2 + 1, sb3.set r2 nv, rfl, by omega, hRx17.setSlot r2 nv, (hmv16.trans (Mv.of_ext D16)).set r2 _, by simp [hsb3l], fun s hs => ?_⟩, by simp only [intOf_i64]; omega⟩
     by_cases hsr : r2 = s
     ·subst hsr
      rw [List.getElem?_set_self (by omega)]
      simp only [Option.some.injEq]
      have h3 := hsb3 r2 hs
      rw [hsv] at h3
      simp only [Option.some.injEq] at h3
      rw [hnv, h3]
      constructor
      ·rintro ((h | h) | h)
       ·exact .inl h
       ·omega
       ·exact .inr ⟨by omega, h⟩
      ·rintro (h | ⟨_, h⟩)
       ·exact .inl (.inl h)
       ·exact .inr h
     ·rw [List.getElem?_set_ne hsr, hsb3 s hs]
      constructor
      iterate 2
       ·rintro (h | ⟨h1, h2⟩)
        ·exact .inl h
        ·exact .inr ⟨by omega, h2⟩
    have hal' := hal k r2 hk' hr2'
    refine drawD.mk' (fun w' => w' = w16.drew) rfl ?_
    refine yfB (fun w' hw => hw ▸ hRx17.ru.u.boxed) fa_109_1 l1_78 rfl ?_
    refine yfB (fun w' hw => hw ▸ hRx17.ru.u.boxed) fa_109_1 l1_78 rfl ?_
    refine ySl xa_78 l1_4 hss (fun w' hw => hw ▸ Ext.refl _) (by omega) (by omega) (getB hsv) ?_
    cases hsb : sv with
    | true =>
     simp only [gd_undef, gdY_tf, gdY_undef, pickD_iff, reduceIte]
     refine ⟨trivial, ?_⟩
     exact fin true (by simp [hsb])
    | false =>
     by_cases hmk : mB k r2 = true
     ·simp only [hmk, gdY_t, gdY_f, pickD_iff, reduceIte, Bool.false_eq_true]
      refine yieldS.ok (fun w' _ => r_neqI) ?_
      by_cases hrd : (r2 : Int) ≠ (p.at' k).df
      ·simp only [hrd, ne_eq, not_false_eq_true, gd_t, gdY_t, pickD_iff, reduceIte, decide_true]
       refine (leaves_ok (hni.ext (X12.trans hRx17.ru.x))).mono fun rv w' ⟨h1, h2⟩ => ?_
       subst h1
       subst h2
       refine ⟨rfl, ?_⟩
       refine yieldS.ok (fun _ _ => r_not) ?_
       exact fin (!(p.at' k).leavesB) (by cases hlb : (p.at' k).leavesB <;> simp [hsb, hal'.1 hmk, hrd])
      ·simp only [hrd, gd_ft, gdY_ft, pickD_iff, reduceIte, Bool.false_eq_true, decide_false]
       refine ⟨trivial, ?_⟩
       exact fin false (by simp [hsb]; intro _ _; simpa using hrd)
     ·simp only [hmk, gd_ft, gdY_f, gdY_ft, pickD_iff, reduceIte, Bool.false_eq_true]
      refine ⟨trivial, ?_⟩
      exact fin false (by simp [hsb]; intro _ h; exact absurd (hal'.2 h) hmk)
   ·refine V_add.2 ?_
    rw [wrap_id (by omega) (by omega), i64_succ]
    refine ⟨⟨k + 1, ov2, m3, sb3, rfl, by omega, hRx16, hmv16, hsb3l, hm3', fun s hs => ?_⟩, by simp only [intOf_i64]; omega⟩
    rw [hsb3 s hs, hsb2 s hs]
    constructor
    ·rintro (⟨q, h1, h2⟩ | ⟨h1, h2⟩)
     ·exact ⟨q, by omega, h2⟩
     ·exact ⟨k, by omega, h2⟩
    ·rintro ⟨q, h1, h2⟩
     by_cases hqk : q = k
     ·subst hqk; exact .inr ⟨by omega, h2⟩
     ·exact .inl ⟨q, by omega, h2⟩
  ·have hkN : k = p.nodes.length := by omega
   subst hkN
   rw [List.take_of_length_le (Nat.le_refl _)] at hRx11
   refine ldB (hb7 hRx11.ru.x) fa_38_1 l1_3 rfl ?_
   rw [hR]
   refine ⟨fun v w' => ∃ (r : Nat) (ov' : Value), v = i64 r ∧ r ≤ R ∧ Rx w2 w' c ov' m2 sb2 (addAll [] (upTo p.params.toNat ++ p.nodes.map GNode.df ++ upTo r)),
    fun v _ => R - (RowKit.intOf v).toNat, ⟨0, ov1, rfl, Nat.zero_le _, by simpa [upTo] using hRx11⟩, ?_⟩
   rintro _ w12 ⟨r3, ov3, rfl, hr3, hRx12⟩ _
   refine V_lss.2 (ifD_dec (fun hlt6 => ?_) fun hge6 => ?_)
   ·have hol : (addAll [] (upTo p.params.toNat ++ p.nodes.map GNode.df ++ upTo r3)).length ≤ 1000 := by
     have := addAll_len [] (upTo p.params.toNat ++ p.nodes.map GNode.df ++ upTo r3)
     simp only [List.length_append, List.length_map, upTo_len, List.length_nil] at this
     omega
    refine (add_ok hRx12 (r := (r3 : Int)) (by rw [hcR]; omega) (by rw [hcR]; omega) hol).mono fun _ w13 ⟨ov4, hRx13, _⟩ => ?_
    refine V_add.2 ?_
    rw [wrap_id (by omega) (by omega), i64_succ]
    exact ⟨⟨r3 + 1, ov4, rfl, by omega, by rw [upTo_succ, ← List.append_assoc, addAll_snoc]; exact hRx13⟩, by simp only [intOf_i64]; omega⟩
   ·have hrR : r3 = R := by omega
    subst hrR
    refine ldA hRx12.ru.u.boxed la_109 rfl ?_
    have hX := hRx12.ru.x
    have hzl := hz.lt
    have hlo12 := hRx12.lo
    have hov3 := hRx12.ov
    refine stA inf109 (hz.ext hX) (l := [.slice (some ⟨c.g0, 0, none⟩) c.R c.R, .slice (some ⟨c.sg, 0, none⟩) c.R c.R, ov3]) rfl rfl rfl (by have := own1' hov3; simp only [List.all_cons, List.all_nil, this, Bool.and_true]; rfl) fun w' h' hch => ?_
    refine ⟨_, r_var underlying109 rfl inf109 h' rfl, ⟨_, rfl⟩, ⟨c.g0, c.sg, ov3, m2, sb2, by rw [hcR]; rfl, ⟨c.g0, c.gs, rfl, by rw [hcgs]; exact hgl, ?_, ?_⟩, ?_, hsbl, ?_, ?_, ?_⟩, hch.ext w (X12.trans hX) x1.size⟩
    ·have := hch.other (by have := hRx12.ru.lo; omega) hRx12.ru.out
     rw [hcR] at this; exact this
    ·intro q g hq
     have := hch.other (by have := hRx12.ru.lo.2.2.2 g (List.mem_of_getElem? hq); omega) (hRx12.ru.rows q g hq)
     rw [hcR] at this; exact this
    ·have := (hch.other (by have := hRx12.ru.lo; omega) hRx12.ru.slot).slice (n := sb2.length) (by simp) (by unfold maxLen; omega)
     unfold BoolsAre sl
     rw [hsbl] at this ⊢
     exact this
    ·have := hch.own hov3 (by have := hRx12.ord'; omega)
     exact this
    ·exact fun a b ha hb => hm2 a b ha hb
    ·exact fun s hs => hsb2 s hs
 refine drawD.mk' (fun w' => Ext w2 w') (Ext.refl _).drew ?_
 have X2 : Ext w2 w2.drew := (Ext.refl _).drew
 refine yfB (fun w' hw => hb2.ext hw) fa_38_1 l1_3 rfl ?_
 refine yfB (fun w' hw => hb2.ext hw) fa_38_1 l1_3 rfl ?_
 refine ⟨?_, ?_, ?_⟩
 ·refine mkBv hR underlying98 inf78 rfl (n := R) (by omega) (by omega) fun wa hM xa sM => ?_
  have Xa := X2.trans xa
  refine ⟨Xa, ?_, ?_⟩
  ·refine mkBv hR underlying78 inf4 rfl (n := R) (by omega) (by omega) fun wb hB xb sB => ?_
   have Xb := Xa.trans xb
   refine ⟨Xb, ?_⟩
   refine yBld bd_109 [(0, _), (1, _), (2, Value.slice none 0 0)] rfl (by simp [oneC]) ?_
   refine alK inf109 fun wc hA xc => ?_
   have Xc := Xb.trans xc
   refine ⟨Xc, ?_⟩
   have za := xa.size; have zb := xb.size; have la := (hM).lt; have lb := (hB).lt
   have zw : w2.heap.size = w2.drew.heap.size := rfl
   exact laidEnd Xc hA ((hM.ext xb).ext xc) (hB.ext xc) (by omega) (by omega) (by omega) (by omega) (by omega) (by omega)
  ·refine alK inf109 fun wb hA xb => ?_
   have Xb := Xa.trans xb
   refine ⟨Xb, ?_⟩
   refine mkBv hR underlying78 inf4 rfl (n := R) (by omega) (by omega) fun wc hB xc sB => ?_
   have Xc := Xb.trans xc
   refine ⟨Xc, ?_⟩
   refine yBld bd_109 [(0, _), (1, _), (2, Value.slice none 0 0)] rfl (by simp [oneC]) ?_
   have za := xa.size; have zb := xb.size; have la := (hM).lt; have lb := (hA).lt
   have zw : w2.heap.size = w2.drew.heap.size := rfl
   exact laidEnd Xc (hA.ext xc) ((hM.ext xb).ext xc) hB (by omega) (by omega) (by omega) (by omega) (by omega) (by omega)
 ·refine mkBv hR underlying78 inf4 rfl (n := R) (by omega) (by omega) fun wa hB xa sB => ?_
  have Xa := X2.trans xa
  refine ⟨Xa, ?_, ?_⟩
  ·refine mkBv hR underlying98 inf78 rfl (n := R) (by omega) (by omega) fun wb hM xb sM => ?_
   have Xb := Xa.trans xb
   refine ⟨Xb, ?_⟩
   refine yBld bd_109 [(0, _), (1, _), (2, Value.slice none 0 0)] rfl (by simp [oneC]) ?_
   refine alK inf109 fun wc hA xc => ?_
   have Xc := Xb.trans xc
   refine ⟨Xc, ?_⟩
   have za := xa.size; have zb := xb.size; have la := (hB).lt; have lb := (hM).lt
   have zw : w2.heap.size = w2.drew.heap.size := rfl
   exact laidEnd Xc hA (hM.ext xc) ((hB.ext xb).ext xc) (by omega) (by omega) (by omega) (by omega) (by omega) (by omega)
  ·refine alK inf109 fun wb hA xb => ?_
   have Xb := Xa.trans xb
   refine ⟨Xb, ?_⟩
   refine mkBv hR underlying98 inf78 rfl (n := R) (by omega) (by omega) fun wc hM xc sM => ?_
   have Xc := Xb.trans xc
   refine ⟨Xc, ?_⟩
   refine yBld bd_109 [(0, _), (1, _), (2, Value.slice none 0 0)] rfl (by simp [oneC]) ?_
   have za := xa.size; have zb := xb.size; have la := (hB).lt; have lb := (hA).lt
   have zw : w2.heap.size = w2.drew.heap.size := rfl
   exact laidEnd Xc (hA.ext xc) hM ((hB.ext xb).ext xc) (by omega) (by omega) (by omega) (by omega) (by omega) (by omega)
 ·refine alK inf109 fun wa hA xa => ?_
  have Xa := X2.trans xa
  refine ⟨Xa, ?_, ?_⟩
  ·refine mkBv hR underlying98 inf78 rfl (n := R) (by omega) (by omega) fun wb hM xb sM => ?_
   have Xb := Xa.trans xb
   refine ⟨Xb, ?_⟩
   refine mkBv hR underlying78 inf4 rfl (n := R) (by omega) (by omega) fun wc hB xc sB => ?_
   have Xc := Xb.trans xc
   refine ⟨Xc, ?_⟩
   refine yBld bd_109 [(0, _), (1, _), (2, Value.slice none 0 0)] rfl (by simp [oneC]) ?_
   have za := xa.size; have zb := xb.size; have la := (hA).lt; have lb := (hM).lt
   have zw : w2.heap.size = w2.drew.heap.size := rfl
   exact laidEnd Xc ((hA.ext xb).ext xc) (hM.ext xc) hB (by omega) (by omega) (by omega) (by omega) (by omega) (by omega)
  ·refine mkBv hR underlying78 inf4 rfl (n := R) (by omega) (by omega) fun wb hB xb sB => ?_
   have Xb := Xa.trans xb
   refine ⟨Xb, ?_⟩
   refine mkBv hR underlying98 inf78 rfl (n := R) (by omega) (by omega) fun wc hM xc sM => ?_
   have Xc := Xb.trans xc
   refine ⟨Xc, ?_⟩
   refine yBld bd_109 [(0, _), (1, _), (2, Value.slice none 0 0)] rfl (by simp [oneC]) ?_
   have za := xa.size; have zb := xb.size; have la := (hA).lt; have lb := (hB).lt
   have zw : w2.heap.size = w2.drew.heap.size := rfl
   exact laidEnd Xc ((hA.ext xb).ext xc) hM (hB.ext xc) (by omega) (by omega) (by omega) (by omega) (by omega) (by omega)
end Go.Proofs.YtcdbikfnlggbnaaGreatDoor
namespace Go.Proofs.YtcdbikfnlggbnaaGreatDoor
open Tryz
open Go.Vc
theorem good_iff {p : GProg} {R : Nat} {of : List Int} {slots : Int} {m : Mx} {sb : List Bool} (hl : of.length = R) (h0 : 0 ≤ slots) (h1 : slots ≤ 40) (hm : ∀ a b, a < R → b < R → (m a b = true ↔ Meets p a b)) (hs : ∀ r, r < R → (sb[r]? = some true ↔ Slotted p r)) :
  (∀ (r : Nat) (x : Int), r < R → of[r]? = some x → Valid x slots ∧ MayP m sb of r x) ↔ GoodP p R of slots := by
 have lt : ∀ {r : Nat} {x : Int}, of[r]? = some x → r < R := fun h => by have := (List.getElem?_eq_some_iff.1 h).1; omega
 constructor
 ·intro h
  have ap : ∀ S : Nat → Prop, (∀ a b, a ≠ b → S a → S b → Meets p a b) → ApartS S R of := by
   intro S hS r s hsr hr h2 h3 he
   obtain ⟨x, hx⟩ := ex_get (l := of) (j := r) (by omega)
   exact (h r x hr hx).2.2 s x (by rw [← he]; exact hx) ((hm r s hr (by omega)).2 (hS r s (by omega) h2 h3)) rfl
  exact ⟨hl, h0, h1, fun r x hx => (h r x (lt hx) hx).1, fun k hk => ap _ fun a b hab ha hb => ⟨hab, .inr ⟨k, hk, ha, hb⟩⟩, fun k hk hlb r x hal hne hx => (h r x (lt hx) hx).2.1 ((hs r (lt hx)).2 ⟨k, hk, hlb, hal, hne⟩), ap _ fun a b hab ha hb => ⟨hab, .inl ⟨ha, hb⟩⟩⟩
 ·intro h r x hr hx
  refine ⟨h.val r x hx, fun hsl => ?_, fun o y hy hmo he => ?_⟩
  ·obtain ⟨k, hk, hlb, hal, hne⟩ := (hs r hr).1 hsl
   exact h.slot k hk hlb r x hal hne hx
  ·subst he
   obtain ⟨hne, hset⟩ := (hm r o hr (lt hy)).1 hmo
   have ap : ∀ S : Nat → Prop, ApartS S R of → S r → S o → False := by
    intro S hS h2 h3
    by_cases hlt : o < r
    ·exact hS r o hlt hr h2 h3 (by rw [hx, hy])
    ·exact hS o r (by omega) (lt hy) h3 h2 (by rw [hx, hy])
   rcases hset with ⟨h2, h3⟩ | ⟨k, hk, h2, h3⟩
   ·exact ap _ h.start h2 h3
   ·exact ap _ (h.sets k hk) h2 h3
theorem oneC_ints {w : World} {v : Value} {l : List Int} (h : IntsAre w v l) : oneC v = true := by
 obtain ⟨a, c, rfl⟩ := h.shape
 rfl
set_option maxHeartbeats 4000000 in
theorem placeRight_ok {p : GProg} {R : Nat} {pv ofv : Value} {of : List Int} {slots : Int} {w : World} (hp : ProgIs w pv p) (hv : OkProg p) (hR : p.regs = R) (ho : IntsAre w ofv of) (_ : of.length ≤ 1000000) :
  callD prog 48 #[pv, .agg #[ofv, i64 slots]] w fun r w' => (∃ ok : Bool, r = .bool ok ∧ (ok = true ↔ GoodP p R of slots)) ∧ Ext w w' := by
 have hp0 := hp
 obtain ⟨ns, rfl, hns, hargs⟩ := hp
 obtain ⟨oa, oc, rfl⟩ := ho.shape
 have hr1 := hv.r1; have hr2 := hv.r2
 have no : ∀ {w'}, Ext w w' → ¬ GoodP p R of slots → (∃ ok : Bool, Value.bool false = .bool ok ∧ (ok = true ↔ GoodP p R of slots)) ∧ Ext w w' := fun hx hn => ⟨⟨false, rfl, fun h => (by cases h), fun h => absurd h hn⟩, hx⟩
 apply F48_wp
 unfold F48_den
 refine bx fun b w1 hb x1 => ?_
 refine bx fun b2 w2 hb2 x2 => ?_
 have X2 := x1.trans x2
 have hb' := hb.ext x2
 refine ldA hb' la_38 rfl ?_
 refine (check_ok (p := p) (hp0.ext X2) hv).mono fun r w3 ⟨hr, x3⟩ => ?_
 subst hr
 have hb3 := hb'.ext x3
 have hb23 := hb2.ext x3
 have X3 := X2.trans x3
 refine V_not.2 ?_
 simp only [gd_f, pickD_iff, reduceIte, Bool.false_eq_true, Bool.not_true]
 refine ldB hb23 fa_68_0 l1_23 rfl (lnx xa_23 (ho.ext X3) ?_)
 refine ldB hb3 fa_38_1 l1_3 rfl (V_neqI.2 ?_)
 rw [hR]
 by_cases h1 : ((of.length : Nat) : Int) ≠ ((R : Nat) : Int)
 ·simp only [h1, ne_eq, not_false_eq_true, gd_tf, pickD_iff, ifD_true, reduceIte, decide_true]
  exact no X3 fun h => h1 (by have := h.len; omega)
 have h1' : of.length = R := by omega
 simp only [h1, gd_f, pickD_iff, reduceIte, Bool.false_eq_true, decide_false]
 refine ldB hb23 fa_68_1 l1_3 rfl (V_lss.2 ?_)
 by_cases h2 : slots < 0
 ·simp only [h2, gd_tf, pickD_iff, ifD_true, reduceIte, decide_true]
  exact no X3 fun h => by have := h.s0; omega
 simp only [h2, gd_f, pickD_iff, reduceIte, Bool.false_eq_true, decide_false]
 refine ldB hb23 fa_68_1 l1_3 rfl (V_gtr.2 ?_)
 by_cases h3 : slots > 40
 ·simp only [h3, ifD_true, decide_true]
  exact no X3 fun h => by have := h.s1; omega
 simp only [h3, ifD_false, decide_false]
 refine ldA hb3 la_38 rfl ?_
 refine (rulesOf_ok (hp0.ext X3) hv hR).mono fun rv w4 ⟨⟨g0, sg, ov, m, sb, hrv, hmat, hsb, hsbl, hov, hm, hs⟩, x4⟩ => ?_
 subst hrv
 refine asK sa_109 rfl (by have := oneC_ints hov; show (oneC (sl R g0) && (oneC (sl R sg) && (oneC ov && true))) = true; rw [this]; rfl) fun w5 hu5 x5 => ?_
 have x35 := x4.trans x5
 have X5 := X3.trans x35
 refine ldB (hb23.ext x35) fa_68_0 l1_23 rfl (lnx xa_23 (ho.ext X5) ?_)
 have hgood := good_iff (p := p) (slots := slots) h1' (by omega) (by omega) hm hs
 refine ⟨fun v w' => ∃ i : Nat, v = i64 i ∧ i ≤ of.length ∧ Ext w5 w' ∧ ∀ (r : Nat) (x : Int), r < i → of[r]? = some x → Valid x slots ∧ MayP m sb of r x, fun v _ => of.length - (RowKit.intOf v).toNat, ⟨0, rfl, Nat.zero_le _, Ext.refl _, fun r x h => by omega⟩, ?_⟩
 rintro _ w6 ⟨i, rfl, hi, x6, hval⟩ _
 have x36 := x35.trans x6
 have X6 := X5.trans x6
 refine V_lss.2 (ifD_dec (fun hlt => ?_) fun hge => ?_)
 ·have hi' : i < of.length := by omega
  obtain ⟨x, hx⟩ := ex_get hi'
  refine ldx xa_23 l1_3 (ho.ext X6) (by omega) (by omega) (getI hx) (V_neqI.2 ?_)
  have bad : ¬ Valid x slots → (∃ ok : Bool, Value.bool false = .bool ok ∧ (ok = true ↔ GoodP p R of slots)) ∧ Ext w w6 := fun h => no X6 fun hg => h (hg.val i x hx)
  have ok : Valid x slots → callD prog 47 #[.agg #[sl R g0, sl R sg, ov], i64 (i : Int), i64 x, .slice oa of.length oc] w6 fun q w' => (∃ ok : Bool, q = .bool ok ∧ (ok = true ↔ MayP m sb of i x)) ∧ Ext w6 w' := fun _ =>
   may_ok (by omega) ((hmat.ext x5).ext x6) ((hsb.ext x5).ext x6) hsbl (ho.ext X6) h1' (by omega)
  have fin : Valid x slots → V prog (Instr.loadAt 109 (.pointer (some ⟨w4.heap.size, 0, none⟩))) w6 fun t57 w46 =>
    V prog (Instr.fieldAt 68 (.pointer (some ⟨b2, 0, none⟩)) 0) w46 fun t60 w49 => V prog (Instr.loadAt 23 t60) w49 fun t61 w50 => callD prog 47 #[t57, i64 (i : Int), i64 x, t61] w50 fun t62 w51 =>
    V prog (Op.unary UnOp.not t62) w51 fun t63 w52 => ifD t63 ((∃ ok : Bool, Value.bool false = .bool ok ∧ (ok = true ↔ GoodP p R of slots)) ∧ Ext w w52) (V prog (binOp .add 3 (i64 (i : Int)) (Value.int IntKind.i64 1)) w52 fun t65 w54 =>
     (∃ i : Nat, t65 = i64 i ∧ i ≤ of.length ∧ Ext w5 w54 ∧ ∀ (r : Nat) (x : Int), r < i → of[r]? = some x → Valid x slots ∧ MayP m sb of r x) ∧ of.length - (RowKit.intOf t65).toNat < of.length - (RowKit.intOf (i64 (i : Int))).toNat) := by
   intro hvx
   refine ldA (hu5.ext x6).boxed la_109 rfl ?_
   refine ldB (hb23.ext x36) fa_68_0 l1_23 rfl ?_
   refine (ok hvx).mono fun q w7 ⟨⟨a, hq, ha⟩, x7⟩ => ?_
   subst hq
   refine V_not.2 (ifD.mk (fun hn => ?_) fun hn => ?_)
   ·refine no (X6.trans x7) fun hg => ?_
    have := ha.2 (hgood.2 hg i x (by omega) hx).2
    subst this
    cases hn
   ·refine V_add.2 ?_
    rw [wrap_id (by omega) (by omega), i64_succ]
    refine ⟨⟨i + 1, rfl, by omega, x6.trans x7, fun r y hr hy => ?_⟩, by simp only [intOf_i64]; omega⟩
    by_cases hri : r = i
    ·subst hri
     rw [hx] at hy
     cases hy
     exact ⟨hvx, ha.1 (by simpa using hn)⟩
    ·exact hval r y (by omega) hy
  by_cases h5 : x = 5
  ·simp only [h5, ne_eq, not_true_eq_false, gd_f, gd_ft, gd_undef, pickD_iff, reduceIte, Bool.false_eq_true, decide_false]
   exact h5 ▸ fin (.inl h5)
  simp only [h5, ne_eq, not_false_eq_true, V_neqI, gd_t, pickD_iff, reduceIte, decide_true]
  by_cases h6 : x = 6
  ·simp only [h6, not_true_eq_false, gd_f, gd_ft, gd_undef, pickD_iff, reduceIte, Bool.false_eq_true, decide_false]
   exact h6 ▸ fin (.inr (.inl h6))
  simp only [h6, not_false_eq_true, V_lss, gd_t, pickD_iff, reduceIte, decide_true]
  by_cases h16 : x < 16
  ·simp only [h16, gd_tf, pickD_iff, ifD_true, reduceIte, decide_true]
   exact bad (by unfold Valid; omega)
  simp only [h16, gd_f, reduceIte, Bool.false_eq_true, decide_false]
  refine ldB (hb23.ext x36) fa_68_1 l1_3 rfl (V_add.2 ?_)
  rw [wrap_id (by omega) (by omega)]
  simp only [V_geq, pickD_iff]
  by_cases h17 : x ≥ 16 + slots
  ·simp only [h17, gd_tf, ifD_true, reduceIte, decide_true]
   exact bad (by unfold Valid; omega)
  simp only [h17, gd_f, reduceIte, Bool.false_eq_true, decide_false]
  exact fin (by unfold Valid; omega)
 ·refine ⟨⟨true, rfl, fun _ => hgood.1 fun r x hr hx => hval r x (by omega) hx, fun _ => rfl⟩, X6⟩
end Go.Proofs.YtcdbikfnlggbnaaGreatDoor
namespace Go.Proofs.YtcdbikfnlggbnaaGreatDoor
open Tryz
open Go.Vc
def MayS (p : GProg) (of : List Int) (r : Nat) (at' : Int) : Prop := (Slotted p r → 16 ≤ at') ∧ ∀ (o : Nat) (y : Int), of[o]? = some y → Meets p r o → y ≠ at'
theorem may_s {p : GProg} {R : Nat} {m : Mx} {sb : List Bool} {of : List Int} {r : Nat} {at' : Int} (hl : of.length = R) (hm : ∀ a b, a < R → b < R → (m a b = true ↔ Meets p a b)) (hs : ∀ r, r < R → (sb[r]? = some true ↔ Slotted p r)) (hr : r < R) : MayP m sb of r at' ↔ MayS p of r at' := by
 have lt : ∀ {r : Nat} {x : Int}, of[r]? = some x → r < R := fun h => by have := (List.getElem?_eq_some_iff.1 h).1; omega
 unfold MayP MayS
 rw [hs r hr]
 exact ⟨fun h => ⟨h.1, fun o y hy hmo => h.2 o y hy ((hm r o hr (lt hy)).2 hmo)⟩, fun h => ⟨h.1, fun o y hy hmo => h.2 o y hy ((hm r o hr (lt hy)).1 hmo)⟩⟩
theorem Meets.symm {p : GProg} {a b : Nat} (h : Meets p a b) : Meets p b a := by
 obtain ⟨h1, h2⟩ := h
 refine ⟨fun h => h1 h.symm, ?_⟩
 rcases h2 with ⟨h2, h3⟩ | ⟨k, hk, h2, h3⟩
 ·exact .inl ⟨h3, h2⟩
 ·exact .inr ⟨k, hk, h3, h2⟩
structure Al (p : GProg) (R : Nat) (ord : List Int) (i : Nat) (of : List Int) (slots : Int) : Prop where
 len : of.length = R
 s0 : 0 ≤ slots
 s1 : slots ≤ 40
 placed : ∀ (r : Nat) (x : Int), of[r]? = some x → (((r : Int) ∈ ord.take i → Valid x slots ∧ MayS p of r x) ∧ ((r : Int) ∉ ord.take i → x = 0))
theorem Al.start (p : GProg) (R : Nat) (ord : List Int) : Al p R ord 0 (List.replicate R 0) 0 := by
 refine ⟨by simp, by omega, by omega, fun r x hx => ⟨fun h => by simp at h, fun _ => ?_⟩⟩
 have := List.mem_of_getElem? hx
 simp at this
 exact this.2
theorem Al.step {p : GProg} {R : Nat} {ord of : List Int} {i r : Nat} {slots at' : Int} (h : Al p R ord i of slots) (hr : r < R) (hi : ord[i]? = some (r : Int)) (hm : MayS p of r at') (ha : at' = 5 ∨ at' = 6 ∨ 16 ≤ at') (ha2 : at' ≤ 55) :
  Al p R ord (i + 1) (of.set r at') (max slots (at' - 15)) := by
 have hs0 := h.s0; have hs1 := h.s1
 have hval : ∀ {x}, Valid x slots → Valid x (max slots (at' - 15)) := by unfold Valid; omega
 have htake : ord.take (i + 1) = ord.take i ++ [(r : Int)] := by rw [List.take_add_one, hi]; rfl
 have hlen := h.len
 refine ⟨by simp [h.len], by omega, by omega, fun q x hx => ?_⟩
 by_cases hq : r = q
 ·subst hq
  rw [List.getElem?_set_self (by omega)] at hx
  cases hx
  refine ⟨fun _ => ⟨by unfold Valid; omega, hm.1, fun o y hy hmo => ?_⟩, fun hn => absurd (by rw [htake]; simp) hn⟩
  rw [List.getElem?_set_ne (fun e => hmo.1 e)] at hy
  exact hm.2 o y hy hmo
 ·rw [List.getElem?_set_ne hq] at hx
  obtain ⟨h1, h2⟩ := h.placed q x hx
  refine ⟨fun hmem => ?_, fun hn => h2 fun hmem => hn (by rw [htake]; simp [hmem])⟩
  have hmem' : (q : Int) ∈ ord.take i := by
   rw [htake] at hmem
   rcases List.mem_append.1 hmem with h3 | h3
   ·exact h3
   ·have : (q : Int) = r := by simpa using h3
    omega
  obtain ⟨h3, h4⟩ := h1 hmem'
  refine ⟨hval h3, h4.1, fun o y hy hmo => ?_⟩
  by_cases ho : r = o
  ·subst ho
   rw [List.getElem?_set_self (by omega)] at hy
   cases hy
   exact (fun e => hm.2 q x hx hmo.symm e.symm)
  ·rw [List.getElem?_set_ne ho] at hy
   exact h4.2 o y hy hmo
theorem nodup_idx {gs : List Int} (h : gs.Nodup) {i j : Nat} {g : Int} (hi : gs[i]? = some g) (hj : gs[j]? = some g) : i = j := by
 obtain ⟨hi', hi2⟩ := List.getElem?_eq_some_iff.1 hi
 obtain ⟨hj', hj2⟩ := List.getElem?_eq_some_iff.1 hj
 have hp := List.pairwise_iff_getElem.1 h
 rcases Nat.lt_trichotomy i j with hlt | he | hgt
 ·exact absurd (hi2.trans hj2.symm) (hp i j hi' hj' hlt)
 ·exact he
 ·exact absurd (hj2.trans hi2.symm) (hp j i hj' hi' hgt)
theorem nodup_le : ∀ (l l' : List Int), l.Nodup → (∀ x ∈ l, x ∈ l') → l.length ≤ l'.length
 | [], _, _, _ => Nat.zero_le _
 | x :: l, l', hn, h => by
  obtain ⟨hx, hn'⟩ := List.nodup_cons.1 hn
  have h1 := nodup_le l (l'.erase x) hn' fun y hy => by
   have hne : y ≠ x := fun e => hx (e ▸ hy)
   exact (List.mem_erase_of_ne hne).2 (h y (by simp [hy]))
  have h2 := List.length_erase_of_mem (h x (by simp))
  have h3 : 0 < l'.length := List.length_pos_of_mem (h x (by simp))
  simp only [List.length_cons]
  omega
theorem slot_free {R : Nat} {of : List Int} {at' : Int} {r : Nat} (hl : of.length = R) (hr : of[r]? = some 0) (h16 : 16 ≤ at') (h : ∀ x, 16 ≤ x → x < at' → x ∈ of) : at' ≤ 15 + R := by
 have h1 := nodup_le (0 :: (List.range (at' - 16).toNat).map fun j => ((j : Nat) : Int) + 16) of (by
  refine List.nodup_cons.2 ⟨fun hm => ?_, ?_⟩
  ·obtain ⟨j, _, hj⟩ := List.mem_map.1 hm
   omega
  ·exact List.pairwise_map.2 (List.Pairwise.imp (fun {a b} h e => h (by omega)) List.nodup_range)) fun x hx => ?_
 ·simp at h1
  omega
 ·rcases List.mem_cons.1 hx with rfl | hx
  ·exact List.mem_of_getElem? hr
  ·obtain ⟨j, hj, rfl⟩ := List.mem_map.1 hx
   have := List.mem_range.1 hj
   exact h _ (by omega) (by omega)
theorem addO_nodup {o : List Int} {r : Int} (h : o.Nodup) : (addO o r).Nodup := by
 unfold addO
 split
 ·rename_i hc
  refine List.nodup_append.2 ⟨h, by simp, fun a ha b hb e => ?_⟩
  have : b = r := by simpa using hb
  exact hc.2 (this ▸ e ▸ ha)
 ·exact h
theorem addAll_facts : ∀ (l o : List Int), (o.Nodup → (addAll o l).Nodup) ∧ (∀ x, x ∈ addAll o l ↔ x ∈ o ∨ (x ∈ l ∧ 0 ≤ x))
 | [], o => by simp [addAll]
 | r :: l, o => by
  obtain ⟨h1, h2⟩ := addAll_facts l (addO o r)
  have e : addAll o (r :: l) = addAll (addO o r) l := rfl
  rw [e]
  refine ⟨fun h => h1 (addO_nodup h), fun x => ?_⟩
  rw [h2 x]
  unfold addO
  split
  ·rename_i hc
   simp only [List.mem_append, List.mem_cons, List.not_mem_nil, or_false]
   constructor
   ·rintro ((h | rfl) | ⟨h, h'⟩)
    ·exact .inl h
    ·exact .inr ⟨.inl rfl, hc.1⟩
    ·exact .inr ⟨.inr h, h'⟩
   ·rintro (h | ⟨rfl | h, h'⟩)
    ·exact .inl (.inl h)
    ·exact .inl (.inr rfl)
    ·exact .inr ⟨h, h'⟩
  ·rename_i hc
   simp only [List.mem_cons]
   constructor
   ·rintro (h | ⟨h, h'⟩)
    ·exact .inl h
    ·exact .inr ⟨.inr h, h'⟩
   ·rintro (h | ⟨rfl | h, h'⟩)
    ·exact .inl h
    ·by_cases hx : x ∈ o
     ·exact .inl hx
     ·exact absurd ⟨h', hx⟩ hc
    ·exact .inr ⟨h, h'⟩
theorem ord_mem {p : GProg} {R : Nat} (hv : OkProg p) (hR : p.regs = R) (x : Int) : x ∈ addAll [] (ordL p R) ↔ 0 ≤ x ∧ x < R := by
 rw [(addAll_facts (ordL p R) []).2 x]
 have hp3 := hv.p3
 have hp1 := hv.p1
 constructor
 ·rintro (h | ⟨h, h0⟩)
  ·cases h
  ·refine ⟨h0, ?_⟩
   unfold ordL at h
   rcases List.mem_append.1 h with h | h
   ·rcases List.mem_append.1 h with h | h
    ·obtain ⟨j, hj, rfl⟩ := List.mem_map.1 h
     have := List.mem_range.1 hj
     omega
    ·obtain ⟨g, hg, rfl⟩ := List.mem_map.1 h
     obtain ⟨k, hk⟩ := List.getElem?_of_mem hg
     have := (hv.nodes k g hk).d
     rcases this with h | h <;> omega
   ·obtain ⟨j, hj, rfl⟩ := List.mem_map.1 h
    have := List.mem_range.1 hj
    omega
 ·rintro ⟨h0, h1⟩
  refine .inr ⟨?_, h0⟩
  unfold ordL
  refine List.mem_append.2 (.inr (List.mem_map.2 ⟨x.toNat, List.mem_range.2 (by omega), by omega⟩))
theorem Al.good {p : GProg} {R : Nat} {of : List Int} {slots : Int} (hv : OkProg p) (hR : p.regs = R) {i : Nat} (hi : (addAll [] (ordL p R)).length ≤ i) (h : Al p R (addAll [] (ordL p R)) i of slots) : GoodP p R of slots := by
 have lt : ∀ {r : Nat} {x : Int}, of[r]? = some x → r < R := fun h' => by have := (List.getElem?_eq_some_iff.1 h').1; have := h.len; omega
 have hall : ∀ (r : Nat) (x : Int), of[r]? = some x → Valid x slots ∧ MayS p of r x := fun r x hx => (h.placed r x hx).1 (by rw [List.take_of_length_le hi, ord_mem hv hR]; have := lt hx; omega)
 have hlen := h.len
 have ap : ∀ S : Nat → Prop, (∀ a b, a ≠ b → S a → S b → Meets p a b) → ApartS S R of := by
  intro S hS r s hsr hr h2 h3 he
  obtain ⟨x, hx⟩ := ex_get (l := of) (j := r) (by omega)
  exact (hall r x hx).2.2 s x (by rw [← he]; exact hx) (hS r s (by omega) h2 h3) rfl
 exact ⟨h.len, h.s0, h.s1, fun r x hx => (hall r x hx).1, fun k hk => ap _ fun a b hab ha hb => ⟨hab, .inr ⟨k, hk, ha, hb⟩⟩, fun k hk hlb r x hal hne hx => (hall r x hx).2.1 ⟨k, hk, hlb, hal, hne⟩, ap _ fun a b hab ha hb => ⟨hab, .inl ⟨ha, hb⟩⟩⟩
end Go.Proofs.YtcdbikfnlggbnaaGreatDoor
namespace Go.Proofs.YtcdbikfnlggbnaaGreatDoor
open Tryz
open Go.Vc
set_option maxHeartbeats 4000000 in
theorem alloc_ok {p : GProg} {R : Nat} {pv : Value} {w : World} (hp : ProgIs w pv p) (hv : OkProg p) (hR : p.regs = R) {Q : Nat → List Int → Int → Prop} (q0 : Q 0 (List.replicate R 0) 0)
  (qs : ∀ (i : Nat) (of : List Int) (slots : Int) (r : Nat) (at' : Int), Al p R (addAll [] (ordL p R)) i of slots → Q i of slots → (addAll [] (ordL p R))[i]? = some (r : Int) → r < R → MayS p of r at' → (at' = 5 ∨ (at' = 6 ∧ ¬ MayS p of r 5) ∨ (16 ≤ at' ∧ ¬ MayS p of r 5 ∧ ¬ MayS p of r 6)) → Q (i + 1) (of.set r at') (max slots (at' - 15))) :
  callD prog 23 #[pv] w fun r w' => (∃ (ofv : Value) (of : List Int) (slots : Int), r = .agg #[ofv, i64 slots] ∧ IntsAre w' ofv of ∧ GoodP p R of slots ∧ Q (addAll [] (ordL p R)).length of slots) ∧ Ext w w' := by
 have hp0 := hp
 obtain ⟨ns, rfl, hns, hargs⟩ := hp
 have hl1 := hv.l1; have hl2 := hv.l2; have hr1 := hv.r1; have hr2 := hv.r2; have hp1 := hv.p1; have hp2 := hv.p2; have hp3 := hv.p3
 apply F23_wp
 unfold F23_den
 refine bx fun b w1 hb x1 => ?_
 refine alK inf68 fun w2 hz x2 => ?_
 have hb2 := hb.ext x2
 have X2 := x1.trans x2
 refine ldA hb2 la_38 rfl ?_
 refine (check_ok (p := p) (hp0.ext X2) hv).mono fun r w3 ⟨hr, x3⟩ => ?_
 subst hr
 refine V_not.2 (ifD_false.2 ?_)
 have X3 := X2.trans x3
 refine ldA (hb2.ext x3) la_38 rfl ?_
 refine (rulesOf_ok (hp0.ext X3) hv hR).mono fun rv w4 ⟨⟨g0, sg, ov, m, sb, hrv, hmat, hsb, hsbl, hov, hm, hs⟩, x4⟩ => ?_
 subst hrv
 refine asK sa_109 rfl (by have := oneC_ints hov; show (oneC (sl R g0) && (oneC (sl R sg) && (oneC ov && true))) = true; rw [this]; rfl) fun w5 hu5 x5 => ?_
 have x25 := (x3.trans x4).trans x5
 refine ldB (hb2.ext x25) fa_38_1 l1_3 rfl ?_
 refine mkBv hR underlying23 inf3 rfl (n := R) (by omega) (by omega) fun w6 hof6 x6 hsz6 => ?_
 refine bld bd_68 [(0, .slice (some ⟨w5.heap.size, 0, none⟩) R R)] rfl rfl ?_
 refine asK sa_68 rfl rfl fun w7 hx7 x7 => ?_
 have x57 := x6.trans x7
 have hlx7 := hx7.lt
 have hord := addAll_len [] (ordL p R)
 have hordl : (addAll [] (ordL p R)).length ≤ 1000 := by
  have hol : (ordL p R).length ≤ 300 := by
   simp only [ordL, List.length_append, List.length_map, upTo_len]
   omega
  simp only [List.length_nil] at hord
  omega
 have hnd := (addAll_facts (ordL p R) []).1 List.nodup_nil
 refine ldB (hu5.ext x57).boxed fa_109_2 l1_23 rfl (lnx xa_23 (hov.ext (x5.trans x57)) ?_)
 refine ⟨fun v w' => ∃ (i : Nat) (of : List Int) (slots : Int), v = i64 i ∧ i ≤ (addAll [] (ordL p R)).length ∧ Ext w5 w' ∧ Blk w' w5.heap.size (of.map i64) 3 ∧ Blk w' w6.heap.size [.slice (some ⟨w5.heap.size, 0, none⟩) R R, i64 slots] 68 ∧ Al p R (addAll [] (ordL p R)) i of slots ∧ Q i of slots,
  fun v _ => (addAll [] (ordL p R)).length - (RowKit.intOf v).toNat, ⟨0, List.replicate R 0, 0, rfl, Nat.zero_le _, x57, by simpa using hof6.ext x7, hx7, Al.start _ _ _, q0⟩, ?_⟩
 rintro _ w8 ⟨i, of, slots, rfl, hi, x8, hof8, hx8, hal, hq⟩ _
 have hlen := hal.len; have hs0 := hal.s0; have hs1 := hal.s1
 refine V_lss.2 (ifD_dec (fun hlt => ?_) fun hge => ?_)
 ·have hi' : i < (addAll [] (ordL p R)).length := by omega
  obtain ⟨rz, hrz⟩ := ex_get hi'
  have hrb := (ord_mem hv hR rz).1 (List.mem_of_getElem? hrz)
  obtain ⟨r, rfl⟩ : ∃ r : Nat, rz = r := ⟨rz.toNat, by omega⟩
  have hr : r < R := by omega
  have hof0 : of[r]? = some 0 := by
   obtain ⟨x, hx⟩ := ex_get (l := of) (j := r) (by omega)
   rw [hx, (hal.placed r x hx).2 fun hmem => ?_]
   obtain ⟨j, hj⟩ := List.getElem?_of_mem hmem
   rw [List.getElem?_take] at hj
   split at hj
   ·have := nodup_idx hnd hj hrz
    omega
   ·cases hj
  refine ldx xa_23 l1_3 (hov.ext (x5.trans x8)) (by omega) (by omega) (getI hrz) ?_
  refine ⟨fun v w' => ∃ at' : Int, v = i64 at' ∧ Ext w8 w' ∧ (at' = 5 ∨ (at' = 6 ∧ ¬ MayS p of r 5) ∨ (16 ≤ at' ∧ ¬ MayS p of r 5 ∧ ¬ MayS p of r 6)) ∧ ∀ x, 16 ≤ x → x < at' → x ∈ of, fun v _ => (100 - RowKit.intOf v).toNat,
   ⟨5, rfl, Ext.refl _, .inl rfl, fun x h1 h2 => by omega⟩, ?_⟩
  rintro _ w9 ⟨at', rfl, x9, hat, hfree⟩ _
  have hat55 : at' ≤ 55 := by
   by_cases h16 : 16 ≤ at'
   ·have := slot_free hlen hof0 h16 hfree
    omega
   ·omega
  have x59 := x8.trans x9
  have hofS : IntsAre w9 (.slice (some ⟨w5.heap.size, 0, none⟩) R R) of := by
   have := (hof8.ext x9).slice (n := of.length) (by simp) (by unfold maxLen; omega)
   unfold IntsAre
   rw [← hlen]
   exact this
  refine ldA (hu5.ext x59).boxed la_109 rfl ?_
  refine ldB (hx8.ext x9).boxed fa_68_0 l1_23 rfl ?_
  refine (may_ok (by omega) ((hmat.ext x5).ext x59) ((hsb.ext x5).ext x59) hsbl hofS hlen hr).mono fun q w10 ⟨⟨ok, hqv, hok⟩, x10⟩ => ?_
  subst hqv
  rw [may_s hlen hm hs hr] at hok
  refine V_not.2 (ifD.mk (fun hn => ?_) fun hn => ?_)
  ·have hnot : ¬ MayS p of r at' := fun h => by have := hok.2 h; subst this; cases hn
   refine V_add.2 ?_
   rw [wrap_id (by omega) (by omega)]
   refine V_eqlI.2 (ifD_dec (fun h7 => ?_) fun h7 => ?_)
   ·have h6 : at' = 6 := by omega
    subst h6
    refine ⟨⟨16, rfl, x9.trans x10, .inr (.inr ⟨by omega, ?_, hnot⟩), fun x h1 h2 => by omega⟩, by simp only [intOf_i64]; decide⟩
    rcases hat with h | ⟨_, h⟩ | ⟨h, _⟩
    ·omega
    ·exact h
    ·omega
   ·refine ⟨⟨at' + 1, rfl, x9.trans x10, ?_, fun x h1 h2 => ?_⟩, by simp only [intOf_i64]; omega⟩
    ·rcases hat with rfl | ⟨h, _⟩ | ⟨h, h1, h2⟩
     ·exact .inr (.inl ⟨by omega, hnot⟩)
     ·omega
     ·exact .inr (.inr ⟨by omega, h1, h2⟩)
    ·by_cases hxa : x = at'
     ·subst hxa
      refine Classical.byContradiction fun hno => hnot ⟨fun _ => by omega, fun o y hy _ he => hno (he ▸ List.mem_of_getElem? hy)⟩
     ·exact hfree x h1 (by omega)
  ·have hyes : MayS p of r at' := hok.1 (by simpa using hn)
   have x810 := x9.trans x10
   refine ldB (hx8.ext x810).boxed fa_68_0 l1_23 rfl ?_
   refine stB xa_23 inf3 (hof8.ext x810) (by simp [hlen]) (by omega) (by omega) rfl ?_
   have hx11 : Blk (w10.setCell ⟨w5.heap.size, (r : Int).toNat, none⟩ (i64 at')) w6.heap.size [.slice (some ⟨w5.heap.size, 0, none⟩) R R, i64 slots] 68 := (hx8.ext x810).other (by omega)
   refine ldB hx11.boxed fa_68_1 l1_3 rfl ?_
   refine V_sub.2 (V_add.2 ?_)
   rw [show IntKind.i64.wrap (at' - 16) = at' - 16 from wrap_id (by omega) (by omega), wrap_id (by omega) (by omega)]
   refine mx2 fun c hc1 hc2 hc3 => ?_
   refine stF fa_68_1 inf3 hx11 rfl (by simp) rfl (V_add.2 ?_)
   rw [wrap_id (by omega) (by omega), i64_succ]
   have hcm : c = max slots (at' - 15) := by omega
   subst hcm
   refine ⟨⟨i + 1, of.set r at', _, rfl, by omega, ((x8.trans x810).setCell (Nat.le_refl _) _).setCell (by omega) _, ?_, hx11.set 1 _, hal.step hr hrz hyes (by omega) hat55, qs i of slots r at' hal hq hrz hr hyes hat⟩, by simp only [intOf_i64]; omega⟩
   have h1 := (hof8.ext x810).set r (i64 at')
   have h2 := Blk.other (g' := w6.heap.size) (j := 1) (u := i64 (max slots (at' - 15))) h1 (by omega)
   rw [List.map_set]
   simpa using h2
 ·have hin : i = (addAll [] (ordL p R)).length := by omega
  subst hin
  refine ldA hx8.boxed la_68 rfl ?_
  have hzl := hz.lt
  have h25 := x25.size
  refine stA inf68 (hz.ext (x25.trans x8)) (l := [.slice (some ⟨w5.heap.size, 0, none⟩) R R, i64 slots]) rfl rfl rfl rfl fun w' h' hch => ?_
  refine ⟨_, r_var underlying68 rfl inf68 h' rfl, ⟨_, rfl⟩, ⟨_, of, slots, rfl, ?_, hal.good hv hR (Nat.le_refl _), hq⟩, hch.ext w (X2.trans (x25.trans x8)) x1.size⟩
  have := (hch.other (by omega) hof8).slice (n := of.length) (by simp) (by unfold maxLen; omega)
  unfold IntsAre
  rw [← hlen]
  exact this
end Go.Proofs.YtcdbikfnlggbnaaGreatDoor
namespace Go.Proofs.YtcdbikfnlggbnaaGreatDoor
open Tryz
open Go.Vc Go.Tc
variable {w : World} {K : Value → World → Prop}
set_option maxHeartbeats 2000000 in
theorem places7 {rv : Value} {rl : List Rw} (hr : RwsAre w rv rl) (hb : BinsOk w) (hT : Tabs w) (rn : rl.length ≤ 5000000000000) (known : ∀ w, callD prog 24 #[] w fun v w' => v = .bool true ∧ Ext w w') :
  callD prog 7 #[rv] w fun v w' => v = .bool true ∧ Ext w w' := by
 apply F7_wp
 suffices key : ∀ R : Value → World → Prop, (∀ w', Ext w w' → R (.bool true) w') → F7_den rv w R from key _ fun _ hx => ⟨rfl, hx⟩
 intro R hR
 unfold F7_den
 refine bsl xe_64 [rv] rfl rfl (by simp) (by simp [hr.one]) fun v1 w1 ho1 x1 => ?_
 refine applets19 (ll := [rl]) ⟨[rv], SliceIs.of_own ho1, fun k l hkl => ?_⟩ (hb.ext x1) (hT.ext x1) fun v2 l w2 hl hl3 _ x2 => ?_
 ·match k, hkl with
  | 0, hkl => cases hkl; exact ⟨rv, rfl, hr.ext x1, rn⟩
  | k + 1, hkl => simp at hkl
 have x02 := x1.trans x2
 refine ⟨fun v w' => ∃ j : Nat, v = i64 j ∧ j ≤ l.length ∧ Ext w2 w', fun v _ => l.length - (RowKit.intOf v).toNat, ⟨0, rfl, Nat.zero_le _, Ext.refl _⟩, ?_⟩
 rintro _ w3 ⟨j, rfl, hj, x3⟩ _
 refine lnS xa_62 (hl.ext x3) (V_lss.2 (ifD_dec (fun hlt => ?_) fun hge => ?_))
 case refine_2 => exact (known w3).mono fun v w4 ⟨hv, x4⟩ => by subst hv; exact hR _ ((x02.trans x3).trans x4)
 obtain ⟨x, hx⟩ := ex_get (l := l) (j := j) (by omega)
 obtain ⟨p, i⟩ := x
 refine ⟨fun v w' => ∃ k : Nat, v = i64 k ∧ k ≤ i.methods.length ∧ Ext w2 w', fun v _ => i.methods.length - (RowKit.intOf v).toNat, ⟨0, rfl, Nat.zero_le _, x3⟩, ?_⟩
 rintro _ w4 ⟨k, rfl, hk, x4⟩ _
 refine ldSF xa_62 fa_27_3 l1_25 (hl.ext x4) hx fun row ⟨hrow, hA, ht⟩ => ⟨p.mv, by rw [hrow]; rfl, by decide, ?_⟩
 have ml := ht.1.2.2.1.1.2
 refine lnS xa_25 hA.at_.mt (V_lss.2 (ifD_dec (fun hlt2 => ?_) fun hge2 => ?_))
 case refine_2 =>
  refine V_add.2 ?_
  rw [wrap_id (by omega) (by omega), i64_succ]
  exact ⟨⟨j + 1, rfl, by omega, x4⟩, by simp only [intOf_i64]; omega⟩
 refine ldS xa_62 la_27 (hl.ext x4) hx aplLen fun row2 ⟨hrow2, _, _⟩ => ?_
 subst hrow2
 refine lift12 (p := p) (i := i) hA.at_ hA.nm hA.rg (fun st r nv sv w8 _ h0 hkl hw Rc hN hS x8 => ?_) fun w8 hne x8 => absurd ⟨ht, by omega, by omega⟩ hne
 have ok := lift_okProg ht (by omega) hw Rc
 have hP := lift_progIs ok hN
 obtain ⟨na, nc, rfl⟩ : ∃ a c, nv = .slice a (liftP i (i.meth k) st r).length c := by obtain ⟨vs, h1, _⟩ := hN; exact SliceIs.shape h1
 refine V_tup (v := .agg #[i64 (i.meth k).params.length, i64 18, .slice na (liftP i (i.meth k) st r).length nc]) rfl (V_tup (v := sv) rfl (V_tup (v := .bool true) rfl ?_))
 refine asB sa_38 rfl rfl fun b9 w9 hb9 x9 => ?_
 have hb9 : Boxed w9 b9 [i64 (i.meth k).params.length, i64 18, .slice na (liftP i (i.meth k) st r).length nc] := hb9
 have x29 := (x4.trans x8).trans x9
 have D9 : Ext w9 w9.drew := (Ext.refl _).drew
 refine drawD.mk' (fun w' => Ext w9 w') D9 ?_
 refine yNot ?_
 simp only [Bool.not_true, gdY_f, gd_f]
 refine yA (fun w' hw => hb9.ext hw) la_38 rfl ?_
 refine yA (fun w' hw => hb9.ext hw) la_38 rfl ?_
 have hp3 := ok.p3
 refine (plainProg_ok (hP.ext (x9.trans D9)) (by have := ok.l2; omega)).mono fun pv w10 ⟨hpp, x10⟩ => ⟨D9.trans x10, ?_⟩
 have x910 := D9.trans x10
 refine (alloc_ok (hP.ext (x9.trans x910)) ok (R := 18) rfl (Q := fun _ _ _ => True) trivial (fun _ _ _ _ _ _ _ _ _ _ _ => trivial)).mono fun r w11 ⟨⟨ov, of, s, hr, ho3, hgood, _⟩, x11⟩ => ⟨x910.trans x11, ?_⟩
 subst hr
 have hlen := hgood.len
 refine (refRight_ok (hpp.ext x11) (fun n hn => ?_) ok (R := 18) rfl ⟨ok.p1, hp3⟩ ho3 (by omega)).mono fun r w12 ⟨⟨c, hr, hc⟩, x12⟩ => ⟨(x910.trans x11).trans x12, ?_⟩
 ·obtain ⟨a, ha⟩ := List.getElem?_of_mem hn
  have := (ok.nodes a n ha).al
  omega
 subst hr
 obtain rfl : c = true := hc.2 hgood
 refine yNot (pickF (ifD_false.2 ?_))
 have x10 := (x910.trans x11).trans x12
 refine V_add.2 ?_
 rw [wrap_id (by omega) (by omega), i64_succ]
 exact ⟨⟨k + 1, rfl, by omega, x29.trans x10⟩, by simp only [intOf_i64]; omega⟩
end Go.Proofs.YtcdbikfnlggbnaaGreatDoor
namespace Go.Proofs.YtcdbikfnlggbnaaGreatDoor
open Tryz
open Go.Vc
structure Few (gs : List GNode) (R : Nat) (L : List Int) (lv : List (List Int)) (pt : Int → Int) : Prop where
 len : lv.length = gs.length
 pos : 1 ≤ gs.length
 last : lv[gs.length - 1]? = some L
 str : ∀ (k : Nat) g, gs[k]? = some g → (∀ i, g.nx i = [i + 1]) ∧ g.leavesB = true ∧ g.okF ∧ (∀ r ∈ g.us, 0 ≤ r ∧ r < R) ∧ ((0 ≤ g.df ∧ g.df < R) ∨ (g.df = -1 ∧ g.bareN = true)) ∧ g.args = []
 clo : ∀ (k : Nat) g l l', gs[k + 1]? = some g → lv[k]? = some l → lv[k + 1]? = some l' → (∀ r ∈ g.us, r ∈ l) ∧ ∀ r ∈ l', r ≠ g.df → r ∈ l
 beg : ∀ g l, gs[0]? = some g → lv[0]? = some l → g.us = [] ∧ ∀ r ∈ l, r = g.df
 bd : ∀ (k : Nat) l, lv[k]? = some l → ∀ r ∈ l, 0 ≤ r ∧ r < R
 pr : ∀ (k : Nat) g l, gs[k]? = some g → lv[k]? = some l → ∀ a b, (a ∈ l ∨ a = g.df) → (b ∈ l ∨ b = g.df) → 0 ≤ b → b < a → b = pt a
 dfs : (gs.map GNode.df).filter (fun r => decide (0 ≤ r)) = upTo R
theorem getE_snoc {α : Type} {l : List α} {x y : α} {k : Nat} (h : (l ++ [x])[k]? = some y) : (k < l.length ∧ l[k]? = some y) ∨ (k = l.length ∧ y = x) := by
 by_cases hk : k < l.length
 ·rw [List.getElem?_append_left hk] at h
  exact .inl ⟨hk, h⟩
 ·have hlt := (List.getElem?_eq_some_iff.1 h).1
  simp at hlt
  have : k = l.length := by omega
  subst this
  simp at h
  exact .inr ⟨rfl, h.symm⟩
theorem Few.snoc {gs : List GNode} {R R' : Nat} {L L' : List Int} {lv : List (List Int)} {pt : Int → Int} (h : Few gs R L lv pt) (g : GNode) (q : Int) (h1 : ∀ i, g.nx i = [i + 1]) (h2 : g.leavesB = true) (h3 : g.okF) (hu : ∀ r ∈ g.us, r ∈ L) (hl : ∀ r ∈ L', r ≠ g.df → r ∈ L)
  (hd : (g.df = -1 ∧ g.bareN = true ∧ R' = R) ∨ (g.df = R ∧ R' = R + 1)) (hb : ∀ r ∈ L', 0 ≤ r ∧ r < R') (hp : ∀ a b, (a ∈ L' ∨ a = g.df) → (b ∈ L' ∨ b = g.df) → 0 ≤ b → b < a → (a = R ∧ b = q)) (ha : g.args = []) :
  Few (gs ++ [g]) R' L' (lv ++ [L']) (fun a => if a = R then q else pt a) := by
 have hRR : R ≤ R' := by omega
 have hll := h.len
 have hpos := h.pos
 have hbL := h.bd _ _ h.last
 refine ⟨by simp [h.len], by simp, by simp [← h.len], fun k g' hk => ?_, fun k g' l l' hk hl1 hl2 => ?_, fun g' l hk hl1 => ?_, fun k l hk r hr => ?_, fun k g' l hk hlk a b ha hb hb0 hba => ?_, ?_⟩
 ·rcases getE_snoc hk with ⟨_, hk⟩ | ⟨_, rfl⟩
  ·obtain ⟨s1, s2, s3, s4, s5, s6⟩ := h.str k g' hk
   exact ⟨s1, s2, s3, fun r hr => by have := s4 r hr; omega, s5.elim (fun h => .inl ⟨h.1, by omega⟩) .inr, s6⟩
  ·exact ⟨h1, h2, h3, fun r hr => by have := hbL r (hu r hr); omega, by rcases hd with ⟨d1, d2, _⟩ | ⟨d1, _⟩; exact .inr ⟨d1, d2⟩; exact .inl (by omega), ha⟩
 ·rcases getE_snoc hk with ⟨hklt, hk⟩ | ⟨hke, rfl⟩
  ·rw [List.getElem?_append_left (by omega)] at hl1 hl2
   exact h.clo k g' l l' hk hl1 hl2
  ·rw [List.getElem?_append_left (by omega)] at hl1
   have hlast := h.last
   rw [show gs.length - 1 = k by omega, hl1] at hlast
   cases hlast
   rw [hke, ← hll] at hl2
   simp at hl2
   subst hl2
   exact ⟨hu, hl⟩
 ·rw [List.getElem?_append_left (by omega)] at hk hl1
  exact h.beg g' l hk hl1
 ·rcases getE_snoc hk with ⟨_, hk⟩ | ⟨_, rfl⟩
  ·have := h.bd k l hk r hr; omega
  ·exact hb r hr
 ·rcases getE_snoc hk with ⟨hklt, hk⟩ | ⟨hke, rfl⟩
  ·rw [List.getElem?_append_left (by omega)] at hlk
   have haR : a < R := by
    rcases ha with ha | ha
    ·exact (h.bd k l hlk a ha).2
    ·have := (h.str k g' hk).2.2.2.2.1
     omega
   have := h.pr k g' l hk hlk a b ha hb hb0 hba
   show b = if a = (R : Int) then q else pt a
   rw [if_neg (by omega)]
   exact this
  ·rw [hke, ← hll] at hlk
   simp at hlk
   subst hlk
   obtain ⟨e1, e2⟩ := hp a b ha hb hb0 hba
   show b = if a = (R : Int) then q else pt a
   rw [if_pos e1]
   exact e2
 ·rw [List.map_append, List.filter_append, h.dfs]
  rcases hd with ⟨d1, _, rfl⟩ | ⟨d1, rfl⟩
  ·simp [d1]
  ·rw [upTo_succ]
   simp [d1]
theorem Few.const {n : Int} : Few [.const 0 n] 1 [0] [[0]] (fun _ => 0) := by
 have one : ∀ {α : Type} {x y : α} {k : Nat}, [x][k]? = some y → k = 0 ∧ y = x := by
  intro α x y k h
  have := (List.getElem?_eq_some_iff.1 h).1
  simp at this
  subst this
  simp at h
  exact ⟨rfl, h.symm⟩
 refine ⟨rfl, by simp, rfl, fun k g hk => ?_, fun k g l l' hk _ _ => ?_, fun g l hk hl => ?_, fun k l hk r hr => ?_, fun k g l hk hl a b ha hb h0 hlt => ?_, rfl⟩
 ·obtain ⟨_, rfl⟩ := one hk
  exact ⟨fun _ => rfl, rfl, trivial, fun r hr => by simp [GNode.us] at hr, .inl ⟨by simp [GNode.df], by simp [GNode.df]⟩, rfl⟩
 ·simp at hk
 ·obtain ⟨_, rfl⟩ := one hk
  obtain ⟨_, rfl⟩ := one hl
  exact ⟨rfl, fun r hr => by simpa [GNode.df] using hr⟩
 ·obtain ⟨_, rfl⟩ := one hk
  simp at hr
  omega
 ·obtain ⟨_, rfl⟩ := one hk
  obtain ⟨_, rfl⟩ := one hl
  simp [GNode.df] at ha hb
  omega
def fewP (gs : List GNode) (R : Nat) (now : Int) : GProg := ⟨0, R, gs ++ [.ret now]⟩
theorem Few.at {gs : List GNode} {R : Nat} {now : Int} {k : Nat} (h : k < gs.length) : gs[k]? = some ((fewP gs R now).at' k) := by
 unfold GProg.at' fewP
 obtain ⟨g, hg⟩ := ex_get h
 simp only [List.getD_eq_getElem?_getD, List.getElem?_append_left h, hg]
 rfl
theorem Few.atLast {gs : List GNode} {R : Nat} {now : Int} : (fewP gs R now).at' gs.length = .ret now := by simp [GProg.at', fewP]
theorem Few.ok {gs : List GNode} {R : Nat} {now : Int} {lv : List (List Int)} {pt : Int → Int} (h : Few gs R [now] lv pt) (hR : R ≤ 40) (hl : gs.length ≤ 249) : OkProg (fewP gs R now) := by
 have hb := h.bd _ _ h.last now (by simp)
 refine ⟨by simp [fewP], by simp [fewP]; omega, by simp [fewP], by simp [fewP]; omega, by simp [fewP], by simp [fewP], by simp [fewP], fun i n hi => ?_⟩
 have hlen : ((fewP gs R now).nodes.length : Int) = gs.length + 1 := by simp [fewP]
 rcases getE_snoc (show (gs ++ [GNode.ret now])[i]? = some n from hi) with ⟨hlt, hi⟩ | ⟨_, rfl⟩
 ·obtain ⟨s1, s2, s3, s4, s5, s6⟩ := h.str i n hi
  refine ⟨s3, s4, fun r hr => ?_, s5⟩
  rw [s1] at hr
  simp at hr
  omega
 ·refine ⟨trivial, fun r hr => ?_, fun r hr => by simp [GNode.nx] at hr, .inr ⟨rfl, rfl⟩⟩
  simp only [GNode.us] at hr
  split at hr
  ·cases hr
  ·simp at hr
   subst hr
   exact hb
theorem Few.alive {gs : List GNode} {R : Nat} {now : Int} {lv : List (List Int)} {pt : Int → Int} (h : Few gs R [now] lv pt) {k r : Nat} (hal : Alive (fewP gs R now) k r) : k < gs.length → ∃ l, lv[k]? = some l ∧ (r : Int) ∈ l := by
 have hll := h.len
 have next : ∀ {k to : Nat}, k < gs.length → ((to : Int) ∈ ((fewP gs R now).at' k).nx k) → to = k + 1 := by
  intro k to hk ht
  rw [(h.str k _ (Few.at hk)).1] at ht
  simp at ht
  omega
 induction hal with
 | @use k to r ht hu =>
  intro hk
  have hto := next hk ht
  subst hto
  obtain ⟨l, hl⟩ := ex_get (l := lv) (j := k) (by omega)
  by_cases hk1 : k + 1 < gs.length
  ·obtain ⟨l', hl'⟩ := ex_get (l := lv) (j := k + 1) (by omega)
   exact ⟨l, hl, (h.clo k _ l l' (Few.at hk1) hl hl').1 _ hu⟩
  ·have e : k + 1 = gs.length := by omega
   rw [e, Few.atLast] at hu
   have hlast := h.last
   rw [show gs.length - 1 = k by omega] at hlast
   refine ⟨_, hlast, ?_⟩
   simp only [GNode.us] at hu
   split at hu
   ·cases hu
   ·exact hu
 | @pass k to r ht hne hal ih =>
  intro hk
  have hto := next hk ht
  subst hto
  obtain ⟨l, hl⟩ := ex_get (l := lv) (j := k) (by omega)
  by_cases hk1 : k + 1 < gs.length
  ·obtain ⟨l', hl', hr⟩ := ih hk1
   exact ⟨l, hl, (h.clo k _ l l' (Few.at hk1) hl hl').2 _ hr hne⟩
  ·have e : k + 1 = gs.length := by omega
   rw [e] at hal
   obtain ⟨t, ht2, _⟩ := alive_iff.1 hal
   rw [Few.atLast] at ht2
   simp [GNode.nx] at ht2
theorem Few.noEnd {gs : List GNode} {R : Nat} {now : Int} {k r : Nat} (hk : gs.length ≤ k) (hk2 : k < (fewP gs R now).nodes.length) : ¬ Alive (fewP gs R now) k r := by
 intro hal
 have : k = gs.length := by simp [fewP] at hk2; omega
 subst this
 obtain ⟨t, ht2, _⟩ := alive_iff.1 hal
 rw [Few.atLast] at ht2
 simp [GNode.nx] at ht2
theorem Few.meets {gs : List GNode} {R : Nat} {now : Int} {lv : List (List Int)} {pt : Int → Int} (h : Few gs R [now] lv pt) {a b : Nat} (hm : Meets (fewP gs R now) a b) (hba : b < a) : (b : Int) = pt a := by
 obtain ⟨hne, hset⟩ := hm
 rcases hset with ⟨h1, h2⟩ | ⟨k, hk, h1, h2⟩
 ·exfalso
  have none : ∀ {r : Nat}, SetS (fewP gs R now) r → False := by
   intro r hr
   unfold SetS at hr
   rcases hr with hr | hr
   ·have hpos := h.pos
    obtain ⟨l, hl⟩ := ex_get (l := lv) (j := 0) (by have := h.len; omega)
    obtain ⟨b1, b2⟩ := h.beg _ l (Few.at (R := R) (now := now) (by omega)) hl
    rcases hr with hr | ⟨hr1, hr2⟩
    ·rw [b1] at hr; cases hr
    ·obtain ⟨l', hl', hmem⟩ := h.alive hr2 (by omega)
     rw [hl] at hl'
     cases hl'
     exact hr1 (b2 _ hmem)
   ·simp [fewP] at hr
    omega
  exact none h1
 ·by_cases hkl : k < gs.length
  ·obtain ⟨l, hl⟩ := ex_get (l := lv) (j := k) (by have := h.len; omega)
   have conv : ∀ {r : Nat}, SetK (fewP gs R now) k r → ((r : Int) ∈ l ∨ (r : Int) = ((fewP gs R now).at' k).df) := by
    intro r hr
    rcases hr with hr | hr
    ·obtain ⟨l', hl', hmem⟩ := h.alive hr hkl
     rw [hl] at hl'
     cases hl'
     exact .inl hmem
    ·exact .inr hr
   exact h.pr k _ l (Few.at hkl) hl a b (conv h1) (conv h2) (by omega) (by omega)
  ·exfalso
   have hke : k = gs.length := by simp [fewP] at hk; omega
   rcases h1 with h1 | h1
   ·exact Few.noEnd (by omega) hk h1
   ·rw [hke, Few.atLast] at h1
    simp [GNode.df] at h1
theorem Few.noSlot {gs : List GNode} {R : Nat} {now : Int} {lv : List (List Int)} {pt : Int → Int} (h : Few gs R [now] lv pt) {r : Nat} : ¬ Slotted (fewP gs R now) r := by
 rintro ⟨k, hk, hlb, hal, _⟩
 by_cases hkl : k < gs.length
 ·rw [(h.str k _ (Few.at hkl)).2.1] at hlb
  cases hlb
 ·exact Few.noEnd (by omega) hk hal
theorem addAll_upTo : ∀ n, addAll [] (upTo n) = upTo n
 | 0 => rfl
 | n + 1 => by
  rw [upTo_succ, addAll_snoc, addAll_upTo n]
  unfold addO
  rw [if_pos ⟨by omega, fun hm => by
   obtain ⟨j, hj, he⟩ := List.mem_map.1 hm
   have := List.mem_range.1 hj
   omega⟩]
theorem addAll_filter : ∀ (l o : List Int), addAll o l = addAll o (l.filter fun r => decide (0 ≤ r))
 | [], o => rfl
 | r :: l, o => by
  have e : addAll o (r :: l) = addAll (addO o r) l := rfl
  rw [e, addAll_filter l]
  by_cases h : 0 ≤ r
  ·rw [List.filter_cons_of_pos (by simpa using h)]
   rfl
  ·rw [List.filter_cons_of_neg (by simpa using h)]
   unfold addO
   rw [if_neg (fun hc => h hc.1)]
theorem addAll_sub : ∀ (l o : List Int), (∀ x ∈ l, x ∈ o) → addAll o l = o
 | [], o, _ => rfl
 | r :: l, o, h => by
  have e : addAll o (r :: l) = addAll (addO o r) l := rfl
  have : addO o r = o := by
   unfold addO
   rw [if_neg (fun hc => hc.2 (h r (by simp)))]
  rw [e, this]
  exact addAll_sub l o fun x hx => h x (by simp [hx])
theorem addAll_append (o l l' : List Int) : addAll o (l ++ l') = addAll (addAll o l) l' := by simp [addAll, List.foldl_append]
theorem Few.order {gs : List GNode} {R : Nat} {now : Int} {lv : List (List Int)} {pt : Int → Int} (h : Few gs R [now] lv pt) : addAll [] (ordL (fewP gs R now) R) = upTo R := by
 have e : ordL (fewP gs R now) R = (gs.map GNode.df ++ [-1]) ++ upTo R := by simp [ordL, fewP, upTo, GNode.df]
 rw [e, addAll_append, addAll_append, addAll_filter (gs.map GNode.df), h.dfs, addAll_upTo]
 rw [show addAll (upTo R) [-1] = upTo R from rfl]
 exact addAll_sub _ _ fun x hx => hx
theorem Few.free {gs : List GNode} {R : Nat} {now : Int} {lv : List (List Int)} {pt : Int → Int} (h : Few gs R [now] lv pt) {i r : Nat} {of : List Int} {slots at' : Int} (hal : Al (fewP gs R now) R (addAll [] (ordL (fewP gs R now) R)) i of slots) (hi : (addAll [] (ordL (fewP gs R now) R))[i]? = some (r : Int)) (_ : r < R)
  (hat : at' = 5 ∨ (at' = 6 ∧ ¬ MayS (fewP gs R now) of r 5) ∨ (16 ≤ at' ∧ ¬ MayS (fewP gs R now) of r 5 ∧ ¬ MayS (fewP gs R now) of r 6)) : at' = 5 ∨ at' = 6 := by
 rcases hat with h1 | ⟨h1, _⟩ | ⟨_, h5, h6⟩
 ·exact .inl h1
 ·exact .inr h1
 exfalso
 rw [h.order] at hi hal
 have hir : i = r := by
  have hlt := (List.getElem?_eq_some_iff.1 hi).1
  rw [upTo_len] at hlt
  rw [upTo, List.getElem?_map, List.getElem?_range hlt] at hi
  simp at hi
  omega
 have find : ∀ x : Int, x ≠ 0 → ¬ MayS (fewP gs R now) of r x → ∃ o : Nat, of[o]? = some x ∧ Meets (fewP gs R now) r o ∧ o < r := by
  intro x hx0 hno
  refine Classical.byContradiction fun hn => hno ⟨fun hs => absurd hs h.noSlot, fun o y hy hm he => hn ⟨o, he ▸ hy, hm, ?_⟩⟩
  refine Classical.byContradiction fun hge => ?_
  have := (hal.placed o y hy).2 fun hmem => ?_
  ·exact hx0 (he ▸ this)
  ·obtain ⟨j, hj⟩ := List.getElem?_of_mem hmem
   rw [List.getElem?_take] at hj
   split at hj
   ·rename_i hji
    have hlt := (List.getElem?_eq_some_iff.1 hj).1
    rw [upTo_len] at hlt
    rw [upTo, List.getElem?_map, List.getElem?_range hlt] at hj
    simp at hj
    omega
   ·cases hj
 obtain ⟨o5, p5, m5, l5⟩ := find 5 (by decide) h5
 obtain ⟨o6, p6, m6, l6⟩ := find 6 (by decide) h6
 have e5 := h.meets m5 l5
 have e6 := h.meets m6 l6
 have : o5 = o6 := by omega
 subst this
 rw [p5] at p6
 cases p6
end Go.Proofs.YtcdbikfnlggbnaaGreatDoor
namespace Go.Proofs.YtcdbikfnlggbnaaGreatDoor
open Tryz
open Go.Vc Go.Tc
variable {w : World} {K : Value → World → Prop}
theorem few20 : ∃ lv pt, Few [.const 0 1, .const 1 2, .bin 6 2 0 1] 3 [2] lv pt := by
 have f0 : Few [.const 0 1] 1 [0] [[0]] (fun _ => 0) := Few.const
 have f1 := f0.snoc (R' := 2) (L' := [1, 0]) (.const 1 2) 0 (fun _ => rfl) rfl trivial (fun r hr => by cases hr) (fun r hr hne => by simp [GNode.df] at hr hne ⊢; omega) (.inr ⟨rfl, rfl⟩) (fun r hr => by simp at hr; omega) (fun a b ha hb h0 hlt => by simp [GNode.df] at ha hb; omega) rfl
 have f2 := f1.snoc (R' := 3) (L' := [2]) (.bin 6 2 0 1) 0 (fun _ => rfl) rfl (.inl ⟨by decide, by decide⟩) (fun r hr => by simp [GNode.us] at hr ⊢; omega) (fun r hr hne => by simp [GNode.df] at hr hne; exact absurd hr hne) (.inr ⟨rfl, rfl⟩) (fun r hr => by simp at hr; omega) (fun a b ha hb h0 hlt => by simp [GNode.df] at ha hb; omega) rfl
 exact ⟨_, _, f2⟩
def p20 : GProg := fewP [.const 0 1, .const 1 2, .bin 6 2 0 1] 3 2
theorem bad20 : ¬ GoodP p20 3 [5, 5, 6] 0 := fun h => by
 have a1 : Alive p20 1 1 := .use (to := 2) (by decide) (by decide)
 have a0 : Alive p20 1 0 := .use (to := 2) (by decide) (by decide)
 exact h.sets 1 (by decide) 1 0 (by decide) (by decide) (.inl a1) (.inl a0) rfl
set_option maxHeartbeats 4000000 in
theorem known20 : callD prog 24 #[] w fun v w' => v = .bool true ∧ Ext w w' := by
 obtain ⟨lv, pt, hfew⟩ := few20
 have hok : OkProg p20 := hfew.ok (by decide) (by decide)
 apply F24_wp
 suffices key : ∀ R : Value → World → Prop, (∀ w', Ext w w' → R (.bool true) w') → F24_den w R from key _ fun _ hx => ⟨rfl, hx⟩
 intro R hR
 unfold F24_den
 refine bld bd_84 [(0, i64 0), (1, i32 1)] rfl rfl (mki mi_84 (bld bd_84 [(0, i64 1), (1, i32 2)] rfl rfl (mki mi_84 (bld bd_113 [(0, i64 6), (1, i64 2), (2, i64 0), (3, i64 1)] rfl rfl (mki mi_113 (bld bd_105 [(0, i64 2)] rfl rfl (mki mi_105 ?_)))))))
 refine bsl xe_36 (p20.nodes.map (GNode.val nilS)) rfl rfl (by decide) rfl fun nv w1 ho1 x1 => ?_
 have hN : NodesAre w1 nv p20.nodes := ⟨_, SliceIs.of_own ho1, fun i n hn => ⟨n.val nilS, by rw [List.getElem?_map, hn]; rfl, nilS, rfl, by
  have ha : n.args = [] := by
   have hm := List.mem_of_getElem? hn
   simp [p20, fewP] at hm
   rcases hm with rfl | rfl | rfl | rfl <;> rfl
  rw [ha]; exact SliceIs.nil _ _⟩⟩
 obtain ⟨na, nc, rfl⟩ : ∃ a c, nv = .slice a 4 c := by obtain ⟨vs, h1, _⟩ := hN; exact SliceIs.shape h1
 refine bld bd_38 [(1, i64 3), (2, _)] rfl rfl ?_
 refine asB sa_38 rfl rfl fun b2 w2 hb2 x2 => ?_
 have hb2 : Boxed w2 b2 [i64 0, i64 3, .slice na 4 nc] := hb2
 have hP : ProgIs w2 (.agg #[i64 0, i64 3, .slice na 4 nc]) p20 := ⟨_, rfl, hN.ext x2, fun n hn => by
  simp [p20, fewP] at hn
  rcases hn with rfl | rfl | rfl | rfl <;> exact Nat.zero_le _⟩
 refine ldA hb2 la_38 rfl ?_
 refine (alloc_ok hP hok rfl (Q := fun _ _ slots => slots = 0) rfl (fun i of slots r at' hal hq hi hr _ hat => ?_)).mono fun r w3 ⟨⟨ov, of, s, hr, ho3, hgood, hs0⟩, x3⟩ => ?_
 ·rcases hfew.free hal hi hr hat with h | h <;> omega
 subst hr; subst hs0
 have hlen := hgood.len
 have hone : oneC ov = true := by obtain ⟨a, c, rfl⟩ := ho3.shape; rfl
 refine asB sa_68 rfl (by show (oneC ov && (oneC (i64 0) && true)) = true; rw [hone]; rfl) fun b4 w4 hb4 x4 => ?_
 have hb4 : Boxed w4 b4 [ov, i64 0] := hb4
 have ho4 := ho3.ext x4
 have x24 := x3.trans x4
 have te : ∀ {a : Int}, decide (a = a) = true := fun {a} => decide_eq_true rfl
 refine ldB hb4 fa_68_0 l1_23 rfl (lnx xa_23 ho4 (V_eqlI.2 ?_))
 rw [hlen, show decide (((3 : Nat) : Int) = 3) = true from rfl]
 simp only [gd_t]
 refine ldB hb4 fa_68_1 l1_3 rfl (V_eqlI.2 ?_)
 rw [te]
 simp only [pickD_iff, gd_t, reduceIte]
 refine ldA (hb2.ext x24) la_38 rfl (ldA hb4 la_68 rfl ?_)
 refine (placeRight_ok (hP.ext x24) hok rfl ho4 (by omega)).mono fun r w5 ⟨⟨a, hr, ha⟩, x5⟩ => ?_
 subst hr
 obtain rfl : a = true := ha.2 hgood
 simp only [pickD_iff, gd_t, reduceIte]
 refine ldA ((hb2.ext x24).ext x5) la_38 rfl ?_
 refine bsl xe_23 [i64 5, i64 5, i64 6] rfl rfl (by decide) rfl fun v6 w6 ho6 x6 => ?_
 have h6 : IntsAre w6 v6 [5, 5, 6] := SliceIs.of_own ho6
 obtain ⟨a6, c6, rfl⟩ := h6.shape
 refine bld bd_68 [(0, _)] rfl rfl ?_
 have x26 := (x24.trans x5).trans x6
 refine (placeRight_ok (hP.ext x26) hok rfl h6 (by decide)).mono fun r w7 ⟨⟨a, hr, ha⟩, x7⟩ => ?_
 subst hr
 obtain rfl : a = false := by
  cases a with
  | false => rfl
  | true => exact absurd (ha.1 rfl) bad20
 refine V_not.2 ?_
 simp only [Bool.not_false]
 exact hR _ ((x1.trans x2).trans (x26.trans x7))
end Go.Proofs.YtcdbikfnlggbnaaGreatDoor
namespace Go.Vc
open Go.ChangeShapes Go.WideShapes Go.ChangeAt Go.RowKit
variable {H : Type} {enc : TypeId × Value → H} {P : Program}
theorem post_of_ext {f : Func} {s : ChangeSpec} {apart fresh handsOn again : Bool} {W W' : World} {args : Array Value} {v : Value} {ds gs : List (DataW H)} {pa pv : List MemPlace}
  (hW : DataW.Whole enc P f.params.toList s.vars apart W args.toList ds gs (pa ++ pv)) (hx : Ext W W')
  (hr : ∀ b sp hd, DataW.TrodAll enc P W' b sp hd f.resultTypes.toList (v.resultList f.resultTypes.size) (s.fn H (ds ++ gs)).results [])
  (ha : ∀ sp : Nat → Bool, (∀ p ∈ pa ++ pv, sp p.block = true) → DataW.TrodAll enc P W' 0 sp true f.params.toList args.toList (s.fn H (ds ++ gs)).args pa)
  (hv : ∀ sp : Nat → Bool, (∀ p ∈ pa ++ pv, sp p.block = true) → DataW.TrodVars enc P W' sp s.vars (s.fn H (ds ++ gs)).vars pv)
  (hok : ∀ (j : Nat) (t : TypeId) (r : Value), f.resultTypes[j]? = some t → (v.resultList f.resultTypes.size)[j]? = some r → Value.okWide P W' .any 0 t r) :
  s.post enc P f apart fresh handsOn again W args v W' := by
 have hlt := hW.lt
 have hall : ∀ p ∈ pa ++ pv, (fun b => decide (b < W.heap.size)) p.block = true := fun p hp => decide_eq_true (hlt p hp)
 have hk := hx.below.frame (· ∈ pa ++ pv)
 refine ⟨ds, gs, pa ++ pv, [], pa, pv, hW, hr _ _ _, ha _ hall, hv _ hall, World.keptBut_mono (fun p hp => ⟨hp, .inr (by simpa using hp)⟩) hk, fun _ => ?_⟩
 obtain ⟨_, _, _, _, _, hz, hn⟩ := hW
 have h2 := trodAll_append (ha (fun _ => true) fun _ _ => rfl) (hr 0 (fun _ => true) true)
 refine ⟨hok, _, _, pa ++ pv, ⟨pa, pv, (by simpa using h2), hv _ fun _ _ => rfl, rfl, fun b off hp => ?_, hn⟩, fun p hp _ => hp⟩
 rw [hx.below.frozen (hlt _ hp)]
 exact hz b off hp
end Go.Vc
namespace Go.Vc
open Go.ChangeShapes Go.WideShapes Go.ChangeAt Go.RowKit
variable {H : Type} {enc : TypeId × Value → H} {P : Program}
theorem args_stay (hl : laidOutB P = true) {W W' : World} (hx : Ext W W') {sp : Nat → Bool} : ∀ {ts : List TypeId} {vs : List Value} {ds : List (DataW H)} {p : List MemPlace}, (ts.all fun t => P.readableRec t && decide (t < P.types.size)) = true →
  DataW.TrodAll enc P W 0 (fun _ => true) true ts vs ds p → (∀ x ∈ p, x.block < W.heap.size) → (∀ x ∈ p, sp x.block = true) → DataW.TrodAll enc P W' 0 sp true ts vs ds p
 | [], vs, ds, p, _, h, _, _ => by
  obtain ⟨rfl, rfl, rfl⟩ := trodAll_nil h
  exact trodAll_mk0
 | t :: ts, vs, ds, p, hr, h, hlt, hs => by
  simp only [List.all_cons, Bool.and_eq_true, decide_eq_true_eq] at hr
  obtain ⟨v, vs', d, ds', p1, p2, rfl, rfl, rfl, h1, h2⟩ := trodAll_cons h
  exact trodAll_cons_mk (WideElems.Trod_stays hl hr.1.1 hr.1.2 h1 (fun x hx' => hx.below.same (hlt x (by simp [hx']))) fun x hx' => hs x (by simp [hx']))
   (args_stay hl hx (by simpa using hr.2) h2 (fun x hx' => hlt x (by simp [hx'])) fun x hx' => hs x (by simp [hx']))
end Go.Vc
namespace Go.Vc
open Go.ChangeShapes
theorem laid_elem {P : Program} {W : World} {x : String} {ds : List (DataW Unit)} {g t e m : Nat} (hg : P.globalNamed x = some g) (ht : (P.globals[g]?).map (·.type) = some t) (hu : P.underlying t = some (.array m e)) {i : Nat} (hi : i < m) :
  ∀ {laid : List (String × DataW Unit)} {ps : List MemPlace}, DataW.LaidVars P W laid ps → (x, .agg ds) ∈ laid → ∃ (fuel : Nat) (q : List MemPlace) (cs : List Value) (d : DataW Unit), ds[i]? = some d ∧ DataW.trod (fun _ => ()) P W 0 (fun _ => true) false fuel e ((cs.drop (i * P.cellsOf e)).take (P.cellsOf e)) = some (d, q) ∧ ∀ j : Nat, W.cell? ⟨g, j, none⟩ = cs[j]?
 | [], _, _, hm => by cases hm
 | (n', d') :: r, ps, h, hm => by
  obtain ⟨g', t', cs, fuel, p, q, h1, h2, h3, h4, h5, _⟩ := h
  rcases List.mem_cons.1 hm with e1 | e1
  ·cases e1
   obtain rfl := Option.some.inj (hg.symm.trans h1)
   obtain rfl := Option.some.inj (ht.symm.trans h2)
   obtain ⟨xs, m', _, ex, _, hxl, hel⟩ := DataW.trod_array hu h4
   have hE := hel i hi
   rw [List.getElem?_eq_getElem (by omega)] at hE
   refine ⟨m', (xs[i]'(by omega)).2, cs.toList, (xs[i]'(by omega)).1, ?_, hE, fun j => by rw [World.var?_cell hg h3 j, ← Array.getElem?_toList]⟩
   have : ds = xs.map (·.1) := by have := congrArg Prod.fst ex; simpa using this
   rw [this, List.getElem?_map, List.getElem?_eq_getElem (by omega)]; rfl
  ·exact laid_elem hg ht hu hi h5 e1
theorem laid_int {P : Program} {W : World} {x : String} {ds : List (DataW Unit)} {g t e m : Nat} {k : IntKind} {laid : List (String × DataW Unit)} {ps : List MemPlace} (hg : P.globalNamed x = some g) (ht : (P.globals[g]?).map (·.type) = some t) (hu : P.underlying t = some (.array m e)) (he : P.underlying e = some (.int k)) (c1 : P.cellsOf e = 1)
  (h : DataW.LaidVars P W laid ps) (hm : (x, .agg ds) ∈ laid) {i : Nat} (hi : i < m) : ∃ z, ds[i]? = some (.lit (.int k z)) ∧ W.cell? ⟨g, i, none⟩ = some (.int k z) := by
 obtain ⟨fuel, q, cs, d, h1, h2, h3⟩ := laid_elem hg ht hu hi h hm
 rw [c1, Nat.mul_one] at h2
 obtain ⟨z, e1, e2, _⟩ := DataW.trod_int he h2
 cases e2
 refine ⟨z, h1, ?_⟩
 rw [h3 i]
 have h0 : ((cs.drop i).take 1)[0]? = some (.int k z) := by rw [e1]; rfl
 simpa using h0
theorem laid_fld {P : Program} {W : World} {x : String} {ds : List (DataW Unit)} {g t e m c f o u : Nat} {fs : Array Field} {k : IntKind} {laid : List (String × DataW Unit)} {ps : List MemPlace} (hg : P.globalNamed x = some g) (ht : (P.globals[g]?).map (·.type) = some t) (hu : P.underlying t = some (.array m e)) (he : P.underlying e = some (.struct fs)) (hc : P.cellsOf e = c)
  (hf : (fs[f]?).map (fun y => (y.type, y.offset)) = some (u, o)) (hk : P.underlying u = some (.int k)) (c1 : P.cellsOf u = 1) (ho : o < c)
  (h : DataW.LaidVars P W laid ps) (hm : (x, .agg ds) ∈ laid) {i : Nat} (hi : i < m) : ∃ l z, ds[i]? = some (.agg l) ∧ l[f]? = some (.lit (.int k z)) ∧ W.cell? ⟨g, i * c + o, none⟩ = some (.int k z) := by
 obtain ⟨fuel, q, cs, d, h1, h2, h3⟩ := laid_elem hg ht hu hi h hm
 rw [hc] at h2
 obtain ⟨xs, n, _, ex, _, hxl, hel⟩ := DataW.trod_struct he h2
 obtain ⟨fd, hfd, hfe⟩ := Option.map_eq_some_iff.1 hf
 have h4 := hel f fd hfd
 have hlt : f < fs.size := (Array.getElem?_eq_some_iff.1 hfd).1
 simp only [Prod.mk.injEq] at hfe
 obtain ⟨rfl, rfl⟩ := hfe
 rw [c1, List.getElem?_eq_getElem (by omega)] at h4
 obtain ⟨z, e1, e2, _⟩ := DataW.trod_int hk h4
 have e3 : d = .agg (xs.map (·.1)) := congrArg Prod.fst ex
 refine ⟨_, z, by rw [h1, e3], by rw [List.getElem?_map, List.getElem?_eq_getElem (by omega)]; simp [e2], ?_⟩
 rw [h3]
 have h0 : ((((cs.drop (i * c)).take c).drop fd.offset).take 1)[0]? = some (.int k z) := by rw [e1]; rfl
 simpa [List.getElem?_take, List.getElem?_drop, ho] using h0
end Go.Vc
