/- Package place, walked, for a seat without the reference. Programs without ways apart, of which at most two registers meet at once: the plain law. PlaceFew, walked. -/
import Derived.Test.YtendijaeihljeaaLaws3
import Derived.Deep.AppendLies
namespace Go.Vc
open Go.Proofs
section
variable {P : Program} {w : World} {K : Value → World → Prop} {S : World → Prop} {L : Value → Prop}
theorem yBld {t : TypeId} {zs : List Value} (h : BD P t zs) {parts : Array (Nat × Value)} (l : List (Nat × Value)) (hp : parts = l.toArray) (h1 : (l.all fun x => decide (x.1 < zs.length) && oneC x.2) = true)
    (hk : L (.agg (l.foldl (fun cs x => cs.set x.1 x.2) zs).toArray)) : yieldS P S (Instr.build t parts) L := by
  subst hp
  obtain ⟨fs, b, hu, hi, hm⟩ := h
  refine yieldS.ok (fun w _ => ?_) hk
  simp only [Instr.build, Sem.run_bind, run_zero hi, Result.andThen_ok, run_underlying hu, hm, Value.cells]
  rw [fillB l zs rfl h1]
  simp
theorem yMki {t : TypeId} (h : MI P t) {v : Value} (hk : L (.iface t v)) : yieldS P S (Instr.makeInterface t v) L := by
  obtain ⟨d, hu, hd⟩ := h
  refine yieldS.ok (fun w _ => ?_) hk
  cases d <;> first | (simp [Instr.makeInterface, run_underlying hu]; done) | cases hd
theorem r_max2 {t : TypeId} {ts : Array TypeId} {a b : Int} : (Builtin.max_ ts t #[.int .i64 a, .int .i64 b]).run P w = .ok (.int .i64 (if a < b then b else a)) w ∨ (Builtin.max_ ts t #[.int .i64 a, .int .i64 b]).run P w = .ok (.int .i64 (if b < a then a else b)) w := by
  simp [Builtin.max_, Builtin.max2]
theorem mx2 {t : TypeId} {ts : Array TypeId} {a b : Int} (hk : ∀ c, (c = a ∨ c = b) → a ≤ c → b ≤ c → K (.int .i64 c) w) : V P (Builtin.max_ ts t #[.int .i64 a, .int .i64 b]) w K := by
  rcases r_max2 (P := P) (w := w) (t := t) (ts := ts) (a := a) (b := b) with h | h
  · exact V.ok h (hk _ (by split <;> simp) (by split <;> omega) (by split <;> omega))
  · exact V.ok h (hk _ (by split <;> simp) (by split <;> omega) (by split <;> omega))
theorem r_min2 {t : TypeId} {ts : Array TypeId} {a b : Int} : (Builtin.min_ ts t #[.int .i64 a, .int .i64 b]).run P w = .ok (.int .i64 (if a < b then a else b)) w ∨ (Builtin.min_ ts t #[.int .i64 a, .int .i64 b]).run P w = .ok (.int .i64 (if b < a then b else a)) w := by
  simp [Builtin.min_, Builtin.min2]
theorem mn2 {t : TypeId} {ts : Array TypeId} {a b : Int} (hk : ∀ c, (c = a ∨ c = b) → c ≤ a → c ≤ b → K (.int .i64 c) w) : V P (Builtin.min_ ts t #[.int .i64 a, .int .i64 b]) w K := by
  rcases r_min2 (P := P) (w := w) (t := t) (ts := ts) (a := a) (b := b) with h | h
  · exact V.ok h (hk _ (by split <;> simp) (by split <;> omega) (by split <;> omega))
  · exact V.ok h (hk _ (by split <;> simp) (by split <;> omega) (by split <;> omega))
theorem rm {t : TypeId} {a b : Int} (hb : 0 < b) (hk : ∀ c, c = a.tmod b → -b < c → c < b → K (.int .i64 c) w) : V P (binOp .rem t (.int .i64 a) (.int .i64 b)) w K := by
  have hne : b ≠ 0 := by omega
  have hr : (binOp .rem t (.int .i64 a) (.int .i64 b)).run P w = .ok (.int .i64 (a.tmod b)) w := by simp [binOp, Op.intDiv, hne]
  exact V.ok hr (hk _ rfl (by have := Int.lt_tmod_of_pos a hb; simpa using this) (Int.tmod_lt_of_pos a hb))
/-- a[i], of an array of whole numbers that lies at an address. -/
theorem r_arr {t e n : TypeId} {z : Value} {by_ : Nat} (ht : P.underlying t = some (.array n e)) (hi : Inf P e z 1 by_) {b off : Nat} {i : Int} (h0 : 0 ≤ i) (h1 : i < n) :
    (Instr.indexAt t (.pointer (some ⟨b, off, none⟩)) (.int .i64 i)).run P w = .ok (.pointer (some ⟨b, off + i.toNat, none⟩)) w := by
  simp [Instr.indexAt, asIntOf, run_underlying ht, Instr.sureAddr, run_size hi, h0, h1, add_mk]
theorem r_idx {t e n : TypeId} {z : Value} {by_ : Nat} (ht : P.underlying t = some (.array n e)) (hi : Inf P e z 1 by_) (hd : ∃ k, P.underlying e = some (.int k)) {cs : Array Value} {i : Int} {u : Value} (h0 : 0 ≤ i) (h1 : i < n) (hu : cs[i.toNat]? = some u) (h1c : oneC u = true) :
    (Instr.index t (.agg cs) (.int .i64 i)).run P w = .ok u w := by
  obtain ⟨k, hd⟩ := hd
  simp [Instr.index, asIntOf, run_underlying ht, run_size hi, h0, h1, part, run_isAgg hd, aggB, hu]
/-- l[:k] -/
theorem r_hi {t e : TypeId} {z : Value} {by_ : Nat} (ht : P.underlying t = some (.slice e)) (hi : Inf P e z 1 by_) {a : Option Addr} {n c k : Nat} (hk : k ≤ c) :
    (Instr.sliceAt t (.slice a n c) none (some (.int .i64 (k : Int))) none).run P w = .ok (.slice (if c = 0 then a else a.map (·.add 0)) k c) w := by
  have h0 : (0 : Int) ≤ k ∧ (k : Int) ≤ c := ⟨by omega, by omega⟩
  simp [Instr.sliceAt, Instr.slice, run_underlying ht, run_size hi, Instr.sliceBounds, Instr.sliceBound, asIntOf, h0]
  intro h
  omega
theorem take_ints {v : Value} {xs : List Int} {t e : TypeId} {z : Value} {by_ k : Nat} (ht : P.underlying t = some (.slice e)) (hi : Inf P e z 1 by_) (h : SliceIs w v 1 xs.length (xs.map i64)) (hk : k ≤ xs.length) :
    ∃ v', (Instr.sliceAt t v none (some (.int .i64 (k : Int))) none).run P w = .ok v' w ∧ SliceIs w v' 1 (xs.take k).length ((xs.take k).map i64) ∧ ∀ b off n c, v' = .slice (some ⟨b, off, none⟩) n c → ∃ off' n' c', v = .slice (some ⟨b, off', none⟩) n' c' := by
  have hlen : (xs.take k).length = k := by simp; omega
  rcases h.2 with ⟨rfl, h0⟩ | ⟨b, off, cap, rfl, h1, h2, h3⟩
  · obtain rfl : k = 0 := by omega
    refine ⟨_, r_hi ht hi (Nat.le_refl _), ?_, fun b off n c h => by simp at h⟩
    simp
    exact SliceIs.nil w 1
  · refine ⟨_, r_hi ht hi (by omega), ?_, fun b' off' n' c' h => ⟨off, xs.length, cap, by
      have e : (if cap = 0 then some (⟨b, off, none⟩ : Addr) else (some (⟨b, off, none⟩ : Addr)).map (·.add 0)) = some ⟨b, off, none⟩ := by split <;> simp [add_mk]
      rw [e] at h
      cases h
      rfl⟩⟩
    rw [hlen]
    refine ⟨by simp; omega, .inr ⟨b, off, cap, ?_, by omega, h2, fun j u hj => ?_⟩⟩
    · split <;> simp [add_mk]
    · refine h3 j u ?_
      rw [List.getElem?_map] at hj ⊢
      rw [List.getElem?_take] at hj
      split at hj
      · exact hj
      · cases hj
end
end Go.Vc
namespace Go.Proofs.Ytendijaeihljeaa
open Go.Vc
theorem pick_ok {n m : Int} {w : World} (hm : 0 < m) (hm2 : m ≤ 1000000) : callD Try.prog 4 #[i64 n, i64 m] w fun r w' => (∃ k, r = i64 k ∧ 0 ≤ k ∧ k < m) ∧ w' = w := by
  apply F4_wp
  unfold F4_den
  refine rm hm fun c _ h1 h2 => ?_
  refine V_lss.2 (ifD_dec (fun hlt => ?_) fun hge => ?_)
  · refine V_add.2 ?_
    rw [wrap_id (by omega) (by omega)]
    exact ⟨⟨_, rfl, by omega, by omega⟩, rfl⟩
  · exact ⟨⟨c, rfl, by omega, h2⟩, rfl⟩
theorem own1' {w : World} {B e s n : Nat} {v : Value} {xs : List Value} (h : w.ownsRow B e s v n xs) : oneC v = true := by
  obtain ⟨a, c, rfl⟩ := (SliceIs.of_own h).shape; rfl
/-- What is alive, and another register. -/
def withL (l : List Bool) (d : Int) : List Bool := if 0 ≤ d then l.set d.toNat true else l
theorem withL_len (l : List Bool) (d : Int) : (withL l d).length = l.length := by unfold withL; split <;> simp
theorem with_ok {l : List Bool} {lv : Value} {d : Int} {w : World} (hl : BoolsAre w lv l) (hb : l.length ≤ 1000) (hd : d < l.length) :
    callD Try.prog 18 #[lv, i64 d] w fun r w' => w'.ownsRow w.heap.size 4 1 r l.length ((withL l d).map Value.bool) ∧ Ext w w' := by
  apply F18_wp
  unfold F18_den
  refine bsl (by first | exact xe_22 | exact xe_23 | exact xe_46 | exact xe_47) [] rfl rfl (by simp) rfl fun v0 w2 ho2 x2 => ?_
  refine apO (by first | exact xe_22 | exact xe_23 | exact xe_46 | exact xe_47) ho2 (hl.ext x2) (by simp [oneC]) (by omega) (by unfold maxLen; omega) x2.size fun ov w3 ho3 hg3 => ?_
  have x3 : Ext w w3 := x2.grown hg3 fun k hk => (ho2.lt k hk).1
  simp only [Nat.zero_add, List.nil_append] at ho3
  refine V_geq.2 (ifD_dec (fun hge => ?_) fun hlt => ?_)
  · have hge' : 0 ≤ d := hge
    refine stO (by first | exact xa_22 | exact xa_23 | exact xa_46 | exact xa_47) inf4 ho3 hge' hd rfl fun w5 ho5 hg => ?_
    rw [map_set_b] at ho5
    refine ⟨?_, x3.grown hg fun k hk => (ho3.lt k hk).1⟩
    unfold withL
    rw [if_pos hge']
    exact ho5
  · refine ⟨?_, x3⟩
    unfold withL
    rw [if_neg (by simpa using hlt)]
    exact ho3
end Go.Proofs.Ytendijaeihljeaa
namespace Go.Proofs.Ytendijaeihljeaa
open Go.Vc
/-- May register r have the place at, by what meets and what must stand in slots? -/
def MayP (m : Mx) (sl : List Bool) (of : List Int) (r : Nat) (at' : Int) : Prop := (sl[r]? = some true → 16 ≤ at') ∧ ∀ (o : Nat) (y : Int), of[o]? = some y → m r o = true → y ≠ at'
set_option maxHeartbeats 1000000 in
theorem may_ok {R : Nat} {m : Mx} {sl : List Bool} {of : List Int} {mv slv ov ofv : Value} {r : Nat} {at' : Int} {w : World} (hR : R ≤ 40) (hm : MatIs w mv R R m) (hs : BoolsAre w slv sl) (hsl : sl.length = R) (ho : IntsAre w ofv of) (hof : of.length = R) (hr : r < R) :
    callD Try.prog 10 #[.agg #[mv, slv, ov], i64 r, i64 at', ofv] w fun q w' => (∃ ok : Bool, q = .bool ok ∧ (ok = true ↔ MayP m sl of r at')) ∧ Ext w w' := by
  apply F10_wp
  unfold F10_den
  obtain ⟨cs, hcs, hrow⟩ := hm.row (by omega) hR
  obtain ⟨u, hu, hub⟩ := hrow r hr
  obtain ⟨oa, oc, rfl⟩ := ho.shape
  obtain ⟨s, hss⟩ := ex_get (l := sl) (j := r) (by omega)
  refine bx fun b w1 hb1 x1 => ?_
  refine ldB hb1 (by first | exact fa_25_0 | exact fa_25_1 | exact fa_25_2 | exact fa_27_0 | exact fa_30_0 | exact fa_30_1 | exact fa_30_2 | exact fa_34_0 | exact fa_34_1 | exact fa_36_0 | exact fa_36_1 | exact fa_36_2 | exact fa_36_3 | exact fa_38_0 | exact fa_40_0 | exact fa_40_1 | exact fa_49_0 | exact fa_49_1 | exact fa_49_2 | exact fa_68_0 | exact fa_68_1 | exact fa_68_2 | exact fa_68_3 | exact fa_70_0 | exact fa_70_1 | exact fa_72_0 | exact fa_72_3 | exact fa_72_4 | exact fa_74_0 | exact fa_74_1 | exact fa_74_2 | exact fa_76_0 | exact fa_76_1 | exact fa_76_2 | exact fa_78_0 | exact fa_78_1 | exact fa_82_0 | exact fa_82_1 | exact fa_85_0) (by first | exact l1_22 | exact l1_23 | exact l1_3 | exact l1_4 | exact l1_46 | exact l1_47 | exact l1_54) rfl ?_
  refine ldx xa_47 l1_4 (hs.ext x1) (by omega) (by omega) (getB hss) ?_
  have key : ∀ {X : Prop}, ((s = true ∧ at' < 16) → (∃ ok : Bool, Value.bool false = .bool ok ∧ (ok = true ↔ MayP m sl of r at')) ∧ Ext w w1) ∧ (¬ (s = true ∧ at' < 16) → X) → True := fun _ => trivial
  have no : ∀ {w'}, Ext w w' → ¬ MayP m sl of r at' → (∃ ok : Bool, Value.bool false = .bool ok ∧ (ok = true ↔ MayP m sl of r at')) ∧ Ext w w' := fun hx hn => ⟨⟨false, rfl, fun h => (by cases h), fun h => absurd h hn⟩, hx⟩
  have rest : (s = true → 16 ≤ at') → ∃ (I1 : NP 1) (μ1 : NF 1), I1 (Value.int IntKind.i64 0) w1 ∧
      ∀ (t22 : Value), ∀ w10 : World, I1 t22 w10 → ∀ _f : Env,
      V Try.prog (binOp .lss 3 t22 (i64 of.length)) w10 fun t23 w11 =>
      ifD t23 (
      V Try.prog (Instr.indexAt 22 (.slice oa of.length oc) t22) w11 fun t25 w12 =>
      V Try.prog (Instr.loadAt 3 t25) w12 fun t26 w13 =>
      V Try.prog (Instr.fieldAt 49 (.pointer (some ⟨b, 0, none⟩)) 0) w13 fun t27 w14 =>
      V Try.prog (Instr.loadAt 46 t27) w14 fun t28 w15 =>
      V Try.prog (Instr.indexAt 46 t28 (i64 r)) w15 fun t30 w16 =>
      V Try.prog (Instr.loadAt 47 t30) w16 fun t31 w17 =>
      V Try.prog (Instr.indexAt 47 t31 t22) w17 fun t33 w18 =>
      V Try.prog (Instr.loadAt 4 t33) w18 fun t34 w19 =>
      gd t34 true (fun K => K t26 w19) w19 fun t36 w20 =>
      gd t34 true (fun K => K (i64 at') w20) w20 fun t37 w21 =>
      gd t34 true (fun K => V Try.prog (do eqGuard .eql 3 (Operand.tmp 36) (Operand.tmp 37) t36 t37; binOp .eql 3 t36 t37) w21 K) w21 fun t38 w22 =>
      pickD t34 t38 (Value.bool false) fun t39 =>
      ifD t39 (
      (∃ ok : Bool, Value.bool false = .bool ok ∧ (ok = true ↔ MayP m sl of r at')) ∧ Ext w w22) (
      V Try.prog (binOp .add 3 t22 (Value.int IntKind.i64 1)) w22 fun t40 w24 =>
      I1 t40 w24 ∧ μ1 t40 w24 < μ1 t22 w10)) (
      (∃ ok : Bool, Value.bool true = .bool ok ∧ (ok = true ↔ MayP m sl of r at')) ∧ Ext w w11) := by
    intro hslot
    refine ⟨fun v w' => ∃ i : Nat, v = i64 i ∧ i ≤ of.length ∧ w1 = w' ∧ ∀ (o : Nat) (y : Int), o < i → of[o]? = some y → m r o = true → y ≠ at', fun v _ => of.length - (RowKit.intOf v).toNat, ⟨0, rfl, Nat.zero_le _, rfl, fun o y h => by omega⟩, ?_⟩
    rintro _ _ ⟨i, rfl, hi, rfl, hdone⟩ _
    refine V_lss.2 (ifD_dec (fun hlt => ?_) fun hge => ?_)
    · have hi' : i < of.length := by omega
      obtain ⟨y, hy⟩ := ex_get hi'
      refine ldx xa_22 l1_3 (ho.ext x1) (by omega) (by omega) (getI hy) ?_
      refine ldB hb1 (by first | exact fa_25_0 | exact fa_25_1 | exact fa_25_2 | exact fa_27_0 | exact fa_30_0 | exact fa_30_1 | exact fa_30_2 | exact fa_34_0 | exact fa_34_1 | exact fa_36_0 | exact fa_36_1 | exact fa_36_2 | exact fa_36_3 | exact fa_38_0 | exact fa_40_0 | exact fa_40_1 | exact fa_49_0 | exact fa_49_1 | exact fa_49_2 | exact fa_68_0 | exact fa_68_1 | exact fa_68_2 | exact fa_68_3 | exact fa_70_0 | exact fa_70_1 | exact fa_72_0 | exact fa_72_3 | exact fa_72_4 | exact fa_74_0 | exact fa_74_1 | exact fa_74_2 | exact fa_76_0 | exact fa_76_1 | exact fa_76_2 | exact fa_78_0 | exact fa_78_1 | exact fa_82_0 | exact fa_82_1 | exact fa_85_0) (by first | exact l1_22 | exact l1_23 | exact l1_3 | exact l1_4 | exact l1_46 | exact l1_47 | exact l1_54) rfl ?_
      refine ldx xa_46 l1_47 (hcs.ext x1) (by omega) (by omega) (by simpa using hu) ?_
      have hub' : SliceIs w u 1 R ((rowL m r R).map Value.bool) := by have := hub; unfold BoolsAre at this; rw [rowL_len] at this; exact this
      refine ldx xa_47 l1_4 (hub'.ext x1) (by omega) (by omega) (getB (rowL_get (by omega))) ?_
      have go : (m r i = true → y ≠ at') → V Try.prog (binOp .add 3 (i64 i) (Value.int IntKind.i64 1)) w1 fun t40 w24 => (∃ i : Nat, t40 = i64 i ∧ i ≤ of.length ∧ w1 = w24 ∧ ∀ (o : Nat) (y : Int), o < i → of[o]? = some y → m r o = true → y ≠ at') ∧ of.length - (RowKit.intOf t40).toNat < of.length - (RowKit.intOf (i64 (i : Int))).toNat := by
        intro h
        refine V_add.2 ?_
        rw [wrap_id (by omega) (by omega), i64_succ]
        refine ⟨⟨i + 1, rfl, by omega, rfl, fun o y' ho1 ho2 => ?_⟩, by simp only [intOf_i64]; omega⟩
        by_cases hoi : o = i
        · subst hoi
          rw [hy] at ho2
          cases ho2
          exact h
        · exact hdone o y' (by omega) ho2
      cases hmi : m r i with
      | false =>
        simp only [gd_ft, pickD_iff, Bool.false_eq_true, reduceIte, ifD_false]
        exact go fun h => by rw [hmi] at h; cases h
      | true =>
        simp only [gd_t]
        refine V_eqlI.2 ?_
        simp only [pickD_iff, reduceIte]
        refine ifD_dec (fun heq => ?_) fun hne => ?_
        · exact no x1 fun h => h.2 i y hy hmi heq
        · exact go fun _ h => hne h
    · have hil : i = of.length := by omega
      refine ⟨⟨true, rfl, fun _ => ⟨fun h => hslot (by rw [hss] at h; exact Option.some.inj h), fun o y h1 h2 => hdone o y (by have := (List.getElem?_eq_some_iff.1 h1).1; omega) h1 h2⟩, fun _ => rfl⟩, x1⟩
  clear key
  cases s with
  | false =>
    simp only [gd_ft, pickD_iff, Bool.false_eq_true, reduceIte, ifD_false]
    refine V_ln_22.2 ?_
    exact rest fun h => by cases h
  | true =>
    simp only [gd_t]
    refine V_lss.2 ?_
    simp only [pickD_iff, reduceIte]
    refine ifD_dec (fun hlt => ?_) fun hge => ?_
    · exact no x1 fun h => by have := h.1 hss; omega
    · refine V_ln_22.2 ?_
      exact rest fun _ => by omega
end Go.Proofs.Ytendijaeihljeaa

namespace Go.Vc
section
variable {P : Program} {w : World}
theorem thK {u x : TypeId} {v : Value} {K : Value → Value → World → Prop} (h : TA P u) (hK : K (.bool true) v w) :
    V P (Instr.typeAssert (.iface u v) x u true) w fun t1 w1 => V P (Instr.extract t1 1) w1 fun t2 w2 => V P (Instr.extract t1 0) w2 fun t3 w3 => K t2 t3 w3 := by
  obtain ⟨z, hz, _⟩ := h
  refine V.ok (hz w x u v) ?_
  rw [if_pos rfl]
  exact V.ok r_ext1 (V.ok r_ext0 hK)
theorem tmK {u t x : TypeId} {v : Value} {K : Value → Value → World → Prop} (h : TA P u) (hne : t ≠ u) (hK : ∀ z, K (.bool false) z w) :
    V P (Instr.typeAssert (.iface t v) x u true) w fun t1 w1 => V P (Instr.extract t1 1) w1 fun t2 w2 => V P (Instr.extract t1 0) w2 fun t3 w3 => K t2 t3 w3 := by
  obtain ⟨z, hz, _⟩ := h
  refine V.ok (hz w x t v) ?_
  rw [if_neg hne]
  exact V.ok r_ext1 (V.ok r_ext0 (hK _))
end
end Go.Vc
namespace Go.Proofs.Ytendijaeihljeaa
open Go.Vc
def GNode.pureB : GNode → Bool
  | .const _ _ | .move _ _ | .bin _ _ _ _ | .un _ _ _ | .choose _ _ _ _ | .tick | .goto _ | .branch _ _ => true
  | _ => false
def GNode.leavesB : GNode → Bool
  | .getField _ _ | .putField _ _ => true
  | g => g.pureB
set_option maxHeartbeats 1000000 in
theorem pure_ok {g : GNode} {v : Value} {w : World} (h : NodeIs w v g) : callD Try.prog 25 #[v] w fun r w' => r = .bool g.pureB ∧ w' = w := by
  obtain ⟨sv, rfl, hs⟩ := h
  apply F25_wp
  unfold F25_den
  cases g <;> (dsimp only [GNode.val]; (repeat (first | (with_reducible refine thK (by first | exact ta_27 | exact ta_30 | exact ta_32 | exact ta_34 | exact ta_36 | exact ta_38 | exact ta_68 | exact ta_70 | exact ta_72 | exact ta_74 | exact ta_76 | exact ta_78 | exact ta_82 | exact ta_85) ?_) | (with_reducible refine tmK (by first | exact ta_27 | exact ta_30 | exact ta_32 | exact ta_34 | exact ta_36 | exact ta_38 | exact ta_68 | exact ta_70 | exact ta_72 | exact ta_74 | exact ta_76 | exact ta_78 | exact ta_82 | exact ta_85) (by decide) fun _ => ?_))); simp only [pickD_iff, ifD_true, ifD_false, Bool.false_eq_true, reduceIte]; first | exact ⟨rfl, rfl⟩ | exact ⟨trivial, rfl⟩ | exact ⟨trivial, trivial⟩ | exact ⟨rfl, trivial⟩)
set_option maxHeartbeats 1000000 in
theorem leaves_ok {g : GNode} {v : Value} {w : World} (h : NodeIs w v g) : callD Try.prog 19 #[v] w fun r w' => r = .bool g.leavesB ∧ w' = w := by
  have h0 := h
  obtain ⟨sv, rfl, hs⟩ := h
  apply F19_wp
  unfold F19_den
  have hp := pure_ok h0
  cases g <;> (dsimp only [GNode.val] at hp ⊢; (repeat (first | (with_reducible refine thK (by first | exact ta_27 | exact ta_30 | exact ta_32 | exact ta_34 | exact ta_36 | exact ta_38 | exact ta_68 | exact ta_70 | exact ta_72 | exact ta_74 | exact ta_76 | exact ta_78 | exact ta_82 | exact ta_85) ?_) | (with_reducible refine tmK (by first | exact ta_27 | exact ta_30 | exact ta_32 | exact ta_34 | exact ta_36 | exact ta_38 | exact ta_68 | exact ta_70 | exact ta_72 | exact ta_74 | exact ta_76 | exact ta_78 | exact ta_82 | exact ta_85) (by decide) fun _ => ?_))); simp only [pickD_iff, ifD_true, ifD_false, Bool.false_eq_true, reduceIte]; first | exact ⟨rfl, rfl⟩ | exact ⟨trivial, rfl⟩ | exact ⟨trivial, trivial⟩ | exact ⟨rfl, trivial⟩ | exact hp)
end Go.Proofs.Ytendijaeihljeaa

namespace Go.Proofs.Ytendijaeihljeaa
open Go.Vc
/-- The rules, in the world: the box, the rows of what meets, the row of what must stand in slots. -/
structure Ru (w0 w : World) (ub g0 sg : Nat) (ov : Value) (gs : List Nat) (R : Nat) (m : Mx) (sb : List Bool) : Prop where
  x : Ext w0 w
  u : Blk w ub [.slice (some ⟨g0, 0, none⟩) R R, .slice (some ⟨sg, 0, none⟩) R R, ov] 49
  out : Blk w g0 (gs.map (sl R)) 47
  slot : Blk w sg (sb.map Value.bool) 4
  rows : ∀ (k g : Nat), gs[k]? = some g → Blk w g ((rowL m k R).map Value.bool) 4
  lo : w0.heap.size ≤ ub ∧ w0.heap.size ≤ g0 ∧ w0.heap.size ≤ sg ∧ ∀ g ∈ gs, w0.heap.size ≤ g
  ne : ub ≠ g0 ∧ ub ≠ sg ∧ g0 ≠ sg ∧ ∀ g ∈ gs, g ≠ ub ∧ g ≠ g0 ∧ g ≠ sg
  nd : gs.Nodup
theorem Ru.ext {w0 w w' : World} {ub g0 sg R : Nat} {ov : Value} {gs : List Nat} {m : Mx} {sb : List Bool} (h : Ru w0 w ub g0 sg ov gs R m sb) (hx : Ext w w') : Ru w0 w' ub g0 sg ov gs R m sb :=
  ⟨h.x.trans hx, h.u.ext hx, h.out.ext hx, h.slot.ext hx, fun k g hk => (h.rows k g hk).ext hx, h.lo, h.ne, h.nd⟩
theorem Ru.setRow {w0 w : World} {ub g0 sg R : Nat} {ov : Value} {gs : List Nat} {m : Mx} {sb : List Bool} (h : Ru w0 w ub g0 sg ov gs R m sb) {k g : Nat} (hk : gs[k]? = some g) (r : Nat) (v : Bool) :
    Ru w0 (w.setCell ⟨g, r, none⟩ (.bool v)) ub g0 sg ov gs R (updM m k r v) sb := by
  have hgm := List.mem_of_getElem? hk
  obtain ⟨n1, n2, n3⟩ := h.ne.2.2.2 g hgm
  refine ⟨h.x.setCell (h.lo.2.2.2 g hgm) _, h.u.other (Ne.symm n1), h.out.other (Ne.symm n2), h.slot.other (Ne.symm n3), fun k' g' hk' => ?_, h.lo, h.ne, h.nd⟩
  by_cases he : k' = k
  · subst he
    rw [hk] at hk'
    cases hk'
    rw [rowL_upd, ← map_set_b]
    exact (h.rows _ _ hk).set r _
  · rw [rowL_other he]
    exact (h.rows k' g' hk').other fun hgg => he (nd_inj h.nd hk' (hgg ▸ hk))
theorem Ru.setSlot {w0 w : World} {ub g0 sg R : Nat} {ov : Value} {gs : List Nat} {m : Mx} {sb : List Bool} (h : Ru w0 w ub g0 sg ov gs R m sb) (r : Nat) (v : Bool) :
    Ru w0 (w.setCell ⟨sg, r, none⟩ (.bool v)) ub g0 sg ov gs R m (sb.set r v) := by
  refine ⟨h.x.setCell h.lo.2.2.1 _, h.u.other h.ne.2.1, h.out.other h.ne.2.2.1, ?_, fun k' g' hk' => (h.rows k' g' hk').other ((h.ne.2.2.2 g' (List.mem_of_getElem? hk')).2.2), h.lo, h.ne, h.nd⟩
  rw [← map_set_b]
  exact h.slot.set r _
end Go.Proofs.Ytendijaeihljeaa

namespace Go.Vc
/-- All but some blocks stay. -/
structure Fr (S : Nat → Prop) (w w' : World) : Prop where
  os : w'.os = w.os
  tape : w'.tape = w.tape
  output : w'.output = w.output
  size : w.heap.size ≤ w'.heap.size
  block : ∀ i, i < w.heap.size → ¬ S i → w'.heap[i]? = w.heap[i]?
theorem Fr.refl (S : Nat → Prop) (w : World) : Fr S w w := ⟨rfl, rfl, rfl, Nat.le_refl _, fun _ _ _ => rfl⟩
theorem Fr.trans {S T : Nat → Prop} {a b c : World} (h : Fr S a b) (k : Fr T b c) (hT : ∀ i, i < a.heap.size → T i → S i) : Fr S a c :=
  ⟨k.os.trans h.os, k.tape.trans h.tape, k.output.trans h.output, Nat.le_trans h.size k.size, fun i hi hn => (k.block i (Nat.lt_of_lt_of_le hi h.size) fun ht => hn (hT i hi ht)).trans (h.block i hi hn)⟩
theorem Fr.or {S T : Nat → Prop} {a b c : World} (h : Fr S a b) (k : Fr T b c) : Fr (fun i => S i ∨ T i) a c :=
  ⟨k.os.trans h.os, k.tape.trans h.tape, k.output.trans h.output, Nat.le_trans h.size k.size, fun i hi hn => (k.block i (Nat.lt_of_lt_of_le hi h.size) fun ht => hn (.inr ht)).trans (h.block i hi fun hs => hn (.inl hs))⟩
theorem Fr.mono {S T : Nat → Prop} {a b : World} (h : Fr S a b) (hT : ∀ i, S i → T i) : Fr T a b := ⟨h.os, h.tape, h.output, h.size, fun i hi hn => h.block i hi fun hs => hn (hT i hs)⟩
theorem Fr.of_ext {S : Nat → Prop} {w w' : World} (h : Ext w w') : Fr S w w' := ⟨h.os, h.tape, h.output, h.size, fun i hi _ => h.block i hi (by simp)⟩
theorem Fr.of_grown {S : Nat → Prop} {w w' : World} {row : Option Nat} (h : w.grownBy w' row) (hr : ∀ k, row = some k → S k) : Fr S w w' := ⟨h.os, h.tape, h.output, h.size, fun i hi hn => h.block i hi fun he => hn (hr i he.symm)⟩
theorem Fr.of_set {S : Nat → Prop} {w : World} {b o : Nat} {v : Value} (hb : S b) : Fr S w (w.setCell ⟨b, o, none⟩ v) := ⟨rfl, rfl, rfl, by simp, fun i _ hn => heap_setCell_other _ _ _ _ (fun he => hn (by simp [he]; exact hb))⟩
theorem Fr.set {S : Nat → Prop} {w w' : World} (h : Fr S w w') {b o : Nat} {v : Value} (hb : S b) : Fr S w (w'.setCell ⟨b, o, none⟩ v) := h.trans (Fr.of_set (S := S) hb) fun _ _ h => h
theorem Fr.ext {S : Nat → Prop} {w0 w w' : World} (h : Fr S w w') (hx : Ext w0 w) (hS : ∀ i, S i → w0.heap.size ≤ i) : Ext w0 w' :=
  ⟨h.os.trans hx.os, h.tape.trans hx.tape, h.output.trans hx.output, Nat.le_trans hx.size h.size, fun i hi hn => (h.block i (Nat.lt_of_lt_of_le hi hx.size) fun hs => by have := hS i hs; omega).trans (hx.block i hi hn)⟩
theorem Fr.blk {S : Nat → Prop} {w w' : World} {g : Nat} {cs : List Value} {e : TypeId} (h : Fr S w w') (hb : Blk w g cs e) (hn : ¬ S g) : Blk w' g cs e := by
  unfold Blk
  rw [h.block g hb.lt hn]; exact hb
theorem Fr.own {S : Nat → Prop} {w w' : World} {B e sz n : Nat} {v : Value} {xs : List Value} (h : Fr S w w') (ho : w.ownsRow B e sz v n xs) (hn : ∀ k, v.ownBlock = some k → ¬ S k) : w'.ownsRow B e sz v n xs := by
  refine ⟨ho.1, ?_⟩
  rcases ho.2 with h1 | ⟨g, cap, cur, rfl, hb, hg, rest⟩
  · exact .inl h1
  · refine .inr ⟨g, cap, cur, rfl, hb, ?_, rest⟩
    rw [h.block g (Array.getElem?_eq_some_iff.1 hg).1 (hn g rfl)]
    exact hg
/-- An append onto what the call owns, and where it lies. -/
theorem apL {P : Program} {w : World} {K : Value → World → Prop} {t e by_ ty : Nat} (h : XE P t e by_) {B B' : Nat} {v : Value} {n : Nat} {xs : List Value} (ho : w.ownsRow B e 1 v n xs) {x : Value} {m : Nat} {news : List Value} (hs : w.ownsRow B' e 1 x m news) (hm : 0 < m) (h1 : news.all oneC = true)
    (hb : (n + m) * by_ ≤ 140737488355328) (h63 : n + m ≤ maxLen) (hB : B ≤ w.heap.size)
    (hk : ∀ g cap w', w'.ownsRow B e 1 (.slice (some ⟨g, 0, none⟩) (n + m) cap) (n + m) (xs ++ news) → w.grownBy w' v.ownBlock → (v.ownBlock = some g ∨ g = w.heap.size) → K (.slice (some ⟨g, 0, none⟩) (n + m) cap) w') :
    V P (Builtin.append_ #[t, t] ty #[v, x]) w K := by
  obtain ⟨z, ht, hi, hz⟩ := h
  obtain ⟨i, hi', hz', hn, hby⟩ := info_parts hi
  have hs0 := hs
  rcases hs.2 with ⟨_, h0⟩ | ⟨b, cap, cur, rfl, _⟩
  · omega
  · obtain ⟨g, cap, w', hr, h2, h3, h4, h5⟩ := run_append_lies (P := P) (w := w) t ty B e i z 1 by_ ht hi' hz' hn hby (by simpa using hz) (by omega) v n xs ho ⟨b, 0, none⟩ m cap news (by have := hs.1; simpa using this) (hs0.cells rfl) (fun u hu => by rw [oneC_eq]; exact List.all_eq_true.1 h1 u hu) hm h63 hb hB _ rfl
    exact V.ok hr (hk g cap w' h2 h3 h4)
end Go.Vc
namespace Go.Proofs.Ytendijaeihljeaa
open Go.Vc
set_option maxHeartbeats 1600000 in
theorem all_ok {w0 w : World} {ub g0 sg R B : Nat} {ov lv : Value} {gs : List Nat} {m : Mx} {sb l : List Bool} (hR : R ≤ 40) (hgl : gs.length = R) (hl : l.length = R) (hu : Ru w0 w ub g0 sg ov gs R m sb)
    (ha : w.ownsRow B 4 1 lv R (l.map Value.bool)) (hgB : ∀ k, lv.ownBlock = some k → ¬ k ∈ gs) :
    callD Try.prog 15 #[.pointer (some ⟨ub, 0, none⟩), lv] w fun r w' => (∃ m', Ru w0 w' ub g0 sg ov gs R m' sb ∧ ∀ a b, a < R → b < R → (m' a b = true ↔ m a b = true ∨ (a ≠ b ∧ l[a]? = some true ∧ l[b]? = some true))) ∧ Fr (fun i => i ∈ gs) w w' := by
  apply F15_wp
  unfold F15_den
  refine lnx (by first | exact xa_22 | exact xa_23 | exact xa_46 | exact xa_47) (SliceIs.of_own ha) ?_
  refine ⟨fun v w' => ∃ (i : Nat) (m1 : Mx), v = i64 i ∧ i ≤ R ∧ Ru w0 w' ub g0 sg ov gs R m1 sb ∧ Fr (fun i => i ∈ gs) w w' ∧ ∀ a b, a < R → b < R → (m1 a b = true ↔ m a b = true ∨ (a < i ∧ a ≠ b ∧ l[a]? = some true ∧ l[b]? = some true)), fun v _ => R - (RowKit.intOf v).toNat,
    ⟨0, m, rfl, Nat.zero_le _, hu, Fr.refl _ _, fun a b _ _ => by simp⟩, ?_⟩
  rintro _ w1 ⟨i, m1, rfl, hi, hu1, hk1, hm1⟩ _
  refine V_lss.2 (ifD_dec (fun hlt => ?_) fun hge => ?_)
  · have hi' : i < R := by omega
    have ha1 := hk1.own ha hgB
    obtain ⟨p, hp⟩ := ex_get (l := l) (j := i) (by omega)
    obtain ⟨g, hg⟩ := ex_get (l := gs) (j := i) (by omega)
    refine ldO' xa_47 l1_4 ha1 (by omega) (by omega) (getB hp) ?_
    refine lnx (by first | exact xa_22 | exact xa_23 | exact xa_46 | exact xa_47) (SliceIs.of_own ha1) ?_
    refine ⟨fun v w' => ∃ (j : Nat) (m2 : Mx), v = i64 j ∧ j ≤ R ∧ Ru w0 w' ub g0 sg ov gs R m2 sb ∧ Fr (fun i => i ∈ gs) w w' ∧ ∀ a b, a < R → b < R → (m2 a b = true ↔ m1 a b = true ∨ (a = i ∧ b < j ∧ a ≠ b ∧ l[a]? = some true ∧ l[b]? = some true)), fun v _ => R - (RowKit.intOf v).toNat,
      ⟨0, m1, rfl, Nat.zero_le _, hu1, hk1, fun a b _ _ => by simp⟩, ?_⟩
    rintro _ w2 ⟨j, m2, rfl, hj, hu2, hk2, hm2⟩ _
    refine V_lss.2 (ifD_dec (fun hjl => ?_) fun hjg => ?_)
    · have hj' : j < R := by omega
      have ha2 := hk2.own ha hgB
      obtain ⟨q, hq⟩ := ex_get (l := l) (j := j) (by omega)
      refine ldO' xa_47 l1_4 ha2 (by omega) (by omega) (getB hq) ?_
      have stay : ¬ (i ≠ j ∧ l[i]? = some true ∧ l[j]? = some true) → V Try.prog (binOp .add 3 (i64 j) (Value.int IntKind.i64 1)) w2 fun t40 w24 => (∃ (j : Nat) (m2 : Mx), t40 = i64 j ∧ j ≤ R ∧ Ru w0 w24 ub g0 sg ov gs R m2 sb ∧ Fr (fun i => i ∈ gs) w w24 ∧ ∀ a b, a < R → b < R → (m2 a b = true ↔ m1 a b = true ∨ (a = i ∧ b < j ∧ a ≠ b ∧ l[a]? = some true ∧ l[b]? = some true))) ∧ R - (RowKit.intOf t40).toNat < R - (RowKit.intOf (i64 (j : Int))).toNat := by
        intro hn
        refine V_add.2 ?_
        rw [wrap_id (by omega) (by omega), i64_succ]
        refine ⟨⟨j + 1, m2, rfl, by omega, hu2, hk2, fun a b h1 h2 => ?_⟩, by simp only [intOf_i64]; omega⟩
        rw [hm2 a b h1 h2]
        constructor
        · rintro (h | ⟨h3, h4, h5⟩)
          · exact .inl h
          · exact .inr ⟨h3, by omega, h5⟩
        · rintro (h | ⟨h3, h4, h5⟩)
          · exact .inl h
          · by_cases hbj : b = j
            · subst h3 hbj; exact absurd h5 hn
            · exact .inr ⟨h3, by omega, h5⟩
      cases p with
      | false =>
        simp only [gd_ft, pickD_iff, Bool.false_eq_true, reduceIte, ifD_false]
        exact stay fun h => by rw [hp] at h; cases h.2.1
      | true =>
        simp only [gd_t, pickD_iff, reduceIte]
        cases q with
        | false =>
          simp only [gd_ft, Bool.false_eq_true, reduceIte, ifD_false]
          exact stay fun h => by rw [hq] at h; cases h.2.2
        | true =>
          simp only [gd_t, reduceIte]
          refine V_neqI.2 ?_
          try simp only [pickD_iff, reduceIte]
          refine ifD_dec (fun hne => ?_) fun heq => ?_
          · refine ⟨.inl ⟨_, rfl⟩, ?_⟩
            refine ldB hu2.u.boxed (by first | exact fa_25_0 | exact fa_25_1 | exact fa_25_2 | exact fa_27_0 | exact fa_30_0 | exact fa_30_1 | exact fa_30_2 | exact fa_34_0 | exact fa_34_1 | exact fa_36_0 | exact fa_36_1 | exact fa_36_2 | exact fa_36_3 | exact fa_38_0 | exact fa_40_0 | exact fa_40_1 | exact fa_49_0 | exact fa_49_1 | exact fa_49_2 | exact fa_68_0 | exact fa_68_1 | exact fa_68_2 | exact fa_68_3 | exact fa_70_0 | exact fa_70_1 | exact fa_72_0 | exact fa_72_3 | exact fa_72_4 | exact fa_74_0 | exact fa_74_1 | exact fa_74_2 | exact fa_76_0 | exact fa_76_1 | exact fa_76_2 | exact fa_78_0 | exact fa_78_1 | exact fa_82_0 | exact fa_82_1 | exact fa_85_0) (by first | exact l1_22 | exact l1_23 | exact l1_3 | exact l1_4 | exact l1_46 | exact l1_47 | exact l1_54) rfl ?_
            refine ldx xa_46 l1_47 (hu2.out.slice (n := R) (by simpa using hgl) (by unfold maxLen; omega)) (by omega) (by omega) (by simp [hg] : (gs.map (sl R))[((i : Nat) : Int).toNat]? = some (sl R g)) ?_
            refine stB xa_47 inf4 (hu2.rows i g hg) (by simp [rowL_len]) (by omega) (by omega) rfl ?_
            refine V_add.2 ?_
            rw [wrap_id (by omega) (by omega), i64_succ]
            have hij : i ≠ j := fun h => hne (by rw [h])
            refine ⟨⟨j + 1, updM m2 i j true, rfl, by omega, hu2.setRow hg j true, hk2.set (List.mem_of_getElem? hg), fun a b h1 h2 => ?_⟩, by simp only [intOf_i64]; omega⟩
            have hm := hm2 a b h1 h2
            by_cases hab : a = i ∧ b = j
            · obtain ⟨rfl, rfl⟩ := hab
              simp [updM, hp, hq, hij]
            · have : updM m2 i j true a b = m2 a b := by unfold updM; rw [if_neg hab]
              rw [this, hm]
              constructor
              · rintro (h | ⟨h3, h4, h5⟩)
                · exact .inl h
                · exact .inr ⟨h3, by omega, h5⟩
              · rintro (h | ⟨h3, h4, h5⟩)
                · exact .inl h
                · exact .inr ⟨h3, by have : b ≠ j := fun h => hab ⟨h3, h⟩; omega, h5⟩
          · exact stay fun h => h.1 (by have : (i : Int) = j := by simpa using heq
                                        omega)
    · have hjR : j = R := by omega
      subst hjR
      refine V_add.2 ?_
      rw [wrap_id (by omega) (by omega), i64_succ]
      refine ⟨⟨i + 1, m2, rfl, by omega, hu2, hk2, fun a b h1 h2 => ?_⟩, by simp only [intOf_i64]; omega⟩
      rw [hm2 a b h1 h2, hm1 a b h1 h2]
      constructor
      · rintro ((h | ⟨h3, h4⟩) | ⟨h3, _, h5⟩)
        · exact .inl h
        · exact .inr ⟨by omega, h4⟩
        · exact .inr ⟨by omega, h5⟩
      · rintro (h | ⟨h3, h4⟩)
        · exact .inl (.inl h)
        · by_cases hai : a = i
          · exact .inr ⟨hai, h2, h4⟩
          · exact .inl (.inr ⟨by omega, h4⟩)
  · have hiR : i = R := by omega
    subst hiR
    refine ⟨⟨m1, hu1, fun a b h1 h2 => ?_⟩, hk1⟩
    rw [hm1 a b h1 h2]
    simp [h1]
end Go.Proofs.Ytendijaeihljeaa

namespace Go.Proofs.Ytendijaeihljeaa
open Go.Vc
def Valid (x slots : Int) : Prop := x = 5 ∨ x = 6 ∨ (16 ≤ x ∧ x < 16 + slots)
def SetK (p : GProg) (k r : Nat) : Prop := Alive p k r ∨ (r : Int) = (p.at' k).df
def SetS (p : GProg) (r : Nat) : Prop := AheadP p (Alive p) 0 r ∨ (r : Int) < p.params
def ApartS (S : Nat → Prop) (R : Nat) (of : List Int) : Prop := ∀ (r s : Nat), s < r → r < R → S r → S s → of[r]? ≠ of[s]?
/-- Places that may be. -/
structure Good (p : GProg) (R : Nat) (of : List Int) (slots : Int) : Prop where
  len : of.length = R
  s0 : 0 ≤ slots
  s1 : slots ≤ 40
  val : ∀ (r : Nat) (x : Int), of[r]? = some x → Valid x slots
  sets : ∀ k, k < p.nodes.length → ApartS (SetK p k) R of
  slot : ∀ k, k < p.nodes.length → (p.at' k).leavesB = false → ∀ (r : Nat) (x : Int), Alive p k r → (r : Int) ≠ (p.at' k).df → of[r]? = some x → 16 ≤ x
  start : ApartS (SetS p) R of


theorem withL_set {p : GProg} {R k : Nat} {m : Mx} (hm : ∀ r, r < R → (m k r = true ↔ Alive p k r)) (hd : (p.at' k).df < R) : ∀ r, r < R → ((withL (rowL m k R) (p.at' k).df)[r]? = some true ↔ SetK p k r) := by
  intro r hr
  unfold withL SetK
  split
  · rename_i h0
    by_cases he : (p.at' k).df.toNat = r
    · rw [he, List.getElem?_set_self (by rw [rowL_len]; exact hr)]
      simp
      right; omega
    · rw [List.getElem?_set_ne he, rowL_get hr]
      simp only [Option.some.injEq]
      rw [hm r hr]
      constructor
      · exact .inl
      · rintro (h | h)
        · exact h
        · omega
  · rename_i h0
    rw [rowL_get hr]
    simp only [Option.some.injEq]
    rw [hm r hr]
    constructor
    · exact .inl
    · rintro (h | h)
      · exact h
      · omega
end Go.Proofs.Ytendijaeihljeaa

namespace Go.Vc
theorem fnK {P : Program} {w : World} {K : Value → World → Prop} {f : Fn} {a c : Array Value} (h : K (.func f a c) w) : V P (Instr.makeFunc f a c) w K := V.ok (by simp [Instr.makeFunc]) h
/-- A whole block of one cell is read. -/
theorem ldV {P : Program} {w : World} {K : Value → World → Prop} {t b : Nat} {v : Value} {e : TypeId} (hl : L1 P t) (hb : Blk w b [v] e) (hk : K v w) : V P (Instr.loadAt t (.pointer (some ⟨b, 0, none⟩))) w K := by
  obtain ⟨d, hd, ha⟩ := hl
  exact V.ok (r_load hd ha (by rw [hb.cell]; rfl)) hk
/-- A field of a block is stored. -/
theorem stF {P : Program} {w : World} {K : World → Prop} {s f o ft b n by_ : Nat} {z u : Value} {cs : List Value} {e : TypeId} (hf : FA P s f o) (hi : Inf P ft z 1 by_) (hb : Blk w b cs e) (hn : cs.length = n) (ho : o < n) (hu : oneC u = true) (hk : K (w.setCell ⟨b, o, none⟩ u)) :
    V P (Instr.fieldAt s (.pointer (some ⟨b, 0, none⟩)) f) w fun q w1 => U P (Instr.storeAt ft q u) w1 fun _ w2 => K w2 := by
  refine V.ok (hf.ex w b 0) ?_
  have hc := hb.cell o
  rw [List.getElem?_eq_getElem (by omega)] at hc
  rw [Nat.zero_add]
  exact U.ok (r_store hi hu hc (hb.frozen _)) hk
end Go.Vc
namespace Go.Proofs.Ytendijaeihljeaa
open Go.Vc
/-- A register comes into the order, once. -/
def addO (o : List Int) (r : Int) : List Int := if 0 ≤ r ∧ r ∉ o then o ++ [r] else o
def addAll (o l : List Int) : List Int := l.foldl addO o
theorem addAll_snoc (o l : List Int) (r : Int) : addAll o (l ++ [r]) = addO (addAll o l) r := by simp [addAll]
theorem addO_len (o : List Int) (r : Int) : (addO o r).length ≤ o.length + 1 := by unfold addO; split <;> simp
theorem addAll_len (o l : List Int) : (addAll o l).length ≤ o.length + l.length := by
  induction l generalizing o with
  | nil => simp [addAll]
  | cons a l ih =>
    have := ih (addO o a)
    have h1 := addO_len o a
    simp only [addAll, List.foldl_cons, List.length_cons] at this ⊢
    omega
def seenL (R : Nat) (o : List Int) : List Bool := (List.range R).map fun r => decide (((r : Nat) : Int) ∈ o)
theorem seenL_len (R : Nat) (o : List Int) : (seenL R o).length = R := by simp [seenL]
theorem seenL_get {R r : Nat} {o : List Int} (h : r < R) : (seenL R o)[r]? = some (decide ((r : Int) ∈ o)) := by simp [seenL, h]
theorem seenL_add {R r : Nat} {o : List Int} (h : r < R) (hn : (r : Int) ∉ o) : (seenL R o).set r true = seenL R (addO o r) := by
  apply List.ext_getElem?
  intro j
  by_cases hj : j < R
  · rw [seenL_get hj]
    by_cases hr : r = j
    · subst hr
      rw [List.getElem?_set_self (by rw [seenL_len]; exact h)]
      simp [addO, hn]
    · rw [List.getElem?_set_ne hr, seenL_get hj]
      have : ((j : Int) ∈ addO o r) ↔ (j : Int) ∈ o := by
        unfold addO
        rw [if_pos ⟨by omega, hn⟩]
        simp
        omega
      simp only [this]
  · rw [List.getElem?_eq_none (by simp [seenL_len]; omega), List.getElem?_eq_none (by rw [seenL_len]; omega)]
theorem seenL_nil (R : Nat) : (seenL R []).map Value.bool = List.replicate R (.bool false) := by
  apply List.ext_getElem?
  intro j
  by_cases hj : j < R
  · simp [seenL, hj]
  · rw [List.getElem?_eq_none (by simp [seenL_len]; omega), List.getElem?_eq_none (by simp; omega)]
/-- Where all lies. -/
structure RC where
  ub : Nat
  g0 : Nat
  sg : Nat
  sx : Nat
  sn : Nat
  R : Nat
  L : Nat
  B : Nat
  gs : List Nat
/-- The blocks that the rules are made in. -/
def Mu (c : RC) (ov : Value) (i : Nat) : Prop := i = c.ub ∨ i = c.g0 ∨ i = c.sg ∨ i = c.sx ∨ i = c.sn ∨ i ∈ c.gs ∨ ov.ownBlock = some i
structure Rx (w0 w : World) (c : RC) (ov : Value) (m : Mx) (sb : List Bool) (ord : List Int) : Prop where
  ru : Ru w0 w c.ub c.g0 c.sg ov c.gs c.R m sb
  box : Blk w c.sx [sl c.R c.sn] 47
  seen : Blk w c.sn ((seenL c.R ord).map Value.bool) 4
  ov : w.ownsRow c.B 3 1 ov ord.length (ord.map i64)
  lim : c.ub < c.L ∧ c.g0 < c.L ∧ c.sg < c.L ∧ ∀ g ∈ c.gs, g < c.L
  ord' : w0.heap.size ≤ c.L ∧ c.L ≤ c.sn ∧ c.sn < c.sx ∧ c.sx < c.B ∧ c.B ≤ w.heap.size
/-- The rules' blocks alone have turned. -/
structure Mv (c : RC) (ov : Value) (w : World) (ov' : Value) (w' : World) : Prop where
  fr : Fr (Mu c ov) w w'
  own : ∀ k, ov'.ownBlock = some k → ov.ownBlock = some k ∨ w.heap.size ≤ k
theorem Mv.refl (c : RC) (ov : Value) (w : World) : Mv c ov w ov w := ⟨Fr.refl _ _, fun _ h => .inl h⟩
theorem Mv.trans {c : RC} {a b d : Value} {w1 w2 w3 : World} (h : Mv c a w1 b w2) (k : Mv c b w2 d w3) : Mv c a w1 d w3 := by
  refine ⟨h.fr.trans k.fr fun i hi hm => ?_, fun i hi => ?_⟩
  · unfold Mu at hm ⊢
    rcases hm with h1 | h1 | h1 | h1 | h1 | h1 | h1
    all_goals try (simp only [h1, true_or, or_true]; done)
    rcases h.own i h1 with h2 | h2
    · simp only [h2, or_true]
    · omega
  · rcases k.own i hi with h1 | h1
    · exact h.own i h1
    · exact .inr (Nat.le_trans h.fr.size h1)
theorem Mv.of_ext {c : RC} {ov : Value} {w w' : World} (h : Ext w w') : Mv c ov w ov w' := ⟨Fr.of_ext h, fun _ h => .inl h⟩
/-- What is none of the rules' blocks, and was there, is none of them later. -/
theorem Mv.far {c : RC} {a b : Value} {w w' : World} (h : Mv c a w b w') {i : Nat} (hi : i < w.heap.size) (hn : ¬ Mu c a i) : ¬ Mu c b i := by
  intro hm
  refine hn ?_
  unfold Mu at hm ⊢
  rcases hm with h1 | h1 | h1 | h1 | h1 | h1 | h1
  all_goals try (simp only [h1, true_or, or_true]; done)
  rcases h.own i h1 with h2 | h2
  · simp only [h2, or_true]
  · omega
theorem Rx.lo {w0 w : World} {c : RC} {ov : Value} {m : Mx} {sb : List Bool} {ord : List Int} (h : Rx w0 w c ov m sb ord) : ∀ i, Mu c ov i → w0.heap.size ≤ i := by
  have h1 := h.ord'
  have h2 := h.ru.lo
  intro i hm
  unfold Mu at hm
  rcases hm with rfl | rfl | rfl | rfl | rfl | hm | hm
  · exact h2.1
  · exact h2.2.1
  · exact h2.2.2.1
  · omega
  · omega
  · exact h2.2.2.2 i hm
  · have := (h.ov.lt i hm).1
    omega
theorem Rx.hi {w0 w : World} {c : RC} {ov : Value} {m : Mx} {sb : List Bool} {ord : List Int} (h : Rx w0 w c ov m sb ord) : ∀ i, Mu c ov i → i < w.heap.size := by
  have h1 := h.ord'
  have h2 := h.lim
  intro i hm
  unfold Mu at hm
  rcases hm with rfl | rfl | rfl | rfl | rfl | hm | hm
  · omega
  · omega
  · omega
  · omega
  · omega
  · have := h2.2.2.2 i hm; omega
  · exact (h.ov.lt i hm).2
/-- The rules stay where none of their blocks is turned. -/
theorem Rx.fr {w0 w w' : World} {c : RC} {ov : Value} {m : Mx} {sb : List Bool} {ord : List Int} (h : Rx w0 w c ov m sb ord) {S : Nat → Prop} (hf : Fr S w w') (hS : ∀ i, Mu c ov i → ¬ S i) (hx : Ext w0 w') : Rx w0 w' c ov m sb ord := by
  have m1 : ∀ {i}, Mu c ov i → ¬ S i := fun h => hS _ h
  refine ⟨⟨hx, hf.blk h.ru.u (m1 (.inl rfl)), hf.blk h.ru.out (m1 (.inr (.inl rfl))), hf.blk h.ru.slot (m1 (.inr (.inr (.inl rfl)))), fun k g hk => hf.blk (h.ru.rows k g hk) (m1 (.inr (.inr (.inr (.inr (.inr (.inl (List.mem_of_getElem? hk)))))))), h.ru.lo, h.ru.ne, h.ru.nd⟩,
    hf.blk h.box (m1 (.inr (.inr (.inr (.inl rfl))))), hf.blk h.seen (m1 (.inr (.inr (.inr (.inr (.inl rfl)))))), hf.own h.ov fun k hk => m1 (.inr (.inr (.inr (.inr (.inr (.inr hk)))))), h.lim, ?_⟩
  have := h.ord'
  have := hf.size
  omega
theorem Rx.ext {w0 w w' : World} {c : RC} {ov : Value} {m : Mx} {sb : List Bool} {ord : List Int} (h : Rx w0 w c ov m sb ord) (hx : Ext w w') : Rx w0 w' c ov m sb ord :=
  h.fr (S := fun _ => False) (Fr.of_ext hx) (fun _ _ h => h) (h.ru.x.trans hx)
set_option maxHeartbeats 1600000 in
theorem add_ok {w0 w : World} {c : RC} {ov : Value} {m : Mx} {sb : List Bool} {ord : List Int} {r : Int} (h : Rx w0 w c ov m sb ord) (hr : r < c.R) (hR : c.R ≤ 40) (hl : ord.length ≤ 1000) :
    dynD Try.prog (.func (.func 14) #[] #[.pointer (some ⟨c.sx, 0, none⟩), .pointer (some ⟨c.ub, 0, none⟩)]) #[i64 r] w fun _ w' => ∃ ov', Rx w0 w' c ov' m sb (addO ord r) ∧ Mv c ov w ov' w' := by
  refine ⟨_, _, rfl, ?_⟩
  refine F14_wp (t0 := i64 r) (t1 := .pointer (some ⟨c.sx, 0, none⟩)) (t2 := .pointer (some ⟨c.ub, 0, none⟩)) ?_
  unfold F14_den
  have stay : addO ord r = ord → ∃ ov', Rx w0 w c ov' m sb (addO ord r) ∧ Mv c ov w ov' w := fun he => ⟨ov, by rw [he]; exact h, Mv.refl _ _ _⟩
  have hs0 := h.seen.slice (n := c.R) (by simp [seenL_len]) (by unfold maxLen; omega)
  refine V_geq.2 ?_
  by_cases h0 : r ≥ 0
  · simp only [h0, gd_t, pickD_iff, reduceIte, decide_true]
    obtain ⟨k, rfl⟩ : ∃ k : Nat, r = k := ⟨r.toNat, by omega⟩
    have hk : k < c.R := by omega
    refine ldV (by first | exact l1_22 | exact l1_23 | exact l1_3 | exact l1_4 | exact l1_46 | exact l1_47 | exact l1_54) h.box ?_
    refine ldx xa_47 (by first | exact l1_22 | exact l1_23 | exact l1_3 | exact l1_4 | exact l1_46 | exact l1_47 | exact l1_54) hs0 (by omega) (by omega) (getB (seenL_get hk)) ?_
    by_cases hin : (k : Int) ∈ ord
    · simp only [hin, V_not, ifD_false, Bool.not_true, decide_true]
      exact stay (by simp [addO, hin])
    · simp only [hin, V_not, ifD_true, Bool.not_false, decide_false]
      refine ldV (by first | exact l1_22 | exact l1_23 | exact l1_3 | exact l1_4 | exact l1_46 | exact l1_47 | exact l1_54) h.box ?_
      refine stB xa_47 inf4 h.seen (by simp [seenL_len]) (by omega) (by omega) rfl ?_
      have hne := h.ru.ne
      have hlim := h.lim
      have hord := h.ord'
      have hlo := h.ru.lo
      have hsn : c.sn < w.heap.size := h.seen.lt
      have f1 : Fr (fun i => i = c.sn) w (w.setCell ⟨c.sn, (k : Int).toNat, none⟩ (.bool true)) := Fr.of_set rfl
      have hov1 := f1.own h.ov fun i hi => by have := (h.ov.lt i hi).1; omega
      refine ldB (f1.blk h.ru.u (by omega)).boxed (by first | exact fa_25_0 | exact fa_25_1 | exact fa_25_2 | exact fa_27_0 | exact fa_30_0 | exact fa_30_1 | exact fa_30_2 | exact fa_34_0 | exact fa_34_1 | exact fa_36_0 | exact fa_36_1 | exact fa_36_2 | exact fa_36_3 | exact fa_38_0 | exact fa_40_0 | exact fa_40_1 | exact fa_49_0 | exact fa_49_1 | exact fa_49_2 | exact fa_68_0 | exact fa_68_1 | exact fa_68_2 | exact fa_68_3 | exact fa_70_0 | exact fa_70_1 | exact fa_72_0 | exact fa_72_3 | exact fa_72_4 | exact fa_74_0 | exact fa_74_1 | exact fa_74_2 | exact fa_76_0 | exact fa_76_1 | exact fa_76_2 | exact fa_78_0 | exact fa_78_1 | exact fa_82_0 | exact fa_82_1 | exact fa_85_0) (by first | exact l1_22 | exact l1_23 | exact l1_3 | exact l1_4 | exact l1_46 | exact l1_47 | exact l1_54) rfl ?_
      refine bsl (by first | exact xe_22 | exact xe_23 | exact xe_46 | exact xe_47) [i64 (k : Int)] rfl rfl (by simp) rfl fun v2 w2 ho2 x2 => ?_
      have hov2 := x2.own hov1
      have hsz2 : w.heap.size ≤ w2.heap.size := by have := x2.size; have := f1.size; omega
      refine apL (by first | exact xe_22 | exact xe_23 | exact xe_46 | exact xe_47) hov2 ho2 (by simp) (by simp [oneC]) (by omega) (by unfold maxLen; omega) (by omega) fun g cap w3 ho3 hg3 hlies => ?_
      have f2 : Fr (fun i => i = c.sn) w w2 := f1.trans (Fr.of_ext (S := fun i => i = c.sn) x2) fun _ _ h => h
      have f3 : Fr (fun i => i = c.sn ∨ ov.ownBlock = some i) w w3 := f2.or (Fr.of_grown (S := fun i => ov.ownBlock = some i) hg3 fun k hk => hk)
      have far : ∀ i, i < c.B → ov.ownBlock ≠ some i := fun i hi he => by have := (h.ov.lt i he).1; omega
      have hu3 := f3.blk h.ru.u (fun h => h.elim (by omega) (far c.ub (by omega)))
      refine stF (by first | exact fa_25_0 | exact fa_25_1 | exact fa_25_2 | exact fa_27_0 | exact fa_30_0 | exact fa_30_1 | exact fa_30_2 | exact fa_34_0 | exact fa_34_1 | exact fa_36_0 | exact fa_36_1 | exact fa_36_2 | exact fa_36_3 | exact fa_38_0 | exact fa_40_0 | exact fa_40_1 | exact fa_49_0 | exact fa_49_1 | exact fa_49_2 | exact fa_68_0 | exact fa_68_1 | exact fa_68_2 | exact fa_68_3 | exact fa_70_0 | exact fa_70_1 | exact fa_72_0 | exact fa_72_3 | exact fa_72_4 | exact fa_74_0 | exact fa_74_1 | exact fa_74_2 | exact fa_76_0 | exact fa_76_1 | exact fa_76_2 | exact fa_78_0 | exact fa_78_1 | exact fa_82_0 | exact fa_82_1 | exact fa_85_0) inf22 hu3 rfl (by simp) rfl ?_
      have f4 : Fr (fun i => (i = c.sn ∨ ov.ownBlock = some i) ∨ i = c.ub) w (w3.setCell ⟨c.ub, 2, none⟩ (.slice (some ⟨g, 0, none⟩) (ord.length + 1) cap)) := f3.or (Fr.of_set rfl)
      have f34 : Fr (fun i => i = c.ub) w3 (w3.setCell ⟨c.ub, 2, none⟩ (.slice (some ⟨g, 0, none⟩) (ord.length + 1) cap)) := Fr.of_set rfl
      have f14 : Fr (fun i => ov.ownBlock = some i ∨ i = c.ub) (w.setCell ⟨c.sn, (k : Int).toNat, none⟩ (.bool true)) (w3.setCell ⟨c.ub, 2, none⟩ (.slice (some ⟨g, 0, none⟩) (ord.length + 1) cap)) :=
        ((Fr.of_ext (S := fun _ => False) x2).or (Fr.of_grown (S := fun i => ov.ownBlock = some i) hg3 fun k hk => hk)).or f34 |>.mono fun i hi => by
          rcases hi with (hi | hi) | hi
          · exact hi.elim
          · exact .inl hi
          · exact .inr hi
      have keep : ∀ {i}, i < c.B → i ≠ c.sn → i ≠ c.ub → ¬ ((i = c.sn ∨ ov.ownBlock = some i) ∨ i = c.ub) := fun {i} h1 h2 h3 h4 => by
        rcases h4 with (h4 | h4) | h4
        · exact h2 h4
        · exact far i h1 h4
        · exact h3 h4
      have hord' : addO ord (k : Int) = ord ++ [(k : Int)] := by simp [addO, hin]
      have hMu : Fr (Mu c ov) w (w3.setCell ⟨c.ub, 2, none⟩ (.slice (some ⟨g, 0, none⟩) (ord.length + 1) cap)) := f4.mono fun i hi => by
        unfold Mu
        rcases hi with (hi | hi) | hi <;> simp only [hi, true_or, or_true]
      refine ⟨.slice (some ⟨g, 0, none⟩) (ord.length + 1) cap, ⟨⟨hMu.ext h.ru.x h.lo, ?_, f4.blk h.ru.out (keep (by omega) (by omega) (by omega)), f4.blk h.ru.slot (keep (by omega) (by omega) (by omega)), fun q g' hq => f4.blk (h.ru.rows q g' hq) (by have := hlim.2.2.2 g' (List.mem_of_getElem? hq); have := hne.2.2.2 g' (List.mem_of_getElem? hq); exact keep (by omega) (by omega) (by omega)), h.ru.lo, h.ru.ne, h.ru.nd⟩,
        f4.blk h.box (keep (by omega) (by omega) (by omega)), ?_, ?_, hlim, by have := f4.size; omega⟩, hMu, fun i hi => ?_⟩
      · exact hu3.set 2 _
      · rw [← seenL_add hk hin, ← map_set_b]
        have := f14.blk (h.seen.set k (.bool true)) (fun h => h.elim (far c.sn (by omega)) (by omega))
        simpa using this
      · rw [hord']
        have := f34.own ho3 fun i hi hu => by have := (ho3.lt i hi).1; omega
        simpa using this
      · have : g = i := by simpa [Value.ownBlock] using hi
        subst this
        rcases hlies with h1 | h1
        · exact .inl h1
        · exact .inr (by omega)
  · simp only [h0, gd_ft, pickD_iff, ifD_false, reduceIte, Bool.false_eq_true, decide_false]
    exact stay (by simp [addO]; omega)
end Go.Proofs.Ytendijaeihljeaa

namespace Go.Vc
/-- A store into a whole block, at an address that is known. -/
theorem stBY {P : Program} {w : World} {x : TypeId} {z : Value} {by_ : Nat} (hx : Inf P x z 1 by_) {g e i : Nat} {cs : List Value} (hb : Blk w g cs e) (h1 : i < cs.length) {u : Value} (hu : oneC u = true) {K' : World → Prop}
    (hk : K' (w.setCell ⟨g, i, none⟩ u)) : U P (Instr.storeAt x (.pointer (some ⟨g, 0 + i * 1, none⟩)) u) w fun _ w2 => K' w2 := by
  have hc := hb.cell i
  rw [List.getElem?_eq_getElem h1] at hc
  simp only [Nat.zero_add, Nat.mul_one]
  exact U.ok (r_store hx hu hc (hb.frozen _)) hk
theorem dynD.mono {P : Program} {w : World} {f : Value} {args : Array Value} {R K : Value → World → Prop} (h : dynD P f args w R) (hk : ∀ v w', R v w' → K v w') : dynD P f args w K := by
  obtain ⟨g, cap, h1, h2⟩ := h
  exact ⟨g, cap, h1, h2.mono hk⟩
end Go.Vc
namespace Go.Proofs.Ytendijaeihljeaa
open Go.Vc
theorem MatIn.mv {w0 w w' : World} {v : Value} {N R : Nat} {m : Mx} {c : RC} {ov ov' : Value} (h : MatIn w0 w v N R m) (hm : Mv c ov w ov' w') (hh : ∀ i, Mu c ov i → i < w0.heap.size) : MatIn w0 w' v N R m := by
  obtain ⟨g0, gs, h1, h2, h3, h4, h5, h6⟩ := h
  refine ⟨g0, gs, h1, h2, hm.fr.blk h3 fun hi => ?_, fun k g hk => hm.fr.blk (h4 k g hk) fun hi => ?_, h5, h6⟩
  · have := hh _ hi; omega
  · have := hh _ hi; have := h6 g (List.mem_of_getElem? hk); omega
theorem Rx.setSlot {w0 w : World} {c : RC} {ov : Value} {m : Mx} {sb : List Bool} {ord : List Int} (h : Rx w0 w c ov m sb ord) (r : Nat) (v : Bool) : Rx w0 (w.setCell ⟨c.sg, r, none⟩ (.bool v)) c ov m (sb.set r v) ord := by
  have f : Fr (fun i => i = c.sg) w (w.setCell ⟨c.sg, r, none⟩ (.bool v)) := Fr.of_set rfl
  have h1 := h.ord'; have h2 := h.lim
  refine ⟨h.ru.setSlot r v, f.blk h.box (by omega), f.blk h.seen (by omega), f.own h.ov fun k hk he => ?_, h.lim, by have := f.size; omega⟩
  have := (h.ov.lt k hk).1
  omega
theorem Mv.set {c : RC} {ov ov' : Value} {w w' : World} (h : Mv c ov w ov' w') (r : Nat) (v : Value) : Mv c ov w ov' (w'.setCell ⟨c.sg, r, none⟩ v) := ⟨h.fr.set (.inr (.inr (.inl rfl))), h.own⟩
def upTo (n : Nat) : List Int := (List.range n).map fun r => ((r : Nat) : Int)
theorem upTo_succ (n : Nat) : upTo (n + 1) = upTo n ++ [((n : Nat) : Int)] := by simp [upTo, List.range_succ]
theorem upTo_len (n : Nat) : (upTo n).length = n := by simp [upTo]
set_option maxHeartbeats 1600000 in
theorem AheadO_ok {p : GProg} {R : Nat} {pv : Value} {w : World} (hp : ProgIs w pv p) (hv : OkProg p) (hR : p.regs = R) :
    callD Try.prog 13 #[pv] w fun r w' => (∃ l : List Bool, l.length = R ∧ w'.ownsRow w.heap.size 4 1 r R (l.map .bool) ∧ ∀ r < R, (l[r]? = some true ↔ AheadP p (Alive p) 0 r)) ∧ Ext w w' := by
  have hp0 := hp
  obtain ⟨ns, rfl, hns, hargs⟩ := hp
  have hns0 := hns
  obtain ⟨vs, hs, hvs⟩ := hns
  have hl1 := hv.l1; have hl2 := hv.l2; have hr1 := hv.r1; have hr2 := hv.r2
  obtain ⟨hpt, hrt⟩ := hv.at (k := 0) (by omega)
  obtain ⟨u, hu, hnu⟩ := hvs 0 _ hpt
  apply F13_wp
  unfold F13_den
  refine bx fun b w1 hb x1 => ?_
  refine ldA hb la_25 rfl ?_
  refine (check_ok (p := p) (hp0.ext x1) hv).mono fun r w2 ⟨hr, x2⟩ => ?_
  subst hr
  refine V_not.2 (ifD_false.2 ?_)
  have hb2 := hb.ext x2
  have X2 := x1.trans x2
  refine drawD.mk' (fun w' => Ext w2 w') (Ext.refl _).drew ?_
  refine yfB (fun w' hw => hb2.ext hw) (by first | exact fa_25_0 | exact fa_25_1 | exact fa_25_2 | exact fa_27_0 | exact fa_30_0 | exact fa_30_1 | exact fa_30_2 | exact fa_34_0 | exact fa_34_1 | exact fa_36_0 | exact fa_36_1 | exact fa_36_2 | exact fa_36_3 | exact fa_38_0 | exact fa_40_0 | exact fa_40_1 | exact fa_49_0 | exact fa_49_1 | exact fa_49_2 | exact fa_68_0 | exact fa_68_1 | exact fa_68_2 | exact fa_68_3 | exact fa_70_0 | exact fa_70_1 | exact fa_72_0 | exact fa_72_3 | exact fa_72_4 | exact fa_74_0 | exact fa_74_1 | exact fa_74_2 | exact fa_76_0 | exact fa_76_1 | exact fa_76_2 | exact fa_78_0 | exact fa_78_1 | exact fa_82_0 | exact fa_82_1 | exact fa_85_0) (by first | exact l1_22 | exact l1_23 | exact l1_3 | exact l1_4 | exact l1_46 | exact l1_47 | exact l1_54) rfl ?_
  refine ySl xa_23 l1_54 (hs.ext X2) (fun _ h => h) (by omega) (by omega) (by simpa using hu) ?_
  refine yA (fun w' hw => hb2.ext hw) la_25 rfl ?_
  refine (behind_ok (hp0.ext (X2.trans (Ext.refl _).drew)) hv hR).mono fun mv w3 ⟨⟨m, hm, ham⟩, x3⟩ => ?_
  have x3' : Ext w2 w3 := Ext.trans (Ext.refl _).drew x3
  refine ⟨x3', fun w' => Ext w3 w', fun w' h => x3'.trans h, Ext.refl _, ?_⟩
  obtain ⟨cs, hcs, hrow⟩ := hm.row hl2 (by omega)
  obtain ⟨rv, hrv, hrb⟩ := hrow 0 (by omega)
  refine ySl xa_46 l1_47 hcs (fun _ h => h) (by omega) (by omega) (by simpa using hrv) ?_
  have hdf : (p.at' 0).df < R := by rcases hrt.d with h | h <;> omega
  have hus : ∀ r ∈ (p.at' 0).us, 0 ≤ r ∧ r < ((rowL m 0 R).length : Int) := fun r hr => by have := hrt.u r hr; rw [rowL_len]; omega
  refine (ahead_ok (hnu.ext (X2.trans x3')) hrb (hargs _ (List.mem_of_getElem? hpt)) (by rw [rowL_len]; omega) (by rw [rowL_len]; exact hdf) hus).mono fun av w4 ⟨hav, x4⟩ => ?_
  refine ⟨x4, fun w' => Ext w3 w', fun _ h => h, x4, ⟨⟨_, ?_, (own_mono (by rw [rowL_len] at hav; exact hav) (X2.trans x3').size), fun r hr => ?_⟩, (X2.trans x3').trans x4⟩⟩
  · rw [aheadL_len, rowL_len]
  · rw [aheadL_get (by rw [rowL_len]; exact hr) (fun x hx => (hus x hx).1)]
    rw [List.getD_eq_getElem?_getD, rowL_get hr]
    simp only [Option.getD_some, Option.some.injEq, Bool.or_eq_true, Bool.and_eq_true, decide_eq_true_eq]
    unfold AheadP
    rw [ham 0 r (by omega) hr]

/-- 'all', over the whole state. -/
theorem allX_ok {w0 w : World} {c : RC} {ov lv : Value} {m : Mx} {sb l : List Bool} {ord : List Int} {B : Nat} (h : Rx w0 w c ov m sb ord) (hR : c.R ≤ 40) (hgl : c.gs.length = c.R) (hl : l.length = c.R)
    (ha : w.ownsRow B 4 1 lv c.R (l.map Value.bool)) (hn : ∀ k, lv.ownBlock = some k → ¬ Mu c ov k) :
    callD Try.prog 15 #[.pointer (some ⟨c.ub, 0, none⟩), lv] w fun r w' => (∃ m', Rx w0 w' c ov m' sb ord ∧ ∀ a b, a < c.R → b < c.R → (m' a b = true ↔ m a b = true ∨ (a ≠ b ∧ l[a]? = some true ∧ l[b]? = some true))) ∧ Fr (fun i => i ∈ c.gs) w w' := by
  refine (all_ok hR hgl hl h.ru ha fun k hk hg => hn k hk (.inr (.inr (.inr (.inr (.inr (.inl hg))))))).mono fun r w' ⟨⟨m', hru, hm⟩, hf⟩ => ⟨⟨m', ⟨hru, hf.blk h.box ?_, hf.blk h.seen ?_, hf.own h.ov fun k hk hg => ?_, h.lim, ?_⟩, hm⟩, hf⟩
  · intro hg; have := h.lim.2.2.2 _ hg; have := h.ord'; omega
  · intro hg; have := h.lim.2.2.2 _ hg; have := h.ord'; omega
  · have := h.lim.2.2.2 _ hg; have := h.ord'; have := (h.ov.lt k hk).1; omega
  · have := h.ord'; have := hf.size; omega
/-- The box, the matrix, the slots' row are there. -/
def Laid (w2 : World) (R : Nat) (t3 : Value) (w : World) : Prop := ∃ ub g0 sg, t3 = .pointer (some ⟨ub, 0, none⟩) ∧ Ext w2 w ∧ Blk w ub [sl R g0, sl R sg, .slice none 0 0] 49 ∧ Blk w g0 (List.replicate R (.slice none 0 0)) 47 ∧ Blk w sg (List.replicate R (.bool false)) 4 ∧
  w2.heap.size ≤ ub ∧ w2.heap.size ≤ g0 ∧ w2.heap.size ≤ sg ∧ ub ≠ g0 ∧ ub ≠ sg ∧ g0 ≠ sg
theorem laidEnd {w2 w : World} {R ub g0 sg : Nat} (hx : Ext w2 w) (hu : Blk w ub [.slice none 0 0, .slice none 0 0, .slice none 0 0] 49) (hm : Blk w g0 (List.replicate R (.slice none 0 0)) 47) (hs : Blk w sg (List.replicate R (.bool false)) 4)
    (h1 : w2.heap.size ≤ ub) (h2 : w2.heap.size ≤ g0) (h3 : w2.heap.size ≤ sg) (h4 : ub ≠ g0) (h5 : ub ≠ sg) (h6 : g0 ≠ sg) :
    U Try.prog (Instr.storeAt 49 (.pointer (some ⟨ub, 0, none⟩)) (.agg #[sl R g0, sl R sg, .slice none 0 0])) w fun _ w' => Laid w2 R (.pointer (some ⟨ub, 0, none⟩)) w' :=
  stA inf49 hu (l := [sl R g0, sl R sg, .slice none 0 0]) rfl rfl rfl rfl fun w' hu' hc => ⟨ub, g0, sg, rfl, hc.ext w2 hx h1, hu', hc.other (Ne.symm h4) hm, hc.other (Ne.symm h5) hs, h1, h2, h3, h4, h5, h6⟩
end Go.Proofs.Ytendijaeihljeaa

namespace Go.Proofs.Ytendijaeihljeaa
open Go.Vc
/-- Registers that meet. -/
def Meets (p : GProg) (a b : Nat) : Prop := a ≠ b ∧ ((SetS p a ∧ SetS p b) ∨ ∃ k, k < p.nodes.length ∧ SetK p k a ∧ SetK p k b)
/-- Registers that must stand in slots. -/
def Slotted (p : GProg) (r : Nat) : Prop := ∃ k, k < p.nodes.length ∧ (p.at' k).leavesB = false ∧ Alive p k r ∧ (r : Int) ≠ (p.at' k).df
/-- Registers as they come. -/
def ordL (p : GProg) (R : Nat) : List Int := upTo p.params.toNat ++ p.nodes.map GNode.df ++ upTo R
def RulesV (p : GProg) (R : Nat) (r : Value) (w : World) : Prop := ∃ g0 sg ov m sb, r = .agg #[sl R g0, sl R sg, ov] ∧ MatIs w (sl R g0) R R m ∧ BoolsAre w (sl R sg) sb ∧ sb.length = R ∧ IntsAre w ov (addAll [] (ordL p R)) ∧
  (∀ a b, a < R → b < R → (m a b = true ↔ Meets p a b)) ∧ ∀ r, r < R → (sb[r]? = some true ↔ Slotted p r)
set_option maxHeartbeats 4000000 in
theorem rulesOf_ok {p : GProg} {R : Nat} {pv : Value} {w : World} (hp : ProgIs w pv p) (hv : OkProg p) (hR : p.regs = R) :
    callD Try.prog 9 #[pv] w fun r w' => RulesV p R r w' ∧ Ext w w' := by
  have hp0 := hp
  obtain ⟨ns, rfl, hns, hargs⟩ := hp
  obtain ⟨vs, hs, hvs⟩ := hns
  have hl1 := hv.l1; have hl2 := hv.l2; have hr1 := hv.r1; have hr2 := hv.r2; have hp1 := hv.p1; have hp2 := hv.p2; have hp3 := hv.p3
  apply F9_wp
  unfold F9_den
  refine bx fun b w1 hb x1 => ?_
  refine alK inf49 fun w2 hz x2 => ?_
  have hb2 := hb.ext x2
  have X12 := x1.trans x2
  refine ⟨Laid w2 R, ?_, ?_⟩
  rotate_left
  · rintro _ w25 ⟨ub, g0, sg, rfl, x25, hu25, hg25, hs25, l1, l2, l3, n1, n2, n3⟩ _
    refine ldB (hb2.ext x25) (by first | exact fa_25_0 | exact fa_25_1 | exact fa_25_2 | exact fa_27_0 | exact fa_30_0 | exact fa_30_1 | exact fa_30_2 | exact fa_34_0 | exact fa_34_1 | exact fa_36_0 | exact fa_36_1 | exact fa_36_2 | exact fa_36_3 | exact fa_38_0 | exact fa_40_0 | exact fa_40_1 | exact fa_49_0 | exact fa_49_1 | exact fa_49_2 | exact fa_68_0 | exact fa_68_1 | exact fa_68_2 | exact fa_68_3 | exact fa_70_0 | exact fa_70_1 | exact fa_72_0 | exact fa_72_3 | exact fa_72_4 | exact fa_74_0 | exact fa_74_1 | exact fa_74_2 | exact fa_76_0 | exact fa_76_1 | exact fa_76_2 | exact fa_78_0 | exact fa_78_1 | exact fa_82_0 | exact fa_82_1 | exact fa_85_0) (by first | exact l1_22 | exact l1_23 | exact l1_3 | exact l1_4 | exact l1_46 | exact l1_47 | exact l1_54) rfl ?_
    rw [hR]
    have hu25' := hu25.lt; have hg25' := hg25.lt; have hs25' := hs25.lt
    refine ⟨fun v w' => ∃ gs : List Nat, v = i64 gs.length ∧ gs.length ≤ R ∧ Ext w2 w' ∧ Blk w' ub [sl R g0, sl R sg, .slice none 0 0] 49 ∧ Blk w' sg (List.replicate R (.bool false)) 4 ∧ (∀ g ∈ gs, w2.heap.size ≤ g ∧ g < w'.heap.size ∧ g ≠ ub ∧ g ≠ g0 ∧ g ≠ sg) ∧ gs.Nodup ∧
        Blk w' g0 (gs.map (sl R) ++ List.replicate (R - gs.length) (.slice none 0 0)) 47 ∧ ∀ g ∈ gs, Blk w' g (List.replicate R (.bool false)) 4,
      fun v _ => R - (RowKit.intOf v).toNat, ⟨[], rfl, Nat.zero_le _, x25, hu25, hs25, by simp, List.nodup_nil, by simpa using hg25, by simp⟩, ?_⟩
    rintro _ w4 ⟨gs, rfl, hle, x4, hu4, hs4, hgg, hnd, ho4, hrows4⟩ _
    have hu4' := hu4.lt; have hs4' := hs4.lt; have ho4' := ho4.lt
    refine V_lss.2 (ifD_dec (fun hlt => ?_) fun hge => ?_)
    · have D4 : Ext w4 w4.drew := (Ext.refl _).drew
      refine drawD.mk' (fun w' => Ext w4 w') D4 ?_
      refine yfB (fun w' hw => (hu4.ext hw).boxed) (by first | exact fa_25_0 | exact fa_25_1 | exact fa_25_2 | exact fa_27_0 | exact fa_30_0 | exact fa_30_1 | exact fa_30_2 | exact fa_34_0 | exact fa_34_1 | exact fa_36_0 | exact fa_36_1 | exact fa_36_2 | exact fa_36_3 | exact fa_38_0 | exact fa_40_0 | exact fa_40_1 | exact fa_49_0 | exact fa_49_1 | exact fa_49_2 | exact fa_68_0 | exact fa_68_1 | exact fa_68_2 | exact fa_68_3 | exact fa_70_0 | exact fa_70_1 | exact fa_72_0 | exact fa_72_3 | exact fa_72_4 | exact fa_74_0 | exact fa_74_1 | exact fa_74_2 | exact fa_76_0 | exact fa_76_1 | exact fa_76_2 | exact fa_78_0 | exact fa_78_1 | exact fa_82_0 | exact fa_82_1 | exact fa_85_0) (by first | exact l1_22 | exact l1_23 | exact l1_3 | exact l1_4 | exact l1_46 | exact l1_47 | exact l1_54) rfl ?_
      refine yfB (fun w' hw => hb2.ext (x4.trans hw)) (by first | exact fa_25_0 | exact fa_25_1 | exact fa_25_2 | exact fa_27_0 | exact fa_30_0 | exact fa_30_1 | exact fa_30_2 | exact fa_34_0 | exact fa_34_1 | exact fa_36_0 | exact fa_36_1 | exact fa_36_2 | exact fa_36_3 | exact fa_38_0 | exact fa_40_0 | exact fa_40_1 | exact fa_49_0 | exact fa_49_1 | exact fa_49_2 | exact fa_68_0 | exact fa_68_1 | exact fa_68_2 | exact fa_68_3 | exact fa_70_0 | exact fa_70_1 | exact fa_72_0 | exact fa_72_3 | exact fa_72_4 | exact fa_74_0 | exact fa_74_1 | exact fa_74_2 | exact fa_76_0 | exact fa_76_1 | exact fa_76_2 | exact fa_78_0 | exact fa_78_1 | exact fa_82_0 | exact fa_82_1 | exact fa_85_0) (by first | exact l1_22 | exact l1_23 | exact l1_3 | exact l1_4 | exact l1_46 | exact l1_47 | exact l1_54) rfl ?_
      refine mkBv hR Try.underlying47 inf4 rfl (n := R) (by omega) (by omega) fun w5 hrow x5 hsz5 => ?_
      have x45 := D4.trans x5
      have hz4 : w4.drew.heap.size = w4.heap.size := rfl
      rw [hz4] at hrow hsz5
      refine ⟨x45, ?_⟩
      refine yieldS.ok (fun w' _ => r_ix_46 (by omega) (by omega)) ?_
      rw [Int.toNat_natCast]
      refine stBY inf47 (ho4.ext x45) (by simp; omega) rfl ?_
      refine V_add.2 ?_
      rw [wrap_id (by omega) (by omega), i64_succ]
      have hset := (ho4.ext x45).set gs.length (sl R w4.heap.size)
      rw [set_rows R _ gs R (by omega)] at hset
      have hx45 := x45.size
      refine ⟨⟨gs ++ [w4.heap.size], by simp, by simp; omega, (x4.trans x45).setCell l2 _, (hu4.ext x45).other n1, (hs4.ext x45).other (Ne.symm n3), ?_, ?_, hset, ?_⟩, by simp only [intOf_i64]; omega⟩
      · intro g hg
        simp only [World.size_setCell]
        rcases List.mem_append.1 hg with h | h
        · have := hgg g h; omega
        · have : g = w4.heap.size := by simpa using h
          have := x4.size
          omega
      · refine List.nodup_append.2 ⟨hnd, by simp, ?_⟩
        intro a ha c hc
        have : c = w4.heap.size := by simpa using hc
        have := hgg a ha
        omega
      · intro g hg
        rcases List.mem_append.1 hg with h | h
        · exact ((hrows4 g h).ext x45).other (by have := hgg g h; omega)
        · have he : g = w4.heap.size := by simpa using h
          subst he
          exact hrow.other (by omega)
    have hgl : gs.length = R := by omega
    rw [hgl, Nat.sub_self] at ho4
    simp only [List.replicate_zero, List.append_nil] at ho4
    refine ldA (hb2.ext x4) la_25 rfl ?_
    refine (AheadO_ok (hp0.ext (X12.trans x4)) hv hR).mono fun av w5 ⟨⟨l, hll, hlo, hla⟩, x5⟩ => ?_
    have x25' := x4.trans x5
    refine ldB (hb2.ext x25') (by first | exact fa_25_0 | exact fa_25_1 | exact fa_25_2 | exact fa_27_0 | exact fa_30_0 | exact fa_30_1 | exact fa_30_2 | exact fa_34_0 | exact fa_34_1 | exact fa_36_0 | exact fa_36_1 | exact fa_36_2 | exact fa_36_3 | exact fa_38_0 | exact fa_40_0 | exact fa_40_1 | exact fa_49_0 | exact fa_49_1 | exact fa_49_2 | exact fa_68_0 | exact fa_68_1 | exact fa_68_2 | exact fa_68_3 | exact fa_70_0 | exact fa_70_1 | exact fa_72_0 | exact fa_72_3 | exact fa_72_4 | exact fa_74_0 | exact fa_74_1 | exact fa_74_2 | exact fa_76_0 | exact fa_76_1 | exact fa_76_2 | exact fa_78_0 | exact fa_78_1 | exact fa_82_0 | exact fa_82_1 | exact fa_85_0) (by first | exact l1_22 | exact l1_23 | exact l1_3 | exact l1_4 | exact l1_46 | exact l1_47 | exact l1_54) rfl ?_
    refine mkBv hR Try.underlying47 inf4 rfl (n := R) (by omega) (by omega) fun w6 hsn x6 hsz6 => ?_
    refine asK (by first | exact sa_25 | exact sa_27 | exact sa_30 | exact sa_34 | exact sa_36 | exact sa_38 | exact sa_40 | exact sa_47 | exact sa_49 | exact sa_68 | exact sa_70 | exact sa_72 | exact sa_74 | exact sa_76 | exact sa_78 | exact sa_82 | exact sa_85) rfl rfl fun w7 hsx x7 => ?_
    refine fnK ?_
    have x57 := x6.trans x7
    have x27 := x25'.trans x57
    have hsx' := hsx.lt
    have hx7 := x7.size
    have hx5 := x5.size
    have hx4 := x4.size
    have hc : ∃ c : RC, c = ⟨ub, g0, sg, w6.heap.size, w5.heap.size, R, w4.heap.size, w7.heap.size, gs⟩ := ⟨_, rfl⟩
    obtain ⟨c, hc⟩ := hc
    have hRx : Rx w2 w7 c (.slice none 0 0) (fun _ _ => false) (List.replicate R false) [] := by
      subst hc
      refine ⟨⟨x27, (hu4.ext x5).ext x57, (ho4.ext x5).ext x57, by simpa using (hs4.ext x5).ext x57, fun k g hk => by rw [rowL_false]; exact ((hrows4 g (List.mem_of_getElem? hk)).ext x5).ext x57, ⟨l1, l2, l3, fun g hg => (hgg g hg).1⟩, ⟨n1, n2, n3, fun g hg => (hgg g hg).2.2⟩, hnd⟩,
        hsx, by rw [seenL_nil]; exact hsn.ext x7, ⟨rfl, .inl ⟨rfl, rfl⟩⟩, ⟨hu4', ho4', hs4', fun g hg => (hgg g hg).2.1⟩, ⟨hx4, hx5, by show w5.heap.size < w6.heap.size; omega, by show w6.heap.size < w7.heap.size; omega, Nat.le_refl _⟩⟩
    have hcub : c.ub = ub := by rw [hc]
    have hcsx : c.sx = w6.heap.size := by rw [hc]
    have hcg0 : c.g0 = g0 := by rw [hc]
    have hcsg : c.sg = sg := by rw [hc]
    have hcgs : c.gs = gs := by rw [hc]
    have hcR : c.R = R := by rw [hc]
    have hav : ∀ k, av.ownBlock = some k → ¬ Mu c (.slice none 0 0) k := by
      intro k hk hm
      have hlt := hlo.lt k hk
      have h1 := hRx.ord'
      have h2 := hRx.lim
      subst hc
      simp only at h1 h2
      unfold Mu at hm
      rcases hm with h | h | h | h | h | h | h
      · omega
      · omega
      · omega
      · simp only at h; omega
      · simp only at h; omega
      · have := h2.2.2.2 k h; omega
      · cases h
    have hlo7 := x57.own hlo
    rw [← hcub, ← hcsx]
    clear hu4 hs4 ho4 hrows4 hgg hu25 hg25 hs25 hsn hsx
    have hb7 : ∀ {w'}, Ext w2 w' → Boxed w' b _ := fun h => hb2.ext h
    refine ldB (hb7 x27) (by first | exact fa_25_0 | exact fa_25_1 | exact fa_25_2 | exact fa_27_0 | exact fa_30_0 | exact fa_30_1 | exact fa_30_2 | exact fa_34_0 | exact fa_34_1 | exact fa_36_0 | exact fa_36_1 | exact fa_36_2 | exact fa_36_3 | exact fa_38_0 | exact fa_40_0 | exact fa_40_1 | exact fa_49_0 | exact fa_49_1 | exact fa_49_2 | exact fa_68_0 | exact fa_68_1 | exact fa_68_2 | exact fa_68_3 | exact fa_70_0 | exact fa_70_1 | exact fa_72_0 | exact fa_72_3 | exact fa_72_4 | exact fa_74_0 | exact fa_74_1 | exact fa_74_2 | exact fa_76_0 | exact fa_76_1 | exact fa_76_2 | exact fa_78_0 | exact fa_78_1 | exact fa_82_0 | exact fa_82_1 | exact fa_85_0) (by first | exact l1_22 | exact l1_23 | exact l1_3 | exact l1_4 | exact l1_46 | exact l1_47 | exact l1_54) rfl ?_
    -- the parameters come first
    refine ⟨fun v w' => ∃ (r : Nat) (ov : Value) (l' : List Bool), v = i64 r ∧ (r : Int) ≤ p.params ∧ Rx w2 w' c ov (fun _ _ => false) (List.replicate R false) (addAll [] (upTo r)) ∧ l'.length = R ∧ w'.ownsRow w4.heap.size 4 1 av R (l'.map .bool) ∧
        (∀ s, s < R → (l'[s]? = some true ↔ (AheadP p (Alive p) 0 s ∨ s < r))) ∧ ∀ k, av.ownBlock = some k → ¬ Mu c ov k,
      fun v _ => p.params.toNat - (RowKit.intOf v).toNat, ⟨0, _, l, rfl, hp1, hRx, hll, hlo7, fun s hs => by rw [hla s hs]; simp, hav⟩, ?_⟩
    rintro _ w8 ⟨r, ov, l', rfl, hr, hRx8, hll', hlo8, hla', hav8⟩ _
    have hordlen := addAll_len [] (upTo r)
    rw [upTo_len] at hordlen
    refine V_lss.2 (ifD_dec (fun hlt => ?_) fun hge2 => ?_)
    · refine stO (by first | exact xa_22 | exact xa_23 | exact xa_46 | exact xa_47) inf4 hlo8 (by omega) (by omega) rfl fun w9 ho9 hg9 => ?_
      rw [map_set_b] at ho9
      have hx9 : Ext w2 w9 := hRx8.ru.x.grown hg9 fun k hk => by have := (hlo8.lt k hk).1; omega
      have hRx9 := hRx8.fr (S := fun i => av.ownBlock = some i) (Fr.of_grown hg9 fun k hk => hk) (fun i hi hk => hav8 i hk hi) hx9
      refine (add_ok hRx9 (r := (r : Int)) (by rw [hcR]; omega) (by rw [hcR]; omega) (by simp at hordlen; omega)).mono fun _ w10 ⟨ov', hRx10, hmv⟩ => ?_
      refine V_add.2 ?_
      rw [wrap_id (by omega) (by omega), i64_succ]
      refine ⟨⟨r + 1, ov', l'.set r true, rfl, by omega, by rw [upTo_succ, addAll_snoc]; exact hRx10, by simp [hll'], hmv.fr.own ho9 hav8, fun s hs => ?_, fun k hk => hmv.far (ho9.lt k hk).2 (hav8 k hk)⟩, by simp only [intOf_i64]; omega⟩
      by_cases hsr : r = s
      · subst hsr
        rw [List.getElem?_set_self (by omega)]
        simp
      · rw [List.getElem?_set_ne hsr, hla' s hs]
        constructor <;> (rintro (h | h) <;> first | exact .inl h | exact .inr (by omega))
    have hrp : (r : Int) = p.params := by omega
    have hset : ∀ s, s < R → (l'[s]? = some true ↔ SetS p s) := fun s hs => by
      rw [hla' s hs]
      unfold SetS
      constructor <;> (rintro (h | h) <;> first | exact .inl h | exact .inr (by omega))
    refine (allX_ok (l := l') hRx8 (by rw [hcR]; omega) (by rw [hcgs, hcR]; exact hgl) (by rw [hcR]; exact hll') (by rw [hcR]; exact hlo8) hav8).mono fun _ w9 ⟨⟨m1, hRx9, hm1⟩, _⟩ => ?_
    refine ldA (hb7 hRx9.ru.x) la_25 rfl ?_
    refine (behindO_ok (hp0.ext (X12.trans hRx9.ru.x)) hv hR).mono fun bv w10 ⟨⟨mB, hmB, hal⟩, x10⟩ => ?_
    have hhi := hRx9.hi
    have hRx10 := hRx9.ext x10
    rw [show r = p.params.toNat by omega] at hRx10
    obtain ⟨g0', gs', rfl, hgl', hout', hrows', hlo0', hlog'⟩ := hmB
    have keepB : ∀ {ov' w'}, Mv c ov w10 ov' w' → Blk w' g0' (gs'.map (sl R)) 47 ∧ ∀ (k g : Nat), gs'[k]? = some g → Blk w' g ((rowL mB k R).map Value.bool) 4 := fun {ov' w'} h =>
      ⟨h.fr.blk hout' fun hi => by have := hhi _ hi; omega, fun k g hk => h.fr.blk (hrows' k g hk) fun hi => by have := hhi _ hi; have := hlog' g (List.mem_of_getElem? hk); omega⟩
    refine lnx (by first | exact xa_22 | exact xa_23 | exact xa_46 | exact xa_47) (hout'.slice (n := p.nodes.length) (by simpa using hgl') (by unfold maxLen; omega)) ?_
    refine ⟨fun v w' => ∃ (k : Nat) (ov' : Value) (m' : Mx) (sb' : List Bool), v = i64 k ∧ k ≤ p.nodes.length ∧ Rx w2 w' c ov' m' sb' (addAll [] (upTo p.params.toNat ++ (p.nodes.take k).map GNode.df)) ∧ Mv c ov w10 ov' w' ∧ sb'.length = R ∧
        (∀ a b, a < R → b < R → (m' a b = true ↔ a ≠ b ∧ ((SetS p a ∧ SetS p b) ∨ ∃ q, q < k ∧ SetK p q a ∧ SetK p q b))) ∧
        (∀ s, s < R → (sb'[s]? = some true ↔ ∃ q, q < k ∧ (p.at' q).leavesB = false ∧ Alive p q s ∧ (s : Int) ≠ (p.at' q).df)),
      fun v _ => p.nodes.length - (RowKit.intOf v).toNat, ⟨0, ov, m1, _, rfl, Nat.zero_le _, by simpa using hRx10, Mv.refl _ _ _, by simp, fun a b ha hb => ?_, fun s hs => by rw [List.getElem?_replicate_of_lt hs]; simp⟩, ?_⟩
    · rw [hm1 a b (by omega) (by omega), hset a ha, hset b hb]
      simp
    rintro _ w11 ⟨k, ov1, m2, sb2, rfl, hk, hRx11, hmv11, hsbl, hm2, hsb2⟩ _
    refine V_lss.2 (ifD_dec (fun hlt => ?_) fun hge3 => ?_)
    · have hk' : k < p.nodes.length := by omega
      obtain ⟨hat, hrt⟩ := hv.at hk'
      obtain ⟨nv, hnv, hni⟩ := hvs k _ hat
      obtain ⟨g', hg'⟩ := ex_get (l := gs') (j := k) (by omega)
      have hdf : (p.at' k).df < R := by rcases hrt.d with h | h <;> omega
      refine ldx xa_46 l1_47 ((keepB hmv11).1.slice (n := p.nodes.length) (by simpa using hgl') (by unfold maxLen; omega)) (by omega) (by omega) (by simp [hg'] : (gs'.map (sl R))[((k : Nat) : Int).toNat]? = some (sl R g')) ?_
      have hX11 := hRx11.ru.x
      refine ldB (hb7 hX11) (by first | exact fa_25_0 | exact fa_25_1 | exact fa_25_2 | exact fa_27_0 | exact fa_30_0 | exact fa_30_1 | exact fa_30_2 | exact fa_34_0 | exact fa_34_1 | exact fa_36_0 | exact fa_36_1 | exact fa_36_2 | exact fa_36_3 | exact fa_38_0 | exact fa_40_0 | exact fa_40_1 | exact fa_49_0 | exact fa_49_1 | exact fa_49_2 | exact fa_68_0 | exact fa_68_1 | exact fa_68_2 | exact fa_68_3 | exact fa_70_0 | exact fa_70_1 | exact fa_72_0 | exact fa_72_3 | exact fa_72_4 | exact fa_74_0 | exact fa_74_1 | exact fa_74_2 | exact fa_76_0 | exact fa_76_1 | exact fa_76_2 | exact fa_78_0 | exact fa_78_1 | exact fa_82_0 | exact fa_82_1 | exact fa_85_0) (by first | exact l1_22 | exact l1_23 | exact l1_3 | exact l1_4 | exact l1_46 | exact l1_47 | exact l1_54) rfl ?_
      refine ldx xa_23 l1_54 (hs.ext (X12.trans hX11)) (by omega) (by omega) (by simpa using hnv) ?_
      refine (def_ok (hni.ext (X12.trans hX11))).mono fun dv w12 ⟨hd, x12⟩ => ?_
      subst hd
      have hRx12 := hRx11.ext x12
      have hol : (addAll [] (upTo p.params.toNat ++ (p.nodes.take k).map GNode.df)).length ≤ 1000 := by
        have := addAll_len [] (upTo p.params.toNat ++ (p.nodes.take k).map GNode.df)
        simp only [List.length_append, List.length_map, List.length_take, upTo_len, List.length_nil] at this
        omega
      refine (add_ok hRx12 (r := (p.at' k).df) (by rw [hcR]; exact hdf) (by rw [hcR]; omega) hol).mono fun _ w13 ⟨ov2, hRx13, hmv13⟩ => ?_
      have hmv13' := (hmv11.trans (Mv.of_ext x12)).trans hmv13
      have hordk : addO (addAll [] (upTo p.params.toNat ++ (p.nodes.take k).map GNode.df)) (p.at' k).df = addAll [] (upTo p.params.toNat ++ (p.nodes.take (k + 1)).map GNode.df) := by
        rw [← addAll_snoc, List.append_assoc, List.take_add_one, hat]
        simp
      rw [hordk] at hRx13
      have hrow13 := (keepB hmv13').2 k g' hg'
      have hrl13 : BoolsAre w13 (sl R g') (rowL mB k R) := by
        have := hrow13.slice (n := R) (by simp [rowL_len]) (by unfold maxLen; omega)
        unfold BoolsAre
        rw [rowL_len]; exact this
      refine (with_ok hrl13 (by rw [rowL_len]; omega) (by rw [rowL_len]; exact hdf)).mono fun wv w14 ⟨hwo, x14⟩ => ?_
      rw [rowL_len] at hwo
      have hRx14 := hRx13.ext x14
      have hhi13 := hRx13.hi
      have hwl : (withL (rowL mB k R) (p.at' k).df).length = R := by rw [withL_len, rowL_len]
      refine (allX_ok (l := withL (rowL mB k R) (p.at' k).df) hRx14 (by rw [hcR]; omega) (by rw [hcgs, hcR]; exact hgl) (by rw [hcR]; exact hwl) (by rw [hcR]; exact hwo) (fun i hi hm => by have := hhi13 i hm; have := (hwo.lt i hi).1; omega)).mono fun _ w15 ⟨⟨m3, hRx15, hm3⟩, hf15⟩ => ?_
      have hmv15 : Mv c ov w10 ov2 w15 := (hmv13'.trans (Mv.of_ext x14)).trans ⟨hf15.mono fun i hi => .inr (.inr (.inr (.inr (.inr (.inl hi))))), fun _ h => .inl h⟩
      have hwset := withL_set (p := p) (R := R) (k := k) (m := mB) (fun r hr => hal k r hk' hr) hdf
      have hm3' : ∀ a b, a < R → b < R → (m3 a b = true ↔ a ≠ b ∧ ((SetS p a ∧ SetS p b) ∨ ∃ q, q < k + 1 ∧ SetK p q a ∧ SetK p q b)) := by
        intro a b ha hb
        rw [hm3 a b (by omega) (by omega), hm2 a b ha hb, hwset a ha, hwset b hb]
        constructor
        · rintro (⟨h1, h2 | ⟨q, h3, h4⟩⟩ | ⟨h1, h2⟩)
          · exact ⟨h1, .inl h2⟩
          · exact ⟨h1, .inr ⟨q, by omega, h4⟩⟩
          · exact ⟨h1, .inr ⟨k, by omega, h2⟩⟩
        · rintro ⟨h1, h2 | ⟨q, h3, h4⟩⟩
          · exact .inl ⟨h1, .inl h2⟩
          · by_cases hqk : q = k
            · subst hqk; exact .inr ⟨h1, h4⟩
            · exact .inl ⟨h1, .inr ⟨q, by omega, h4⟩⟩
      have hsl15 : ∀ {ov' w'}, Mv c ov w10 ov' w' → SliceIs w' (sl R g') 1 R ((rowL mB k R).map Value.bool) := fun h => ((keepB h).2 k g' hg').slice (n := R) (by simp [rowL_len]) (by unfold maxLen; omega)
      refine lnx (by first | exact xa_22 | exact xa_23 | exact xa_46 | exact xa_47) (hsl15 hmv15) ?_
      refine ⟨fun v w' => ∃ (r : Nat) (sb' : List Bool), v = i64 r ∧ r ≤ R ∧ Rx w2 w' c ov2 m3 sb' (addAll [] (upTo p.params.toNat ++ (p.nodes.take (k + 1)).map GNode.df)) ∧ Mv c ov w10 ov2 w' ∧ sb'.length = R ∧
          (∀ s, s < R → (sb'[s]? = some true ↔ (sb2[s]? = some true ∨ (s < r ∧ (p.at' k).leavesB = false ∧ Alive p k s ∧ (s : Int) ≠ (p.at' k).df)))),
        fun v _ => R - (RowKit.intOf v).toNat, ⟨0, sb2, rfl, Nat.zero_le _, hRx15, hmv15, hsbl, fun s hs => by simp⟩, ?_⟩
      rintro _ w16 ⟨r2, sb3, rfl, hr2, hRx16, hmv16, hsb3l, hsb3⟩ _
      refine V_lss.2 (ifD_dec (fun hlt5 => ?_) fun hge5 => ?_)
      · have hr2' : r2 < R := by omega
        refine ldx xa_47 l1_4 (hsl15 hmv16) (by omega) (by omega) (getB (rowL_get hr2')) ?_
        obtain ⟨sv, hsv⟩ := ex_get (l := sb3) (j := r2) (by omega)
        have D16 : Ext w16 w16.drew := (Ext.refl _).drew
        have hRx17 := hRx16.ext D16
        have hss : SliceIs w16.drew (.slice (some ⟨c.sg, 0, none⟩) c.R c.R) 1 c.R (sb3.map Value.bool) := hRx17.ru.slot.slice (by simp; omega) (by unfold maxLen; omega)
        have fin : ∀ nv : Bool, (nv = true ↔ (sv = true ∨ ((p.at' k).leavesB = false ∧ Alive p k r2 ∧ (r2 : Int) ≠ (p.at' k).df))) →
            yieldS Try.prog (fun w' => w' = w16.drew) (Instr.indexAt 47 (.slice (some ⟨c.sg, 0, none⟩) c.R c.R) (i64 (r2 : Int))) fun t106 => U Try.prog (Instr.storeAt 4 t106 (.bool nv)) w16.drew fun _ w73 => V Try.prog (binOp .add 3 (i64 (r2 : Int)) (Value.int IntKind.i64 1)) w73 fun t107 w74 =>
              (∃ (r : Nat) (sb' : List Bool), t107 = i64 r ∧ r ≤ R ∧ Rx w2 w74 c ov2 m3 sb' (addAll [] (upTo p.params.toNat ++ (p.nodes.take (k + 1)).map GNode.df)) ∧ Mv c ov w10 ov2 w74 ∧ sb'.length = R ∧ (∀ s, s < R → (sb'[s]? = some true ↔ (sb2[s]? = some true ∨ (s < r ∧ (p.at' k).leavesB = false ∧ Alive p k s ∧ (s : Int) ≠ (p.at' k).df))))) ∧ R - (RowKit.intOf t107).toNat < R - (RowKit.intOf (i64 (r2 : Int))).toNat := by
          intro nv hnv
          refine yieldS.ok (fun w' _ => r_ix_47 (by omega) (by omega)) ?_
          rw [Int.toNat_natCast]
          refine stBY inf4 hRx17.ru.slot (by simp; omega) rfl ?_
          refine V_add.2 ?_
          rw [wrap_id (by omega) (by omega), i64_succ]
          refine ⟨⟨r2 + 1, sb3.set r2 nv, rfl, by omega, hRx17.setSlot r2 nv, (hmv16.trans (Mv.of_ext D16)).set r2 _, by simp [hsb3l], fun s hs => ?_⟩, by simp only [intOf_i64]; omega⟩
          by_cases hsr : r2 = s
          · subst hsr
            rw [List.getElem?_set_self (by omega)]
            simp only [Option.some.injEq]
            have h3 := hsb3 r2 hs
            rw [hsv] at h3
            simp only [Option.some.injEq] at h3
            rw [hnv, h3]
            constructor
            · rintro ((h | h) | h)
              · exact .inl h
              · omega
              · exact .inr ⟨by omega, h⟩
            · rintro (h | ⟨_, h⟩)
              · exact .inl (.inl h)
              · exact .inr h
          · rw [List.getElem?_set_ne hsr, hsb3 s hs]
            constructor
            · rintro (h | ⟨h1, h2⟩)
              · exact .inl h
              · exact .inr ⟨by omega, h2⟩
            · rintro (h | ⟨h1, h2⟩)
              · exact .inl h
              · exact .inr ⟨by omega, h2⟩
        have hal' := hal k r2 hk' hr2'
        refine drawD.mk' (fun w' => w' = w16.drew) rfl ?_
        refine yfB (fun w' hw => hw ▸ hRx17.ru.u.boxed) (by first | exact fa_25_0 | exact fa_25_1 | exact fa_25_2 | exact fa_27_0 | exact fa_30_0 | exact fa_30_1 | exact fa_30_2 | exact fa_34_0 | exact fa_34_1 | exact fa_36_0 | exact fa_36_1 | exact fa_36_2 | exact fa_36_3 | exact fa_38_0 | exact fa_40_0 | exact fa_40_1 | exact fa_49_0 | exact fa_49_1 | exact fa_49_2 | exact fa_68_0 | exact fa_68_1 | exact fa_68_2 | exact fa_68_3 | exact fa_70_0 | exact fa_70_1 | exact fa_72_0 | exact fa_72_3 | exact fa_72_4 | exact fa_74_0 | exact fa_74_1 | exact fa_74_2 | exact fa_76_0 | exact fa_76_1 | exact fa_76_2 | exact fa_78_0 | exact fa_78_1 | exact fa_82_0 | exact fa_82_1 | exact fa_85_0) (by first | exact l1_22 | exact l1_23 | exact l1_3 | exact l1_4 | exact l1_46 | exact l1_47 | exact l1_54) rfl ?_
        refine yfB (fun w' hw => hw ▸ hRx17.ru.u.boxed) (by first | exact fa_25_0 | exact fa_25_1 | exact fa_25_2 | exact fa_27_0 | exact fa_30_0 | exact fa_30_1 | exact fa_30_2 | exact fa_34_0 | exact fa_34_1 | exact fa_36_0 | exact fa_36_1 | exact fa_36_2 | exact fa_36_3 | exact fa_38_0 | exact fa_40_0 | exact fa_40_1 | exact fa_49_0 | exact fa_49_1 | exact fa_49_2 | exact fa_68_0 | exact fa_68_1 | exact fa_68_2 | exact fa_68_3 | exact fa_70_0 | exact fa_70_1 | exact fa_72_0 | exact fa_72_3 | exact fa_72_4 | exact fa_74_0 | exact fa_74_1 | exact fa_74_2 | exact fa_76_0 | exact fa_76_1 | exact fa_76_2 | exact fa_78_0 | exact fa_78_1 | exact fa_82_0 | exact fa_82_1 | exact fa_85_0) (by first | exact l1_22 | exact l1_23 | exact l1_3 | exact l1_4 | exact l1_46 | exact l1_47 | exact l1_54) rfl ?_
        refine ySl xa_47 (by first | exact l1_22 | exact l1_23 | exact l1_3 | exact l1_4 | exact l1_46 | exact l1_47 | exact l1_54) hss (fun w' hw => hw ▸ Ext.refl _) (by omega) (by omega) (getB hsv) ?_
        cases hsb : sv with
        | true =>
          simp only [gd_undef, gdY_tf, gdY_undef, pickD_iff, reduceIte]
          refine ⟨trivial, ?_⟩
          exact fin true (by simp [hsb])
        | false =>
          by_cases hmk : mB k r2 = true
          · simp only [hmk, gdY_t, gdY_f, pickD_iff, reduceIte, Bool.false_eq_true]
            refine yieldS.ok (fun w' _ => r_neqI) ?_
            by_cases hrd : (r2 : Int) ≠ (p.at' k).df
            · simp only [hrd, ne_eq, not_false_eq_true, gd_t, gdY_t, pickD_iff, reduceIte, decide_true]
              refine (leaves_ok (hni.ext (X12.trans hRx17.ru.x))).mono fun rv w' ⟨h1, h2⟩ => ?_
              subst h1
              subst h2
              refine ⟨rfl, ?_⟩
              refine yieldS.ok (fun _ _ => r_not) ?_
              exact fin (!(p.at' k).leavesB) (by cases hlb : (p.at' k).leavesB <;> simp [hsb, hal'.1 hmk, hrd])
            · simp only [hrd, gd_ft, gdY_ft, pickD_iff, reduceIte, Bool.false_eq_true, decide_false]
              refine ⟨trivial, ?_⟩
              exact fin false (by simp [hsb]; intro _ _; simpa using hrd)
          · simp only [hmk, gd_ft, gdY_f, gdY_ft, pickD_iff, reduceIte, Bool.false_eq_true]
            refine ⟨trivial, ?_⟩
            exact fin false (by simp [hsb]; intro _ h; exact absurd (hal'.2 h) hmk)
      · refine V_add.2 ?_
        rw [wrap_id (by omega) (by omega), i64_succ]
        refine ⟨⟨k + 1, ov2, m3, sb3, rfl, by omega, hRx16, hmv16, hsb3l, hm3', fun s hs => ?_⟩, by simp only [intOf_i64]; omega⟩
        rw [hsb3 s hs, hsb2 s hs]
        constructor
        · rintro (⟨q, h1, h2⟩ | ⟨h1, h2⟩)
          · exact ⟨q, by omega, h2⟩
          · exact ⟨k, by omega, h2⟩
        · rintro ⟨q, h1, h2⟩
          by_cases hqk : q = k
          · subst hqk; exact .inr ⟨by omega, h2⟩
          · exact .inl ⟨q, by omega, h2⟩
    · have hkN : k = p.nodes.length := by omega
      subst hkN
      rw [List.take_of_length_le (Nat.le_refl _)] at hRx11
      refine ldB (hb7 hRx11.ru.x) (by first | exact fa_25_0 | exact fa_25_1 | exact fa_25_2 | exact fa_27_0 | exact fa_30_0 | exact fa_30_1 | exact fa_30_2 | exact fa_34_0 | exact fa_34_1 | exact fa_36_0 | exact fa_36_1 | exact fa_36_2 | exact fa_36_3 | exact fa_38_0 | exact fa_40_0 | exact fa_40_1 | exact fa_49_0 | exact fa_49_1 | exact fa_49_2 | exact fa_68_0 | exact fa_68_1 | exact fa_68_2 | exact fa_68_3 | exact fa_70_0 | exact fa_70_1 | exact fa_72_0 | exact fa_72_3 | exact fa_72_4 | exact fa_74_0 | exact fa_74_1 | exact fa_74_2 | exact fa_76_0 | exact fa_76_1 | exact fa_76_2 | exact fa_78_0 | exact fa_78_1 | exact fa_82_0 | exact fa_82_1 | exact fa_85_0) (by first | exact l1_22 | exact l1_23 | exact l1_3 | exact l1_4 | exact l1_46 | exact l1_47 | exact l1_54) rfl ?_
      rw [hR]
      refine ⟨fun v w' => ∃ (r : Nat) (ov' : Value), v = i64 r ∧ r ≤ R ∧ Rx w2 w' c ov' m2 sb2 (addAll [] (upTo p.params.toNat ++ p.nodes.map GNode.df ++ upTo r)),
        fun v _ => R - (RowKit.intOf v).toNat, ⟨0, ov1, rfl, Nat.zero_le _, by simpa [upTo] using hRx11⟩, ?_⟩
      rintro _ w12 ⟨r3, ov3, rfl, hr3, hRx12⟩ _
      refine V_lss.2 (ifD_dec (fun hlt6 => ?_) fun hge6 => ?_)
      · have hol : (addAll [] (upTo p.params.toNat ++ p.nodes.map GNode.df ++ upTo r3)).length ≤ 1000 := by
          have := addAll_len [] (upTo p.params.toNat ++ p.nodes.map GNode.df ++ upTo r3)
          simp only [List.length_append, List.length_map, upTo_len, List.length_nil] at this
          omega
        refine (add_ok hRx12 (r := (r3 : Int)) (by rw [hcR]; omega) (by rw [hcR]; omega) hol).mono fun _ w13 ⟨ov4, hRx13, _⟩ => ?_
        refine V_add.2 ?_
        rw [wrap_id (by omega) (by omega), i64_succ]
        exact ⟨⟨r3 + 1, ov4, rfl, by omega, by rw [upTo_succ, ← List.append_assoc, addAll_snoc]; exact hRx13⟩, by simp only [intOf_i64]; omega⟩
      · have hrR : r3 = R := by omega
        subst hrR
        refine ldA hRx12.ru.u.boxed la_49 rfl ?_
        have hX := hRx12.ru.x
        have hzl := hz.lt
        have hlo12 := hRx12.lo
        have hov3 := hRx12.ov
        refine stA inf49 (hz.ext hX) (l := [.slice (some ⟨c.g0, 0, none⟩) c.R c.R, .slice (some ⟨c.sg, 0, none⟩) c.R c.R, ov3]) rfl rfl rfl (by have := own1' hov3; simp only [List.all_cons, List.all_nil, this, Bool.and_true]; rfl) fun w' h' hch => ?_
        refine ⟨_, r_var Try.underlying49 rfl inf49 h' rfl, ⟨_, rfl⟩, ⟨c.g0, c.sg, ov3, m2, sb2, by rw [hcR]; rfl, ⟨c.g0, c.gs, rfl, by rw [hcgs]; exact hgl, ?_, ?_⟩, ?_, hsbl, ?_, ?_, ?_⟩, hch.ext w (X12.trans hX) x1.size⟩
        · have := hch.other (by have := hRx12.ru.lo; omega) hRx12.ru.out
          rw [hcR] at this; exact this
        · intro q g hq
          have := hch.other (by have := hRx12.ru.lo.2.2.2 g (List.mem_of_getElem? hq); omega) (hRx12.ru.rows q g hq)
          rw [hcR] at this; exact this
        · have := (hch.other (by have := hRx12.ru.lo; omega) hRx12.ru.slot).slice (n := sb2.length) (by simp) (by unfold maxLen; omega)
          unfold BoolsAre sl
          rw [hsbl] at this ⊢
          exact this
        · have := hch.own hov3 (by have := hRx12.ord'; omega)
          exact this
        · exact fun a b ha hb => hm2 a b ha hb
        · exact fun s hs => hsb2 s hs
  refine drawD.mk' (fun w' => Ext w2 w') (Ext.refl _).drew ?_
  have X2 : Ext w2 w2.drew := (Ext.refl _).drew
  refine yfB (fun w' hw => hb2.ext hw) (by first | exact fa_25_0 | exact fa_25_1 | exact fa_25_2 | exact fa_27_0 | exact fa_30_0 | exact fa_30_1 | exact fa_30_2 | exact fa_34_0 | exact fa_34_1 | exact fa_36_0 | exact fa_36_1 | exact fa_36_2 | exact fa_36_3 | exact fa_38_0 | exact fa_40_0 | exact fa_40_1 | exact fa_49_0 | exact fa_49_1 | exact fa_49_2 | exact fa_68_0 | exact fa_68_1 | exact fa_68_2 | exact fa_68_3 | exact fa_70_0 | exact fa_70_1 | exact fa_72_0 | exact fa_72_3 | exact fa_72_4 | exact fa_74_0 | exact fa_74_1 | exact fa_74_2 | exact fa_76_0 | exact fa_76_1 | exact fa_76_2 | exact fa_78_0 | exact fa_78_1 | exact fa_82_0 | exact fa_82_1 | exact fa_85_0) (by first | exact l1_22 | exact l1_23 | exact l1_3 | exact l1_4 | exact l1_46 | exact l1_47 | exact l1_54) rfl ?_
  refine yfB (fun w' hw => hb2.ext hw) (by first | exact fa_25_0 | exact fa_25_1 | exact fa_25_2 | exact fa_27_0 | exact fa_30_0 | exact fa_30_1 | exact fa_30_2 | exact fa_34_0 | exact fa_34_1 | exact fa_36_0 | exact fa_36_1 | exact fa_36_2 | exact fa_36_3 | exact fa_38_0 | exact fa_40_0 | exact fa_40_1 | exact fa_49_0 | exact fa_49_1 | exact fa_49_2 | exact fa_68_0 | exact fa_68_1 | exact fa_68_2 | exact fa_68_3 | exact fa_70_0 | exact fa_70_1 | exact fa_72_0 | exact fa_72_3 | exact fa_72_4 | exact fa_74_0 | exact fa_74_1 | exact fa_74_2 | exact fa_76_0 | exact fa_76_1 | exact fa_76_2 | exact fa_78_0 | exact fa_78_1 | exact fa_82_0 | exact fa_82_1 | exact fa_85_0) (by first | exact l1_22 | exact l1_23 | exact l1_3 | exact l1_4 | exact l1_46 | exact l1_47 | exact l1_54) rfl ?_
  refine ⟨?_, ?_, ?_⟩
  · refine mkBv hR Try.underlying46 inf47 rfl (n := R) (by omega) (by omega) fun wa hM xa sM => ?_
    have Xa := X2.trans xa
    refine ⟨Xa, ?_, ?_⟩
    · refine mkBv hR Try.underlying47 inf4 rfl (n := R) (by omega) (by omega) fun wb hB xb sB => ?_
      have Xb := Xa.trans xb
      refine ⟨Xb, ?_⟩
      refine yBld bd_49 [(0, _), (1, _), (2, Value.slice none 0 0)] rfl (by simp [oneC]) ?_
      refine alK inf49 fun wc hA xc => ?_
      have Xc := Xb.trans xc
      refine ⟨Xc, ?_⟩
      have za := xa.size; have zb := xb.size; have la := (hM).lt; have lb := (hB).lt
      have zw : w2.heap.size = w2.drew.heap.size := rfl
      exact laidEnd Xc hA ((hM.ext xb).ext xc) (hB.ext xc) (by omega) (by omega) (by omega) (by omega) (by omega) (by omega)
    · refine alK inf49 fun wb hA xb => ?_
      have Xb := Xa.trans xb
      refine ⟨Xb, ?_⟩
      refine mkBv hR Try.underlying47 inf4 rfl (n := R) (by omega) (by omega) fun wc hB xc sB => ?_
      have Xc := Xb.trans xc
      refine ⟨Xc, ?_⟩
      refine yBld bd_49 [(0, _), (1, _), (2, Value.slice none 0 0)] rfl (by simp [oneC]) ?_
      have za := xa.size; have zb := xb.size; have la := (hM).lt; have lb := (hA).lt
      have zw : w2.heap.size = w2.drew.heap.size := rfl
      exact laidEnd Xc (hA.ext xc) ((hM.ext xb).ext xc) hB (by omega) (by omega) (by omega) (by omega) (by omega) (by omega)
  · refine mkBv hR Try.underlying47 inf4 rfl (n := R) (by omega) (by omega) fun wa hB xa sB => ?_
    have Xa := X2.trans xa
    refine ⟨Xa, ?_, ?_⟩
    · refine mkBv hR Try.underlying46 inf47 rfl (n := R) (by omega) (by omega) fun wb hM xb sM => ?_
      have Xb := Xa.trans xb
      refine ⟨Xb, ?_⟩
      refine yBld bd_49 [(0, _), (1, _), (2, Value.slice none 0 0)] rfl (by simp [oneC]) ?_
      refine alK inf49 fun wc hA xc => ?_
      have Xc := Xb.trans xc
      refine ⟨Xc, ?_⟩
      have za := xa.size; have zb := xb.size; have la := (hB).lt; have lb := (hM).lt
      have zw : w2.heap.size = w2.drew.heap.size := rfl
      exact laidEnd Xc hA (hM.ext xc) ((hB.ext xb).ext xc) (by omega) (by omega) (by omega) (by omega) (by omega) (by omega)
    · refine alK inf49 fun wb hA xb => ?_
      have Xb := Xa.trans xb
      refine ⟨Xb, ?_⟩
      refine mkBv hR Try.underlying46 inf47 rfl (n := R) (by omega) (by omega) fun wc hM xc sM => ?_
      have Xc := Xb.trans xc
      refine ⟨Xc, ?_⟩
      refine yBld bd_49 [(0, _), (1, _), (2, Value.slice none 0 0)] rfl (by simp [oneC]) ?_
      have za := xa.size; have zb := xb.size; have la := (hB).lt; have lb := (hA).lt
      have zw : w2.heap.size = w2.drew.heap.size := rfl
      exact laidEnd Xc (hA.ext xc) hM ((hB.ext xb).ext xc) (by omega) (by omega) (by omega) (by omega) (by omega) (by omega)
  · refine alK inf49 fun wa hA xa => ?_
    have Xa := X2.trans xa
    refine ⟨Xa, ?_, ?_⟩
    · refine mkBv hR Try.underlying46 inf47 rfl (n := R) (by omega) (by omega) fun wb hM xb sM => ?_
      have Xb := Xa.trans xb
      refine ⟨Xb, ?_⟩
      refine mkBv hR Try.underlying47 inf4 rfl (n := R) (by omega) (by omega) fun wc hB xc sB => ?_
      have Xc := Xb.trans xc
      refine ⟨Xc, ?_⟩
      refine yBld bd_49 [(0, _), (1, _), (2, Value.slice none 0 0)] rfl (by simp [oneC]) ?_
      have za := xa.size; have zb := xb.size; have la := (hA).lt; have lb := (hM).lt
      have zw : w2.heap.size = w2.drew.heap.size := rfl
      exact laidEnd Xc ((hA.ext xb).ext xc) (hM.ext xc) hB (by omega) (by omega) (by omega) (by omega) (by omega) (by omega)
    · refine mkBv hR Try.underlying47 inf4 rfl (n := R) (by omega) (by omega) fun wb hB xb sB => ?_
      have Xb := Xa.trans xb
      refine ⟨Xb, ?_⟩
      refine mkBv hR Try.underlying46 inf47 rfl (n := R) (by omega) (by omega) fun wc hM xc sM => ?_
      have Xc := Xb.trans xc
      refine ⟨Xc, ?_⟩
      refine yBld bd_49 [(0, _), (1, _), (2, Value.slice none 0 0)] rfl (by simp [oneC]) ?_
      have za := xa.size; have zb := xb.size; have la := (hA).lt; have lb := (hB).lt
      have zw : w2.heap.size = w2.drew.heap.size := rfl
      exact laidEnd Xc ((hA.ext xb).ext xc) hM (hB.ext xc) (by omega) (by omega) (by omega) (by omega) (by omega) (by omega)
end Go.Proofs.Ytendijaeihljeaa

namespace Go.Proofs.Ytendijaeihljeaa
open Go.Vc
theorem good_iff {p : GProg} {R : Nat} {of : List Int} {slots : Int} {m : Mx} {sb : List Bool} (hl : of.length = R) (h0 : 0 ≤ slots) (h1 : slots ≤ 40) (hm : ∀ a b, a < R → b < R → (m a b = true ↔ Meets p a b)) (hs : ∀ r, r < R → (sb[r]? = some true ↔ Slotted p r)) :
    (∀ (r : Nat) (x : Int), r < R → of[r]? = some x → Valid x slots ∧ MayP m sb of r x) ↔ Good p R of slots := by
  have lt : ∀ {r : Nat} {x : Int}, of[r]? = some x → r < R := fun h => by have := (List.getElem?_eq_some_iff.1 h).1; omega
  constructor
  · intro h
    have ap : ∀ S : Nat → Prop, (∀ a b, a ≠ b → S a → S b → Meets p a b) → ApartS S R of := by
      intro S hS r s hsr hr h2 h3 he
      obtain ⟨x, hx⟩ := ex_get (l := of) (j := r) (by omega)
      exact (h r x hr hx).2.2 s x (by rw [← he]; exact hx) ((hm r s hr (by omega)).2 (hS r s (by omega) h2 h3)) rfl
    exact ⟨hl, h0, h1, fun r x hx => (h r x (lt hx) hx).1, fun k hk => ap _ fun a b hab ha hb => ⟨hab, .inr ⟨k, hk, ha, hb⟩⟩, fun k hk hlb r x hal hne hx => (h r x (lt hx) hx).2.1 ((hs r (lt hx)).2 ⟨k, hk, hlb, hal, hne⟩), ap _ fun a b hab ha hb => ⟨hab, .inl ⟨ha, hb⟩⟩⟩
  · intro h r x hr hx
    refine ⟨h.val r x hx, fun hsl => ?_, fun o y hy hmo he => ?_⟩
    · obtain ⟨k, hk, hlb, hal, hne⟩ := (hs r hr).1 hsl
      exact h.slot k hk hlb r x hal hne hx
    · subst he
      obtain ⟨hne, hset⟩ := (hm r o hr (lt hy)).1 hmo
      have ap : ∀ S : Nat → Prop, ApartS S R of → S r → S o → False := by
        intro S hS h2 h3
        by_cases hlt : o < r
        · exact hS r o hlt hr h2 h3 (by rw [hx, hy])
        · exact hS o r (by omega) (lt hy) h3 h2 (by rw [hx, hy])
      rcases hset with ⟨h2, h3⟩ | ⟨k, hk, h2, h3⟩
      · exact ap _ h.start h2 h3
      · exact ap _ (h.sets k hk) h2 h3
theorem own1'' {w : World} {B e n : Nat} {v : Value} {xs : List Value} (h : w.ownsRow B e 1 v n xs) : oneC v = true := own1' h
theorem oneC_ints {w : World} {v : Value} {l : List Int} (h : IntsAre w v l) : oneC v = true := by
  obtain ⟨a, c, rfl⟩ := h.shape
  rfl
set_option maxHeartbeats 4000000 in
theorem placeRight_ok {p : GProg} {R : Nat} {pv ofv : Value} {of : List Int} {slots : Int} {w : World} (hp : ProgIs w pv p) (hv : OkProg p) (hR : p.regs = R) (ho : IntsAre w ofv of) (hol : of.length ≤ 1000000) :
    callD Try.prog 8 #[pv, .agg #[ofv, i64 slots]] w fun r w' => (∃ ok : Bool, r = .bool ok ∧ (ok = true ↔ Good p R of slots)) ∧ Ext w w' := by
  have hp0 := hp
  obtain ⟨ns, rfl, hns, hargs⟩ := hp
  obtain ⟨oa, oc, rfl⟩ := ho.shape
  have hr1 := hv.r1; have hr2 := hv.r2
  have no : ∀ {w'}, Ext w w' → ¬ Good p R of slots → (∃ ok : Bool, Value.bool false = .bool ok ∧ (ok = true ↔ Good p R of slots)) ∧ Ext w w' := fun hx hn => ⟨⟨false, rfl, fun h => (by cases h), fun h => absurd h hn⟩, hx⟩
  apply F8_wp
  unfold F8_den
  refine bx fun b w1 hb x1 => ?_
  refine bx fun b2 w2 hb2 x2 => ?_
  have X2 := x1.trans x2
  have hb' := hb.ext x2
  refine ldA hb' la_25 rfl ?_
  refine (check_ok (p := p) (hp0.ext X2) hv).mono fun r w3 ⟨hr, x3⟩ => ?_
  subst hr
  have hb3 := hb'.ext x3
  have hb23 := hb2.ext x3
  have X3 := X2.trans x3
  refine V_not.2 ?_
  simp only [gd_f, pickD_iff, reduceIte, Bool.false_eq_true, Bool.not_true]
  refine ldB hb23 (by first | exact fa_25_0 | exact fa_25_1 | exact fa_25_2 | exact fa_27_0 | exact fa_30_0 | exact fa_30_1 | exact fa_30_2 | exact fa_34_0 | exact fa_34_1 | exact fa_36_0 | exact fa_36_1 | exact fa_36_2 | exact fa_36_3 | exact fa_38_0 | exact fa_40_0 | exact fa_40_1 | exact fa_49_0 | exact fa_49_1 | exact fa_49_2 | exact fa_68_0 | exact fa_68_1 | exact fa_68_2 | exact fa_68_3 | exact fa_70_0 | exact fa_70_1 | exact fa_72_0 | exact fa_72_3 | exact fa_72_4 | exact fa_74_0 | exact fa_74_1 | exact fa_74_2 | exact fa_76_0 | exact fa_76_1 | exact fa_76_2 | exact fa_78_0 | exact fa_78_1 | exact fa_82_0 | exact fa_82_1 | exact fa_85_0) (by first | exact l1_22 | exact l1_23 | exact l1_3 | exact l1_4 | exact l1_46 | exact l1_47 | exact l1_54) rfl (lnx (by first | exact xa_22 | exact xa_23 | exact xa_46 | exact xa_47) (ho.ext X3) ?_)
  refine ldB hb3 (by first | exact fa_25_0 | exact fa_25_1 | exact fa_25_2 | exact fa_27_0 | exact fa_30_0 | exact fa_30_1 | exact fa_30_2 | exact fa_34_0 | exact fa_34_1 | exact fa_36_0 | exact fa_36_1 | exact fa_36_2 | exact fa_36_3 | exact fa_38_0 | exact fa_40_0 | exact fa_40_1 | exact fa_49_0 | exact fa_49_1 | exact fa_49_2 | exact fa_68_0 | exact fa_68_1 | exact fa_68_2 | exact fa_68_3 | exact fa_70_0 | exact fa_70_1 | exact fa_72_0 | exact fa_72_3 | exact fa_72_4 | exact fa_74_0 | exact fa_74_1 | exact fa_74_2 | exact fa_76_0 | exact fa_76_1 | exact fa_76_2 | exact fa_78_0 | exact fa_78_1 | exact fa_82_0 | exact fa_82_1 | exact fa_85_0) (by first | exact l1_22 | exact l1_23 | exact l1_3 | exact l1_4 | exact l1_46 | exact l1_47 | exact l1_54) rfl (V_neqI.2 ?_)
  rw [hR]
  by_cases h1 : ((of.length : Nat) : Int) ≠ ((R : Nat) : Int)
  · simp only [h1, ne_eq, not_false_eq_true, gd_tf, pickD_iff, ifD_true, reduceIte, decide_true]
    exact no X3 fun h => h1 (by have := h.len; omega)
  have h1' : of.length = R := by omega
  simp only [h1, gd_f, pickD_iff, reduceIte, Bool.false_eq_true, decide_false]
  refine ldB hb23 (by first | exact fa_25_0 | exact fa_25_1 | exact fa_25_2 | exact fa_27_0 | exact fa_30_0 | exact fa_30_1 | exact fa_30_2 | exact fa_34_0 | exact fa_34_1 | exact fa_36_0 | exact fa_36_1 | exact fa_36_2 | exact fa_36_3 | exact fa_38_0 | exact fa_40_0 | exact fa_40_1 | exact fa_49_0 | exact fa_49_1 | exact fa_49_2 | exact fa_68_0 | exact fa_68_1 | exact fa_68_2 | exact fa_68_3 | exact fa_70_0 | exact fa_70_1 | exact fa_72_0 | exact fa_72_3 | exact fa_72_4 | exact fa_74_0 | exact fa_74_1 | exact fa_74_2 | exact fa_76_0 | exact fa_76_1 | exact fa_76_2 | exact fa_78_0 | exact fa_78_1 | exact fa_82_0 | exact fa_82_1 | exact fa_85_0) (by first | exact l1_22 | exact l1_23 | exact l1_3 | exact l1_4 | exact l1_46 | exact l1_47 | exact l1_54) rfl (V_lss.2 ?_)
  by_cases h2 : slots < 0
  · simp only [h2, gd_tf, pickD_iff, ifD_true, reduceIte, decide_true]
    exact no X3 fun h => by have := h.s0; omega
  simp only [h2, gd_f, pickD_iff, reduceIte, Bool.false_eq_true, decide_false]
  refine ldB hb23 (by first | exact fa_25_0 | exact fa_25_1 | exact fa_25_2 | exact fa_27_0 | exact fa_30_0 | exact fa_30_1 | exact fa_30_2 | exact fa_34_0 | exact fa_34_1 | exact fa_36_0 | exact fa_36_1 | exact fa_36_2 | exact fa_36_3 | exact fa_38_0 | exact fa_40_0 | exact fa_40_1 | exact fa_49_0 | exact fa_49_1 | exact fa_49_2 | exact fa_68_0 | exact fa_68_1 | exact fa_68_2 | exact fa_68_3 | exact fa_70_0 | exact fa_70_1 | exact fa_72_0 | exact fa_72_3 | exact fa_72_4 | exact fa_74_0 | exact fa_74_1 | exact fa_74_2 | exact fa_76_0 | exact fa_76_1 | exact fa_76_2 | exact fa_78_0 | exact fa_78_1 | exact fa_82_0 | exact fa_82_1 | exact fa_85_0) (by first | exact l1_22 | exact l1_23 | exact l1_3 | exact l1_4 | exact l1_46 | exact l1_47 | exact l1_54) rfl (V_gtr.2 ?_)
  by_cases h3 : slots > 40
  · simp only [h3, ifD_true, decide_true]
    exact no X3 fun h => by have := h.s1; omega
  simp only [h3, ifD_false, decide_false]
  refine ldA hb3 la_25 rfl ?_
  refine (rulesOf_ok (hp0.ext X3) hv hR).mono fun rv w4 ⟨⟨g0, sg, ov, m, sb, hrv, hmat, hsb, hsbl, hov, hm, hs⟩, x4⟩ => ?_
  subst hrv
  refine asK (by first | exact sa_25 | exact sa_27 | exact sa_30 | exact sa_34 | exact sa_36 | exact sa_38 | exact sa_40 | exact sa_47 | exact sa_49 | exact sa_68 | exact sa_70 | exact sa_72 | exact sa_74 | exact sa_76 | exact sa_78 | exact sa_82 | exact sa_85) rfl (by have := oneC_ints hov; show (oneC (sl R g0) && (oneC (sl R sg) && (oneC ov && true))) = true; rw [this]; rfl) fun w5 hu5 x5 => ?_
  have x35 := x4.trans x5
  have X5 := X3.trans x35
  refine ldB (hb23.ext x35) (by first | exact fa_25_0 | exact fa_25_1 | exact fa_25_2 | exact fa_27_0 | exact fa_30_0 | exact fa_30_1 | exact fa_30_2 | exact fa_34_0 | exact fa_34_1 | exact fa_36_0 | exact fa_36_1 | exact fa_36_2 | exact fa_36_3 | exact fa_38_0 | exact fa_40_0 | exact fa_40_1 | exact fa_49_0 | exact fa_49_1 | exact fa_49_2 | exact fa_68_0 | exact fa_68_1 | exact fa_68_2 | exact fa_68_3 | exact fa_70_0 | exact fa_70_1 | exact fa_72_0 | exact fa_72_3 | exact fa_72_4 | exact fa_74_0 | exact fa_74_1 | exact fa_74_2 | exact fa_76_0 | exact fa_76_1 | exact fa_76_2 | exact fa_78_0 | exact fa_78_1 | exact fa_82_0 | exact fa_82_1 | exact fa_85_0) (by first | exact l1_22 | exact l1_23 | exact l1_3 | exact l1_4 | exact l1_46 | exact l1_47 | exact l1_54) rfl (lnx (by first | exact xa_22 | exact xa_23 | exact xa_46 | exact xa_47) (ho.ext X5) ?_)
  have hgood := good_iff (p := p) (slots := slots) h1' (by omega) (by omega) hm hs
  refine ⟨fun v w' => ∃ i : Nat, v = i64 i ∧ i ≤ of.length ∧ Ext w5 w' ∧ ∀ (r : Nat) (x : Int), r < i → of[r]? = some x → Valid x slots ∧ MayP m sb of r x, fun v _ => of.length - (RowKit.intOf v).toNat, ⟨0, rfl, Nat.zero_le _, Ext.refl _, fun r x h => by omega⟩, ?_⟩
  rintro _ w6 ⟨i, rfl, hi, x6, hval⟩ _
  have x36 := x35.trans x6
  have X6 := X5.trans x6
  refine V_lss.2 (ifD_dec (fun hlt => ?_) fun hge => ?_)
  · have hi' : i < of.length := by omega
    obtain ⟨x, hx⟩ := ex_get hi'
    refine ldx xa_22 l1_3 (ho.ext X6) (by omega) (by omega) (getI hx) (V_neqI.2 ?_)
    have bad : ¬ Valid x slots → (∃ ok : Bool, Value.bool false = .bool ok ∧ (ok = true ↔ Good p R of slots)) ∧ Ext w w6 := fun h => no X6 fun hg => h (hg.val i x hx)
    have ok : Valid x slots → callD Try.prog 10 #[.agg #[sl R g0, sl R sg, ov], i64 (i : Int), i64 x, .slice oa of.length oc] w6 fun q w' => (∃ ok : Bool, q = .bool ok ∧ (ok = true ↔ MayP m sb of i x)) ∧ Ext w6 w' := fun _ =>
      may_ok (by omega) ((hmat.ext x5).ext x6) ((hsb.ext x5).ext x6) hsbl (ho.ext X6) h1' (by omega)
    have fin : Valid x slots → V Try.prog (Instr.loadAt 49 (.pointer (some ⟨w4.heap.size, 0, none⟩))) w6 fun t57 w46 =>
        V Try.prog (Instr.fieldAt 40 (.pointer (some ⟨b2, 0, none⟩)) 0) w46 fun t60 w49 => V Try.prog (Instr.loadAt 22 t60) w49 fun t61 w50 => callD Try.prog 10 #[t57, i64 (i : Int), i64 x, t61] w50 fun t62 w51 =>
        V Try.prog (Op.unary UnOp.not t62) w51 fun t63 w52 => ifD t63 ((∃ ok : Bool, Value.bool false = .bool ok ∧ (ok = true ↔ Good p R of slots)) ∧ Ext w w52) (V Try.prog (binOp .add 3 (i64 (i : Int)) (Value.int IntKind.i64 1)) w52 fun t65 w54 =>
          (∃ i : Nat, t65 = i64 i ∧ i ≤ of.length ∧ Ext w5 w54 ∧ ∀ (r : Nat) (x : Int), r < i → of[r]? = some x → Valid x slots ∧ MayP m sb of r x) ∧ of.length - (RowKit.intOf t65).toNat < of.length - (RowKit.intOf (i64 (i : Int))).toNat) := by
      intro hvx
      refine ldA (hu5.ext x6).boxed la_49 rfl ?_
      refine ldB (hb23.ext x36) (by first | exact fa_25_0 | exact fa_25_1 | exact fa_25_2 | exact fa_27_0 | exact fa_30_0 | exact fa_30_1 | exact fa_30_2 | exact fa_34_0 | exact fa_34_1 | exact fa_36_0 | exact fa_36_1 | exact fa_36_2 | exact fa_36_3 | exact fa_38_0 | exact fa_40_0 | exact fa_40_1 | exact fa_49_0 | exact fa_49_1 | exact fa_49_2 | exact fa_68_0 | exact fa_68_1 | exact fa_68_2 | exact fa_68_3 | exact fa_70_0 | exact fa_70_1 | exact fa_72_0 | exact fa_72_3 | exact fa_72_4 | exact fa_74_0 | exact fa_74_1 | exact fa_74_2 | exact fa_76_0 | exact fa_76_1 | exact fa_76_2 | exact fa_78_0 | exact fa_78_1 | exact fa_82_0 | exact fa_82_1 | exact fa_85_0) (by first | exact l1_22 | exact l1_23 | exact l1_3 | exact l1_4 | exact l1_46 | exact l1_47 | exact l1_54) rfl ?_
      refine (ok hvx).mono fun q w7 ⟨⟨a, hq, ha⟩, x7⟩ => ?_
      subst hq
      refine V_not.2 (ifD.mk (fun hn => ?_) fun hn => ?_)
      · refine no (X6.trans x7) fun hg => ?_
        have := ha.2 (hgood.2 hg i x (by omega) hx).2
        subst this
        cases hn
      · refine V_add.2 ?_
        rw [wrap_id (by omega) (by omega), i64_succ]
        refine ⟨⟨i + 1, rfl, by omega, x6.trans x7, fun r y hr hy => ?_⟩, by simp only [intOf_i64]; omega⟩
        by_cases hri : r = i
        · subst hri
          rw [hx] at hy
          cases hy
          exact ⟨hvx, ha.1 (by simpa using hn)⟩
        · exact hval r y (by omega) hy
    by_cases h5 : x = 5
    · simp only [h5, ne_eq, not_true_eq_false, gd_f, gd_ft, gd_undef, pickD_iff, reduceIte, Bool.false_eq_true, decide_false]
      exact h5 ▸ fin (.inl h5)
    simp only [h5, ne_eq, not_false_eq_true, V_neqI, gd_t, pickD_iff, reduceIte, decide_true]
    by_cases h6 : x = 6
    · simp only [h6, not_true_eq_false, gd_f, gd_ft, gd_undef, pickD_iff, reduceIte, Bool.false_eq_true, decide_false]
      exact h6 ▸ fin (.inr (.inl h6))
    simp only [h6, not_false_eq_true, V_lss, gd_t, pickD_iff, reduceIte, decide_true]
    by_cases h16 : x < 16
    · simp only [h16, gd_tf, pickD_iff, ifD_true, reduceIte, decide_true]
      exact bad (by unfold Valid; omega)
    simp only [h16, gd_f, reduceIte, Bool.false_eq_true, decide_false]
    refine ldB (hb23.ext x36) (by first | exact fa_25_0 | exact fa_25_1 | exact fa_25_2 | exact fa_27_0 | exact fa_30_0 | exact fa_30_1 | exact fa_30_2 | exact fa_34_0 | exact fa_34_1 | exact fa_36_0 | exact fa_36_1 | exact fa_36_2 | exact fa_36_3 | exact fa_38_0 | exact fa_40_0 | exact fa_40_1 | exact fa_49_0 | exact fa_49_1 | exact fa_49_2 | exact fa_68_0 | exact fa_68_1 | exact fa_68_2 | exact fa_68_3 | exact fa_70_0 | exact fa_70_1 | exact fa_72_0 | exact fa_72_3 | exact fa_72_4 | exact fa_74_0 | exact fa_74_1 | exact fa_74_2 | exact fa_76_0 | exact fa_76_1 | exact fa_76_2 | exact fa_78_0 | exact fa_78_1 | exact fa_82_0 | exact fa_82_1 | exact fa_85_0) (by first | exact l1_22 | exact l1_23 | exact l1_3 | exact l1_4 | exact l1_46 | exact l1_47 | exact l1_54) rfl (V_add.2 ?_)
    rw [wrap_id (by omega) (by omega)]
    simp only [V_geq, pickD_iff]
    by_cases h17 : x ≥ 16 + slots
    · simp only [h17, gd_tf, ifD_true, reduceIte, decide_true]
      exact bad (by unfold Valid; omega)
    simp only [h17, gd_f, reduceIte, Bool.false_eq_true, decide_false]
    exact fin (by unfold Valid; omega)
  · refine ⟨⟨true, rfl, fun _ => hgood.1 fun r x hr hx => hval r x (by omega) hx, fun _ => rfl⟩, X6⟩
end Go.Proofs.Ytendijaeihljeaa

namespace Go.Proofs.Ytendijaeihljeaa
open Go.Vc
/-- May register r have the place at, by the sets? -/
def MayS (p : GProg) (of : List Int) (r : Nat) (at' : Int) : Prop := (Slotted p r → 16 ≤ at') ∧ ∀ (o : Nat) (y : Int), of[o]? = some y → Meets p r o → y ≠ at'
theorem may_s {p : GProg} {R : Nat} {m : Mx} {sb : List Bool} {of : List Int} {r : Nat} {at' : Int} (hl : of.length = R) (hm : ∀ a b, a < R → b < R → (m a b = true ↔ Meets p a b)) (hs : ∀ r, r < R → (sb[r]? = some true ↔ Slotted p r)) (hr : r < R) : MayP m sb of r at' ↔ MayS p of r at' := by
  have lt : ∀ {r : Nat} {x : Int}, of[r]? = some x → r < R := fun h => by have := (List.getElem?_eq_some_iff.1 h).1; omega
  unfold MayP MayS
  rw [hs r hr]
  exact ⟨fun h => ⟨h.1, fun o y hy hmo => h.2 o y hy ((hm r o hr (lt hy)).2 hmo)⟩, fun h => ⟨h.1, fun o y hy hmo => h.2 o y hy ((hm r o hr (lt hy)).1 hmo)⟩⟩
theorem Meets.symm {p : GProg} {a b : Nat} (h : Meets p a b) : Meets p b a := by
  obtain ⟨h1, h2⟩ := h
  refine ⟨fun h => h1 h.symm, ?_⟩
  rcases h2 with ⟨h2, h3⟩ | ⟨k, hk, h2, h3⟩
  · exact .inl ⟨h3, h2⟩
  · exact .inr ⟨k, hk, h3, h2⟩
/-- The places of the first i registers of the order stand. -/
structure Al (p : GProg) (R : Nat) (ord : List Int) (i : Nat) (of : List Int) (slots : Int) : Prop where
  len : of.length = R
  s0 : 0 ≤ slots
  s1 : slots ≤ 40
  placed : ∀ (r : Nat) (x : Int), of[r]? = some x → (((r : Int) ∈ ord.take i → Valid x slots ∧ MayS p of r x) ∧ ((r : Int) ∉ ord.take i → x = 0))
theorem Al.start (p : GProg) (R : Nat) (ord : List Int) : Al p R ord 0 (List.replicate R 0) 0 := by
  refine ⟨by simp, by omega, by omega, fun r x hx => ⟨fun h => by simp at h, fun _ => ?_⟩⟩
  have := List.mem_of_getElem? hx
  simp at this
  exact this.2
theorem Al.step {p : GProg} {R : Nat} {ord of : List Int} {i r : Nat} {slots at' : Int} (h : Al p R ord i of slots) (hr : r < R) (hi : ord[i]? = some (r : Int)) (hm : MayS p of r at') (ha : at' = 5 ∨ at' = 6 ∨ 16 ≤ at') (ha2 : at' ≤ 55) :
    Al p R ord (i + 1) (of.set r at') (max slots (at' - 15)) := by
  have hs0 := h.s0; have hs1 := h.s1
  have hval : ∀ {x}, Valid x slots → Valid x (max slots (at' - 15)) := by unfold Valid; omega
  have htake : ord.take (i + 1) = ord.take i ++ [(r : Int)] := by rw [List.take_add_one, hi]; rfl
  have hlen := h.len
  refine ⟨by simp [h.len], by omega, by omega, fun q x hx => ?_⟩
  by_cases hq : r = q
  · subst hq
    rw [List.getElem?_set_self (by omega)] at hx
    cases hx
    refine ⟨fun _ => ⟨by unfold Valid; omega, hm.1, fun o y hy hmo => ?_⟩, fun hn => absurd (by rw [htake]; simp) hn⟩
    rw [List.getElem?_set_ne (fun e => hmo.1 e)] at hy
    exact hm.2 o y hy hmo
  · rw [List.getElem?_set_ne hq] at hx
    obtain ⟨h1, h2⟩ := h.placed q x hx
    refine ⟨fun hmem => ?_, fun hn => h2 fun hmem => hn (by rw [htake]; simp [hmem])⟩
    have hmem' : (q : Int) ∈ ord.take i := by
      rw [htake] at hmem
      rcases List.mem_append.1 hmem with h3 | h3
      · exact h3
      · have : (q : Int) = r := by simpa using h3
        omega
    obtain ⟨h3, h4⟩ := h1 hmem'
    refine ⟨hval h3, h4.1, fun o y hy hmo => ?_⟩
    by_cases ho : r = o
    · subst ho
      rw [List.getElem?_set_self (by omega)] at hy
      cases hy
      exact (fun e => hm.2 q x hx hmo.symm e.symm)
    · rw [List.getElem?_set_ne ho] at hy
      exact h4.2 o y hy hmo
theorem nodup_idx {gs : List Int} (h : gs.Nodup) {i j : Nat} {g : Int} (hi : gs[i]? = some g) (hj : gs[j]? = some g) : i = j := by
  obtain ⟨hi', hi2⟩ := List.getElem?_eq_some_iff.1 hi
  obtain ⟨hj', hj2⟩ := List.getElem?_eq_some_iff.1 hj
  have hp := List.pairwise_iff_getElem.1 h
  rcases Nat.lt_trichotomy i j with hlt | he | hgt
  · exact absurd (hi2.trans hj2.symm) (hp i j hi' hj' hlt)
  · exact he
  · exact absurd (hj2.trans hi2.symm) (hp j i hj' hi' hgt)
/-- More are not in fewer. -/
theorem nodup_le : ∀ (l l' : List Int), l.Nodup → (∀ x ∈ l, x ∈ l') → l.length ≤ l'.length
  | [], _, _, _ => Nat.zero_le _
  | x :: l, l', hn, h => by
    obtain ⟨hx, hn'⟩ := List.nodup_cons.1 hn
    have h1 := nodup_le l (l'.erase x) hn' fun y hy => by
      have hne : y ≠ x := fun e => hx (e ▸ hy)
      exact (List.mem_erase_of_ne hne).2 (h y (by simp [hy]))
    have h2 := List.length_erase_of_mem (h x (by simp))
    have h3 : 0 < l'.length := List.length_pos_of_mem (h x (by simp))
    simp only [List.length_cons]
    omega
/-- A slot is free. -/
theorem slot_free {R : Nat} {of : List Int} {at' : Int} {r : Nat} (hl : of.length = R) (hr : of[r]? = some 0) (h16 : 16 ≤ at') (h : ∀ x, 16 ≤ x → x < at' → x ∈ of) : at' ≤ 15 + R := by
  have h1 := nodup_le (0 :: (List.range (at' - 16).toNat).map fun j => ((j : Nat) : Int) + 16) of (by
    refine List.nodup_cons.2 ⟨fun hm => ?_, ?_⟩
    · obtain ⟨j, _, hj⟩ := List.mem_map.1 hm
      omega
    · exact List.pairwise_map.2 (List.Pairwise.imp (fun {a b} h e => h (by omega)) List.nodup_range)) fun x hx => ?_
  · simp at h1
    omega
  · rcases List.mem_cons.1 hx with rfl | hx
    · exact List.mem_of_getElem? hr
    · obtain ⟨j, hj, rfl⟩ := List.mem_map.1 hx
      have := List.mem_range.1 hj
      exact h _ (by omega) (by omega)
theorem addO_nodup {o : List Int} {r : Int} (h : o.Nodup) : (addO o r).Nodup := by
  unfold addO
  split
  · rename_i hc
    refine List.nodup_append.2 ⟨h, by simp, fun a ha b hb e => ?_⟩
    have : b = r := by simpa using hb
    exact hc.2 (this ▸ e ▸ ha)
  · exact h
theorem addAll_facts : ∀ (l o : List Int), (o.Nodup → (addAll o l).Nodup) ∧ (∀ x, x ∈ addAll o l ↔ x ∈ o ∨ (x ∈ l ∧ 0 ≤ x))
  | [], o => by simp [addAll]
  | r :: l, o => by
    obtain ⟨h1, h2⟩ := addAll_facts l (addO o r)
    have e : addAll o (r :: l) = addAll (addO o r) l := rfl
    rw [e]
    refine ⟨fun h => h1 (addO_nodup h), fun x => ?_⟩
    rw [h2 x]
    unfold addO
    split
    · rename_i hc
      simp only [List.mem_append, List.mem_cons, List.not_mem_nil, or_false]
      constructor
      · rintro ((h | rfl) | ⟨h, h'⟩)
        · exact .inl h
        · exact .inr ⟨.inl rfl, hc.1⟩
        · exact .inr ⟨.inr h, h'⟩
      · rintro (h | ⟨rfl | h, h'⟩)
        · exact .inl (.inl h)
        · exact .inl (.inr rfl)
        · exact .inr ⟨h, h'⟩
    · rename_i hc
      simp only [List.mem_cons]
      constructor
      · rintro (h | ⟨h, h'⟩)
        · exact .inl h
        · exact .inr ⟨.inr h, h'⟩
      · rintro (h | ⟨rfl | h, h'⟩)
        · exact .inl h
        · by_cases hx : x ∈ o
          · exact .inl hx
          · exact absurd ⟨h', hx⟩ hc
        · exact .inr ⟨h, h'⟩
theorem ord_mem {p : GProg} {R : Nat} (hv : OkProg p) (hR : p.regs = R) (x : Int) : x ∈ addAll [] (ordL p R) ↔ 0 ≤ x ∧ x < R := by
  rw [(addAll_facts (ordL p R) []).2 x]
  have hp3 := hv.p3
  have hp1 := hv.p1
  constructor
  · rintro (h | ⟨h, h0⟩)
    · cases h
    · refine ⟨h0, ?_⟩
      unfold ordL at h
      rcases List.mem_append.1 h with h | h
      · rcases List.mem_append.1 h with h | h
        · obtain ⟨j, hj, rfl⟩ := List.mem_map.1 h
          have := List.mem_range.1 hj
          omega
        · obtain ⟨g, hg, rfl⟩ := List.mem_map.1 h
          obtain ⟨k, hk⟩ := List.getElem?_of_mem hg
          have := (hv.nodes k g hk).d
          rcases this with h | h <;> omega
      · obtain ⟨j, hj, rfl⟩ := List.mem_map.1 h
        have := List.mem_range.1 hj
        omega
  · rintro ⟨h0, h1⟩
    refine .inr ⟨?_, h0⟩
    unfold ordL
    refine List.mem_append.2 (.inr (List.mem_map.2 ⟨x.toNat, List.mem_range.2 (by omega), by omega⟩))
theorem Al.good {p : GProg} {R : Nat} {of : List Int} {slots : Int} (hv : OkProg p) (hR : p.regs = R) {i : Nat} (hi : (addAll [] (ordL p R)).length ≤ i) (h : Al p R (addAll [] (ordL p R)) i of slots) : Good p R of slots := by
  have lt : ∀ {r : Nat} {x : Int}, of[r]? = some x → r < R := fun h' => by have := (List.getElem?_eq_some_iff.1 h').1; have := h.len; omega
  have hall : ∀ (r : Nat) (x : Int), of[r]? = some x → Valid x slots ∧ MayS p of r x := fun r x hx => (h.placed r x hx).1 (by rw [List.take_of_length_le hi, ord_mem hv hR]; have := lt hx; omega)
  have hlen := h.len
  have ap : ∀ S : Nat → Prop, (∀ a b, a ≠ b → S a → S b → Meets p a b) → ApartS S R of := by
    intro S hS r s hsr hr h2 h3 he
    obtain ⟨x, hx⟩ := ex_get (l := of) (j := r) (by omega)
    exact (hall r x hx).2.2 s x (by rw [← he]; exact hx) (hS r s (by omega) h2 h3) rfl
  exact ⟨h.len, h.s0, h.s1, fun r x hx => (hall r x hx).1, fun k hk => ap _ fun a b hab ha hb => ⟨hab, .inr ⟨k, hk, ha, hb⟩⟩, fun k hk hlb r x hal hne hx => (hall r x hx).2.1 ⟨k, hk, hlb, hal, hne⟩, ap _ fun a b hab ha hb => ⟨hab, .inl ⟨ha, hb⟩⟩⟩
end Go.Proofs.Ytendijaeihljeaa

namespace Go.Proofs.Ytendijaeihljeaa
open Go.Vc
set_option maxHeartbeats 4000000 in
theorem alloc_ok {p : GProg} {R : Nat} {pv : Value} {w : World} (hp : ProgIs w pv p) (hv : OkProg p) (hR : p.regs = R) {Q : Nat → List Int → Int → Prop} (q0 : Q 0 (List.replicate R 0) 0)
    (qs : ∀ (i : Nat) (of : List Int) (slots : Int) (r : Nat) (at' : Int), Al p R (addAll [] (ordL p R)) i of slots → Q i of slots → (addAll [] (ordL p R))[i]? = some (r : Int) → r < R → MayS p of r at' → (at' = 5 ∨ (at' = 6 ∧ ¬ MayS p of r 5) ∨ (16 ≤ at' ∧ ¬ MayS p of r 5 ∧ ¬ MayS p of r 6)) → Q (i + 1) (of.set r at') (max slots (at' - 15))) :
    callD Try.prog 5 #[pv] w fun r w' => (∃ (ofv : Value) (of : List Int) (slots : Int), r = .agg #[ofv, i64 slots] ∧ IntsAre w' ofv of ∧ Good p R of slots ∧ Q (addAll [] (ordL p R)).length of slots) ∧ Ext w w' := by
  have hp0 := hp
  obtain ⟨ns, rfl, hns, hargs⟩ := hp
  have hl1 := hv.l1; have hl2 := hv.l2; have hr1 := hv.r1; have hr2 := hv.r2; have hp1 := hv.p1; have hp2 := hv.p2; have hp3 := hv.p3
  apply F5_wp
  unfold F5_den
  refine bx fun b w1 hb x1 => ?_
  refine alK inf40 fun w2 hz x2 => ?_
  have hb2 := hb.ext x2
  have X2 := x1.trans x2
  refine ldA hb2 la_25 rfl ?_
  refine (check_ok (p := p) (hp0.ext X2) hv).mono fun r w3 ⟨hr, x3⟩ => ?_
  subst hr
  refine V_not.2 (ifD_false.2 ?_)
  have X3 := X2.trans x3
  refine ldA (hb2.ext x3) la_25 rfl ?_
  refine (rulesOf_ok (hp0.ext X3) hv hR).mono fun rv w4 ⟨⟨g0, sg, ov, m, sb, hrv, hmat, hsb, hsbl, hov, hm, hs⟩, x4⟩ => ?_
  subst hrv
  refine asK (by first | exact sa_25 | exact sa_27 | exact sa_30 | exact sa_34 | exact sa_36 | exact sa_38 | exact sa_40 | exact sa_47 | exact sa_49 | exact sa_68 | exact sa_70 | exact sa_72 | exact sa_74 | exact sa_76 | exact sa_78 | exact sa_82 | exact sa_85) rfl (by have := oneC_ints hov; show (oneC (sl R g0) && (oneC (sl R sg) && (oneC ov && true))) = true; rw [this]; rfl) fun w5 hu5 x5 => ?_
  have x25 := (x3.trans x4).trans x5
  refine ldB (hb2.ext x25) (by first | exact fa_25_0 | exact fa_25_1 | exact fa_25_2 | exact fa_27_0 | exact fa_30_0 | exact fa_30_1 | exact fa_30_2 | exact fa_34_0 | exact fa_34_1 | exact fa_36_0 | exact fa_36_1 | exact fa_36_2 | exact fa_36_3 | exact fa_38_0 | exact fa_40_0 | exact fa_40_1 | exact fa_49_0 | exact fa_49_1 | exact fa_49_2 | exact fa_68_0 | exact fa_68_1 | exact fa_68_2 | exact fa_68_3 | exact fa_70_0 | exact fa_70_1 | exact fa_72_0 | exact fa_72_3 | exact fa_72_4 | exact fa_74_0 | exact fa_74_1 | exact fa_74_2 | exact fa_76_0 | exact fa_76_1 | exact fa_76_2 | exact fa_78_0 | exact fa_78_1 | exact fa_82_0 | exact fa_82_1 | exact fa_85_0) (by first | exact l1_22 | exact l1_23 | exact l1_3 | exact l1_4 | exact l1_46 | exact l1_47 | exact l1_54) rfl ?_
  refine mkBv hR Try.underlying22 inf3 rfl (n := R) (by omega) (by omega) fun w6 hof6 x6 hsz6 => ?_
  refine bld bd_40 [(0, .slice (some ⟨w5.heap.size, 0, none⟩) R R)] rfl rfl ?_
  refine asK (by first | exact sa_25 | exact sa_27 | exact sa_30 | exact sa_34 | exact sa_36 | exact sa_38 | exact sa_40 | exact sa_47 | exact sa_49 | exact sa_68 | exact sa_70 | exact sa_72 | exact sa_74 | exact sa_76 | exact sa_78 | exact sa_82 | exact sa_85) rfl rfl fun w7 hx7 x7 => ?_
  have x57 := x6.trans x7
  have hlx7 := hx7.lt
  have hord := addAll_len [] (ordL p R)
  have hordl : (addAll [] (ordL p R)).length ≤ 1000 := by
    have hol : (ordL p R).length ≤ 300 := by
      simp only [ordL, List.length_append, List.length_map, upTo_len]
      omega
    simp only [List.length_nil] at hord
    omega
  have hnd := (addAll_facts (ordL p R) []).1 List.nodup_nil
  refine ldB (hu5.ext x57).boxed (by first | exact fa_25_0 | exact fa_25_1 | exact fa_25_2 | exact fa_27_0 | exact fa_30_0 | exact fa_30_1 | exact fa_30_2 | exact fa_34_0 | exact fa_34_1 | exact fa_36_0 | exact fa_36_1 | exact fa_36_2 | exact fa_36_3 | exact fa_38_0 | exact fa_40_0 | exact fa_40_1 | exact fa_49_0 | exact fa_49_1 | exact fa_49_2 | exact fa_68_0 | exact fa_68_1 | exact fa_68_2 | exact fa_68_3 | exact fa_70_0 | exact fa_70_1 | exact fa_72_0 | exact fa_72_3 | exact fa_72_4 | exact fa_74_0 | exact fa_74_1 | exact fa_74_2 | exact fa_76_0 | exact fa_76_1 | exact fa_76_2 | exact fa_78_0 | exact fa_78_1 | exact fa_82_0 | exact fa_82_1 | exact fa_85_0) (by first | exact l1_22 | exact l1_23 | exact l1_3 | exact l1_4 | exact l1_46 | exact l1_47 | exact l1_54) rfl (lnx (by first | exact xa_22 | exact xa_23 | exact xa_46 | exact xa_47) (hov.ext (x5.trans x57)) ?_)
  refine ⟨fun v w' => ∃ (i : Nat) (of : List Int) (slots : Int), v = i64 i ∧ i ≤ (addAll [] (ordL p R)).length ∧ Ext w5 w' ∧ Blk w' w5.heap.size (of.map i64) 3 ∧ Blk w' w6.heap.size [.slice (some ⟨w5.heap.size, 0, none⟩) R R, i64 slots] 40 ∧ Al p R (addAll [] (ordL p R)) i of slots ∧ Q i of slots,
    fun v _ => (addAll [] (ordL p R)).length - (RowKit.intOf v).toNat, ⟨0, List.replicate R 0, 0, rfl, Nat.zero_le _, x57, by simpa using hof6.ext x7, hx7, Al.start _ _ _, q0⟩, ?_⟩
  rintro _ w8 ⟨i, of, slots, rfl, hi, x8, hof8, hx8, hal, hq⟩ _
  have hlen := hal.len; have hs0 := hal.s0; have hs1 := hal.s1
  refine V_lss.2 (ifD_dec (fun hlt => ?_) fun hge => ?_)
  · have hi' : i < (addAll [] (ordL p R)).length := by omega
    obtain ⟨rz, hrz⟩ := ex_get hi'
    have hrb := (ord_mem hv hR rz).1 (List.mem_of_getElem? hrz)
    obtain ⟨r, rfl⟩ : ∃ r : Nat, rz = r := ⟨rz.toNat, by omega⟩
    have hr : r < R := by omega
    have hof0 : of[r]? = some 0 := by
      obtain ⟨x, hx⟩ := ex_get (l := of) (j := r) (by omega)
      rw [hx, (hal.placed r x hx).2 fun hmem => ?_]
      obtain ⟨j, hj⟩ := List.getElem?_of_mem hmem
      rw [List.getElem?_take] at hj
      split at hj
      · have := nodup_idx hnd hj hrz
        omega
      · cases hj
    refine ldx xa_22 l1_3 (hov.ext (x5.trans x8)) (by omega) (by omega) (getI hrz) ?_
    refine ⟨fun v w' => ∃ at' : Int, v = i64 at' ∧ Ext w8 w' ∧ (at' = 5 ∨ (at' = 6 ∧ ¬ MayS p of r 5) ∨ (16 ≤ at' ∧ ¬ MayS p of r 5 ∧ ¬ MayS p of r 6)) ∧ ∀ x, 16 ≤ x → x < at' → x ∈ of, fun v _ => (100 - RowKit.intOf v).toNat,
      ⟨5, rfl, Ext.refl _, .inl rfl, fun x h1 h2 => by omega⟩, ?_⟩
    rintro _ w9 ⟨at', rfl, x9, hat, hfree⟩ _
    have hat55 : at' ≤ 55 := by
      by_cases h16 : 16 ≤ at'
      · have := slot_free hlen hof0 h16 hfree
        omega
      · omega
    have x59 := x8.trans x9
    have hofS : IntsAre w9 (.slice (some ⟨w5.heap.size, 0, none⟩) R R) of := by
      have := (hof8.ext x9).slice (n := of.length) (by simp) (by unfold maxLen; omega)
      unfold IntsAre
      rw [← hlen]
      exact this
    refine ldA (hu5.ext x59).boxed la_49 rfl ?_
    refine ldB (hx8.ext x9).boxed (by first | exact fa_25_0 | exact fa_25_1 | exact fa_25_2 | exact fa_27_0 | exact fa_30_0 | exact fa_30_1 | exact fa_30_2 | exact fa_34_0 | exact fa_34_1 | exact fa_36_0 | exact fa_36_1 | exact fa_36_2 | exact fa_36_3 | exact fa_38_0 | exact fa_40_0 | exact fa_40_1 | exact fa_49_0 | exact fa_49_1 | exact fa_49_2 | exact fa_68_0 | exact fa_68_1 | exact fa_68_2 | exact fa_68_3 | exact fa_70_0 | exact fa_70_1 | exact fa_72_0 | exact fa_72_3 | exact fa_72_4 | exact fa_74_0 | exact fa_74_1 | exact fa_74_2 | exact fa_76_0 | exact fa_76_1 | exact fa_76_2 | exact fa_78_0 | exact fa_78_1 | exact fa_82_0 | exact fa_82_1 | exact fa_85_0) (by first | exact l1_22 | exact l1_23 | exact l1_3 | exact l1_4 | exact l1_46 | exact l1_47 | exact l1_54) rfl ?_
    refine (may_ok (by omega) ((hmat.ext x5).ext x59) ((hsb.ext x5).ext x59) hsbl hofS hlen hr).mono fun q w10 ⟨⟨ok, hqv, hok⟩, x10⟩ => ?_
    subst hqv
    rw [may_s hlen hm hs hr] at hok
    refine V_not.2 (ifD.mk (fun hn => ?_) fun hn => ?_)
    · have hnot : ¬ MayS p of r at' := fun h => by have := hok.2 h; subst this; cases hn
      refine V_add.2 ?_
      rw [wrap_id (by omega) (by omega)]
      refine V_eqlI.2 (ifD_dec (fun h7 => ?_) fun h7 => ?_)
      · have h6 : at' = 6 := by omega
        subst h6
        refine ⟨⟨16, rfl, x9.trans x10, .inr (.inr ⟨by omega, ?_, hnot⟩), fun x h1 h2 => by omega⟩, by simp only [intOf_i64]; decide⟩
        rcases hat with h | ⟨_, h⟩ | ⟨h, _⟩
        · omega
        · exact h
        · omega
      · refine ⟨⟨at' + 1, rfl, x9.trans x10, ?_, fun x h1 h2 => ?_⟩, by simp only [intOf_i64]; omega⟩
        · rcases hat with rfl | ⟨h, _⟩ | ⟨h, h1, h2⟩
          · exact .inr (.inl ⟨by omega, hnot⟩)
          · omega
          · exact .inr (.inr ⟨by omega, h1, h2⟩)
        · by_cases hxa : x = at'
          · subst hxa
            refine Classical.byContradiction fun hno => hnot ⟨fun _ => by omega, fun o y hy _ he => hno (he ▸ List.mem_of_getElem? hy)⟩
          · exact hfree x h1 (by omega)
    · have hyes : MayS p of r at' := hok.1 (by simpa using hn)
      have x810 := x9.trans x10
      refine ldB (hx8.ext x810).boxed (by first | exact fa_25_0 | exact fa_25_1 | exact fa_25_2 | exact fa_27_0 | exact fa_30_0 | exact fa_30_1 | exact fa_30_2 | exact fa_34_0 | exact fa_34_1 | exact fa_36_0 | exact fa_36_1 | exact fa_36_2 | exact fa_36_3 | exact fa_38_0 | exact fa_40_0 | exact fa_40_1 | exact fa_49_0 | exact fa_49_1 | exact fa_49_2 | exact fa_68_0 | exact fa_68_1 | exact fa_68_2 | exact fa_68_3 | exact fa_70_0 | exact fa_70_1 | exact fa_72_0 | exact fa_72_3 | exact fa_72_4 | exact fa_74_0 | exact fa_74_1 | exact fa_74_2 | exact fa_76_0 | exact fa_76_1 | exact fa_76_2 | exact fa_78_0 | exact fa_78_1 | exact fa_82_0 | exact fa_82_1 | exact fa_85_0) (by first | exact l1_22 | exact l1_23 | exact l1_3 | exact l1_4 | exact l1_46 | exact l1_47 | exact l1_54) rfl ?_
      refine stB xa_22 inf3 (hof8.ext x810) (by simp [hlen]) (by omega) (by omega) rfl ?_
      have hx11 : Blk (w10.setCell ⟨w5.heap.size, (r : Int).toNat, none⟩ (i64 at')) w6.heap.size [.slice (some ⟨w5.heap.size, 0, none⟩) R R, i64 slots] 40 := (hx8.ext x810).other (by omega)
      refine ldB hx11.boxed (by first | exact fa_25_0 | exact fa_25_1 | exact fa_25_2 | exact fa_27_0 | exact fa_30_0 | exact fa_30_1 | exact fa_30_2 | exact fa_34_0 | exact fa_34_1 | exact fa_36_0 | exact fa_36_1 | exact fa_36_2 | exact fa_36_3 | exact fa_38_0 | exact fa_40_0 | exact fa_40_1 | exact fa_49_0 | exact fa_49_1 | exact fa_49_2 | exact fa_68_0 | exact fa_68_1 | exact fa_68_2 | exact fa_68_3 | exact fa_70_0 | exact fa_70_1 | exact fa_72_0 | exact fa_72_3 | exact fa_72_4 | exact fa_74_0 | exact fa_74_1 | exact fa_74_2 | exact fa_76_0 | exact fa_76_1 | exact fa_76_2 | exact fa_78_0 | exact fa_78_1 | exact fa_82_0 | exact fa_82_1 | exact fa_85_0) (by first | exact l1_22 | exact l1_23 | exact l1_3 | exact l1_4 | exact l1_46 | exact l1_47 | exact l1_54) rfl ?_
      refine V_sub.2 (V_add.2 ?_)
      rw [show IntKind.i64.wrap (at' - 16) = at' - 16 from wrap_id (by omega) (by omega), wrap_id (by omega) (by omega)]
      refine mx2 fun c hc1 hc2 hc3 => ?_
      refine stF (by first | exact fa_25_0 | exact fa_25_1 | exact fa_25_2 | exact fa_27_0 | exact fa_30_0 | exact fa_30_1 | exact fa_30_2 | exact fa_34_0 | exact fa_34_1 | exact fa_36_0 | exact fa_36_1 | exact fa_36_2 | exact fa_36_3 | exact fa_38_0 | exact fa_40_0 | exact fa_40_1 | exact fa_49_0 | exact fa_49_1 | exact fa_49_2 | exact fa_68_0 | exact fa_68_1 | exact fa_68_2 | exact fa_68_3 | exact fa_70_0 | exact fa_70_1 | exact fa_72_0 | exact fa_72_3 | exact fa_72_4 | exact fa_74_0 | exact fa_74_1 | exact fa_74_2 | exact fa_76_0 | exact fa_76_1 | exact fa_76_2 | exact fa_78_0 | exact fa_78_1 | exact fa_82_0 | exact fa_82_1 | exact fa_85_0) inf3 hx11 rfl (by simp) rfl (V_add.2 ?_)
      rw [wrap_id (by omega) (by omega), i64_succ]
      have hcm : c = max slots (at' - 15) := by omega
      subst hcm
      refine ⟨⟨i + 1, of.set r at', _, rfl, by omega, ((x8.trans x810).setCell (Nat.le_refl _) _).setCell (by omega) _, ?_, hx11.set 1 _, hal.step hr hrz hyes (by omega) hat55, qs i of slots r at' hal hq hrz hr hyes hat⟩, by simp only [intOf_i64]; omega⟩
      have h1 := (hof8.ext x810).set r (i64 at')
      have h2 := Blk.other (g' := w6.heap.size) (j := 1) (u := i64 (max slots (at' - 15))) h1 (by omega)
      rw [List.map_set]
      simpa using h2
  · have hin : i = (addAll [] (ordL p R)).length := by omega
    subst hin
    refine ldA hx8.boxed la_40 rfl ?_
    have hzl := hz.lt
    have h25 := x25.size
    refine stA inf40 (hz.ext (x25.trans x8)) (l := [.slice (some ⟨w5.heap.size, 0, none⟩) R R, i64 slots]) rfl rfl rfl rfl fun w' h' hch => ?_
    refine ⟨_, r_var Try.underlying40 rfl inf40 h' rfl, ⟨_, rfl⟩, ⟨_, of, slots, rfl, ?_, hal.good hv hR (Nat.le_refl _), hq⟩, hch.ext w (X2.trans (x25.trans x8)) x1.size⟩
    have := (hch.other (by omega) hof8).slice (n := of.length) (by simp) (by unfold maxLen; omega)
    unfold IntsAre
    rw [← hlen]
    exact this
end Go.Proofs.Ytendijaeihljeaa
namespace Go.Proofs.Ytendijaeihljeaa
open Go.Vc
/-- Nodes one behind the other; L is what is alive behind the last one. -/
structure Few (gs : List GNode) (R : Nat) (L : List Int) (lv : List (List Int)) (pt : Int → Int) : Prop where
  len : lv.length = gs.length
  pos : 1 ≤ gs.length
  last : lv[gs.length - 1]? = some L
  str : ∀ (k : Nat) g, gs[k]? = some g → (∀ i, g.nx i = [i + 1]) ∧ g.leavesB = true ∧ g.okF ∧ (∀ r ∈ g.us, 0 ≤ r ∧ r < R) ∧ ((0 ≤ g.df ∧ g.df < R) ∨ (g.df = -1 ∧ g.bareN = true)) ∧ g.args = []
  clo : ∀ (k : Nat) g l l', gs[k + 1]? = some g → lv[k]? = some l → lv[k + 1]? = some l' → (∀ r ∈ g.us, r ∈ l) ∧ ∀ r ∈ l', r ≠ g.df → r ∈ l
  beg : ∀ g l, gs[0]? = some g → lv[0]? = some l → g.us = [] ∧ ∀ r ∈ l, r = g.df
  bd : ∀ (k : Nat) l, lv[k]? = some l → ∀ r ∈ l, 0 ≤ r ∧ r < R
  pr : ∀ (k : Nat) g l, gs[k]? = some g → lv[k]? = some l → ∀ a b, (a ∈ l ∨ a = g.df) → (b ∈ l ∨ b = g.df) → 0 ≤ b → b < a → b = pt a
  dfs : (gs.map GNode.df).filter (fun r => decide (0 ≤ r)) = upTo R
theorem getE_snoc {α : Type} {l : List α} {x y : α} {k : Nat} (h : (l ++ [x])[k]? = some y) : (k < l.length ∧ l[k]? = some y) ∨ (k = l.length ∧ y = x) := by
  by_cases hk : k < l.length
  · rw [List.getElem?_append_left hk] at h
    exact .inl ⟨hk, h⟩
  · have hlt := (List.getElem?_eq_some_iff.1 h).1
    simp at hlt
    have : k = l.length := by omega
    subst this
    simp at h
    exact .inr ⟨rfl, h.symm⟩
/-- One more node. -/
theorem Few.snoc {gs : List GNode} {R R' : Nat} {L L' : List Int} {lv : List (List Int)} {pt : Int → Int} (h : Few gs R L lv pt) (g : GNode) (q : Int) (h1 : ∀ i, g.nx i = [i + 1]) (h2 : g.leavesB = true) (h3 : g.okF) (hu : ∀ r ∈ g.us, r ∈ L) (hl : ∀ r ∈ L', r ≠ g.df → r ∈ L)
    (hd : (g.df = -1 ∧ g.bareN = true ∧ R' = R) ∨ (g.df = R ∧ R' = R + 1)) (hb : ∀ r ∈ L', 0 ≤ r ∧ r < R') (hp : ∀ a b, (a ∈ L' ∨ a = g.df) → (b ∈ L' ∨ b = g.df) → 0 ≤ b → b < a → (a = R ∧ b = q)) (ha : g.args = []) :
    Few (gs ++ [g]) R' L' (lv ++ [L']) (fun a => if a = R then q else pt a) := by
  have hRR : R ≤ R' := by omega
  have hll := h.len
  have hpos := h.pos
  have hbL := h.bd _ _ h.last
  refine ⟨by simp [h.len], by simp, by simp [← h.len], fun k g' hk => ?_, fun k g' l l' hk hl1 hl2 => ?_, fun g' l hk hl1 => ?_, fun k l hk r hr => ?_, fun k g' l hk hlk a b ha hb hb0 hba => ?_, ?_⟩
  · rcases getE_snoc hk with ⟨_, hk⟩ | ⟨_, rfl⟩
    · obtain ⟨s1, s2, s3, s4, s5, s6⟩ := h.str k g' hk
      exact ⟨s1, s2, s3, fun r hr => by have := s4 r hr; omega, s5.elim (fun h => .inl ⟨h.1, by omega⟩) .inr, s6⟩
    · exact ⟨h1, h2, h3, fun r hr => by have := hbL r (hu r hr); omega, by rcases hd with ⟨d1, d2, _⟩ | ⟨d1, _⟩; exact .inr ⟨d1, d2⟩; exact .inl (by omega), ha⟩
  · rcases getE_snoc hk with ⟨hklt, hk⟩ | ⟨hke, rfl⟩
    · rw [List.getElem?_append_left (by omega)] at hl1 hl2
      exact h.clo k g' l l' hk hl1 hl2
    · rw [List.getElem?_append_left (by omega)] at hl1
      have hlast := h.last
      rw [show gs.length - 1 = k by omega, hl1] at hlast
      cases hlast
      rw [hke, ← hll] at hl2
      simp at hl2
      subst hl2
      exact ⟨hu, hl⟩
  · rw [List.getElem?_append_left (by omega)] at hk hl1
    exact h.beg g' l hk hl1
  · rcases getE_snoc hk with ⟨_, hk⟩ | ⟨_, rfl⟩
    · have := h.bd k l hk r hr; omega
    · exact hb r hr
  · rcases getE_snoc hk with ⟨hklt, hk⟩ | ⟨hke, rfl⟩
    · rw [List.getElem?_append_left (by omega)] at hlk
      have haR : a < R := by
        rcases ha with ha | ha
        · exact (h.bd k l hlk a ha).2
        · have := (h.str k g' hk).2.2.2.2.1
          omega
      have := h.pr k g' l hk hlk a b ha hb hb0 hba
      show b = if a = (R : Int) then q else pt a
      rw [if_neg (by omega)]
      exact this
    · rw [hke, ← hll] at hlk
      simp at hlk
      subst hlk
      obtain ⟨e1, e2⟩ := hp a b ha hb hb0 hba
      show b = if a = (R : Int) then q else pt a
      rw [if_pos e1]
      exact e2
  · rw [List.map_append, List.filter_append, h.dfs]
    rcases hd with ⟨d1, _, rfl⟩ | ⟨d1, rfl⟩
    · simp [d1]
    · rw [upTo_succ]
      simp [d1]
theorem Few.const {n : Int} : Few [.const 0 n] 1 [0] [[0]] (fun _ => 0) := by
  have one : ∀ {α : Type} {x y : α} {k : Nat}, [x][k]? = some y → k = 0 ∧ y = x := by
    intro α x y k h
    have := (List.getElem?_eq_some_iff.1 h).1
    simp at this
    subst this
    simp at h
    exact ⟨rfl, h.symm⟩
  refine ⟨rfl, by simp, rfl, fun k g hk => ?_, fun k g l l' hk _ _ => ?_, fun g l hk hl => ?_, fun k l hk r hr => ?_, fun k g l hk hl a b ha hb h0 hlt => ?_, rfl⟩
  · obtain ⟨_, rfl⟩ := one hk
    exact ⟨fun _ => rfl, rfl, trivial, fun r hr => by simp [GNode.us] at hr, .inl ⟨by simp [GNode.df], by simp [GNode.df]⟩, rfl⟩
  · simp at hk
  · obtain ⟨_, rfl⟩ := one hk
    obtain ⟨_, rfl⟩ := one hl
    exact ⟨rfl, fun r hr => by simpa [GNode.df] using hr⟩
  · obtain ⟨_, rfl⟩ := one hk
    simp at hr
    omega
  · obtain ⟨_, rfl⟩ := one hk
    obtain ⟨_, rfl⟩ := one hl
    simp [GNode.df] at ha hb
    omega
/-- The whole program. -/
def fewP (gs : List GNode) (R : Nat) (now : Int) : GProg := ⟨0, R, gs ++ [.ret now]⟩
theorem Few.at {gs : List GNode} {R : Nat} {now : Int} {k : Nat} (h : k < gs.length) : gs[k]? = some ((fewP gs R now).at' k) := by
  unfold GProg.at' fewP
  obtain ⟨g, hg⟩ := ex_get h
  simp only [List.getD_eq_getElem?_getD, List.getElem?_append_left h, hg]
  rfl
theorem Few.atLast {gs : List GNode} {R : Nat} {now : Int} : (fewP gs R now).at' gs.length = .ret now := by simp [GProg.at', fewP]
theorem Few.ok {gs : List GNode} {R : Nat} {now : Int} {lv : List (List Int)} {pt : Int → Int} (h : Few gs R [now] lv pt) (hR : R ≤ 40) (hl : gs.length ≤ 249) : OkProg (fewP gs R now) := by
  have hb := h.bd _ _ h.last now (by simp)
  refine ⟨by simp [fewP], by simp [fewP]; omega, by simp [fewP], by simp [fewP]; omega, by simp [fewP], by simp [fewP], by simp [fewP], fun i n hi => ?_⟩
  have hlen : ((fewP gs R now).nodes.length : Int) = gs.length + 1 := by simp [fewP]
  rcases getE_snoc (show (gs ++ [GNode.ret now])[i]? = some n from hi) with ⟨hlt, hi⟩ | ⟨_, rfl⟩
  · obtain ⟨s1, s2, s3, s4, s5, s6⟩ := h.str i n hi
    refine ⟨s3, s4, fun r hr => ?_, s5⟩
    rw [s1] at hr
    simp at hr
    omega
  · refine ⟨trivial, fun r hr => ?_, fun r hr => by simp [GNode.nx] at hr, .inr ⟨rfl, rfl⟩⟩
    simp only [GNode.us] at hr
    split at hr
    · cases hr
    · simp at hr
      subst hr
      exact hb
/-- What is alive is told. -/
theorem Few.alive {gs : List GNode} {R : Nat} {now : Int} {lv : List (List Int)} {pt : Int → Int} (h : Few gs R [now] lv pt) {k r : Nat} (hal : Alive (fewP gs R now) k r) : k < gs.length → ∃ l, lv[k]? = some l ∧ (r : Int) ∈ l := by
  have hll := h.len
  have next : ∀ {k to : Nat}, k < gs.length → ((to : Int) ∈ ((fewP gs R now).at' k).nx k) → to = k + 1 := by
    intro k to hk ht
    rw [(h.str k _ (Few.at hk)).1] at ht
    simp at ht
    omega
  induction hal with
  | @use k to r ht hu =>
    intro hk
    have hto := next hk ht
    subst hto
    obtain ⟨l, hl⟩ := ex_get (l := lv) (j := k) (by omega)
    by_cases hk1 : k + 1 < gs.length
    · obtain ⟨l', hl'⟩ := ex_get (l := lv) (j := k + 1) (by omega)
      exact ⟨l, hl, (h.clo k _ l l' (Few.at hk1) hl hl').1 _ hu⟩
    · have e : k + 1 = gs.length := by omega
      rw [e, Few.atLast] at hu
      have hlast := h.last
      rw [show gs.length - 1 = k by omega] at hlast
      refine ⟨_, hlast, ?_⟩
      simp only [GNode.us] at hu
      split at hu
      · cases hu
      · exact hu
  | @pass k to r ht hne hal ih =>
    intro hk
    have hto := next hk ht
    subst hto
    obtain ⟨l, hl⟩ := ex_get (l := lv) (j := k) (by omega)
    by_cases hk1 : k + 1 < gs.length
    · obtain ⟨l', hl', hr⟩ := ih hk1
      exact ⟨l, hl, (h.clo k _ l l' (Few.at hk1) hl hl').2 _ hr hne⟩
    · have e : k + 1 = gs.length := by omega
      rw [e] at hal
      obtain ⟨t, ht2, _⟩ := alive_iff.1 hal
      rw [Few.atLast] at ht2
      simp [GNode.nx] at ht2
theorem Few.noEnd {gs : List GNode} {R : Nat} {now : Int} {k r : Nat} (hk : gs.length ≤ k) (hk2 : k < (fewP gs R now).nodes.length) : ¬ Alive (fewP gs R now) k r := by
  intro hal
  have : k = gs.length := by simp [fewP] at hk2; omega
  subst this
  obtain ⟨t, ht2, _⟩ := alive_iff.1 hal
  rw [Few.atLast] at ht2
  simp [GNode.nx] at ht2
theorem Few.meets {gs : List GNode} {R : Nat} {now : Int} {lv : List (List Int)} {pt : Int → Int} (h : Few gs R [now] lv pt) {a b : Nat} (hm : Meets (fewP gs R now) a b) (hba : b < a) : (b : Int) = pt a := by
  obtain ⟨hne, hset⟩ := hm
  rcases hset with ⟨h1, h2⟩ | ⟨k, hk, h1, h2⟩
  · exfalso
    have none : ∀ {r : Nat}, SetS (fewP gs R now) r → False := by
      intro r hr
      unfold SetS at hr
      rcases hr with hr | hr
      · have hpos := h.pos
        obtain ⟨l, hl⟩ := ex_get (l := lv) (j := 0) (by have := h.len; omega)
        obtain ⟨b1, b2⟩ := h.beg _ l (Few.at (R := R) (now := now) (by omega)) hl
        rcases hr with hr | ⟨hr1, hr2⟩
        · rw [b1] at hr; cases hr
        · obtain ⟨l', hl', hmem⟩ := h.alive hr2 (by omega)
          rw [hl] at hl'
          cases hl'
          exact hr1 (b2 _ hmem)
      · simp [fewP] at hr
        omega
    exact none h1
  · by_cases hkl : k < gs.length
    · obtain ⟨l, hl⟩ := ex_get (l := lv) (j := k) (by have := h.len; omega)
      have conv : ∀ {r : Nat}, SetK (fewP gs R now) k r → ((r : Int) ∈ l ∨ (r : Int) = ((fewP gs R now).at' k).df) := by
        intro r hr
        rcases hr with hr | hr
        · obtain ⟨l', hl', hmem⟩ := h.alive hr hkl
          rw [hl] at hl'
          cases hl'
          exact .inl hmem
        · exact .inr hr
      exact h.pr k _ l (Few.at hkl) hl a b (conv h1) (conv h2) (by omega) (by omega)
    · exfalso
      have hke : k = gs.length := by simp [fewP] at hk; omega
      rcases h1 with h1 | h1
      · exact Few.noEnd (by omega) hk h1
      · rw [hke, Few.atLast] at h1
        simp [GNode.df] at h1
theorem Few.noSlot {gs : List GNode} {R : Nat} {now : Int} {lv : List (List Int)} {pt : Int → Int} (h : Few gs R [now] lv pt) {r : Nat} : ¬ Slotted (fewP gs R now) r := by
  rintro ⟨k, hk, hlb, hal, _⟩
  by_cases hkl : k < gs.length
  · rw [(h.str k _ (Few.at hkl)).2.1] at hlb
    cases hlb
  · exact Few.noEnd (by omega) hk hal
theorem addAll_upTo : ∀ n, addAll [] (upTo n) = upTo n
  | 0 => rfl
  | n + 1 => by
    rw [upTo_succ, addAll_snoc, addAll_upTo n]
    unfold addO
    rw [if_pos ⟨by omega, fun hm => by
      obtain ⟨j, hj, he⟩ := List.mem_map.1 hm
      have := List.mem_range.1 hj
      omega⟩]
theorem addAll_filter : ∀ (l o : List Int), addAll o l = addAll o (l.filter fun r => decide (0 ≤ r))
  | [], o => rfl
  | r :: l, o => by
    have e : addAll o (r :: l) = addAll (addO o r) l := rfl
    rw [e, addAll_filter l]
    by_cases h : 0 ≤ r
    · rw [List.filter_cons_of_pos (by simpa using h)]
      rfl
    · rw [List.filter_cons_of_neg (by simpa using h)]
      unfold addO
      rw [if_neg (fun hc => h hc.1)]
theorem addAll_sub : ∀ (l o : List Int), (∀ x ∈ l, x ∈ o) → addAll o l = o
  | [], o, _ => rfl
  | r :: l, o, h => by
    have e : addAll o (r :: l) = addAll (addO o r) l := rfl
    have : addO o r = o := by
      unfold addO
      rw [if_neg (fun hc => hc.2 (h r (by simp)))]
    rw [e, this]
    exact addAll_sub l o fun x hx => h x (by simp [hx])
theorem addAll_append (o l l' : List Int) : addAll o (l ++ l') = addAll (addAll o l) l' := by simp [addAll, List.foldl_append]
theorem Few.order {gs : List GNode} {R : Nat} {now : Int} {lv : List (List Int)} {pt : Int → Int} (h : Few gs R [now] lv pt) : addAll [] (ordL (fewP gs R now) R) = upTo R := by
  have e : ordL (fewP gs R now) R = (gs.map GNode.df ++ [-1]) ++ upTo R := by simp [ordL, fewP, upTo, GNode.df]
  rw [e, addAll_append, addAll_append, addAll_filter (gs.map GNode.df), h.dfs, addAll_upTo]
  rw [show addAll (upTo R) [-1] = upTo R from rfl]
  exact addAll_sub _ _ fun x hx => hx
/-- It needs no slots. -/
theorem Few.free {gs : List GNode} {R : Nat} {now : Int} {lv : List (List Int)} {pt : Int → Int} (h : Few gs R [now] lv pt) {i r : Nat} {of : List Int} {slots at' : Int} (hal : Al (fewP gs R now) R (addAll [] (ordL (fewP gs R now) R)) i of slots) (hi : (addAll [] (ordL (fewP gs R now) R))[i]? = some (r : Int)) (hr : r < R)
    (hat : at' = 5 ∨ (at' = 6 ∧ ¬ MayS (fewP gs R now) of r 5) ∨ (16 ≤ at' ∧ ¬ MayS (fewP gs R now) of r 5 ∧ ¬ MayS (fewP gs R now) of r 6)) : at' = 5 ∨ at' = 6 := by
  rcases hat with h1 | ⟨h1, _⟩ | ⟨_, h5, h6⟩
  · exact .inl h1
  · exact .inr h1
  exfalso
  rw [h.order] at hi hal
  have hir : i = r := by
    have hlt := (List.getElem?_eq_some_iff.1 hi).1
    rw [upTo_len] at hlt
    rw [upTo, List.getElem?_map, List.getElem?_range hlt] at hi
    simp at hi
    omega
  have find : ∀ x : Int, x ≠ 0 → ¬ MayS (fewP gs R now) of r x → ∃ o : Nat, of[o]? = some x ∧ Meets (fewP gs R now) r o ∧ o < r := by
    intro x hx0 hno
    refine Classical.byContradiction fun hn => hno ⟨fun hs => absurd hs h.noSlot, fun o y hy hm he => hn ⟨o, he ▸ hy, hm, ?_⟩⟩
    refine Classical.byContradiction fun hge => ?_
    have := (hal.placed o y hy).2 fun hmem => ?_
    · exact hx0 (he ▸ this)
    · obtain ⟨j, hj⟩ := List.getElem?_of_mem hmem
      rw [List.getElem?_take] at hj
      split at hj
      · rename_i hji
        have hlt := (List.getElem?_eq_some_iff.1 hj).1
        rw [upTo_len] at hlt
        rw [upTo, List.getElem?_map, List.getElem?_range hlt] at hj
        simp at hj
        omega
      · cases hj
  obtain ⟨o5, p5, m5, l5⟩ := find 5 (by decide) h5
  obtain ⟨o6, p6, m6, l6⟩ := find 6 (by decide) h6
  have e5 := h.meets m5 l5
  have e6 := h.meets m6 l6
  have : o5 = o6 := by omega
  subst this
  rw [p5] at p6
  cases p6
end Go.Proofs.Ytendijaeihljeaa
namespace Go.Proofs.Ytendijaeihljeaa
open Go.Vc
def ArgsLike (w : World) (sv : Value) (l : List Int) : Prop := (∃ a c, sv = .slice a l.length c) ∧ (0 < l.length → IntsAre w sv l)
/-- The program under way: its box, its nodes. -/
structure PB (w0 w : World) (bx : Nat) (nv : Value) (gs : List GNode) (R : Int) : Prop where
  x : Ext w0 w
  box : Blk w bx [i64 0, i64 R, nv] 25
  own : w.ownsRow w0.heap.size 54 1 nv gs.length (gs.map (GNode.val (.slice none 0 0)))
  lo : w0.heap.size ≤ bx
  ne : nv.ownBlock ≠ some bx
theorem val_one (g : GNode) (sv : Value) : oneC (g.val sv) = true := by cases g <;> rfl
theorem vals_one (l : List GNode) : (l.map (GNode.val (.slice none 0 0))).all oneC = true := by
  rw [List.all_eq_true]
  intro v hv
  obtain ⟨g, _, rfl⟩ := List.mem_map.1 hv
  exact val_one g _
theorem PB.ext {w0 w w' : World} {bx : Nat} {nv : Value} {gs : List GNode} {R : Int} (h : PB w0 w bx nv gs R) (hx : Ext w w') : PB w0 w' bx nv gs R := ⟨h.x.trans hx, h.box.ext hx, hx.own h.own, h.lo, h.ne⟩
/-- Nodes are appended. -/
theorem PB.app {w0 w : World} {bx : Nat} {nv : Value} {gs : List GNode} {R : Int} (h : PB w0 w bx nv gs R) (news : List GNode) {n : Nat} {parts : Array (Nat × Value)} (hn : n = news.length) (hn0 : 0 < n) (hp : parts = ((List.range' 0 news.length).zip (news.map (GNode.val (.slice none 0 0)))).toArray) (hl : gs.length + n ≤ 1000) {K : World → Prop}
    (hk : ∀ nv' w', PB w0 w' bx nv' (gs ++ news) R → K w') :
    V Try.prog (Instr.buildSlice 23 n parts) w fun t13 w8 => V Try.prog (Builtin.append_ #[23, 23] 23 #[nv, t13]) w8 fun t14 w9 => V Try.prog (Instr.fieldAt 25 (.pointer (some ⟨bx, 0, none⟩)) 2) w9 fun t15 w10 =>
      U Try.prog (Instr.storeAt 23 t15 t14) w10 fun _ w11 => K w11 := by
  subst hn
  refine bsl (by first | exact xe_22 | exact xe_23 | exact xe_46 | exact xe_47) (news.map (GNode.val (.slice none 0 0))) (by simp) (by rw [hp]; simp) (by simp; omega) (vals_one _) fun v2 w7 ho7 x7 => ?_
  have h7 := h.ext x7
  refine apL (by first | exact xe_22 | exact xe_23 | exact xe_46 | exact xe_47) h7.own ho7 hn0 (vals_one _) (by omega) (by unfold maxLen; omega) h7.x.size fun g cap w8 ho8 hg8 hlies => ?_
  have f : Fr (fun i => nv.ownBlock = some i) w7 w8 := Fr.of_grown hg8 fun k hk => hk
  have hlo := h7.lo
  have hbl := h7.box.lt
  have hne : g ≠ bx := by
    rcases hlies with hl | hl
    · intro he; exact h7.ne (he ▸ hl)
    · omega
  have hb : Blk w8 bx [i64 0, i64 R, nv] 25 := f.blk h7.box h7.ne
  refine stF (by first | exact fa_25_0 | exact fa_25_1 | exact fa_25_2 | exact fa_27_0 | exact fa_30_0 | exact fa_30_1 | exact fa_30_2 | exact fa_34_0 | exact fa_34_1 | exact fa_36_0 | exact fa_36_1 | exact fa_36_2 | exact fa_36_3 | exact fa_38_0 | exact fa_40_0 | exact fa_40_1 | exact fa_49_0 | exact fa_49_1 | exact fa_49_2 | exact fa_68_0 | exact fa_68_1 | exact fa_68_2 | exact fa_68_3 | exact fa_70_0 | exact fa_70_1 | exact fa_72_0 | exact fa_72_3 | exact fa_72_4 | exact fa_74_0 | exact fa_74_1 | exact fa_74_2 | exact fa_76_0 | exact fa_76_1 | exact fa_76_2 | exact fa_78_0 | exact fa_78_1 | exact fa_82_0 | exact fa_82_1 | exact fa_85_0) inf23 hb rfl (by simp) rfl (hk (.slice (some ⟨g, 0, none⟩) (gs.length + news.length) cap) _ ?_)
  have f2 : Fr (fun i => i = bx) w8 (w8.setCell ⟨bx, 2, none⟩ (.slice (some ⟨g, 0, none⟩) (gs.length + news.length) cap)) := Fr.of_set rfl
  refine ⟨f2.ext (f.ext h7.x fun i hi => (h7.own.lt i hi).1) (fun i hi => by omega), hb.set 2 _, ?_, hlo, fun he => hne (by cases he; rfl)⟩
  have := f2.own ho8 fun i hi he => hne (by cases hi; exact he)
  simpa using this
theorem PB.regs {w0 w : World} {bx : Nat} {nv : Value} {gs : List GNode} {R R' : Int} (h : PB w0 w bx nv gs R) : PB w0 (w.setCell ⟨bx, 1, none⟩ (i64 R')) bx nv gs R' := by
  have f2 : Fr (fun i => i = bx) w (w.setCell ⟨bx, 1, none⟩ (i64 R')) := Fr.of_set rfl
  have hlo := h.lo
  exact ⟨f2.ext h.x (fun i hi => by omega), h.box.set 1 _, f2.own h.own fun i hi he => h.ne (he ▸ hi), h.lo, h.ne⟩
theorem PB.prog {w0 w : World} {bx : Nat} {nv : Value} {gs : List GNode} {R : Int} (h : PB w0 w bx nv gs R) (ha : ∀ (k : Nat) g, gs[k]? = some g → g.args = []) : ProgIs w (.agg #[i64 0, i64 R, nv]) ⟨0, R, gs⟩ := by
  refine ⟨nv, rfl, ⟨_, SliceIs.of_own h.own, fun i g hi => ⟨g.val (.slice none 0 0), by simp [show gs[i]? = some g from hi], .slice none 0 0, rfl, ?_⟩⟩, fun g hg => ?_⟩
  · rw [ha i g hi]
    exact SliceIs.nil w 1
  · obtain ⟨k, hk⟩ := List.getElem?_of_mem hg
    rw [ha k g hk]
    simp
/-- The end of PlaceFew. -/
theorem fewEnd {w0 w17 : World} {bx R now : Nat} {nv : Value} {gs : List GNode} {lv : List (List Int)} {pt : Int → Int} {Rr : Value → World → Prop} (h : PB w0 w17 bx nv gs R) (hfew : Few gs R [(now : Int)] lv pt) (hlen : gs.length ≤ 2 * R) (hR37 : R ≤ 37)
    (known : ∀ w, callD Try.prog 6 #[] w fun v w' => v = .bool true ∧ Ext w w') (hk : ∀ w', Ext w0 w' → Rr (.bool true) w') :
  V Try.prog (Instr.fieldAt 25 (.pointer (some ⟨bx, 0, none⟩)) 2) w17 fun t89 w83 =>
  V Try.prog (Instr.loadAt 23 t89) w83 fun t90 w84 =>
  V Try.prog (Instr.build 38 #[(0, i64 (now : Int))]) w84 fun t92 w85 =>
  V Try.prog (Instr.makeInterface 38 t92) w85 fun t93 w86 =>
  V Try.prog (Instr.buildSlice 23 1 #[(0, t93)]) w86 fun t94 w87 =>
  V Try.prog (Builtin.append_ #[23, 23] 23 #[t90, t94]) w87 fun t95 w88 =>
  V Try.prog (Instr.fieldAt 25 (.pointer (some ⟨bx, 0, none⟩)) 2) w88 fun t96 w89 =>
  U Try.prog (Instr.storeAt 23 t96 t95) w89 fun _ w90 =>
  V Try.prog (Instr.loadAt 25 (.pointer (some ⟨bx, 0, none⟩))) w90 fun t97 w91 =>
  callD Try.prog 5 #[t97] w91 fun t98 w92 =>
  V Try.prog (Instr.alloc 40 true (.tuple #[])) w92 fun t7 w93 =>
  U Try.prog (Instr.storeAt 40 t7 t98) w93 fun _ w94 =>
  callD Try.prog 6 #[] w94 fun t99 w95 =>
  gd t99 true (fun K => V Try.prog (Instr.loadAt 25 (.pointer (some ⟨bx, 0, none⟩))) w95 K) w95 fun t101 w96 =>
  gd t99 true (fun K => callD Try.prog 7 #[t101] w96 K) w96 fun t102 w97 =>
  pickD t99 t102 (Value.bool false) fun t103 =>
  gd t103 true (fun K => V Try.prog (Instr.fieldAt 40 t7 1) w97 K) w97 fun t105 w99 =>
  gd t103 true (fun K => V Try.prog (Instr.loadAt 3 t105) w99 K) w99 fun t106 w100 =>
  gd t103 true (fun K => V Try.prog (do eqGuard .eql 3 (Operand.tmp 106) (Operand.const (Value.int IntKind.i64 0)) t106 (Value.int IntKind.i64 0); binOp .eql 3 t106 (Value.int IntKind.i64 0)) w100 K) w100 fun t107 w101 =>
  pickD t103 t107 (Value.bool false) fun t108 =>
  gd t108 true (fun K => V Try.prog (Instr.loadAt 25 (.pointer (some ⟨bx, 0, none⟩))) w101 K) w101 fun t110 w103 =>
  gd t108 true (fun K => V Try.prog (Instr.loadAt 40 t7) w103 K) w103 fun t111 w104 =>
  gd t108 true (fun K => callD Try.prog 8 #[t110, t111] w104 K) w104 fun t112 w105 =>
  pickD t108 t112 (Value.bool false) fun t113 =>
  Rr t113 w105 := by
  refine ldB h.box.boxed (by first | exact fa_25_0 | exact fa_25_1 | exact fa_25_2 | exact fa_27_0 | exact fa_30_0 | exact fa_30_1 | exact fa_30_2 | exact fa_34_0 | exact fa_34_1 | exact fa_36_0 | exact fa_36_1 | exact fa_36_2 | exact fa_36_3 | exact fa_38_0 | exact fa_40_0 | exact fa_40_1 | exact fa_49_0 | exact fa_49_1 | exact fa_49_2 | exact fa_68_0 | exact fa_68_1 | exact fa_68_2 | exact fa_68_3 | exact fa_70_0 | exact fa_70_1 | exact fa_72_0 | exact fa_72_3 | exact fa_72_4 | exact fa_74_0 | exact fa_74_1 | exact fa_74_2 | exact fa_76_0 | exact fa_76_1 | exact fa_76_2 | exact fa_78_0 | exact fa_78_1 | exact fa_82_0 | exact fa_82_1 | exact fa_85_0) (by first | exact l1_22 | exact l1_23 | exact l1_3 | exact l1_4 | exact l1_46 | exact l1_47 | exact l1_54) rfl ?_
  refine bld bd_38 [(0, i64 (now : Int))] rfl rfl ?_
  refine mki mi_38 ?_
  refine h.app [.ret now] rfl (by simp) rfl (by simp; omega) fun nv4 w4 p4 => ?_
  have hok := hfew.ok (by omega) (by omega)
  have hprog : ProgIs w4 (.agg #[i64 0, i64 (R : Int), nv4]) (fewP gs R now) := p4.prog fun k g hk => by
    rcases getE_snoc hk with ⟨_, hk⟩ | ⟨_, rfl⟩
    · exact (hfew.str k g hk).2.2.2.2.2
    · rfl
  refine ldA p4.box.boxed la_25 rfl ?_
  refine (alloc_ok hprog hok rfl (Q := fun _ _ slots => slots = 0) rfl (fun i of slots r at' hal hq hi hr _ hat => ?_)).mono fun r w5 ⟨⟨ov, of, s, hr, ho5, hgood, hs0⟩, x5⟩ => ?_
  · rcases hfew.free hal hi hr hat with h | h <;> omega
  subst hr; subst hs0
  refine asK (by first | exact sa_25 | exact sa_27 | exact sa_30 | exact sa_34 | exact sa_36 | exact sa_38 | exact sa_40 | exact sa_47 | exact sa_49 | exact sa_68 | exact sa_70 | exact sa_72 | exact sa_74 | exact sa_76 | exact sa_78 | exact sa_82 | exact sa_85) rfl (by have := oneC_ints ho5; show (oneC ov && (oneC (i64 0) && true)) = true; rw [this]; rfl) fun w6 hx x6 => ?_
  refine (known w6).mono fun r w7 ⟨hr, x7⟩ => ?_
  subst hr
  simp only [gd_t]
  have x47 := (x5.trans x6).trans x7
  refine ldA (p4.box.ext x47).boxed la_25 rfl ?_
  refine (check_ok (hprog.ext x47) hok).mono fun r w8 ⟨hr, x8⟩ => ?_
  subst hr
  have x48 := x47.trans x8
  refine pickT ?_
  simp only [gd_t]
  refine ldB (hx.ext (x7.trans x8)).boxed (by first | exact fa_25_0 | exact fa_25_1 | exact fa_25_2 | exact fa_27_0 | exact fa_30_0 | exact fa_30_1 | exact fa_30_2 | exact fa_34_0 | exact fa_34_1 | exact fa_36_0 | exact fa_36_1 | exact fa_36_2 | exact fa_36_3 | exact fa_38_0 | exact fa_40_0 | exact fa_40_1 | exact fa_49_0 | exact fa_49_1 | exact fa_49_2 | exact fa_68_0 | exact fa_68_1 | exact fa_68_2 | exact fa_68_3 | exact fa_70_0 | exact fa_70_1 | exact fa_72_0 | exact fa_72_3 | exact fa_72_4 | exact fa_74_0 | exact fa_74_1 | exact fa_74_2 | exact fa_76_0 | exact fa_76_1 | exact fa_76_2 | exact fa_78_0 | exact fa_78_1 | exact fa_82_0 | exact fa_82_1 | exact fa_85_0) (by first | exact l1_22 | exact l1_23 | exact l1_3 | exact l1_4 | exact l1_46 | exact l1_47 | exact l1_54) rfl (V_eqlI.2 ?_)
  simp only [decide_true]
  refine pickT ?_
  simp only [gd_t]
  refine ldA (p4.box.ext x48).boxed la_25 rfl ?_
  refine ldA (hx.ext (x7.trans x8)).boxed la_40 rfl ?_
  have hlen' := hgood.len
  refine (placeRight_ok (hprog.ext x48) hok rfl (ho5.ext ((x6.trans x7).trans x8)) (by omega)).mono fun r w9 ⟨⟨a, hr, ha⟩, x9⟩ => ?_
  subst hr
  obtain rfl : a = true := ha.2 hgood
  exact pickT (hk _ (p4.x.trans (x48.trans x9)))
set_option maxHeartbeats 4000000 in
theorem few_law {ofv : Value} {of : List Int} {w : World} (hof : ArgsLike w ofv of) (known : ∀ w, callD Try.prog 6 #[] w fun v w' => v = .bool true ∧ Ext w w') :
    callD Try.prog 3 #[ofv] w fun r w' => r = .bool true ∧ Ext w w' := by
  obtain ⟨⟨oa, oc, rfl⟩, hof⟩ := hof
  apply F3_wp
  unfold F3_den
  refine bld bd_25 [(1, i64 1)] rfl rfl ?_
  refine asK (by first | exact sa_25 | exact sa_27 | exact sa_30 | exact sa_34 | exact sa_36 | exact sa_38 | exact sa_40 | exact sa_47 | exact sa_49 | exact sa_68 | exact sa_70 | exact sa_72 | exact sa_74 | exact sa_76 | exact sa_78 | exact sa_82 | exact sa_85) rfl rfl fun w1 hb1 x1 => ?_
  have p1 : PB w w1 w.heap.size (.slice none 0 0) [] 1 := ⟨x1, hb1, ⟨rfl, .inl ⟨rfl, rfl⟩⟩, Nat.le_refl _, fun h => by cases h⟩
  refine ldB p1.box.boxed (by first | exact fa_25_0 | exact fa_25_1 | exact fa_25_2 | exact fa_27_0 | exact fa_30_0 | exact fa_30_1 | exact fa_30_2 | exact fa_34_0 | exact fa_34_1 | exact fa_36_0 | exact fa_36_1 | exact fa_36_2 | exact fa_36_3 | exact fa_38_0 | exact fa_40_0 | exact fa_40_1 | exact fa_49_0 | exact fa_49_1 | exact fa_49_2 | exact fa_68_0 | exact fa_68_1 | exact fa_68_2 | exact fa_68_3 | exact fa_70_0 | exact fa_70_1 | exact fa_72_0 | exact fa_72_3 | exact fa_72_4 | exact fa_74_0 | exact fa_74_1 | exact fa_74_2 | exact fa_76_0 | exact fa_76_1 | exact fa_76_2 | exact fa_78_0 | exact fa_78_1 | exact fa_82_0 | exact fa_82_1 | exact fa_85_0) (by first | exact l1_22 | exact l1_23 | exact l1_3 | exact l1_4 | exact l1_46 | exact l1_47 | exact l1_54) rfl ?_
  refine bld bd_27 [(0, i64 0), (1, i32 3)] rfl rfl ?_
  refine mki mi_27 ?_
  refine p1.app [.const 0 3] rfl (by decide) rfl (by simp) fun nv2 w2 p2 => ?_
  refine ⟨fun v v' w' => ∃ (now i R : Nat) (nv : Value) (gs : List GNode) (lv : List (List Int)) (pt : Int → Int), v = i64 now ∧ v' = i64 i ∧ i ≤ of.length ∧ PB w w' w.heap.size nv gs R ∧ Few gs R [(now : Int)] lv pt ∧ R = now + 1 ∧ gs.length ≤ 2 * R ∧ R ≤ 37 ∧ i + 1 ≤ R,
    fun _ v _ => of.length - (RowKit.intOf v).toNat, ⟨0, 0, 1, nv2, _, _, _, rfl, rfl, Nat.zero_le _, p2, Few.const, rfl, by simp, by omega, by omega⟩, ?_⟩
  rintro _ _ w3 ⟨now, i, R, nv, gs, lv, pt, rfl, rfl, hi, p3, hfew, hRn, hlen, hR37, hiR⟩ _
  have hbd := hfew.bd _ _ hfew.last (now : Int) (by simp)
  have hfew' := hfew.bd _ _ hfew.last
  refine V_ln_22.2 (V_lss.2 ?_)
  by_cases hil : (i : Int) < (of.length : Int)
  · simp only [hil, gd_t, pickD_iff, reduceIte, decide_true]
    refine ldB p3.box.boxed (by first | exact fa_25_0 | exact fa_25_1 | exact fa_25_2 | exact fa_27_0 | exact fa_30_0 | exact fa_30_1 | exact fa_30_2 | exact fa_34_0 | exact fa_34_1 | exact fa_36_0 | exact fa_36_1 | exact fa_36_2 | exact fa_36_3 | exact fa_38_0 | exact fa_40_0 | exact fa_40_1 | exact fa_49_0 | exact fa_49_1 | exact fa_49_2 | exact fa_68_0 | exact fa_68_1 | exact fa_68_2 | exact fa_68_3 | exact fa_70_0 | exact fa_70_1 | exact fa_72_0 | exact fa_72_3 | exact fa_72_4 | exact fa_74_0 | exact fa_74_1 | exact fa_74_2 | exact fa_76_0 | exact fa_76_1 | exact fa_76_2 | exact fa_78_0 | exact fa_78_1 | exact fa_82_0 | exact fa_82_1 | exact fa_85_0) (by first | exact l1_22 | exact l1_23 | exact l1_3 | exact l1_4 | exact l1_46 | exact l1_47 | exact l1_54) rfl (V_lss.2 ?_)
    by_cases hR36 : (R : Int) < 36
    · simp only [hR36, ifD_true, decide_true]
      obtain ⟨xj, hxj⟩ := ex_get (l := of) (j := i) (by omega)
      refine ldB p3.box.boxed (by first | exact fa_25_0 | exact fa_25_1 | exact fa_25_2 | exact fa_27_0 | exact fa_30_0 | exact fa_30_1 | exact fa_30_2 | exact fa_34_0 | exact fa_34_1 | exact fa_36_0 | exact fa_36_1 | exact fa_36_2 | exact fa_36_3 | exact fa_38_0 | exact fa_40_0 | exact fa_40_1 | exact fa_49_0 | exact fa_49_1 | exact fa_49_2 | exact fa_68_0 | exact fa_68_1 | exact fa_68_2 | exact fa_68_3 | exact fa_70_0 | exact fa_70_1 | exact fa_72_0 | exact fa_72_3 | exact fa_72_4 | exact fa_74_0 | exact fa_74_1 | exact fa_74_2 | exact fa_76_0 | exact fa_76_1 | exact fa_76_2 | exact fa_78_0 | exact fa_78_1 | exact fa_82_0 | exact fa_82_1 | exact fa_85_0) (by first | exact l1_22 | exact l1_23 | exact l1_3 | exact l1_4 | exact l1_46 | exact l1_47 | exact l1_54) rfl ?_
      refine ldx xa_22 l1_3 ((hof (by omega)).ext p3.x) (by omega) (by omega) (getI hxj) ?_
      refine (pick_ok (by decide) (by decide)).mono fun r w' ⟨⟨k, hr, _, _⟩, hw⟩ => ?_
      subst hr; have hw := hw.symm; subst hw
      refine V_eqlI.2 (ifD_dec (fun _ => ?_) fun _ => ?_)
      · refine ldB p3.box.boxed (by first | exact fa_25_0 | exact fa_25_1 | exact fa_25_2 | exact fa_27_0 | exact fa_30_0 | exact fa_30_1 | exact fa_30_2 | exact fa_34_0 | exact fa_34_1 | exact fa_36_0 | exact fa_36_1 | exact fa_36_2 | exact fa_36_3 | exact fa_38_0 | exact fa_40_0 | exact fa_40_1 | exact fa_49_0 | exact fa_49_1 | exact fa_49_2 | exact fa_68_0 | exact fa_68_1 | exact fa_68_2 | exact fa_68_3 | exact fa_70_0 | exact fa_70_1 | exact fa_72_0 | exact fa_72_3 | exact fa_72_4 | exact fa_74_0 | exact fa_74_1 | exact fa_74_2 | exact fa_76_0 | exact fa_76_1 | exact fa_76_2 | exact fa_78_0 | exact fa_78_1 | exact fa_82_0 | exact fa_82_1 | exact fa_85_0) (by first | exact l1_22 | exact l1_23 | exact l1_3 | exact l1_4 | exact l1_46 | exact l1_47 | exact l1_54) rfl ?_
        refine bld bd_30 [(0, i64 15), (1, i64 (R : Int)), (2, i64 (now : Int))] rfl rfl ?_
        refine mki mi_30 ?_
        refine p3.app [.un 15 R now] rfl (by simp) rfl (by simp; omega) fun nv4 w4 p4 => ?_
        refine ldB p4.box.boxed (by first | exact fa_25_0 | exact fa_25_1 | exact fa_25_2 | exact fa_27_0 | exact fa_30_0 | exact fa_30_1 | exact fa_30_2 | exact fa_34_0 | exact fa_34_1 | exact fa_36_0 | exact fa_36_1 | exact fa_36_2 | exact fa_36_3 | exact fa_38_0 | exact fa_40_0 | exact fa_40_1 | exact fa_49_0 | exact fa_49_1 | exact fa_49_2 | exact fa_68_0 | exact fa_68_1 | exact fa_68_2 | exact fa_68_3 | exact fa_70_0 | exact fa_70_1 | exact fa_72_0 | exact fa_72_3 | exact fa_72_4 | exact fa_74_0 | exact fa_74_1 | exact fa_74_2 | exact fa_76_0 | exact fa_76_1 | exact fa_76_2 | exact fa_78_0 | exact fa_78_1 | exact fa_82_0 | exact fa_82_1 | exact fa_85_0) (by first | exact l1_22 | exact l1_23 | exact l1_3 | exact l1_4 | exact l1_46 | exact l1_47 | exact l1_54) rfl (V_add.2 ?_)
        rw [wrap_id (by omega) (by omega), i64_succ]
        refine stF (by first | exact fa_25_0 | exact fa_25_1 | exact fa_25_2 | exact fa_27_0 | exact fa_30_0 | exact fa_30_1 | exact fa_30_2 | exact fa_34_0 | exact fa_34_1 | exact fa_36_0 | exact fa_36_1 | exact fa_36_2 | exact fa_36_3 | exact fa_38_0 | exact fa_40_0 | exact fa_40_1 | exact fa_49_0 | exact fa_49_1 | exact fa_49_2 | exact fa_68_0 | exact fa_68_1 | exact fa_68_2 | exact fa_68_3 | exact fa_70_0 | exact fa_70_1 | exact fa_72_0 | exact fa_72_3 | exact fa_72_4 | exact fa_74_0 | exact fa_74_1 | exact fa_74_2 | exact fa_76_0 | exact fa_76_1 | exact fa_76_2 | exact fa_78_0 | exact fa_78_1 | exact fa_82_0 | exact fa_82_1 | exact fa_85_0) inf3 p4.box rfl (by simp) rfl ?_
        have p5 := p4.regs (R' := ((R + 1 : Nat) : Int))
        refine ldB p5.box.boxed (by first | exact fa_25_0 | exact fa_25_1 | exact fa_25_2 | exact fa_27_0 | exact fa_30_0 | exact fa_30_1 | exact fa_30_2 | exact fa_34_0 | exact fa_34_1 | exact fa_36_0 | exact fa_36_1 | exact fa_36_2 | exact fa_36_3 | exact fa_38_0 | exact fa_40_0 | exact fa_40_1 | exact fa_49_0 | exact fa_49_1 | exact fa_49_2 | exact fa_68_0 | exact fa_68_1 | exact fa_68_2 | exact fa_68_3 | exact fa_70_0 | exact fa_70_1 | exact fa_72_0 | exact fa_72_3 | exact fa_72_4 | exact fa_74_0 | exact fa_74_1 | exact fa_74_2 | exact fa_76_0 | exact fa_76_1 | exact fa_76_2 | exact fa_78_0 | exact fa_78_1 | exact fa_82_0 | exact fa_82_1 | exact fa_85_0) (by first | exact l1_22 | exact l1_23 | exact l1_3 | exact l1_4 | exact l1_46 | exact l1_47 | exact l1_54) rfl (V_sub.2 (V_add.2 ?_))
        rw [show IntKind.i64.wrap (((R + 1 : Nat) : Int) - 1) = (R : Int) from by rw [wrap_id (by omega) (by omega)]; omega, wrap_id (by omega) (by omega), i64_succ]
        refine ⟨⟨R, i + 1, R + 1, nv4, _, _, _, rfl, rfl, by omega, p5, hfew.snoc (L' := [(R : Int)]) (.un 15 R now) 0 (fun _ => rfl) rfl (.inl rfl) (fun r hr => hr) (fun r hr hne => by simp [GNode.df] at hr hne; exact absurd hr hne) (.inr ⟨rfl, rfl⟩) (fun r hr => by simp at hr; omega) (fun a b ha hb h0 hlt => by simp [GNode.df] at ha hb; omega) rfl, rfl, by simp; omega, by omega, by omega⟩, by simp only [intOf_i64]; omega⟩
      refine V_eqlI.2 (ifD_dec (fun _ => ?_) fun _ => ?_)
      · refine ldB p3.box.boxed (by first | exact fa_25_0 | exact fa_25_1 | exact fa_25_2 | exact fa_27_0 | exact fa_30_0 | exact fa_30_1 | exact fa_30_2 | exact fa_34_0 | exact fa_34_1 | exact fa_36_0 | exact fa_36_1 | exact fa_36_2 | exact fa_36_3 | exact fa_38_0 | exact fa_40_0 | exact fa_40_1 | exact fa_49_0 | exact fa_49_1 | exact fa_49_2 | exact fa_68_0 | exact fa_68_1 | exact fa_68_2 | exact fa_68_3 | exact fa_70_0 | exact fa_70_1 | exact fa_72_0 | exact fa_72_3 | exact fa_72_4 | exact fa_74_0 | exact fa_74_1 | exact fa_74_2 | exact fa_76_0 | exact fa_76_1 | exact fa_76_2 | exact fa_78_0 | exact fa_78_1 | exact fa_82_0 | exact fa_82_1 | exact fa_85_0) (by first | exact l1_22 | exact l1_23 | exact l1_3 | exact l1_4 | exact l1_46 | exact l1_47 | exact l1_54) rfl ?_
        refine bld bd_32 [] rfl rfl ?_
        refine mki mi_32 ?_
        refine bld bd_34 [(0, i64 (R : Int)), (1, i64 (now : Int))] rfl rfl ?_
        refine mki mi_34 ?_
        refine p3.app [.tick, .move R now] rfl (by simp) rfl (by simp; omega) fun nv4 w4 p4 => ?_
        refine ldB p4.box.boxed (by first | exact fa_25_0 | exact fa_25_1 | exact fa_25_2 | exact fa_27_0 | exact fa_30_0 | exact fa_30_1 | exact fa_30_2 | exact fa_34_0 | exact fa_34_1 | exact fa_36_0 | exact fa_36_1 | exact fa_36_2 | exact fa_36_3 | exact fa_38_0 | exact fa_40_0 | exact fa_40_1 | exact fa_49_0 | exact fa_49_1 | exact fa_49_2 | exact fa_68_0 | exact fa_68_1 | exact fa_68_2 | exact fa_68_3 | exact fa_70_0 | exact fa_70_1 | exact fa_72_0 | exact fa_72_3 | exact fa_72_4 | exact fa_74_0 | exact fa_74_1 | exact fa_74_2 | exact fa_76_0 | exact fa_76_1 | exact fa_76_2 | exact fa_78_0 | exact fa_78_1 | exact fa_82_0 | exact fa_82_1 | exact fa_85_0) (by first | exact l1_22 | exact l1_23 | exact l1_3 | exact l1_4 | exact l1_46 | exact l1_47 | exact l1_54) rfl (V_add.2 ?_)
        rw [wrap_id (by omega) (by omega), i64_succ]
        refine stF (by first | exact fa_25_0 | exact fa_25_1 | exact fa_25_2 | exact fa_27_0 | exact fa_30_0 | exact fa_30_1 | exact fa_30_2 | exact fa_34_0 | exact fa_34_1 | exact fa_36_0 | exact fa_36_1 | exact fa_36_2 | exact fa_36_3 | exact fa_38_0 | exact fa_40_0 | exact fa_40_1 | exact fa_49_0 | exact fa_49_1 | exact fa_49_2 | exact fa_68_0 | exact fa_68_1 | exact fa_68_2 | exact fa_68_3 | exact fa_70_0 | exact fa_70_1 | exact fa_72_0 | exact fa_72_3 | exact fa_72_4 | exact fa_74_0 | exact fa_74_1 | exact fa_74_2 | exact fa_76_0 | exact fa_76_1 | exact fa_76_2 | exact fa_78_0 | exact fa_78_1 | exact fa_82_0 | exact fa_82_1 | exact fa_85_0) inf3 p4.box rfl (by simp) rfl ?_
        have p5 := p4.regs (R' := ((R + 1 : Nat) : Int))
        refine ldB p5.box.boxed (by first | exact fa_25_0 | exact fa_25_1 | exact fa_25_2 | exact fa_27_0 | exact fa_30_0 | exact fa_30_1 | exact fa_30_2 | exact fa_34_0 | exact fa_34_1 | exact fa_36_0 | exact fa_36_1 | exact fa_36_2 | exact fa_36_3 | exact fa_38_0 | exact fa_40_0 | exact fa_40_1 | exact fa_49_0 | exact fa_49_1 | exact fa_49_2 | exact fa_68_0 | exact fa_68_1 | exact fa_68_2 | exact fa_68_3 | exact fa_70_0 | exact fa_70_1 | exact fa_72_0 | exact fa_72_3 | exact fa_72_4 | exact fa_74_0 | exact fa_74_1 | exact fa_74_2 | exact fa_76_0 | exact fa_76_1 | exact fa_76_2 | exact fa_78_0 | exact fa_78_1 | exact fa_82_0 | exact fa_82_1 | exact fa_85_0) (by first | exact l1_22 | exact l1_23 | exact l1_3 | exact l1_4 | exact l1_46 | exact l1_47 | exact l1_54) rfl (V_sub.2 (V_add.2 ?_))
        rw [show IntKind.i64.wrap (((R + 1 : Nat) : Int) - 1) = (R : Int) from by rw [wrap_id (by omega) (by omega)]; omega, wrap_id (by omega) (by omega), i64_succ]
        have f1 := hfew.snoc (R' := R) (L' := [(now : Int)]) .tick 0 (fun _ => rfl) rfl trivial (fun r hr => by cases hr) (fun r hr _ => hr) (.inl ⟨rfl, rfl, rfl⟩) hfew' (fun a b ha hb h0 hlt => by simp [GNode.df] at ha hb; omega) rfl
        have f2 := f1.snoc (R' := R + 1) (L' := [(R : Int)]) (.move R now) 0 (fun _ => rfl) rfl trivial (fun r hr => hr) (fun r hr hne => by simp [GNode.df] at hr hne; exact absurd hr hne) (.inr ⟨rfl, rfl⟩) (fun r hr => by simp at hr; omega) (fun a b ha hb h0 hlt => by simp [GNode.df] at ha hb; omega) rfl
        exact ⟨⟨R, i + 1, R + 1, nv4, _, _, _, rfl, rfl, by omega, p5, by rw [List.append_assoc] at f2; exact f2, rfl, by simp; omega, by omega, by omega⟩, by simp only [intOf_i64]; omega⟩
      · refine ldB p3.box.boxed (by first | exact fa_25_0 | exact fa_25_1 | exact fa_25_2 | exact fa_27_0 | exact fa_30_0 | exact fa_30_1 | exact fa_30_2 | exact fa_34_0 | exact fa_34_1 | exact fa_36_0 | exact fa_36_1 | exact fa_36_2 | exact fa_36_3 | exact fa_38_0 | exact fa_40_0 | exact fa_40_1 | exact fa_49_0 | exact fa_49_1 | exact fa_49_2 | exact fa_68_0 | exact fa_68_1 | exact fa_68_2 | exact fa_68_3 | exact fa_70_0 | exact fa_70_1 | exact fa_72_0 | exact fa_72_3 | exact fa_72_4 | exact fa_74_0 | exact fa_74_1 | exact fa_74_2 | exact fa_76_0 | exact fa_76_1 | exact fa_76_2 | exact fa_78_0 | exact fa_78_1 | exact fa_82_0 | exact fa_82_1 | exact fa_85_0) (by first | exact l1_22 | exact l1_23 | exact l1_3 | exact l1_4 | exact l1_46 | exact l1_47 | exact l1_54) rfl ?_
        refine V.ok (r_convI Try.underlying3 Try.underlying21) ?_
        generalize IntKind.i32.wrap (i : Int) = cz
        refine bld bd_27 [(0, i64 (R : Int)), (1, i32 cz)] rfl rfl ?_
        refine mki mi_27 (V_add.2 ?_)
        rw [wrap_id (by omega) (by omega)]
        refine bld bd_36 [(0, i64 6), (1, i64 ((R : Int) + 1)), (2, i64 (R : Int)), (3, i64 (now : Int))] rfl rfl ?_
        refine mki mi_36 ?_
        refine p3.app [.const R cz, .bin 6 (R + 1) R now] rfl (by simp) rfl (by simp; omega) fun nv4 w4 p4 => ?_
        refine ldB p4.box.boxed (by first | exact fa_25_0 | exact fa_25_1 | exact fa_25_2 | exact fa_27_0 | exact fa_30_0 | exact fa_30_1 | exact fa_30_2 | exact fa_34_0 | exact fa_34_1 | exact fa_36_0 | exact fa_36_1 | exact fa_36_2 | exact fa_36_3 | exact fa_38_0 | exact fa_40_0 | exact fa_40_1 | exact fa_49_0 | exact fa_49_1 | exact fa_49_2 | exact fa_68_0 | exact fa_68_1 | exact fa_68_2 | exact fa_68_3 | exact fa_70_0 | exact fa_70_1 | exact fa_72_0 | exact fa_72_3 | exact fa_72_4 | exact fa_74_0 | exact fa_74_1 | exact fa_74_2 | exact fa_76_0 | exact fa_76_1 | exact fa_76_2 | exact fa_78_0 | exact fa_78_1 | exact fa_82_0 | exact fa_82_1 | exact fa_85_0) (by first | exact l1_22 | exact l1_23 | exact l1_3 | exact l1_4 | exact l1_46 | exact l1_47 | exact l1_54) rfl (V_add.2 ?_)
        rw [show IntKind.i64.wrap ((R : Int) + 2) = ((R + 2 : Nat) : Int) from by rw [wrap_id (by omega) (by omega)]; omega]
        refine stF (by first | exact fa_25_0 | exact fa_25_1 | exact fa_25_2 | exact fa_27_0 | exact fa_30_0 | exact fa_30_1 | exact fa_30_2 | exact fa_34_0 | exact fa_34_1 | exact fa_36_0 | exact fa_36_1 | exact fa_36_2 | exact fa_36_3 | exact fa_38_0 | exact fa_40_0 | exact fa_40_1 | exact fa_49_0 | exact fa_49_1 | exact fa_49_2 | exact fa_68_0 | exact fa_68_1 | exact fa_68_2 | exact fa_68_3 | exact fa_70_0 | exact fa_70_1 | exact fa_72_0 | exact fa_72_3 | exact fa_72_4 | exact fa_74_0 | exact fa_74_1 | exact fa_74_2 | exact fa_76_0 | exact fa_76_1 | exact fa_76_2 | exact fa_78_0 | exact fa_78_1 | exact fa_82_0 | exact fa_82_1 | exact fa_85_0) inf3 p4.box rfl (by simp) rfl ?_
        have p5 := p4.regs (R' := ((R + 2 : Nat) : Int))
        refine ldB p5.box.boxed (by first | exact fa_25_0 | exact fa_25_1 | exact fa_25_2 | exact fa_27_0 | exact fa_30_0 | exact fa_30_1 | exact fa_30_2 | exact fa_34_0 | exact fa_34_1 | exact fa_36_0 | exact fa_36_1 | exact fa_36_2 | exact fa_36_3 | exact fa_38_0 | exact fa_40_0 | exact fa_40_1 | exact fa_49_0 | exact fa_49_1 | exact fa_49_2 | exact fa_68_0 | exact fa_68_1 | exact fa_68_2 | exact fa_68_3 | exact fa_70_0 | exact fa_70_1 | exact fa_72_0 | exact fa_72_3 | exact fa_72_4 | exact fa_74_0 | exact fa_74_1 | exact fa_74_2 | exact fa_76_0 | exact fa_76_1 | exact fa_76_2 | exact fa_78_0 | exact fa_78_1 | exact fa_82_0 | exact fa_82_1 | exact fa_85_0) (by first | exact l1_22 | exact l1_23 | exact l1_3 | exact l1_4 | exact l1_46 | exact l1_47 | exact l1_54) rfl (V_sub.2 (V_add.2 ?_))
        rw [show IntKind.i64.wrap (((R + 2 : Nat) : Int) - 1) = ((R + 1 : Nat) : Int) from by rw [wrap_id (by omega) (by omega)]; omega, wrap_id (by omega) (by omega), i64_succ]
        have f1 := hfew.snoc (R' := R + 1) (L' := [(R : Int), (now : Int)]) (.const R cz) now (fun _ => rfl) rfl trivial (fun r hr => by cases hr) (fun r hr hne => by simp [GNode.df] at hr hne ⊢; omega) (.inr ⟨rfl, rfl⟩) (fun r hr => by simp at hr; omega) (fun a b ha hb h0 hlt => by simp [GNode.df] at ha hb; omega) rfl
        have f2 := f1.snoc (R' := R + 2) (L' := [((R + 1 : Nat) : Int)]) (.bin 6 (R + 1) R now) 0 (fun _ => rfl) rfl (.inl ⟨by decide, by decide⟩) (fun r hr => hr) (fun r hr hne => by simp [GNode.df] at hr hne; exact absurd hr hne) (.inr ⟨rfl, rfl⟩) (fun r hr => by simp at hr; omega) (fun a b ha hb h0 hlt => by simp [GNode.df] at ha hb; omega) rfl
        exact ⟨⟨R + 1, i + 1, R + 2, nv4, _, _, _, rfl, rfl, by omega, p5, by rw [List.append_assoc] at f2; exact f2, rfl, by simp; omega, by omega, by omega⟩, by simp only [intOf_i64]; omega⟩
    · simp only [hR36, ifD_false, decide_false]
      exact fewEnd p3 hfew hlen hR37 known fun w' hx => ⟨rfl, hx⟩
  · simp only [hil, gd_ft, pickD_iff, ifD_false, reduceIte, Bool.false_eq_true, decide_false]
    exact fewEnd p3 hfew hlen hR37 known fun w' hx => ⟨rfl, hx⟩
end Go.Proofs.Ytendijaeihljeaa
