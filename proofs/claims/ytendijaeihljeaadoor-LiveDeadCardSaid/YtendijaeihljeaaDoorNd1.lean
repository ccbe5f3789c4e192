/- Raw nodes: Pick, reg, arrays, least and greatest. -/
import Derived.Test.YtendijaeihljeaaDoorPl6
namespace Go.Vc
open Go.Proofs
section
variable {P : Program} {w : World} {K : Value → World → Prop} {S : World → Prop} {L : Value → Prop}
theorem yBld {t : TypeId} {zs : List Value} (h : BD P t zs) {parts : Array (Nat × Value)} (l : List (Nat × Value)) (hp : parts = l.toArray) (h1 : (l.all fun x => decide (x.1 < zs.length) && oneC x.2) = true)
    (hk : L (.agg (l.foldl (fun cs x => cs.set x.1 x.2) zs).toArray)) : yieldS P S (Instr.build t parts) L := by
  subst hp
  obtain ⟨fs, b, hu, hi, hm⟩ := h
  refine yieldS.ok (fun w _ => ?_) hk
  simp only [Instr.build, Sem.run_bind, run_zero hi, Result.andThen_ok, run_underlying hu, hm, Value.cells]
  rw [fillB l zs rfl h1]
  simp
theorem yMki {t : TypeId} (h : MI P t) {v : Value} (hk : L (.iface t v)) : yieldS P S (Instr.makeInterface t v) L := by
  obtain ⟨d, hu, hd⟩ := h
  refine yieldS.ok (fun w _ => ?_) hk
  cases d <;> first | (simp [Instr.makeInterface, run_underlying hu]; done) | cases hd
theorem r_max2 {t : TypeId} {ts : Array TypeId} {a b : Int} : (Builtin.max_ ts t #[.int .i64 a, .int .i64 b]).run P w = .ok (.int .i64 (if a < b then b else a)) w ∨ (Builtin.max_ ts t #[.int .i64 a, .int .i64 b]).run P w = .ok (.int .i64 (if b < a then a else b)) w := by
  simp [Builtin.max_, Builtin.max2]
theorem mx2 {t : TypeId} {ts : Array TypeId} {a b : Int} (hk : ∀ c, (c = a ∨ c = b) → a ≤ c → b ≤ c → K (.int .i64 c) w) : V P (Builtin.max_ ts t #[.int .i64 a, .int .i64 b]) w K := by
  rcases r_max2 (P := P) (w := w) (t := t) (ts := ts) (a := a) (b := b) with h | h
  · exact V.ok h (hk _ (by split <;> simp) (by split <;> omega) (by split <;> omega))
  · exact V.ok h (hk _ (by split <;> simp) (by split <;> omega) (by split <;> omega))
theorem r_min2 {t : TypeId} {ts : Array TypeId} {a b : Int} : (Builtin.min_ ts t #[.int .i64 a, .int .i64 b]).run P w = .ok (.int .i64 (if a < b then a else b)) w ∨ (Builtin.min_ ts t #[.int .i64 a, .int .i64 b]).run P w = .ok (.int .i64 (if b < a then b else a)) w := by
  simp [Builtin.min_, Builtin.min2]
theorem mn2 {t : TypeId} {ts : Array TypeId} {a b : Int} (hk : ∀ c, (c = a ∨ c = b) → c ≤ a → c ≤ b → K (.int .i64 c) w) : V P (Builtin.min_ ts t #[.int .i64 a, .int .i64 b]) w K := by
  rcases r_min2 (P := P) (w := w) (t := t) (ts := ts) (a := a) (b := b) with h | h
  · exact V.ok h (hk _ (by split <;> simp) (by split <;> omega) (by split <;> omega))
  · exact V.ok h (hk _ (by split <;> simp) (by split <;> omega) (by split <;> omega))
theorem rm {t : TypeId} {a b : Int} (hb : 0 < b) (hk : ∀ c, c = a.tmod b → -b < c → c < b → K (.int .i64 c) w) : V P (binOp .rem t (.int .i64 a) (.int .i64 b)) w K := by
  have hne : b ≠ 0 := by omega
  have hr : (binOp .rem t (.int .i64 a) (.int .i64 b)).run P w = .ok (.int .i64 (a.tmod b)) w := by simp [binOp, Op.intDiv, hne]
  exact V.ok hr (hk _ rfl (by have := Int.lt_tmod_of_pos a hb; simpa using this) (Int.tmod_lt_of_pos a hb))
/-- a[i], of an array of whole numbers that lies at an address. -/
theorem r_arr {t e n : TypeId} {z : Value} {by_ : Nat} (ht : P.underlying t = some (.array n e)) (hi : Inf P e z 1 by_) {b off : Nat} {i : Int} (h0 : 0 ≤ i) (h1 : i < n) :
    (Instr.indexAt t (.pointer (some ⟨b, off, none⟩)) (.int .i64 i)).run P w = .ok (.pointer (some ⟨b, off + i.toNat, none⟩)) w := by
  simp [Instr.indexAt, asIntOf, run_underlying ht, Instr.sureAddr, run_size hi, h0, h1, add_mk]
theorem r_idx {t e n : TypeId} {z : Value} {by_ : Nat} (ht : P.underlying t = some (.array n e)) (hi : Inf P e z 1 by_) (hd : ∃ k, P.underlying e = some (.int k)) {cs : Array Value} {i : Int} {u : Value} (h0 : 0 ≤ i) (h1 : i < n) (hu : cs[i.toNat]? = some u) (h1c : oneC u = true) :
    (Instr.index t (.agg cs) (.int .i64 i)).run P w = .ok u w := by
  obtain ⟨k, hd⟩ := hd
  simp [Instr.index, asIntOf, run_underlying ht, run_size hi, h0, h1, part, run_isAgg hd, aggB, hu]
/-- l[:k] -/
theorem r_hi {t e : TypeId} {z : Value} {by_ : Nat} (ht : P.underlying t = some (.slice e)) (hi : Inf P e z 1 by_) {a : Option Addr} {n c k : Nat} (hk : k ≤ c) :
    (Instr.sliceAt t (.slice a n c) none (some (.int .i64 (k : Int))) none).run P w = .ok (.slice (if c = 0 then a else a.map (·.add 0)) k c) w := by
  have h0 : (0 : Int) ≤ k ∧ (k : Int) ≤ c := ⟨by omega, by omega⟩
  simp [Instr.sliceAt, Instr.slice, run_underlying ht, run_size hi, Instr.sliceBounds, Instr.sliceBound, asIntOf, h0]
  intro h
  omega
theorem take_ints {v : Value} {xs : List Int} {t e : TypeId} {z : Value} {by_ k : Nat} (ht : P.underlying t = some (.slice e)) (hi : Inf P e z 1 by_) (h : SliceIs w v 1 xs.length (xs.map i64)) (hk : k ≤ xs.length) :
    ∃ v', (Instr.sliceAt t v none (some (.int .i64 (k : Int))) none).run P w = .ok v' w ∧ SliceIs w v' 1 (xs.take k).length ((xs.take k).map i64) ∧ ∀ b off n c, v' = .slice (some ⟨b, off, none⟩) n c → ∃ off' n' c', v = .slice (some ⟨b, off', none⟩) n' c' := by
  have hlen : (xs.take k).length = k := by simp; omega
  rcases h.2 with ⟨rfl, h0⟩ | ⟨b, off, cap, rfl, h1, h2, h3⟩
  · obtain rfl : k = 0 := by omega
    refine ⟨_, r_hi ht hi (Nat.le_refl _), ?_, fun b off n c h => by simp at h⟩
    simp
    exact SliceIs.nil w 1
  · refine ⟨_, r_hi ht hi (by omega), ?_, fun b' off' n' c' h => ⟨off, xs.length, cap, by
      have e : (if cap = 0 then some (⟨b, off, none⟩ : Addr) else (some (⟨b, off, none⟩ : Addr)).map (·.add 0)) = some ⟨b, off, none⟩ := by split <;> simp [add_mk]
      rw [e] at h
      cases h
      rfl⟩⟩
    rw [hlen]
    refine ⟨by simp; omega, .inr ⟨b, off, cap, ?_, by omega, h2, fun j u hj => ?_⟩⟩
    · split <;> simp [add_mk]
    · refine h3 j u ?_
      rw [List.getElem?_map] at hj ⊢
      rw [List.getElem?_take] at hj
      split at hj
      · exact hj
      · cases hj
end
end Go.Vc
namespace Go.Proofs.YtendijaeihljeaaDoor
open Go.Vc
theorem pick_ok {n m : Int} {w : World} (hm : 0 < m) (hm2 : m ≤ 1000000) : callD Tryd.prog 9 #[i64 n, i64 m] w fun r w' => (∃ k, r = i64 k ∧ 0 ≤ k ∧ k < m) ∧ w' = w := by
  apply F9_wp
  unfold F9_den
  refine rm hm fun c _ h1 h2 => ?_
  refine V_lss.2 (ifD_dec (fun hlt => ?_) fun hge => ?_)
  · refine V_add.2 ?_
    rw [wrap_id (by omega) (by omega)]
    exact ⟨⟨_, rfl, by omega, by omega⟩, rfl⟩
  · exact ⟨⟨c, rfl, by omega, h2⟩, rfl⟩
theorem reg_ok {n regs : Int} {b : Nat} {w : World} (hb : w.cell? ⟨b, 0, none⟩ = some (i64 regs)) (hr : regs ≤ 1000000) : callD Tryd.prog 50 #[i64 n, .pointer (some ⟨b, 0, none⟩)] w fun r w' => (∃ k, r = i64 k) ∧ w' = w := by
  apply F50_wp
  unfold F50_den
  refine rm (by omega) fun c _ _ _ => ?_
  refine V_eqlI.2 (ifD_dec (fun _ => ?_) fun _ => ?_)
  · exact rm (by omega) fun c _ _ _ => ⟨⟨_, rfl⟩, rfl⟩
  · refine V.ok (r_ld_3 hb) ?_
    refine mx2 fun c hc h1 h2 => ?_
    exact (pick_ok (by omega) (by rcases hc with rfl | rfl <;> omega)).mono fun r w' ⟨⟨k, hk, _⟩, hw⟩ => ⟨⟨k, hk⟩, hw⟩
theorem dyn_reg {n regs : Int} {b : Nat} {w : World} {K : Value → World → Prop} (hb : w.cell? ⟨b, 0, none⟩ = some (i64 regs)) (hr : regs ≤ 1000000) (hk : ∀ k, K (i64 k) w) : dynD Tryd.prog (.func (.func 50) #[] #[.pointer (some ⟨b, 0, none⟩)]) #[i64 n] w K :=
  ⟨⟨_, _, rfl, (reg_ok hb hr).mono fun r w' ⟨⟨k, h1⟩, h2⟩ => by subst h1 h2; exact hk k⟩⟩
end Go.Proofs.YtendijaeihljeaaDoor
