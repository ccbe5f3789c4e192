/- The laws of single operations in the calculus of verification conditions, over any program; readings of slices; what a call leaves as it was. -/
import Derived.Test.YthblbcjgdbaonaaGreatDoorWa
import Derived.OwnWalk
import Derived.Below
import Derived.ArgAppend
import Derived.Test.YthblbcjgdbaonaaGreatDoorProg
import Derived.KernelRfl
namespace Go.Vc
abbrev i64 (n : Int) : Value := .int .i64 n
abbrev i32 (n : Int) : Value := .int .i32 n
abbrev vb (b : Bool) : Value := .bool b
abbrev nilS : Value := .slice none 0 0
abbrev gB (w w' : World) (r : Option Nat) : Prop := w.grownBy w' r
section
variable {P : Program} {w : World} {K : Value → World → Prop}
theorem V.iff {s : Sem Value} {v : Value} {w' : World} (h : s.run P w = .ok v w') : V P s w K ↔ K v w' :=
  ⟨fun ⟨_, _, h', hk⟩ => by rw [h] at h'; cases h'; exact hk, fun hk => ⟨v, w', h, hk⟩⟩
theorem U.iff {s : Sem Unit} {w' : World} (h : s.run P w = .ok () w') : U P s w K ↔ K undef w' :=
  ⟨fun ⟨_, h', hk⟩ => by rw [h] at h'; cases h'; exact hk, fun hk => ⟨w', h, hk⟩⟩
theorem V.ok {s : Sem Value} {v : Value} {w' : World} (h : s.run P w = .ok v w') (hk : K v w') : V P s w K := ⟨v, w', h, hk⟩
theorem U.ok {s : Sem Unit} {w' : World} (h : s.run P w = .ok () w') (hk : K undef w') : U P s w K := ⟨w', h, hk⟩
theorem callD.mono {f : FuncId} {args : Array Value} {R : Value → World → Prop} (h : callD P f args w R) (hk : ∀ v w', R v w' → K v w') : callD P f args w K :=
  ⟨⟨h.ex.1, Calls.mono h.ex.2 fun _ _ ⟨v, he, hr⟩ => ⟨v, he, hk v _ hr⟩⟩⟩
theorem callD.of_calls {f : FuncId} {fn : Func} {c : Code} {args : Array Value} (hf : P.funcs[f]? = some fn) (hname : (fn.name == "runtime.NumGoroutine") = false) (hb : fn.body = some c)
    (h : Calls P f args w fun e w' => ∃ v, e = .returned v ∧ K v w') : callD P f args w K := by
  refine ⟨⟨fun args w => ?_, h⟩⟩
  have hname' : ¬ fn.name = "runtime.NumGoroutine" := by simpa using hname
  simp [callFunc, program, Sem.run, hf, hname', hb]
theorem den_wp {P : Program} {f : FuncId} {fn : Func} {args : List Value} {w : World} {R : Value → World → Prop} {D : Prop} (hm : P.follows .mixedOrders = true) (ann : Ann) (hf : P.funcs[f]? = some fn)
    (hb : (!(fn.name == "runtime.NumGoroutine") && fn.body.isSome && (ok fn.ntmps ann (fn.body.getD .skip) && okRes fn.ntmps fn.results.toList && Nat.ble args.length fn.ntmps)) = true)
    (hD : D = vc P ann (fn.body.getD .skip) (retE P fn.results.toList R) (argEnv args) w) (h : D) : callD P f args.toArray w R := by
  simp only [Bool.and_eq_true, Bool.not_eq_true'] at hb
  obtain ⟨⟨h1, h2⟩, h3, h4⟩ := hb
  have hbody : fn.body = some (fn.body.getD .skip) := by
    cases e : fn.body with
    | none => rw [e] at h2; cases h2
    | some c => rfl
  refine callD.of_calls hf h1 hbody (calls_of_vc ann hm hf hbody (by simp only [Bool.and_eq_true]; exact ⟨h3, h4⟩) (hD ▸ h))
theorem ifD_true {x y : Prop} : ifD (.bool true) x y ↔ x := ⟨fun ⟨b, h, h1, _⟩ => by cases h; exact h1 rfl, fun h => ⟨true, rfl, fun _ => h, fun h => by cases h⟩⟩
theorem ifD_false {x y : Prop} : ifD (.bool false) x y ↔ y := ⟨fun ⟨b, h, _, h2⟩ => by cases h; exact h2 rfl, fun h => ⟨false, rfl, (fun h => by cases h), fun _ => h⟩⟩
theorem ifD_dec {p : Prop} [Decidable p] {x y : Prop} (h1 : p → x) (h2 : ¬ p → y) : ifD (.bool (decide p)) x y :=
  ⟨_, rfl, fun h => h1 (of_decide_eq_true h), fun h => h2 (of_decide_eq_false h)⟩
theorem pickD_mk {b : Bool} {x y : Value} {L : Value → Prop} (h : L (if b then x else y)) : pickD (.bool b) x y L := ⟨b, rfl, h⟩
theorem pickD_iff {b : Bool} {x y : Value} {L : Value → Prop} : pickD (.bool b) x y L ↔ L (if b then x else y) := ⟨fun ⟨_, h, hk⟩ => by cases h; exact hk, pickD_mk⟩
theorem gd_iff {b want : Bool} {step : (Value → World → Prop) → Prop} : gd (.bool b) want step w K ↔ if b = want then step K else K undef w := by
  constructor
  · rintro ⟨h1, h2⟩
    split
    · rename_i hb; exact h1 (by rw [hb])
    · rename_i hb; exact h2 (by simpa using hb)
  · intro h
    by_cases hb : b = want
    · rw [if_pos hb] at h; exact ⟨fun _ => h, fun h' => absurd (by rw [hb]) h'⟩
    · rw [if_neg hb] at h; exact ⟨fun h' => absurd (by simpa using h') hb, fun _ => h⟩
theorem gdY_iff {b want : Bool} {step : (Value → Prop) → Prop} {L : Value → Prop} : gdY (.bool b) want step L ↔ if b = want then step L else L undef := by
  constructor
  · rintro ⟨h1, h2⟩
    split
    · rename_i hb; exact h1 (by rw [hb])
    · rename_i hb; exact h2 (by simpa using hb)
  · intro h
    by_cases hb : b = want
    · rw [if_pos hb] at h; exact ⟨fun _ => h, fun h' => absurd (by rw [hb]) h'⟩
    · rw [if_neg hb] at h; exact ⟨fun h' => absurd (by simpa using h') hb, fun _ => h⟩
theorem gd_undef {want : Bool} {step : (Value → World → Prop) → Prop} : gd undef want step w K ↔ K undef w :=
  ⟨fun ⟨_, h2⟩ => h2 (by simp [undef]), fun h => ⟨fun h' => by simp [undef] at h', fun _ => h⟩⟩
theorem gdY_undef {want : Bool} {step : (Value → Prop) → Prop} {L : Value → Prop} : gdY undef want step L ↔ L undef :=
  ⟨fun ⟨_, h2⟩ => h2 (by simp [undef]), fun h => ⟨fun h' => by simp [undef] at h', fun _ => h⟩⟩
theorem gd_t {step : (Value → World → Prop) → Prop} : gd (.bool true) true step w K ↔ step K := by rw [gd_iff]; simp
theorem gd_f {step : (Value → World → Prop) → Prop} : gd (.bool false) false step w K ↔ step K := by rw [gd_iff]; simp
theorem gd_tf {step : (Value → World → Prop) → Prop} : gd (.bool true) false step w K ↔ K undef w := by rw [gd_iff]; simp
theorem gd_ft {step : (Value → World → Prop) → Prop} : gd (.bool false) true step w K ↔ K undef w := by rw [gd_iff]; simp
theorem gdY_t {step : (Value → Prop) → Prop} {L : Value → Prop} : gdY (.bool true) true step L ↔ step L := by rw [gdY_iff]; simp
theorem gdY_f {step : (Value → Prop) → Prop} {L : Value → Prop} : gdY (.bool false) false step L ↔ step L := by rw [gdY_iff]; simp
theorem gdY_tf {step : (Value → Prop) → Prop} {L : Value → Prop} : gdY (.bool true) false step L ↔ L undef := by rw [gdY_iff]; simp
theorem gdY_ft {step : (Value → Prop) → Prop} {L : Value → Prop} : gdY (.bool false) true step L ↔ L undef := by rw [gdY_iff]; simp
theorem drawD.mk' {body : (World → Prop) → World → Prop} (S : World → Prop) (hS : S w.drew) (h : body S w.drew) : drawD w body := ⟨S, hS, h⟩
theorem yieldS.ok {S : World → Prop} {s : Sem Value} {v : Value} {L : Value → Prop} (h : ∀ w, S w → s.run P w = .ok v w) (hk : L v) : yieldS P S s L := ⟨v, h, hk⟩
end
theorem r_lss {P : Program} {w : World} {k : IntKind} {t : TypeId} {a b : Int} : (binOp .lss t (.int k a) (.int k b)).run P w = .ok (.bool (decide (a < b))) w := by simp [binOp, Op.intCmp]
theorem V_lss {P : Program} {w : World} {K : Value → World → Prop} {k : IntKind} {t : TypeId} {a b : Int} : V P (binOp .lss t (.int k a) (.int k b)) w K ↔ K (.bool (decide (a < b))) w := V.iff (by exact r_lss )
theorem r_leq {P : Program} {w : World} {k : IntKind} {t : TypeId} {a b : Int} : (binOp .leq t (.int k a) (.int k b)).run P w = .ok (.bool (decide (a ≤ b))) w := by simp [binOp, Op.intCmp]
theorem V_leq {P : Program} {w : World} {K : Value → World → Prop} {k : IntKind} {t : TypeId} {a b : Int} : V P (binOp .leq t (.int k a) (.int k b)) w K ↔ K (.bool (decide (a ≤ b))) w := V.iff (by exact r_leq )
theorem r_gtr {P : Program} {w : World} {k : IntKind} {t : TypeId} {a b : Int} : (binOp .gtr t (.int k a) (.int k b)).run P w = .ok (.bool (decide (a > b))) w := by simp [binOp, Op.intCmp]
theorem V_gtr {P : Program} {w : World} {K : Value → World → Prop} {k : IntKind} {t : TypeId} {a b : Int} : V P (binOp .gtr t (.int k a) (.int k b)) w K ↔ K (.bool (decide (a > b))) w := V.iff (by exact r_gtr )
theorem r_geq {P : Program} {w : World} {k : IntKind} {t : TypeId} {a b : Int} : (binOp .geq t (.int k a) (.int k b)).run P w = .ok (.bool (decide (a ≥ b))) w := by simp [binOp, Op.intCmp]
theorem V_geq {P : Program} {w : World} {K : Value → World → Prop} {k : IntKind} {t : TypeId} {a b : Int} : V P (binOp .geq t (.int k a) (.int k b)) w K ↔ K (.bool (decide (a ≥ b))) w := V.iff (by exact r_geq )
theorem r_add {P : Program} {w : World} {k : IntKind} {t : TypeId} {a b : Int} : (binOp .add t (.int k a) (.int k b)).run P w = .ok (.int k (k.wrap (a + b))) w := by simp [binOp, Op.intArith]
theorem V_add {P : Program} {w : World} {K : Value → World → Prop} {k : IntKind} {t : TypeId} {a b : Int} : V P (binOp .add t (.int k a) (.int k b)) w K ↔ K (.int k (k.wrap (a + b))) w := V.iff (by exact r_add )
theorem r_sub {P : Program} {w : World} {k : IntKind} {t : TypeId} {a b : Int} : (binOp .sub t (.int k a) (.int k b)).run P w = .ok (.int k (k.wrap (a - b))) w := by simp [binOp, Op.intArith]
theorem V_sub {P : Program} {w : World} {K : Value → World → Prop} {k : IntKind} {t : TypeId} {a b : Int} : V P (binOp .sub t (.int k a) (.int k b)) w K ↔ K (.int k (k.wrap (a - b))) w := V.iff (by exact r_sub )
theorem r_mul {P : Program} {w : World} {k : IntKind} {t : TypeId} {a b : Int} : (binOp .mul t (.int k a) (.int k b)).run P w = .ok (.int k (k.wrap (a * b))) w := by simp [binOp, Op.intArith]
theorem V_mul {P : Program} {w : World} {K : Value → World → Prop} {k : IntKind} {t : TypeId} {a b : Int} : V P (binOp .mul t (.int k a) (.int k b)) w K ↔ K (.int k (k.wrap (a * b))) w := V.iff (by exact r_mul )
theorem r_quo {P : Program} {w : World} {k : IntKind} {t : TypeId} {a b : Int} (h : b ≠ 0) : (binOp .quo t (.int k a) (.int k b)).run P w = .ok (.int k (k.wrap (a.tdiv b))) w := by simp [binOp, Op.intDiv, h]
theorem V_quo {P : Program} {w : World} {K : Value → World → Prop} {k : IntKind} {t : TypeId} {a b : Int} (h : b ≠ 0) : V P (binOp .quo t (.int k a) (.int k b)) w K ↔ K (.int k (k.wrap (a.tdiv b))) w := V.iff (by exact r_quo h)
theorem r_rem {P : Program} {w : World} {k : IntKind} {t : TypeId} {a b : Int} (h : b ≠ 0) : (binOp .rem t (.int k a) (.int k b)).run P w = .ok (.int k (a.tmod b)) w := by simp [binOp, Op.intDiv, h]
theorem r_eqlI {P : Program} {w : World} {k : IntKind} {t : TypeId} {x y : Operand} {a b : Int} : (do eqGuard .eql t x y (.int k a) (.int k b); binOp .eql t (.int k a) (.int k b)).run P w = .ok (.bool (decide (a = b))) w := by simp [eqGuard, binOp, Op.intCmp]; rfl
theorem V_eqlI {P : Program} {w : World} {K : Value → World → Prop} {k : IntKind} {t : TypeId} {x y : Operand} {a b : Int} : V P (do eqGuard .eql t x y (.int k a) (.int k b); binOp .eql t (.int k a) (.int k b)) w K ↔ K (.bool (decide (a = b))) w := V.iff (by exact r_eqlI )
theorem r_neqI {P : Program} {w : World} {k : IntKind} {t : TypeId} {x y : Operand} {a b : Int} : (do eqGuard .neq t x y (.int k a) (.int k b); binOp .neq t (.int k a) (.int k b)).run P w = .ok (.bool (decide (a ≠ b))) w := by simp [eqGuard, binOp, Op.intCmp, bne]; rfl
theorem V_neqI {P : Program} {w : World} {K : Value → World → Prop} {k : IntKind} {t : TypeId} {x y : Operand} {a b : Int} : V P (do eqGuard .neq t x y (.int k a) (.int k b); binOp .neq t (.int k a) (.int k b)) w K ↔ K (.bool (decide (a ≠ b))) w := V.iff (by exact r_neqI )
theorem r_not {P : Program} {w : World} {b : Bool} : (Op.unary .not (.bool b)).run P w = .ok (.bool (!b)) w := by simp [Op.unary]
theorem V_not {P : Program} {w : World} {K : Value → World → Prop} {b : Bool} : V P (Op.unary .not (.bool b)) w K ↔ K (.bool (!b)) w := V.iff (by exact r_not )
theorem r_neg {P : Program} {w : World} {k : IntKind} {a : Int} : (Op.unary .neg (.int k a)).run P w = .ok (.int k (k.wrap (0 - a))) w := by simp [Op.unary, Op.intArith]
theorem V_neg {P : Program} {w : World} {K : Value → World → Prop} {k : IntKind} {a : Int} : V P (Op.unary .neg (.int k a)) w K ↔ K (.int k (k.wrap (0 - a))) w := V.iff (by exact r_neg )
theorem r_ext0 {P : Program} {w : World} {a b : Value} : (Instr.extract (.tuple #[a, b]) 0).run P w = .ok a w := by simp [Instr.extract]
theorem V_ext0 {P : Program} {w : World} {K : Value → World → Prop} {a b : Value} : V P (Instr.extract (.tuple #[a, b]) 0) w K ↔ K a w := V.iff (by exact r_ext0 )
theorem r_ext1 {P : Program} {w : World} {a b : Value} : (Instr.extract (.tuple #[a, b]) 1).run P w = .ok b w := by simp [Instr.extract]
theorem V_ext1 {P : Program} {w : World} {K : Value → World → Prop} {a b : Value} : V P (Instr.extract (.tuple #[a, b]) 1) w K ↔ K b w := V.iff (by exact r_ext1 )
theorem wrap_id {n : Int} (h1 : -9223372036854775808 ≤ n) (h2 : n ≤ 9223372036854775807) : IntKind.i64.wrap n = n := by
  simp only [IntKind.wrap_i64]; omega
def Inf (P : Program) (t : TypeId) (z : Value) (n bytes : Nat) : Prop := (P.info? t).map (fun i => (i.zero, i.size, i.bytes)) = some (some z, n, bytes)
section
variable {P : Program} {w : World} {K : Value → World → Prop}
theorem run_zero {t : TypeId} {z : Value} {n b : Nat} (h : Inf P t z n b) : (zeroValue t).run P w = .ok z w := by
  obtain ⟨i, hi, hz, _⟩ := info_parts h
  simp [zeroValue, typeInfo, hi, hz]
theorem run_size {t : TypeId} {z : Value} {n b : Nat} (h : Inf P t z n b) : (sizeOf t).run P w = .ok n w := by
  obtain ⟨i, hi, _, hn, _⟩ := info_parts h
  simp [sizeOf, typeInfo, hi, hn]
theorem r_len {s e ty : TypeId} (hs : P.underlying s = some (.slice e)) {a : Option Addr} {n c : Nat} : (Builtin.len_ #[s] ty #[.slice a n c]).run P w = .ok (.int .i64 n) w := by
  simp [Builtin.len_, run_underlying hs, goInt]
def notIf : TypeDesc → Bool
  | .interface _ => false
  | _ => true
theorem r_alloc {t : TypeId} {z : Value} {n b : Nat} (hz : Inf P t z n b) : (Instr.alloc t true (.tuple #[])).run P w = .ok (.pointer (some ⟨w.heap.size, 0, none⟩)) (w.alloc (.cells z.cells t)) := by
  simp [Instr.alloc, run_zero hz, newVar, newRow, newObj, Sem.run]
theorem r_box {t : TypeId} {v : Value} : (Instr.box t v).run P w = .ok (.pointer (some ⟨w.heap.size, 0, none⟩)) (w.alloc (.cells v.cells t)) := by
  simp [Instr.box, newVar, newRow, newObj, Sem.run]
theorem add_mk (b off n : Nat) : (⟨b, off, none⟩ : Addr).add n = ⟨b, off + n, none⟩ := by
  unfold Addr.add
  split
  · rename_i h; subst h; rfl
  · rfl
theorem r_field {s : TypeId} {fs : Array Field} {f : Nat} (ft : TypeId) (o : Nat) {z : Value} {n by_ : Nat} (hs : P.underlying s = some (.struct fs)) (hf : (fs[f]?).map (fun fd => (fd.type, fd.offset)) = some (ft, o)) (hi : Inf P ft z n by_) (hn : (n == 0) = false) {b off : Nat} :
    (Instr.fieldAt s (.pointer (some ⟨b, off, none⟩)) f).run P w = .ok (.pointer (some ⟨b, off + o, none⟩)) w := by
  obtain ⟨fd, hfd, he⟩ := Option.map_eq_some_iff.1 hf
  simp only [Prod.mk.injEq] at he
  obtain ⟨rfl, rfl⟩ := he
  have hn' : n ≠ 0 := by simpa using hn
  simp [Instr.fieldAt, run_underlying hs, hfd, Instr.sureAddr, fieldPlace, run_size hi, hn', add_mk]
theorem r_index {t e : TypeId} {z : Value} {n by_ : Nat} (ht : P.underlying t = some (.slice e)) (hi : Inf P e z n by_) {b off len cap : Nat} {k : IntKind} {i : Int} (h0 : 0 ≤ i) (h1 : i < len) :
    (Instr.indexAt t (.slice (some ⟨b, off, none⟩) len cap) (.int k i)).run P w = .ok (.pointer (some ⟨b, off + i.toNat * n, none⟩)) w := by
  simp [Instr.indexAt, asIntOf, run_underlying ht, h0, h1, run_size hi, add_mk]
def aggB : TypeDesc → Bool
  | .struct _ | .array _ _ => true
  | _ => false
theorem run_isAgg {t : TypeId} {d : TypeDesc} (ht : P.underlying t = some d) : (isAgg t).run P w = .ok (aggB d) w := by
  cases d <;> simp [isAgg, run_underlying ht, aggB]
theorem r_load {t : TypeId} {d : TypeDesc} (ht : P.underlying t = some d) (hd : aggB d = false) {a : Addr} {v : Value} (h : w.cell? a = some v) :
    (Instr.loadAt t (.pointer (some a))).run P w = .ok v w := by
  simp [Instr.loadAt, Instr.sureAddr, loadVar, run_isAgg ht, hd, load, Sem.run, h]
theorem run_loadFrom {b off : Nat} (cs : List Value) : ∀ (l : List Value) (i : Nat) (acc : Array Value), (∀ j (_ : j < l.length), w.cell? ⟨b, off + (i + j), none⟩ = l[j]?) →
    (loadCellsFrom ⟨b, off, none⟩ i l.length acc).run P w = .ok (acc ++ l.toArray) w
  | [], _, acc, _ => by simp [loadCellsFrom]
  | v :: l, i, acc, h => by
    have h0 := h 0 (by simp)
    simp only [Nat.add_zero, List.getElem?_cons_zero] at h0
    simp only [List.length_cons, loadCellsFrom, load, add_mk, Sem.run_bind, Sem.run, h0, Result.andThen_ok]
    rw [run_loadFrom cs l (i + 1) (acc.push v) (fun j hj => by
      have := h (j + 1) (by simp; omega)
      rw [show i + 1 + j = i + (j + 1) from by omega]
      simpa using this)]
    simp
theorem r_loadAgg {t : TypeId} {d : TypeDesc} {z : Value} {n by_ : Nat} (ht : P.underlying t = some d) (hd : aggB d = true) (hi : Inf P t z n by_) {b off : Nat} {cs : List Value} (hl : cs.length = n)
    (h : ∀ j (_ : j < cs.length), w.cell? ⟨b, off + j, none⟩ = cs[j]?) : (Instr.loadAt t (.pointer (some ⟨b, off, none⟩))).run P w = .ok (.agg cs.toArray) w := by
  subst hl
  have := run_loadFrom (P := P) (w := w) (b := b) (off := off) cs cs 0 #[] (by simpa using h)
  simp [Instr.loadAt, Instr.sureAddr, loadVar, run_isAgg ht, hd, run_size hi, loadCells, this]
def oneC : Value → Bool
  | .agg _ | .tuple _ => false
  | _ => true
theorem oneC_cells {v : Value} (h : oneC v = true) : v.cells = #[v] := by cases v <;> first | rfl | cases h
theorem run_store1 {a : Addr} {v u : Value} (hv : oneC v = true) (h : w.cell? a = some u) (hf : w.frozen? a = false) : (store a v).run P w = .ok () (w.setCell a v) := by
  cases v <;> first | (simp [store, Sem.run, h, hf]; done) | cases hv
theorem r_store {t : TypeId} {z : Value} {by_ : Nat} (hi : Inf P t z 1 by_) {b off : Nat} {v u : Value} (hv : oneC v = true) (h : w.cell? ⟨b, off, none⟩ = some u) (hf : w.frozen? ⟨b, off, none⟩ = false) :
    (Instr.storeAt t (.pointer (some ⟨b, off, none⟩)) v).run P w = .ok () (w.setCell ⟨b, off, none⟩ v) := by
  simp [Instr.storeAt, Instr.sureAddr, storeVar, run_size hi, oneC_cells hv, storeCells, run_store1 hv h hf, add_mk]
theorem run_storeNew {t : TypeId} : ∀ (l done old : List Value), l.length = old.length → (∀ u ∈ l, oneC u = true) →
    (storeCells ⟨w.heap.size, 0, none⟩ l done.length).run P (w.alloc (.cells (done ++ old).toArray t)) = .ok () (w.alloc (.cells (done ++ l).toArray t))
  | [], done, [], _, _ => by simp [storeCells]
  | v :: l, done, u :: old, hl, h1 => by
    have hc : (w.alloc (.cells (done ++ u :: old).toArray t)).cell? ⟨w.heap.size, done.length, none⟩ = some u := by simp
    have hf : (w.alloc (.cells (done ++ u :: old).toArray t)).frozen? ⟨w.heap.size, done.length, none⟩ = false := by simp
    have hset : (w.alloc (.cells (done ++ u :: old).toArray t)).setCell ⟨w.heap.size, done.length, none⟩ v = w.alloc (.cells (done ++ v :: old).toArray t) := by
      simp only [World.setCell, World.alloc]
      congr 1
      apply Array.ext
      · simp
      · intro i h1 h2
        simp only [Array.getElem_modify, Array.getElem_push]
        by_cases hi : i < w.heap.size
        · have : ¬ w.heap.size = i := by omega
          simp [hi, this]
        · have hi' : w.heap.size = i := by simp at h1; omega
          subst hi'
          simp
    simp only [storeCells, add_mk, Nat.zero_add, Sem.run_bind]
    rw [run_store1 (h1 v (by simp)) hc hf, Result.andThen_ok, hset]
    have := run_storeNew (t := t) l (done ++ [v]) old (by simpa using hl) (fun u hu => h1 u (by simp [hu]))
    simpa using this
theorem r_storeNew {t t' : TypeId} {z : Value} {n by_ : Nat} (hi : Inf P t z n by_) {old : Array Value} {v : Value} (hn : v.cells.size = n) (ho : old.size = n) (h1 : ∀ u ∈ v.cells.toList, oneC u = true) :
    (Instr.storeAt t (.pointer (some ⟨w.heap.size, 0, none⟩)) v).run P (w.alloc (.cells old t')) = .ok () (w.alloc (.cells v.cells t')) := by
  have := run_storeNew (P := P) (w := w) (t := t') v.cells.toList [] old.toList (by simp [hn, ho]) h1
  simp only [List.nil_append, List.length_nil, Array.toArray_toList] at this
  simp [Instr.storeAt, Instr.sureAddr, storeVar, run_size hi, hn, this]
def ldO (P : Program) (t : TypeId) (a : Addr) (o : Option Value) (w : World) (K : Value → World → Prop) : Prop :=
  match o with
  | some v => K v w
  | none => V P (Instr.loadAt t (.pointer (some a))) w K
theorem V_allocStore {t : TypeId} {z : Value} {n by_ : Nat} (hi : Inf P t z n by_) (hz : (z.cells.size == n) = true) {v : Value} {K' : Value → World → Prop} (hn : v.cells.size = n) (h1 : ∀ u ∈ v.cells.toList, oneC u = true) :
    V P (Instr.alloc t true (.tuple #[])) w (fun p w1 => U P (Instr.storeAt t p v) w1 fun _ w2 => K' p w2) ↔ K' (.pointer (some ⟨w.heap.size, 0, none⟩)) (w.alloc (.cells v.cells t)) := by
  rw [V.iff (r_alloc hi)]
  exact U.iff (r_storeNew hi hn (by simpa using hz) h1)
theorem fill_one (e : Nat) : ∀ (l : List Value) (done old : List Value), l.length = old.length → (∀ u ∈ l, oneC u = true) →
    Instr.fill (fun i => some (i * 1, 1)) (done ++ old).toArray ((List.range' done.length l.length).zip l) = some (done ++ l).toArray
  | [], done, [], _, _ => by simp [Instr.fill]
  | v :: l, done, u :: old, hl, h1 => by
    have hv := oneC_cells (h1 v (by simp))
    simp only [List.length_cons, List.range'_succ, List.zip_cons_cons, Instr.fill, hv]
    have := fill_one e l (done ++ [v]) old (by simpa using hl) (fun u hu => h1 u (by simp [hu]))
    simp at this ⊢
    exact this
theorem r_buildSlice {s e : TypeId} {z : Value} {by_ : Nat} (hs : P.underlying s = some (.slice e)) (hi : Inf P e z 1 by_) (hz : (z.cells.size == 1) = true) (l : List Value) (hl : l.length ≤ 16777216) (h1 : ∀ u ∈ l, oneC u = true) :
    (Instr.buildSlice s l.length ((List.range' 0 l.length).zip l).toArray).run P w = .ok (.slice (some ⟨w.heap.size, 0, none⟩) l.length l.length) (w.alloc (.cells l.toArray e)) := by
  obtain ⟨i, hi', hz', hn, hb⟩ := info_parts hi
  have hz1 : z.cells.size = 1 := by simpa using hz
  by_cases h0 : l.length = 0
  · obtain rfl := List.length_eq_zero_iff.1 h0
    have e0 : Array.range 0 = #[] := by simp [Array.range]
    simp [Instr.buildSlice, run_underlying hs, sizeOf, typeInfo, hi', Instr.fill, newRow, newObj, Sem.run, e0]
  · have hf := fill_one 0 l [] ((Array.range (l.length * 1)).map (fun j => z.cells[j % z.cells.size]!)).toList (by simp) h1
    simp only [List.nil_append, List.length_nil, Array.toArray_toList] at hf
    have hgt : ¬ 16777216 < l.length := by omega
    simp only [Instr.buildSlice, Sem.run_bind, run_underlying hs, Result.andThen_ok, run_size hi]
    simp only [Nat.mul_one, h0, if_false]
    rw [if_neg (by simpa using hgt)]
    simp only [Nat.mul_one] at hf
    simp [hf, newRow, newObj, Sem.run, run_zero hi]
theorem equal_succ (s : TypeId) (x y : Value) : Op.equal s x y = Op.equalIn (9999 + 1) s x y := rfl
theorem q_bool {s : TypeId} (hs : P.underlying s = some .bool) (d : Nat) {a b : Bool} : (Op.equalIn (d + 1) s (.bool a) (.bool b)).run P w = .ok (a == b) w := by
  simp [Op.equalIn, run_underlying hs]
theorem r_neqBool {s : TypeId} (hs : P.underlying s = some .bool) {x y : Operand} {a b : Bool} :
    (do eqGuard .neq s x y (.bool a) (.bool b); binOp .neq s (.bool a) (.bool b)).run P w = .ok (.bool (a != b)) w := by
  simp [eqGuard, binOp, equal_succ, q_bool hs, bne]
theorem r_convI {s d : TypeId} {ds : TypeDesc} {k k' : IntKind} {n : Int} (hs : P.underlying s = some ds) (hd : P.underlying d = some (.int k')) :
    (convert s d (.int k n)).run P w = .ok (.int k' (k'.wrap n)) w := by
  simp [convert, run_underlying hs, run_underlying hd, Conv.intToInt]
def Ext (w w' : World) : Prop := w.grownBy w' none
theorem Ext.refl (w : World) : Ext w w := ⟨rfl, rfl, rfl, Nat.le_refl _, fun _ _ _ => rfl⟩
theorem Ext.trans {a b c : World} (h : Ext a b) (k : Ext b c) : Ext a c :=
  ⟨k.os.trans h.os, k.tape.trans h.tape, k.output.trans h.output, Nat.le_trans h.size k.size, fun i hi hn => (k.block i (Nat.lt_of_lt_of_le hi h.size) hn).trans (h.block i hi hn)⟩
theorem Ext.alloc {a w : World} (h : Ext a w) (o : Obj) : Ext a (w.alloc o) := h.trans (World.grownBy_alloc _ _ _)
theorem Ext.drew {a w : World} (h : Ext a w) : Ext a w.drew := ⟨h.os, h.tape, h.output, h.size, h.block⟩
theorem Ext.setCell {a w : World} (h : Ext a w) {b o : Nat} (hb : a.heap.size ≤ b) (v : Value) : Ext a (w.setCell ⟨b, o, none⟩ v) :=
  ⟨h.os, h.tape, h.output, by simpa using h.size, fun i hi hn => by rw [RowKit.Below.heap_setCell _ _ _ _ (by simp; omega)]; exact h.block i hi hn⟩
theorem Ext.cell {a w : World} (h : Ext a w) {p : Addr} {v : Value} (hc : a.cell? p = some v) : w.cell? p = some v := World.grownBy.cell h hc (by simp)
theorem Ext.obj {a w : World} (h : Ext a w) {b : Nat} {o : Obj} (hb : a.heap[b]? = some o) : w.heap[b]? = some o := by
  have hlt : b < a.heap.size := (Array.getElem?_eq_some_iff.1 hb).1
  rw [h.block b hlt (by simp)]; exact hb
theorem Ext.grown {a w w' : World} (h : Ext a w) {row : Option Nat} (hg : w.grownBy w' row) (hr : ∀ k, row = some k → a.heap.size ≤ k) : Ext a w' :=
  ⟨hg.os.trans h.os, hg.tape.trans h.tape, hg.output.trans h.output, Nat.le_trans h.size hg.size, fun i hi hn => (hg.block i (Nat.lt_of_lt_of_le hi h.size) (fun e => by have := hr i e.symm; omega)).trans (h.block i hi hn)⟩
theorem Ext.own {a w : World} (h : Ext a w) {B : Nat} {e : TypeId} {size n : Nat} {v : Value} {xs : List Value} (ho : a.ownsRow B e size v n xs) : w.ownsRow B e size v n xs := ho.kept h (by cases v.ownBlock <;> simp)
theorem Ext.below {a w : World} (h : Ext a w) : RowKit.Below a.heap.size a w := ⟨h.os, h.tape, h.output, h.size, fun k hk => h.block k hk (by simp)⟩
def SliceIs (w : World) (v : Value) (size n : Nat) (cs : List Value) : Prop :=
  cs.length = n * size ∧ ((v = .slice none 0 0 ∧ n = 0) ∨ ∃ b off cap, v = .slice (some ⟨b, off, none⟩) n cap ∧ n ≤ cap ∧ cap ≤ maxLen ∧ ∀ j u, cs[j]? = some u → w.cell? ⟨b, off + j, none⟩ = some u)
theorem SliceIs.ext {w w' : World} {v : Value} {size n : Nat} {cs : List Value} (h : SliceIs w v size n cs) (hx : Ext w w') : SliceIs w' v size n cs := by
  obtain ⟨h1, h2⟩ := h
  refine ⟨h1, ?_⟩
  rcases h2 with h2 | ⟨b, off, cap, h2, h3, h4, h5⟩
  · exact .inl h2
  · exact .inr ⟨b, off, cap, h2, h3, h4, fun j u hj => hx.cell (h5 j u hj)⟩
theorem SliceIs.nil (w : World) (size : Nat) : SliceIs w (.slice none 0 0) size 0 [] := ⟨by simp, .inl ⟨rfl, rfl⟩⟩
theorem SliceIs.of_own {w : World} {B : Nat} {e : TypeId} {size n : Nat} {v : Value} {xs : List Value} (h : w.ownsRow B e size v n xs) : SliceIs w v size n xs := by
  refine ⟨h.1, ?_⟩
  rcases h.2 with ⟨h1, h2⟩ | ⟨g, cap, cur, rfl, _, _, h4, h5, _⟩
  · exact .inl ⟨h1, h2⟩
  · exact .inr ⟨g, 0, cap, rfl, h4, h5, fun j u hj => by have := h.cells (g := g) rfl j u hj; rwa [add_mk] at this⟩
theorem SliceIs.shape {w : World} {v : Value} {size n : Nat} {cs : List Value} (h : SliceIs w v size n cs) : ∃ a cap, v = .slice a n cap := by
  rcases h.2 with ⟨rfl, rfl⟩ | ⟨b, off, cap, rfl, _⟩
  · exact ⟨none, 0, rfl⟩
  · exact ⟨_, cap, rfl⟩
theorem SliceIs.there {w : World} {v : Value} {size n : Nat} {cs : List Value} (h : SliceIs w v size n cs) (hn : 0 < n) : ∃ b off cap, v = .slice (some ⟨b, off, none⟩) n cap ∧ ∀ j u, cs[j]? = some u → w.cell? ⟨b, off + j, none⟩ = some u := by
  rcases h.2 with ⟨_, rfl⟩ | ⟨b, off, cap, rfl, _, _, h5⟩
  · omega
  · exact ⟨b, off, cap, rfl, h5⟩
theorem SliceIs.get {t e x : TypeId} {d : TypeDesc} {z : Value} {by_ : Nat} (ht : P.underlying t = some (.slice e)) (hi : Inf P e z 1 by_) (hx : P.underlying x = some d) (hd : aggB d = false) {v : Value} {n : Nat} {cs : List Value} (h : SliceIs w v 1 n cs)
    {k : IntKind} {i : Int} {u : Value} (h0 : 0 ≤ i) (h1 : i < n) (hu : cs[i.toNat]? = some u) (hk : K u w) :
    V P (Instr.indexAt t v (.int k i)) w fun p w1 => V P (Instr.loadAt x p) w1 K := by
  obtain ⟨b, off, cap, rfl, hc⟩ := h.there (by omega)
  refine V.ok (r_index ht hi h0 h1) (V.ok (r_load hx hd ?_) hk)
  simpa using hc _ _ hu
structure TA (P : Program) (u : TypeId) : Prop where
  of ::
  ex : ∃ z, (∀ (w : World) x t v, (Instr.typeAssert (.iface t v) x u true).run P w = .ok (if t = u then .tuple #[v, .bool true] else .tuple #[z, .bool false]) w) ∧
  ∀ (w : World) x, (Instr.typeAssert .nilIface x u true).run P w = .ok (.tuple #[z, .bool false]) w
structure SA (P : Program) (t : TypeId) (n : Nat) : Prop where
  of ::
  ex : ∃ z by_, Inf P t z n by_ ∧ z.cells.size = n
structure FA (P : Program) (s f o : Nat) : Prop where
  of ::
  ex : ∀ (w : World) b off, (Instr.fieldAt s (.pointer (some ⟨b, off, none⟩)) f).run P w = .ok (.pointer (some ⟨b, off + o, none⟩)) w
structure L1 (P : Program) (t : TypeId) : Prop where
  of ::
  ex : ∃ d, P.underlying t = some d ∧ aggB d = false
structure XA (P : Program) (t n : Nat) : Prop where
  of ::
  ex : ∃ e z by_, P.underlying t = some (.slice e) ∧ Inf P e z n by_
theorem as_ {t n : TypeId} {v : Value} {K' : Value → World → Prop} (h : SA P t n) (hn : v.cells.size = n) (h1 : v.cells.toList.all oneC = true) (hk : K' (.pointer (some ⟨w.heap.size, 0, none⟩)) (w.alloc (.cells v.cells t))) :
    V P (Instr.alloc t true (.tuple #[])) w (fun p w1 => U P (Instr.storeAt t p v) w1 fun _ w2 => K' p w2) := by
  obtain ⟨z, b, hi, hz⟩ := h
  exact (V_allocStore hi (by simpa using hz) hn (fun u hu => List.all_eq_true.1 h1 u hu)).2 hk
theorem ldf {s f o ft b off : Nat} {u : Value} (h : FA P s f o) (hl : L1 P ft) (hc : w.cell? ⟨b, off + o, none⟩ = some u) (hk : K u w) :
    V P (Instr.fieldAt s (.pointer (some ⟨b, off, none⟩)) f) w fun q w1 => V P (Instr.loadAt ft q) w1 K := by
  obtain ⟨d, hd, ha⟩ := hl
  exact V.ok (h.ex w b off) (V.ok (r_load hd ha hc) hk)
theorem ldx {t x : TypeId} {v : Value} {n : Nat} {cs : List Value} {k : IntKind} {i : Int} {u : Value} (h : XA P t 1) (hl : L1 P x) (hs : SliceIs w v 1 n cs) (h0 : 0 ≤ i) (h1 : i < n) (hu : cs[i.toNat]? = some u) (hk : K u w) :
    V P (Instr.indexAt t v (.int k i)) w fun p w1 => V P (Instr.loadAt x p) w1 K := by
  obtain ⟨e, z, b, ht, hi⟩ := h
  obtain ⟨d, hd, ha⟩ := hl
  exact hs.get ht hi hd ha h0 h1 hu hk
theorem lnx {t ty n : Nat} {m : Nat} {v : Value} {size : Nat} {cs : List Value} (h : XA P t n) (hs : SliceIs w v size m cs) (hk : K (i64 m) w) : V P (Builtin.len_ #[t] ty #[v]) w K := by
  obtain ⟨e, z, b, ht, hi⟩ := h
  obtain ⟨a, c, rfl⟩ := hs.shape
  exact V.ok (r_len ht) hk
def Boxed (w : World) (b : Nat) (cs : List Value) : Prop := ∀ j u, cs[j]? = some u → w.cell? ⟨b, 0 + j, none⟩ = some u
theorem Boxed.ext {w w' : World} {b : Nat} {cs : List Value} (h : Boxed w b cs) (hx : Ext w w') : Boxed w' b cs := fun j u hj => hx.cell (h j u hj)
theorem boxed_new {cs : Array Value} {t : TypeId} : Boxed (w.alloc (.cells cs t)) w.heap.size cs.toList := fun j u hj => by simpa using hj
theorem bx {t : TypeId} {v : Value} (hk : ∀ b w1, Boxed w1 b v.cells.toList → Ext w w1 → K (.pointer (some ⟨b, 0, none⟩)) w1) : V P (Instr.box t v) w K :=
  V.ok r_box (hk _ _ boxed_new ((Ext.refl w).alloc _))
theorem asB {t n : TypeId} {v : Value} {K' : Value → World → Prop} (h : SA P t n) (hn : v.cells.size = n) (h1 : v.cells.toList.all oneC = true) (hk : ∀ b w1, Boxed w1 b v.cells.toList → Ext w w1 → K' (.pointer (some ⟨b, 0, none⟩)) w1) :
    V P (Instr.alloc t true (.tuple #[])) w (fun p w1 => U P (Instr.storeAt t p v) w1 fun _ w2 => K' p w2) :=
  as_ h hn h1 (hk _ _ boxed_new ((Ext.refl w).alloc _))
theorem ldB {s f o ft b : Nat} {cs : List Value} {u : Value} (hb : Boxed w b cs) (h : FA P s f o) (hl : L1 P ft) (hc : cs[o]? = some u) (hk : K u w) :
    V P (Instr.fieldAt s (.pointer (some ⟨b, 0, none⟩)) f) w fun q w1 => V P (Instr.loadAt ft q) w1 K := ldf h hl (hb o u hc) hk
theorem ldA {t n b : Nat} {cs : List Value} (hb : Boxed w b cs) (ht : ∃ d z by_, P.underlying t = some d ∧ aggB d = true ∧ Inf P t z n by_) (hl : cs.length = n) (hk : K (.agg cs.toArray) w) : V P (Instr.loadAt t (.pointer (some ⟨b, 0, none⟩))) w K := by
  obtain ⟨d, z, by_, h1, h2, h3⟩ := ht
  exact V.ok (r_loadAgg h1 h2 h3 hl fun j hj => by
    obtain ⟨u, hu⟩ : ∃ u, cs[j]? = some u := ⟨_, List.getElem?_eq_getElem hj⟩
    rw [hu]; exact hb j u hu) hk
structure XE (P : Program) (t e by_ : Nat) : Prop where
  of ::
  ex : ∃ z, P.underlying t = some (.slice e) ∧ Inf P e z 1 by_ ∧ (z.cells.size == 1) = true
theorem oneC_eq (v : Value) : v.oneCell' = oneC v := by cases v <;> rfl
theorem bsl {t e by_ : Nat} (h : XE P t e by_) (l : List Value) {n : Nat} {parts : Array (Nat × Value)} (hn : n = l.length) (hp : parts = ((List.range' 0 l.length).zip l).toArray) (hl : l.length ≤ 16777216) (h1 : l.all oneC = true)
    (hk : ∀ v w', w'.ownsRow w.heap.size e 1 v n l → Ext w w' → K v w') : V P (Instr.buildSlice t n parts) w K := by
  subst hn
  subst hp
  obtain ⟨z, ht, hi, hz⟩ := h
  refine V.ok (r_buildSlice ht hi hz l hl (fun u hu => List.all_eq_true.1 h1 u hu)) (hk _ _ ?_ ((Ext.refl w).alloc _))
  have := World.ownsRow_lit (base := w.heap.size) (e := e) (size := 1) w l.toArray l.length (Nat.le_refl _) (by unfold maxLen; omega) (by simp)
  simpa using this
theorem apO {t e by_ ty : Nat} (h : XE P t e by_) {B : Nat} {v : Value} {n : Nat} {xs : List Value} (ho : w.ownsRow B e 1 v n xs) {x : Value} {m : Nat} {news : List Value} (hs : SliceIs w x 1 m news) (h1 : news.all oneC = true)
    (hb : (n + m) * by_ ≤ 140737488355328) (h63 : n + m ≤ maxLen) (hB : B ≤ w.heap.size) (hk : ∀ v' w', w'.ownsRow B e 1 v' (n + m) (xs ++ news) → w.grownBy w' v.ownBlock → K v' w') :
    V P (Builtin.append_ #[t, t] ty #[v, x]) w K := by
  obtain ⟨z, ht, hi, hz⟩ := h
  obtain ⟨i, hi', hz', hn, hby⟩ := info_parts hi
  rcases hs.2 with ⟨rfl, rfl⟩ | ⟨b, off, cap, rfl, _, _, hc⟩
  · have hnews : news = [] := by have := hs.1; simpa using this
    subst hnews
    refine V.ok (run_append_owned_none w B t ty e i 1 ht hi' v n xs ho) (hk _ _ (by simpa using ho) ⟨rfl, rfl, rfl, Nat.le_refl _, fun _ _ _ => rfl⟩)
  · obtain ⟨v', w', hr, h2, h3, _⟩ := run_append_own (P := P) w B t ty e i z 1 by_ ht hi' hz' hn hby (by simpa using hz) (by omega) v n xs ho ⟨b, off, none⟩ m cap news hs.1
      (fun j u hj => by rw [add_mk]; exact hc j u hj) (fun u hu => by rw [oneC_eq]; exact List.all_eq_true.1 h1 u hu) h63 hb hB
    exact V.ok hr (hk _ _ h2 h3)
end
end Go.Vc
namespace Go.Vc
section
variable {P : Program} {w : World} {K : Value → World → Prop}
theorem own_mono {w : World} {B B' e size n : Nat} {v : Value} {xs : List Value} (h : w.ownsRow B e size v n xs) (hB : B' ≤ B) : w.ownsRow B' e size v n xs := by
  refine ⟨h.1, ?_⟩
  rcases h.2 with h2 | ⟨g, cap, cur, h2, h3, h4⟩
  · exact .inl h2
  · exact .inr ⟨g, cap, cur, h2, Nat.le_trans hB h3, h4⟩
theorem stO {t x : Nat} {z : Value} {by_ : Nat} (h : XA P t 1) (hx : Inf P x z 1 by_) {B e n : Nat} {v : Value} {xs : List Value} (ho : w.ownsRow B e 1 v n xs) {k : IntKind} {i : Int} (h0 : 0 ≤ i) (h1 : i < n) {u : Value} (hu : oneC u = true) {K' : World → Prop}
    (hk : ∀ w', w'.ownsRow B e 1 v n (xs.set i.toNat u) → w.grownBy w' v.ownBlock → K' w') :
    V P (Instr.indexAt t v (.int k i)) w fun p w1 => U P (Instr.storeAt x p u) w1 fun _ w2 => K' w2 := by
  obtain ⟨e', z', b', ht, hi⟩ := h
  have ho' := ho
  rcases ho.2 with ⟨_, rfl⟩ | ⟨g, cap, cur, rfl, hB, _⟩
  · omega
  refine V.ok (r_index ht hi h0 h1) ?_
  obtain ⟨s1, s2⟩ := ho'.stored i.toNat u
  have hc := ho'.cellAt i.toNat (by omega)
  have hlt : i.toNat < xs.length := by have := ho'.1; omega
  rw [List.getElem?_eq_getElem hlt] at hc
  simp only [Nat.zero_add, Nat.mul_one]
  exact U.ok (r_store hx hu hc (ho'.frozenAt _)) (hk _ s1 s2)
theorem ldO' {t x : Nat} (h : XA P t 1) (hl : L1 P x) {B e n : Nat} {v : Value} {xs : List Value} (ho : w.ownsRow B e 1 v n xs) {k : IntKind} {i : Int} {u : Value} (h0 : 0 ≤ i) (h1 : i < n) (hu : xs[i.toNat]? = some u) (hk : K u w) :
    V P (Instr.indexAt t v (.int k i)) w fun p w1 => V P (Instr.loadAt x p) w1 K := ldx h hl (SliceIs.of_own ho) h0 h1 hu hk
def Blk (w : World) (g : Nat) (cs : List Value) (e : TypeId) : Prop := w.heap[g]? = some (.cells cs.toArray e (0, 0))
theorem Blk.ext {w w' : World} {g : Nat} {cs : List Value} {e : TypeId} (h : Blk w g cs e) (hx : Ext w w') : Blk w' g cs e := hx.obj h
theorem Blk.lt {w : World} {g : Nat} {cs : List Value} {e : TypeId} (h : Blk w g cs e) : g < w.heap.size := (Array.getElem?_eq_some_iff.1 h).1
theorem Blk.cell {w : World} {g : Nat} {cs : List Value} {e : TypeId} (h : Blk w g cs e) (j : Nat) : w.cell? ⟨g, j, none⟩ = cs[j]? := by
  rw [cell_of_row w g j cs.toArray e (0, 0) h]; simp
theorem Blk.frozen {w : World} {g : Nat} {cs : List Value} {e : TypeId} (h : Blk w g cs e) (j : Nat) : w.frozen? ⟨g, j, none⟩ = false := frozen_of_row w g j cs.toArray e h
theorem Blk.set {w : World} {g : Nat} {cs : List Value} {e : TypeId} (h : Blk w g cs e) (j : Nat) (u : Value) : Blk (w.setCell ⟨g, j, none⟩ u) g (cs.set j u) e := by
  have := heap_setCell_same w g j cs.toArray e u h
  unfold Blk
  rw [this]
  simp
theorem Blk.other {w : World} {g g' j : Nat} {cs : List Value} {e : TypeId} {u : Value} (h : Blk w g cs e) (hne : g ≠ g') : Blk (w.setCell ⟨g', j, none⟩ u) g cs e := by
  unfold Blk
  rw [heap_setCell_other w ⟨g', j, none⟩ g u hne]
  exact h
theorem Blk.slice {w : World} {g n : Nat} {cs : List Value} {e : TypeId} (h : Blk w g cs e) (hn : cs.length = n) (hm : n ≤ maxLen) : SliceIs w (.slice (some ⟨g, 0, none⟩) n n) 1 n cs :=
  ⟨by omega, .inr ⟨g, 0, n, rfl, Nat.le_refl _, hm, fun j u hj => by rw [Nat.zero_add, h.cell]; exact hj⟩⟩
theorem mkB {t e by_ : Nat} {z : Value} (ht : P.underlying t = some (.slice e)) (hi : Inf P e z 1 by_) (hz : z.cells = #[z]) {n : Nat} (hb : by_ * n ≤ 281474976710656) (h63 : n ≤ 9223372036854775807)
    (hk : ∀ w', Blk w' w.heap.size (List.replicate n z) e → Ext w w' → w'.heap.size = w.heap.size + 1 → K (.slice (some ⟨w.heap.size, 0, none⟩) n n) w') : V P (Instr.makeSlice t (i64 n) (i64 n)) w K := by
  obtain ⟨i, hi', hz', hn, hby⟩ := info_parts hi
  have hr := run_make (P := P) w t e i z ht hi' hz' .i64 .i64 n n (by omega) (Int.le_refl _) (by rw [hby, ← Int.natCast_mul]; omega) (by omega)
  simp only [Int.toNat_natCast, hn, hz, Nat.mul_one] at hr
  refine V.ok hr (hk _ ?_ ((Ext.refl w).alloc _) (by simp))
  unfold Blk
  have := heap_alloc_new w (.cells (madeCells #[z] n) e)
  rw [this]
  congr 2
  rw [← toList_madeCells_one z n]
structure BD (P : Program) (t : TypeId) (zs : List Value) : Prop where
  of ::
  ex : ∃ fs b, P.underlying t = some (.struct fs) ∧ Inf P t (.agg zs.toArray) zs.length b ∧ ∀ w : World, (fs.mapM (fun f => do pure (f.offset, ← sizeOf f.type)) : Sem (Array (Nat × Nat))).run P w = .ok ((List.range zs.length).map (fun i => (i, 1))).toArray w
theorem fillB {n : Nat} : ∀ (l : List (Nat × Value)) (cs : List Value), cs.length = n → (l.all fun x => decide (x.1 < n) && oneC x.2) = true →
    Instr.fill ((((List.range n).map (fun i => (i, 1))).toArray)[·]?) cs.toArray l = some (l.foldl (fun cs x => cs.set x.1 x.2) cs).toArray
  | [], cs, _, _ => rfl
  | (i, v) :: l, cs, hl, h => by
    simp only [List.all_cons, Bool.and_eq_true, decide_eq_true_eq] at h
    have hi : ((((List.range n).map (fun i => (i, 1))).toArray)[i]?) = some (i, 1) := by simp [h.1.1]
    have hc := oneC_cells h.1.2
    rw [Instr.fill, hi]
    have hn : ¬ (i + 1 > cs.length) := by omega
    simp only [hc, List.size_toArray, List.length_cons, List.length_nil, Nat.zero_add, ne_eq, not_true_eq_false, decide_false, Bool.false_or, hn, Bool.false_eq_true, if_false]
    have := fillB (n := n) l (cs.set i v) (by simpa using hl) h.2
    simpa using this
theorem bld {t : TypeId} {zs : List Value} (h : BD P t zs) {parts : Array (Nat × Value)} (l : List (Nat × Value)) (hp : parts = l.toArray) (h1 : (l.all fun x => decide (x.1 < zs.length) && oneC x.2) = true)
    (hk : K (.agg (l.foldl (fun cs x => cs.set x.1 x.2) zs).toArray) w) : V P (Instr.build t parts) w K := by
  subst hp
  obtain ⟨fs, b, hu, hi, hm⟩ := h
  refine V.ok ?_ hk
  simp only [Instr.build, Sem.run_bind, run_zero hi, Result.andThen_ok, run_underlying hu, hm, Value.cells]
  rw [fillB l zs rfl h1]
  simp
structure MI (P : Program) (t : TypeId) : Prop where
  of ::
  ex : ∃ d, P.underlying t = some d ∧ notIf d = true
theorem mki {t : TypeId} (h : MI P t) {v : Value} (hk : K (.iface t v) w) : V P (Instr.makeInterface t v) w K := by
  obtain ⟨d, hu, hd⟩ := h
  refine V.ok ?_ hk
  cases d <;> first | (simp [Instr.makeInterface, run_underlying hu]; done) | cases hd
end
end Go.Vc
namespace Go.Proofs.YthblbcjgdbaonaaGreatDoor
open Go.Vc
theorem inf3 : Inf Tryz.prog 3 (.int .i64 0) 1 8 := by unfold Inf; kernel_rfl
theorem inf4 : Inf Tryz.prog 4 (.bool false) 1 1 := by unfold Inf; kernel_rfl
theorem inf5 : Inf Tryz.prog 5 (.int .u8 0) 1 1 := by unfold Inf; kernel_rfl
theorem inf9 : Inf Tryz.prog 9 (.string ByteArray.empty) 1 16 := by unfold Inf; kernel_rfl
theorem inf22 : Inf Tryz.prog 22 (.slice none 0 0) 1 24 := by unfold Inf; kernel_rfl
theorem inf23 : Inf Tryz.prog 23 (.slice none 0 0) 1 24 := by unfold Inf; kernel_rfl
theorem inf25 : Inf Tryz.prog 25 (.agg #[(.int .i64 0), (.int .i64 0), (.int .i64 0), (.slice none 0 0), (.slice none 0 0), (.slice none 0 0), (.int .i64 0), (.int .i64 0), (.int .i64 0)]) 9 120 := by unfold Inf; kernel_rfl
theorem inf27 : Inf Tryz.prog 27 (.agg #[(.int .i64 0), (.slice none 0 0), (.slice none 0 0)]) 3 56 := by unfold Inf; kernel_rfl
theorem inf29 : Inf Tryz.prog 29 (.agg #[(.int .i64 0), (.slice none 0 0), (.string ByteArray.empty), (.slice none 0 0), (.slice none 0 0), (.int .i64 0)]) 6 104 := by unfold Inf; kernel_rfl
theorem inf57 : Inf Tryz.prog 57 (.slice none 0 0) 1 24 := by unfold Inf; kernel_rfl
theorem inf58 : Inf Tryz.prog 58 (.slice none 0 0) 1 24 := by unfold Inf; kernel_rfl
theorem inf59 : Inf Tryz.prog 59 (.slice none 0 0) 1 24 := by unfold Inf; kernel_rfl
theorem inf61 : Inf Tryz.prog 61 (.agg #[(.string ByteArray.empty), (.slice none 0 0), (.slice none 0 0), (.slice none 0 0), (.slice none 0 0)]) 5 112 := by unfold Inf; kernel_rfl
theorem inf65 : Inf Tryz.prog 65 (.agg #[(.int .i64 0), (.int .i64 0)]) 2 16 := by unfold Inf; kernel_rfl
theorem inf73 : Inf Tryz.prog 73 (.agg #[(.pointer none), (.slice none 0 0)]) 2 32 := by unfold Inf; kernel_rfl
theorem inf91 : Inf Tryz.prog 91 (.agg #[(.string ByteArray.empty), (.int .i64 0), (.slice none 0 0), (.int .i64 0)]) 4 56 := by unfold Inf; kernel_rfl
theorem inf92 : Inf Tryz.prog 92 (.slice none 0 0) 1 24 := by unfold Inf; kernel_rfl
theorem inf94 : Inf Tryz.prog 94 (.agg #[(.slice none 0 0), (.int .i64 0), (.slice none 0 0), (.slice none 0 0)]) 4 80 := by unfold Inf; kernel_rfl
theorem inf97 : Inf Tryz.prog 97 (.agg #[(.int .i64 0), (.int .i64 0), (.int .i64 0)]) 3 24 := by unfold Inf; kernel_rfl
theorem inf115 : Inf Tryz.prog 115 (.agg #[(.int .u8 0), (.int .u8 0)]) 2 2 := by unfold Inf; kernel_rfl
theorem inf125 : Inf Tryz.prog 125 .nilIface 1 16 := by unfold Inf; kernel_rfl
theorem inf141 : Inf Tryz.prog 141 (.agg #[(.slice none 0 0), (.slice none 0 0), (.int .i64 0), (.slice none 0 0), (.int .i64 0)]) 5 88 := by unfold Inf; kernel_rfl
theorem inf143 : Inf Tryz.prog 143 (.agg #[(.int .i64 0), (.int .i64 0), (.int .i64 0), (.int .i64 0)]) 4 32 := by unfold Inf; kernel_rfl
theorem inf200 : Inf Tryz.prog 200 (.agg #[(.bool false), (.bool false)]) 2 2 := by unfold Inf; kernel_rfl
theorem r_ld_3 {w : World} {a : Addr} {v : Value} (h : w.cell? a = some v) : (Instr.loadAt 3 (.pointer (some a))).run Tryz.prog w = .ok v w := r_load Tryz.underlying3 rfl h
theorem r_ld_5 {w : World} {a : Addr} {v : Value} (h : w.cell? a = some v) : (Instr.loadAt 5 (.pointer (some a))).run Tryz.prog w = .ok v w := r_load Tryz.underlying5 rfl h
theorem r_neqb_4 {w : World} {x y : Operand} {a b : Bool} : (do eqGuard .neq 4 x y (.bool a) (.bool b); binOp .neq 4 (.bool a) (.bool b)).run Tryz.prog w = .ok (.bool (a != b)) w := r_neqBool Tryz.underlying4
theorem V_ln_23 {w : World} {ty : TypeId} {a : Option Addr} {n c : Nat} {K : Value → World → Prop} : V Tryz.prog (Builtin.len_ #[23] ty #[.slice a n c]) w K ↔ K (.int .i64 n) w := V.iff (r_len Tryz.underlying23)
theorem V_ln_53 {w : World} {ty : TypeId} {a : Option Addr} {n c : Nat} {K : Value → World → Prop} : V Tryz.prog (Builtin.len_ #[53] ty #[.slice a n c]) w K ↔ K (.int .i64 n) w := V.iff (r_len Tryz.underlying53)
theorem V_ln_80 {w : World} {ty : TypeId} {a : Option Addr} {n c : Nat} {K : Value → World → Prop} : V Tryz.prog (Builtin.len_ #[80] ty #[.slice a n c]) w K ↔ K (.int .i64 n) w := V.iff (r_len Tryz.underlying80)
theorem V_neqb_4 {w : World} {x y : Operand} {a b : Bool} {K : Value → World → Prop} : V Tryz.prog (do eqGuard .neq 4 x y (.bool a) (.bool b); binOp .neq 4 (.bool a) (.bool b)) w K ↔ K (.bool (a != b)) w := V.iff (r_neqBool Tryz.underlying4)
theorem la_115 : ∃ d z by_, Program.underlying Tryz.prog 115 = some d ∧ aggB d = true ∧ Inf Tryz.prog 115 z 2 by_ := ⟨_, _, _, Tryz.underlying115, rfl, inf115⟩
theorem la_143 : ∃ d z by_, Program.underlying Tryz.prog 143 = some d ∧ aggB d = true ∧ Inf Tryz.prog 143 z 4 by_ := ⟨_, _, _, Tryz.underlying143, rfl, inf143⟩
theorem la_25 : ∃ d z by_, Program.underlying Tryz.prog 25 = some d ∧ aggB d = true ∧ Inf Tryz.prog 25 z 9 by_ := ⟨_, _, _, Tryz.underlying25, rfl, inf25⟩
theorem la_29 : ∃ d z by_, Program.underlying Tryz.prog 29 = some d ∧ aggB d = true ∧ Inf Tryz.prog 29 z 6 by_ := ⟨_, _, _, Tryz.underlying29, rfl, inf29⟩
theorem la_61 : ∃ d z by_, Program.underlying Tryz.prog 61 = some d ∧ aggB d = true ∧ Inf Tryz.prog 61 z 5 by_ := ⟨_, _, _, Tryz.underlying61, rfl, inf61⟩
theorem la_91 : ∃ d z by_, Program.underlying Tryz.prog 91 = some d ∧ aggB d = true ∧ Inf Tryz.prog 91 z 4 by_ := ⟨_, _, _, Tryz.underlying91, rfl, inf91⟩
theorem la_94 : ∃ d z by_, Program.underlying Tryz.prog 94 = some d ∧ aggB d = true ∧ Inf Tryz.prog 94 z 4 by_ := ⟨_, _, _, Tryz.underlying94, rfl, inf94⟩
theorem la_97 : ∃ d z by_, Program.underlying Tryz.prog 97 = some d ∧ aggB d = true ∧ Inf Tryz.prog 97 z 3 by_ := ⟨_, _, _, Tryz.underlying97, rfl, inf97⟩
theorem sa_115 : SA Tryz.prog 115 2 := ⟨_, _, inf115, by decide⟩
theorem sa_29 : SA Tryz.prog 29 6 := ⟨_, _, inf29, by decide⟩
theorem sa_61 : SA Tryz.prog 61 5 := ⟨_, _, inf61, by decide⟩
theorem sa_65 : SA Tryz.prog 65 2 := ⟨_, _, inf65, by decide⟩
theorem sa_91 : SA Tryz.prog 91 4 := ⟨_, _, inf91, by decide⟩
theorem sa_94 : SA Tryz.prog 94 4 := ⟨_, _, inf94, by decide⟩
theorem fa_105_0 : FA Tryz.prog 105 0 0 := ⟨fun _ _ _ => r_field 23 0 Tryz.underlying105 rfl inf23 rfl⟩
theorem fa_115_0 : FA Tryz.prog 115 0 0 := ⟨fun _ _ _ => r_field 5 0 Tryz.underlying115 rfl inf5 rfl⟩
theorem fa_115_1 : FA Tryz.prog 115 1 1 := ⟨fun _ _ _ => r_field 5 1 Tryz.underlying115 rfl inf5 rfl⟩
theorem fa_127_1 : FA Tryz.prog 127 1 1 := ⟨fun _ _ _ => r_field 125 1 Tryz.underlying127 rfl inf125 rfl⟩
theorem fa_127_2 : FA Tryz.prog 127 2 2 := ⟨fun _ _ _ => r_field 3 2 Tryz.underlying127 rfl inf3 rfl⟩
theorem fa_141_0 : FA Tryz.prog 141 0 0 := ⟨fun _ _ _ => r_field 92 0 Tryz.underlying141 rfl inf92 rfl⟩
theorem fa_141_1 : FA Tryz.prog 141 1 1 := ⟨fun _ _ _ => r_field 57 1 Tryz.underlying141 rfl inf57 rfl⟩
theorem fa_141_2 : FA Tryz.prog 141 2 2 := ⟨fun _ _ _ => r_field 3 2 Tryz.underlying141 rfl inf3 rfl⟩
theorem fa_141_3 : FA Tryz.prog 141 3 3 := ⟨fun _ _ _ => r_field 57 3 Tryz.underlying141 rfl inf57 rfl⟩
theorem fa_141_4 : FA Tryz.prog 141 4 4 := ⟨fun _ _ _ => r_field 3 4 Tryz.underlying141 rfl inf3 rfl⟩
theorem fa_143_0 : FA Tryz.prog 143 0 0 := ⟨fun _ _ _ => r_field 3 0 Tryz.underlying143 rfl inf3 rfl⟩
theorem fa_143_1 : FA Tryz.prog 143 1 1 := ⟨fun _ _ _ => r_field 3 1 Tryz.underlying143 rfl inf3 rfl⟩
theorem fa_143_2 : FA Tryz.prog 143 2 2 := ⟨fun _ _ _ => r_field 3 2 Tryz.underlying143 rfl inf3 rfl⟩
theorem fa_143_3 : FA Tryz.prog 143 3 3 := ⟨fun _ _ _ => r_field 3 3 Tryz.underlying143 rfl inf3 rfl⟩
theorem fa_200_0 : FA Tryz.prog 200 0 0 := ⟨fun _ _ _ => r_field 4 0 Tryz.underlying200 rfl inf4 rfl⟩
theorem fa_200_1 : FA Tryz.prog 200 1 1 := ⟨fun _ _ _ => r_field 4 1 Tryz.underlying200 rfl inf4 rfl⟩
theorem fa_25_0 : FA Tryz.prog 25 0 0 := ⟨fun _ _ _ => r_field 3 0 Tryz.underlying25 rfl inf3 rfl⟩
theorem fa_25_1 : FA Tryz.prog 25 1 1 := ⟨fun _ _ _ => r_field 3 1 Tryz.underlying25 rfl inf3 rfl⟩
theorem fa_25_2 : FA Tryz.prog 25 2 2 := ⟨fun _ _ _ => r_field 3 2 Tryz.underlying25 rfl inf3 rfl⟩
theorem fa_25_3 : FA Tryz.prog 25 3 3 := ⟨fun _ _ _ => r_field 22 3 Tryz.underlying25 rfl inf22 rfl⟩
theorem fa_25_4 : FA Tryz.prog 25 4 4 := ⟨fun _ _ _ => r_field 23 4 Tryz.underlying25 rfl inf23 rfl⟩
theorem fa_25_5 : FA Tryz.prog 25 5 5 := ⟨fun _ _ _ => r_field 23 5 Tryz.underlying25 rfl inf23 rfl⟩
theorem fa_25_6 : FA Tryz.prog 25 6 6 := ⟨fun _ _ _ => r_field 3 6 Tryz.underlying25 rfl inf3 rfl⟩
theorem fa_25_7 : FA Tryz.prog 25 7 7 := ⟨fun _ _ _ => r_field 3 7 Tryz.underlying25 rfl inf3 rfl⟩
theorem fa_25_8 : FA Tryz.prog 25 8 8 := ⟨fun _ _ _ => r_field 3 8 Tryz.underlying25 rfl inf3 rfl⟩
theorem fa_27_0 : FA Tryz.prog 27 0 0 := ⟨fun _ _ _ => r_field 3 0 Tryz.underlying27 rfl inf3 rfl⟩
theorem fa_27_1 : FA Tryz.prog 27 1 1 := ⟨fun _ _ _ => r_field 23 1 Tryz.underlying27 rfl inf23 rfl⟩
theorem fa_27_2 : FA Tryz.prog 27 2 2 := ⟨fun _ _ _ => r_field 23 2 Tryz.underlying27 rfl inf23 rfl⟩
theorem fa_29_0 : FA Tryz.prog 29 0 0 := ⟨fun _ _ _ => r_field 3 0 Tryz.underlying29 rfl inf3 rfl⟩
theorem fa_29_1 : FA Tryz.prog 29 1 1 := ⟨fun _ _ _ => r_field 23 1 Tryz.underlying29 rfl inf23 rfl⟩
theorem fa_29_2 : FA Tryz.prog 29 2 2 := ⟨fun _ _ _ => r_field 9 2 Tryz.underlying29 rfl inf9 rfl⟩
theorem fa_29_3 : FA Tryz.prog 29 3 3 := ⟨fun _ _ _ => r_field 23 3 Tryz.underlying29 rfl inf23 rfl⟩
theorem fa_29_4 : FA Tryz.prog 29 4 4 := ⟨fun _ _ _ => r_field 23 4 Tryz.underlying29 rfl inf23 rfl⟩
theorem fa_29_5 : FA Tryz.prog 29 5 5 := ⟨fun _ _ _ => r_field 3 5 Tryz.underlying29 rfl inf3 rfl⟩
theorem fa_61_0 : FA Tryz.prog 61 0 0 := ⟨fun _ _ _ => r_field 9 0 Tryz.underlying61 rfl inf9 rfl⟩
theorem fa_61_1 : FA Tryz.prog 61 1 1 := ⟨fun _ _ _ => r_field 57 1 Tryz.underlying61 rfl inf57 rfl⟩
theorem fa_61_2 : FA Tryz.prog 61 2 2 := ⟨fun _ _ _ => r_field 58 2 Tryz.underlying61 rfl inf58 rfl⟩
theorem fa_61_3 : FA Tryz.prog 61 3 3 := ⟨fun _ _ _ => r_field 59 3 Tryz.underlying61 rfl inf59 rfl⟩
theorem fa_61_4 : FA Tryz.prog 61 4 4 := ⟨fun _ _ _ => r_field 57 4 Tryz.underlying61 rfl inf57 rfl⟩
theorem fa_91_0 : FA Tryz.prog 91 0 0 := ⟨fun _ _ _ => r_field 9 0 Tryz.underlying91 rfl inf9 rfl⟩
theorem fa_91_1 : FA Tryz.prog 91 1 1 := ⟨fun _ _ _ => r_field 3 1 Tryz.underlying91 rfl inf3 rfl⟩
theorem fa_91_2 : FA Tryz.prog 91 2 2 := ⟨fun _ _ _ => r_field 57 2 Tryz.underlying91 rfl inf57 rfl⟩
theorem fa_91_3 : FA Tryz.prog 91 3 3 := ⟨fun _ _ _ => r_field 3 3 Tryz.underlying91 rfl inf3 rfl⟩
theorem fa_94_0 : FA Tryz.prog 94 0 0 := ⟨fun _ _ _ => r_field 57 0 Tryz.underlying94 rfl inf57 rfl⟩
theorem fa_94_1 : FA Tryz.prog 94 1 1 := ⟨fun _ _ _ => r_field 3 1 Tryz.underlying94 rfl inf3 rfl⟩
theorem fa_94_2 : FA Tryz.prog 94 2 2 := ⟨fun _ _ _ => r_field 57 2 Tryz.underlying94 rfl inf57 rfl⟩
theorem fa_94_3 : FA Tryz.prog 94 3 3 := ⟨fun _ _ _ => r_field 92 3 Tryz.underlying94 rfl inf92 rfl⟩
theorem fa_97_0 : FA Tryz.prog 97 0 0 := ⟨fun _ _ _ => r_field 3 0 Tryz.underlying97 rfl inf3 rfl⟩
theorem fa_97_1 : FA Tryz.prog 97 1 1 := ⟨fun _ _ _ => r_field 3 1 Tryz.underlying97 rfl inf3 rfl⟩
theorem fa_97_2 : FA Tryz.prog 97 2 2 := ⟨fun _ _ _ => r_field 3 2 Tryz.underlying97 rfl inf3 rfl⟩
theorem l1_22 : L1 Tryz.prog 22 := ⟨_, Tryz.underlying22, rfl⟩
theorem l1_23 : L1 Tryz.prog 23 := ⟨_, Tryz.underlying23, rfl⟩
theorem l1_3 : L1 Tryz.prog 3 := ⟨_, Tryz.underlying3, rfl⟩
theorem l1_4 : L1 Tryz.prog 4 := ⟨_, Tryz.underlying4, rfl⟩
theorem l1_5 : L1 Tryz.prog 5 := ⟨_, Tryz.underlying5, rfl⟩
theorem l1_57 : L1 Tryz.prog 57 := ⟨_, Tryz.underlying57, rfl⟩
theorem l1_58 : L1 Tryz.prog 58 := ⟨_, Tryz.underlying58, rfl⟩
theorem l1_59 : L1 Tryz.prog 59 := ⟨_, Tryz.underlying59, rfl⟩
theorem l1_9 : L1 Tryz.prog 9 := ⟨_, Tryz.underlying9, rfl⟩
theorem l1_92 : L1 Tryz.prog 92 := ⟨_, Tryz.underlying92, rfl⟩
theorem xa_100 : XA Tryz.prog 100 1 := ⟨_, _, _, Tryz.underlying100, inf4⟩
theorem xa_22 : XA Tryz.prog 22 4 := ⟨_, _, _, Tryz.underlying22, inf143⟩
theorem xa_23 : XA Tryz.prog 23 1 := ⟨_, _, _, Tryz.underlying23, inf5⟩
theorem xa_53 : XA Tryz.prog 53 1 := ⟨_, _, _, Tryz.underlying53, inf9⟩
theorem xa_57 : XA Tryz.prog 57 1 := ⟨_, _, _, Tryz.underlying57, inf3⟩
theorem xa_58 : XA Tryz.prog 58 4 := ⟨_, _, _, Tryz.underlying58, inf91⟩
theorem xa_59 : XA Tryz.prog 59 4 := ⟨_, _, _, Tryz.underlying59, inf94⟩
theorem xa_80 : XA Tryz.prog 80 6 := ⟨_, _, _, Tryz.underlying80, inf29⟩
theorem xa_92 : XA Tryz.prog 92 3 := ⟨_, _, _, Tryz.underlying92, inf97⟩
theorem xa_99 : XA Tryz.prog 99 1 := ⟨_, _, _, Tryz.underlying99, inf57⟩
theorem xe_23 : XE Tryz.prog 23 5 1 := ⟨_, Tryz.underlying23, inf5, rfl⟩
theorem xe_53 : XE Tryz.prog 53 9 16 := ⟨_, Tryz.underlying53, inf9, rfl⟩
theorem xe_57 : XE Tryz.prog 57 3 8 := ⟨_, Tryz.underlying57, inf3, rfl⟩
theorem bd_141 : BD Tryz.prog 141 [(.slice none 0 0), (.slice none 0 0), (.int .i64 0), (.slice none 0 0), (.int .i64 0)] := ⟨_, _, Tryz.underlying141, inf141, fun w => by kernel_rfl⟩
theorem bd_200 : BD Tryz.prog 200 [(.bool false), (.bool false)] := ⟨_, _, Tryz.underlying200, inf200, fun w => by kernel_rfl⟩
theorem bd_61 : BD Tryz.prog 61 [(.string ByteArray.empty), (.slice none 0 0), (.slice none 0 0), (.slice none 0 0), (.slice none 0 0)] := ⟨_, _, Tryz.underlying61, inf61, fun w => by kernel_rfl⟩
theorem bd_65 : BD Tryz.prog 65 [(.int .i64 0), (.int .i64 0)] := ⟨_, _, Tryz.underlying65, inf65, fun w => by kernel_rfl⟩
theorem bd_91 : BD Tryz.prog 91 [(.string ByteArray.empty), (.int .i64 0), (.slice none 0 0), (.int .i64 0)] := ⟨_, _, Tryz.underlying91, inf91, fun w => by kernel_rfl⟩
theorem bd_94 : BD Tryz.prog 94 [(.slice none 0 0), (.int .i64 0), (.slice none 0 0), (.slice none 0 0)] := ⟨_, _, Tryz.underlying94, inf94, fun w => by kernel_rfl⟩
theorem bd_97 : BD Tryz.prog 97 [(.int .i64 0), (.int .i64 0), (.int .i64 0)] := ⟨_, _, Tryz.underlying97, inf97, fun w => by kernel_rfl⟩
theorem mi_129 : MI Tryz.prog 129 := ⟨_, Tryz.underlying129, rfl⟩
end Go.Proofs.YthblbcjgdbaonaaGreatDoor
