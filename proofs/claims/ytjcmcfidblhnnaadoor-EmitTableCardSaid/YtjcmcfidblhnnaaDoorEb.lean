/- The laws of single operations in the calculus of verification conditions, over any program; readings of slices; what a call leaves as it was. -/
import Derived.Test.YtjcmcfidblhnnaaDoorEa
import Derived.OwnWalk
import Derived.Below
import Derived.ArgAppend
import Derived.Test.YtjcmcfidblhnnaaDoorProg
import Derived.KernelRfl
namespace Go.Vc
abbrev i64 (n : Int) : Value := .int .i64 n
abbrev i32 (n : Int) : Value := .int .i32 n
abbrev vb (b : Bool) : Value := .bool b
abbrev nilS : Value := .slice none 0 0
abbrev gB (w w' : World) (r : Option Nat) : Prop := w.grownBy w' r
section
variable {P : Program} {w : World} {K : Value → World → Prop}
theorem V.iff {s : Sem Value} {v : Value} {w' : World} (h : s.run P w = .ok v w') : V P s w K ↔ K v w' :=
  ⟨fun ⟨_, _, h', hk⟩ => by rw [h] at h'; cases h'; exact hk, fun hk => ⟨v, w', h, hk⟩⟩
theorem U.iff {s : Sem Unit} {w' : World} (h : s.run P w = .ok () w') : U P s w K ↔ K undef w' :=
  ⟨fun ⟨_, h', hk⟩ => by rw [h] at h'; cases h'; exact hk, fun hk => ⟨w', h, hk⟩⟩
theorem V.ok {s : Sem Value} {v : Value} {w' : World} (h : s.run P w = .ok v w') (hk : K v w') : V P s w K := ⟨v, w', h, hk⟩
theorem U.ok {s : Sem Unit} {w' : World} (h : s.run P w = .ok () w') (hk : K undef w') : U P s w K := ⟨w', h, hk⟩
theorem callD.mono {f : FuncId} {args : Array Value} {R : Value → World → Prop} (h : callD P f args w R) (hk : ∀ v w', R v w' → K v w') : callD P f args w K :=
  ⟨⟨h.ex.1, Calls.mono h.ex.2 fun _ _ ⟨v, he, hr⟩ => ⟨v, he, hk v _ hr⟩⟩⟩
theorem callD.of_calls {f : FuncId} {fn : Func} {c : Code} {args : Array Value} (hf : P.funcs[f]? = some fn) (hname : (fn.name == "runtime.NumGoroutine") = false) (hb : fn.body = some c)
    (h : Calls P f args w fun e w' => ∃ v, e = .returned v ∧ K v w') : callD P f args w K := by
  refine ⟨⟨fun args w => ?_, h⟩⟩
  have hname' : ¬ fn.name = "runtime.NumGoroutine" := by simpa using hname
  simp [callFunc, program, Sem.run, hf, hname', hb]
theorem den_wp {P : Program} {f : FuncId} {fn : Func} {args : List Value} {w : World} {R : Value → World → Prop} {D : Prop} (hm : P.follows .mixedOrders = true) (ann : Ann) (hf : P.funcs[f]? = some fn)
    (hb : (!(fn.name == "runtime.NumGoroutine") && fn.body.isSome && (ok fn.ntmps ann (fn.body.getD .skip) && okRes fn.ntmps fn.results.toList && Nat.ble args.length fn.ntmps)) = true)
    (hD : D = vc P ann (fn.body.getD .skip) (retE P fn.results.toList R) (argEnv args) w) (h : D) : callD P f args.toArray w R := by
  simp only [Bool.and_eq_true, Bool.not_eq_true'] at hb
  obtain ⟨⟨h1, h2⟩, h3, h4⟩ := hb
  have hbody : fn.body = some (fn.body.getD .skip) := by
    cases e : fn.body with
    | none => rw [e] at h2; cases h2
    | some c => rfl
  refine callD.of_calls hf h1 hbody (calls_of_vc ann hm hf hbody (by simp only [Bool.and_eq_true]; exact ⟨h3, h4⟩) (hD ▸ h))
theorem ifD.mk {b : Bool} {x y : Prop} (h1 : b = true → x) (h2 : b = false → y) : ifD (.bool b) x y := ⟨b, rfl, h1, h2⟩
theorem ifD_true {x y : Prop} : ifD (.bool true) x y ↔ x := ⟨fun ⟨b, h, h1, _⟩ => by cases h; exact h1 rfl, fun h => ⟨true, rfl, fun _ => h, fun h => by cases h⟩⟩
theorem ifD_false {x y : Prop} : ifD (.bool false) x y ↔ y := ⟨fun ⟨b, h, _, h2⟩ => by cases h; exact h2 rfl, fun h => ⟨false, rfl, (fun h => by cases h), fun _ => h⟩⟩
theorem ifD_dec {p : Prop} [Decidable p] {x y : Prop} (h1 : p → x) (h2 : ¬ p → y) : ifD (.bool (decide p)) x y :=
  ⟨_, rfl, fun h => h1 (of_decide_eq_true h), fun h => h2 (of_decide_eq_false h)⟩
theorem pickD_mk {b : Bool} {x y : Value} {L : Value → Prop} (h : L (if b then x else y)) : pickD (.bool b) x y L := ⟨b, rfl, h⟩
theorem pickD_iff {b : Bool} {x y : Value} {L : Value → Prop} : pickD (.bool b) x y L ↔ L (if b then x else y) := ⟨fun ⟨_, h, hk⟩ => by cases h; exact hk, pickD_mk⟩
theorem gd_iff {b want : Bool} {step : (Value → World → Prop) → Prop} : gd (.bool b) want step w K ↔ if b = want then step K else K undef w := by
  constructor
  · rintro ⟨h1, h2⟩
    split
    · rename_i hb; exact h1 (by rw [hb])
    · rename_i hb; exact h2 (by simpa using hb)
  · intro h
    by_cases hb : b = want
    · rw [if_pos hb] at h; exact ⟨fun _ => h, fun h' => absurd (by rw [hb]) h'⟩
    · rw [if_neg hb] at h; exact ⟨fun h' => absurd (by simpa using h') hb, fun _ => h⟩
theorem gdY_iff {b want : Bool} {step : (Value → Prop) → Prop} {L : Value → Prop} : gdY (.bool b) want step L ↔ if b = want then step L else L undef := by
  constructor
  · rintro ⟨h1, h2⟩
    split
    · rename_i hb; exact h1 (by rw [hb])
    · rename_i hb; exact h2 (by simpa using hb)
  · intro h
    by_cases hb : b = want
    · rw [if_pos hb] at h; exact ⟨fun _ => h, fun h' => absurd (by rw [hb]) h'⟩
    · rw [if_neg hb] at h; exact ⟨fun h' => absurd (by simpa using h') hb, fun _ => h⟩
theorem gd_undef {want : Bool} {step : (Value → World → Prop) → Prop} : gd undef want step w K ↔ K undef w :=
  ⟨fun ⟨_, h2⟩ => h2 (by simp [undef]), fun h => ⟨fun h' => by simp [undef] at h', fun _ => h⟩⟩
theorem gdY_undef {want : Bool} {step : (Value → Prop) → Prop} {L : Value → Prop} : gdY undef want step L ↔ L undef :=
  ⟨fun ⟨_, h2⟩ => h2 (by simp [undef]), fun h => ⟨fun h' => by simp [undef] at h', fun _ => h⟩⟩
theorem gd_t {step : (Value → World → Prop) → Prop} : gd (.bool true) true step w K ↔ step K := by rw [gd_iff]; simp
theorem gd_f {step : (Value → World → Prop) → Prop} : gd (.bool false) false step w K ↔ step K := by rw [gd_iff]; simp
theorem gd_tf {step : (Value → World → Prop) → Prop} : gd (.bool true) false step w K ↔ K undef w := by rw [gd_iff]; simp
theorem gd_ft {step : (Value → World → Prop) → Prop} : gd (.bool false) true step w K ↔ K undef w := by rw [gd_iff]; simp
theorem gdY_t {step : (Value → Prop) → Prop} {L : Value → Prop} : gdY (.bool true) true step L ↔ step L := by rw [gdY_iff]; simp
theorem gdY_f {step : (Value → Prop) → Prop} {L : Value → Prop} : gdY (.bool false) false step L ↔ step L := by rw [gdY_iff]; simp
theorem gdY_tf {step : (Value → Prop) → Prop} {L : Value → Prop} : gdY (.bool true) false step L ↔ L undef := by rw [gdY_iff]; simp
theorem gdY_ft {step : (Value → Prop) → Prop} {L : Value → Prop} : gdY (.bool false) true step L ↔ L undef := by rw [gdY_iff]; simp
theorem drawD.mk' {body : (World → Prop) → World → Prop} (S : World → Prop) (hS : S w.drew) (h : body S w.drew) : drawD w body := ⟨S, hS, h⟩
theorem yieldS.ok {S : World → Prop} {s : Sem Value} {v : Value} {L : Value → Prop} (h : ∀ w, S w → s.run P w = .ok v w) (hk : L v) : yieldS P S s L := ⟨v, h, hk⟩
end
theorem r_lss {P : Program} {w : World} {k : IntKind} {t : TypeId} {a b : Int} : (binOp .lss t (.int k a) (.int k b)).run P w = .ok (.bool (decide (a < b))) w := by simp [binOp, Op.intCmp]
theorem V_lss {P : Program} {w : World} {K : Value → World → Prop} {k : IntKind} {t : TypeId} {a b : Int} : V P (binOp .lss t (.int k a) (.int k b)) w K ↔ K (.bool (decide (a < b))) w := V.iff (by exact r_lss )
theorem r_leq {P : Program} {w : World} {k : IntKind} {t : TypeId} {a b : Int} : (binOp .leq t (.int k a) (.int k b)).run P w = .ok (.bool (decide (a ≤ b))) w := by simp [binOp, Op.intCmp]
theorem V_leq {P : Program} {w : World} {K : Value → World → Prop} {k : IntKind} {t : TypeId} {a b : Int} : V P (binOp .leq t (.int k a) (.int k b)) w K ↔ K (.bool (decide (a ≤ b))) w := V.iff (by exact r_leq )
theorem r_gtr {P : Program} {w : World} {k : IntKind} {t : TypeId} {a b : Int} : (binOp .gtr t (.int k a) (.int k b)).run P w = .ok (.bool (decide (a > b))) w := by simp [binOp, Op.intCmp]
theorem V_gtr {P : Program} {w : World} {K : Value → World → Prop} {k : IntKind} {t : TypeId} {a b : Int} : V P (binOp .gtr t (.int k a) (.int k b)) w K ↔ K (.bool (decide (a > b))) w := V.iff (by exact r_gtr )
theorem r_geq {P : Program} {w : World} {k : IntKind} {t : TypeId} {a b : Int} : (binOp .geq t (.int k a) (.int k b)).run P w = .ok (.bool (decide (a ≥ b))) w := by simp [binOp, Op.intCmp]
theorem V_geq {P : Program} {w : World} {K : Value → World → Prop} {k : IntKind} {t : TypeId} {a b : Int} : V P (binOp .geq t (.int k a) (.int k b)) w K ↔ K (.bool (decide (a ≥ b))) w := V.iff (by exact r_geq )
theorem r_add {P : Program} {w : World} {k : IntKind} {t : TypeId} {a b : Int} : (binOp .add t (.int k a) (.int k b)).run P w = .ok (.int k (k.wrap (a + b))) w := by simp [binOp, Op.intArith]
theorem V_add {P : Program} {w : World} {K : Value → World → Prop} {k : IntKind} {t : TypeId} {a b : Int} : V P (binOp .add t (.int k a) (.int k b)) w K ↔ K (.int k (k.wrap (a + b))) w := V.iff (by exact r_add )
theorem r_sub {P : Program} {w : World} {k : IntKind} {t : TypeId} {a b : Int} : (binOp .sub t (.int k a) (.int k b)).run P w = .ok (.int k (k.wrap (a - b))) w := by simp [binOp, Op.intArith]
theorem V_sub {P : Program} {w : World} {K : Value → World → Prop} {k : IntKind} {t : TypeId} {a b : Int} : V P (binOp .sub t (.int k a) (.int k b)) w K ↔ K (.int k (k.wrap (a - b))) w := V.iff (by exact r_sub )
theorem r_mul {P : Program} {w : World} {k : IntKind} {t : TypeId} {a b : Int} : (binOp .mul t (.int k a) (.int k b)).run P w = .ok (.int k (k.wrap (a * b))) w := by simp [binOp, Op.intArith]
theorem V_mul {P : Program} {w : World} {K : Value → World → Prop} {k : IntKind} {t : TypeId} {a b : Int} : V P (binOp .mul t (.int k a) (.int k b)) w K ↔ K (.int k (k.wrap (a * b))) w := V.iff (by exact r_mul )
theorem r_rem {P : Program} {w : World} {k : IntKind} {t : TypeId} {a b : Int} (h : b ≠ 0) : (binOp .rem t (.int k a) (.int k b)).run P w = .ok (.int k (a.tmod b)) w := by simp [binOp, Op.intDiv, h]
theorem r_eqlI {P : Program} {w : World} {k : IntKind} {t : TypeId} {x y : Operand} {a b : Int} : (do eqGuard .eql t x y (.int k a) (.int k b); binOp .eql t (.int k a) (.int k b)).run P w = .ok (.bool (decide (a = b))) w := by simp [eqGuard, binOp, Op.intCmp]; rfl
theorem V_eqlI {P : Program} {w : World} {K : Value → World → Prop} {k : IntKind} {t : TypeId} {x y : Operand} {a b : Int} : V P (do eqGuard .eql t x y (.int k a) (.int k b); binOp .eql t (.int k a) (.int k b)) w K ↔ K (.bool (decide (a = b))) w := V.iff (by exact r_eqlI )
theorem r_neqI {P : Program} {w : World} {k : IntKind} {t : TypeId} {x y : Operand} {a b : Int} : (do eqGuard .neq t x y (.int k a) (.int k b); binOp .neq t (.int k a) (.int k b)).run P w = .ok (.bool (decide (a ≠ b))) w := by simp [eqGuard, binOp, Op.intCmp, bne]; rfl
theorem V_neqI {P : Program} {w : World} {K : Value → World → Prop} {k : IntKind} {t : TypeId} {x y : Operand} {a b : Int} : V P (do eqGuard .neq t x y (.int k a) (.int k b); binOp .neq t (.int k a) (.int k b)) w K ↔ K (.bool (decide (a ≠ b))) w := V.iff (by exact r_neqI )
theorem r_not {P : Program} {w : World} {b : Bool} : (Op.unary .not (.bool b)).run P w = .ok (.bool (!b)) w := by simp [Op.unary]
theorem V_not {P : Program} {w : World} {K : Value → World → Prop} {b : Bool} : V P (Op.unary .not (.bool b)) w K ↔ K (.bool (!b)) w := V.iff (by exact r_not )
theorem r_ext0 {P : Program} {w : World} {a b : Value} : (Instr.extract (.tuple #[a, b]) 0).run P w = .ok a w := by simp [Instr.extract]
theorem V_ext0 {P : Program} {w : World} {K : Value → World → Prop} {a b : Value} : V P (Instr.extract (.tuple #[a, b]) 0) w K ↔ K a w := V.iff (by exact r_ext0 )
theorem r_ext1 {P : Program} {w : World} {a b : Value} : (Instr.extract (.tuple #[a, b]) 1).run P w = .ok b w := by simp [Instr.extract]
theorem V_ext1 {P : Program} {w : World} {K : Value → World → Prop} {a b : Value} : V P (Instr.extract (.tuple #[a, b]) 1) w K ↔ K b w := V.iff (by exact r_ext1 )
theorem wrap_id {n : Int} (h1 : -9223372036854775808 ≤ n) (h2 : n ≤ 9223372036854775807) : IntKind.i64.wrap n = n := by
  simp only [IntKind.wrap_i64]; omega
def Inf (P : Program) (t : TypeId) (z : Value) (n bytes : Nat) : Prop := (P.info? t).map (fun i => (i.zero, i.size, i.bytes)) = some (some z, n, bytes)
section
variable {P : Program} {w : World} {K : Value → World → Prop}
theorem run_zero {t : TypeId} {z : Value} {n b : Nat} (h : Inf P t z n b) : (zeroValue t).run P w = .ok z w := by
  obtain ⟨i, hi, hz, _⟩ := info_parts h
  simp [zeroValue, typeInfo, hi, hz]
theorem run_size {t : TypeId} {z : Value} {n b : Nat} (h : Inf P t z n b) : (sizeOf t).run P w = .ok n w := by
  obtain ⟨i, hi, _, hn, _⟩ := info_parts h
  simp [sizeOf, typeInfo, hi, hn]
theorem r_len {s e ty : TypeId} (hs : P.underlying s = some (.slice e)) {a : Option Addr} {n c : Nat} : (Builtin.len_ #[s] ty #[.slice a n c]).run P w = .ok (.int .i64 n) w := by
  simp [Builtin.len_, run_underlying hs, goInt]
def notIf : TypeDesc → Bool
  | .interface _ => false
  | _ => true
theorem r_ta {x u : TypeId} {d : TypeDesc} {z : Value} {n b : Nat} (hu : P.underlying u = some d) (hd : notIf d = true) (hz : Inf P u z n b) {t : TypeId} {v : Value} :
    (Instr.typeAssert (.iface t v) x u true).run P w = .ok (if t = u then .tuple #[v, .bool true] else .tuple #[z, .bool false]) w := by
  cases d with
  | interface _ => cases hd
  | _ => simp only [Instr.typeAssert, Sem.run_bind, run_underlying hu, Result.andThen_ok] <;> (split <;> simp [*, run_zero hz])
theorem r_tanil {x u : TypeId} {d : TypeDesc} {z : Value} {n b : Nat} (hu : P.underlying u = some d) (hd : notIf d = true) (hz : Inf P u z n b) :
    (Instr.typeAssert .nilIface x u true).run P w = .ok (.tuple #[z, .bool false]) w := by
  cases d with
  | interface _ => cases hd
  | _ => simp [Instr.typeAssert, run_underlying hu, run_zero hz]
theorem r_alloc {t : TypeId} {z : Value} {n b : Nat} (hz : Inf P t z n b) : (Instr.alloc t true (.tuple #[])).run P w = .ok (.pointer (some ⟨w.heap.size, 0, none⟩)) (w.alloc (.cells z.cells t)) := by
  simp [Instr.alloc, run_zero hz, newVar, newRow, newObj, Sem.run]
theorem r_box {t : TypeId} {v : Value} : (Instr.box t v).run P w = .ok (.pointer (some ⟨w.heap.size, 0, none⟩)) (w.alloc (.cells v.cells t)) := by
  simp [Instr.box, newVar, newRow, newObj, Sem.run]
theorem add_mk (b off n : Nat) : (⟨b, off, none⟩ : Addr).add n = ⟨b, off + n, none⟩ := by
  unfold Addr.add
  split
  · rename_i h; subst h; rfl
  · rfl
theorem r_field {s : TypeId} {fs : Array Field} {f : Nat} (ft : TypeId) (o : Nat) {z : Value} {n by_ : Nat} (hs : P.underlying s = some (.struct fs)) (hf : (fs[f]?).map (fun fd => (fd.type, fd.offset)) = some (ft, o)) (hi : Inf P ft z n by_) (hn : (n == 0) = false) {b off : Nat} :
    (Instr.fieldAt s (.pointer (some ⟨b, off, none⟩)) f).run P w = .ok (.pointer (some ⟨b, off + o, none⟩)) w := by
  obtain ⟨fd, hfd, he⟩ := Option.map_eq_some_iff.1 hf
  simp only [Prod.mk.injEq] at he
  obtain ⟨rfl, rfl⟩ := he
  have hn' : n ≠ 0 := by simpa using hn
  simp [Instr.fieldAt, run_underlying hs, hfd, Instr.sureAddr, fieldPlace, run_size hi, hn', add_mk]
theorem r_index {t e : TypeId} {z : Value} {n by_ : Nat} (ht : P.underlying t = some (.slice e)) (hi : Inf P e z n by_) {b off len cap : Nat} {k : IntKind} {i : Int} (h0 : 0 ≤ i) (h1 : i < len) :
    (Instr.indexAt t (.slice (some ⟨b, off, none⟩) len cap) (.int k i)).run P w = .ok (.pointer (some ⟨b, off + i.toNat * n, none⟩)) w := by
  simp [Instr.indexAt, asIntOf, run_underlying ht, h0, h1, run_size hi, add_mk]
def aggB : TypeDesc → Bool
  | .struct _ | .array _ _ => true
  | _ => false
theorem run_isAgg {t : TypeId} {d : TypeDesc} (ht : P.underlying t = some d) : (isAgg t).run P w = .ok (aggB d) w := by
  cases d <;> simp [isAgg, run_underlying ht, aggB]
theorem r_load {t : TypeId} {d : TypeDesc} (ht : P.underlying t = some d) (hd : aggB d = false) {a : Addr} {v : Value} (h : w.cell? a = some v) :
    (Instr.loadAt t (.pointer (some a))).run P w = .ok v w := by
  simp [Instr.loadAt, Instr.sureAddr, loadVar, run_isAgg ht, hd, load, Sem.run, h]
theorem run_loadFrom {b off : Nat} (cs : List Value) : ∀ (l : List Value) (i : Nat) (acc : Array Value), (∀ j (_ : j < l.length), w.cell? ⟨b, off + (i + j), none⟩ = l[j]?) →
    (loadCellsFrom ⟨b, off, none⟩ i l.length acc).run P w = .ok (acc ++ l.toArray) w
  | [], _, acc, _ => by simp [loadCellsFrom]
  | v :: l, i, acc, h => by
    have h0 := h 0 (by simp)
    simp only [Nat.add_zero, List.getElem?_cons_zero] at h0
    simp only [List.length_cons, loadCellsFrom, load, add_mk, Sem.run_bind, Sem.run, h0, Result.andThen_ok]
    rw [run_loadFrom cs l (i + 1) (acc.push v) (fun j hj => by
      have := h (j + 1) (by simp; omega)
      rw [show i + 1 + j = i + (j + 1) from by omega]
      simpa using this)]
    simp
theorem r_loadAgg {t : TypeId} {d : TypeDesc} {z : Value} {n by_ : Nat} (ht : P.underlying t = some d) (hd : aggB d = true) (hi : Inf P t z n by_) {b off : Nat} {cs : List Value} (hl : cs.length = n)
    (h : ∀ j (_ : j < cs.length), w.cell? ⟨b, off + j, none⟩ = cs[j]?) : (Instr.loadAt t (.pointer (some ⟨b, off, none⟩))).run P w = .ok (.agg cs.toArray) w := by
  subst hl
  have := run_loadFrom (P := P) (w := w) (b := b) (off := off) cs cs 0 #[] (by simpa using h)
  simp [Instr.loadAt, Instr.sureAddr, loadVar, run_isAgg ht, hd, run_size hi, loadCells, this]
def oneC : Value → Bool
  | .agg _ | .tuple _ => false
  | _ => true
theorem oneC_cells {v : Value} (h : oneC v = true) : v.cells = #[v] := by cases v <;> first | rfl | cases h
theorem run_store1 {a : Addr} {v u : Value} (hv : oneC v = true) (h : w.cell? a = some u) (hf : w.frozen? a = false) : (store a v).run P w = .ok () (w.setCell a v) := by
  cases v <;> first | (simp [store, Sem.run, h, hf]; done) | cases hv
theorem r_store {t : TypeId} {z : Value} {by_ : Nat} (hi : Inf P t z 1 by_) {b off : Nat} {v u : Value} (hv : oneC v = true) (h : w.cell? ⟨b, off, none⟩ = some u) (hf : w.frozen? ⟨b, off, none⟩ = false) :
    (Instr.storeAt t (.pointer (some ⟨b, off, none⟩)) v).run P w = .ok () (w.setCell ⟨b, off, none⟩ v) := by
  simp [Instr.storeAt, Instr.sureAddr, storeVar, run_size hi, oneC_cells hv, storeCells, run_store1 hv h hf, add_mk]
theorem run_storeNew {t : TypeId} : ∀ (l done old : List Value), l.length = old.length → (∀ u ∈ l, oneC u = true) →
    (storeCells ⟨w.heap.size, 0, none⟩ l done.length).run P (w.alloc (.cells (done ++ old).toArray t)) = .ok () (w.alloc (.cells (done ++ l).toArray t))
  | [], done, [], _, _ => by simp [storeCells]
  | v :: l, done, u :: old, hl, h1 => by
    have hc : (w.alloc (.cells (done ++ u :: old).toArray t)).cell? ⟨w.heap.size, done.length, none⟩ = some u := by simp
    have hf : (w.alloc (.cells (done ++ u :: old).toArray t)).frozen? ⟨w.heap.size, done.length, none⟩ = false := by simp
    have hset : (w.alloc (.cells (done ++ u :: old).toArray t)).setCell ⟨w.heap.size, done.length, none⟩ v = w.alloc (.cells (done ++ v :: old).toArray t) := by
      simp only [World.setCell, World.alloc]
      congr 1
      apply Array.ext
      · simp
      · intro i h1 h2
        simp only [Array.getElem_modify, Array.getElem_push]
        by_cases hi : i < w.heap.size
        · have : ¬ w.heap.size = i := by omega
          simp [hi, this]
        · have hi' : w.heap.size = i := by simp at h1; omega
          subst hi'
          simp
    simp only [storeCells, add_mk, Nat.zero_add, Sem.run_bind]
    rw [run_store1 (h1 v (by simp)) hc hf, Result.andThen_ok, hset]
    have := run_storeNew (t := t) l (done ++ [v]) old (by simpa using hl) (fun u hu => h1 u (by simp [hu]))
    simpa using this
theorem r_storeNew {t t' : TypeId} {z : Value} {n by_ : Nat} (hi : Inf P t z n by_) {old : Array Value} {v : Value} (hn : v.cells.size = n) (ho : old.size = n) (h1 : ∀ u ∈ v.cells.toList, oneC u = true) :
    (Instr.storeAt t (.pointer (some ⟨w.heap.size, 0, none⟩)) v).run P (w.alloc (.cells old t')) = .ok () (w.alloc (.cells v.cells t')) := by
  have := run_storeNew (P := P) (w := w) (t := t') v.cells.toList [] old.toList (by simp [hn, ho]) h1
  simp only [List.nil_append, List.length_nil, Array.toArray_toList] at this
  simp [Instr.storeAt, Instr.sureAddr, storeVar, run_size hi, hn, this]
def ldO (P : Program) (t : TypeId) (a : Addr) (o : Option Value) (w : World) (K : Value → World → Prop) : Prop :=
  match o with
  | some v => K v w
  | none => V P (Instr.loadAt t (.pointer (some a))) w K
theorem V_load {t : TypeId} {d : TypeDesc} (ht : P.underlying t = some d) (hd : aggB d = false) {a : Addr} : V P (Instr.loadAt t (.pointer (some a))) w K ↔ ldO P t a (w.cell? a) w K := by
  cases h : w.cell? a with
  | none => exact Iff.rfl
  | some v => exact V.iff (r_load ht hd h)
theorem ldO_some {t : TypeId} {a : Addr} {v : Value} : ldO P t a (some v) w K ↔ K v w := Iff.rfl
theorem V_allocStore {t : TypeId} {z : Value} {n by_ : Nat} (hi : Inf P t z n by_) (hz : (z.cells.size == n) = true) {v : Value} {K' : Value → World → Prop} (hn : v.cells.size = n) (h1 : ∀ u ∈ v.cells.toList, oneC u = true) :
    V P (Instr.alloc t true (.tuple #[])) w (fun p w1 => U P (Instr.storeAt t p v) w1 fun _ w2 => K' p w2) ↔ K' (.pointer (some ⟨w.heap.size, 0, none⟩)) (w.alloc (.cells v.cells t)) := by
  rw [V.iff (r_alloc hi)]
  exact U.iff (r_storeNew hi hn (by simpa using hz) h1)
theorem fill_one (e : Nat) : ∀ (l : List Value) (done old : List Value), l.length = old.length → (∀ u ∈ l, oneC u = true) →
    Instr.fill (fun i => some (i * 1, 1)) (done ++ old).toArray ((List.range' done.length l.length).zip l) = some (done ++ l).toArray
  | [], done, [], _, _ => by simp [Instr.fill]
  | v :: l, done, u :: old, hl, h1 => by
    have hv := oneC_cells (h1 v (by simp))
    simp only [List.length_cons, List.range'_succ, List.zip_cons_cons, Instr.fill, hv]
    have := fill_one e l (done ++ [v]) old (by simpa using hl) (fun u hu => h1 u (by simp [hu]))
    simp at this ⊢
    exact this
theorem r_buildSlice {s e : TypeId} {z : Value} {by_ : Nat} (hs : P.underlying s = some (.slice e)) (hi : Inf P e z 1 by_) (hz : (z.cells.size == 1) = true) (l : List Value) (hl : l.length ≤ 16777216) (h1 : ∀ u ∈ l, oneC u = true) :
    (Instr.buildSlice s l.length ((List.range' 0 l.length).zip l).toArray).run P w = .ok (.slice (some ⟨w.heap.size, 0, none⟩) l.length l.length) (w.alloc (.cells l.toArray e)) := by
  obtain ⟨i, hi', hz', hn, hb⟩ := info_parts hi
  have hz1 : z.cells.size = 1 := by simpa using hz
  by_cases h0 : l.length = 0
  · obtain rfl := List.length_eq_zero_iff.1 h0
    have e0 : Array.range 0 = #[] := by simp [Array.range]
    simp [Instr.buildSlice, run_underlying hs, sizeOf, typeInfo, hi', Instr.fill, newRow, newObj, Sem.run, e0]
  · have hf := fill_one 0 l [] ((Array.range (l.length * 1)).map (fun j => z.cells[j % z.cells.size]!)).toList (by simp) h1
    simp only [List.nil_append, List.length_nil, Array.toArray_toList] at hf
    have hgt : ¬ 16777216 < l.length := by omega
    simp only [Instr.buildSlice, Sem.run_bind, run_underlying hs, Result.andThen_ok, run_size hi]
    simp only [Nat.mul_one, h0, if_false]
    rw [if_neg (by simpa using hgt)]
    simp only [Nat.mul_one] at hf
    simp [hf, newRow, newObj, Sem.run, run_zero hi]
theorem equal_succ (s : TypeId) (x y : Value) : Op.equal s x y = Op.equalIn (9999 + 1) s x y := rfl
theorem q_nilIface {s : TypeId} {ms : Array (String × TypeId)} (hs : P.underlying s = some (.interface ms)) (d : Nat) {t : TypeId} {v : Value} : (Op.equalIn (d + 1) s (.iface t v) .nilIface).run P w = .ok false w := by
  simp [Op.equalIn, run_underlying hs]
theorem q_nilSlice {s e : TypeId} (hs : P.underlying s = some (.slice e)) (d : Nat) {a : Option Addr} {n c : Nat} : (Op.equalIn (d + 1) s (.slice a n c) (.slice none 0 0)).run P w = .ok a.isNone w := by
  cases a <;> simp [Op.equalIn, run_underlying hs]
theorem r_eqNilIface {s : TypeId} {ms : Array (String × TypeId)} (hs : P.underlying s = some (.interface ms)) {x y : Operand} {t : TypeId} {v : Value} :
    (do eqGuard .eql s x y (.iface t v) .nilIface; binOp .eql s (.iface t v) .nilIface).run P w = .ok (.bool false) w := by
  simp [eqGuard, binOp, equal_succ, q_nilIface hs]
theorem r_neqNilIface {s : TypeId} {ms : Array (String × TypeId)} (hs : P.underlying s = some (.interface ms)) {x y : Operand} {t : TypeId} {v : Value} :
    (do eqGuard .neq s x y (.iface t v) .nilIface; binOp .neq s (.iface t v) .nilIface).run P w = .ok (.bool true) w := by
  simp [eqGuard, binOp, equal_succ, q_nilIface hs]
theorem r_eqNilSlice {s e : TypeId} (hs : P.underlying s = some (.slice e)) {x y : Operand} {a : Option Addr} {n c : Nat} :
    (do eqGuard .eql s x y (.slice a n c) (.slice none 0 0); binOp .eql s (.slice a n c) (.slice none 0 0)).run P w = .ok (.bool a.isNone) w := by
  simp [eqGuard, binOp, equal_succ, q_nilSlice hs]
theorem r_convI {s d : TypeId} {ds : TypeDesc} {k k' : IntKind} {n : Int} (hs : P.underlying s = some ds) (hd : P.underlying d = some (.int k')) :
    (convert s d (.int k n)).run P w = .ok (.int k' (k'.wrap n)) w := by
  simp [convert, run_underlying hs, run_underlying hd, Conv.intToInt]
def Ext (w w' : World) : Prop := w.grownBy w' none
theorem Ext.refl (w : World) : Ext w w := ⟨rfl, rfl, rfl, Nat.le_refl _, fun _ _ _ => rfl⟩
theorem Ext.trans {a b c : World} (h : Ext a b) (k : Ext b c) : Ext a c :=
  ⟨k.os.trans h.os, k.tape.trans h.tape, k.output.trans h.output, Nat.le_trans h.size k.size, fun i hi hn => (k.block i (Nat.lt_of_lt_of_le hi h.size) hn).trans (h.block i hi hn)⟩
theorem Ext.alloc {a w : World} (h : Ext a w) (o : Obj) : Ext a (w.alloc o) := h.trans (World.grownBy_alloc _ _ _)
theorem Ext.drew {a w : World} (h : Ext a w) : Ext a w.drew := ⟨h.os, h.tape, h.output, h.size, h.block⟩
theorem Ext.setCell {a w : World} (h : Ext a w) {b o : Nat} (hb : a.heap.size ≤ b) (v : Value) : Ext a (w.setCell ⟨b, o, none⟩ v) :=
  ⟨h.os, h.tape, h.output, by simpa using h.size, fun i hi hn => by rw [RowKit.Below.heap_setCell _ _ _ _ (by simp; omega)]; exact h.block i hi hn⟩
theorem Ext.cell {a w : World} (h : Ext a w) {p : Addr} {v : Value} (hc : a.cell? p = some v) : w.cell? p = some v := World.grownBy.cell h hc (by simp)
theorem Ext.obj {a w : World} (h : Ext a w) {b : Nat} {o : Obj} (hb : a.heap[b]? = some o) : w.heap[b]? = some o := by
  have hlt : b < a.heap.size := (Array.getElem?_eq_some_iff.1 hb).1
  rw [h.block b hlt (by simp)]; exact hb
theorem Ext.grown {a w w' : World} (h : Ext a w) {row : Option Nat} (hg : w.grownBy w' row) (hr : ∀ k, row = some k → a.heap.size ≤ k) : Ext a w' :=
  ⟨hg.os.trans h.os, hg.tape.trans h.tape, hg.output.trans h.output, Nat.le_trans h.size hg.size, fun i hi hn => (hg.block i (Nat.lt_of_lt_of_le hi h.size) (fun e => by have := hr i e.symm; omega)).trans (h.block i hi hn)⟩
theorem Ext.own {a w : World} (h : Ext a w) {B : Nat} {e : TypeId} {size n : Nat} {v : Value} {xs : List Value} (ho : a.ownsRow B e size v n xs) : w.ownsRow B e size v n xs := ho.kept h (by cases v.ownBlock <;> simp)
theorem Ext.below {a w : World} (h : Ext a w) : RowKit.Below a.heap.size a w := ⟨h.os, h.tape, h.output, h.size, fun k hk => h.block k hk (by simp)⟩
def SliceIs (w : World) (v : Value) (size n : Nat) (cs : List Value) : Prop :=
  cs.length = n * size ∧ ((v = .slice none 0 0 ∧ n = 0) ∨ ∃ b off cap, v = .slice (some ⟨b, off, none⟩) n cap ∧ n ≤ cap ∧ cap ≤ maxLen ∧ ∀ j u, cs[j]? = some u → w.cell? ⟨b, off + j, none⟩ = some u)
theorem SliceIs.ext {w w' : World} {v : Value} {size n : Nat} {cs : List Value} (h : SliceIs w v size n cs) (hx : Ext w w') : SliceIs w' v size n cs := by
  obtain ⟨h1, h2⟩ := h
  refine ⟨h1, ?_⟩
  rcases h2 with h2 | ⟨b, off, cap, h2, h3, h4, h5⟩
  · exact .inl h2
  · exact .inr ⟨b, off, cap, h2, h3, h4, fun j u hj => hx.cell (h5 j u hj)⟩
theorem SliceIs.nil (w : World) (size : Nat) : SliceIs w (.slice none 0 0) size 0 [] := ⟨by simp, .inl ⟨rfl, rfl⟩⟩
theorem SliceIs.of_own {w : World} {B : Nat} {e : TypeId} {size n : Nat} {v : Value} {xs : List Value} (h : w.ownsRow B e size v n xs) : SliceIs w v size n xs := by
  refine ⟨h.1, ?_⟩
  rcases h.2 with ⟨h1, h2⟩ | ⟨g, cap, cur, rfl, _, _, h4, h5, _⟩
  · exact .inl ⟨h1, h2⟩
  · exact .inr ⟨g, 0, cap, rfl, h4, h5, fun j u hj => by have := h.cells (g := g) rfl j u hj; rwa [add_mk] at this⟩
theorem SliceIs.shape {w : World} {v : Value} {size n : Nat} {cs : List Value} (h : SliceIs w v size n cs) : ∃ a cap, v = .slice a n cap := by
  rcases h.2 with ⟨rfl, rfl⟩ | ⟨b, off, cap, rfl, _⟩
  · exact ⟨none, 0, rfl⟩
  · exact ⟨_, cap, rfl⟩
theorem SliceIs.there {w : World} {v : Value} {size n : Nat} {cs : List Value} (h : SliceIs w v size n cs) (hn : 0 < n) : ∃ b off cap, v = .slice (some ⟨b, off, none⟩) n cap ∧ ∀ j u, cs[j]? = some u → w.cell? ⟨b, off + j, none⟩ = some u := by
  rcases h.2 with ⟨_, rfl⟩ | ⟨b, off, cap, rfl, _, _, h5⟩
  · omega
  · exact ⟨b, off, cap, rfl, h5⟩
theorem SliceIs.get {t e x : TypeId} {d : TypeDesc} {z : Value} {by_ : Nat} (ht : P.underlying t = some (.slice e)) (hi : Inf P e z 1 by_) (hx : P.underlying x = some d) (hd : aggB d = false) {v : Value} {n : Nat} {cs : List Value} (h : SliceIs w v 1 n cs)
    {k : IntKind} {i : Int} {u : Value} (h0 : 0 ≤ i) (h1 : i < n) (hu : cs[i.toNat]? = some u) (hk : K u w) :
    V P (Instr.indexAt t v (.int k i)) w fun p w1 => V P (Instr.loadAt x p) w1 K := by
  obtain ⟨b, off, cap, rfl, hc⟩ := h.there (by omega)
  refine V.ok (r_index ht hi h0 h1) (V.ok (r_load hx hd ?_) hk)
  simpa using hc _ _ hu
structure TA (P : Program) (u : TypeId) : Prop where
  of ::
  ex : ∃ z, (∀ (w : World) x t v, (Instr.typeAssert (.iface t v) x u true).run P w = .ok (if t = u then .tuple #[v, .bool true] else .tuple #[z, .bool false]) w) ∧
  ∀ (w : World) x, (Instr.typeAssert .nilIface x u true).run P w = .ok (.tuple #[z, .bool false]) w
theorem TA.mk' {u : TypeId} {d : TypeDesc} {z : Value} {n b : Nat} (hu : P.underlying u = some d) (hd : notIf d = true) (hz : Inf P u z n b) : TA P u := ⟨⟨z, fun _ _ _ _ => r_ta hu hd hz, fun _ _ => r_tanil hu hd hz⟩⟩
structure SA (P : Program) (t : TypeId) (n : Nat) : Prop where
  of ::
  ex : ∃ z by_, Inf P t z n by_ ∧ z.cells.size = n
structure FA (P : Program) (s f o : Nat) : Prop where
  of ::
  ex : ∀ (w : World) b off, (Instr.fieldAt s (.pointer (some ⟨b, off, none⟩)) f).run P w = .ok (.pointer (some ⟨b, off + o, none⟩)) w
structure L1 (P : Program) (t : TypeId) : Prop where
  of ::
  ex : ∃ d, P.underlying t = some d ∧ aggB d = false
structure XA (P : Program) (t n : Nat) : Prop where
  of ::
  ex : ∃ e z by_, P.underlying t = some (.slice e) ∧ Inf P e z n by_
theorem th {u x : TypeId} {v : Value} {A : Value → World → Prop} {B : Value → Value → Value → World → Prop} (h : TA P u) (hA : A v w) :
    V P (Instr.typeAssert (.iface u v) x u true) w fun t1 w1 => V P (Instr.extract t1 1) w1 fun t2 w2 => V P (Instr.extract t1 0) w2 fun t3 w3 => ifD t2 (A t3 w3) (B t1 t2 t3 w3) := by
  obtain ⟨z, hz, _⟩ := h
  refine V.ok (hz w x u v) ?_
  rw [if_pos rfl]
  exact V.ok r_ext1 (V.ok r_ext0 (ifD_true.2 hA))
theorem tm {u t x : TypeId} {v : Value} {A B : Value → Value → Value → World → Prop} (h : TA P u) (hne : t ≠ u) (hB : ∀ t1 t2 t3, B t1 t2 t3 w) :
    V P (Instr.typeAssert (.iface t v) x u true) w fun t1 w1 => V P (Instr.extract t1 1) w1 fun t2 w2 => V P (Instr.extract t1 0) w2 fun t3 w3 => ifD t2 (A t1 t2 t3 w3) (B t1 t2 t3 w3) := by
  obtain ⟨z, hz, _⟩ := h
  refine V.ok (hz w x t v) ?_
  rw [if_neg hne]
  exact V.ok r_ext1 (V.ok r_ext0 (ifD_false.2 (hB _ _ _)))
theorem as_ {t n : TypeId} {v : Value} {K' : Value → World → Prop} (h : SA P t n) (hn : v.cells.size = n) (h1 : v.cells.toList.all oneC = true) (hk : K' (.pointer (some ⟨w.heap.size, 0, none⟩)) (w.alloc (.cells v.cells t))) :
    V P (Instr.alloc t true (.tuple #[])) w (fun p w1 => U P (Instr.storeAt t p v) w1 fun _ w2 => K' p w2) := by
  obtain ⟨z, b, hi, hz⟩ := h
  exact (V_allocStore hi (by simpa using hz) hn (fun u hu => List.all_eq_true.1 h1 u hu)).2 hk
theorem ldf {s f o ft b off : Nat} {u : Value} (h : FA P s f o) (hl : L1 P ft) (hc : w.cell? ⟨b, off + o, none⟩ = some u) (hk : K u w) :
    V P (Instr.fieldAt s (.pointer (some ⟨b, off, none⟩)) f) w fun q w1 => V P (Instr.loadAt ft q) w1 K := by
  obtain ⟨d, hd, ha⟩ := hl
  exact V.ok (h.ex w b off) (V.ok (r_load hd ha hc) hk)
theorem ldx {t x : TypeId} {v : Value} {n : Nat} {cs : List Value} {k : IntKind} {i : Int} {u : Value} (h : XA P t 1) (hl : L1 P x) (hs : SliceIs w v 1 n cs) (h0 : 0 ≤ i) (h1 : i < n) (hu : cs[i.toNat]? = some u) (hk : K u w) :
    V P (Instr.indexAt t v (.int k i)) w fun p w1 => V P (Instr.loadAt x p) w1 K := by
  obtain ⟨e, z, b, ht, hi⟩ := h
  obtain ⟨d, hd, ha⟩ := hl
  exact hs.get ht hi hd ha h0 h1 hu hk
theorem lnx {t ty n : Nat} {m : Nat} {v : Value} {size : Nat} {cs : List Value} (h : XA P t n) (hs : SliceIs w v size m cs) (hk : K (i64 m) w) : V P (Builtin.len_ #[t] ty #[v]) w K := by
  obtain ⟨e, z, b, ht, hi⟩ := h
  obtain ⟨a, c, rfl⟩ := hs.shape
  exact V.ok (r_len ht) hk
def Boxed (w : World) (b : Nat) (cs : List Value) : Prop := ∀ j u, cs[j]? = some u → w.cell? ⟨b, 0 + j, none⟩ = some u
theorem Boxed.ext {w w' : World} {b : Nat} {cs : List Value} (h : Boxed w b cs) (hx : Ext w w') : Boxed w' b cs := fun j u hj => hx.cell (h j u hj)
theorem boxed_new {cs : Array Value} {t : TypeId} : Boxed (w.alloc (.cells cs t)) w.heap.size cs.toList := fun j u hj => by simpa using hj
theorem bx {t : TypeId} {v : Value} (hk : ∀ b w1, Boxed w1 b v.cells.toList → Ext w w1 → K (.pointer (some ⟨b, 0, none⟩)) w1) : V P (Instr.box t v) w K :=
  V.ok r_box (hk _ _ boxed_new ((Ext.refl w).alloc _))
theorem asB {t n : TypeId} {v : Value} {K' : Value → World → Prop} (h : SA P t n) (hn : v.cells.size = n) (h1 : v.cells.toList.all oneC = true) (hk : ∀ b w1, Boxed w1 b v.cells.toList → Ext w w1 → K' (.pointer (some ⟨b, 0, none⟩)) w1) :
    V P (Instr.alloc t true (.tuple #[])) w (fun p w1 => U P (Instr.storeAt t p v) w1 fun _ w2 => K' p w2) :=
  as_ h hn h1 (hk _ _ boxed_new ((Ext.refl w).alloc _))
theorem ldB {s f o ft b : Nat} {cs : List Value} {u : Value} (hb : Boxed w b cs) (h : FA P s f o) (hl : L1 P ft) (hc : cs[o]? = some u) (hk : K u w) :
    V P (Instr.fieldAt s (.pointer (some ⟨b, 0, none⟩)) f) w fun q w1 => V P (Instr.loadAt ft q) w1 K := ldf h hl (hb o u hc) hk
theorem ldA {t n b : Nat} {cs : List Value} (hb : Boxed w b cs) (ht : ∃ d z by_, P.underlying t = some d ∧ aggB d = true ∧ Inf P t z n by_) (hl : cs.length = n) (hk : K (.agg cs.toArray) w) : V P (Instr.loadAt t (.pointer (some ⟨b, 0, none⟩))) w K := by
  obtain ⟨d, z, by_, h1, h2, h3⟩ := ht
  exact V.ok (r_loadAgg h1 h2 h3 hl fun j hj => by
    obtain ⟨u, hu⟩ : ∃ u, cs[j]? = some u := ⟨_, List.getElem?_eq_getElem hj⟩
    rw [hu]; exact hb j u hu) hk
structure XE (P : Program) (t e by_ : Nat) : Prop where
  of ::
  ex : ∃ z, P.underlying t = some (.slice e) ∧ Inf P e z 1 by_ ∧ (z.cells.size == 1) = true
theorem oneC_eq (v : Value) : v.oneCell' = oneC v := by cases v <;> rfl
theorem bsl {t e by_ : Nat} (h : XE P t e by_) (l : List Value) {n : Nat} {parts : Array (Nat × Value)} (hn : n = l.length) (hp : parts = ((List.range' 0 l.length).zip l).toArray) (hl : l.length ≤ 16777216) (h1 : l.all oneC = true)
    (hk : ∀ v w', w'.ownsRow w.heap.size e 1 v n l → Ext w w' → K v w') : V P (Instr.buildSlice t n parts) w K := by
  subst hn
  subst hp
  obtain ⟨z, ht, hi, hz⟩ := h
  refine V.ok (r_buildSlice ht hi hz l hl (fun u hu => List.all_eq_true.1 h1 u hu)) (hk _ _ ?_ ((Ext.refl w).alloc _))
  have := World.ownsRow_lit (base := w.heap.size) (e := e) (size := 1) w l.toArray l.length (Nat.le_refl _) (by unfold maxLen; omega) (by simp)
  simpa using this
theorem apO {t e by_ ty : Nat} (h : XE P t e by_) {B : Nat} {v : Value} {n : Nat} {xs : List Value} (ho : w.ownsRow B e 1 v n xs) {x : Value} {m : Nat} {news : List Value} (hs : SliceIs w x 1 m news) (h1 : news.all oneC = true)
    (hb : (n + m) * by_ ≤ 140737488355328) (h63 : n + m ≤ maxLen) (hB : B ≤ w.heap.size) (hk : ∀ v' w', w'.ownsRow B e 1 v' (n + m) (xs ++ news) → w.grownBy w' v.ownBlock → K v' w') :
    V P (Builtin.append_ #[t, t] ty #[v, x]) w K := by
  obtain ⟨z, ht, hi, hz⟩ := h
  obtain ⟨i, hi', hz', hn, hby⟩ := info_parts hi
  rcases hs.2 with ⟨rfl, rfl⟩ | ⟨b, off, cap, rfl, _, _, hc⟩
  · have hnews : news = [] := by have := hs.1; simpa using this
    subst hnews
    refine V.ok (run_append_owned_none w B t ty e i 1 ht hi' v n xs ho) (hk _ _ (by simpa using ho) ⟨rfl, rfl, rfl, Nat.le_refl _, fun _ _ _ => rfl⟩)
  · obtain ⟨v', w', hr, h2, h3, _⟩ := run_append_own (P := P) w B t ty e i z 1 by_ ht hi' hz' hn hby (by simpa using hz) (by omega) v n xs ho ⟨b, off, none⟩ m cap news hs.1
      (fun j u hj => by rw [add_mk]; exact hc j u hj) (fun u hu => by rw [oneC_eq]; exact List.all_eq_true.1 h1 u hu) h63 hb hB
    exact V.ok hr (hk _ _ h2 h3)
theorem cloneD {t e by_ : Nat} (h : XE P t e by_) {v : Value} {n : Nat} {cs : List Value} (hs : SliceIs w v 1 n cs) (h1 : cs.all oneC = true) (hb : n * by_ ≤ 140737488355328) {x y : Operand} {R : Value → World → Prop}
    (hk : ∀ v' w', w'.ownsRow w.heap.size e 1 v' n cs → Ext w w' → R v' w') :
    V P (do eqGuard .eql t x y v (Value.slice none 0 0); binOp .eql t v (Value.slice none 0 0)) w fun t4 w1 =>
      ifD t4 (R (Value.slice none 0 0) w1) (V P (Instr.buildSlice t 0 #[]) w1 fun t5 w2 => V P (Builtin.append_ #[t, t] t #[t5, v]) w2 fun t7 w3 => R t7 w3) := by
  have h' := h
  obtain ⟨z, ht, hi, hz⟩ := h
  rcases hs.2 with ⟨rfl, rfl⟩ | ⟨b, off, cap, rfl, hc1, hc2, hc⟩
  · refine V.ok (r_eqNilSlice ht) (ifD_true.2 (hk _ _ ?_ (Ext.refl w)))
    have : cs = [] := by have := hs.1; simpa using this
    subst this
    exact World.ownsRow_nil _ _ _ _
  · refine V.ok (r_eqNilSlice ht) (ifD_false.2 (bsl h' [] rfl rfl (by simp) rfl fun v1 w1 ho x1 => ?_))
    refine apO h' ho (hs.ext x1) h1 (by simpa using hb) (by unfold maxLen at *; omega) x1.size fun v2 w2 ho2 hg => ?_
    have := ho2
    simp only [Nat.zero_add, List.nil_append] at this
    exact hk _ _ this (x1.grown hg fun k hk' => (ho.lt k hk').1)
end
end Go.Vc
namespace Go.Vc
section
variable {P : Program} {w : World} {K : Value → World → Prop}
theorem own_mono {w : World} {B B' e size n : Nat} {v : Value} {xs : List Value} (h : w.ownsRow B e size v n xs) (hB : B' ≤ B) : w.ownsRow B' e size v n xs := by
  refine ⟨h.1, ?_⟩
  rcases h.2 with h2 | ⟨g, cap, cur, h2, h3, h4⟩
  · exact .inl h2
  · exact .inr ⟨g, cap, cur, h2, Nat.le_trans hB h3, h4⟩
theorem own_ne {w : World} {B e size n : Nat} {v : Value} {xs : List Value} (h : w.ownsRow B e size v n xs) {row : Option Nat} (hr : ∀ k, row = some k → k < B) : v.ownBlock = none ∨ v.ownBlock ≠ row := by
  cases hv : v.ownBlock with
  | none => exact .inl rfl
  | some g => exact .inr fun he => by have := hr g he.symm; have := (h.lt g hv).1; omega
theorem stO {t x : Nat} {z : Value} {by_ : Nat} (h : XA P t 1) (hx : Inf P x z 1 by_) {B e n : Nat} {v : Value} {xs : List Value} (ho : w.ownsRow B e 1 v n xs) {k : IntKind} {i : Int} (h0 : 0 ≤ i) (h1 : i < n) {u : Value} (hu : oneC u = true) {K' : World → Prop}
    (hk : ∀ w', w'.ownsRow B e 1 v n (xs.set i.toNat u) → w.grownBy w' v.ownBlock → K' w') :
    V P (Instr.indexAt t v (.int k i)) w fun p w1 => U P (Instr.storeAt x p u) w1 fun _ w2 => K' w2 := by
  obtain ⟨e', z', b', ht, hi⟩ := h
  have ho' := ho
  rcases ho.2 with ⟨_, rfl⟩ | ⟨g, cap, cur, rfl, hB, _⟩
  · omega
  refine V.ok (r_index ht hi h0 h1) ?_
  obtain ⟨s1, s2⟩ := ho'.stored i.toNat u
  have hc := ho'.cellAt i.toNat (by omega)
  have hlt : i.toNat < xs.length := by have := ho'.1; omega
  rw [List.getElem?_eq_getElem hlt] at hc
  simp only [Nat.zero_add, Nat.mul_one]
  exact U.ok (r_store hx hu hc (ho'.frozenAt _)) (hk _ s1 s2)
theorem ldO' {t x : Nat} (h : XA P t 1) (hl : L1 P x) {B e n : Nat} {v : Value} {xs : List Value} (ho : w.ownsRow B e 1 v n xs) {k : IntKind} {i : Int} {u : Value} (h0 : 0 ≤ i) (h1 : i < n) (hu : xs[i.toNat]? = some u) (hk : K u w) :
    V P (Instr.indexAt t v (.int k i)) w fun p w1 => V P (Instr.loadAt x p) w1 K := ldx h hl (SliceIs.of_own ho) h0 h1 hu hk
def Blk (w : World) (g : Nat) (cs : List Value) (e : TypeId) : Prop := w.heap[g]? = some (.cells cs.toArray e (0, 0))
theorem Blk.ext {w w' : World} {g : Nat} {cs : List Value} {e : TypeId} (h : Blk w g cs e) (hx : Ext w w') : Blk w' g cs e := hx.obj h
theorem Blk.lt {w : World} {g : Nat} {cs : List Value} {e : TypeId} (h : Blk w g cs e) : g < w.heap.size := (Array.getElem?_eq_some_iff.1 h).1
theorem Blk.cell {w : World} {g : Nat} {cs : List Value} {e : TypeId} (h : Blk w g cs e) (j : Nat) : w.cell? ⟨g, j, none⟩ = cs[j]? := by
  rw [cell_of_row w g j cs.toArray e (0, 0) h]; simp
theorem Blk.frozen {w : World} {g : Nat} {cs : List Value} {e : TypeId} (h : Blk w g cs e) (j : Nat) : w.frozen? ⟨g, j, none⟩ = false := frozen_of_row w g j cs.toArray e h
theorem Blk.set {w : World} {g : Nat} {cs : List Value} {e : TypeId} (h : Blk w g cs e) (j : Nat) (u : Value) : Blk (w.setCell ⟨g, j, none⟩ u) g (cs.set j u) e := by
  have := heap_setCell_same w g j cs.toArray e u h
  unfold Blk
  rw [this]
  simp
theorem Blk.other {w : World} {g g' j : Nat} {cs : List Value} {e : TypeId} {u : Value} (h : Blk w g cs e) (hne : g ≠ g') : Blk (w.setCell ⟨g', j, none⟩ u) g cs e := by
  unfold Blk
  rw [heap_setCell_other w ⟨g', j, none⟩ g u hne]
  exact h
theorem Blk.drew {w : World} {g : Nat} {cs : List Value} {e : TypeId} (h : Blk w g cs e) : Blk w.drew g cs e := h
theorem Blk.slice {w : World} {g n : Nat} {cs : List Value} {e : TypeId} (h : Blk w g cs e) (hn : cs.length = n) (hm : n ≤ maxLen) : SliceIs w (.slice (some ⟨g, 0, none⟩) n n) 1 n cs :=
  ⟨by omega, .inr ⟨g, 0, n, rfl, Nat.le_refl _, hm, fun j u hj => by rw [Nat.zero_add, h.cell]; exact hj⟩⟩
theorem mkB {t e by_ : Nat} {z : Value} (ht : P.underlying t = some (.slice e)) (hi : Inf P e z 1 by_) (hz : z.cells = #[z]) {n : Nat} (hb : by_ * n ≤ 281474976710656) (h63 : n ≤ 9223372036854775807)
    (hk : ∀ w', Blk w' w.heap.size (List.replicate n z) e → Ext w w' → w'.heap.size = w.heap.size + 1 → K (.slice (some ⟨w.heap.size, 0, none⟩) n n) w') : V P (Instr.makeSlice t (i64 n) (i64 n)) w K := by
  obtain ⟨i, hi', hz', hn, hby⟩ := info_parts hi
  have hr := run_make (P := P) w t e i z ht hi' hz' .i64 .i64 n n (by omega) (Int.le_refl _) (by rw [hby, ← Int.natCast_mul]; omega) (by omega)
  simp only [Int.toNat_natCast, hn, hz, Nat.mul_one] at hr
  refine V.ok hr (hk _ ?_ ((Ext.refl w).alloc _) (by simp))
  unfold Blk
  have := heap_alloc_new w (.cells (madeCells #[z] n) e)
  rw [this]
  congr 2
  rw [← toList_madeCells_one z n]
structure BD (P : Program) (t : TypeId) (zs : List Value) : Prop where
  of ::
  ex : ∃ fs b, P.underlying t = some (.struct fs) ∧ Inf P t (.agg zs.toArray) zs.length b ∧ ∀ w : World, (fs.mapM (fun f => do pure (f.offset, ← sizeOf f.type)) : Sem (Array (Nat × Nat))).run P w = .ok ((List.range zs.length).map (fun i => (i, 1))).toArray w
theorem fillB {n : Nat} : ∀ (l : List (Nat × Value)) (cs : List Value), cs.length = n → (l.all fun x => decide (x.1 < n) && oneC x.2) = true →
    Instr.fill ((((List.range n).map (fun i => (i, 1))).toArray)[·]?) cs.toArray l = some (l.foldl (fun cs x => cs.set x.1 x.2) cs).toArray
  | [], cs, _, _ => rfl
  | (i, v) :: l, cs, hl, h => by
    simp only [List.all_cons, Bool.and_eq_true, decide_eq_true_eq] at h
    have hi : ((((List.range n).map (fun i => (i, 1))).toArray)[i]?) = some (i, 1) := by simp [h.1.1]
    have hc := oneC_cells h.1.2
    rw [Instr.fill, hi]
    have hn : ¬ (i + 1 > cs.length) := by omega
    simp only [hc, List.size_toArray, List.length_cons, List.length_nil, Nat.zero_add, ne_eq, not_true_eq_false, decide_false, Bool.false_or, hn, Bool.false_eq_true, if_false]
    have := fillB (n := n) l (cs.set i v) (by simpa using hl) h.2
    simpa using this
theorem bld {t : TypeId} {zs : List Value} (h : BD P t zs) {parts : Array (Nat × Value)} (l : List (Nat × Value)) (hp : parts = l.toArray) (h1 : (l.all fun x => decide (x.1 < zs.length) && oneC x.2) = true)
    (hk : K (.agg (l.foldl (fun cs x => cs.set x.1 x.2) zs).toArray) w) : V P (Instr.build t parts) w K := by
  subst hp
  obtain ⟨fs, b, hu, hi, hm⟩ := h
  refine V.ok ?_ hk
  simp only [Instr.build, Sem.run_bind, run_zero hi, Result.andThen_ok, run_underlying hu, hm, Value.cells]
  rw [fillB l zs rfl h1]
  simp
structure MI (P : Program) (t : TypeId) : Prop where
  of ::
  ex : ∃ d, P.underlying t = some d ∧ notIf d = true
theorem mki {t : TypeId} (h : MI P t) {v : Value} (hk : K (.iface t v) w) : V P (Instr.makeInterface t v) w K := by
  obtain ⟨d, hu, hd⟩ := h
  refine V.ok ?_ hk
  cases d <;> first | (simp [Instr.makeInterface, run_underlying hu]; done) | cases hd
end
end Go.Vc
namespace Go.Proofs.YtjcmcfidblhnnaaDoor
open Go.Vc
theorem inf3 : Inf Tryd.prog 3 (.int .i64 0) 1 8 := by unfold Inf; kernel_rfl
theorem inf4 : Inf Tryd.prog 4 (.bool false) 1 1 := by unfold Inf; kernel_rfl
theorem inf21 : Inf Tryd.prog 21 (.int .i32 0) 1 4 := by unfold Inf; kernel_rfl
theorem inf23 : Inf Tryd.prog 23 (.slice none 0 0) 1 24 := by unfold Inf; kernel_rfl
theorem inf25 : Inf Tryd.prog 25 (.agg #[(.int .i64 0), (.int .i64 0), (.slice none 0 0)]) 3 40 := by unfold Inf; kernel_rfl
theorem inf27 : Inf Tryd.prog 27 (.slice none 0 0) 1 24 := by unfold Inf; kernel_rfl
theorem inf29 : Inf Tryd.prog 29 (.agg #[(.slice none 0 0), (.int .i64 0)]) 2 32 := by unfold Inf; kernel_rfl
theorem inf31 : Inf Tryd.prog 31 (.slice none 0 0) 1 24 := by unfold Inf; kernel_rfl
theorem inf33 : Inf Tryd.prog 33 (.agg #[(.slice none 0 0), (.slice none 0 0), (.int .i64 0)]) 3 56 := by unfold Inf; kernel_rfl
theorem inf40 : Inf Tryd.prog 40 (.agg #[(.int .i64 0), (.int .i64 0), (.int .i64 0), (.int .i64 0), (.int .i64 0), (.int .i64 0), (.int .i64 0), (.slice none 0 0)]) 8 80 := by unfold Inf; kernel_rfl
theorem inf43 : Inf Tryd.prog 43 .nilIface 1 16 := by unfold Inf; kernel_rfl
theorem inf47 : Inf Tryd.prog 47 (.agg #[]) 0 0 := by unfold Inf; kernel_rfl
theorem inf49 : Inf Tryd.prog 49 (.agg #[(.int .i64 0)]) 1 8 := by unfold Inf; kernel_rfl
theorem inf51 : Inf Tryd.prog 51 (.slice none 0 0) 1 24 := by unfold Inf; kernel_rfl
theorem inf53 : Inf Tryd.prog 53 (.agg #[(.int .i64 0), (.int .i64 0), (.slice none 0 0)]) 3 40 := by unfold Inf; kernel_rfl
theorem inf56 : Inf Tryd.prog 56 (.slice none 0 0) 1 24 := by unfold Inf; kernel_rfl
theorem inf57 : Inf Tryd.prog 57 (.slice none 0 0) 1 24 := by unfold Inf; kernel_rfl
theorem inf59 : Inf Tryd.prog 59 (.agg #[(.slice none 0 0), (.slice none 0 0), (.slice none 0 0)]) 3 72 := by unfold Inf; kernel_rfl
theorem inf65 : Inf Tryd.prog 65 (.agg #[(.int .i64 0), (.int .i64 0), (.slice none 0 0), (.slice none 0 0), (.int .i64 0), (.int .i64 0), (.slice none 0 0), (.slice none 0 0), (.int .i64 0)]) 9 136 := by unfold Inf; kernel_rfl
theorem inf72 : Inf Tryd.prog 72 (.agg #[(.int .i64 0), (.int .i64 0), (.int .i64 0), (.int .i64 0), (.int .i64 0), (.int .i64 0)]) 6 48 := by unfold Inf; kernel_rfl
theorem inf74 : Inf Tryd.prog 74 (.agg #[(.int .i64 0), (.int .i64 0), (.int .i64 0), (.int .i64 0), (.int .i64 0), (.int .i64 0), (.int .i64 0), (.int .i64 0), (.int .i64 0), (.int .i64 0), (.int .i32 0)]) 11 88 := by unfold Inf; kernel_rfl
theorem inf76 : Inf Tryd.prog 76 (.agg (Array.replicate 2001 (.int .i64 0))) 2001 16008 := by unfold Inf; kernel_rfl
theorem inf78 : Inf Tryd.prog 78 (.agg #[(.int .i64 0), (.int .i32 0)]) 2 16 := by unfold Inf; kernel_rfl
theorem inf80 : Inf Tryd.prog 80 (.agg #[(.int .i64 0), (.int .i64 0)]) 2 16 := by unfold Inf; kernel_rfl
theorem inf82 : Inf Tryd.prog 82 (.agg #[(.int .i64 0), (.int .i64 0), (.int .i64 0), (.int .i64 0)]) 4 32 := by unfold Inf; kernel_rfl
theorem inf84 : Inf Tryd.prog 84 (.agg #[(.int .i64 0), (.int .i64 0), (.int .i64 0)]) 3 24 := by unfold Inf; kernel_rfl
theorem inf86 : Inf Tryd.prog 86 (.agg #[(.int .i64 0), (.int .i64 0), (.int .i64 0), (.int .i64 0)]) 4 32 := by unfold Inf; kernel_rfl
theorem inf88 : Inf Tryd.prog 88 (.agg #[(.int .i64 0)]) 1 8 := by unfold Inf; kernel_rfl
theorem inf90 : Inf Tryd.prog 90 (.agg #[(.int .i64 0), (.int .i64 0)]) 2 16 := by unfold Inf; kernel_rfl
theorem inf92 : Inf Tryd.prog 92 (.agg #[(.int .i64 0), (.int .i64 0)]) 2 16 := by unfold Inf; kernel_rfl
theorem inf94 : Inf Tryd.prog 94 (.agg #[(.int .i64 0), (.int .i64 0)]) 2 16 := by unfold Inf; kernel_rfl
theorem inf96 : Inf Tryd.prog 96 (.agg #[(.int .i64 0), (.int .i64 0), (.int .i64 0), (.int .i64 0), (.slice none 0 0)]) 5 56 := by unfold Inf; kernel_rfl
theorem inf98 : Inf Tryd.prog 98 (.agg #[(.int .i64 0), (.int .i64 0), (.slice none 0 0)]) 3 40 := by unfold Inf; kernel_rfl
theorem inf100 : Inf Tryd.prog 100 (.agg #[(.int .i64 0), (.int .i64 0), (.slice none 0 0)]) 3 40 := by unfold Inf; kernel_rfl
theorem inf106 : Inf Tryd.prog 106 (.agg #[(.int .i64 0), (.int .i64 0), (.int .i64 0), (.int .i64 0), (.int .i64 0), (.int .i64 0), (.int .i64 0), (.int .i64 0), (.slice none 0 0)]) 9 88 := by unfold Inf; kernel_rfl
theorem inf128 : Inf Tryd.prog 128 (.agg #[(.int .i64 0), (.int .i64 0), (.int .i64 0), (.int .i64 0), (.int .i64 0), (.int .i64 0), (.int .i64 0), (.int .i64 0), (.int .i64 0), (.int .i64 0)]) 10 80 := by unfold Inf; kernel_rfl
theorem inf134 : Inf Tryd.prog 134 (.slice none 0 0) 1 24 := by unfold Inf; kernel_rfl
theorem inf136 : Inf Tryd.prog 136 (.agg #[(.int .i64 0), (.int .u16 0), (.slice none 0 0)]) 3 40 := by unfold Inf; kernel_rfl
theorem inf143 : Inf Tryd.prog 143 (.agg #[(.int .i64 0), (.int .i64 0), (.int .i64 0), (.int .i64 0), (.int .i64 0), (.int .i64 0)]) 6 48 := by unfold Inf; kernel_rfl
theorem r_fd_25_0 {w : World} {b off : Nat} : (Instr.fieldAt 25 (.pointer (some ⟨b, off, none⟩)) 0).run Tryd.prog w = .ok (.pointer (some ⟨b, off + 0, none⟩)) w := r_field 3 0 Tryd.underlying25 rfl inf3 rfl
theorem r_fd_25_2 {w : World} {b off : Nat} : (Instr.fieldAt 25 (.pointer (some ⟨b, off, none⟩)) 2).run Tryd.prog w = .ok (.pointer (some ⟨b, off + 2, none⟩)) w := r_field 23 2 Tryd.underlying25 rfl inf23 rfl
theorem r_fd_40_2 {w : World} {b off : Nat} : (Instr.fieldAt 40 (.pointer (some ⟨b, off, none⟩)) 2).run Tryd.prog w = .ok (.pointer (some ⟨b, off + 2, none⟩)) w := r_field 3 2 Tryd.underlying40 rfl inf3 rfl
theorem r_fd_40_3 {w : World} {b off : Nat} : (Instr.fieldAt 40 (.pointer (some ⟨b, off, none⟩)) 3).run Tryd.prog w = .ok (.pointer (some ⟨b, off + 3, none⟩)) w := r_field 3 3 Tryd.underlying40 rfl inf3 rfl
theorem r_fd_53_2 {w : World} {b off : Nat} : (Instr.fieldAt 53 (.pointer (some ⟨b, off, none⟩)) 2).run Tryd.prog w = .ok (.pointer (some ⟨b, off + 2, none⟩)) w := r_field 51 2 Tryd.underlying53 rfl inf51 rfl
theorem r_ix_23 {w : World} {b off len cap : Nat} {k : IntKind} {i : Int} (h0 : 0 ≤ i) (h1 : i < len) : (Instr.indexAt 23 (.slice (some ⟨b, off, none⟩) len cap) (.int k i)).run Tryd.prog w = .ok (.pointer (some ⟨b, off + i.toNat * 1, none⟩)) w := r_index Tryd.underlying23 inf43 h0 h1
theorem r_ix_56 {w : World} {b off len cap : Nat} {k : IntKind} {i : Int} (h0 : 0 ≤ i) (h1 : i < len) : (Instr.indexAt 56 (.slice (some ⟨b, off, none⟩) len cap) (.int k i)).run Tryd.prog w = .ok (.pointer (some ⟨b, off + i.toNat * 1, none⟩)) w := r_index Tryd.underlying56 inf57 h0 h1
theorem r_ix_57 {w : World} {b off len cap : Nat} {k : IntKind} {i : Int} (h0 : 0 ≤ i) (h1 : i < len) : (Instr.indexAt 57 (.slice (some ⟨b, off, none⟩) len cap) (.int k i)).run Tryd.prog w = .ok (.pointer (some ⟨b, off + i.toNat * 1, none⟩)) w := r_index Tryd.underlying57 inf4 h0 h1
theorem r_ld_27 {w : World} {a : Addr} {v : Value} (h : w.cell? a = some v) : (Instr.loadAt 27 (.pointer (some a))).run Tryd.prog w = .ok v w := r_load Tryd.underlying27 rfl h
theorem r_ld_3 {w : World} {a : Addr} {v : Value} (h : w.cell? a = some v) : (Instr.loadAt 3 (.pointer (some a))).run Tryd.prog w = .ok v w := r_load Tryd.underlying3 rfl h
theorem V_cv_21_3 {w : World} {k : IntKind} {n : Int} {K : Value → World → Prop} : V Tryd.prog (convert 21 3 (.int k n)) w K ↔ K (.int .i64 (IntKind.wrap .i64 n)) w := V.iff (r_convI Tryd.underlying21 Tryd.underlying3)
theorem V_cv_3_21 {w : World} {k : IntKind} {n : Int} {K : Value → World → Prop} : V Tryd.prog (convert 3 21 (.int k n)) w K ↔ K (.int .i32 (IntKind.wrap .i32 n)) w := V.iff (r_convI Tryd.underlying3 Tryd.underlying21)
theorem V_eqni_43 {w : World} {x y : Operand} {t : TypeId} {v : Value} {K : Value → World → Prop} : V Tryd.prog (do eqGuard .eql 43 x y (.iface t v) .nilIface; binOp .eql 43 (.iface t v) .nilIface) w K ↔ K (.bool false) w := V.iff (r_eqNilIface Tryd.underlying43)
theorem V_fd_40_2 {w : World} {b off : Nat} {K : Value → World → Prop} : V Tryd.prog (Instr.fieldAt 40 (.pointer (some ⟨b, off, none⟩)) 2) w K ↔ K (.pointer (some ⟨b, off + 2, none⟩)) w := V.iff (r_fd_40_2)
theorem V_fd_40_3 {w : World} {b off : Nat} {K : Value → World → Prop} : V Tryd.prog (Instr.fieldAt 40 (.pointer (some ⟨b, off, none⟩)) 3) w K ↔ K (.pointer (some ⟨b, off + 3, none⟩)) w := V.iff (r_fd_40_3)
theorem V_ld_3 {w : World} {a : Addr} {K : Value → World → Prop} : V Tryd.prog (Instr.loadAt 3 (.pointer (some a))) w K ↔ ldO Tryd.prog 3 a (w.cell? a) w K := V_load Tryd.underlying3 rfl
theorem V_ln_22 {w : World} {ty : TypeId} {a : Option Addr} {n c : Nat} {K : Value → World → Prop} : V Tryd.prog (Builtin.len_ #[22] ty #[.slice a n c]) w K ↔ K (.int .i64 n) w := V.iff (r_len Tryd.underlying22)
theorem V_ln_23 {w : World} {ty : TypeId} {a : Option Addr} {n c : Nat} {K : Value → World → Prop} : V Tryd.prog (Builtin.len_ #[23] ty #[.slice a n c]) w K ↔ K (.int .i64 n) w := V.iff (r_len Tryd.underlying23)
theorem V_ln_27 {w : World} {ty : TypeId} {a : Option Addr} {n c : Nat} {K : Value → World → Prop} : V Tryd.prog (Builtin.len_ #[27] ty #[.slice a n c]) w K ↔ K (.int .i64 n) w := V.iff (r_len Tryd.underlying27)
theorem V_ln_51 {w : World} {ty : TypeId} {a : Option Addr} {n c : Nat} {K : Value → World → Prop} : V Tryd.prog (Builtin.len_ #[51] ty #[.slice a n c]) w K ↔ K (.int .i64 n) w := V.iff (r_len Tryd.underlying51)
theorem V_ln_56 {w : World} {ty : TypeId} {a : Option Addr} {n c : Nat} {K : Value → World → Prop} : V Tryd.prog (Builtin.len_ #[56] ty #[.slice a n c]) w K ↔ K (.int .i64 n) w := V.iff (r_len Tryd.underlying56)
theorem V_neqni_43 {w : World} {x y : Operand} {t : TypeId} {v : Value} {K : Value → World → Prop} : V Tryd.prog (do eqGuard .neq 43 x y (.iface t v) .nilIface; binOp .neq 43 (.iface t v) .nilIface) w K ↔ K (.bool true) w := V.iff (r_neqNilIface Tryd.underlying43)
theorem V_ta_78 {w : World} {x t : TypeId} {v : Value} {K : Value → World → Prop} : V Tryd.prog (Instr.typeAssert (.iface t v) x 78 true) w K ↔ K (if t = 78 then .tuple #[v, .bool true] else .tuple #[(.agg #[(.int .i64 0), (.int .i32 0)]), .bool false]) w := V.iff (r_ta Tryd.underlying78 rfl inf78)
theorem V_ta_80 {w : World} {x t : TypeId} {v : Value} {K : Value → World → Prop} : V Tryd.prog (Instr.typeAssert (.iface t v) x 80 true) w K ↔ K (if t = 80 then .tuple #[v, .bool true] else .tuple #[(.agg #[(.int .i64 0), (.int .i64 0)]), .bool false]) w := V.iff (r_ta Tryd.underlying80 rfl inf80)
theorem V_ta_82 {w : World} {x t : TypeId} {v : Value} {K : Value → World → Prop} : V Tryd.prog (Instr.typeAssert (.iface t v) x 82 true) w K ↔ K (if t = 82 then .tuple #[v, .bool true] else .tuple #[(.agg #[(.int .i64 0), (.int .i64 0), (.int .i64 0), (.int .i64 0)]), .bool false]) w := V.iff (r_ta Tryd.underlying82 rfl inf82)
theorem V_ta_84 {w : World} {x t : TypeId} {v : Value} {K : Value → World → Prop} : V Tryd.prog (Instr.typeAssert (.iface t v) x 84 true) w K ↔ K (if t = 84 then .tuple #[v, .bool true] else .tuple #[(.agg #[(.int .i64 0), (.int .i64 0), (.int .i64 0)]), .bool false]) w := V.iff (r_ta Tryd.underlying84 rfl inf84)
theorem V_ta_86 {w : World} {x t : TypeId} {v : Value} {K : Value → World → Prop} : V Tryd.prog (Instr.typeAssert (.iface t v) x 86 true) w K ↔ K (if t = 86 then .tuple #[v, .bool true] else .tuple #[(.agg #[(.int .i64 0), (.int .i64 0), (.int .i64 0), (.int .i64 0)]), .bool false]) w := V.iff (r_ta Tryd.underlying86 rfl inf86)
theorem V_ta_92 {w : World} {x t : TypeId} {v : Value} {K : Value → World → Prop} : V Tryd.prog (Instr.typeAssert (.iface t v) x 92 true) w K ↔ K (if t = 92 then .tuple #[v, .bool true] else .tuple #[(.agg #[(.int .i64 0), (.int .i64 0)]), .bool false]) w := V.iff (r_ta Tryd.underlying92 rfl inf92)
theorem sa_100 : SA Tryd.prog 100 3 := ⟨_, _, inf100, by decide⟩
theorem sa_128 : SA Tryd.prog 128 10 := ⟨_, _, inf128, by decide⟩
theorem sa_136 : SA Tryd.prog 136 3 := ⟨_, _, inf136, by decide⟩
theorem sa_143 : SA Tryd.prog 143 6 := ⟨_, _, inf143, by decide⟩
theorem sa_25 : SA Tryd.prog 25 3 := ⟨_, _, inf25, by decide⟩
theorem sa_29 : SA Tryd.prog 29 2 := ⟨_, _, inf29, by decide⟩
theorem sa_33 : SA Tryd.prog 33 3 := ⟨_, _, inf33, by decide⟩
theorem sa_40 : SA Tryd.prog 40 8 := ⟨_, _, inf40, by decide⟩
theorem sa_47 : SA Tryd.prog 47 0 := ⟨_, _, inf47, by decide⟩
theorem sa_49 : SA Tryd.prog 49 1 := ⟨_, _, inf49, by decide⟩
theorem sa_53 : SA Tryd.prog 53 3 := ⟨_, _, inf53, by decide⟩
theorem sa_57 : SA Tryd.prog 57 1 := ⟨_, _, inf57, by decide⟩
theorem sa_59 : SA Tryd.prog 59 3 := ⟨_, _, inf59, by decide⟩
theorem sa_74 : SA Tryd.prog 74 11 := ⟨_, _, inf74, by decide⟩
theorem sa_78 : SA Tryd.prog 78 2 := ⟨_, _, inf78, by decide⟩
theorem sa_80 : SA Tryd.prog 80 2 := ⟨_, _, inf80, by decide⟩
theorem sa_82 : SA Tryd.prog 82 4 := ⟨_, _, inf82, by decide⟩
theorem sa_84 : SA Tryd.prog 84 3 := ⟨_, _, inf84, by decide⟩
theorem sa_86 : SA Tryd.prog 86 4 := ⟨_, _, inf86, by decide⟩
theorem sa_88 : SA Tryd.prog 88 1 := ⟨_, _, inf88, by decide⟩
theorem sa_90 : SA Tryd.prog 90 2 := ⟨_, _, inf90, by decide⟩
theorem sa_92 : SA Tryd.prog 92 2 := ⟨_, _, inf92, by decide⟩
theorem sa_94 : SA Tryd.prog 94 2 := ⟨_, _, inf94, by decide⟩
theorem sa_96 : SA Tryd.prog 96 5 := ⟨_, _, inf96, by decide⟩
theorem sa_98 : SA Tryd.prog 98 3 := ⟨_, _, inf98, by decide⟩
theorem la_106 : ∃ d z by_, Program.underlying Tryd.prog 106 = some d ∧ aggB d = true ∧ Inf Tryd.prog 106 z 9 by_ := ⟨_, _, _, Tryd.underlying106, rfl, inf106⟩
theorem la_136 : ∃ d z by_, Program.underlying Tryd.prog 136 = some d ∧ aggB d = true ∧ Inf Tryd.prog 136 z 3 by_ := ⟨_, _, _, Tryd.underlying136, rfl, inf136⟩
theorem la_143 : ∃ d z by_, Program.underlying Tryd.prog 143 = some d ∧ aggB d = true ∧ Inf Tryd.prog 143 z 6 by_ := ⟨_, _, _, Tryd.underlying143, rfl, inf143⟩
theorem la_25 : ∃ d z by_, Program.underlying Tryd.prog 25 = some d ∧ aggB d = true ∧ Inf Tryd.prog 25 z 3 by_ := ⟨_, _, _, Tryd.underlying25, rfl, inf25⟩
theorem la_29 : ∃ d z by_, Program.underlying Tryd.prog 29 = some d ∧ aggB d = true ∧ Inf Tryd.prog 29 z 2 by_ := ⟨_, _, _, Tryd.underlying29, rfl, inf29⟩
theorem la_33 : ∃ d z by_, Program.underlying Tryd.prog 33 = some d ∧ aggB d = true ∧ Inf Tryd.prog 33 z 3 by_ := ⟨_, _, _, Tryd.underlying33, rfl, inf33⟩
theorem la_40 : ∃ d z by_, Program.underlying Tryd.prog 40 = some d ∧ aggB d = true ∧ Inf Tryd.prog 40 z 8 by_ := ⟨_, _, _, Tryd.underlying40, rfl, inf40⟩
theorem la_53 : ∃ d z by_, Program.underlying Tryd.prog 53 = some d ∧ aggB d = true ∧ Inf Tryd.prog 53 z 3 by_ := ⟨_, _, _, Tryd.underlying53, rfl, inf53⟩
theorem la_59 : ∃ d z by_, Program.underlying Tryd.prog 59 = some d ∧ aggB d = true ∧ Inf Tryd.prog 59 z 3 by_ := ⟨_, _, _, Tryd.underlying59, rfl, inf59⟩
theorem la_72 : ∃ d z by_, Program.underlying Tryd.prog 72 = some d ∧ aggB d = true ∧ Inf Tryd.prog 72 z 6 by_ := ⟨_, _, _, Tryd.underlying72, rfl, inf72⟩
theorem la_74 : ∃ d z by_, Program.underlying Tryd.prog 74 = some d ∧ aggB d = true ∧ Inf Tryd.prog 74 z 11 by_ := ⟨_, _, _, Tryd.underlying74, rfl, inf74⟩
theorem la_80 : ∃ d z by_, Program.underlying Tryd.prog 80 = some d ∧ aggB d = true ∧ Inf Tryd.prog 80 z 2 by_ := ⟨_, _, _, Tryd.underlying80, rfl, inf80⟩
theorem la_82 : ∃ d z by_, Program.underlying Tryd.prog 82 = some d ∧ aggB d = true ∧ Inf Tryd.prog 82 z 4 by_ := ⟨_, _, _, Tryd.underlying82, rfl, inf82⟩
theorem la_84 : ∃ d z by_, Program.underlying Tryd.prog 84 = some d ∧ aggB d = true ∧ Inf Tryd.prog 84 z 3 by_ := ⟨_, _, _, Tryd.underlying84, rfl, inf84⟩
theorem la_86 : ∃ d z by_, Program.underlying Tryd.prog 86 = some d ∧ aggB d = true ∧ Inf Tryd.prog 86 z 4 by_ := ⟨_, _, _, Tryd.underlying86, rfl, inf86⟩
theorem la_90 : ∃ d z by_, Program.underlying Tryd.prog 90 = some d ∧ aggB d = true ∧ Inf Tryd.prog 90 z 2 by_ := ⟨_, _, _, Tryd.underlying90, rfl, inf90⟩
theorem la_94 : ∃ d z by_, Program.underlying Tryd.prog 94 = some d ∧ aggB d = true ∧ Inf Tryd.prog 94 z 2 by_ := ⟨_, _, _, Tryd.underlying94, rfl, inf94⟩
theorem fa_100_0 : FA Tryd.prog 100 0 0 := ⟨fun _ _ _ => r_field 3 0 Tryd.underlying100 rfl inf3 rfl⟩
theorem fa_100_1 : FA Tryd.prog 100 1 1 := ⟨fun _ _ _ => r_field 3 1 Tryd.underlying100 rfl inf3 rfl⟩
theorem fa_100_2 : FA Tryd.prog 100 2 2 := ⟨fun _ _ _ => r_field 27 2 Tryd.underlying100 rfl inf27 rfl⟩
theorem fa_106_0 : FA Tryd.prog 106 0 0 := ⟨fun _ _ _ => r_field 3 0 Tryd.underlying106 rfl inf3 rfl⟩
theorem fa_106_1 : FA Tryd.prog 106 1 1 := ⟨fun _ _ _ => r_field 3 1 Tryd.underlying106 rfl inf3 rfl⟩
theorem fa_106_2 : FA Tryd.prog 106 2 2 := ⟨fun _ _ _ => r_field 3 2 Tryd.underlying106 rfl inf3 rfl⟩
theorem fa_106_3 : FA Tryd.prog 106 3 3 := ⟨fun _ _ _ => r_field 3 3 Tryd.underlying106 rfl inf3 rfl⟩
theorem fa_106_4 : FA Tryd.prog 106 4 4 := ⟨fun _ _ _ => r_field 3 4 Tryd.underlying106 rfl inf3 rfl⟩
theorem fa_106_5 : FA Tryd.prog 106 5 5 := ⟨fun _ _ _ => r_field 3 5 Tryd.underlying106 rfl inf3 rfl⟩
theorem fa_106_6 : FA Tryd.prog 106 6 6 := ⟨fun _ _ _ => r_field 3 6 Tryd.underlying106 rfl inf3 rfl⟩
theorem fa_106_7 : FA Tryd.prog 106 7 7 := ⟨fun _ _ _ => r_field 3 7 Tryd.underlying106 rfl inf3 rfl⟩
theorem fa_106_8 : FA Tryd.prog 106 8 8 := ⟨fun _ _ _ => r_field 27 8 Tryd.underlying106 rfl inf27 rfl⟩
theorem fa_136_2 : FA Tryd.prog 136 2 2 := ⟨fun _ _ _ => r_field 134 2 Tryd.underlying136 rfl inf134 rfl⟩
theorem fa_143_0 : FA Tryd.prog 143 0 0 := ⟨fun _ _ _ => r_field 3 0 Tryd.underlying143 rfl inf3 rfl⟩
theorem fa_143_3 : FA Tryd.prog 143 3 3 := ⟨fun _ _ _ => r_field 3 3 Tryd.underlying143 rfl inf3 rfl⟩
theorem fa_143_4 : FA Tryd.prog 143 4 4 := ⟨fun _ _ _ => r_field 3 4 Tryd.underlying143 rfl inf3 rfl⟩
theorem fa_143_5 : FA Tryd.prog 143 5 5 := ⟨fun _ _ _ => r_field 3 5 Tryd.underlying143 rfl inf3 rfl⟩
theorem fa_25_0 : FA Tryd.prog 25 0 0 := ⟨fun _ _ _ => r_field 3 0 Tryd.underlying25 rfl inf3 rfl⟩
theorem fa_25_1 : FA Tryd.prog 25 1 1 := ⟨fun _ _ _ => r_field 3 1 Tryd.underlying25 rfl inf3 rfl⟩
theorem fa_25_2 : FA Tryd.prog 25 2 2 := ⟨fun _ _ _ => r_field 23 2 Tryd.underlying25 rfl inf23 rfl⟩
theorem fa_29_0 : FA Tryd.prog 29 0 0 := ⟨fun _ _ _ => r_field 27 0 Tryd.underlying29 rfl inf27 rfl⟩
theorem fa_29_1 : FA Tryd.prog 29 1 1 := ⟨fun _ _ _ => r_field 3 1 Tryd.underlying29 rfl inf3 rfl⟩
theorem fa_33_0 : FA Tryd.prog 33 0 0 := ⟨fun _ _ _ => r_field 31 0 Tryd.underlying33 rfl inf31 rfl⟩
theorem fa_33_1 : FA Tryd.prog 33 1 1 := ⟨fun _ _ _ => r_field 23 1 Tryd.underlying33 rfl inf23 rfl⟩
theorem fa_33_2 : FA Tryd.prog 33 2 2 := ⟨fun _ _ _ => r_field 3 2 Tryd.underlying33 rfl inf3 rfl⟩
theorem fa_40_0 : FA Tryd.prog 40 0 0 := ⟨fun _ _ _ => r_field 3 0 Tryd.underlying40 rfl inf3 rfl⟩
theorem fa_40_1 : FA Tryd.prog 40 1 1 := ⟨fun _ _ _ => r_field 3 1 Tryd.underlying40 rfl inf3 rfl⟩
theorem fa_40_2 : FA Tryd.prog 40 2 2 := ⟨fun _ _ _ => r_field 3 2 Tryd.underlying40 rfl inf3 rfl⟩
theorem fa_40_3 : FA Tryd.prog 40 3 3 := ⟨fun _ _ _ => r_field 3 3 Tryd.underlying40 rfl inf3 rfl⟩
theorem fa_40_4 : FA Tryd.prog 40 4 4 := ⟨fun _ _ _ => r_field 3 4 Tryd.underlying40 rfl inf3 rfl⟩
theorem fa_40_5 : FA Tryd.prog 40 5 5 := ⟨fun _ _ _ => r_field 3 5 Tryd.underlying40 rfl inf3 rfl⟩
theorem fa_40_6 : FA Tryd.prog 40 6 6 := ⟨fun _ _ _ => r_field 3 6 Tryd.underlying40 rfl inf3 rfl⟩
theorem fa_40_7 : FA Tryd.prog 40 7 7 := ⟨fun _ _ _ => r_field 27 7 Tryd.underlying40 rfl inf27 rfl⟩
theorem fa_49_0 : FA Tryd.prog 49 0 0 := ⟨fun _ _ _ => r_field 3 0 Tryd.underlying49 rfl inf3 rfl⟩
theorem fa_53_0 : FA Tryd.prog 53 0 0 := ⟨fun _ _ _ => r_field 3 0 Tryd.underlying53 rfl inf3 rfl⟩
theorem fa_53_1 : FA Tryd.prog 53 1 1 := ⟨fun _ _ _ => r_field 3 1 Tryd.underlying53 rfl inf3 rfl⟩
theorem fa_53_2 : FA Tryd.prog 53 2 2 := ⟨fun _ _ _ => r_field 51 2 Tryd.underlying53 rfl inf51 rfl⟩
theorem fa_59_0 : FA Tryd.prog 59 0 0 := ⟨fun _ _ _ => r_field 56 0 Tryd.underlying59 rfl inf56 rfl⟩
theorem fa_59_1 : FA Tryd.prog 59 1 1 := ⟨fun _ _ _ => r_field 57 1 Tryd.underlying59 rfl inf57 rfl⟩
theorem fa_59_2 : FA Tryd.prog 59 2 2 := ⟨fun _ _ _ => r_field 27 2 Tryd.underlying59 rfl inf27 rfl⟩
theorem fa_65_0 : FA Tryd.prog 65 0 0 := ⟨fun _ _ _ => r_field 25 0 Tryd.underlying65 rfl inf25 rfl⟩
theorem fa_65_1 : FA Tryd.prog 65 1 3 := ⟨fun _ _ _ => r_field 29 3 Tryd.underlying65 rfl inf29 rfl⟩
theorem fa_65_2 : FA Tryd.prog 65 2 5 := ⟨fun _ _ _ => r_field 3 5 Tryd.underlying65 rfl inf3 rfl⟩
theorem fa_65_3 : FA Tryd.prog 65 3 6 := ⟨fun _ _ _ => r_field 33 6 Tryd.underlying65 rfl inf33 rfl⟩
theorem fa_72_0 : FA Tryd.prog 72 0 0 := ⟨fun _ _ _ => r_field 3 0 Tryd.underlying72 rfl inf3 rfl⟩
theorem fa_72_1 : FA Tryd.prog 72 1 1 := ⟨fun _ _ _ => r_field 3 1 Tryd.underlying72 rfl inf3 rfl⟩
theorem fa_72_2 : FA Tryd.prog 72 2 2 := ⟨fun _ _ _ => r_field 3 2 Tryd.underlying72 rfl inf3 rfl⟩
theorem fa_72_3 : FA Tryd.prog 72 3 3 := ⟨fun _ _ _ => r_field 3 3 Tryd.underlying72 rfl inf3 rfl⟩
theorem fa_72_4 : FA Tryd.prog 72 4 4 := ⟨fun _ _ _ => r_field 3 4 Tryd.underlying72 rfl inf3 rfl⟩
theorem fa_72_5 : FA Tryd.prog 72 5 5 := ⟨fun _ _ _ => r_field 3 5 Tryd.underlying72 rfl inf3 rfl⟩
theorem fa_74_0 : FA Tryd.prog 74 0 0 := ⟨fun _ _ _ => r_field 3 0 Tryd.underlying74 rfl inf3 rfl⟩
theorem fa_74_1 : FA Tryd.prog 74 1 1 := ⟨fun _ _ _ => r_field 72 1 Tryd.underlying74 rfl inf72 rfl⟩
theorem fa_74_2 : FA Tryd.prog 74 2 7 := ⟨fun _ _ _ => r_field 3 7 Tryd.underlying74 rfl inf3 rfl⟩
theorem fa_74_3 : FA Tryd.prog 74 3 8 := ⟨fun _ _ _ => r_field 3 8 Tryd.underlying74 rfl inf3 rfl⟩
theorem fa_74_4 : FA Tryd.prog 74 4 9 := ⟨fun _ _ _ => r_field 3 9 Tryd.underlying74 rfl inf3 rfl⟩
theorem fa_74_5 : FA Tryd.prog 74 5 10 := ⟨fun _ _ _ => r_field 21 10 Tryd.underlying74 rfl inf21 rfl⟩
theorem fa_78_0 : FA Tryd.prog 78 0 0 := ⟨fun _ _ _ => r_field 3 0 Tryd.underlying78 rfl inf3 rfl⟩
theorem fa_78_1 : FA Tryd.prog 78 1 1 := ⟨fun _ _ _ => r_field 21 1 Tryd.underlying78 rfl inf21 rfl⟩
theorem fa_80_0 : FA Tryd.prog 80 0 0 := ⟨fun _ _ _ => r_field 3 0 Tryd.underlying80 rfl inf3 rfl⟩
theorem fa_80_1 : FA Tryd.prog 80 1 1 := ⟨fun _ _ _ => r_field 3 1 Tryd.underlying80 rfl inf3 rfl⟩
theorem fa_82_0 : FA Tryd.prog 82 0 0 := ⟨fun _ _ _ => r_field 3 0 Tryd.underlying82 rfl inf3 rfl⟩
theorem fa_82_1 : FA Tryd.prog 82 1 1 := ⟨fun _ _ _ => r_field 3 1 Tryd.underlying82 rfl inf3 rfl⟩
theorem fa_82_2 : FA Tryd.prog 82 2 2 := ⟨fun _ _ _ => r_field 3 2 Tryd.underlying82 rfl inf3 rfl⟩
theorem fa_82_3 : FA Tryd.prog 82 3 3 := ⟨fun _ _ _ => r_field 3 3 Tryd.underlying82 rfl inf3 rfl⟩
theorem fa_84_0 : FA Tryd.prog 84 0 0 := ⟨fun _ _ _ => r_field 3 0 Tryd.underlying84 rfl inf3 rfl⟩
theorem fa_84_1 : FA Tryd.prog 84 1 1 := ⟨fun _ _ _ => r_field 3 1 Tryd.underlying84 rfl inf3 rfl⟩
theorem fa_84_2 : FA Tryd.prog 84 2 2 := ⟨fun _ _ _ => r_field 3 2 Tryd.underlying84 rfl inf3 rfl⟩
theorem fa_86_0 : FA Tryd.prog 86 0 0 := ⟨fun _ _ _ => r_field 3 0 Tryd.underlying86 rfl inf3 rfl⟩
theorem fa_86_1 : FA Tryd.prog 86 1 1 := ⟨fun _ _ _ => r_field 3 1 Tryd.underlying86 rfl inf3 rfl⟩
theorem fa_86_2 : FA Tryd.prog 86 2 2 := ⟨fun _ _ _ => r_field 3 2 Tryd.underlying86 rfl inf3 rfl⟩
theorem fa_86_3 : FA Tryd.prog 86 3 3 := ⟨fun _ _ _ => r_field 3 3 Tryd.underlying86 rfl inf3 rfl⟩
theorem fa_88_0 : FA Tryd.prog 88 0 0 := ⟨fun _ _ _ => r_field 3 0 Tryd.underlying88 rfl inf3 rfl⟩
theorem fa_90_0 : FA Tryd.prog 90 0 0 := ⟨fun _ _ _ => r_field 3 0 Tryd.underlying90 rfl inf3 rfl⟩
theorem fa_90_1 : FA Tryd.prog 90 1 1 := ⟨fun _ _ _ => r_field 3 1 Tryd.underlying90 rfl inf3 rfl⟩
theorem fa_92_0 : FA Tryd.prog 92 0 0 := ⟨fun _ _ _ => r_field 3 0 Tryd.underlying92 rfl inf3 rfl⟩
theorem fa_92_1 : FA Tryd.prog 92 1 1 := ⟨fun _ _ _ => r_field 3 1 Tryd.underlying92 rfl inf3 rfl⟩
theorem fa_94_0 : FA Tryd.prog 94 0 0 := ⟨fun _ _ _ => r_field 3 0 Tryd.underlying94 rfl inf3 rfl⟩
theorem fa_94_1 : FA Tryd.prog 94 1 1 := ⟨fun _ _ _ => r_field 3 1 Tryd.underlying94 rfl inf3 rfl⟩
theorem fa_96_0 : FA Tryd.prog 96 0 0 := ⟨fun _ _ _ => r_field 3 0 Tryd.underlying96 rfl inf3 rfl⟩
theorem fa_96_1 : FA Tryd.prog 96 1 1 := ⟨fun _ _ _ => r_field 3 1 Tryd.underlying96 rfl inf3 rfl⟩
theorem fa_96_2 : FA Tryd.prog 96 2 2 := ⟨fun _ _ _ => r_field 3 2 Tryd.underlying96 rfl inf3 rfl⟩
theorem fa_96_3 : FA Tryd.prog 96 3 3 := ⟨fun _ _ _ => r_field 3 3 Tryd.underlying96 rfl inf3 rfl⟩
theorem fa_96_4 : FA Tryd.prog 96 4 4 := ⟨fun _ _ _ => r_field 27 4 Tryd.underlying96 rfl inf27 rfl⟩
theorem fa_98_0 : FA Tryd.prog 98 0 0 := ⟨fun _ _ _ => r_field 3 0 Tryd.underlying98 rfl inf3 rfl⟩
theorem fa_98_1 : FA Tryd.prog 98 1 1 := ⟨fun _ _ _ => r_field 3 1 Tryd.underlying98 rfl inf3 rfl⟩
theorem fa_98_2 : FA Tryd.prog 98 2 2 := ⟨fun _ _ _ => r_field 27 2 Tryd.underlying98 rfl inf27 rfl⟩
theorem l1_134 : L1 Tryd.prog 134 := ⟨_, Tryd.underlying134, rfl⟩
theorem l1_21 : L1 Tryd.prog 21 := ⟨_, Tryd.underlying21, rfl⟩
theorem l1_23 : L1 Tryd.prog 23 := ⟨_, Tryd.underlying23, rfl⟩
theorem l1_27 : L1 Tryd.prog 27 := ⟨_, Tryd.underlying27, rfl⟩
theorem l1_3 : L1 Tryd.prog 3 := ⟨_, Tryd.underlying3, rfl⟩
theorem l1_31 : L1 Tryd.prog 31 := ⟨_, Tryd.underlying31, rfl⟩
theorem l1_4 : L1 Tryd.prog 4 := ⟨_, Tryd.underlying4, rfl⟩
theorem l1_43 : L1 Tryd.prog 43 := ⟨_, Tryd.underlying43, rfl⟩
theorem l1_51 : L1 Tryd.prog 51 := ⟨_, Tryd.underlying51, rfl⟩
theorem l1_56 : L1 Tryd.prog 56 := ⟨_, Tryd.underlying56, rfl⟩
theorem l1_57 : L1 Tryd.prog 57 := ⟨_, Tryd.underlying57, rfl⟩
theorem xa_134 : XA Tryd.prog 134 6 := ⟨_, _, _, Tryd.underlying134, inf143⟩
theorem xa_22 : XA Tryd.prog 22 9 := ⟨_, _, _, Tryd.underlying22, inf106⟩
theorem xa_23 : XA Tryd.prog 23 1 := ⟨_, _, _, Tryd.underlying23, inf43⟩
theorem xa_27 : XA Tryd.prog 27 1 := ⟨_, _, _, Tryd.underlying27, inf3⟩
theorem xa_31 : XA Tryd.prog 31 11 := ⟨_, _, _, Tryd.underlying31, inf74⟩
theorem xa_51 : XA Tryd.prog 51 8 := ⟨_, _, _, Tryd.underlying51, inf40⟩
theorem xa_56 : XA Tryd.prog 56 1 := ⟨_, _, _, Tryd.underlying56, inf57⟩
theorem xa_57 : XA Tryd.prog 57 1 := ⟨_, _, _, Tryd.underlying57, inf4⟩
theorem xe_23 : XE Tryd.prog 23 43 16 := ⟨_, Tryd.underlying23, inf43, rfl⟩
theorem xe_27 : XE Tryd.prog 27 3 8 := ⟨_, Tryd.underlying27, inf3, rfl⟩
theorem xe_57 : XE Tryd.prog 57 4 1 := ⟨_, Tryd.underlying57, inf4, rfl⟩
theorem bd_100 : BD Tryd.prog 100 [(.int .i64 0), (.int .i64 0), (.slice none 0 0)] := ⟨_, _, Tryd.underlying100, inf100, fun w => by kernel_rfl⟩
theorem bd_136 : BD Tryd.prog 136 [(.int .i64 0), (.int .u16 0), (.slice none 0 0)] := ⟨_, _, Tryd.underlying136, inf136, fun w => by kernel_rfl⟩
theorem bd_143 : BD Tryd.prog 143 [(.int .i64 0), (.int .i64 0), (.int .i64 0), (.int .i64 0), (.int .i64 0), (.int .i64 0)] := ⟨_, _, Tryd.underlying143, inf143, fun w => by kernel_rfl⟩
theorem bd_25 : BD Tryd.prog 25 [(.int .i64 0), (.int .i64 0), (.slice none 0 0)] := ⟨_, _, Tryd.underlying25, inf25, fun w => by kernel_rfl⟩
theorem bd_29 : BD Tryd.prog 29 [(.slice none 0 0), (.int .i64 0)] := ⟨_, _, Tryd.underlying29, inf29, fun w => by kernel_rfl⟩
theorem bd_40 : BD Tryd.prog 40 [(.int .i64 0), (.int .i64 0), (.int .i64 0), (.int .i64 0), (.int .i64 0), (.int .i64 0), (.int .i64 0), (.slice none 0 0)] := ⟨_, _, Tryd.underlying40, inf40, fun w => by kernel_rfl⟩
theorem bd_47 : BD Tryd.prog 47 [] := ⟨_, _, Tryd.underlying47, inf47, fun w => by kernel_rfl⟩
theorem bd_49 : BD Tryd.prog 49 [(.int .i64 0)] := ⟨_, _, Tryd.underlying49, inf49, fun w => by kernel_rfl⟩
theorem bd_53 : BD Tryd.prog 53 [(.int .i64 0), (.int .i64 0), (.slice none 0 0)] := ⟨_, _, Tryd.underlying53, inf53, fun w => by kernel_rfl⟩
theorem bd_59 : BD Tryd.prog 59 [(.slice none 0 0), (.slice none 0 0), (.slice none 0 0)] := ⟨_, _, Tryd.underlying59, inf59, fun w => by kernel_rfl⟩
theorem bd_72 : BD Tryd.prog 72 [(.int .i64 0), (.int .i64 0), (.int .i64 0), (.int .i64 0), (.int .i64 0), (.int .i64 0)] := ⟨_, _, Tryd.underlying72, inf72, fun w => by kernel_rfl⟩
theorem bd_78 : BD Tryd.prog 78 [(.int .i64 0), (.int .i32 0)] := ⟨_, _, Tryd.underlying78, inf78, fun w => by kernel_rfl⟩
theorem bd_80 : BD Tryd.prog 80 [(.int .i64 0), (.int .i64 0)] := ⟨_, _, Tryd.underlying80, inf80, fun w => by kernel_rfl⟩
theorem bd_82 : BD Tryd.prog 82 [(.int .i64 0), (.int .i64 0), (.int .i64 0), (.int .i64 0)] := ⟨_, _, Tryd.underlying82, inf82, fun w => by kernel_rfl⟩
theorem bd_84 : BD Tryd.prog 84 [(.int .i64 0), (.int .i64 0), (.int .i64 0)] := ⟨_, _, Tryd.underlying84, inf84, fun w => by kernel_rfl⟩
theorem bd_86 : BD Tryd.prog 86 [(.int .i64 0), (.int .i64 0), (.int .i64 0), (.int .i64 0)] := ⟨_, _, Tryd.underlying86, inf86, fun w => by kernel_rfl⟩
theorem bd_88 : BD Tryd.prog 88 [(.int .i64 0)] := ⟨_, _, Tryd.underlying88, inf88, fun w => by kernel_rfl⟩
theorem bd_90 : BD Tryd.prog 90 [(.int .i64 0), (.int .i64 0)] := ⟨_, _, Tryd.underlying90, inf90, fun w => by kernel_rfl⟩
theorem bd_92 : BD Tryd.prog 92 [(.int .i64 0), (.int .i64 0)] := ⟨_, _, Tryd.underlying92, inf92, fun w => by kernel_rfl⟩
theorem bd_94 : BD Tryd.prog 94 [(.int .i64 0), (.int .i64 0)] := ⟨_, _, Tryd.underlying94, inf94, fun w => by kernel_rfl⟩
theorem bd_96 : BD Tryd.prog 96 [(.int .i64 0), (.int .i64 0), (.int .i64 0), (.int .i64 0), (.slice none 0 0)] := ⟨_, _, Tryd.underlying96, inf96, fun w => by kernel_rfl⟩
theorem bd_98 : BD Tryd.prog 98 [(.int .i64 0), (.int .i64 0), (.slice none 0 0)] := ⟨_, _, Tryd.underlying98, inf98, fun w => by kernel_rfl⟩
theorem mi_100 : MI Tryd.prog 100 := ⟨_, Tryd.underlying100, rfl⟩
theorem mi_47 : MI Tryd.prog 47 := ⟨_, Tryd.underlying47, rfl⟩
theorem mi_49 : MI Tryd.prog 49 := ⟨_, Tryd.underlying49, rfl⟩
theorem mi_78 : MI Tryd.prog 78 := ⟨_, Tryd.underlying78, rfl⟩
theorem mi_80 : MI Tryd.prog 80 := ⟨_, Tryd.underlying80, rfl⟩
theorem mi_82 : MI Tryd.prog 82 := ⟨_, Tryd.underlying82, rfl⟩
theorem mi_84 : MI Tryd.prog 84 := ⟨_, Tryd.underlying84, rfl⟩
theorem mi_86 : MI Tryd.prog 86 := ⟨_, Tryd.underlying86, rfl⟩
theorem mi_88 : MI Tryd.prog 88 := ⟨_, Tryd.underlying88, rfl⟩
theorem mi_90 : MI Tryd.prog 90 := ⟨_, Tryd.underlying90, rfl⟩
theorem mi_92 : MI Tryd.prog 92 := ⟨_, Tryd.underlying92, rfl⟩
theorem mi_94 : MI Tryd.prog 94 := ⟨_, Tryd.underlying94, rfl⟩
theorem mi_96 : MI Tryd.prog 96 := ⟨_, Tryd.underlying96, rfl⟩
theorem mi_98 : MI Tryd.prog 98 := ⟨_, Tryd.underlying98, rfl⟩
theorem ta_100 : TA Tryd.prog 100 := TA.mk' Tryd.underlying100 rfl inf100
theorem ta_47 : TA Tryd.prog 47 := TA.mk' Tryd.underlying47 rfl inf47
theorem ta_49 : TA Tryd.prog 49 := TA.mk' Tryd.underlying49 rfl inf49
theorem ta_78 : TA Tryd.prog 78 := TA.mk' Tryd.underlying78 rfl inf78
theorem ta_80 : TA Tryd.prog 80 := TA.mk' Tryd.underlying80 rfl inf80
theorem ta_82 : TA Tryd.prog 82 := TA.mk' Tryd.underlying82 rfl inf82
theorem ta_84 : TA Tryd.prog 84 := TA.mk' Tryd.underlying84 rfl inf84
theorem ta_86 : TA Tryd.prog 86 := TA.mk' Tryd.underlying86 rfl inf86
theorem ta_88 : TA Tryd.prog 88 := TA.mk' Tryd.underlying88 rfl inf88
theorem ta_90 : TA Tryd.prog 90 := TA.mk' Tryd.underlying90 rfl inf90
theorem ta_92 : TA Tryd.prog 92 := TA.mk' Tryd.underlying92 rfl inf92
theorem ta_94 : TA Tryd.prog 94 := TA.mk' Tryd.underlying94 rfl inf94
theorem ta_96 : TA Tryd.prog 96 := TA.mk' Tryd.underlying96 rfl inf96
theorem ta_98 : TA Tryd.prog 98 := TA.mk' Tryd.underlying98 rfl inf98
end Go.Proofs.YtjcmcfidblhnnaaDoor
