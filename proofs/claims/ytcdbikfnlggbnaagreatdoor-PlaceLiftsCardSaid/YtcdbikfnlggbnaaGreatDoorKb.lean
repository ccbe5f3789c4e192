/- The laws of single operations in the calculus of verification conditions, over any program; readings of slices; what a call leaves as it was. -/
import Derived.Test.YtcdbikfnlggbnaaGreatDoorKa
import Derived.OwnWalk
import Derived.Below
import Derived.ArgAppend
import Derived.Test.YtcdbikfnlggbnaaGreatDoorProg
import Derived.KernelRfl
namespace Go.Vc
abbrev i64 (n : Int) : Value := .int .i64 n
abbrev i32 (n : Int) : Value := .int .i32 n
abbrev vb (b : Bool) : Value := .bool b
abbrev nilS : Value := .slice none 0 0
abbrev gB (w w' : World) (r : Option Nat) : Prop := w.grownBy w' r
section
variable {P : Program} {w : World} {K : Value → World → Prop}
theorem V.iff {s : Sem Value} {v : Value} {w' : World} (h : s.run P w = .ok v w') : V P s w K ↔ K v w' :=
 ⟨fun ⟨_, _, h', hk⟩ => by rw [h] at h'; cases h'; exact hk, fun hk => ⟨v, w', h, hk⟩⟩
theorem U.iff {s : Sem Unit} {w' : World} (h : s.run P w = .ok () w') : U P s w K ↔ K undef w' :=
 ⟨fun ⟨_, h', hk⟩ => by rw [h] at h'; cases h'; exact hk, fun hk => ⟨w', h, hk⟩⟩
theorem V.ok {s : Sem Value} {v : Value} {w' : World} (h : s.run P w = .ok v w') (hk : K v w') : V P s w K := ⟨v, w', h, hk⟩
theorem U.ok {s : Sem Unit} {w' : World} (h : s.run P w = .ok () w') (hk : K undef w') : U P s w K := ⟨w', h, hk⟩
theorem callD.mono {f : FuncId} {args : Array Value} {R : Value → World → Prop} (h : callD P f args w R) (hk : ∀ v w', R v w' → K v w') : callD P f args w K :=
 ⟨⟨h.ex.1, Calls.mono h.ex.2 fun _ _ ⟨v, he, hr⟩ => ⟨v, he, hk v _ hr⟩⟩⟩
theorem callD.of_calls {f : FuncId} {fn : Func} {c : Code} {args : Array Value} (hf : P.funcs[f]? = some fn) (hname : (fn.name == "runtime.NumGoroutine") = false) (hb : fn.body = some c)
  (h : Calls P f args w fun e w' => ∃ v, e = .returned v ∧ K v w') : callD P f args w K := by
 refine ⟨⟨fun args w => ?_, h⟩⟩
 have hname' : ¬ fn.name = "runtime.NumGoroutine" := by simpa using hname
 simp [callFunc, program, Sem.run, hf, hname', hb]
theorem den_wp {P : Program} {f : FuncId} {fn : Func} {args : List Value} {w : World} {R : Value → World → Prop} {D : Prop} (hm : P.follows .mixedOrders = true) (ann : Ann) (hf : P.funcs[f]? = some fn)
  (hb : (!(fn.name == "runtime.NumGoroutine") && fn.body.isSome && (ok fn.ntmps ann (fn.body.getD .skip) && okRes fn.ntmps fn.results.toList && Nat.ble args.length fn.ntmps)) = true)
  (hD : D = vc P ann (fn.body.getD .skip) (retE P fn.results.toList R) (argEnv args) w) (h : D) : callD P f args.toArray w R := by
 simp only [Bool.and_eq_true, Bool.not_eq_true'] at hb
 obtain ⟨⟨h1, h2⟩, h3, h4⟩ := hb
 have hbody : fn.body = some (fn.body.getD .skip) := by
  cases e : fn.body with
  | none => rw [e] at h2; cases h2
  | some c => rfl
 refine callD.of_calls hf h1 hbody (calls_of_vc ann hm hf hbody (by simp only [Bool.and_eq_true]; exact ⟨h3, h4⟩) (hD ▸ h))
theorem ifD.mk {b : Bool} {x y : Prop} (h1 : b = true → x) (h2 : b = false → y) : ifD (.bool b) x y := ⟨b, rfl, h1, h2⟩
theorem ifD_true {x y : Prop} : ifD (.bool true) x y ↔ x := ⟨fun ⟨b, h, h1, _⟩ => by cases h; exact h1 rfl, fun h => ⟨true, rfl, fun _ => h, fun h => by cases h⟩⟩
theorem ifD_false {x y : Prop} : ifD (.bool false) x y ↔ y := ⟨fun ⟨b, h, _, h2⟩ => by cases h; exact h2 rfl, fun h => ⟨false, rfl, (fun h => by cases h), fun _ => h⟩⟩
theorem ifD_dec {p : Prop} [Decidable p] {x y : Prop} (h1 : p → x) (h2 : ¬ p → y) : ifD (.bool (decide p)) x y :=
 ⟨_, rfl, fun h => h1 (of_decide_eq_true h), fun h => h2 (of_decide_eq_false h)⟩
theorem pickD_mk {b : Bool} {x y : Value} {L : Value → Prop} (h : L (if b then x else y)) : pickD (.bool b) x y L := ⟨b, rfl, h⟩
theorem pickD_iff {b : Bool} {x y : Value} {L : Value → Prop} : pickD (.bool b) x y L ↔ L (if b then x else y) := ⟨fun ⟨_, h, hk⟩ => by cases h; exact hk, pickD_mk⟩
theorem gd_iff {b want : Bool} {step : (Value → World → Prop) → Prop} : gd (.bool b) want step w K ↔ if b = want then step K else K undef w := by
 constructor
 ·rintro ⟨h1, h2⟩
  split
  ·rename_i hb; exact h1 (by rw [hb])
  ·rename_i hb; exact h2 (by simpa using hb)
 ·intro h
  by_cases hb : b = want
  ·rw [if_pos hb] at h; exact ⟨fun _ => h, fun h' => absurd (by rw [hb]) h'⟩
  ·rw [if_neg hb] at h; exact ⟨fun h' => absurd (by simpa using h') hb, fun _ => h⟩
theorem gdY_iff {b want : Bool} {step : (Value → Prop) → Prop} {L : Value → Prop} : gdY (.bool b) want step L ↔ if b = want then step L else L undef := by
 constructor
 ·rintro ⟨h1, h2⟩
  split
  ·rename_i hb; exact h1 (by rw [hb])
  ·rename_i hb; exact h2 (by simpa using hb)
 ·intro h
  by_cases hb : b = want
  ·rw [if_pos hb] at h; exact ⟨fun _ => h, fun h' => absurd (by rw [hb]) h'⟩
  ·rw [if_neg hb] at h; exact ⟨fun h' => absurd (by simpa using h') hb, fun _ => h⟩
theorem gd_undef {want : Bool} {step : (Value → World → Prop) → Prop} : gd undef want step w K ↔ K undef w :=
 ⟨fun ⟨_, h2⟩ => h2 (by simp [undef]), fun h => ⟨fun h' => by simp [undef] at h', fun _ => h⟩⟩
theorem gdY_undef {want : Bool} {step : (Value → Prop) → Prop} {L : Value → Prop} : gdY undef want step L ↔ L undef :=
 ⟨fun ⟨_, h2⟩ => h2 (by simp [undef]), fun h => ⟨fun h' => by simp [undef] at h', fun _ => h⟩⟩
theorem gd_t {step : (Value → World → Prop) → Prop} : gd (.bool true) true step w K ↔ step K := by rw [gd_iff]; simp
theorem gd_f {step : (Value → World → Prop) → Prop} : gd (.bool false) false step w K ↔ step K := by rw [gd_iff]; simp
theorem gd_tf {step : (Value → World → Prop) → Prop} : gd (.bool true) false step w K ↔ K undef w := by rw [gd_iff]; simp
theorem gd_ft {step : (Value → World → Prop) → Prop} : gd (.bool false) true step w K ↔ K undef w := by rw [gd_iff]; simp
theorem gdY_t {step : (Value → Prop) → Prop} {L : Value → Prop} : gdY (.bool true) true step L ↔ step L := by rw [gdY_iff]; simp
theorem gdY_f {step : (Value → Prop) → Prop} {L : Value → Prop} : gdY (.bool false) false step L ↔ step L := by rw [gdY_iff]; simp
theorem gdY_tf {step : (Value → Prop) → Prop} {L : Value → Prop} : gdY (.bool true) false step L ↔ L undef := by rw [gdY_iff]; simp
theorem gdY_ft {step : (Value → Prop) → Prop} {L : Value → Prop} : gdY (.bool false) true step L ↔ L undef := by rw [gdY_iff]; simp
theorem drawD.mk' {body : (World → Prop) → World → Prop} (S : World → Prop) (hS : S w.drew) (h : body S w.drew) : drawD w body := ⟨S, hS, h⟩
theorem yieldS.ok {S : World → Prop} {s : Sem Value} {v : Value} {L : Value → Prop} (h : ∀ w, S w → s.run P w = .ok v w) (hk : L v) : yieldS P S s L := ⟨v, h, hk⟩
end
theorem r_lss {P : Program} {w : World} {k : IntKind} {t : TypeId} {a b : Int} : (binOp .lss t (.int k a) (.int k b)).run P w = .ok (.bool (decide (a < b))) w := by simp [binOp, Op.intCmp]
theorem V_lss {P : Program} {w : World} {K : Value → World → Prop} {k : IntKind} {t : TypeId} {a b : Int} : V P (binOp .lss t (.int k a) (.int k b)) w K ↔ K (.bool (decide (a < b))) w := V.iff (by exact r_lss )
theorem r_leq {P : Program} {w : World} {k : IntKind} {t : TypeId} {a b : Int} : (binOp .leq t (.int k a) (.int k b)).run P w = .ok (.bool (decide (a ≤ b))) w := by simp [binOp, Op.intCmp]
theorem V_leq {P : Program} {w : World} {K : Value → World → Prop} {k : IntKind} {t : TypeId} {a b : Int} : V P (binOp .leq t (.int k a) (.int k b)) w K ↔ K (.bool (decide (a ≤ b))) w := V.iff (by exact r_leq )
theorem r_gtr {P : Program} {w : World} {k : IntKind} {t : TypeId} {a b : Int} : (binOp .gtr t (.int k a) (.int k b)).run P w = .ok (.bool (decide (a > b))) w := by simp [binOp, Op.intCmp]
theorem V_gtr {P : Program} {w : World} {K : Value → World → Prop} {k : IntKind} {t : TypeId} {a b : Int} : V P (binOp .gtr t (.int k a) (.int k b)) w K ↔ K (.bool (decide (a > b))) w := V.iff (by exact r_gtr )
theorem r_geq {P : Program} {w : World} {k : IntKind} {t : TypeId} {a b : Int} : (binOp .geq t (.int k a) (.int k b)).run P w = .ok (.bool (decide (a ≥ b))) w := by simp [binOp, Op.intCmp]
theorem V_geq {P : Program} {w : World} {K : Value → World → Prop} {k : IntKind} {t : TypeId} {a b : Int} : V P (binOp .geq t (.int k a) (.int k b)) w K ↔ K (.bool (decide (a ≥ b))) w := V.iff (by exact r_geq )
theorem r_add {P : Program} {w : World} {k : IntKind} {t : TypeId} {a b : Int} : (binOp .add t (.int k a) (.int k b)).run P w = .ok (.int k (k.wrap (a + b))) w := by simp [binOp, Op.intArith]
theorem V_add {P : Program} {w : World} {K : Value → World → Prop} {k : IntKind} {t : TypeId} {a b : Int} : V P (binOp .add t (.int k a) (.int k b)) w K ↔ K (.int k (k.wrap (a + b))) w := V.iff (by exact r_add )
theorem r_sub {P : Program} {w : World} {k : IntKind} {t : TypeId} {a b : Int} : (binOp .sub t (.int k a) (.int k b)).run P w = .ok (.int k (k.wrap (a - b))) w := by simp [binOp, Op.intArith]
theorem V_sub {P : Program} {w : World} {K : Value → World → Prop} {k : IntKind} {t : TypeId} {a b : Int} : V P (binOp .sub t (.int k a) (.int k b)) w K ↔ K (.int k (k.wrap (a - b))) w := V.iff (by exact r_sub )
theorem r_mul {P : Program} {w : World} {k : IntKind} {t : TypeId} {a b : Int} : (binOp .mul t (.int k a) (.int k b)).run P w = .ok (.int k (k.wrap (a * b))) w := by simp [binOp, Op.intArith]
theorem V_mul {P : Program} {w : World} {K : Value → World → Prop} {k : IntKind} {t : TypeId} {a b : Int} : V P (binOp .mul t (.int k a) (.int k b)) w K ↔ K (.int k (k.wrap (a * b))) w := V.iff (by exact r_mul )
theorem r_quo {P : Program} {w : World} {k : IntKind} {t : TypeId} {a b : Int} (h : b ≠ 0) : (binOp .quo t (.int k a) (.int k b)).run P w = .ok (.int k (k.wrap (a.tdiv b))) w := by simp [binOp, Op.intDiv, h]
theorem V_quo {P : Program} {w : World} {K : Value → World → Prop} {k : IntKind} {t : TypeId} {a b : Int} (h : b ≠ 0) : V P (binOp .quo t (.int k a) (.int k b)) w K ↔ K (.int k (k.wrap (a.tdiv b))) w := V.iff (by exact r_quo h)
theorem r_rem {P : Program} {w : World} {k : IntKind} {t : TypeId} {a b : Int} (h : b ≠ 0) : (binOp .rem t (.int k a) (.int k b)).run P w = .ok (.int k (a.tmod b)) w := by simp [binOp, Op.intDiv, h]
theorem r_eqlI {P : Program} {w : World} {k : IntKind} {t : TypeId} {x y : Operand} {a b : Int} : (do eqGuard .eql t x y (.int k a) (.int k b); binOp .eql t (.int k a) (.int k b)).run P w = .ok (.bool (decide (a = b))) w := by simp [eqGuard, binOp, Op.intCmp]; rfl
theorem V_eqlI {P : Program} {w : World} {K : Value → World → Prop} {k : IntKind} {t : TypeId} {x y : Operand} {a b : Int} : V P (do eqGuard .eql t x y (.int k a) (.int k b); binOp .eql t (.int k a) (.int k b)) w K ↔ K (.bool (decide (a = b))) w := V.iff (by exact r_eqlI )
theorem r_neqI {P : Program} {w : World} {k : IntKind} {t : TypeId} {x y : Operand} {a b : Int} : (do eqGuard .neq t x y (.int k a) (.int k b); binOp .neq t (.int k a) (.int k b)).run P w = .ok (.bool (decide (a ≠ b))) w := by simp [eqGuard, binOp, Op.intCmp, bne]; rfl
theorem V_neqI {P : Program} {w : World} {K : Value → World → Prop} {k : IntKind} {t : TypeId} {x y : Operand} {a b : Int} : V P (do eqGuard .neq t x y (.int k a) (.int k b); binOp .neq t (.int k a) (.int k b)) w K ↔ K (.bool (decide (a ≠ b))) w := V.iff (by exact r_neqI )
theorem r_not {P : Program} {w : World} {b : Bool} : (Op.unary .not (.bool b)).run P w = .ok (.bool (!b)) w := by simp [Op.unary]
theorem V_not {P : Program} {w : World} {K : Value → World → Prop} {b : Bool} : V P (Op.unary .not (.bool b)) w K ↔ K (.bool (!b)) w := V.iff (by exact r_not )
theorem r_ext0 {P : Program} {w : World} {a b : Value} : (Instr.extract (.tuple #[a, b]) 0).run P w = .ok a w := by simp [Instr.extract]
theorem V_ext0 {P : Program} {w : World} {K : Value → World → Prop} {a b : Value} : V P (Instr.extract (.tuple #[a, b]) 0) w K ↔ K a w := V.iff (by exact r_ext0 )
theorem r_ext1 {P : Program} {w : World} {a b : Value} : (Instr.extract (.tuple #[a, b]) 1).run P w = .ok b w := by simp [Instr.extract]
theorem V_ext1 {P : Program} {w : World} {K : Value → World → Prop} {a b : Value} : V P (Instr.extract (.tuple #[a, b]) 1) w K ↔ K b w := V.iff (by exact r_ext1 )
theorem wrap_id {n : Int} (h1 : -9223372036854775808 ≤ n) (h2 : n ≤ 9223372036854775807) : IntKind.i64.wrap n = n := by
 simp only [IntKind.wrap_i64]; omega
def Inf (P : Program) (t : TypeId) (z : Value) (n bytes : Nat) : Prop := (P.info? t).map (fun i => (i.zero, i.size, i.bytes)) = some (some z, n, bytes)
section
variable {P : Program} {w : World} {K : Value → World → Prop}
theorem run_zero {t : TypeId} {z : Value} {n b : Nat} (h : Inf P t z n b) : (zeroValue t).run P w = .ok z w := by
 obtain ⟨i, hi, hz, _⟩ := info_parts h
 simp [zeroValue, typeInfo, hi, hz]
theorem run_size {t : TypeId} {z : Value} {n b : Nat} (h : Inf P t z n b) : (sizeOf t).run P w = .ok n w := by
 obtain ⟨i, hi, _, hn, _⟩ := info_parts h
 simp [sizeOf, typeInfo, hi, hn]
theorem r_len {s e ty : TypeId} (hs : P.underlying s = some (.slice e)) {a : Option Addr} {n c : Nat} : (Builtin.len_ #[s] ty #[.slice a n c]).run P w = .ok (.int .i64 n) w := by
 simp [Builtin.len_, run_underlying hs, goInt]
def notIf : TypeDesc → Bool
 | .interface _ => false
 | _ => true
theorem r_ta {x u : TypeId} {d : TypeDesc} {z : Value} {n b : Nat} (hu : P.underlying u = some d) (hd : notIf d = true) (hz : Inf P u z n b) {t : TypeId} {v : Value} :
  (Instr.typeAssert (.iface t v) x u true).run P w = .ok (if t = u then .tuple #[v, .bool true] else .tuple #[z, .bool false]) w := by
 cases d with
 | interface _ => cases hd
 | _ => simp only [Instr.typeAssert, Sem.run_bind, run_underlying hu, Result.andThen_ok] <;> (split <;> simp [*, run_zero hz])
theorem r_tanil {x u : TypeId} {d : TypeDesc} {z : Value} {n b : Nat} (hu : P.underlying u = some d) (hd : notIf d = true) (hz : Inf P u z n b) :
  (Instr.typeAssert .nilIface x u true).run P w = .ok (.tuple #[z, .bool false]) w := by
 cases d with
 | interface _ => cases hd
 | _ => simp [Instr.typeAssert, run_underlying hu, run_zero hz]
theorem r_alloc {t : TypeId} {z : Value} {n b : Nat} (hz : Inf P t z n b) : (Instr.alloc t true (.tuple #[])).run P w = .ok (.pointer (some ⟨w.heap.size, 0, none⟩)) (w.alloc (.cells z.cells t)) := by
 simp [Instr.alloc, run_zero hz, newVar, newRow, newObj, Sem.run]
theorem r_box {t : TypeId} {v : Value} : (Instr.box t v).run P w = .ok (.pointer (some ⟨w.heap.size, 0, none⟩)) (w.alloc (.cells v.cells t)) := by
 simp [Instr.box, newVar, newRow, newObj, Sem.run]
theorem add_mk (b off n : Nat) : (⟨b, off, none⟩ : Addr).add n = ⟨b, off + n, none⟩ := by
 unfold Addr.add
 split
 ·rename_i h; subst h; rfl
 ·rfl
theorem r_field {s : TypeId} {fs : Array Field} {f : Nat} (ft : TypeId) (o : Nat) {z : Value} {n by_ : Nat} (hs : P.underlying s = some (.struct fs)) (hf : (fs[f]?).map (fun fd => (fd.type, fd.offset)) = some (ft, o)) (hi : Inf P ft z n by_) (hn : (n == 0) = false) {b off : Nat} :
  (Instr.fieldAt s (.pointer (some ⟨b, off, none⟩)) f).run P w = .ok (.pointer (some ⟨b, off + o, none⟩)) w := by
 obtain ⟨fd, hfd, he⟩ := Option.map_eq_some_iff.1 hf
 simp only [Prod.mk.injEq] at he
 obtain ⟨rfl, rfl⟩ := he
 have hn' : n ≠ 0 := by simpa using hn
 simp [Instr.fieldAt, run_underlying hs, hfd, Instr.sureAddr, fieldPlace, run_size hi, hn', add_mk]
theorem r_index {t e : TypeId} {z : Value} {n by_ : Nat} (ht : P.underlying t = some (.slice e)) (hi : Inf P e z n by_) {b off len cap : Nat} {k : IntKind} {i : Int} (h0 : 0 ≤ i) (h1 : i < len) :
  (Instr.indexAt t (.slice (some ⟨b, off, none⟩) len cap) (.int k i)).run P w = .ok (.pointer (some ⟨b, off + i.toNat * n, none⟩)) w := by
 simp [Instr.indexAt, asIntOf, run_underlying ht, h0, h1, run_size hi, add_mk]
def aggB : TypeDesc → Bool
 | .struct _ | .array _ _ => true
 | _ => false
theorem run_isAgg {t : TypeId} {d : TypeDesc} (ht : P.underlying t = some d) : (isAgg t).run P w = .ok (aggB d) w := by
 cases d <;> simp [isAgg, run_underlying ht, aggB]
theorem r_load {t : TypeId} {d : TypeDesc} (ht : P.underlying t = some d) (hd : aggB d = false) {a : Addr} {v : Value} (h : w.cell? a = some v) :
  (Instr.loadAt t (.pointer (some a))).run P w = .ok v w := by
 simp [Instr.loadAt, Instr.sureAddr, loadVar, run_isAgg ht, hd, load, Sem.run, h]
theorem run_loadFrom {b off : Nat} (cs : List Value) : ∀ (l : List Value) (i : Nat) (acc : Array Value), (∀ j (_ : j < l.length), w.cell? ⟨b, off + (i + j), none⟩ = l[j]?) →
  (loadCellsFrom ⟨b, off, none⟩ i l.length acc).run P w = .ok (acc ++ l.toArray) w
 | [], _, acc, _ => by simp [loadCellsFrom]
 | v :: l, i, acc, h => by
  have h0 := h 0 (by simp)
  simp only [Nat.add_zero, List.getElem?_cons_zero] at h0
  simp only [List.length_cons, loadCellsFrom, load, add_mk, Sem.run_bind, Sem.run, h0, Result.andThen_ok]
  rw [run_loadFrom cs l (i + 1) (acc.push v) (fun j hj => by
   have := h (j + 1) (by simp; omega)
   rw [show i + 1 + j = i + (j + 1) from by omega]
   simpa using this)]
  simp
theorem r_loadAgg {t : TypeId} {d : TypeDesc} {z : Value} {n by_ : Nat} (ht : P.underlying t = some d) (hd : aggB d = true) (hi : Inf P t z n by_) {b off : Nat} {cs : List Value} (hl : cs.length = n)
  (h : ∀ j (_ : j < cs.length), w.cell? ⟨b, off + j, none⟩ = cs[j]?) : (Instr.loadAt t (.pointer (some ⟨b, off, none⟩))).run P w = .ok (.agg cs.toArray) w := by
 subst hl
 have := run_loadFrom (P := P) (w := w) (b := b) (off := off) cs cs 0 #[] (by simpa using h)
 simp [Instr.loadAt, Instr.sureAddr, loadVar, run_isAgg ht, hd, run_size hi, loadCells, this]
def oneC : Value → Bool
 | .agg _ | .tuple _ => false
 | _ => true
theorem oneC_cells {v : Value} (h : oneC v = true) : v.cells = #[v] := by cases v <;> first | rfl | cases h
theorem run_store1 {a : Addr} {v u : Value} (hv : oneC v = true) (h : w.cell? a = some u) (hf : w.frozen? a = false) : (store a v).run P w = .ok () (w.setCell a v) := by
 cases v <;> first | (simp [store, Sem.run, h, hf]; done) | cases hv
theorem r_store {t : TypeId} {z : Value} {by_ : Nat} (hi : Inf P t z 1 by_) {b off : Nat} {v u : Value} (hv : oneC v = true) (h : w.cell? ⟨b, off, none⟩ = some u) (hf : w.frozen? ⟨b, off, none⟩ = false) :
  (Instr.storeAt t (.pointer (some ⟨b, off, none⟩)) v).run P w = .ok () (w.setCell ⟨b, off, none⟩ v) := by
 simp [Instr.storeAt, Instr.sureAddr, storeVar, run_size hi, oneC_cells hv, storeCells, run_store1 hv h hf, add_mk]
theorem run_storeNew {t : TypeId} : ∀ (l done old : List Value), l.length = old.length → (∀ u ∈ l, oneC u = true) →
  (storeCells ⟨w.heap.size, 0, none⟩ l done.length).run P (w.alloc (.cells (done ++ old).toArray t)) = .ok () (w.alloc (.cells (done ++ l).toArray t))
 | [], done, [], _, _ => by simp [storeCells]
 | v :: l, done, u :: old, hl, h1 => by
  have hc : (w.alloc (.cells (done ++ u :: old).toArray t)).cell? ⟨w.heap.size, done.length, none⟩ = some u := by simp
  have hf : (w.alloc (.cells (done ++ u :: old).toArray t)).frozen? ⟨w.heap.size, done.length, none⟩ = false := by simp
  have hset : (w.alloc (.cells (done ++ u :: old).toArray t)).setCell ⟨w.heap.size, done.length, none⟩ v = w.alloc (.cells (done ++ v :: old).toArray t) := by
   simp only [World.setCell, World.alloc]
   congr 1
   apply Array.ext
   ·simp
   ·intro i h1 h2
    simp only [Array.getElem_modify, Array.getElem_push]
    by_cases hi : i < w.heap.size
    ·have : ¬ w.heap.size = i := by omega
     simp [hi, this]
    ·have hi' : w.heap.size = i := by simp at h1; omega
     subst hi'
     simp
  simp only [storeCells, add_mk, Nat.zero_add, Sem.run_bind]
  rw [run_store1 (h1 v (by simp)) hc hf, Result.andThen_ok, hset]
  have := run_storeNew (t := t) l (done ++ [v]) old (by simpa using hl) (fun u hu => h1 u (by simp [hu]))
  simpa using this
theorem r_storeNew {t t' : TypeId} {z : Value} {n by_ : Nat} (hi : Inf P t z n by_) {old : Array Value} {v : Value} (hn : v.cells.size = n) (ho : old.size = n) (h1 : ∀ u ∈ v.cells.toList, oneC u = true) :
  (Instr.storeAt t (.pointer (some ⟨w.heap.size, 0, none⟩)) v).run P (w.alloc (.cells old t')) = .ok () (w.alloc (.cells v.cells t')) := by
 have := run_storeNew (P := P) (w := w) (t := t') v.cells.toList [] old.toList (by simp [hn, ho]) h1
 simp only [List.nil_append, List.length_nil, Array.toArray_toList] at this
 simp [Instr.storeAt, Instr.sureAddr, storeVar, run_size hi, hn, this]
def ldO (P : Program) (t : TypeId) (a : Addr) (o : Option Value) (w : World) (K : Value → World → Prop) : Prop :=
 match o with
 | some v => K v w
 | none => V P (Instr.loadAt t (.pointer (some a))) w K
theorem V_allocStore {t : TypeId} {z : Value} {n by_ : Nat} (hi : Inf P t z n by_) (hz : (z.cells.size == n) = true) {v : Value} {K' : Value → World → Prop} (hn : v.cells.size = n) (h1 : ∀ u ∈ v.cells.toList, oneC u = true) :
  V P (Instr.alloc t true (.tuple #[])) w (fun p w1 => U P (Instr.storeAt t p v) w1 fun _ w2 => K' p w2) ↔ K' (.pointer (some ⟨w.heap.size, 0, none⟩)) (w.alloc (.cells v.cells t)) := by
 rw [V.iff (r_alloc hi)]
 exact U.iff (r_storeNew hi hn (by simpa using hz) h1)
theorem fill_one (e : Nat) : ∀ (l : List Value) (done old : List Value), l.length = old.length → (∀ u ∈ l, oneC u = true) →
  Instr.fill (fun i => some (i * 1, 1)) (done ++ old).toArray ((List.range' done.length l.length).zip l) = some (done ++ l).toArray
 | [], done, [], _, _ => by simp [Instr.fill]
 | v :: l, done, u :: old, hl, h1 => by
  have hv := oneC_cells (h1 v (by simp))
  simp only [List.length_cons, List.range'_succ, List.zip_cons_cons, Instr.fill, hv]
  have := fill_one e l (done ++ [v]) old (by simpa using hl) (fun u hu => h1 u (by simp [hu]))
  simp at this ⊢
  exact this
theorem r_buildSlice {s e : TypeId} {z : Value} {by_ : Nat} (hs : P.underlying s = some (.slice e)) (hi : Inf P e z 1 by_) (hz : (z.cells.size == 1) = true) (l : List Value) (hl : l.length ≤ 16777216) (h1 : ∀ u ∈ l, oneC u = true) :
  (Instr.buildSlice s l.length ((List.range' 0 l.length).zip l).toArray).run P w = .ok (.slice (some ⟨w.heap.size, 0, none⟩) l.length l.length) (w.alloc (.cells l.toArray e)) := by
 obtain ⟨i, hi', hz', hn, hb⟩ := info_parts hi
 have hz1 : z.cells.size = 1 := by simpa using hz
 by_cases h0 : l.length = 0
 ·obtain rfl := List.length_eq_zero_iff.1 h0
  have e0 : Array.range 0 = #[] := by simp [Array.range]
  simp [Instr.buildSlice, run_underlying hs, sizeOf, typeInfo, hi', Instr.fill, newRow, newObj, Sem.run, e0]
 ·have hf := fill_one 0 l [] ((Array.range (l.length * 1)).map (fun j => z.cells[j % z.cells.size]!)).toList (by simp) h1
  simp only [List.nil_append, List.length_nil, Array.toArray_toList] at hf
  have hgt : ¬ 16777216 < l.length := by omega
  simp only [Instr.buildSlice, Sem.run_bind, run_underlying hs, Result.andThen_ok, run_size hi]
  simp only [Nat.mul_one, h0, if_false]
  rw [if_neg (by simpa using hgt)]
  simp only [Nat.mul_one] at hf
  simp [hf, newRow, newObj, Sem.run, run_zero hi]
theorem equal_succ (s : TypeId) (x y : Value) : Op.equal s x y = Op.equalIn (9999 + 1) s x y := rfl
theorem q_nilIface {s : TypeId} {ms : Array (String × TypeId)} (hs : P.underlying s = some (.interface ms)) (d : Nat) {t : TypeId} {v : Value} : (Op.equalIn (d + 1) s (.iface t v) .nilIface).run P w = .ok false w := by
 simp [Op.equalIn, run_underlying hs]
theorem q_nilNil {s : TypeId} {ms : Array (String × TypeId)} (hs : P.underlying s = some (.interface ms)) (d : Nat) : (Op.equalIn (d + 1) s .nilIface .nilIface).run P w = .ok true w := by
 simp [Op.equalIn, run_underlying hs]
theorem q_nilSlice {s e : TypeId} (hs : P.underlying s = some (.slice e)) (d : Nat) {a : Option Addr} {n c : Nat} : (Op.equalIn (d + 1) s (.slice a n c) (.slice none 0 0)).run P w = .ok a.isNone w := by
 cases a <;> simp [Op.equalIn, run_underlying hs]
theorem q_bool {s : TypeId} (hs : P.underlying s = some .bool) (d : Nat) {a b : Bool} : (Op.equalIn (d + 1) s (.bool a) (.bool b)).run P w = .ok (a == b) w := by
 simp [Op.equalIn, run_underlying hs]
theorem r_eqNilIface {s : TypeId} {ms : Array (String × TypeId)} (hs : P.underlying s = some (.interface ms)) {x y : Operand} {t : TypeId} {v : Value} :
  (do eqGuard .eql s x y (.iface t v) .nilIface; binOp .eql s (.iface t v) .nilIface).run P w = .ok (.bool false) w := by
 simp [eqGuard, binOp, equal_succ, q_nilIface hs]
theorem r_neqNilIface {s : TypeId} {ms : Array (String × TypeId)} (hs : P.underlying s = some (.interface ms)) {x y : Operand} {t : TypeId} {v : Value} :
  (do eqGuard .neq s x y (.iface t v) .nilIface; binOp .neq s (.iface t v) .nilIface).run P w = .ok (.bool true) w := by
 simp [eqGuard, binOp, equal_succ, q_nilIface hs]
theorem r_neqNilNil {s : TypeId} {ms : Array (String × TypeId)} (hs : P.underlying s = some (.interface ms)) {x : Operand} {c : Value} :
  (do eqGuard .neq s x (.const c) .nilIface .nilIface; binOp .neq s .nilIface .nilIface).run P w = .ok (.bool false) w := by
 simp [eqGuard, binOp, equal_succ, q_nilNil hs]
theorem r_eqNilSlice {s e : TypeId} (hs : P.underlying s = some (.slice e)) {x y : Operand} {a : Option Addr} {n c : Nat} :
  (do eqGuard .eql s x y (.slice a n c) (.slice none 0 0); binOp .eql s (.slice a n c) (.slice none 0 0)).run P w = .ok (.bool a.isNone) w := by
 simp [eqGuard, binOp, equal_succ, q_nilSlice hs]
theorem r_eqBool {s : TypeId} (hs : P.underlying s = some .bool) {x y : Operand} {a b : Bool} :
  (do eqGuard .eql s x y (.bool a) (.bool b); binOp .eql s (.bool a) (.bool b)).run P w = .ok (.bool (a == b)) w := by
 simp [eqGuard, binOp, equal_succ, q_bool hs]
theorem r_neqBool {s : TypeId} (hs : P.underlying s = some .bool) {x y : Operand} {a b : Bool} :
  (do eqGuard .neq s x y (.bool a) (.bool b); binOp .neq s (.bool a) (.bool b)).run P w = .ok (.bool (a != b)) w := by
 simp [eqGuard, binOp, equal_succ, q_bool hs, bne]
theorem r_convI {s d : TypeId} {ds : TypeDesc} {k k' : IntKind} {n : Int} (hs : P.underlying s = some ds) (hd : P.underlying d = some (.int k')) :
  (convert s d (.int k n)).run P w = .ok (.int k' (k'.wrap n)) w := by
 simp [convert, run_underlying hs, run_underlying hd, Conv.intToInt]
def Ext (w w' : World) : Prop := w.grownBy w' none
theorem Ext.refl (w : World) : Ext w w := ⟨rfl, rfl, rfl, Nat.le_refl _, fun _ _ _ => rfl⟩
theorem Ext.trans {a b c : World} (h : Ext a b) (k : Ext b c) : Ext a c :=
 ⟨k.os.trans h.os, k.tape.trans h.tape, k.output.trans h.output, Nat.le_trans h.size k.size, fun i hi hn => (k.block i (Nat.lt_of_lt_of_le hi h.size) hn).trans (h.block i hi hn)⟩
theorem Ext.alloc {a w : World} (h : Ext a w) (o : Obj) : Ext a (w.alloc o) := h.trans (World.grownBy_alloc _ _ _)
theorem Ext.drew {a w : World} (h : Ext a w) : Ext a w.drew := ⟨h.os, h.tape, h.output, h.size, h.block⟩
theorem Ext.setCell {a w : World} (h : Ext a w) {b o : Nat} (hb : a.heap.size ≤ b) (v : Value) : Ext a (w.setCell ⟨b, o, none⟩ v) :=
 ⟨h.os, h.tape, h.output, by simpa using h.size, fun i hi hn => by rw [RowKit.Below.heap_setCell _ _ _ _ (by simp; omega)]; exact h.block i hi hn⟩
theorem Ext.cell {a w : World} (h : Ext a w) {p : Addr} {v : Value} (hc : a.cell? p = some v) : w.cell? p = some v := World.grownBy.cell h hc (by simp)
theorem Ext.obj {a w : World} (h : Ext a w) {b : Nat} {o : Obj} (hb : a.heap[b]? = some o) : w.heap[b]? = some o := by
 have hlt : b < a.heap.size := (Array.getElem?_eq_some_iff.1 hb).1
 rw [h.block b hlt (by simp)]; exact hb
theorem Ext.grown {a w w' : World} (h : Ext a w) {row : Option Nat} (hg : w.grownBy w' row) (hr : ∀ k, row = some k → a.heap.size ≤ k) : Ext a w' :=
 ⟨hg.os.trans h.os, hg.tape.trans h.tape, hg.output.trans h.output, Nat.le_trans h.size hg.size, fun i hi hn => (hg.block i (Nat.lt_of_lt_of_le hi h.size) (fun e => by have := hr i e.symm; omega)).trans (h.block i hi hn)⟩
theorem Ext.own {a w : World} (h : Ext a w) {B : Nat} {e : TypeId} {size n : Nat} {v : Value} {xs : List Value} (ho : a.ownsRow B e size v n xs) : w.ownsRow B e size v n xs := ho.kept h (by cases v.ownBlock <;> simp)
theorem Ext.below {a w : World} (h : Ext a w) : RowKit.Below a.heap.size a w := ⟨h.os, h.tape, h.output, h.size, fun k hk => h.block k hk (by simp)⟩
def SliceIs (w : World) (v : Value) (size n : Nat) (cs : List Value) : Prop :=
 cs.length = n * size ∧ ((v = .slice none 0 0 ∧ n = 0) ∨ ∃ b off cap, v = .slice (some ⟨b, off, none⟩) n cap ∧ n ≤ cap ∧ cap ≤ maxLen ∧ ∀ j u, cs[j]? = some u → w.cell? ⟨b, off + j, none⟩ = some u)
theorem SliceIs.ext {w w' : World} {v : Value} {size n : Nat} {cs : List Value} (h : SliceIs w v size n cs) (hx : Ext w w') : SliceIs w' v size n cs := by
 obtain ⟨h1, h2⟩ := h
 refine ⟨h1, ?_⟩
 rcases h2 with h2 | ⟨b, off, cap, h2, h3, h4, h5⟩
 ·exact .inl h2
 ·exact .inr ⟨b, off, cap, h2, h3, h4, fun j u hj => hx.cell (h5 j u hj)⟩
theorem SliceIs.nil (w : World) (size : Nat) : SliceIs w (.slice none 0 0) size 0 [] := ⟨by simp, .inl ⟨rfl, rfl⟩⟩
theorem SliceIs.of_own {w : World} {B : Nat} {e : TypeId} {size n : Nat} {v : Value} {xs : List Value} (h : w.ownsRow B e size v n xs) : SliceIs w v size n xs := by
 refine ⟨h.1, ?_⟩
 rcases h.2 with ⟨h1, h2⟩ | ⟨g, cap, cur, rfl, _, _, h4, h5, _⟩
 ·exact .inl ⟨h1, h2⟩
 ·exact .inr ⟨g, 0, cap, rfl, h4, h5, fun j u hj => by have := h.cells (g := g) rfl j u hj; rwa [add_mk] at this⟩
theorem SliceIs.shape {w : World} {v : Value} {size n : Nat} {cs : List Value} (h : SliceIs w v size n cs) : ∃ a cap, v = .slice a n cap := by
 rcases h.2 with ⟨rfl, rfl⟩ | ⟨b, off, cap, rfl, _⟩
 ·exact ⟨none, 0, rfl⟩
 ·exact ⟨_, cap, rfl⟩
theorem SliceIs.there {w : World} {v : Value} {size n : Nat} {cs : List Value} (h : SliceIs w v size n cs) (hn : 0 < n) : ∃ b off cap, v = .slice (some ⟨b, off, none⟩) n cap ∧ ∀ j u, cs[j]? = some u → w.cell? ⟨b, off + j, none⟩ = some u := by
 rcases h.2 with ⟨_, rfl⟩ | ⟨b, off, cap, rfl, _, _, h5⟩
 ·omega
 ·exact ⟨b, off, cap, rfl, h5⟩
theorem SliceIs.get {t e x : TypeId} {d : TypeDesc} {z : Value} {by_ : Nat} (ht : P.underlying t = some (.slice e)) (hi : Inf P e z 1 by_) (hx : P.underlying x = some d) (hd : aggB d = false) {v : Value} {n : Nat} {cs : List Value} (h : SliceIs w v 1 n cs)
  {k : IntKind} {i : Int} {u : Value} (h0 : 0 ≤ i) (h1 : i < n) (hu : cs[i.toNat]? = some u) (hk : K u w) :
  V P (Instr.indexAt t v (.int k i)) w fun p w1 => V P (Instr.loadAt x p) w1 K := by
 obtain ⟨b, off, cap, rfl, hc⟩ := h.there (by omega)
 refine V.ok (r_index ht hi h0 h1) (V.ok (r_load hx hd ?_) hk)
 simpa using hc _ _ hu
structure TA (P : Program) (u : TypeId) : Prop where
 of ::
 ex : ∃ z, (∀ (w : World) x t v, (Instr.typeAssert (.iface t v) x u true).run P w = .ok (if t = u then .tuple #[v, .bool true] else .tuple #[z, .bool false]) w) ∧
 ∀ (w : World) x, (Instr.typeAssert .nilIface x u true).run P w = .ok (.tuple #[z, .bool false]) w
theorem TA.mk' {u : TypeId} {d : TypeDesc} {z : Value} {n b : Nat} (hu : P.underlying u = some d) (hd : notIf d = true) (hz : Inf P u z n b) : TA P u := ⟨⟨z, fun _ _ _ _ => r_ta hu hd hz, fun _ _ => r_tanil hu hd hz⟩⟩
structure SA (P : Program) (t : TypeId) (n : Nat) : Prop where
 of ::
 ex : ∃ z by_, Inf P t z n by_ ∧ z.cells.size = n
structure FA (P : Program) (s f o : Nat) : Prop where
 of ::
 ex : ∀ (w : World) b off, (Instr.fieldAt s (.pointer (some ⟨b, off, none⟩)) f).run P w = .ok (.pointer (some ⟨b, off + o, none⟩)) w
structure L1 (P : Program) (t : TypeId) : Prop where
 of ::
 ex : ∃ d, P.underlying t = some d ∧ aggB d = false
structure XA (P : Program) (t n : Nat) : Prop where
 of ::
 ex : ∃ e z by_, P.underlying t = some (.slice e) ∧ Inf P e z n by_
theorem th {u x : TypeId} {v : Value} {A : Value → World → Prop} {B : Value → Value → Value → World → Prop} (h : TA P u) (hA : A v w) :
  V P (Instr.typeAssert (.iface u v) x u true) w fun t1 w1 => V P (Instr.extract t1 1) w1 fun t2 w2 => V P (Instr.extract t1 0) w2 fun t3 w3 => ifD t2 (A t3 w3) (B t1 t2 t3 w3) := by
 obtain ⟨z, hz, _⟩ := h
 refine V.ok (hz w x u v) ?_
 rw [if_pos rfl]
 exact V.ok r_ext1 (V.ok r_ext0 (ifD_true.2 hA))
theorem tm {u t x : TypeId} {v : Value} {A B : Value → Value → Value → World → Prop} (h : TA P u) (hne : t ≠ u) (hB : ∀ t1 t2 t3, B t1 t2 t3 w) :
  V P (Instr.typeAssert (.iface t v) x u true) w fun t1 w1 => V P (Instr.extract t1 1) w1 fun t2 w2 => V P (Instr.extract t1 0) w2 fun t3 w3 => ifD t2 (A t1 t2 t3 w3) (B t1 t2 t3 w3) := by
 obtain ⟨z, hz, _⟩ := h
 refine V.ok (hz w x t v) ?_
 rw [if_neg hne]
 exact V.ok r_ext1 (V.ok r_ext0 (ifD_false.2 (hB _ _ _)))
theorem tn {u x : TypeId} {A B : Value → Value → Value → World → Prop} (h : TA P u) (hB : ∀ t1 t2 t3, B t1 t2 t3 w) :
  V P (Instr.typeAssert .nilIface x u true) w fun t1 w1 => V P (Instr.extract t1 1) w1 fun t2 w2 => V P (Instr.extract t1 0) w2 fun t3 w3 => ifD t2 (A t1 t2 t3 w3) (B t1 t2 t3 w3) := by
 obtain ⟨z, _, hz⟩ := h
 refine V.ok (hz w x) ?_
 exact V.ok r_ext1 (V.ok r_ext0 (ifD_false.2 (hB _ _ _)))
theorem as_ {t n : TypeId} {v : Value} {K' : Value → World → Prop} (h : SA P t n) (hn : v.cells.size = n) (h1 : v.cells.toList.all oneC = true) (hk : K' (.pointer (some ⟨w.heap.size, 0, none⟩)) (w.alloc (.cells v.cells t))) :
  V P (Instr.alloc t true (.tuple #[])) w (fun p w1 => U P (Instr.storeAt t p v) w1 fun _ w2 => K' p w2) := by
 obtain ⟨z, b, hi, hz⟩ := h
 exact (V_allocStore hi (by simpa using hz) hn (fun u hu => List.all_eq_true.1 h1 u hu)).2 hk
theorem ldf {s f o ft b off : Nat} {u : Value} (h : FA P s f o) (hl : L1 P ft) (hc : w.cell? ⟨b, off + o, none⟩ = some u) (hk : K u w) :
  V P (Instr.fieldAt s (.pointer (some ⟨b, off, none⟩)) f) w fun q w1 => V P (Instr.loadAt ft q) w1 K := by
 obtain ⟨d, hd, ha⟩ := hl
 exact V.ok (h.ex w b off) (V.ok (r_load hd ha hc) hk)
theorem ldx {t x : TypeId} {v : Value} {n : Nat} {cs : List Value} {k : IntKind} {i : Int} {u : Value} (h : XA P t 1) (hl : L1 P x) (hs : SliceIs w v 1 n cs) (h0 : 0 ≤ i) (h1 : i < n) (hu : cs[i.toNat]? = some u) (hk : K u w) :
  V P (Instr.indexAt t v (.int k i)) w fun p w1 => V P (Instr.loadAt x p) w1 K := by
 obtain ⟨e, z, b, ht, hi⟩ := h
 obtain ⟨d, hd, ha⟩ := hl
 exact hs.get ht hi hd ha h0 h1 hu hk
theorem lnx {t ty n : Nat} {m : Nat} {v : Value} {size : Nat} {cs : List Value} (h : XA P t n) (hs : SliceIs w v size m cs) (hk : K (i64 m) w) : V P (Builtin.len_ #[t] ty #[v]) w K := by
 obtain ⟨e, z, b, ht, hi⟩ := h
 obtain ⟨a, c, rfl⟩ := hs.shape
 exact V.ok (r_len ht) hk
def Boxed (w : World) (b : Nat) (cs : List Value) : Prop := ∀ j u, cs[j]? = some u → w.cell? ⟨b, 0 + j, none⟩ = some u
theorem Boxed.ext {w w' : World} {b : Nat} {cs : List Value} (h : Boxed w b cs) (hx : Ext w w') : Boxed w' b cs := fun j u hj => hx.cell (h j u hj)
theorem boxed_new {cs : Array Value} {t : TypeId} : Boxed (w.alloc (.cells cs t)) w.heap.size cs.toList := fun j u hj => by simpa using hj
theorem bx {t : TypeId} {v : Value} (hk : ∀ b w1, Boxed w1 b v.cells.toList → Ext w w1 → K (.pointer (some ⟨b, 0, none⟩)) w1) : V P (Instr.box t v) w K :=
 V.ok r_box (hk _ _ boxed_new ((Ext.refl w).alloc _))
theorem asB {t n : TypeId} {v : Value} {K' : Value → World → Prop} (h : SA P t n) (hn : v.cells.size = n) (h1 : v.cells.toList.all oneC = true) (hk : ∀ b w1, Boxed w1 b v.cells.toList → Ext w w1 → K' (.pointer (some ⟨b, 0, none⟩)) w1) :
  V P (Instr.alloc t true (.tuple #[])) w (fun p w1 => U P (Instr.storeAt t p v) w1 fun _ w2 => K' p w2) :=
 as_ h hn h1 (hk _ _ boxed_new ((Ext.refl w).alloc _))
theorem ldB {s f o ft b : Nat} {cs : List Value} {u : Value} (hb : Boxed w b cs) (h : FA P s f o) (hl : L1 P ft) (hc : cs[o]? = some u) (hk : K u w) :
  V P (Instr.fieldAt s (.pointer (some ⟨b, 0, none⟩)) f) w fun q w1 => V P (Instr.loadAt ft q) w1 K := ldf h hl (hb o u hc) hk
theorem ldA {t n b : Nat} {cs : List Value} (hb : Boxed w b cs) (ht : ∃ d z by_, P.underlying t = some d ∧ aggB d = true ∧ Inf P t z n by_) (hl : cs.length = n) (hk : K (.agg cs.toArray) w) : V P (Instr.loadAt t (.pointer (some ⟨b, 0, none⟩))) w K := by
 obtain ⟨d, z, by_, h1, h2, h3⟩ := ht
 exact V.ok (r_loadAgg h1 h2 h3 hl fun j hj => by
  obtain ⟨u, hu⟩ : ∃ u, cs[j]? = some u := ⟨_, List.getElem?_eq_getElem hj⟩
  rw [hu]; exact hb j u hu) hk
structure XE (P : Program) (t e by_ : Nat) : Prop where
 of ::
 ex : ∃ z, P.underlying t = some (.slice e) ∧ Inf P e z 1 by_ ∧ (z.cells.size == 1) = true
theorem oneC_eq (v : Value) : v.oneCell' = oneC v := by cases v <;> rfl
theorem bsl {t e by_ : Nat} (h : XE P t e by_) (l : List Value) {n : Nat} {parts : Array (Nat × Value)} (hn : n = l.length) (hp : parts = ((List.range' 0 l.length).zip l).toArray) (hl : l.length ≤ 16777216) (h1 : l.all oneC = true)
  (hk : ∀ v w', w'.ownsRow w.heap.size e 1 v n l → Ext w w' → K v w') : V P (Instr.buildSlice t n parts) w K := by
 subst hn
 subst hp
 obtain ⟨z, ht, hi, hz⟩ := h
 refine V.ok (r_buildSlice ht hi hz l hl (fun u hu => List.all_eq_true.1 h1 u hu)) (hk _ _ ?_ ((Ext.refl w).alloc _))
 have := World.ownsRow_lit (base := w.heap.size) (e := e) (size := 1) w l.toArray l.length (Nat.le_refl _) (by unfold maxLen; omega) (by simp)
 simpa using this
theorem apO {t e by_ ty : Nat} (h : XE P t e by_) {B : Nat} {v : Value} {n : Nat} {xs : List Value} (ho : w.ownsRow B e 1 v n xs) {x : Value} {m : Nat} {news : List Value} (hs : SliceIs w x 1 m news) (h1 : news.all oneC = true)
  (hb : (n + m) * by_ ≤ 140737488355328) (h63 : n + m ≤ maxLen) (hB : B ≤ w.heap.size) (hk : ∀ v' w', w'.ownsRow B e 1 v' (n + m) (xs ++ news) → w.grownBy w' v.ownBlock → K v' w') :
  V P (Builtin.append_ #[t, t] ty #[v, x]) w K := by
 obtain ⟨z, ht, hi, hz⟩ := h
 obtain ⟨i, hi', hz', hn, hby⟩ := info_parts hi
 rcases hs.2 with ⟨rfl, rfl⟩ | ⟨b, off, cap, rfl, _, _, hc⟩
 ·have hnews : news = [] := by have := hs.1; simpa using this
  subst hnews
  refine V.ok (run_append_owned_none w B t ty e i 1 ht hi' v n xs ho) (hk _ _ (by simpa using ho) ⟨rfl, rfl, rfl, Nat.le_refl _, fun _ _ _ => rfl⟩)
 ·obtain ⟨v', w', hr, h2, h3, _⟩ := run_append_own (P := P) w B t ty e i z 1 by_ ht hi' hz' hn hby (by simpa using hz) (by omega) v n xs ho ⟨b, off, none⟩ m cap news hs.1
   (fun j u hj => by rw [add_mk]; exact hc j u hj) (fun u hu => by rw [oneC_eq]; exact List.all_eq_true.1 h1 u hu) h63 hb hB
  exact V.ok hr (hk _ _ h2 h3)
theorem cloneD {t e by_ : Nat} (h : XE P t e by_) {v : Value} {n : Nat} {cs : List Value} (hs : SliceIs w v 1 n cs) (h1 : cs.all oneC = true) (hb : n * by_ ≤ 140737488355328) {x y : Operand} {R : Value → World → Prop}
  (hk : ∀ v' w', w'.ownsRow w.heap.size e 1 v' n cs → Ext w w' → R v' w') :
  V P (do eqGuard .eql t x y v (Value.slice none 0 0); binOp .eql t v (Value.slice none 0 0)) w fun t4 w1 =>
   ifD t4 (R (Value.slice none 0 0) w1) (V P (Instr.buildSlice t 0 #[]) w1 fun t5 w2 => V P (Builtin.append_ #[t, t] t #[t5, v]) w2 fun t7 w3 => R t7 w3) := by
 have h' := h
 obtain ⟨z, ht, hi, hz⟩ := h
 rcases hs.2 with ⟨rfl, rfl⟩ | ⟨b, off, cap, rfl, hc1, hc2, hc⟩
 ·refine V.ok (r_eqNilSlice ht) (ifD_true.2 (hk _ _ ?_ (Ext.refl w)))
  have : cs = [] := by have := hs.1; simpa using this
  subst this
  exact World.ownsRow_nil _ _ _ _
 ·refine V.ok (r_eqNilSlice ht) (ifD_false.2 (bsl h' [] rfl rfl (by simp) rfl fun v1 w1 ho x1 => ?_))
  refine apO h' ho (hs.ext x1) h1 (by simpa using hb) (by unfold maxLen at *; omega) x1.size fun v2 w2 ho2 hg => ?_
  have := ho2
  simp only [Nat.zero_add, List.nil_append] at this
  exact hk _ _ this (x1.grown hg fun k hk' => (ho.lt k hk').1)
end
end Go.Vc
namespace Go.Vc
section
variable {P : Program} {w : World} {K : Value → World → Prop}
theorem own_mono {w : World} {B B' e size n : Nat} {v : Value} {xs : List Value} (h : w.ownsRow B e size v n xs) (hB : B' ≤ B) : w.ownsRow B' e size v n xs := by
 refine ⟨h.1, ?_⟩
 rcases h.2 with h2 | ⟨g, cap, cur, h2, h3, h4⟩
 ·exact .inl h2
 ·exact .inr ⟨g, cap, cur, h2, Nat.le_trans hB h3, h4⟩
theorem own_ne {w : World} {B e size n : Nat} {v : Value} {xs : List Value} (h : w.ownsRow B e size v n xs) {row : Option Nat} (hr : ∀ k, row = some k → k < B) : v.ownBlock = none ∨ v.ownBlock ≠ row := by
 cases hv : v.ownBlock with
 | none => exact .inl rfl
 | some g => exact .inr fun he => by have := hr g he.symm; have := (h.lt g hv).1; omega
theorem stO {t x : Nat} {z : Value} {by_ : Nat} (h : XA P t 1) (hx : Inf P x z 1 by_) {B e n : Nat} {v : Value} {xs : List Value} (ho : w.ownsRow B e 1 v n xs) {k : IntKind} {i : Int} (h0 : 0 ≤ i) (h1 : i < n) {u : Value} (hu : oneC u = true) {K' : World → Prop}
  (hk : ∀ w', w'.ownsRow B e 1 v n (xs.set i.toNat u) → w.grownBy w' v.ownBlock → K' w') :
  V P (Instr.indexAt t v (.int k i)) w fun p w1 => U P (Instr.storeAt x p u) w1 fun _ w2 => K' w2 := by
 obtain ⟨e', z', b', ht, hi⟩ := h
 have ho' := ho
 rcases ho.2 with ⟨_, rfl⟩ | ⟨g, cap, cur, rfl, hB, _⟩
 ·omega
 refine V.ok (r_index ht hi h0 h1) ?_
 obtain ⟨s1, s2⟩ := ho'.stored i.toNat u
 have hc := ho'.cellAt i.toNat (by omega)
 have hlt : i.toNat < xs.length := by have := ho'.1; omega
 rw [List.getElem?_eq_getElem hlt] at hc
 simp only [Nat.zero_add, Nat.mul_one]
 exact U.ok (r_store hx hu hc (ho'.frozenAt _)) (hk _ s1 s2)
theorem ldO' {t x : Nat} (h : XA P t 1) (hl : L1 P x) {B e n : Nat} {v : Value} {xs : List Value} (ho : w.ownsRow B e 1 v n xs) {k : IntKind} {i : Int} {u : Value} (h0 : 0 ≤ i) (h1 : i < n) (hu : xs[i.toNat]? = some u) (hk : K u w) :
  V P (Instr.indexAt t v (.int k i)) w fun p w1 => V P (Instr.loadAt x p) w1 K := ldx h hl (SliceIs.of_own ho) h0 h1 hu hk
def Blk (w : World) (g : Nat) (cs : List Value) (e : TypeId) : Prop := w.heap[g]? = some (.cells cs.toArray e (0, 0))
theorem Blk.ext {w w' : World} {g : Nat} {cs : List Value} {e : TypeId} (h : Blk w g cs e) (hx : Ext w w') : Blk w' g cs e := hx.obj h
theorem Blk.lt {w : World} {g : Nat} {cs : List Value} {e : TypeId} (h : Blk w g cs e) : g < w.heap.size := (Array.getElem?_eq_some_iff.1 h).1
theorem Blk.cell {w : World} {g : Nat} {cs : List Value} {e : TypeId} (h : Blk w g cs e) (j : Nat) : w.cell? ⟨g, j, none⟩ = cs[j]? := by
 rw [cell_of_row w g j cs.toArray e (0, 0) h]; simp
theorem Blk.frozen {w : World} {g : Nat} {cs : List Value} {e : TypeId} (h : Blk w g cs e) (j : Nat) : w.frozen? ⟨g, j, none⟩ = false := frozen_of_row w g j cs.toArray e h
theorem Blk.set {w : World} {g : Nat} {cs : List Value} {e : TypeId} (h : Blk w g cs e) (j : Nat) (u : Value) : Blk (w.setCell ⟨g, j, none⟩ u) g (cs.set j u) e := by
 have := heap_setCell_same w g j cs.toArray e u h
 unfold Blk
 rw [this]
 simp
theorem Blk.other {w : World} {g g' j : Nat} {cs : List Value} {e : TypeId} {u : Value} (h : Blk w g cs e) (hne : g ≠ g') : Blk (w.setCell ⟨g', j, none⟩ u) g cs e := by
 unfold Blk
 rw [heap_setCell_other w ⟨g', j, none⟩ g u hne]
 exact h
theorem Blk.slice {w : World} {g n : Nat} {cs : List Value} {e : TypeId} (h : Blk w g cs e) (hn : cs.length = n) (hm : n ≤ maxLen) : SliceIs w (.slice (some ⟨g, 0, none⟩) n n) 1 n cs :=
 ⟨by omega, .inr ⟨g, 0, n, rfl, Nat.le_refl _, hm, fun j u hj => by rw [Nat.zero_add, h.cell]; exact hj⟩⟩
theorem mkB {t e by_ : Nat} {z : Value} (ht : P.underlying t = some (.slice e)) (hi : Inf P e z 1 by_) (hz : z.cells = #[z]) {n : Nat} (hb : by_ * n ≤ 281474976710656) (h63 : n ≤ 9223372036854775807)
  (hk : ∀ w', Blk w' w.heap.size (List.replicate n z) e → Ext w w' → w'.heap.size = w.heap.size + 1 → K (.slice (some ⟨w.heap.size, 0, none⟩) n n) w') : V P (Instr.makeSlice t (i64 n) (i64 n)) w K := by
 obtain ⟨i, hi', hz', hn, hby⟩ := info_parts hi
 have hr := run_make (P := P) w t e i z ht hi' hz' .i64 .i64 n n (by omega) (Int.le_refl _) (by rw [hby, ← Int.natCast_mul]; omega) (by omega)
 simp only [Int.toNat_natCast, hn, hz, Nat.mul_one] at hr
 refine V.ok hr (hk _ ?_ ((Ext.refl w).alloc _) (by simp))
 unfold Blk
 have := heap_alloc_new w (.cells (madeCells #[z] n) e)
 rw [this]
 congr 2
 rw [← toList_madeCells_one z n]
structure BD (P : Program) (t : TypeId) (zs : List Value) : Prop where
 of ::
 ex : ∃ fs b, P.underlying t = some (.struct fs) ∧ Inf P t (.agg zs.toArray) zs.length b ∧ ∀ w : World, (fs.mapM (fun f => do pure (f.offset, ← sizeOf f.type)) : Sem (Array (Nat × Nat))).run P w = .ok ((List.range zs.length).map (fun i => (i, 1))).toArray w
theorem fillB {n : Nat} : ∀ (l : List (Nat × Value)) (cs : List Value), cs.length = n → (l.all fun x => decide (x.1 < n) && oneC x.2) = true →
  Instr.fill ((((List.range n).map (fun i => (i, 1))).toArray)[·]?) cs.toArray l = some (l.foldl (fun cs x => cs.set x.1 x.2) cs).toArray
 | [], cs, _, _ => rfl
 | (i, v) :: l, cs, hl, h => by
  simp only [List.all_cons, Bool.and_eq_true, decide_eq_true_eq] at h
  have hi : ((((List.range n).map (fun i => (i, 1))).toArray)[i]?) = some (i, 1) := by simp [h.1.1]
  have hc := oneC_cells h.1.2
  rw [Instr.fill, hi]
  have hn : ¬ (i + 1 > cs.length) := by omega
  simp only [hc, List.size_toArray, List.length_cons, List.length_nil, Nat.zero_add, ne_eq, not_true_eq_false, decide_false, Bool.false_or, hn, Bool.false_eq_true, if_false]
  have := fillB (n := n) l (cs.set i v) (by simpa using hl) h.2
  simpa using this
theorem bld {t : TypeId} {zs : List Value} (h : BD P t zs) {parts : Array (Nat × Value)} (l : List (Nat × Value)) (hp : parts = l.toArray) (h1 : (l.all fun x => decide (x.1 < zs.length) && oneC x.2) = true)
  (hk : K (.agg (l.foldl (fun cs x => cs.set x.1 x.2) zs).toArray) w) : V P (Instr.build t parts) w K := by
 subst hp
 obtain ⟨fs, b, hu, hi, hm⟩ := h
 refine V.ok ?_ hk
 simp only [Instr.build, Sem.run_bind, run_zero hi, Result.andThen_ok, run_underlying hu, hm, Value.cells]
 rw [fillB l zs rfl h1]
 simp
structure MI (P : Program) (t : TypeId) : Prop where
 of ::
 ex : ∃ d, P.underlying t = some d ∧ notIf d = true
theorem mki {t : TypeId} (h : MI P t) {v : Value} (hk : K (.iface t v) w) : V P (Instr.makeInterface t v) w K := by
 obtain ⟨d, hu, hd⟩ := h
 refine V.ok ?_ hk
 cases d <;> first | (simp [Instr.makeInterface, run_underlying hu]; done) | cases hd
end
end Go.Vc
namespace Go.Proofs.YtcdbikfnlggbnaaGreatDoor
open Tryz
open Go.Vc
theorem inf3 : Inf prog 3 (.int .i64 0) 1 8 := by unfold Inf; kernel_rfl
theorem inf4 : Inf prog 4 (.bool false) 1 1 := by unfold Inf; kernel_rfl
theorem inf5 : Inf prog 5 (.int .u8 0) 1 1 := by unfold Inf; kernel_rfl
theorem inf9 : Inf prog 9 (.string ByteArray.empty) 1 16 := by unfold Inf; kernel_rfl
theorem inf21 : Inf prog 21 (.int .i32 0) 1 4 := by unfold Inf; kernel_rfl
theorem inf22 : Inf prog 22 (.slice none 0 0) 1 24 := by unfold Inf; kernel_rfl
theorem inf23 : Inf prog 23 (.slice none 0 0) 1 24 := by unfold Inf; kernel_rfl
theorem inf24 : Inf prog 24 (.slice none 0 0) 1 24 := by unfold Inf; kernel_rfl
theorem inf25 : Inf prog 25 (.slice none 0 0) 1 24 := by unfold Inf; kernel_rfl
theorem inf27 : Inf prog 27 (.agg #[(.string ByteArray.empty), (.slice none 0 0), (.slice none 0 0), (.slice none 0 0), (.slice none 0 0)]) 5 112 := by unfold Inf; kernel_rfl
theorem inf32 : Inf prog 32 (.agg #[(.int .i64 0), (.int .i64 0)]) 2 16 := by unfold Inf; kernel_rfl
theorem inf36 : Inf prog 36 (.slice none 0 0) 1 24 := by unfold Inf; kernel_rfl
theorem inf38 : Inf prog 38 (.agg #[(.int .i64 0), (.int .i64 0), (.slice none 0 0)]) 3 40 := by unfold Inf; kernel_rfl
theorem inf45 : Inf prog 45 (.slice none 0 0) 1 24 := by unfold Inf; kernel_rfl
theorem inf47 : Inf prog 47 (.agg #[(.slice none 0 0), (.int .i64 0), (.slice none 0 0), (.slice none 0 0)]) 4 80 := by unfold Inf; kernel_rfl
theorem inf49 : Inf prog 49 (.agg #[]) 0 0 := by unfold Inf; kernel_rfl
theorem inf52 : Inf prog 52 .nilIface 1 16 := by unfold Inf; kernel_rfl
theorem inf54 : Inf prog 54 (.slice none 0 0) 1 24 := by unfold Inf; kernel_rfl
theorem inf56 : Inf prog 56 (.agg #[(.int .i64 0), (.int .i64 0), (.slice none 0 0)]) 3 40 := by unfold Inf; kernel_rfl
theorem inf68 : Inf prog 68 (.agg #[(.slice none 0 0), (.int .i64 0)]) 2 32 := by unfold Inf; kernel_rfl
theorem inf71 : Inf prog 71 (.agg #[(.int .i64 0), (.int .i64 0), (.int .i64 0)]) 3 24 := by unfold Inf; kernel_rfl
theorem inf74 : Inf prog 74 (.agg #[(.string ByteArray.empty), (.int .i64 0), (.slice none 0 0), (.int .i64 0)]) 4 56 := by unfold Inf; kernel_rfl
theorem inf77 : Inf prog 77 (.slice none 0 0) 1 24 := by unfold Inf; kernel_rfl
theorem inf78 : Inf prog 78 (.slice none 0 0) 1 24 := by unfold Inf; kernel_rfl
theorem inf84 : Inf prog 84 (.agg #[(.int .i64 0), (.int .i32 0)]) 2 16 := by unfold Inf; kernel_rfl
theorem inf92 : Inf prog 92 (.agg #[(.int .i64 0), (.int .i64 0), (.int .i64 0), (.int .i64 0), (.int .i64 0), (.int .i64 0), (.int .i64 0), (.slice none 0 0)]) 8 80 := by unfold Inf; kernel_rfl
theorem inf98 : Inf prog 98 (.slice none 0 0) 1 24 := by unfold Inf; kernel_rfl
theorem inf105 : Inf prog 105 (.agg #[(.int .i64 0)]) 1 8 := by unfold Inf; kernel_rfl
theorem inf109 : Inf prog 109 (.agg #[(.slice none 0 0), (.slice none 0 0), (.slice none 0 0)]) 3 72 := by unfold Inf; kernel_rfl
theorem inf113 : Inf prog 113 (.agg #[(.int .i64 0), (.int .i64 0), (.int .i64 0), (.int .i64 0)]) 4 32 := by unfold Inf; kernel_rfl
theorem inf118 : Inf prog 118 (.agg #[(.slice none 0 0), (.slice none 0 0), (.int .i64 0), (.slice none 0 0), (.int .i64 0)]) 5 88 := by unfold Inf; kernel_rfl
theorem inf120 : Inf prog 120 (.agg #[(.int .i64 0), (.int .i64 0), (.int .i64 0), (.int .i64 0)]) 4 32 := by unfold Inf; kernel_rfl
theorem inf140 : Inf prog 140 (.agg #[(.int .i64 0), (.int .i64 0)]) 2 16 := by unfold Inf; kernel_rfl
theorem inf142 : Inf prog 142 (.agg #[(.int .i64 0), (.int .i64 0), (.int .i64 0)]) 3 24 := by unfold Inf; kernel_rfl
theorem inf144 : Inf prog 144 (.agg #[(.int .i64 0), (.int .i64 0), (.int .i64 0), (.int .i64 0)]) 4 32 := by unfold Inf; kernel_rfl
theorem inf146 : Inf prog 146 (.agg #[(.int .i64 0)]) 1 8 := by unfold Inf; kernel_rfl
theorem inf148 : Inf prog 148 (.agg #[(.int .i64 0), (.int .i64 0)]) 2 16 := by unfold Inf; kernel_rfl
theorem inf150 : Inf prog 150 (.agg #[(.int .i64 0), (.int .i64 0)]) 2 16 := by unfold Inf; kernel_rfl
theorem inf152 : Inf prog 152 (.agg #[(.int .i64 0), (.int .i64 0)]) 2 16 := by unfold Inf; kernel_rfl
theorem inf155 : Inf prog 155 (.agg #[(.int .i64 0), (.int .i64 0), (.slice none 0 0)]) 3 40 := by unfold Inf; kernel_rfl
theorem inf157 : Inf prog 157 (.agg #[(.int .i64 0), (.int .i64 0), (.slice none 0 0)]) 3 40 := by unfold Inf; kernel_rfl
theorem inf162 : Inf prog 162 (.agg #[(.int .i64 0), (.int .i64 0), (.int .i64 0), (.int .i64 0), (.slice none 0 0)]) 5 56 := by unfold Inf; kernel_rfl
theorem inf178 : Inf prog 178 (.agg #[(.bool false), (.bool false)]) 2 2 := by unfold Inf; kernel_rfl
theorem inf199 : Inf prog 199 (.agg #[(.int .u8 0), (.int .u8 0)]) 2 2 := by unfold Inf; kernel_rfl
theorem r_fd_56_2 {w : World} {b off : Nat} : (Instr.fieldAt 56 (.pointer (some ⟨b, off, none⟩)) 2).run prog w = .ok (.pointer (some ⟨b, off + 2, none⟩)) w := r_field 54 2 underlying56 rfl inf54 rfl
theorem r_ix_78 {w : World} {b off len cap : Nat} {k : IntKind} {i : Int} (h0 : 0 ≤ i) (h1 : i < len) : (Instr.indexAt 78 (.slice (some ⟨b, off, none⟩) len cap) (.int k i)).run prog w = .ok (.pointer (some ⟨b, off + i.toNat * 1, none⟩)) w := r_index underlying78 inf4 h0 h1
theorem r_ix_98 {w : World} {b off len cap : Nat} {k : IntKind} {i : Int} (h0 : 0 ≤ i) (h1 : i < len) : (Instr.indexAt 98 (.slice (some ⟨b, off, none⟩) len cap) (.int k i)).run prog w = .ok (.pointer (some ⟨b, off + i.toNat * 1, none⟩)) w := r_index underlying98 inf78 h0 h1
theorem r_ld_23 {w : World} {a : Addr} {v : Value} (h : w.cell? a = some v) : (Instr.loadAt 23 (.pointer (some a))).run prog w = .ok v w := r_load underlying23 rfl h
theorem r_ld_3 {w : World} {a : Addr} {v : Value} (h : w.cell? a = some v) : (Instr.loadAt 3 (.pointer (some a))).run prog w = .ok v w := r_load underlying3 rfl h
theorem r_ld_5 {w : World} {a : Addr} {v : Value} (h : w.cell? a = some v) : (Instr.loadAt 5 (.pointer (some a))).run prog w = .ok v w := r_load underlying5 rfl h
theorem r_neqb_4 {w : World} {x y : Operand} {a b : Bool} : (do eqGuard .neq 4 x y (.bool a) (.bool b); binOp .neq 4 (.bool a) (.bool b)).run prog w = .ok (.bool (a != b)) w := r_neqBool underlying4
theorem V_cv_21_3 {w : World} {k : IntKind} {n : Int} {K : Value → World → Prop} : V prog (convert 21 3 (.int k n)) w K ↔ K (.int .i64 (IntKind.wrap .i64 n)) w := V.iff (r_convI underlying21 underlying3)
theorem V_eqni_52 {w : World} {x y : Operand} {t : TypeId} {v : Value} {K : Value → World → Prop} : V prog (do eqGuard .eql 52 x y (.iface t v) .nilIface; binOp .eql 52 (.iface t v) .nilIface) w K ↔ K (.bool false) w := V.iff (r_eqNilIface underlying52)
theorem V_ln_23 {w : World} {ty : TypeId} {a : Option Addr} {n c : Nat} {K : Value → World → Prop} : V prog (Builtin.len_ #[23] ty #[.slice a n c]) w K ↔ K (.int .i64 n) w := V.iff (r_len underlying23)
theorem V_ln_36 {w : World} {ty : TypeId} {a : Option Addr} {n c : Nat} {K : Value → World → Prop} : V prog (Builtin.len_ #[36] ty #[.slice a n c]) w K ↔ K (.int .i64 n) w := V.iff (r_len underlying36)
theorem V_ln_78 {w : World} {ty : TypeId} {a : Option Addr} {n c : Nat} {K : Value → World → Prop} : V prog (Builtin.len_ #[78] ty #[.slice a n c]) w K ↔ K (.int .i64 n) w := V.iff (r_len underlying78)
theorem V_ln_98 {w : World} {ty : TypeId} {a : Option Addr} {n c : Nat} {K : Value → World → Prop} : V prog (Builtin.len_ #[98] ty #[.slice a n c]) w K ↔ K (.int .i64 n) w := V.iff (r_len underlying98)
theorem V_neqb_4 {w : World} {x y : Operand} {a b : Bool} {K : Value → World → Prop} : V prog (do eqGuard .neq 4 x y (.bool a) (.bool b); binOp .neq 4 (.bool a) (.bool b)) w K ↔ K (.bool (a != b)) w := V.iff (r_neqBool underlying4)
theorem V_neqni_52 {w : World} {x y : Operand} {t : TypeId} {v : Value} {K : Value → World → Prop} : V prog (do eqGuard .neq 52 x y (.iface t v) .nilIface; binOp .neq 52 (.iface t v) .nilIface) w K ↔ K (.bool true) w := V.iff (r_neqNilIface underlying52)
theorem V_ta_113 {w : World} {x t : TypeId} {v : Value} {K : Value → World → Prop} : V prog (Instr.typeAssert (.iface t v) x 113 true) w K ↔ K (if t = 113 then .tuple #[v, .bool true] else .tuple #[(.agg #[(.int .i64 0), (.int .i64 0), (.int .i64 0), (.int .i64 0)]), .bool false]) w := V.iff (r_ta underlying113 rfl inf113)
theorem V_ta_140 {w : World} {x t : TypeId} {v : Value} {K : Value → World → Prop} : V prog (Instr.typeAssert (.iface t v) x 140 true) w K ↔ K (if t = 140 then .tuple #[v, .bool true] else .tuple #[(.agg #[(.int .i64 0), (.int .i64 0)]), .bool false]) w := V.iff (r_ta underlying140 rfl inf140)
theorem V_ta_142 {w : World} {x t : TypeId} {v : Value} {K : Value → World → Prop} : V prog (Instr.typeAssert (.iface t v) x 142 true) w K ↔ K (if t = 142 then .tuple #[v, .bool true] else .tuple #[(.agg #[(.int .i64 0), (.int .i64 0), (.int .i64 0)]), .bool false]) w := V.iff (r_ta underlying142 rfl inf142)
theorem V_ta_144 {w : World} {x t : TypeId} {v : Value} {K : Value → World → Prop} : V prog (Instr.typeAssert (.iface t v) x 144 true) w K ↔ K (if t = 144 then .tuple #[v, .bool true] else .tuple #[(.agg #[(.int .i64 0), (.int .i64 0), (.int .i64 0), (.int .i64 0)]), .bool false]) w := V.iff (r_ta underlying144 rfl inf144)
theorem V_ta_150 {w : World} {x t : TypeId} {v : Value} {K : Value → World → Prop} : V prog (Instr.typeAssert (.iface t v) x 150 true) w K ↔ K (if t = 150 then .tuple #[v, .bool true] else .tuple #[(.agg #[(.int .i64 0), (.int .i64 0)]), .bool false]) w := V.iff (r_ta underlying150 rfl inf150)
theorem V_ta_84 {w : World} {x t : TypeId} {v : Value} {K : Value → World → Prop} : V prog (Instr.typeAssert (.iface t v) x 84 true) w K ↔ K (if t = 84 then .tuple #[v, .bool true] else .tuple #[(.agg #[(.int .i64 0), (.int .i32 0)]), .bool false]) w := V.iff (r_ta underlying84 rfl inf84)
theorem sa_105 : SA prog 105 1 := ⟨_, _, inf105, by decide⟩
theorem sa_109 : SA prog 109 3 := ⟨_, _, inf109, by decide⟩
theorem sa_113 : SA prog 113 4 := ⟨_, _, inf113, by decide⟩
theorem sa_140 : SA prog 140 2 := ⟨_, _, inf140, by decide⟩
theorem sa_142 : SA prog 142 3 := ⟨_, _, inf142, by decide⟩
theorem sa_144 : SA prog 144 4 := ⟨_, _, inf144, by decide⟩
theorem sa_146 : SA prog 146 1 := ⟨_, _, inf146, by decide⟩
theorem sa_148 : SA prog 148 2 := ⟨_, _, inf148, by decide⟩
theorem sa_150 : SA prog 150 2 := ⟨_, _, inf150, by decide⟩
theorem sa_152 : SA prog 152 2 := ⟨_, _, inf152, by decide⟩
theorem sa_155 : SA prog 155 3 := ⟨_, _, inf155, by decide⟩
theorem sa_157 : SA prog 157 3 := ⟨_, _, inf157, by decide⟩
theorem sa_162 : SA prog 162 5 := ⟨_, _, inf162, by decide⟩
theorem sa_199 : SA prog 199 2 := ⟨_, _, inf199, by decide⟩
theorem sa_27 : SA prog 27 5 := ⟨_, _, inf27, by decide⟩
theorem sa_32 : SA prog 32 2 := ⟨_, _, inf32, by decide⟩
theorem sa_38 : SA prog 38 3 := ⟨_, _, inf38, by decide⟩
theorem sa_47 : SA prog 47 4 := ⟨_, _, inf47, by decide⟩
theorem sa_49 : SA prog 49 0 := ⟨_, _, inf49, by decide⟩
theorem sa_56 : SA prog 56 3 := ⟨_, _, inf56, by decide⟩
theorem sa_68 : SA prog 68 2 := ⟨_, _, inf68, by decide⟩
theorem sa_71 : SA prog 71 3 := ⟨_, _, inf71, by decide⟩
theorem sa_74 : SA prog 74 4 := ⟨_, _, inf74, by decide⟩
theorem sa_78 : SA prog 78 1 := ⟨_, _, inf78, by decide⟩
theorem sa_84 : SA prog 84 2 := ⟨_, _, inf84, by decide⟩
theorem la_109 : ∃ d z by_, Program.underlying prog 109 = some d ∧ aggB d = true ∧ Inf prog 109 z 3 by_ := ⟨_, _, _, underlying109, rfl, inf109⟩
theorem la_120 : ∃ d z by_, Program.underlying prog 120 = some d ∧ aggB d = true ∧ Inf prog 120 z 4 by_ := ⟨_, _, _, underlying120, rfl, inf120⟩
theorem la_146 : ∃ d z by_, Program.underlying prog 146 = some d ∧ aggB d = true ∧ Inf prog 146 z 1 by_ := ⟨_, _, _, underlying146, rfl, inf146⟩
theorem la_148 : ∃ d z by_, Program.underlying prog 148 = some d ∧ aggB d = true ∧ Inf prog 148 z 2 by_ := ⟨_, _, _, underlying148, rfl, inf148⟩
theorem la_199 : ∃ d z by_, Program.underlying prog 199 = some d ∧ aggB d = true ∧ Inf prog 199 z 2 by_ := ⟨_, _, _, underlying199, rfl, inf199⟩
theorem la_27 : ∃ d z by_, Program.underlying prog 27 = some d ∧ aggB d = true ∧ Inf prog 27 z 5 by_ := ⟨_, _, _, underlying27, rfl, inf27⟩
theorem la_38 : ∃ d z by_, Program.underlying prog 38 = some d ∧ aggB d = true ∧ Inf prog 38 z 3 by_ := ⟨_, _, _, underlying38, rfl, inf38⟩
theorem la_47 : ∃ d z by_, Program.underlying prog 47 = some d ∧ aggB d = true ∧ Inf prog 47 z 4 by_ := ⟨_, _, _, underlying47, rfl, inf47⟩
theorem la_56 : ∃ d z by_, Program.underlying prog 56 = some d ∧ aggB d = true ∧ Inf prog 56 z 3 by_ := ⟨_, _, _, underlying56, rfl, inf56⟩
theorem la_68 : ∃ d z by_, Program.underlying prog 68 = some d ∧ aggB d = true ∧ Inf prog 68 z 2 by_ := ⟨_, _, _, underlying68, rfl, inf68⟩
theorem la_71 : ∃ d z by_, Program.underlying prog 71 = some d ∧ aggB d = true ∧ Inf prog 71 z 3 by_ := ⟨_, _, _, underlying71, rfl, inf71⟩
theorem la_74 : ∃ d z by_, Program.underlying prog 74 = some d ∧ aggB d = true ∧ Inf prog 74 z 4 by_ := ⟨_, _, _, underlying74, rfl, inf74⟩
theorem la_92 : ∃ d z by_, Program.underlying prog 92 = some d ∧ aggB d = true ∧ Inf prog 92 z 8 by_ := ⟨_, _, _, underlying92, rfl, inf92⟩
theorem fa_105_0 : FA prog 105 0 0 := ⟨fun _ _ _ => r_field 3 0 underlying105 rfl inf3 rfl⟩
theorem fa_109_0 : FA prog 109 0 0 := ⟨fun _ _ _ => r_field 98 0 underlying109 rfl inf98 rfl⟩
theorem fa_109_1 : FA prog 109 1 1 := ⟨fun _ _ _ => r_field 78 1 underlying109 rfl inf78 rfl⟩
theorem fa_109_2 : FA prog 109 2 2 := ⟨fun _ _ _ => r_field 23 2 underlying109 rfl inf23 rfl⟩
theorem fa_113_0 : FA prog 113 0 0 := ⟨fun _ _ _ => r_field 3 0 underlying113 rfl inf3 rfl⟩
theorem fa_113_1 : FA prog 113 1 1 := ⟨fun _ _ _ => r_field 3 1 underlying113 rfl inf3 rfl⟩
theorem fa_113_2 : FA prog 113 2 2 := ⟨fun _ _ _ => r_field 3 2 underlying113 rfl inf3 rfl⟩
theorem fa_113_3 : FA prog 113 3 3 := ⟨fun _ _ _ => r_field 3 3 underlying113 rfl inf3 rfl⟩
theorem fa_118_0 : FA prog 118 0 0 := ⟨fun _ _ _ => r_field 45 0 underlying118 rfl inf45 rfl⟩
theorem fa_118_1 : FA prog 118 1 1 := ⟨fun _ _ _ => r_field 23 1 underlying118 rfl inf23 rfl⟩
theorem fa_118_2 : FA prog 118 2 2 := ⟨fun _ _ _ => r_field 3 2 underlying118 rfl inf3 rfl⟩
theorem fa_118_3 : FA prog 118 3 3 := ⟨fun _ _ _ => r_field 23 3 underlying118 rfl inf23 rfl⟩
theorem fa_118_4 : FA prog 118 4 4 := ⟨fun _ _ _ => r_field 3 4 underlying118 rfl inf3 rfl⟩
theorem fa_120_0 : FA prog 120 0 0 := ⟨fun _ _ _ => r_field 3 0 underlying120 rfl inf3 rfl⟩
theorem fa_120_1 : FA prog 120 1 1 := ⟨fun _ _ _ => r_field 3 1 underlying120 rfl inf3 rfl⟩
theorem fa_120_2 : FA prog 120 2 2 := ⟨fun _ _ _ => r_field 3 2 underlying120 rfl inf3 rfl⟩
theorem fa_120_3 : FA prog 120 3 3 := ⟨fun _ _ _ => r_field 3 3 underlying120 rfl inf3 rfl⟩
theorem fa_137_0 : FA prog 137 0 0 := ⟨fun _ _ _ => r_field 27 0 underlying137 rfl inf27 rfl⟩
theorem fa_137_1 : FA prog 137 1 5 := ⟨fun _ _ _ => r_field 47 5 underlying137 rfl inf47 rfl⟩
theorem fa_137_2 : FA prog 137 2 9 := ⟨fun _ _ _ => r_field 23 9 underlying137 rfl inf23 rfl⟩
theorem fa_137_3 : FA prog 137 3 10 := ⟨fun _ _ _ => r_field 77 10 underlying137 rfl inf77 rfl⟩
theorem fa_137_4 : FA prog 137 4 11 := ⟨fun _ _ _ => r_field 78 11 underlying137 rfl inf78 rfl⟩
theorem fa_137_5 : FA prog 137 5 12 := ⟨fun _ _ _ => r_field 78 12 underlying137 rfl inf78 rfl⟩
theorem fa_140_0 : FA prog 140 0 0 := ⟨fun _ _ _ => r_field 3 0 underlying140 rfl inf3 rfl⟩
theorem fa_140_1 : FA prog 140 1 1 := ⟨fun _ _ _ => r_field 3 1 underlying140 rfl inf3 rfl⟩
theorem fa_142_0 : FA prog 142 0 0 := ⟨fun _ _ _ => r_field 3 0 underlying142 rfl inf3 rfl⟩
theorem fa_142_1 : FA prog 142 1 1 := ⟨fun _ _ _ => r_field 3 1 underlying142 rfl inf3 rfl⟩
theorem fa_142_2 : FA prog 142 2 2 := ⟨fun _ _ _ => r_field 3 2 underlying142 rfl inf3 rfl⟩
theorem fa_144_0 : FA prog 144 0 0 := ⟨fun _ _ _ => r_field 3 0 underlying144 rfl inf3 rfl⟩
theorem fa_144_1 : FA prog 144 1 1 := ⟨fun _ _ _ => r_field 3 1 underlying144 rfl inf3 rfl⟩
theorem fa_144_2 : FA prog 144 2 2 := ⟨fun _ _ _ => r_field 3 2 underlying144 rfl inf3 rfl⟩
theorem fa_144_3 : FA prog 144 3 3 := ⟨fun _ _ _ => r_field 3 3 underlying144 rfl inf3 rfl⟩
theorem fa_146_0 : FA prog 146 0 0 := ⟨fun _ _ _ => r_field 3 0 underlying146 rfl inf3 rfl⟩
theorem fa_148_0 : FA prog 148 0 0 := ⟨fun _ _ _ => r_field 3 0 underlying148 rfl inf3 rfl⟩
theorem fa_148_1 : FA prog 148 1 1 := ⟨fun _ _ _ => r_field 3 1 underlying148 rfl inf3 rfl⟩
theorem fa_150_0 : FA prog 150 0 0 := ⟨fun _ _ _ => r_field 3 0 underlying150 rfl inf3 rfl⟩
theorem fa_150_1 : FA prog 150 1 1 := ⟨fun _ _ _ => r_field 3 1 underlying150 rfl inf3 rfl⟩
theorem fa_152_0 : FA prog 152 0 0 := ⟨fun _ _ _ => r_field 3 0 underlying152 rfl inf3 rfl⟩
theorem fa_152_1 : FA prog 152 1 1 := ⟨fun _ _ _ => r_field 3 1 underlying152 rfl inf3 rfl⟩
theorem fa_155_0 : FA prog 155 0 0 := ⟨fun _ _ _ => r_field 3 0 underlying155 rfl inf3 rfl⟩
theorem fa_155_1 : FA prog 155 1 1 := ⟨fun _ _ _ => r_field 3 1 underlying155 rfl inf3 rfl⟩
theorem fa_155_2 : FA prog 155 2 2 := ⟨fun _ _ _ => r_field 23 2 underlying155 rfl inf23 rfl⟩
theorem fa_157_0 : FA prog 157 0 0 := ⟨fun _ _ _ => r_field 3 0 underlying157 rfl inf3 rfl⟩
theorem fa_157_1 : FA prog 157 1 1 := ⟨fun _ _ _ => r_field 3 1 underlying157 rfl inf3 rfl⟩
theorem fa_157_2 : FA prog 157 2 2 := ⟨fun _ _ _ => r_field 23 2 underlying157 rfl inf23 rfl⟩
theorem fa_162_0 : FA prog 162 0 0 := ⟨fun _ _ _ => r_field 3 0 underlying162 rfl inf3 rfl⟩
theorem fa_162_1 : FA prog 162 1 1 := ⟨fun _ _ _ => r_field 3 1 underlying162 rfl inf3 rfl⟩
theorem fa_162_2 : FA prog 162 2 2 := ⟨fun _ _ _ => r_field 3 2 underlying162 rfl inf3 rfl⟩
theorem fa_162_3 : FA prog 162 3 3 := ⟨fun _ _ _ => r_field 3 3 underlying162 rfl inf3 rfl⟩
theorem fa_162_4 : FA prog 162 4 4 := ⟨fun _ _ _ => r_field 23 4 underlying162 rfl inf23 rfl⟩
theorem fa_178_0 : FA prog 178 0 0 := ⟨fun _ _ _ => r_field 4 0 underlying178 rfl inf4 rfl⟩
theorem fa_178_1 : FA prog 178 1 1 := ⟨fun _ _ _ => r_field 4 1 underlying178 rfl inf4 rfl⟩
theorem fa_199_0 : FA prog 199 0 0 := ⟨fun _ _ _ => r_field 5 0 underlying199 rfl inf5 rfl⟩
theorem fa_199_1 : FA prog 199 1 1 := ⟨fun _ _ _ => r_field 5 1 underlying199 rfl inf5 rfl⟩
theorem fa_27_0 : FA prog 27 0 0 := ⟨fun _ _ _ => r_field 9 0 underlying27 rfl inf9 rfl⟩
theorem fa_27_1 : FA prog 27 1 1 := ⟨fun _ _ _ => r_field 23 1 underlying27 rfl inf23 rfl⟩
theorem fa_27_2 : FA prog 27 2 2 := ⟨fun _ _ _ => r_field 24 2 underlying27 rfl inf24 rfl⟩
theorem fa_27_3 : FA prog 27 3 3 := ⟨fun _ _ _ => r_field 25 3 underlying27 rfl inf25 rfl⟩
theorem fa_27_4 : FA prog 27 4 4 := ⟨fun _ _ _ => r_field 23 4 underlying27 rfl inf23 rfl⟩
theorem fa_38_0 : FA prog 38 0 0 := ⟨fun _ _ _ => r_field 3 0 underlying38 rfl inf3 rfl⟩
theorem fa_38_1 : FA prog 38 1 1 := ⟨fun _ _ _ => r_field 3 1 underlying38 rfl inf3 rfl⟩
theorem fa_38_2 : FA prog 38 2 2 := ⟨fun _ _ _ => r_field 36 2 underlying38 rfl inf36 rfl⟩
theorem fa_47_0 : FA prog 47 0 0 := ⟨fun _ _ _ => r_field 23 0 underlying47 rfl inf23 rfl⟩
theorem fa_47_1 : FA prog 47 1 1 := ⟨fun _ _ _ => r_field 3 1 underlying47 rfl inf3 rfl⟩
theorem fa_47_2 : FA prog 47 2 2 := ⟨fun _ _ _ => r_field 23 2 underlying47 rfl inf23 rfl⟩
theorem fa_47_3 : FA prog 47 3 3 := ⟨fun _ _ _ => r_field 45 3 underlying47 rfl inf45 rfl⟩
theorem fa_56_0 : FA prog 56 0 0 := ⟨fun _ _ _ => r_field 3 0 underlying56 rfl inf3 rfl⟩
theorem fa_56_1 : FA prog 56 1 1 := ⟨fun _ _ _ => r_field 3 1 underlying56 rfl inf3 rfl⟩
theorem fa_56_2 : FA prog 56 2 2 := ⟨fun _ _ _ => r_field 54 2 underlying56 rfl inf54 rfl⟩
theorem fa_68_0 : FA prog 68 0 0 := ⟨fun _ _ _ => r_field 23 0 underlying68 rfl inf23 rfl⟩
theorem fa_68_1 : FA prog 68 1 1 := ⟨fun _ _ _ => r_field 3 1 underlying68 rfl inf3 rfl⟩
theorem fa_71_0 : FA prog 71 0 0 := ⟨fun _ _ _ => r_field 3 0 underlying71 rfl inf3 rfl⟩
theorem fa_71_1 : FA prog 71 1 1 := ⟨fun _ _ _ => r_field 3 1 underlying71 rfl inf3 rfl⟩
theorem fa_71_2 : FA prog 71 2 2 := ⟨fun _ _ _ => r_field 3 2 underlying71 rfl inf3 rfl⟩
theorem fa_74_0 : FA prog 74 0 0 := ⟨fun _ _ _ => r_field 9 0 underlying74 rfl inf9 rfl⟩
theorem fa_74_1 : FA prog 74 1 1 := ⟨fun _ _ _ => r_field 3 1 underlying74 rfl inf3 rfl⟩
theorem fa_74_2 : FA prog 74 2 2 := ⟨fun _ _ _ => r_field 23 2 underlying74 rfl inf23 rfl⟩
theorem fa_74_3 : FA prog 74 3 3 := ⟨fun _ _ _ => r_field 3 3 underlying74 rfl inf3 rfl⟩
theorem fa_84_0 : FA prog 84 0 0 := ⟨fun _ _ _ => r_field 3 0 underlying84 rfl inf3 rfl⟩
theorem fa_84_1 : FA prog 84 1 1 := ⟨fun _ _ _ => r_field 21 1 underlying84 rfl inf21 rfl⟩
theorem fa_92_0 : FA prog 92 0 0 := ⟨fun _ _ _ => r_field 3 0 underlying92 rfl inf3 rfl⟩
theorem fa_92_1 : FA prog 92 1 1 := ⟨fun _ _ _ => r_field 3 1 underlying92 rfl inf3 rfl⟩
theorem fa_92_6 : FA prog 92 6 6 := ⟨fun _ _ _ => r_field 3 6 underlying92 rfl inf3 rfl⟩
theorem fa_92_7 : FA prog 92 7 7 := ⟨fun _ _ _ => r_field 23 7 underlying92 rfl inf23 rfl⟩
theorem l1_126 : L1 prog 126 := ⟨_, underlying126, rfl⟩
theorem l1_179 : L1 prog 179 := ⟨_, underlying179, rfl⟩
theorem l1_21 : L1 prog 21 := ⟨_, underlying21, rfl⟩
theorem l1_210 : L1 prog 210 := ⟨_, underlying210, rfl⟩
theorem l1_212 : L1 prog 212 := ⟨_, underlying212, rfl⟩
theorem l1_22 : L1 prog 22 := ⟨_, underlying22, rfl⟩
theorem l1_23 : L1 prog 23 := ⟨_, underlying23, rfl⟩
theorem l1_24 : L1 prog 24 := ⟨_, underlying24, rfl⟩
theorem l1_25 : L1 prog 25 := ⟨_, underlying25, rfl⟩
theorem l1_3 : L1 prog 3 := ⟨_, underlying3, rfl⟩
theorem l1_36 : L1 prog 36 := ⟨_, underlying36, rfl⟩
theorem l1_4 : L1 prog 4 := ⟨_, underlying4, rfl⟩
theorem l1_45 : L1 prog 45 := ⟨_, underlying45, rfl⟩
theorem l1_5 : L1 prog 5 := ⟨_, underlying5, rfl⟩
theorem l1_52 : L1 prog 52 := ⟨_, underlying52, rfl⟩
theorem l1_54 : L1 prog 54 := ⟨_, underlying54, rfl⟩
theorem l1_77 : L1 prog 77 := ⟨_, underlying77, rfl⟩
theorem l1_78 : L1 prog 78 := ⟨_, underlying78, rfl⟩
theorem l1_9 : L1 prog 9 := ⟨_, underlying9, rfl⟩
theorem l1_98 : L1 prog 98 := ⟨_, underlying98, rfl⟩
theorem xa_202 : XA prog 202 1 := ⟨_, _, _, underlying202, inf9⟩
theorem xa_22 : XA prog 22 4 := ⟨_, _, _, underlying22, inf120⟩
theorem xa_23 : XA prog 23 1 := ⟨_, _, _, underlying23, inf3⟩
theorem xa_24 : XA prog 24 4 := ⟨_, _, _, underlying24, inf74⟩
theorem xa_25 : XA prog 25 4 := ⟨_, _, _, underlying25, inf47⟩
theorem xa_36 : XA prog 36 1 := ⟨_, _, _, underlying36, inf52⟩
theorem xa_45 : XA prog 45 3 := ⟨_, _, _, underlying45, inf71⟩
theorem xa_54 : XA prog 54 8 := ⟨_, _, _, underlying54, inf92⟩
theorem xa_62 : XA prog 62 5 := ⟨_, _, _, underlying62, inf27⟩
theorem xa_64 : XA prog 64 1 := ⟨_, _, _, underlying64, inf22⟩
theorem xa_77 : XA prog 77 1 := ⟨_, _, _, underlying77, inf23⟩
theorem xa_78 : XA prog 78 1 := ⟨_, _, _, underlying78, inf4⟩
theorem xa_98 : XA prog 98 1 := ⟨_, _, _, underlying98, inf78⟩
theorem xe_202 : XE prog 202 9 16 := ⟨_, underlying202, inf9, rfl⟩
theorem xe_23 : XE prog 23 3 8 := ⟨_, underlying23, inf3, rfl⟩
theorem xe_36 : XE prog 36 52 16 := ⟨_, underlying36, inf52, rfl⟩
theorem xe_64 : XE prog 64 22 24 := ⟨_, underlying64, inf22, rfl⟩
theorem xe_77 : XE prog 77 23 24 := ⟨_, underlying77, inf23, rfl⟩
theorem xe_78 : XE prog 78 4 1 := ⟨_, underlying78, inf4, rfl⟩
theorem ta_105 : TA prog 105 := TA.mk' underlying105 rfl inf105
theorem ta_113 : TA prog 113 := TA.mk' underlying113 rfl inf113
theorem ta_140 : TA prog 140 := TA.mk' underlying140 rfl inf140
theorem ta_142 : TA prog 142 := TA.mk' underlying142 rfl inf142
theorem ta_144 : TA prog 144 := TA.mk' underlying144 rfl inf144
theorem ta_146 : TA prog 146 := TA.mk' underlying146 rfl inf146
theorem ta_148 : TA prog 148 := TA.mk' underlying148 rfl inf148
theorem ta_150 : TA prog 150 := TA.mk' underlying150 rfl inf150
theorem ta_152 : TA prog 152 := TA.mk' underlying152 rfl inf152
theorem ta_155 : TA prog 155 := TA.mk' underlying155 rfl inf155
theorem ta_157 : TA prog 157 := TA.mk' underlying157 rfl inf157
theorem ta_162 : TA prog 162 := TA.mk' underlying162 rfl inf162
theorem ta_49 : TA prog 49 := TA.mk' underlying49 rfl inf49
theorem ta_84 : TA prog 84 := TA.mk' underlying84 rfl inf84
theorem bd_105 : BD prog 105 [(.int .i64 0)] := ⟨_, _, underlying105, inf105, fun w => by kernel_rfl⟩
theorem bd_109 : BD prog 109 [(.slice none 0 0), (.slice none 0 0), (.slice none 0 0)] := ⟨_, _, underlying109, inf109, fun w => by kernel_rfl⟩
theorem bd_113 : BD prog 113 [(.int .i64 0), (.int .i64 0), (.int .i64 0), (.int .i64 0)] := ⟨_, _, underlying113, inf113, fun w => by kernel_rfl⟩
theorem bd_118 : BD prog 118 [(.slice none 0 0), (.slice none 0 0), (.int .i64 0), (.slice none 0 0), (.int .i64 0)] := ⟨_, _, underlying118, inf118, fun w => by kernel_rfl⟩
theorem bd_140 : BD prog 140 [(.int .i64 0), (.int .i64 0)] := ⟨_, _, underlying140, inf140, fun w => by kernel_rfl⟩
theorem bd_142 : BD prog 142 [(.int .i64 0), (.int .i64 0), (.int .i64 0)] := ⟨_, _, underlying142, inf142, fun w => by kernel_rfl⟩
theorem bd_144 : BD prog 144 [(.int .i64 0), (.int .i64 0), (.int .i64 0), (.int .i64 0)] := ⟨_, _, underlying144, inf144, fun w => by kernel_rfl⟩
theorem bd_146 : BD prog 146 [(.int .i64 0)] := ⟨_, _, underlying146, inf146, fun w => by kernel_rfl⟩
theorem bd_148 : BD prog 148 [(.int .i64 0), (.int .i64 0)] := ⟨_, _, underlying148, inf148, fun w => by kernel_rfl⟩
theorem bd_150 : BD prog 150 [(.int .i64 0), (.int .i64 0)] := ⟨_, _, underlying150, inf150, fun w => by kernel_rfl⟩
theorem bd_152 : BD prog 152 [(.int .i64 0), (.int .i64 0)] := ⟨_, _, underlying152, inf152, fun w => by kernel_rfl⟩
theorem bd_155 : BD prog 155 [(.int .i64 0), (.int .i64 0), (.slice none 0 0)] := ⟨_, _, underlying155, inf155, fun w => by kernel_rfl⟩
theorem bd_157 : BD prog 157 [(.int .i64 0), (.int .i64 0), (.slice none 0 0)] := ⟨_, _, underlying157, inf157, fun w => by kernel_rfl⟩
theorem bd_162 : BD prog 162 [(.int .i64 0), (.int .i64 0), (.int .i64 0), (.int .i64 0), (.slice none 0 0)] := ⟨_, _, underlying162, inf162, fun w => by kernel_rfl⟩
theorem bd_178 : BD prog 178 [(.bool false), (.bool false)] := ⟨_, _, underlying178, inf178, fun w => by kernel_rfl⟩
theorem bd_27 : BD prog 27 [(.string ByteArray.empty), (.slice none 0 0), (.slice none 0 0), (.slice none 0 0), (.slice none 0 0)] := ⟨_, _, underlying27, inf27, fun w => by kernel_rfl⟩
theorem bd_32 : BD prog 32 [(.int .i64 0), (.int .i64 0)] := ⟨_, _, underlying32, inf32, fun w => by kernel_rfl⟩
theorem bd_38 : BD prog 38 [(.int .i64 0), (.int .i64 0), (.slice none 0 0)] := ⟨_, _, underlying38, inf38, fun w => by kernel_rfl⟩
theorem bd_47 : BD prog 47 [(.slice none 0 0), (.int .i64 0), (.slice none 0 0), (.slice none 0 0)] := ⟨_, _, underlying47, inf47, fun w => by kernel_rfl⟩
theorem bd_49 : BD prog 49 [] := ⟨_, _, underlying49, inf49, fun w => by kernel_rfl⟩
theorem bd_56 : BD prog 56 [(.int .i64 0), (.int .i64 0), (.slice none 0 0)] := ⟨_, _, underlying56, inf56, fun w => by kernel_rfl⟩
theorem bd_68 : BD prog 68 [(.slice none 0 0), (.int .i64 0)] := ⟨_, _, underlying68, inf68, fun w => by kernel_rfl⟩
theorem bd_71 : BD prog 71 [(.int .i64 0), (.int .i64 0), (.int .i64 0)] := ⟨_, _, underlying71, inf71, fun w => by kernel_rfl⟩
theorem bd_74 : BD prog 74 [(.string ByteArray.empty), (.int .i64 0), (.slice none 0 0), (.int .i64 0)] := ⟨_, _, underlying74, inf74, fun w => by kernel_rfl⟩
theorem bd_84 : BD prog 84 [(.int .i64 0), (.int .i32 0)] := ⟨_, _, underlying84, inf84, fun w => by kernel_rfl⟩
theorem bd_92 : BD prog 92 [(.int .i64 0), (.int .i64 0), (.int .i64 0), (.int .i64 0), (.int .i64 0), (.int .i64 0), (.int .i64 0), (.slice none 0 0)] := ⟨_, _, underlying92, inf92, fun w => by kernel_rfl⟩
theorem mi_105 : MI prog 105 := ⟨_, underlying105, rfl⟩
theorem mi_113 : MI prog 113 := ⟨_, underlying113, rfl⟩
theorem mi_140 : MI prog 140 := ⟨_, underlying140, rfl⟩
theorem mi_142 : MI prog 142 := ⟨_, underlying142, rfl⟩
theorem mi_144 : MI prog 144 := ⟨_, underlying144, rfl⟩
theorem mi_146 : MI prog 146 := ⟨_, underlying146, rfl⟩
theorem mi_148 : MI prog 148 := ⟨_, underlying148, rfl⟩
theorem mi_150 : MI prog 150 := ⟨_, underlying150, rfl⟩
theorem mi_152 : MI prog 152 := ⟨_, underlying152, rfl⟩
theorem mi_155 : MI prog 155 := ⟨_, underlying155, rfl⟩
theorem mi_157 : MI prog 157 := ⟨_, underlying157, rfl⟩
theorem mi_162 : MI prog 162 := ⟨_, underlying162, rfl⟩
theorem mi_49 : MI prog 49 := ⟨_, underlying49, rfl⟩
theorem mi_84 : MI prog 84 := ⟨_, underlying84, rfl⟩
end Go.Proofs.YtcdbikfnlggbnaaGreatDoor
