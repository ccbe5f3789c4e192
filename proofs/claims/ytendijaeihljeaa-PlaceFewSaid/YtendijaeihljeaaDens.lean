/- Each function's body, opened into a plain condition by program (vcgen.py); the kernel holds the one against the other. -/
import Derived.Test.YtendijaeihljeaaLaws
import Derived.Test.YtendijaeihljeaaProg
import Derived.KernelRfl
namespace Go.Proofs.Ytendijaeihljeaa
open Go.Vc
theorem mixed : Try.prog.follows .mixedOrders = true := by kernel_rfl
/-- taciturn/taciturnlaw20.PlaceFew -/
def F3_ann : Ann := (Ann.seq Ann.leaf (Ann.seq Ann.leaf (Ann.seq Ann.leaf (Ann.seq Ann.leaf (Ann.seq (Ann.seq Ann.leaf (Ann.block (Ann.loop [4, 5, 6, 16, 17, 18, 19, 20, 21, 22, 23, 24, 25, 26, 27, 28, 29, 30, 31, 32, 33, 34, 35, 36, 37, 38, 39, 40, 41, 42, 43, 44, 45, 46, 47, 48, 49, 50, 51, 52, 53, 54, 55, 56, 57, 58, 59, 60, 61, 62, 63, 64, 65, 66, 67, 68, 69, 70, 71, 72, 73, 74, 75, 76, 77, 78, 79, 80, 81, 82, 83, 84, 85, 86, 87, 88] [4, 5] (Ann.seq (Ann.seq Ann.leaf (Ann.cond Ann.leaf Ann.leaf)) (Ann.seq (Ann.block (Ann.seq Ann.leaf (Ann.seq (Ann.seq Ann.leaf (Ann.block (Ann.seq Ann.leaf (Ann.cond (Ann.seq Ann.leaf Ann.leaf) (Ann.seq Ann.leaf (Ann.cond (Ann.seq Ann.leaf Ann.leaf) (Ann.seq Ann.leaf Ann.leaf))))))) Ann.leaf))) Ann.leaf))))) (Ann.seq Ann.leaf (Ann.seq Ann.leaf (Ann.seq Ann.leaf Ann.leaf))))))))
def F3_den (t0 : Value) (w : World) (R : Value → World → Prop) : Prop :=
  V Try.prog (Instr.build 25 #[(1, (Value.int IntKind.i64 1))]) w fun t8 w1 =>
  V Try.prog (Instr.alloc 25 true (.tuple #[])) w1 fun t3 w2 =>
  U Try.prog (Instr.storeAt 25 t3 t8) w2 fun _ w3 =>
  V Try.prog (Instr.fieldAt 25 t3 2) w3 fun t9 w4 =>
  V Try.prog (Instr.loadAt 23 t9) w4 fun t10 w5 =>
  V Try.prog (Instr.build 27 #[(0, (Value.int IntKind.i64 0)), (1, (Value.int IntKind.i32 3))]) w5 fun t11 w6 =>
  V Try.prog (Instr.makeInterface 27 t11) w6 fun t12 w7 =>
  V Try.prog (Instr.buildSlice 23 1 #[(0, t12)]) w7 fun t13 w8 =>
  V Try.prog (Builtin.append_ #[23, 23] 23 #[t10, t13]) w8 fun t14 w9 =>
  V Try.prog (Instr.fieldAt 25 t3 2) w9 fun t15 w10 =>
  U Try.prog (Instr.storeAt 23 t15 t14) w10 fun _ w11 =>
  ∃ (I1 : NP 2) (μ1 : NF 2), I1 (Value.int IntKind.i64 0) (Value.int IntKind.i64 0) w11 ∧
  ∀ (t4 : Value) (t5 : Value), ∀ w12 : World, I1 t4 t5 w12 → ∀ _f : Env,
  V Try.prog (Builtin.len_ #[22] 3 #[t0]) w12 fun t18 w13 =>
  V Try.prog (binOp .lss 3 t5 t18) w13 fun t19 w14 =>
  gd t19 true (fun K => V Try.prog (Instr.fieldAt 25 t3 1) w14 K) w14 fun t21 w15 =>
  gd t19 true (fun K => V Try.prog (Instr.loadAt 3 t21) w15 K) w15 fun t22 w16 =>
  gd t19 true (fun K => V Try.prog (binOp .lss 3 t22 (Value.int IntKind.i64 36)) w16 K) w16 fun t23 w17 =>
  pickD t19 t23 (Value.bool false) fun t24 =>
  ifD t24 (
  V Try.prog (Instr.fieldAt 25 t3 1) w17 fun t27 w19 =>
  V Try.prog (Instr.loadAt 3 t27) w19 fun t28 w20 =>
  V Try.prog (Instr.indexAt 22 t0 t5) w20 fun t31 w21 =>
  V Try.prog (Instr.loadAt 3 t31) w21 fun t32 w22 =>
  callD Try.prog 4 #[t32, (Value.int IntKind.i64 4)] w22 fun t33 w23 =>
  V Try.prog (do eqGuard .eql 3 (Operand.tmp 33) (Operand.const (Value.int IntKind.i64 0)) t33 (Value.int IntKind.i64 0); binOp .eql 3 t33 (Value.int IntKind.i64 0)) w23 fun t55 w24 =>
  ifD t55 (
  V Try.prog (Instr.fieldAt 25 t3 2) w24 fun t56 w25 =>
  V Try.prog (Instr.loadAt 23 t56) w25 fun t57 w26 =>
  V Try.prog (Instr.build 30 #[(0, (Value.int IntKind.i64 15)), (1, t28), (2, t4)]) w26 fun t60 w27 =>
  V Try.prog (Instr.makeInterface 30 t60) w27 fun t61 w28 =>
  V Try.prog (Instr.buildSlice 23 1 #[(0, t61)]) w28 fun t62 w29 =>
  V Try.prog (Builtin.append_ #[23, 23] 23 #[t57, t62]) w29 fun t63 w30 =>
  V Try.prog (Instr.fieldAt 25 t3 2) w30 fun t64 w31 =>
  U Try.prog (Instr.storeAt 23 t64 t63) w31 fun _ w32 =>
  V Try.prog (Instr.fieldAt 25 t3 1) w32 fun t65 w33 =>
  V Try.prog (Instr.loadAt 3 t65) w33 fun t66 w34 =>
  V Try.prog (binOp .add 3 t66 (Value.int IntKind.i64 1)) w34 fun t67 w35 =>
  V Try.prog (Instr.fieldAt 25 t3 1) w35 fun t68 w36 =>
  U Try.prog (Instr.storeAt 3 t68 t67) w36 fun _ w37 =>
  V Try.prog (Instr.fieldAt 25 t3 1) w37 fun t86 w38 =>
  V Try.prog (Instr.loadAt 3 t86) w38 fun t87 w39 =>
  V Try.prog (binOp .sub 3 t87 (Value.int IntKind.i64 1)) w39 fun t88 w40 =>
  V Try.prog (binOp .add 3 t5 (Value.int IntKind.i64 1)) w40 fun t26 w41 =>
  I1 t88 t26 w41 ∧ μ1 t88 t26 w41 < μ1 t4 t5 w12) (
  V Try.prog (do eqGuard .eql 3 (Operand.tmp 33) (Operand.const (Value.int IntKind.i64 1)) t33 (Value.int IntKind.i64 1); binOp .eql 3 t33 (Value.int IntKind.i64 1)) w24 fun t70 w42 =>
  ifD t70 (
  V Try.prog (Instr.fieldAt 25 t3 2) w42 fun t71 w43 =>
  V Try.prog (Instr.loadAt 23 t71) w43 fun t72 w44 =>
  V Try.prog (Instr.build 32 #[]) w44 fun t73 w45 =>
  V Try.prog (Instr.makeInterface 32 t73) w45 fun t74 w46 =>
  V Try.prog (Instr.build 34 #[(0, t28), (1, t4)]) w46 fun t77 w47 =>
  V Try.prog (Instr.makeInterface 34 t77) w47 fun t78 w48 =>
  V Try.prog (Instr.buildSlice 23 2 #[(0, t74), (1, t78)]) w48 fun t79 w49 =>
  V Try.prog (Builtin.append_ #[23, 23] 23 #[t72, t79]) w49 fun t80 w50 =>
  V Try.prog (Instr.fieldAt 25 t3 2) w50 fun t81 w51 =>
  U Try.prog (Instr.storeAt 23 t81 t80) w51 fun _ w52 =>
  V Try.prog (Instr.fieldAt 25 t3 1) w52 fun t82 w53 =>
  V Try.prog (Instr.loadAt 3 t82) w53 fun t83 w54 =>
  V Try.prog (binOp .add 3 t83 (Value.int IntKind.i64 1)) w54 fun t84 w55 =>
  V Try.prog (Instr.fieldAt 25 t3 1) w55 fun t85 w56 =>
  U Try.prog (Instr.storeAt 3 t85 t84) w56 fun _ w57 =>
  V Try.prog (Instr.fieldAt 25 t3 1) w57 fun t86_1 w58 =>
  V Try.prog (Instr.loadAt 3 t86_1) w58 fun t87_1 w59 =>
  V Try.prog (binOp .sub 3 t87_1 (Value.int IntKind.i64 1)) w59 fun t88_1 w60 =>
  V Try.prog (binOp .add 3 t5 (Value.int IntKind.i64 1)) w60 fun t26_1 w61 =>
  I1 t88_1 t26_1 w61 ∧ μ1 t88_1 t26_1 w61 < μ1 t4 t5 w12) (
  V Try.prog (Instr.fieldAt 25 t3 2) w42 fun t34 w62 =>
  V Try.prog (Instr.loadAt 23 t34) w62 fun t35 w63 =>
  V Try.prog (convert 3 21 t5) w63 fun t38 w64 =>
  V Try.prog (Instr.build 27 #[(0, t28), (1, t38)]) w64 fun t39 w65 =>
  V Try.prog (Instr.makeInterface 27 t39) w65 fun t40 w66 =>
  V Try.prog (binOp .add 3 t28 (Value.int IntKind.i64 1)) w66 fun t42 w67 =>
  V Try.prog (Instr.build 36 #[(0, (Value.int IntKind.i64 6)), (1, t42), (2, t28), (3, t4)]) w67 fun t45 w68 =>
  V Try.prog (Instr.makeInterface 36 t45) w68 fun t46 w69 =>
  V Try.prog (Instr.buildSlice 23 2 #[(0, t40), (1, t46)]) w69 fun t47 w70 =>
  V Try.prog (Builtin.append_ #[23, 23] 23 #[t35, t47]) w70 fun t48 w71 =>
  V Try.prog (Instr.fieldAt 25 t3 2) w71 fun t49 w72 =>
  U Try.prog (Instr.storeAt 23 t49 t48) w72 fun _ w73 =>
  V Try.prog (Instr.fieldAt 25 t3 1) w73 fun t50 w74 =>
  V Try.prog (Instr.loadAt 3 t50) w74 fun t51 w75 =>
  V Try.prog (binOp .add 3 t51 (Value.int IntKind.i64 2)) w75 fun t52 w76 =>
  V Try.prog (Instr.fieldAt 25 t3 1) w76 fun t53 w77 =>
  U Try.prog (Instr.storeAt 3 t53 t52) w77 fun _ w78 =>
  V Try.prog (Instr.fieldAt 25 t3 1) w78 fun t86_2 w79 =>
  V Try.prog (Instr.loadAt 3 t86_2) w79 fun t87_2 w80 =>
  V Try.prog (binOp .sub 3 t87_2 (Value.int IntKind.i64 1)) w80 fun t88_2 w81 =>
  V Try.prog (binOp .add 3 t5 (Value.int IntKind.i64 1)) w81 fun t26_2 w82 =>
  I1 t88_2 t26_2 w82 ∧ μ1 t88_2 t26_2 w82 < μ1 t4 t5 w12))) (
  V Try.prog (Instr.fieldAt 25 t3 2) w17 fun t89 w83 =>
  V Try.prog (Instr.loadAt 23 t89) w83 fun t90 w84 =>
  V Try.prog (Instr.build 38 #[(0, t4)]) w84 fun t92 w85 =>
  V Try.prog (Instr.makeInterface 38 t92) w85 fun t93 w86 =>
  V Try.prog (Instr.buildSlice 23 1 #[(0, t93)]) w86 fun t94 w87 =>
  V Try.prog (Builtin.append_ #[23, 23] 23 #[t90, t94]) w87 fun t95 w88 =>
  V Try.prog (Instr.fieldAt 25 t3 2) w88 fun t96 w89 =>
  U Try.prog (Instr.storeAt 23 t96 t95) w89 fun _ w90 =>
  V Try.prog (Instr.loadAt 25 t3) w90 fun t97 w91 =>
  callD Try.prog 5 #[t97] w91 fun t98 w92 =>
  V Try.prog (Instr.alloc 40 true (.tuple #[])) w92 fun t7 w93 =>
  U Try.prog (Instr.storeAt 40 t7 t98) w93 fun _ w94 =>
  callD Try.prog 6 #[] w94 fun t99 w95 =>
  gd t99 true (fun K => V Try.prog (Instr.loadAt 25 t3) w95 K) w95 fun t101 w96 =>
  gd t99 true (fun K => callD Try.prog 7 #[t101] w96 K) w96 fun t102 w97 =>
  pickD t99 t102 (Value.bool false) fun t103 =>
  gd t103 true (fun K => V Try.prog (Instr.fieldAt 40 t7 1) w97 K) w97 fun t105 w99 =>
  gd t103 true (fun K => V Try.prog (Instr.loadAt 3 t105) w99 K) w99 fun t106 w100 =>
  gd t103 true (fun K => V Try.prog (do eqGuard .eql 3 (Operand.tmp 106) (Operand.const (Value.int IntKind.i64 0)) t106 (Value.int IntKind.i64 0); binOp .eql 3 t106 (Value.int IntKind.i64 0)) w100 K) w100 fun t107 w101 =>
  pickD t103 t107 (Value.bool false) fun t108 =>
  gd t108 true (fun K => V Try.prog (Instr.loadAt 25 t3) w101 K) w101 fun t110 w103 =>
  gd t108 true (fun K => V Try.prog (Instr.loadAt 40 t7) w103 K) w103 fun t111 w104 =>
  gd t108 true (fun K => callD Try.prog 8 #[t110, t111] w104 K) w104 fun t112 w105 =>
  pickD t108 t112 (Value.bool false) fun t113 =>
  R t113 w105)
theorem F3_eq (t0 : Value) (w : World) (R : Value → World → Prop) : F3_den t0 w R = vc Try.prog F3_ann (Try.f3.body.getD .skip) (retE Try.prog Try.f3.results.toList R) (argEnv [t0]) w := by kernel_rfl
theorem F3_wp {t0 : Value} {w : World} {R : Value → World → Prop} (h : F3_den t0 w R) : callD Try.prog 3 #[t0] w R :=
  callD.of_calls (fn := Try.f3) (c := Try.f3.body.getD .skip) Try.func3 (by kernel_rfl) (by kernel_rfl) (calls_of_vc (args := [t0]) F3_ann mixed Try.func3 (by kernel_rfl) (by kernel_rfl) (F3_eq t0 w R ▸ h))

/-- taciturn/taciturnhand.Pick -/
def F4_ann : Ann := (Ann.seq Ann.leaf (Ann.seq Ann.leaf (Ann.seq (Ann.seq Ann.leaf (Ann.cond Ann.leaf Ann.leaf)) (Ann.seq Ann.leaf Ann.leaf))))
def F4_den (t0 : Value) (t1 : Value) (w : World) (R : Value → World → Prop) : Prop :=
  V Try.prog (binOp .rem 3 t0 t1) w fun t7 w1 =>
  V Try.prog (binOp .lss 3 t7 (Value.int IntKind.i64 0)) w1 fun t9 w2 =>
  ifD t9 (
  V Try.prog (binOp .add 3 t7 t1) w2 fun t12 w3 =>
  R t12 w3) (
  R t7 w2)
theorem F4_eq (t0 : Value) (t1 : Value) (w : World) (R : Value → World → Prop) : F4_den t0 t1 w R = vc Try.prog F4_ann (Try.f4.body.getD .skip) (retE Try.prog Try.f4.results.toList R) (argEnv [t0, t1]) w := by kernel_rfl
theorem F4_wp {t0 : Value} {t1 : Value} {w : World} {R : Value → World → Prop} (h : F4_den t0 t1 w R) : callD Try.prog 4 #[t0, t1] w R :=
  callD.of_calls (fn := Try.f4) (c := Try.f4.body.getD .skip) Try.func4 (by kernel_rfl) (by kernel_rfl) (calls_of_vc (args := [t0, t1]) F4_ann mixed Try.func4 (by kernel_rfl) (by kernel_rfl) (F4_eq t0 t1 w R ▸ h))

/-- taciturn/place.Allocate -/
def F5_ann : Ann := (Ann.seq Ann.leaf (Ann.seq (Ann.seq Ann.leaf (Ann.cond (Ann.seq Ann.leaf Ann.leaf) Ann.leaf)) (Ann.seq Ann.leaf (Ann.seq Ann.leaf (Ann.seq (Ann.seq Ann.leaf (Ann.block (Ann.loop [6, 7, 21, 22, 23, 24, 25, 26, 27, 28, 29, 30, 31, 32, 33, 34, 35, 36, 37, 38, 39, 40, 41, 42, 43, 44, 45, 46, 47, 48] [21] (Ann.seq Ann.leaf (Ann.seq (Ann.cond Ann.leaf Ann.leaf) (Ann.seq (Ann.block (Ann.seq Ann.leaf (Ann.seq Ann.leaf (Ann.seq (Ann.block (Ann.loop [7, 25, 26, 27, 28, 29, 30, 31, 32, 33, 34, 35] [7] (Ann.seq (Ann.seq Ann.leaf (Ann.cond Ann.leaf Ann.leaf)) (Ann.block (Ann.seq Ann.leaf (Ann.seq Ann.leaf (Ann.cond Ann.leaf Ann.leaf))))))) (Ann.seq Ann.leaf Ann.leaf))))) Ann.leaf)))))) (Ann.seq Ann.leaf Ann.leaf))))))
def F5_den (t0 : Value) (w : World) (R : Value → World → Prop) : Prop :=
  V Try.prog (Instr.box 25 t0) w fun t1 w1 =>
  V Try.prog (Instr.alloc 40 true (.tuple #[])) w1 fun t2 w2 =>
  V Try.prog (Instr.loadAt 25 t1) w2 fun t8 w3 =>
  callD Try.prog 7 #[t8] w3 fun t9 w4 =>
  V Try.prog (Op.unary UnOp.not t9) w4 fun t10 w5 =>
  ifD t10 (
  V Try.prog (Instr.build 40 #[]) w5 fun t11 w6 =>
  U Try.prog (Instr.storeAt 40 t2 t11) w6 fun _ w7 =>
  ∃ r1, (loadVar 40 (match t2 with | .pointer (some p) => p | _ => ⟨0, 0, none⟩)).run Try.prog w7 = .ok r1 w7 ∧ (∃ p, t2 = Value.pointer (some p)) ∧ R r1 w7) (
  V Try.prog (Instr.loadAt 25 t1) w5 fun t12 w8 =>
  callD Try.prog 9 #[t12] w8 fun t13 w9 =>
  V Try.prog (Instr.alloc 49 true (.tuple #[])) w9 fun t3 w10 =>
  U Try.prog (Instr.storeAt 49 t3 t13) w10 fun _ w11 =>
  V Try.prog (Instr.fieldAt 25 t1 1) w11 fun t14 w12 =>
  V Try.prog (Instr.loadAt 3 t14) w12 fun t15 w13 =>
  V Try.prog (Instr.makeSlice 22 t15 t15) w13 fun t16 w14 =>
  V Try.prog (Instr.build 40 #[(0, t16)]) w14 fun t17 w15 =>
  V Try.prog (Instr.alloc 40 true (.tuple #[])) w15 fun t4 w16 =>
  U Try.prog (Instr.storeAt 40 t4 t17) w16 fun _ w17 =>
  V Try.prog (Instr.fieldAt 49 t3 2) w17 fun t18 w18 =>
  V Try.prog (Instr.loadAt 22 t18) w18 fun t19 w19 =>
  V Try.prog (Builtin.len_ #[22] 3 #[t19]) w19 fun t20 w20 =>
  ∃ (I1 : NP 1) (μ1 : NF 1), I1 (Value.int IntKind.i64 0) w20 ∧
  ∀ (t21 : Value), ∀ w21 : World, I1 t21 w21 → ∀ _f : Env,
  V Try.prog (binOp .lss 3 t21 t20) w21 fun t22 w22 =>
  ifD t22 (
  V Try.prog (Instr.indexAt 22 t19 t21) w22 fun t23 w23 =>
  V Try.prog (Instr.loadAt 3 t23) w23 fun t24 w24 =>
  ∃ (I2 : NP 1) (μ2 : NF 1), I2 (Value.int IntKind.i64 5) w24 ∧
  ∀ (t7 : Value), ∀ w25 : World, I2 t7 w25 → ∀ _f : Env,
  V Try.prog (Instr.loadAt 49 t3) w25 fun t25 w26 =>
  V Try.prog (Instr.fieldAt 40 t4 0) w26 fun t28 w27 =>
  V Try.prog (Instr.loadAt 22 t28) w27 fun t29 w28 =>
  callD Try.prog 10 #[t25, t24, t7, t29] w28 fun t30 w29 =>
  V Try.prog (Op.unary UnOp.not t30) w29 fun t31 w30 =>
  ifD t31 (
  V Try.prog (binOp .add 3 t7 (Value.int IntKind.i64 1)) w30 fun t33 w31 =>
  V Try.prog (do eqGuard .eql 3 (Operand.tmp 34) (Operand.const (Value.int IntKind.i64 7)) t33 (Value.int IntKind.i64 7); binOp .eql 3 t33 (Value.int IntKind.i64 7)) w31 fun t35 w32 =>
  ifD t35 (
  I2 (Value.int IntKind.i64 16) w32 ∧ μ2 (Value.int IntKind.i64 16) w32 < μ2 t7 w25) (
  I2 t33 w32 ∧ μ2 t33 w32 < μ2 t7 w25)) (
  V Try.prog (Instr.fieldAt 40 t4 0) w30 fun t36 w33 =>
  V Try.prog (Instr.loadAt 22 t36) w33 fun t37 w34 =>
  V Try.prog (Instr.indexAt 22 t37 t24) w34 fun t40 w35 =>
  U Try.prog (Instr.storeAt 3 t40 t7) w35 fun _ w36 =>
  V Try.prog (Instr.fieldAt 40 t4 1) w36 fun t41 w37 =>
  V Try.prog (Instr.loadAt 3 t41) w37 fun t42 w38 =>
  V Try.prog (binOp .sub 3 t7 (Value.int IntKind.i64 16)) w38 fun t44 w39 =>
  V Try.prog (binOp .add 3 t44 (Value.int IntKind.i64 1)) w39 fun t45 w40 =>
  V Try.prog (Builtin.max_ #[3, 3] 3 #[t42, t45]) w40 fun t46 w41 =>
  V Try.prog (Instr.fieldAt 40 t4 1) w41 fun t47 w42 =>
  U Try.prog (Instr.storeAt 3 t47 t46) w42 fun _ w43 =>
  V Try.prog (binOp .add 3 t21 (Value.int IntKind.i64 1)) w43 fun t48 w44 =>
  I1 t48 w44 ∧ μ1 t48 w44 < μ1 t21 w21)) (
  V Try.prog (Instr.loadAt 40 t4) w22 fun t49 w45 =>
  U Try.prog (Instr.storeAt 40 t2 t49) w45 fun _ w46 =>
  ∃ r1, (loadVar 40 (match t2 with | .pointer (some p) => p | _ => ⟨0, 0, none⟩)).run Try.prog w46 = .ok r1 w46 ∧ (∃ p, t2 = Value.pointer (some p)) ∧ R r1 w46))
theorem F5_eq (t0 : Value) (w : World) (R : Value → World → Prop) : F5_den t0 w R = vc Try.prog F5_ann (Try.f5.body.getD .skip) (retE Try.prog Try.f5.results.toList R) (argEnv [t0]) w := by kernel_rfl
theorem F5_wp {t0 : Value} {w : World} {R : Value → World → Prop} (h : F5_den t0 w R) : callD Try.prog 5 #[t0] w R :=
  callD.of_calls (fn := Try.f5) (c := Try.f5.body.getD .skip) Try.func5 (by kernel_rfl) (by kernel_rfl) (calls_of_vc (args := [t0]) F5_ann mixed Try.func5 (by kernel_rfl) (by kernel_rfl) (F5_eq t0 w R ▸ h))

/-- taciturn/taciturnlaw20.known -/
def F6_ann : Ann := (Ann.seq Ann.leaf (Ann.seq Ann.leaf (Ann.seq Ann.leaf (Ann.seq Ann.leaf Ann.leaf))))
def F6_den (w : World) (R : Value → World → Prop) : Prop :=
  V Try.prog (Instr.build 27 #[(0, (Value.int IntKind.i64 0)), (1, (Value.int IntKind.i32 1))]) w fun t3 w1 =>
  V Try.prog (Instr.makeInterface 27 t3) w1 fun t4 w2 =>
  V Try.prog (Instr.build 27 #[(0, (Value.int IntKind.i64 1)), (1, (Value.int IntKind.i32 2))]) w2 fun t5 w3 =>
  V Try.prog (Instr.makeInterface 27 t5) w3 fun t6 w4 =>
  V Try.prog (Instr.build 36 #[(0, (Value.int IntKind.i64 6)), (1, (Value.int IntKind.i64 2)), (2, (Value.int IntKind.i64 0)), (3, (Value.int IntKind.i64 1))]) w4 fun t7 w5 =>
  V Try.prog (Instr.makeInterface 36 t7) w5 fun t8 w6 =>
  V Try.prog (Instr.build 38 #[(0, (Value.int IntKind.i64 2))]) w6 fun t9 w7 =>
  V Try.prog (Instr.makeInterface 38 t9) w7 fun t10 w8 =>
  V Try.prog (Instr.buildSlice 23 4 #[(0, t4), (1, t6), (2, t8), (3, t10)]) w8 fun t11 w9 =>
  V Try.prog (Instr.build 25 #[(1, (Value.int IntKind.i64 3)), (2, t11)]) w9 fun t12 w10 =>
  V Try.prog (Instr.alloc 25 true (.tuple #[])) w10 fun t1 w11 =>
  U Try.prog (Instr.storeAt 25 t1 t12) w11 fun _ w12 =>
  V Try.prog (Instr.loadAt 25 t1) w12 fun t13 w13 =>
  callD Try.prog 5 #[t13] w13 fun t14 w14 =>
  V Try.prog (Instr.alloc 40 true (.tuple #[])) w14 fun t2 w15 =>
  U Try.prog (Instr.storeAt 40 t2 t14) w15 fun _ w16 =>
  V Try.prog (Instr.fieldAt 40 t2 0) w16 fun t15 w17 =>
  V Try.prog (Instr.loadAt 22 t15) w17 fun t16 w18 =>
  V Try.prog (Builtin.len_ #[22] 3 #[t16]) w18 fun t17 w19 =>
  V Try.prog (do eqGuard .eql 3 (Operand.tmp 17) (Operand.const (Value.int IntKind.i64 3)) t17 (Value.int IntKind.i64 3); binOp .eql 3 t17 (Value.int IntKind.i64 3)) w19 fun t18 w20 =>
  gd t18 true (fun K => V Try.prog (Instr.fieldAt 40 t2 1) w20 K) w20 fun t20 w21 =>
  gd t18 true (fun K => V Try.prog (Instr.loadAt 3 t20) w21 K) w21 fun t21 w22 =>
  gd t18 true (fun K => V Try.prog (do eqGuard .eql 3 (Operand.tmp 21) (Operand.const (Value.int IntKind.i64 0)) t21 (Value.int IntKind.i64 0); binOp .eql 3 t21 (Value.int IntKind.i64 0)) w22 K) w22 fun t22 w23 =>
  pickD t18 t22 (Value.bool false) fun t23 =>
  gd t23 true (fun K => V Try.prog (Instr.loadAt 25 t1) w23 K) w23 fun t25 w25 =>
  gd t23 true (fun K => V Try.prog (Instr.loadAt 40 t2) w25 K) w25 fun t26 w26 =>
  gd t23 true (fun K => callD Try.prog 8 #[t25, t26] w26 K) w26 fun t27 w27 =>
  pickD t23 t27 (Value.bool false) fun t28 =>
  gd t28 true (fun K => V Try.prog (Instr.loadAt 25 t1) w27 K) w27 fun t30 w29 =>
  gd t28 true (fun K => V Try.prog (Instr.buildSlice 22 3 #[(0, (Value.int IntKind.i64 5)), (1, (Value.int IntKind.i64 5)), (2, (Value.int IntKind.i64 6))]) w29 K) w29 fun t31 w30 =>
  gd t28 true (fun K => V Try.prog (Instr.build 40 #[(0, t31)]) w30 K) w30 fun t32 w31 =>
  gd t28 true (fun K => callD Try.prog 8 #[t30, t32] w31 K) w31 fun t33 w32 =>
  gd t28 true (fun K => V Try.prog (Op.unary UnOp.not t33) w32 K) w32 fun t34 w33 =>
  pickD t28 t34 (Value.bool false) fun t35 =>
  R t35 w33
theorem F6_eq (w : World) (R : Value → World → Prop) : F6_den w R = vc Try.prog F6_ann (Try.f6.body.getD .skip) (retE Try.prog Try.f6.results.toList R) (argEnv []) w := by kernel_rfl
theorem F6_wp {w : World} {R : Value → World → Prop} (h : F6_den w R) : callD Try.prog 6 #[] w R :=
  callD.of_calls (fn := Try.f6) (c := Try.f6.body.getD .skip) Try.func6 (by kernel_rfl) (by kernel_rfl) (calls_of_vc (args := []) F6_ann mixed Try.func6 (by kernel_rfl) (by kernel_rfl) (F6_eq w R ▸ h))

/-- taciturn/ir.Check -/
def F7_ann : Ann := (Ann.seq Ann.leaf (Ann.seq (Ann.seq Ann.leaf (Ann.cond (Ann.seq Ann.leaf Ann.leaf) Ann.leaf)) (Ann.seq (Ann.seq Ann.leaf (Ann.block (Ann.loop [2, 3, 4, 37, 38, 39, 40, 41, 42, 43, 44, 45, 46, 47] [37] (Ann.seq Ann.leaf (Ann.seq (Ann.cond Ann.leaf Ann.leaf) (Ann.seq (Ann.block (Ann.seq Ann.leaf (Ann.seq Ann.leaf (Ann.cond (Ann.seq Ann.leaf Ann.leaf) Ann.leaf)))) Ann.leaf)))))) (Ann.seq Ann.leaf Ann.leaf))))
def F7_den (t0 : Value) (w : World) (R : Value → World → Prop) : Prop :=
  V Try.prog (Instr.box 25 t0) w fun t1 w1 =>
  V Try.prog (Instr.fieldAt 25 t1 2) w1 fun t5 w2 =>
  V Try.prog (Instr.loadAt 23 t5) w2 fun t6 w3 =>
  V Try.prog (Builtin.len_ #[23] 3 #[t6]) w3 fun t7 w4 =>
  V Try.prog (binOp .lss 3 t7 (Value.int IntKind.i64 1)) w4 fun t8 w5 =>
  gd t8 false (fun K => V Try.prog (Instr.fieldAt 25 t1 2) w5 K) w5 fun t10 w6 =>
  gd t8 false (fun K => V Try.prog (Instr.loadAt 23 t10) w6 K) w6 fun t11 w7 =>
  gd t8 false (fun K => V Try.prog (Builtin.len_ #[23] 3 #[t11]) w7 K) w7 fun t12 w8 =>
  gd t8 false (fun K => V Try.prog (binOp .gtr 3 t12 (Value.int IntKind.i64 250)) w8 K) w8 fun t13 w9 =>
  pickD t8 (Value.bool true) t13 fun t14 =>
  gd t14 false (fun K => V Try.prog (Instr.fieldAt 25 t1 1) w9 K) w9 fun t16 w11 =>
  gd t14 false (fun K => V Try.prog (Instr.loadAt 3 t16) w11 K) w11 fun t17 w12 =>
  gd t14 false (fun K => callD Try.prog 11 #[t17, (Value.int IntKind.i64 41)] w12 K) w12 fun t18 w13 =>
  gd t14 false (fun K => V Try.prog (Op.unary UnOp.not t18) w13 K) w13 fun t19 w14 =>
  pickD t14 (Value.bool true) t19 fun t20 =>
  gd t20 false (fun K => V Try.prog (Instr.fieldAt 25 t1 0) w14 K) w14 fun t22 w16 =>
  gd t20 false (fun K => V Try.prog (Instr.loadAt 3 t22) w16 K) w16 fun t23 w17 =>
  gd t20 false (fun K => callD Try.prog 11 #[t23, (Value.int IntKind.i64 5)] w17 K) w17 fun t24 w18 =>
  gd t20 false (fun K => V Try.prog (Op.unary UnOp.not t24) w18 K) w18 fun t25 w19 =>
  pickD t20 (Value.bool true) t25 fun t26 =>
  gd t26 false (fun K => V Try.prog (Instr.fieldAt 25 t1 0) w19 K) w19 fun t28 w21 =>
  gd t26 false (fun K => V Try.prog (Instr.loadAt 3 t28) w21 K) w21 fun t29 w22 =>
  gd t26 false (fun K => V Try.prog (Instr.fieldAt 25 t1 1) w22 K) w22 fun t30 w23 =>
  gd t26 false (fun K => V Try.prog (Instr.loadAt 3 t30) w23 K) w23 fun t31 w24 =>
  gd t26 false (fun K => V Try.prog (binOp .gtr 3 t29 t31) w24 K) w24 fun t32 w25 =>
  pickD t26 (Value.bool true) t32 fun t33 =>
  ifD t33 (
  R (Value.bool false) w25) (
  V Try.prog (Instr.fieldAt 25 t1 2) w25 fun t34 w27 =>
  V Try.prog (Instr.loadAt 23 t34) w27 fun t35 w28 =>
  V Try.prog (Builtin.len_ #[23] 3 #[t35]) w28 fun t36 w29 =>
  ∃ (I1 : NP 1) (μ1 : NF 1), I1 (Value.int IntKind.i64 0) w29 ∧
  ∀ (t37 : Value), ∀ w30 : World, I1 t37 w30 → ∀ _f : Env,
  V Try.prog (binOp .lss 3 t37 t36) w30 fun t38 w31 =>
  ifD t38 (
  V Try.prog (Instr.indexAt 23 t35 t37) w31 fun t40 w32 =>
  V Try.prog (Instr.loadAt 54 t40) w32 fun t41 w33 =>
  V Try.prog (Instr.loadAt 25 t1) w33 fun t42 w34 =>
  callD Try.prog 12 #[t42, t41, t37] w34 fun t45 w35 =>
  V Try.prog (Op.unary UnOp.not t45) w35 fun t46 w36 =>
  ifD t46 (
  R (Value.bool false) w36) (
  V Try.prog (binOp .add 3 t37 (Value.int IntKind.i64 1)) w36 fun t47 w37 =>
  I1 t47 w37 ∧ μ1 t47 w37 < μ1 t37 w30)) (
  R (Value.bool true) w31))
theorem F7_eq (t0 : Value) (w : World) (R : Value → World → Prop) : F7_den t0 w R = vc Try.prog F7_ann (Try.f7.body.getD .skip) (retE Try.prog Try.f7.results.toList R) (argEnv [t0]) w := by kernel_rfl
theorem F7_wp {t0 : Value} {w : World} {R : Value → World → Prop} (h : F7_den t0 w R) : callD Try.prog 7 #[t0] w R :=
  callD.of_calls (fn := Try.f7) (c := Try.f7.body.getD .skip) Try.func7 (by kernel_rfl) (by kernel_rfl) (calls_of_vc (args := [t0]) F7_ann mixed Try.func7 (by kernel_rfl) (by kernel_rfl) (F7_eq t0 w R ▸ h))

/-- taciturn/place.Right -/
def F8_ann : Ann := (Ann.seq Ann.leaf (Ann.seq (Ann.seq Ann.leaf (Ann.cond (Ann.seq Ann.leaf Ann.leaf) Ann.leaf)) (Ann.seq Ann.leaf (Ann.seq (Ann.seq Ann.leaf (Ann.block (Ann.loop [4, 6, 7, 34, 35, 36, 37, 38, 39, 40, 41, 42, 43, 44, 45, 46, 47, 48, 49, 50, 51, 52, 53, 54, 55, 56, 57, 58, 59, 60, 61, 62, 63, 64, 65] [34] (Ann.seq Ann.leaf (Ann.seq (Ann.cond Ann.leaf Ann.leaf) (Ann.seq (Ann.block (Ann.seq Ann.leaf (Ann.seq Ann.leaf (Ann.cond (Ann.seq Ann.leaf Ann.leaf) Ann.leaf)))) Ann.leaf)))))) (Ann.seq Ann.leaf Ann.leaf)))))
def F8_den (t0 : Value) (t1 : Value) (w : World) (R : Value → World → Prop) : Prop :=
  V Try.prog (Instr.box 25 t0) w fun t2 w1 =>
  V Try.prog (Instr.box 40 t1) w1 fun t3 w2 =>
  V Try.prog (Instr.loadAt 25 t2) w2 fun t8 w3 =>
  callD Try.prog 7 #[t8] w3 fun t9 w4 =>
  V Try.prog (Op.unary UnOp.not t9) w4 fun t10 w5 =>
  gd t10 false (fun K => V Try.prog (Instr.fieldAt 40 t3 0) w5 K) w5 fun t12 w6 =>
  gd t10 false (fun K => V Try.prog (Instr.loadAt 22 t12) w6 K) w6 fun t13 w7 =>
  gd t10 false (fun K => V Try.prog (Builtin.len_ #[22] 3 #[t13]) w7 K) w7 fun t14 w8 =>
  gd t10 false (fun K => V Try.prog (Instr.fieldAt 25 t2 1) w8 K) w8 fun t15 w9 =>
  gd t10 false (fun K => V Try.prog (Instr.loadAt 3 t15) w9 K) w9 fun t16 w10 =>
  gd t10 false (fun K => V Try.prog (do eqGuard .neq 3 (Operand.tmp 14) (Operand.tmp 16) t14 t16; binOp .neq 3 t14 t16) w10 K) w10 fun t17 w11 =>
  pickD t10 (Value.bool true) t17 fun t18 =>
  gd t18 false (fun K => V Try.prog (Instr.fieldAt 40 t3 1) w11 K) w11 fun t20 w13 =>
  gd t18 false (fun K => V Try.prog (Instr.loadAt 3 t20) w13 K) w13 fun t21 w14 =>
  gd t18 false (fun K => V Try.prog (binOp .lss 3 t21 (Value.int IntKind.i64 0)) w14 K) w14 fun t22 w15 =>
  pickD t18 (Value.bool true) t22 fun t23 =>
  gd t23 false (fun K => V Try.prog (Instr.fieldAt 40 t3 1) w15 K) w15 fun t25 w17 =>
  gd t23 false (fun K => V Try.prog (Instr.loadAt 3 t25) w17 K) w17 fun t26 w18 =>
  gd t23 false (fun K => V Try.prog (binOp .gtr 3 t26 (Value.int IntKind.i64 40)) w18 K) w18 fun t27 w19 =>
  pickD t23 (Value.bool true) t27 fun t28 =>
  ifD t28 (
  R (Value.bool false) w19) (
  V Try.prog (Instr.loadAt 25 t2) w19 fun t29 w21 =>
  callD Try.prog 9 #[t29] w21 fun t30 w22 =>
  V Try.prog (Instr.alloc 49 true (.tuple #[])) w22 fun t5 w23 =>
  U Try.prog (Instr.storeAt 49 t5 t30) w23 fun _ w24 =>
  V Try.prog (Instr.fieldAt 40 t3 0) w24 fun t31 w25 =>
  V Try.prog (Instr.loadAt 22 t31) w25 fun t32 w26 =>
  V Try.prog (Builtin.len_ #[22] 3 #[t32]) w26 fun t33 w27 =>
  ∃ (I1 : NP 1) (μ1 : NF 1), I1 (Value.int IntKind.i64 0) w27 ∧
  ∀ (t34 : Value), ∀ w28 : World, I1 t34 w28 → ∀ _f : Env,
  V Try.prog (binOp .lss 3 t34 t33) w28 fun t35 w29 =>
  ifD t35 (
  V Try.prog (Instr.indexAt 22 t32 t34) w29 fun t37 w30 =>
  V Try.prog (Instr.loadAt 3 t37) w30 fun t38 w31 =>
  V Try.prog (do eqGuard .neq 3 (Operand.tmp 39) (Operand.const (Value.int IntKind.i64 5)) t38 (Value.int IntKind.i64 5); binOp .neq 3 t38 (Value.int IntKind.i64 5)) w31 fun t40 w32 =>
  gd t40 true (fun K => K t38 w32) w32 fun t42 w33 =>
  gd t40 true (fun K => V Try.prog (do eqGuard .neq 3 (Operand.tmp 42) (Operand.const (Value.int IntKind.i64 6)) t42 (Value.int IntKind.i64 6); binOp .neq 3 t42 (Value.int IntKind.i64 6)) w33 K) w33 fun t43 w34 =>
  pickD t40 t43 (Value.bool false) fun t44 =>
  gd t44 true (fun K => K t38 w34) w34 fun t46 w36 =>
  gd t44 true (fun K => V Try.prog (binOp .lss 3 t46 (Value.int IntKind.i64 16)) w36 K) w36 fun t47 w37 =>
  gd t44 true (fun K => K t47 w37) w37 fun t48 w38 =>
  gd t48 false (fun K => K t38 w38) w38 fun t49 w39 =>
  gd t48 false (fun K => V Try.prog (Instr.fieldAt 40 t3 1) w39 K) w39 fun t50 w40 =>
  gd t48 false (fun K => V Try.prog (Instr.loadAt 3 t50) w40 K) w40 fun t51 w41 =>
  gd t48 false (fun K => V Try.prog (binOp .add 3 (Value.int IntKind.i64 16) t51) w41 K) w41 fun t52 w42 =>
  gd t48 false (fun K => V Try.prog (binOp .geq 3 t49 t52) w42 K) w42 fun t53 w43 =>
  gd t44 true (fun K => pickD t48 (Value.bool true) t53 fun v => K v w43) w43 fun t54 w44 =>
  pickD t44 t54 (Value.bool false) fun t55 =>
  gd t55 false (fun K => V Try.prog (Instr.loadAt 49 t5) w44 K) w44 fun t57 w46 =>
  gd t55 false (fun K => K t34 w46) w46 fun t58 w47 =>
  gd t55 false (fun K => K t38 w47) w47 fun t59 w48 =>
  gd t55 false (fun K => V Try.prog (Instr.fieldAt 40 t3 0) w48 K) w48 fun t60 w49 =>
  gd t55 false (fun K => V Try.prog (Instr.loadAt 22 t60) w49 K) w49 fun t61 w50 =>
  gd t55 false (fun K => callD Try.prog 10 #[t57, t58, t59, t61] w50 K) w50 fun t62 w51 =>
  gd t55 false (fun K => V Try.prog (Op.unary UnOp.not t62) w51 K) w51 fun t63 w52 =>
  pickD t55 (Value.bool true) t63 fun t64 =>
  ifD t64 (
  R (Value.bool false) w52) (
  V Try.prog (binOp .add 3 t34 (Value.int IntKind.i64 1)) w52 fun t65 w54 =>
  I1 t65 w54 ∧ μ1 t65 w54 < μ1 t34 w28)) (
  R (Value.bool true) w29))
theorem F8_eq (t0 : Value) (t1 : Value) (w : World) (R : Value → World → Prop) : F8_den t0 t1 w R = vc Try.prog F8_ann (Try.f8.body.getD .skip) (retE Try.prog Try.f8.results.toList R) (argEnv [t0, t1]) w := by kernel_rfl
theorem F8_wp {t0 : Value} {t1 : Value} {w : World} {R : Value → World → Prop} (h : F8_den t0 t1 w R) : callD Try.prog 8 #[t0, t1] w R :=
  callD.of_calls (fn := Try.f8) (c := Try.f8.body.getD .skip) Try.func8 (by kernel_rfl) (by kernel_rfl) (calls_of_vc (args := [t0, t1]) F8_ann mixed Try.func8 (by kernel_rfl) (by kernel_rfl) (F8_eq t0 t1 w R ▸ h))

/-- taciturn/place.rulesOf -/
def F9_ann : Ann := (Ann.seq Ann.leaf (Ann.join [3, 16, 17, 18, 19, 20, 21, 22] [3] (Ann.draw [0, 1, 2, 0, 8, 16, 36, 0, 255] [0, 1, 2, 0, 8, 16, 36, 0, 192] 8 (.take 0 (.take 1 (.take 3 (.take 4 (.three 2 5 7 (.two 5 7 (.take 6 (.only 7 (.last 8))) (.only 5 (.take 6 (.last 8)))) (.two 2 7 (.take 6 (.only 7 (.last 8))) (.only 2 (.take 6 (.last 8)))) (.two 2 5 (.only 5 (.take 6 (.last 8))) (.only 2 (.take 6 (.last 8)))))))))) (Ann.seq (Ann.seq Ann.leaf (Ann.block (Ann.loop [4, 25, 26, 27, 28, 29, 30, 31, 32, 33, 34, 35] [25] (Ann.seq Ann.leaf (Ann.seq (Ann.cond Ann.leaf Ann.leaf) (Ann.seq (Ann.block (Ann.seq Ann.leaf (Ann.draw [0, 1, 0, 0, 8, 16, 63, 127] [0, 1, 0, 0, 8, 16, 6, 96] 7 (.take 0 (.take 1 (.take 2 (.take 3 (.take 4 (.only 5 (.take 6 (.last 7))))))))))) Ann.leaf)))))) (Ann.seq Ann.leaf (Ann.seq Ann.leaf (Ann.seq Ann.leaf (Ann.seq (Ann.seq Ann.leaf (Ann.block (Ann.loop [8, 44, 45, 46, 47, 48, 49, 50, 51, 52, 53] [44] (Ann.seq Ann.leaf (Ann.seq (Ann.cond Ann.leaf Ann.leaf) (Ann.seq (Ann.block (Ann.seq Ann.leaf (Ann.seq Ann.leaf Ann.leaf))) Ann.leaf)))))) (Ann.seq Ann.leaf (Ann.seq (Ann.seq Ann.leaf (Ann.block (Ann.loop [9, 10, 11, 12, 13, 14, 59, 60, 61, 62, 63, 64, 65, 66, 67, 68, 69, 70, 71, 72, 73, 74, 75, 76, 77, 78, 79, 80, 81, 82, 83, 84, 85, 86, 87, 88, 89, 90, 91, 92, 93, 94, 95, 96, 97, 98, 99, 100, 101, 102, 103, 104, 105, 106, 107, 108] [59] (Ann.seq Ann.leaf (Ann.seq (Ann.cond Ann.leaf Ann.leaf) (Ann.seq (Ann.block (Ann.seq Ann.leaf (Ann.seq Ann.leaf (Ann.seq Ann.leaf (Ann.seq Ann.leaf (Ann.seq Ann.leaf (Ann.seq Ann.leaf (Ann.block (Ann.loop [13, 14, 80, 81, 82, 83, 84, 85, 86, 87, 88, 89, 90, 91, 92, 93, 94, 95, 96, 97, 98, 99, 100, 101, 102, 103, 104, 105, 106, 107] [80] (Ann.seq Ann.leaf (Ann.seq (Ann.cond Ann.leaf Ann.leaf) (Ann.seq (Ann.block (Ann.seq Ann.leaf (Ann.draw [0, 1, 0, 0, 8, 0, 48, 64, 128, 256, 768, 1024, 1024, 7168, 9472, 17664, 32768, 98304, 163840, 295168, 524544, 2097151, 4194303] [0, 1, 0, 0, 8, 0, 48, 64, 128, 256, 768, 1024, 1024, 7168, 9472, 16640, 32768, 98304, 163840, 295168, 524544, 6, 3145728] 22 (.take 0 (.take 1 (.take 2 (.take 3 (.take 4 (.take 5 (.take 6 (.take 7 (.take 8 (.take 9 (.take 10 (.take 11 (.take 12 (.take 13 (.take 14 (.take 15 (.take 16 (.only 17 (.take 18 (.take 19 (.take 20 (.take 21 (.last 22)))))))))))))))))))))))))) Ann.leaf)))))))))))) Ann.leaf)))))) (Ann.seq (Ann.seq Ann.leaf (Ann.block (Ann.loop [15, 111, 112, 113, 114, 115, 116, 117] [111] (Ann.seq Ann.leaf (Ann.seq (Ann.cond Ann.leaf Ann.leaf) (Ann.seq (Ann.block (Ann.seq Ann.leaf Ann.leaf)) Ann.leaf)))))) (Ann.seq Ann.leaf Ann.leaf)))))))))))
def F9_den (t0 : Value) (w : World) (R : Value → World → Prop) : Prop :=
  V Try.prog (Instr.box 25 t0) w fun t1 w1 =>
  V Try.prog (Instr.alloc 49 true (.tuple #[])) w1 fun t2 w2 =>
  ∃ J1 : NP 1,
  (drawD w2 fun S1 w3 =>
  yieldS Try.prog S1 (Instr.fieldAt 25 t1 1) fun t16 =>
  yieldS Try.prog S1 (Instr.loadAt 3 t16) fun t17 =>
  yieldS Try.prog S1 (Instr.fieldAt 25 t1 1) fun t19 =>
  yieldS Try.prog S1 (Instr.loadAt 3 t19) fun t20 =>
  (V Try.prog (Instr.makeSlice 46 t17 t17) w3 fun t18 w4 =>
  S1 w4 ∧
  (V Try.prog (Instr.makeSlice 47 t20 t20) w4 fun t21 w5 =>
  S1 w5 ∧
  yieldS Try.prog S1 (Instr.build 49 #[(0, t18), (1, t21), (2, (Value.slice none 0 0))]) fun t22 =>
  V Try.prog (Instr.alloc 49 true (.tuple #[])) w5 fun t3 w6 =>
  S1 w6 ∧
  U Try.prog (Instr.storeAt 49 t3 t22) w6 fun _ w7 =>
  J1 t3 w7) ∧
  (V Try.prog (Instr.alloc 49 true (.tuple #[])) w4 fun t3_1 w8 =>
  S1 w8 ∧
  V Try.prog (Instr.makeSlice 47 t20 t20) w8 fun t21_1 w9 =>
  S1 w9 ∧
  yieldS Try.prog S1 (Instr.build 49 #[(0, t18), (1, t21_1), (2, (Value.slice none 0 0))]) fun t22_1 =>
  U Try.prog (Instr.storeAt 49 t3_1 t22_1) w9 fun _ w10 =>
  J1 t3_1 w10)) ∧
  (V Try.prog (Instr.makeSlice 47 t20 t20) w3 fun t21_2 w11 =>
  S1 w11 ∧
  (V Try.prog (Instr.makeSlice 46 t17 t17) w11 fun t18_1 w12 =>
  S1 w12 ∧
  yieldS Try.prog S1 (Instr.build 49 #[(0, t18_1), (1, t21_2), (2, (Value.slice none 0 0))]) fun t22_2 =>
  V Try.prog (Instr.alloc 49 true (.tuple #[])) w12 fun t3_2 w13 =>
  S1 w13 ∧
  U Try.prog (Instr.storeAt 49 t3_2 t22_2) w13 fun _ w14 =>
  J1 t3_2 w14) ∧
  (V Try.prog (Instr.alloc 49 true (.tuple #[])) w11 fun t3_3 w15 =>
  S1 w15 ∧
  V Try.prog (Instr.makeSlice 46 t17 t17) w15 fun t18_2 w16 =>
  S1 w16 ∧
  yieldS Try.prog S1 (Instr.build 49 #[(0, t18_2), (1, t21_2), (2, (Value.slice none 0 0))]) fun t22_3 =>
  U Try.prog (Instr.storeAt 49 t3_3 t22_3) w16 fun _ w17 =>
  J1 t3_3 w17)) ∧
  (V Try.prog (Instr.alloc 49 true (.tuple #[])) w3 fun t3_4 w18 =>
  S1 w18 ∧
  (V Try.prog (Instr.makeSlice 46 t17 t17) w18 fun t18_3 w19 =>
  S1 w19 ∧
  V Try.prog (Instr.makeSlice 47 t20 t20) w19 fun t21_3 w20 =>
  S1 w20 ∧
  yieldS Try.prog S1 (Instr.build 49 #[(0, t18_3), (1, t21_3), (2, (Value.slice none 0 0))]) fun t22_4 =>
  U Try.prog (Instr.storeAt 49 t3_4 t22_4) w20 fun _ w21 =>
  J1 t3_4 w21) ∧
  (V Try.prog (Instr.makeSlice 47 t20 t20) w18 fun t21_4 w22 =>
  S1 w22 ∧
  V Try.prog (Instr.makeSlice 46 t17 t17) w22 fun t18_4 w23 =>
  S1 w23 ∧
  yieldS Try.prog S1 (Instr.build 49 #[(0, t18_4), (1, t21_4), (2, (Value.slice none 0 0))]) fun t22_5 =>
  U Try.prog (Instr.storeAt 49 t3_4 t22_5) w23 fun _ w24 =>
  J1 t3_4 w24))) ∧
  ∀ (t3_5 : Value), ∀ w25 : World, J1 t3_5 w25 → ∀ _f : Env,
  V Try.prog (Instr.fieldAt 25 t1 1) w25 fun t23 w26 =>
  V Try.prog (Instr.loadAt 3 t23) w26 fun t24 w27 =>
  ∃ (I2 : NP 1) (μ2 : NF 1), I2 (Value.int IntKind.i64 0) w27 ∧
  ∀ (t25 : Value), ∀ w28 : World, I2 t25 w28 → ∀ _f : Env,
  V Try.prog (binOp .lss 3 t25 t24) w28 fun t26 w29 =>
  ifD t26 (
  drawD w29 fun S5 w30 =>
  yieldS Try.prog S5 (Instr.fieldAt 49 t3_5 0) fun t28 =>
  yieldS Try.prog S5 (Instr.loadAt 46 t28) fun t29 =>
  yieldS Try.prog S5 (Instr.fieldAt 25 t1 1) fun t31 =>
  yieldS Try.prog S5 (Instr.loadAt 3 t31) fun t32 =>
  V Try.prog (Instr.makeSlice 47 t32 t32) w30 fun t33 w31 =>
  S5 w31 ∧
  yieldS Try.prog S5 (Instr.indexAt 46 t29 t25) fun t34 =>
  U Try.prog (Instr.storeAt 47 t34 t33) w31 fun _ w32 =>
  V Try.prog (binOp .add 3 t25 (Value.int IntKind.i64 1)) w32 fun t35 w33 =>
  I2 t35 w33 ∧ μ2 t35 w33 < μ2 t25 w28) (
  V Try.prog (Instr.loadAt 25 t1) w29 fun t36 w34 =>
  callD Try.prog 13 #[t36] w34 fun t37 w35 =>
  V Try.prog (Instr.fieldAt 25 t1 1) w35 fun t38 w36 =>
  V Try.prog (Instr.loadAt 3 t38) w36 fun t39 w37 =>
  V Try.prog (Instr.makeSlice 47 t39 t39) w37 fun t40 w38 =>
  V Try.prog (Instr.alloc 47 true (.tuple #[])) w38 fun t6 w39 =>
  U Try.prog (Instr.storeAt 47 t6 t40) w39 fun _ w40 =>
  V Try.prog (Instr.makeFunc (Fn.func 14) #[] #[t6, t3_5]) w40 fun t41 w41 =>
  V Try.prog (Instr.fieldAt 25 t1 0) w41 fun t42 w42 =>
  V Try.prog (Instr.loadAt 3 t42) w42 fun t43 w43 =>
  ∃ (I3 : NP 1) (μ3 : NF 1), I3 (Value.int IntKind.i64 0) w43 ∧
  ∀ (t44 : Value), ∀ w44 : World, I3 t44 w44 → ∀ _f : Env,
  V Try.prog (binOp .lss 3 t44 t43) w44 fun t45 w45 =>
  ifD t45 (
  V Try.prog (Instr.indexAt 47 t37 t44) w45 fun t49 w46 =>
  U Try.prog (Instr.storeAt 4 t49 (Value.bool true)) w46 fun _ w47 =>
  dynD Try.prog t41 #[t44] w47 fun t52 w48 =>
  V Try.prog (binOp .add 3 t44 (Value.int IntKind.i64 1)) w48 fun t53 w49 =>
  I3 t53 w49 ∧ μ3 t53 w49 < μ3 t44 w44) (
  callD Try.prog 15 #[t3_5, t37] w45 fun t55 w50 =>
  V Try.prog (Instr.loadAt 25 t1) w50 fun t56 w51 =>
  callD Try.prog 16 #[t56] w51 fun t57 w52 =>
  V Try.prog (Builtin.len_ #[46] 3 #[t57]) w52 fun t58 w53 =>
  ∃ (I4 : NP 1) (μ4 : NF 1), I4 (Value.int IntKind.i64 0) w53 ∧
  ∀ (t59 : Value), ∀ w54 : World, I4 t59 w54 → ∀ _f : Env,
  V Try.prog (binOp .lss 3 t59 t58) w54 fun t60 w55 =>
  ifD t60 (
  V Try.prog (Instr.indexAt 46 t57 t59) w55 fun t62 w56 =>
  V Try.prog (Instr.loadAt 47 t62) w56 fun t63 w57 =>
  V Try.prog (Instr.fieldAt 25 t1 2) w57 fun t64 w58 =>
  V Try.prog (Instr.loadAt 23 t64) w58 fun t65 w59 =>
  V Try.prog (Instr.indexAt 23 t65 t59) w59 fun t67 w60 =>
  V Try.prog (Instr.loadAt 54 t67) w60 fun t68 w61 =>
  callD Try.prog 17 #[t68] w61 fun t70 w62 =>
  dynD Try.prog t41 #[t70] w62 fun t73 w63 =>
  callD Try.prog 18 #[t63, t70] w63 fun t76 w64 =>
  callD Try.prog 15 #[t3_5, t76] w64 fun t77 w65 =>
  V Try.prog (Builtin.len_ #[47] 3 #[t63]) w65 fun t79 w66 =>
  ∃ (I5 : NP 1) (μ5 : NF 1), I5 (Value.int IntKind.i64 0) w66 ∧
  ∀ (t80 : Value), ∀ w67 : World, I5 t80 w67 → ∀ _f : Env,
  V Try.prog (binOp .lss 3 t80 t79) w67 fun t81 w68 =>
  ifD t81 (
  V Try.prog (Instr.indexAt 47 t63 t80) w68 fun t83 w69 =>
  V Try.prog (Instr.loadAt 4 t83) w69 fun t84 w70 =>
  drawD w70 fun S27 w71 =>
  yieldS Try.prog S27 (Instr.fieldAt 49 t3_5 1) fun t85 =>
  yieldS Try.prog S27 (Instr.loadAt 47 t85) fun t86 =>
  yieldS Try.prog S27 (Instr.fieldAt 49 t3_5 1) fun t88 =>
  yieldS Try.prog S27 (Instr.loadAt 47 t88) fun t89 =>
  yieldS Try.prog S27 (Instr.indexAt 47 t89 t80) fun t91 =>
  yieldS Try.prog S27 (Instr.loadAt 4 t91) fun t92 =>
  gdY t92 false (fun K => K t84) fun t94 =>
  gdY t92 false (fun K => K t94) fun t95 =>
  gdY t95 true (fun K => K t80) fun t96 =>
  gdY t95 true (fun K => K t70) fun t97 =>
  gdY t95 true (fun K => yieldS Try.prog S27 (do eqGuard .neq 3 (Operand.tmp 96) (Operand.tmp 97) t96 t97; binOp .neq 3 t96 t97) K) fun t98 =>
  gdY t92 false (fun K => pickD t95 t98 (Value.bool false) K) fun t99 =>
  gdY t92 false (fun K => K t99) fun t100 =>
  gdY t100 true (fun K => K t68) fun t101 =>
  gd t100 true (fun K => callD Try.prog 19 #[t101] w71 K) w71 fun t102 w72 =>
  S27 w72 ∧
  gdY t100 true (fun K => yieldS Try.prog S27 (Op.unary UnOp.not t102) K) fun t103 =>
  gdY t92 false (fun K => pickD t100 t103 (Value.bool false) K) fun t104 =>
  pickD t92 (Value.bool true) t104 fun t105 =>
  yieldS Try.prog S27 (Instr.indexAt 47 t86 t80) fun t106 =>
  U Try.prog (Instr.storeAt 4 t106 t105) w72 fun _ w73 =>
  V Try.prog (binOp .add 3 t80 (Value.int IntKind.i64 1)) w73 fun t107 w74 =>
  I5 t107 w74 ∧ μ5 t107 w74 < μ5 t80 w67) (
  V Try.prog (binOp .add 3 t59 (Value.int IntKind.i64 1)) w68 fun t108 w75 =>
  I4 t108 w75 ∧ μ4 t108 w75 < μ4 t59 w54)) (
  V Try.prog (Instr.fieldAt 25 t1 1) w55 fun t109 w76 =>
  V Try.prog (Instr.loadAt 3 t109) w76 fun t110 w77 =>
  ∃ (I6 : NP 1) (μ6 : NF 1), I6 (Value.int IntKind.i64 0) w77 ∧
  ∀ (t111 : Value), ∀ w78 : World, I6 t111 w78 → ∀ _f : Env,
  V Try.prog (binOp .lss 3 t111 t110) w78 fun t112 w79 =>
  ifD t112 (
  dynD Try.prog t41 #[t111] w79 fun t116 w80 =>
  V Try.prog (binOp .add 3 t111 (Value.int IntKind.i64 1)) w80 fun t117 w81 =>
  I6 t117 w81 ∧ μ6 t117 w81 < μ6 t111 w78) (
  V Try.prog (Instr.loadAt 49 t3_5) w79 fun t118 w82 =>
  U Try.prog (Instr.storeAt 49 t2 t118) w82 fun _ w83 =>
  ∃ r1, (loadVar 49 (match t2 with | .pointer (some p) => p | _ => ⟨0, 0, none⟩)).run Try.prog w83 = .ok r1 w83 ∧ (∃ p, t2 = Value.pointer (some p)) ∧ R r1 w83))))
theorem F9_eq (t0 : Value) (w : World) (R : Value → World → Prop) : F9_den t0 w R = vc Try.prog F9_ann (Try.f9.body.getD .skip) (retE Try.prog Try.f9.results.toList R) (argEnv [t0]) w := by kernel_rfl
theorem F9_wp {t0 : Value} {w : World} {R : Value → World → Prop} (h : F9_den t0 w R) : callD Try.prog 9 #[t0] w R :=
  callD.of_calls (fn := Try.f9) (c := Try.f9.body.getD .skip) Try.func9 (by kernel_rfl) (by kernel_rfl) (calls_of_vc (args := [t0]) F9_ann mixed Try.func9 (by kernel_rfl) (by kernel_rfl) (F9_eq t0 w R ▸ h))

/-- (taciturn/place.rules).may -/
def F10_ann : Ann := (Ann.seq Ann.leaf (Ann.seq (Ann.seq Ann.leaf (Ann.cond (Ann.seq Ann.leaf Ann.leaf) Ann.leaf)) (Ann.seq (Ann.seq Ann.leaf (Ann.block (Ann.loop [8, 9, 10, 22, 23, 24, 25, 26, 27, 28, 29, 30, 31, 32, 33, 34, 35, 36, 37, 38, 39, 40] [22] (Ann.seq Ann.leaf (Ann.seq (Ann.cond Ann.leaf Ann.leaf) (Ann.seq (Ann.block (Ann.seq Ann.leaf (Ann.seq Ann.leaf (Ann.cond (Ann.seq Ann.leaf Ann.leaf) Ann.leaf)))) Ann.leaf)))))) (Ann.seq Ann.leaf Ann.leaf))))
def F10_den (t0 : Value) (t1 : Value) (t2 : Value) (t3 : Value) (w : World) (R : Value → World → Prop) : Prop :=
  V Try.prog (Instr.box 49 t0) w fun t4 w1 =>
  V Try.prog (Instr.fieldAt 49 t4 1) w1 fun t11 w2 =>
  V Try.prog (Instr.loadAt 47 t11) w2 fun t12 w3 =>
  V Try.prog (Instr.indexAt 47 t12 t1) w3 fun t14 w4 =>
  V Try.prog (Instr.loadAt 4 t14) w4 fun t15 w5 =>
  gd t15 true (fun K => K t2 w5) w5 fun t17 w6 =>
  gd t15 true (fun K => V Try.prog (binOp .lss 3 t17 (Value.int IntKind.i64 16)) w6 K) w6 fun t18 w7 =>
  pickD t15 t18 (Value.bool false) fun t19 =>
  ifD t19 (
  R (Value.bool false) w7) (
  V Try.prog (Builtin.len_ #[22] 3 #[t3]) w7 fun t21 w9 =>
  ∃ (I1 : NP 1) (μ1 : NF 1), I1 (Value.int IntKind.i64 0) w9 ∧
  ∀ (t22 : Value), ∀ w10 : World, I1 t22 w10 → ∀ _f : Env,
  V Try.prog (binOp .lss 3 t22 t21) w10 fun t23 w11 =>
  ifD t23 (
  V Try.prog (Instr.indexAt 22 t3 t22) w11 fun t25 w12 =>
  V Try.prog (Instr.loadAt 3 t25) w12 fun t26 w13 =>
  V Try.prog (Instr.fieldAt 49 t4 0) w13 fun t27 w14 =>
  V Try.prog (Instr.loadAt 46 t27) w14 fun t28 w15 =>
  V Try.prog (Instr.indexAt 46 t28 t1) w15 fun t30 w16 =>
  V Try.prog (Instr.loadAt 47 t30) w16 fun t31 w17 =>
  V Try.prog (Instr.indexAt 47 t31 t22) w17 fun t33 w18 =>
  V Try.prog (Instr.loadAt 4 t33) w18 fun t34 w19 =>
  gd t34 true (fun K => K t26 w19) w19 fun t36 w20 =>
  gd t34 true (fun K => K t2 w20) w20 fun t37 w21 =>
  gd t34 true (fun K => V Try.prog (do eqGuard .eql 3 (Operand.tmp 36) (Operand.tmp 37) t36 t37; binOp .eql 3 t36 t37) w21 K) w21 fun t38 w22 =>
  pickD t34 t38 (Value.bool false) fun t39 =>
  ifD t39 (
  R (Value.bool false) w22) (
  V Try.prog (binOp .add 3 t22 (Value.int IntKind.i64 1)) w22 fun t40 w24 =>
  I1 t40 w24 ∧ μ1 t40 w24 < μ1 t22 w10)) (
  R (Value.bool true) w11))
theorem F10_eq (t0 : Value) (t1 : Value) (t2 : Value) (t3 : Value) (w : World) (R : Value → World → Prop) : F10_den t0 t1 t2 t3 w R = vc Try.prog F10_ann (Try.f10.body.getD .skip) (retE Try.prog Try.f10.results.toList R) (argEnv [t0, t1, t2, t3]) w := by kernel_rfl
theorem F10_wp {t0 : Value} {t1 : Value} {t2 : Value} {t3 : Value} {w : World} {R : Value → World → Prop} (h : F10_den t0 t1 t2 t3 w R) : callD Try.prog 10 #[t0, t1, t2, t3] w R :=
  callD.of_calls (fn := Try.f10) (c := Try.f10.body.getD .skip) Try.func10 (by kernel_rfl) (by kernel_rfl) (calls_of_vc (args := [t0, t1, t2, t3]) F10_ann mixed Try.func10 (by kernel_rfl) (by kernel_rfl) (F10_eq t0 t1 t2 t3 w R ▸ h))

/-- taciturn/ir.in -/
def F11_ann : Ann := (Ann.seq Ann.leaf (Ann.seq Ann.leaf Ann.leaf))
def F11_den (t0 : Value) (t1 : Value) (w : World) (R : Value → World → Prop) : Prop :=
  V Try.prog (binOp .geq 3 t0 (Value.int IntKind.i64 0)) w fun t6 w1 =>
  gd t6 true (fun K => K t0 w1) w1 fun t8 w2 =>
  gd t6 true (fun K => K t1 w2) w2 fun t9 w3 =>
  gd t6 true (fun K => V Try.prog (binOp .lss 3 t8 t9) w3 K) w3 fun t10 w4 =>
  pickD t6 t10 (Value.bool false) fun t11 =>
  R t11 w4
theorem F11_eq (t0 : Value) (t1 : Value) (w : World) (R : Value → World → Prop) : F11_den t0 t1 w R = vc Try.prog F11_ann (Try.f11.body.getD .skip) (retE Try.prog Try.f11.results.toList R) (argEnv [t0, t1]) w := by kernel_rfl
theorem F11_wp {t0 : Value} {t1 : Value} {w : World} {R : Value → World → Prop} (h : F11_den t0 t1 w R) : callD Try.prog 11 #[t0, t1] w R :=
  callD.of_calls (fn := Try.f11) (c := Try.f11.body.getD .skip) Try.func11 (by kernel_rfl) (by kernel_rfl) (calls_of_vc (args := [t0, t1]) F11_ann mixed Try.func11 (by kernel_rfl) (by kernel_rfl) (F11_eq t0 t1 w R ▸ h))

/-- (taciturn/ir.Program).right -/
def F12_ann : Ann := (Ann.seq Ann.leaf (Ann.seq (Ann.seq Ann.leaf (Ann.cond (Ann.seq Ann.leaf Ann.leaf) Ann.leaf)) (Ann.seq (Ann.seq Ann.leaf (Ann.block (Ann.loop [6, 8, 18, 19, 20, 21, 22, 23, 24, 25, 26, 27] [18] (Ann.seq Ann.leaf (Ann.seq (Ann.cond Ann.leaf Ann.leaf) (Ann.seq (Ann.block (Ann.seq Ann.leaf (Ann.seq Ann.leaf (Ann.cond (Ann.seq Ann.leaf Ann.leaf) Ann.leaf)))) Ann.leaf)))))) (Ann.seq (Ann.seq Ann.leaf (Ann.block (Ann.loop [6, 10, 32, 33, 34, 35, 36, 37, 38, 39, 40, 41, 42] [32] (Ann.seq Ann.leaf (Ann.seq (Ann.cond Ann.leaf Ann.leaf) (Ann.seq (Ann.block (Ann.seq Ann.leaf (Ann.seq Ann.leaf (Ann.cond (Ann.seq Ann.leaf Ann.leaf) Ann.leaf)))) Ann.leaf)))))) (Ann.seq Ann.leaf (Ann.seq Ann.leaf Ann.leaf))))))
def F12_den (t0 : Value) (t1 : Value) (t2 : Value) (w : World) (R : Value → World → Prop) : Prop :=
  V Try.prog (Instr.box 25 t0) w fun t3 w1 =>
  callD Try.prog 20 #[t1] w1 fun t13 w2 =>
  V Try.prog (Op.unary UnOp.not t13) w2 fun t14 w3 =>
  ifD t14 (
  R (Value.bool false) w3) (
  callD Try.prog 21 #[t1] w3 fun t16 w4 =>
  V Try.prog (Builtin.len_ #[22] 3 #[t16]) w4 fun t17 w5 =>
  ∃ (I1 : NP 1) (μ1 : NF 1), I1 (Value.int IntKind.i64 0) w5 ∧
  ∀ (t18 : Value), ∀ w6 : World, I1 t18 w6 → ∀ _f : Env,
  V Try.prog (binOp .lss 3 t18 t17) w6 fun t19 w7 =>
  ifD t19 (
  V Try.prog (Instr.indexAt 22 t16 t18) w7 fun t20 w8 =>
  V Try.prog (Instr.loadAt 3 t20) w8 fun t21 w9 =>
  V Try.prog (Instr.fieldAt 25 t3 1) w9 fun t23 w10 =>
  V Try.prog (Instr.loadAt 3 t23) w10 fun t24 w11 =>
  callD Try.prog 11 #[t21, t24] w11 fun t25 w12 =>
  V Try.prog (Op.unary UnOp.not t25) w12 fun t26 w13 =>
  ifD t26 (
  R (Value.bool false) w13) (
  V Try.prog (binOp .add 3 t18 (Value.int IntKind.i64 1)) w13 fun t27 w14 =>
  I1 t27 w14 ∧ μ1 t27 w14 < μ1 t18 w6)) (
  callD Try.prog 22 #[t1, t2] w7 fun t30 w15 =>
  V Try.prog (Builtin.len_ #[22] 3 #[t30]) w15 fun t31 w16 =>
  ∃ (I2 : NP 1) (μ2 : NF 1), I2 (Value.int IntKind.i64 0) w16 ∧
  ∀ (t32 : Value), ∀ w17 : World, I2 t32 w17 → ∀ _f : Env,
  V Try.prog (binOp .lss 3 t32 t31) w17 fun t33 w18 =>
  ifD t33 (
  V Try.prog (Instr.indexAt 22 t30 t32) w18 fun t34 w19 =>
  V Try.prog (Instr.loadAt 3 t34) w19 fun t35 w20 =>
  V Try.prog (Instr.fieldAt 25 t3 2) w20 fun t37 w21 =>
  V Try.prog (Instr.loadAt 23 t37) w21 fun t38 w22 =>
  V Try.prog (Builtin.len_ #[23] 3 #[t38]) w22 fun t39 w23 =>
  callD Try.prog 11 #[t35, t39] w23 fun t40 w24 =>
  V Try.prog (Op.unary UnOp.not t40) w24 fun t41 w25 =>
  ifD t41 (
  R (Value.bool false) w25) (
  V Try.prog (binOp .add 3 t32 (Value.int IntKind.i64 1)) w25 fun t42 w26 =>
  I2 t42 w26 ∧ μ2 t42 w26 < μ2 t32 w17)) (
  callD Try.prog 17 #[t1] w18 fun t44 w27 =>
  V Try.prog (Instr.fieldAt 25 t3 1) w27 fun t46 w28 =>
  V Try.prog (Instr.loadAt 3 t46) w28 fun t47 w29 =>
  callD Try.prog 11 #[t44, t47] w29 fun t48 w30 =>
  gd t48 false (fun K => K t44 w30) w30 fun t50 w31 =>
  gd t48 false (fun K => V Try.prog (do eqGuard .eql 3 (Operand.tmp 50) (Operand.const (Value.int IntKind.i64 (-1))) t50 (Value.int IntKind.i64 (-1)); binOp .eql 3 t50 (Value.int IntKind.i64 (-1))) w31 K) w31 fun t51 w32 =>
  gd t48 false (fun K => K t51 w32) w32 fun t52 w33 =>
  gd t52 true (fun K => K t1 w33) w33 fun t53 w34 =>
  gd t52 true (fun K => callD Try.prog 23 #[t53] w34 K) w34 fun t54 w35 =>
  gd t48 false (fun K => pickD t52 t54 (Value.bool false) fun v => K v w35) w35 fun t55 w36 =>
  pickD t48 (Value.bool true) t55 fun t56 =>
  R t56 w36)))
theorem F12_eq (t0 : Value) (t1 : Value) (t2 : Value) (w : World) (R : Value → World → Prop) : F12_den t0 t1 t2 w R = vc Try.prog F12_ann (Try.f12.body.getD .skip) (retE Try.prog Try.f12.results.toList R) (argEnv [t0, t1, t2]) w := by kernel_rfl
theorem F12_wp {t0 : Value} {t1 : Value} {t2 : Value} {w : World} {R : Value → World → Prop} (h : F12_den t0 t1 t2 w R) : callD Try.prog 12 #[t0, t1, t2] w R :=
  callD.of_calls (fn := Try.f12) (c := Try.f12.body.getD .skip) Try.func12 (by kernel_rfl) (by kernel_rfl) (calls_of_vc (args := [t0, t1, t2]) F12_ann mixed Try.func12 (by kernel_rfl) (by kernel_rfl) (F12_eq t0 t1 t2 w R ▸ h))

/-- taciturn/live.Ahead -/
def F13_ann : Ann := (Ann.seq Ann.leaf (Ann.seq (Ann.seq Ann.leaf (Ann.cond (Ann.seq Ann.leaf Ann.leaf) Ann.leaf)) (Ann.seq (Ann.draw [0, 1, 2, 4, 0, 16, 32, 64, 168, 511] [0, 1, 2, 4, 0, 16, 32, 64, 136, 256] 10 (.take 0 (.take 1 (.take 2 (.take 3 (.take 4 (.only 5 (.re (.take 6 (.take 7 (.only 8 (.re (.take 9 .done))))))))))))) Ann.leaf)))
def F13_den (t0 : Value) (w : World) (R : Value → World → Prop) : Prop :=
  V Try.prog (Instr.box 25 t0) w fun t1 w1 =>
  V Try.prog (Instr.loadAt 25 t1) w1 fun t3 w2 =>
  callD Try.prog 7 #[t3] w2 fun t4 w3 =>
  V Try.prog (Op.unary UnOp.not t4) w3 fun t5 w4 =>
  ifD t5 (
  R (Value.slice none 0 0) w4) (
  drawD w4 fun S3 w5 =>
  yieldS Try.prog S3 (Instr.fieldAt 25 t1 2) fun t6 =>
  yieldS Try.prog S3 (Instr.loadAt 23 t6) fun t7 =>
  yieldS Try.prog S3 (Instr.indexAt 23 t7 (Value.int IntKind.i64 0)) fun t8 =>
  yieldS Try.prog S3 (Instr.loadAt 54 t8) fun t9 =>
  yieldS Try.prog S3 (Instr.loadAt 25 t1) fun t10 =>
  callD Try.prog 16 #[t10] w5 fun t11 w6 =>
  S3 w6 ∧
  reS S3 w6 fun S3_7 =>
  yieldS Try.prog S3_7 (Instr.indexAt 46 t11 (Value.int IntKind.i64 0)) fun t12 =>
  yieldS Try.prog S3_7 (Instr.loadAt 47 t12) fun t13 =>
  callD Try.prog 24 #[t9, t13] w6 fun t14 w8 =>
  S3_7 w8 ∧
  reS S3_7 w8 fun S3_7_9 =>
  R t14 w8)
theorem F13_eq (t0 : Value) (w : World) (R : Value → World → Prop) : F13_den t0 w R = vc Try.prog F13_ann (Try.f13.body.getD .skip) (retE Try.prog Try.f13.results.toList R) (argEnv [t0]) w := by kernel_rfl
theorem F13_wp {t0 : Value} {w : World} {R : Value → World → Prop} (h : F13_den t0 w R) : callD Try.prog 13 #[t0] w R :=
  callD.of_calls (fn := Try.f13) (c := Try.f13.body.getD .skip) Try.func13 (by kernel_rfl) (by kernel_rfl) (calls_of_vc (args := [t0]) F13_ann mixed Try.func13 (by kernel_rfl) (by kernel_rfl) (F13_eq t0 w R ▸ h))

/-- taciturn/place.rulesOf$1 -/
def F14_ann : Ann := (Ann.seq Ann.leaf (Ann.cond (Ann.seq Ann.leaf Ann.leaf) Ann.leaf))
def F14_den (t0 : Value) (t1 : Value) (t2 : Value) (w : World) (R : Value → World → Prop) : Prop :=
  V Try.prog (binOp .geq 3 t0 (Value.int IntKind.i64 0)) w fun t5 w1 =>
  gd t5 true (fun K => V Try.prog (Instr.loadAt 47 t1) w1 K) w1 fun t7 w2 =>
  gd t5 true (fun K => K t0 w2) w2 fun t8 w3 =>
  gd t5 true (fun K => V Try.prog (Instr.indexAt 47 t7 t8) w3 K) w3 fun t9 w4 =>
  gd t5 true (fun K => V Try.prog (Instr.loadAt 4 t9) w4 K) w4 fun t10 w5 =>
  gd t5 true (fun K => V Try.prog (Op.unary UnOp.not t10) w5 K) w5 fun t11 w6 =>
  pickD t5 t11 (Value.bool false) fun t12 =>
  ifD t12 (
  V Try.prog (Instr.loadAt 47 t1) w6 fun t13 w8 =>
  V Try.prog (Instr.indexAt 47 t13 t0) w8 fun t15 w9 =>
  U Try.prog (Instr.storeAt 4 t15 (Value.bool true)) w9 fun _ w10 =>
  V Try.prog (Instr.fieldAt 49 t2 2) w10 fun t16 w11 =>
  V Try.prog (Instr.loadAt 22 t16) w11 fun t17 w12 =>
  V Try.prog (Instr.buildSlice 22 1 #[(0, t0)]) w12 fun t19 w13 =>
  V Try.prog (Builtin.append_ #[22, 22] 22 #[t17, t19]) w13 fun t20 w14 =>
  V Try.prog (Instr.fieldAt 49 t2 2) w14 fun t21 w15 =>
  U Try.prog (Instr.storeAt 22 t21 t20) w15 fun _ w16 =>
  R (.tuple #[]) w16) (
  R (.tuple #[]) w6)
theorem F14_eq (t0 : Value) (t1 : Value) (t2 : Value) (w : World) (R : Value → World → Prop) : F14_den t0 t1 t2 w R = vc Try.prog F14_ann (Try.f14.body.getD .skip) (retE Try.prog Try.f14.results.toList R) (argEnv [t0, t1, t2]) w := by kernel_rfl
theorem F14_wp {t0 : Value} {t1 : Value} {t2 : Value} {w : World} {R : Value → World → Prop} (h : F14_den t0 t1 t2 w R) : callD Try.prog 14 #[t0, t1, t2] w R :=
  callD.of_calls (fn := Try.f14) (c := Try.f14.body.getD .skip) Try.func14 (by kernel_rfl) (by kernel_rfl) (calls_of_vc (args := [t0, t1, t2]) F14_ann mixed Try.func14 (by kernel_rfl) (by kernel_rfl) (F14_eq t0 t1 t2 w R ▸ h))

/-- (*taciturn/place.rules).all -/
def F15_ann : Ann := (Ann.seq Ann.leaf (Ann.block (Ann.loop [4, 5, 6, 7, 10, 11, 12, 13, 14, 15, 16, 17, 18, 19, 20, 21, 22, 23, 24, 25, 26, 27, 28, 29, 30, 31, 32, 33, 34, 35, 36, 37, 38, 39, 40, 41] [10] (Ann.seq Ann.leaf (Ann.seq (Ann.cond Ann.leaf Ann.leaf) (Ann.seq (Ann.block (Ann.seq Ann.leaf (Ann.seq Ann.leaf (Ann.block (Ann.loop [6, 7, 17, 18, 19, 20, 21, 22, 23, 24, 25, 26, 27, 28, 29, 30, 31, 32, 33, 34, 35, 36, 37, 38, 39, 40] [17] (Ann.seq Ann.leaf (Ann.seq (Ann.cond Ann.leaf Ann.leaf) (Ann.seq (Ann.block (Ann.seq Ann.leaf (Ann.seq Ann.leaf (Ann.cond Ann.leaf Ann.leaf)))) Ann.leaf)))))))) Ann.leaf))))))
def F15_den (t0 : Value) (t1 : Value) (w : World) (R : Value → World → Prop) : Prop :=
  V Try.prog (Builtin.len_ #[47] 3 #[t1]) w fun t9 w1 =>
  ∃ (I1 : NP 1) (μ1 : NF 1), I1 (Value.int IntKind.i64 0) w1 ∧
  ∀ (t10 : Value), ∀ w2 : World, I1 t10 w2 → ∀ _f : Env,
  V Try.prog (binOp .lss 3 t10 t9) w2 fun t11 w3 =>
  ifD t11 (
  V Try.prog (Instr.indexAt 47 t1 t10) w3 fun t13 w4 =>
  V Try.prog (Instr.loadAt 4 t13) w4 fun t14 w5 =>
  V Try.prog (Builtin.len_ #[47] 3 #[t1]) w5 fun t16 w6 =>
  ∃ (I2 : NP 1) (μ2 : NF 1), I2 (Value.int IntKind.i64 0) w6 ∧
  ∀ (t17 : Value), ∀ w7 : World, I2 t17 w7 → ∀ _f : Env,
  V Try.prog (binOp .lss 3 t17 t16) w7 fun t18 w8 =>
  ifD t18 (
  V Try.prog (Instr.indexAt 47 t1 t17) w8 fun t20 w9 =>
  V Try.prog (Instr.loadAt 4 t20) w9 fun t21 w10 =>
  gd t14 true (fun K => K t21 w10) w10 fun t24 w11 =>
  pickD t14 t24 (Value.bool false) fun t25 =>
  gd t25 true (fun K => K t10 w11) w11 fun t27 w13 =>
  gd t25 true (fun K => K t17 w13) w13 fun t28 w14 =>
  gd t25 true (fun K => V Try.prog (do eqGuard .neq 3 (Operand.tmp 27) (Operand.tmp 28) t27 t28; binOp .neq 3 t27 t28) w14 K) w14 fun t29 w15 =>
  pickD t25 t29 (Value.bool false) fun t30 =>
  ifD t30 (
  Go.Vc.Safe (t0) ∧
  V Try.prog (Instr.fieldAt 49 t0 0) w15 fun t33 w18 =>
  V Try.prog (Instr.loadAt 46 t33) w18 fun t34 w19 =>
  V Try.prog (Instr.indexAt 46 t34 t10) w19 fun t36 w20 =>
  V Try.prog (Instr.loadAt 47 t36) w20 fun t37 w21 =>
  V Try.prog (Instr.indexAt 47 t37 t17) w21 fun t39 w22 =>
  U Try.prog (Instr.storeAt 4 t39 (Value.bool true)) w22 fun _ w23 =>
  V Try.prog (binOp .add 3 t17 (Value.int IntKind.i64 1)) w23 fun t40 w24 =>
  I2 t40 w24 ∧ μ2 t40 w24 < μ2 t17 w7) (
  V Try.prog (binOp .add 3 t17 (Value.int IntKind.i64 1)) w15 fun t40_1 w25 =>
  I2 t40_1 w25 ∧ μ2 t40_1 w25 < μ2 t17 w7)) (
  V Try.prog (binOp .add 3 t10 (Value.int IntKind.i64 1)) w8 fun t41 w26 =>
  I1 t41 w26 ∧ μ1 t41 w26 < μ1 t10 w2)) (
  R (.tuple #[]) w3)
theorem F15_eq (t0 : Value) (t1 : Value) (w : World) (R : Value → World → Prop) : F15_den t0 t1 w R = vc Try.prog F15_ann (Try.f15.body.getD .skip) (retE Try.prog Try.f15.results.toList R) (argEnv [t0, t1]) w := by kernel_rfl
theorem F15_wp {t0 : Value} {t1 : Value} {w : World} {R : Value → World → Prop} (h : F15_den t0 t1 w R) : callD Try.prog 15 #[t0, t1] w R :=
  callD.of_calls (fn := Try.f15) (c := Try.f15.body.getD .skip) Try.func15 (by kernel_rfl) (by kernel_rfl) (calls_of_vc (args := [t0, t1]) F15_ann mixed Try.func15 (by kernel_rfl) (by kernel_rfl) (F15_eq t0 t1 w R ▸ h))

/-- taciturn/live.Behind -/
def F16_ann : Ann := (Ann.seq Ann.leaf (Ann.seq (Ann.seq Ann.leaf (Ann.cond (Ann.seq Ann.leaf Ann.leaf) Ann.leaf)) (Ann.seq Ann.leaf (Ann.seq (Ann.seq Ann.leaf (Ann.block (Ann.loop [4, 20, 21, 22, 23, 24, 25, 26, 27, 28, 29] [20] (Ann.seq Ann.leaf (Ann.seq (Ann.cond Ann.leaf Ann.leaf) (Ann.seq (Ann.block (Ann.seq Ann.leaf Ann.leaf)) Ann.leaf)))))) (Ann.seq (Ann.seq Ann.leaf (Ann.block (Ann.loop [5, 6, 8, 9, 10, 30, 31, 32, 33, 34, 35, 36, 37, 38, 39, 40, 41, 42, 43, 44, 45, 46, 47, 48, 49, 50, 51, 52, 53, 54, 55, 56, 57, 58, 59, 60, 61, 62, 63, 64, 65, 66, 67, 68, 69, 70, 71, 72, 73, 74, 75, 76, 77, 78, 79, 80, 81, 82, 83, 84, 85, 86, 87, 88, 89, 90, 91, 92, 93, 94, 95, 96, 97, 98] [5] (Ann.seq (Ann.seq Ann.leaf (Ann.cond Ann.leaf Ann.leaf)) (Ann.block (Ann.seq Ann.leaf (Ann.seq Ann.leaf (Ann.block (Ann.loop [5, 6, 8, 9, 10, 35, 36, 37, 38, 39, 40, 41, 42, 43, 44, 45, 46, 47, 48, 49, 50, 51, 52, 53, 54, 55, 56, 57, 58, 59, 60, 61, 62, 63, 64, 65, 66, 67, 68, 69, 70, 71, 72, 73, 74, 75, 76, 77, 78, 79, 80, 81, 82, 83, 84, 85, 86, 87, 88, 89, 90, 91, 92, 93, 94, 95, 96, 97, 98] [5, 6] (Ann.seq (Ann.seq Ann.leaf (Ann.cond Ann.leaf Ann.leaf)) (Ann.seq (Ann.block (Ann.seq Ann.leaf (Ann.block (Ann.loop [5, 8, 9, 10, 47, 48, 49, 50, 51, 52, 53, 54, 55, 56, 57, 58, 59, 60, 61, 62, 63, 64, 65, 66, 67, 68, 69, 70, 71, 72, 73, 74, 75, 76, 77, 78, 79, 80, 81, 82, 83, 84, 85, 86, 87, 88, 89, 90, 91, 92, 93, 94, 95, 96, 97, 98] [5, 47] (Ann.seq Ann.leaf (Ann.seq (Ann.cond Ann.leaf Ann.leaf) (Ann.seq (Ann.block (Ann.seq Ann.leaf (Ann.seq (Ann.draw [0, 1, 0, 6, 8, 0, 0, 96, 128, 272, 512, 0] [0, 1, 0, 6, 8, 0, 0, 96, 128, 272, 512, 0] 12 (.take 0 (.take 1 (.take 2 (.take 3 (.take 4 (.take 5 (.take 6 (.take 7 (.take 8 (.take 11 (.only 9 (.take 10 .done))))))))))))) (Ann.block (Ann.loop [5, 9, 10, 62, 63, 64, 65, 66, 67, 68, 69, 70, 71, 72, 73, 74, 75, 76, 77, 78, 79, 80, 81, 82, 83, 84, 85, 86, 87, 88, 89, 90, 91, 92, 93, 94, 95, 96, 97] [5, 62] (Ann.seq Ann.leaf (Ann.seq (Ann.cond Ann.leaf Ann.leaf) (Ann.seq (Ann.block (Ann.seq Ann.leaf (Ann.seq Ann.leaf (Ann.draw [0, 0, 3, 4, 0, 0, 0, 96, 128, 0, 768, 1024, 2048, 4096, 12288, 32767, 65535] [0, 0, 3, 4, 0, 0, 0, 96, 128, 0, 768, 1024, 2048, 4096, 12288, 24, 49152] 16 (.take 0 (.take 1 (.take 2 (.take 3 (.take 4 (.take 5 (.take 6 (.take 7 (.take 8 (.take 9 (.take 10 (.take 11 (.take 12 (.take 13 (.take 14 (.take 15 (.last 16))))))))))))))))))))) Ann.leaf)))))))) Ann.leaf))))))) Ann.leaf))))))))))) (Ann.seq Ann.leaf Ann.leaf))))))
def F16_den (t0 : Value) (w : World) (R : Value → World → Prop) : Prop :=
  V Try.prog (Instr.box 25 t0) w fun t1 w1 =>
  V Try.prog (Instr.loadAt 25 t1) w1 fun t11 w2 =>
  callD Try.prog 7 #[t11] w2 fun t12 w3 =>
  V Try.prog (Op.unary UnOp.not t12) w3 fun t13 w4 =>
  ifD t13 (
  R (Value.slice none 0 0) w4) (
  V Try.prog (Instr.fieldAt 25 t1 2) w4 fun t14 w5 =>
  V Try.prog (Instr.loadAt 23 t14) w5 fun t15 w6 =>
  V Try.prog (Builtin.len_ #[23] 3 #[t15]) w6 fun t16 w7 =>
  V Try.prog (Instr.makeSlice 46 t16 t16) w7 fun t17 w8 =>
  V Try.prog (Builtin.len_ #[46] 3 #[t17]) w8 fun t19 w9 =>
  ∃ (I1 : NP 1) (μ1 : NF 1), I1 (Value.int IntKind.i64 0) w9 ∧
  ∀ (t20 : Value), ∀ w10 : World, I1 t20 w10 → ∀ _f : Env,
  V Try.prog (binOp .lss 3 t20 t19) w10 fun t21 w11 =>
  ifD t21 (
  V Try.prog (Instr.fieldAt 25 t1 1) w11 fun t25 w12 =>
  V Try.prog (Instr.loadAt 3 t25) w12 fun t26 w13 =>
  V Try.prog (Instr.makeSlice 47 t26 t26) w13 fun t27 w14 =>
  V Try.prog (Instr.indexAt 46 t17 t20) w14 fun t28 w15 =>
  U Try.prog (Instr.storeAt 47 t28 t27) w15 fun _ w16 =>
  V Try.prog (binOp .add 3 t20 (Value.int IntKind.i64 1)) w16 fun t29 w17 =>
  I1 t29 w17 ∧ μ1 t29 w17 < μ1 t20 w10) (
  ∃ (I2 : NP 1) (μ2 : NF 1), I2 (Value.bool true) w11 ∧
  ∀ (t5 : Value), ∀ w18 : World, I2 t5 w18 → ∀ _f : Env,
  ifD t5 (
  V Try.prog (Instr.fieldAt 25 t1 2) w18 fun t31 w19 =>
  V Try.prog (Instr.loadAt 23 t31) w19 fun t32 w20 =>
  V Try.prog (Builtin.len_ #[23] 3 #[t32]) w20 fun t33 w21 =>
  V Try.prog (binOp .sub 3 t33 (Value.int IntKind.i64 1)) w21 fun t34 w22 =>
  ∃ (I3 : NP 2) (μ3 : NF 2), I3 (Value.bool false) t34 w22 ∧
  ∀ (t5_1 : Value) (t6 : Value), ∀ w23 : World, I3 t5_1 t6 w23 → ∀ _f : Env,
  V Try.prog (binOp .geq 3 t6 (Value.int IntKind.i64 0)) w23 fun t36 w24 =>
  ifD t36 (
  V Try.prog (Instr.fieldAt 25 t1 2) w24 fun t39 w25 =>
  V Try.prog (Instr.loadAt 23 t39) w25 fun t40 w26 =>
  V Try.prog (Instr.indexAt 23 t40 t6) w26 fun t42 w27 =>
  V Try.prog (Instr.loadAt 54 t42) w27 fun t43 w28 =>
  callD Try.prog 22 #[t43, t6] w28 fun t45 w29 =>
  V Try.prog (Builtin.len_ #[22] 3 #[t45]) w29 fun t46 w30 =>
  ∃ (I4 : NP 2) (μ4 : NF 2), I4 t5_1 (Value.int IntKind.i64 0) w30 ∧
  ∀ (t5_2 : Value) (t47 : Value), ∀ w31 : World, I4 t5_2 t47 w31 → ∀ _f : Env,
  V Try.prog (binOp .lss 3 t47 t46) w31 fun t48 w32 =>
  ifD t48 (
  V Try.prog (Instr.indexAt 22 t45 t47) w32 fun t49 w33 =>
  V Try.prog (Instr.loadAt 3 t49) w33 fun t50 w34 =>
  drawD w34 fun S18 w35 =>
  yieldS Try.prog S18 (Instr.fieldAt 25 t1 2) fun t51 =>
  yieldS Try.prog S18 (Instr.loadAt 23 t51) fun t52 =>
  yieldS Try.prog S18 (Instr.indexAt 23 t52 t50) fun t54 =>
  yieldS Try.prog S18 (Instr.loadAt 54 t54) fun t55 =>
  yieldS Try.prog S18 (Instr.indexAt 46 t17 t50) fun t58 =>
  yieldS Try.prog S18 (Instr.loadAt 47 t58) fun t59 =>
  callD Try.prog 24 #[t55, t59] w35 fun t60 w36 =>
  S18 w36 ∧
  yieldS Try.prog S18 (Builtin.len_ #[47] 3 #[t60]) fun t61 =>
  ∃ (I5 : NP 2) (μ5 : NF 2), I5 t5_2 (Value.int IntKind.i64 0) w36 ∧
  ∀ (t5_3 : Value) (t62 : Value), ∀ w37 : World, I5 t5_3 t62 w37 → ∀ _f : Env,
  V Try.prog (binOp .lss 3 t62 t61) w37 fun t63 w38 =>
  ifD t63 (
  V Try.prog (Instr.indexAt 47 t60 t62) w38 fun t65 w39 =>
  V Try.prog (Instr.loadAt 4 t65) w39 fun t66 w40 =>
  gd t5_3 false (fun K => K t66 w40) w40 fun t69 w41 =>
  gd t5_3 false (fun K => K t69 w41) w41 fun t70 w42 =>
  gd t70 true (fun K => K t17 w42) w42 fun t71 w43 =>
  gd t70 true (fun K => K t6 w43) w43 fun t72 w44 =>
  gd t70 true (fun K => V Try.prog (Instr.indexAt 46 t71 t72) w44 K) w44 fun t73 w45 =>
  gd t70 true (fun K => V Try.prog (Instr.loadAt 47 t73) w45 K) w45 fun t74 w46 =>
  gd t70 true (fun K => K t62 w46) w46 fun t75 w47 =>
  gd t70 true (fun K => V Try.prog (Instr.indexAt 47 t74 t75) w47 K) w47 fun t76 w48 =>
  gd t70 true (fun K => V Try.prog (Instr.loadAt 4 t76) w48 K) w48 fun t77 w49 =>
  gd t70 true (fun K => V Try.prog (Op.unary UnOp.not t77) w49 K) w49 fun t78 w50 =>
  gd t5_3 false (fun K => pickD t70 t78 (Value.bool false) fun v => K v w50) w50 fun t79 w51 =>
  pickD t5_3 (Value.bool true) t79 fun t80 =>
  drawD w51 fun S22 w53 =>
  yieldS Try.prog S22 (Instr.indexAt 46 t17 t6) fun t83 =>
  yieldS Try.prog S22 (Instr.loadAt 47 t83) fun t84 =>
  yieldS Try.prog S22 (Instr.indexAt 46 t17 t6) fun t88 =>
  yieldS Try.prog S22 (Instr.loadAt 47 t88) fun t89 =>
  yieldS Try.prog S22 (Instr.indexAt 47 t89 t62) fun t91 =>
  yieldS Try.prog S22 (Instr.loadAt 4 t91) fun t92 =>
  gdY t92 false (fun K => K t66) fun t94 =>
  pickD t92 (Value.bool true) t94 fun t95 =>
  yieldS Try.prog S22 (Instr.indexAt 47 t84 t62) fun t96 =>
  U Try.prog (Instr.storeAt 4 t96 t95) w53 fun _ w54 =>
  V Try.prog (binOp .add 3 t62 (Value.int IntKind.i64 1)) w54 fun t97 w55 =>
  I5 t80 t97 w55 ∧ μ5 t80 t97 w55 < μ5 t5_3 t62 w37) (
  V Try.prog (binOp .add 3 t47 (Value.int IntKind.i64 1)) w38 fun t98 w56 =>
  I4 t5_3 t98 w56 ∧ μ4 t5_3 t98 w56 < μ4 t5_2 t47 w31)) (
  V Try.prog (binOp .sub 3 t6 (Value.int IntKind.i64 1)) w32 fun t38 w57 =>
  I3 t5_2 t38 w57 ∧ μ3 t5_2 t38 w57 < μ3 t5_1 t6 w23)) (
  I2 t5_1 w24 ∧ μ2 t5_1 w24 < μ2 t5 w18)) (
  R t17 w18)))
theorem F16_eq (t0 : Value) (w : World) (R : Value → World → Prop) : F16_den t0 w R = vc Try.prog F16_ann (Try.f16.body.getD .skip) (retE Try.prog Try.f16.results.toList R) (argEnv [t0]) w := by kernel_rfl
theorem F16_wp {t0 : Value} {w : World} {R : Value → World → Prop} (h : F16_den t0 w R) : callD Try.prog 16 #[t0] w R :=
  callD.of_calls (fn := Try.f16) (c := Try.f16.body.getD .skip) Try.func16 (by kernel_rfl) (by kernel_rfl) (calls_of_vc (args := [t0]) F16_ann mixed Try.func16 (by kernel_rfl) (by kernel_rfl) (F16_eq t0 w R ▸ h))

/-- taciturn/ir.Def -/
def F17_ann : Ann := (Ann.seq Ann.leaf (Ann.seq (Ann.seq Ann.leaf (Ann.block (Ann.seq Ann.leaf (Ann.cond (Ann.seq Ann.leaf (Ann.seq Ann.leaf Ann.leaf)) (Ann.seq Ann.leaf (Ann.cond (Ann.seq Ann.leaf (Ann.seq Ann.leaf Ann.leaf)) (Ann.seq Ann.leaf (Ann.cond (Ann.seq Ann.leaf (Ann.seq Ann.leaf Ann.leaf)) (Ann.seq Ann.leaf (Ann.cond (Ann.seq Ann.leaf (Ann.seq Ann.leaf Ann.leaf)) (Ann.seq Ann.leaf (Ann.cond (Ann.seq Ann.leaf (Ann.seq Ann.leaf Ann.leaf)) (Ann.seq Ann.leaf (Ann.cond (Ann.seq Ann.leaf (Ann.seq Ann.leaf Ann.leaf)) (Ann.seq Ann.leaf (Ann.cond (Ann.seq Ann.leaf (Ann.seq Ann.leaf Ann.leaf)) (Ann.seq Ann.leaf (Ann.cond (Ann.seq Ann.leaf (Ann.seq Ann.leaf Ann.leaf)) (Ann.seq Ann.leaf (Ann.cond (Ann.seq Ann.leaf (Ann.seq Ann.leaf Ann.leaf)) Ann.leaf)))))))))))))))))))) (Ann.seq Ann.leaf Ann.leaf)))
def F17_den (t0 : Value) (w : World) (R : Value → World → Prop) : Prop :=
  V Try.prog (Instr.typeAssert t0 54 27 true) w fun t13 w1 =>
  V Try.prog (Instr.extract t13 1) w1 fun t14 w2 =>
  V Try.prog (Instr.extract t13 0) w2 fun t15 w3 =>
  ifD t14 (
  V Try.prog (Instr.alloc 27 true (.tuple #[])) w3 fun t3 w4 =>
  U Try.prog (Instr.storeAt 27 t3 t15) w4 fun _ w5 =>
  V Try.prog (Instr.fieldAt 27 t3 0) w5 fun t16 w6 =>
  V Try.prog (Instr.loadAt 3 t16) w6 fun t17 w7 =>
  R t17 w7) (
  V Try.prog (Instr.typeAssert t0 54 34 true) w3 fun t18 w8 =>
  V Try.prog (Instr.extract t18 1) w8 fun t19 w9 =>
  V Try.prog (Instr.extract t18 0) w9 fun t20 w10 =>
  ifD t19 (
  V Try.prog (Instr.alloc 34 true (.tuple #[])) w10 fun t4 w11 =>
  U Try.prog (Instr.storeAt 34 t4 t20) w11 fun _ w12 =>
  V Try.prog (Instr.fieldAt 34 t4 0) w12 fun t21 w13 =>
  V Try.prog (Instr.loadAt 3 t21) w13 fun t22 w14 =>
  R t22 w14) (
  V Try.prog (Instr.typeAssert t0 54 36 true) w10 fun t23 w15 =>
  V Try.prog (Instr.extract t23 1) w15 fun t24 w16 =>
  V Try.prog (Instr.extract t23 0) w16 fun t25 w17 =>
  ifD t24 (
  V Try.prog (Instr.alloc 36 true (.tuple #[])) w17 fun t5 w18 =>
  U Try.prog (Instr.storeAt 36 t5 t25) w18 fun _ w19 =>
  V Try.prog (Instr.fieldAt 36 t5 1) w19 fun t26 w20 =>
  V Try.prog (Instr.loadAt 3 t26) w20 fun t27 w21 =>
  R t27 w21) (
  V Try.prog (Instr.typeAssert t0 54 30 true) w17 fun t28 w22 =>
  V Try.prog (Instr.extract t28 1) w22 fun t29 w23 =>
  V Try.prog (Instr.extract t28 0) w23 fun t30 w24 =>
  ifD t29 (
  V Try.prog (Instr.alloc 30 true (.tuple #[])) w24 fun t6 w25 =>
  U Try.prog (Instr.storeAt 30 t6 t30) w25 fun _ w26 =>
  V Try.prog (Instr.fieldAt 30 t6 1) w26 fun t31 w27 =>
  V Try.prog (Instr.loadAt 3 t31) w27 fun t32 w28 =>
  R t32 w28) (
  V Try.prog (Instr.typeAssert t0 54 68 true) w24 fun t33 w29 =>
  V Try.prog (Instr.extract t33 1) w29 fun t34 w30 =>
  V Try.prog (Instr.extract t33 0) w30 fun t35 w31 =>
  ifD t34 (
  V Try.prog (Instr.alloc 68 true (.tuple #[])) w31 fun t7 w32 =>
  U Try.prog (Instr.storeAt 68 t7 t35) w32 fun _ w33 =>
  V Try.prog (Instr.fieldAt 68 t7 0) w33 fun t36 w34 =>
  V Try.prog (Instr.loadAt 3 t36) w34 fun t37 w35 =>
  R t37 w35) (
  V Try.prog (Instr.typeAssert t0 54 70 true) w31 fun t38 w36 =>
  V Try.prog (Instr.extract t38 1) w36 fun t39 w37 =>
  V Try.prog (Instr.extract t38 0) w37 fun t40 w38 =>
  ifD t39 (
  V Try.prog (Instr.alloc 70 true (.tuple #[])) w38 fun t8 w39 =>
  U Try.prog (Instr.storeAt 70 t8 t40) w39 fun _ w40 =>
  V Try.prog (Instr.fieldAt 70 t8 0) w40 fun t41 w41 =>
  V Try.prog (Instr.loadAt 3 t41) w41 fun t42 w42 =>
  R t42 w42) (
  V Try.prog (Instr.typeAssert t0 54 72 true) w38 fun t43 w43 =>
  V Try.prog (Instr.extract t43 1) w43 fun t44 w44 =>
  V Try.prog (Instr.extract t43 0) w44 fun t45 w45 =>
  ifD t44 (
  V Try.prog (Instr.alloc 72 true (.tuple #[])) w45 fun t9 w46 =>
  U Try.prog (Instr.storeAt 72 t9 t45) w46 fun _ w47 =>
  V Try.prog (Instr.fieldAt 72 t9 3) w47 fun t46 w48 =>
  V Try.prog (Instr.loadAt 3 t46) w48 fun t47 w49 =>
  R t47 w49) (
  V Try.prog (Instr.typeAssert t0 54 74 true) w45 fun t48 w50 =>
  V Try.prog (Instr.extract t48 1) w50 fun t49 w51 =>
  V Try.prog (Instr.extract t48 0) w51 fun t50 w52 =>
  ifD t49 (
  V Try.prog (Instr.alloc 74 true (.tuple #[])) w52 fun t10 w53 =>
  U Try.prog (Instr.storeAt 74 t10 t50) w53 fun _ w54 =>
  V Try.prog (Instr.fieldAt 74 t10 1) w54 fun t51 w55 =>
  V Try.prog (Instr.loadAt 3 t51) w55 fun t52 w56 =>
  R t52 w56) (
  V Try.prog (Instr.typeAssert t0 54 76 true) w52 fun t53 w57 =>
  V Try.prog (Instr.extract t53 1) w57 fun t54 w58 =>
  V Try.prog (Instr.extract t53 0) w58 fun t55 w59 =>
  ifD t54 (
  V Try.prog (Instr.alloc 76 true (.tuple #[])) w59 fun t11 w60 =>
  U Try.prog (Instr.storeAt 76 t11 t55) w60 fun _ w61 =>
  V Try.prog (Instr.fieldAt 76 t11 1) w61 fun t56 w62 =>
  V Try.prog (Instr.loadAt 3 t56) w62 fun t57 w63 =>
  R t57 w63) (
  R (Value.int IntKind.i64 (-1)) w59)))))))))
theorem F17_eq (t0 : Value) (w : World) (R : Value → World → Prop) : F17_den t0 w R = vc Try.prog F17_ann (Try.f17.body.getD .skip) (retE Try.prog Try.f17.results.toList R) (argEnv [t0]) w := by kernel_rfl
theorem F17_wp {t0 : Value} {w : World} {R : Value → World → Prop} (h : F17_den t0 w R) : callD Try.prog 17 #[t0] w R :=
  callD.of_calls (fn := Try.f17) (c := Try.f17.body.getD .skip) Try.func17 (by kernel_rfl) (by kernel_rfl) (calls_of_vc (args := [t0]) F17_ann mixed Try.func17 (by kernel_rfl) (by kernel_rfl) (F17_eq t0 w R ▸ h))

/-- taciturn/place.with -/
def F18_ann : Ann := (Ann.seq Ann.leaf (Ann.seq Ann.leaf (Ann.seq (Ann.seq Ann.leaf (Ann.cond Ann.leaf Ann.leaf)) (Ann.seq Ann.leaf Ann.leaf))))
def F18_den (t0 : Value) (t1 : Value) (w : World) (R : Value → World → Prop) : Prop :=
  V Try.prog (Instr.buildSlice 47 0 #[]) w fun t6 w1 =>
  V Try.prog (Builtin.append_ #[47, 47] 47 #[t6, t0]) w1 fun t8 w2 =>
  V Try.prog (binOp .geq 3 t1 (Value.int IntKind.i64 0)) w2 fun t10 w3 =>
  ifD t10 (
  V Try.prog (Instr.indexAt 47 t8 t1) w3 fun t13 w4 =>
  U Try.prog (Instr.storeAt 4 t13 (Value.bool true)) w4 fun _ w5 =>
  R t8 w5) (
  R t8 w3)
theorem F18_eq (t0 : Value) (t1 : Value) (w : World) (R : Value → World → Prop) : F18_den t0 t1 w R = vc Try.prog F18_ann (Try.f18.body.getD .skip) (retE Try.prog Try.f18.results.toList R) (argEnv [t0, t1]) w := by kernel_rfl
theorem F18_wp {t0 : Value} {t1 : Value} {w : World} {R : Value → World → Prop} (h : F18_den t0 t1 w R) : callD Try.prog 18 #[t0, t1] w R :=
  callD.of_calls (fn := Try.f18) (c := Try.f18.body.getD .skip) Try.func18 (by kernel_rfl) (by kernel_rfl) (calls_of_vc (args := [t0, t1]) F18_ann mixed Try.func18 (by kernel_rfl) (by kernel_rfl) (F18_eq t0 t1 w R ▸ h))

/-- taciturn/place.leaves -/
def F19_ann : Ann := (Ann.seq Ann.leaf (Ann.seq (Ann.seq Ann.leaf (Ann.block (Ann.seq Ann.leaf (Ann.cond (Ann.seq Ann.leaf Ann.leaf) Ann.leaf)))) (Ann.seq Ann.leaf Ann.leaf)))
def F19_den (t0 : Value) (w : World) (R : Value → World → Prop) : Prop :=
  V Try.prog (Instr.typeAssert t0 54 70 true) w fun t4 w1 =>
  V Try.prog (Instr.extract t4 1) w1 fun t5 w2 =>
  V Try.prog (Instr.extract t4 0) w2 fun t6 w3 =>
  V Try.prog (Instr.typeAssert t0 54 78 true) w3 fun t7 w4 =>
  V Try.prog (Instr.extract t7 1) w4 fun t8 w5 =>
  V Try.prog (Instr.extract t7 0) w5 fun t9 w6 =>
  pickD t5 (Value.bool true) t8 fun t10 =>
  ifD t10 (
  R (Value.bool true) w6) (
  callD Try.prog 25 #[t0] w6 fun t12 w8 =>
  R t12 w8)
theorem F19_eq (t0 : Value) (w : World) (R : Value → World → Prop) : F19_den t0 w R = vc Try.prog F19_ann (Try.f19.body.getD .skip) (retE Try.prog Try.f19.results.toList R) (argEnv [t0]) w := by kernel_rfl
theorem F19_wp {t0 : Value} {w : World} {R : Value → World → Prop} (h : F19_den t0 w R) : callD Try.prog 19 #[t0] w R :=
  callD.of_calls (fn := Try.f19) (c := Try.f19.body.getD .skip) Try.func19 (by kernel_rfl) (by kernel_rfl) (calls_of_vc (args := [t0]) F19_ann mixed Try.func19 (by kernel_rfl) (by kernel_rfl) (F19_eq t0 w R ▸ h))

/-- taciturn/ir.fields -/
def F20_ann : Ann := (Ann.seq Ann.leaf (Ann.seq (Ann.seq Ann.leaf (Ann.block (Ann.seq Ann.leaf (Ann.cond (Ann.seq Ann.leaf (Ann.seq Ann.leaf Ann.leaf)) (Ann.seq Ann.leaf (Ann.cond (Ann.seq Ann.leaf (Ann.seq Ann.leaf Ann.leaf)) (Ann.seq Ann.leaf (Ann.cond (Ann.seq Ann.leaf (Ann.seq Ann.leaf Ann.leaf)) (Ann.seq Ann.leaf (Ann.cond (Ann.seq Ann.leaf (Ann.seq Ann.leaf Ann.leaf)) (Ann.seq Ann.leaf (Ann.cond (Ann.seq Ann.leaf (Ann.seq (Ann.draw [0, 1, 2, 0, 8, 16, 36, 127] [0, 1, 2, 0, 8, 16, 36, 64] 8 (.take 0 (.take 1 (.take 3 (.take 4 (.take 5 (.only 2 (.take 6 (.take 7 .done))))))))) Ann.leaf)) (Ann.seq Ann.leaf (Ann.cond (Ann.seq Ann.leaf (Ann.seq Ann.leaf Ann.leaf)) (Ann.seq Ann.leaf (Ann.cond (Ann.seq Ann.leaf (Ann.seq Ann.leaf Ann.leaf)) Ann.leaf)))))))))))))))) (Ann.seq Ann.leaf Ann.leaf)))
def F20_den (t0 : Value) (w : World) (R : Value → World → Prop) : Prop :=
  V Try.prog (Instr.typeAssert t0 54 36 true) w fun t11 w1 =>
  V Try.prog (Instr.extract t11 1) w1 fun t12 w2 =>
  V Try.prog (Instr.extract t11 0) w2 fun t13 w3 =>
  ifD t12 (
  V Try.prog (Instr.alloc 36 true (.tuple #[])) w3 fun t3 w4 =>
  U Try.prog (Instr.storeAt 36 t3 t13) w4 fun _ w5 =>
  V Try.prog (Instr.fieldAt 36 t3 0) w5 fun t14 w6 =>
  V Try.prog (Instr.loadAt 3 t14) w6 fun t15 w7 =>
  callD Try.prog 26 #[t15] w7 fun t16 w8 =>
  R t16 w8) (
  V Try.prog (Instr.typeAssert t0 54 30 true) w3 fun t17 w9 =>
  V Try.prog (Instr.extract t17 1) w9 fun t18 w10 =>
  V Try.prog (Instr.extract t17 0) w10 fun t19 w11 =>
  ifD t18 (
  V Try.prog (Instr.alloc 30 true (.tuple #[])) w11 fun t4 w12 =>
  U Try.prog (Instr.storeAt 30 t4 t19) w12 fun _ w13 =>
  V Try.prog (Instr.fieldAt 30 t4 0) w13 fun t20 w14 =>
  V Try.prog (Instr.loadAt 3 t20) w14 fun t21 w15 =>
  callD Try.prog 27 #[t21] w15 fun t22 w16 =>
  R t22 w16) (
  V Try.prog (Instr.typeAssert t0 54 70 true) w11 fun t23 w17 =>
  V Try.prog (Instr.extract t23 1) w17 fun t24 w18 =>
  V Try.prog (Instr.extract t23 0) w18 fun t25 w19 =>
  ifD t24 (
  V Try.prog (Instr.alloc 70 true (.tuple #[])) w19 fun t5 w20 =>
  U Try.prog (Instr.storeAt 70 t5 t25) w20 fun _ w21 =>
  V Try.prog (Instr.fieldAt 70 t5 1) w21 fun t26 w22 =>
  V Try.prog (Instr.loadAt 3 t26) w22 fun t27 w23 =>
  callD Try.prog 11 #[t27, (Value.int IntKind.i64 8)] w23 fun t28 w24 =>
  R t28 w24) (
  V Try.prog (Instr.typeAssert t0 54 78 true) w19 fun t29 w25 =>
  V Try.prog (Instr.extract t29 1) w25 fun t30 w26 =>
  V Try.prog (Instr.extract t29 0) w26 fun t31 w27 =>
  ifD t30 (
  V Try.prog (Instr.alloc 78 true (.tuple #[])) w27 fun t6 w28 =>
  U Try.prog (Instr.storeAt 78 t6 t31) w28 fun _ w29 =>
  V Try.prog (Instr.fieldAt 78 t6 0) w29 fun t32 w30 =>
  V Try.prog (Instr.loadAt 3 t32) w30 fun t33 w31 =>
  callD Try.prog 11 #[t33, (Value.int IntKind.i64 8)] w31 fun t34 w32 =>
  R t34 w32) (
  V Try.prog (Instr.typeAssert t0 54 72 true) w27 fun t35 w33 =>
  V Try.prog (Instr.extract t35 1) w33 fun t36 w34 =>
  V Try.prog (Instr.extract t35 0) w34 fun t37 w35 =>
  ifD t36 (
  V Try.prog (Instr.alloc 72 true (.tuple #[])) w35 fun t7 w36 =>
  U Try.prog (Instr.storeAt 72 t7 t37) w36 fun _ w37 =>
  drawD w37 fun S16 w38 =>
  yieldS Try.prog S16 (Instr.fieldAt 72 t7 0) fun t38 =>
  yieldS Try.prog S16 (Instr.loadAt 3 t38) fun t39 =>
  yieldS Try.prog S16 (Instr.fieldAt 72 t7 4) fun t41 =>
  yieldS Try.prog S16 (Instr.loadAt 22 t41) fun t42 =>
  yieldS Try.prog S16 (Builtin.len_ #[22] 3 #[t42]) fun t43 =>
  callD Try.prog 28 #[t39] w38 fun t40 w39 =>
  S16 w39 ∧
  yieldS Try.prog S16 (do eqGuard .eql 3 (Operand.tmp 40) (Operand.tmp 43) t40 t43; binOp .eql 3 t40 t43) fun t44 =>
  R t44 w39) (
  V Try.prog (Instr.typeAssert t0 54 74 true) w35 fun t45 w40 =>
  V Try.prog (Instr.extract t45 1) w40 fun t46 w41 =>
  V Try.prog (Instr.extract t45 0) w41 fun t47 w42 =>
  ifD t46 (
  V Try.prog (Instr.alloc 74 true (.tuple #[])) w42 fun t8 w43 =>
  U Try.prog (Instr.storeAt 74 t8 t47) w43 fun _ w44 =>
  V Try.prog (Instr.fieldAt 74 t8 0) w44 fun t48 w45 =>
  V Try.prog (Instr.loadAt 3 t48) w45 fun t49 w46 =>
  callD Try.prog 11 #[t49, (Value.int IntKind.i64 8)] w46 fun t50 w47 =>
  gd t50 true (fun K => V Try.prog (Instr.fieldAt 74 t8 2) w47 K) w47 fun t52 w48 =>
  gd t50 true (fun K => V Try.prog (Instr.loadAt 22 t52) w48 K) w48 fun t53 w49 =>
  gd t50 true (fun K => V Try.prog (Builtin.len_ #[22] 3 #[t53]) w49 K) w49 fun t54 w50 =>
  gd t50 true (fun K => V Try.prog (binOp .leq 3 t54 (Value.int IntKind.i64 4)) w50 K) w50 fun t55 w51 =>
  pickD t50 t55 (Value.bool false) fun t56 =>
  R t56 w51) (
  V Try.prog (Instr.typeAssert t0 54 76 true) w42 fun t57 w53 =>
  V Try.prog (Instr.extract t57 1) w53 fun t58 w54 =>
  V Try.prog (Instr.extract t57 0) w54 fun t59 w55 =>
  ifD t58 (
  V Try.prog (Instr.alloc 76 true (.tuple #[])) w55 fun t9 w56 =>
  U Try.prog (Instr.storeAt 76 t9 t59) w56 fun _ w57 =>
  V Try.prog (Instr.fieldAt 76 t9 0) w57 fun t60 w58 =>
  V Try.prog (Instr.loadAt 3 t60) w58 fun t61 w59 =>
  callD Try.prog 11 #[t61, (Value.int IntKind.i64 4)] w59 fun t62 w60 =>
  gd t62 true (fun K => V Try.prog (Instr.fieldAt 76 t9 2) w60 K) w60 fun t64 w61 =>
  gd t62 true (fun K => V Try.prog (Instr.loadAt 22 t64) w61 K) w61 fun t65 w62 =>
  gd t62 true (fun K => V Try.prog (Builtin.len_ #[22] 3 #[t65]) w62 K) w62 fun t66 w63 =>
  gd t62 true (fun K => V Try.prog (binOp .leq 3 t66 (Value.int IntKind.i64 4)) w63 K) w63 fun t67 w64 =>
  pickD t62 t67 (Value.bool false) fun t68 =>
  R t68 w64) (
  V Try.prog (do eqGuard .neq 54 (Operand.tmp 69) (Operand.const Value.nilIface) t0 Value.nilIface; binOp .neq 54 t0 Value.nilIface) w55 fun t70 w66 =>
  R t70 w66)))))))
theorem F20_eq (t0 : Value) (w : World) (R : Value → World → Prop) : F20_den t0 w R = vc Try.prog F20_ann (Try.f20.body.getD .skip) (retE Try.prog Try.f20.results.toList R) (argEnv [t0]) w := by kernel_rfl
theorem F20_wp {t0 : Value} {w : World} {R : Value → World → Prop} (h : F20_den t0 w R) : callD Try.prog 20 #[t0] w R :=
  callD.of_calls (fn := Try.f20) (c := Try.f20.body.getD .skip) Try.func20 (by kernel_rfl) (by kernel_rfl) (calls_of_vc (args := [t0]) F20_ann mixed Try.func20 (by kernel_rfl) (by kernel_rfl) (F20_eq t0 w R ▸ h))

/-- taciturn/ir.Uses -/
def F21_ann : Ann := (Ann.seq Ann.leaf (Ann.seq (Ann.seq Ann.leaf (Ann.block (Ann.seq Ann.leaf (Ann.cond (Ann.seq Ann.leaf (Ann.seq Ann.leaf Ann.leaf)) (Ann.seq Ann.leaf (Ann.cond (Ann.seq Ann.leaf (Ann.seq Ann.leaf Ann.leaf)) (Ann.seq Ann.leaf (Ann.cond (Ann.seq Ann.leaf (Ann.seq Ann.leaf Ann.leaf)) (Ann.seq Ann.leaf (Ann.cond (Ann.seq Ann.leaf (Ann.seq Ann.leaf Ann.leaf)) (Ann.seq Ann.leaf (Ann.cond (Ann.seq Ann.leaf (Ann.seq Ann.leaf Ann.leaf)) (Ann.seq Ann.leaf (Ann.cond (Ann.seq Ann.leaf (Ann.seq Ann.leaf Ann.leaf)) (Ann.seq Ann.leaf (Ann.cond (Ann.seq Ann.leaf (Ann.seq Ann.leaf Ann.leaf)) (Ann.seq Ann.leaf (Ann.cond (Ann.seq Ann.leaf (Ann.seq Ann.leaf Ann.leaf)) (Ann.seq Ann.leaf (Ann.cond (Ann.seq Ann.leaf (Ann.seq Ann.leaf Ann.leaf)) (Ann.seq Ann.leaf (Ann.cond (Ann.seq Ann.leaf (Ann.seq Ann.leaf (Ann.cond (Ann.seq Ann.leaf Ann.leaf) Ann.leaf))) Ann.leaf)))))))))))))))))))))) (Ann.seq Ann.leaf Ann.leaf)))
def F21_den (t0 : Value) (w : World) (R : Value → World → Prop) : Prop :=
  V Try.prog (Instr.typeAssert t0 54 34 true) w fun t14 w1 =>
  V Try.prog (Instr.extract t14 1) w1 fun t15 w2 =>
  V Try.prog (Instr.extract t14 0) w2 fun t16 w3 =>
  ifD t15 (
  V Try.prog (Instr.alloc 34 true (.tuple #[])) w3 fun t3 w4 =>
  U Try.prog (Instr.storeAt 34 t3 t16) w4 fun _ w5 =>
  V Try.prog (Instr.fieldAt 34 t3 1) w5 fun t17 w6 =>
  V Try.prog (Instr.loadAt 3 t17) w6 fun t18 w7 =>
  V Try.prog (Instr.buildSlice 22 1 #[(0, t18)]) w7 fun t19 w8 =>
  R t19 w8) (
  V Try.prog (Instr.typeAssert t0 54 36 true) w3 fun t20 w9 =>
  V Try.prog (Instr.extract t20 1) w9 fun t21 w10 =>
  V Try.prog (Instr.extract t20 0) w10 fun t22 w11 =>
  ifD t21 (
  V Try.prog (Instr.alloc 36 true (.tuple #[])) w11 fun t4 w12 =>
  U Try.prog (Instr.storeAt 36 t4 t22) w12 fun _ w13 =>
  V Try.prog (Instr.fieldAt 36 t4 2) w13 fun t23 w14 =>
  V Try.prog (Instr.loadAt 3 t23) w14 fun t24 w15 =>
  V Try.prog (Instr.fieldAt 36 t4 3) w15 fun t25 w16 =>
  V Try.prog (Instr.loadAt 3 t25) w16 fun t26 w17 =>
  V Try.prog (Instr.buildSlice 22 2 #[(0, t24), (1, t26)]) w17 fun t27 w18 =>
  R t27 w18) (
  V Try.prog (Instr.typeAssert t0 54 30 true) w11 fun t28 w19 =>
  V Try.prog (Instr.extract t28 1) w19 fun t29 w20 =>
  V Try.prog (Instr.extract t28 0) w20 fun t30 w21 =>
  ifD t29 (
  V Try.prog (Instr.alloc 30 true (.tuple #[])) w21 fun t5 w22 =>
  U Try.prog (Instr.storeAt 30 t5 t30) w22 fun _ w23 =>
  V Try.prog (Instr.fieldAt 30 t5 2) w23 fun t31 w24 =>
  V Try.prog (Instr.loadAt 3 t31) w24 fun t32 w25 =>
  V Try.prog (Instr.buildSlice 22 1 #[(0, t32)]) w25 fun t33 w26 =>
  R t33 w26) (
  V Try.prog (Instr.typeAssert t0 54 68 true) w21 fun t34 w27 =>
  V Try.prog (Instr.extract t34 1) w27 fun t35 w28 =>
  V Try.prog (Instr.extract t34 0) w28 fun t36 w29 =>
  ifD t35 (
  V Try.prog (Instr.alloc 68 true (.tuple #[])) w29 fun t6 w30 =>
  U Try.prog (Instr.storeAt 68 t6 t36) w30 fun _ w31 =>
  V Try.prog (Instr.fieldAt 68 t6 1) w31 fun t37 w32 =>
  V Try.prog (Instr.loadAt 3 t37) w32 fun t38 w33 =>
  V Try.prog (Instr.fieldAt 68 t6 2) w33 fun t39 w34 =>
  V Try.prog (Instr.loadAt 3 t39) w34 fun t40 w35 =>
  V Try.prog (Instr.fieldAt 68 t6 3) w35 fun t41 w36 =>
  V Try.prog (Instr.loadAt 3 t41) w36 fun t42 w37 =>
  V Try.prog (Instr.buildSlice 22 3 #[(0, t38), (1, t40), (2, t42)]) w37 fun t43 w38 =>
  R t43 w38) (
  V Try.prog (Instr.typeAssert t0 54 82 true) w29 fun t44 w39 =>
  V Try.prog (Instr.extract t44 1) w39 fun t45 w40 =>
  V Try.prog (Instr.extract t44 0) w40 fun t46 w41 =>
  ifD t45 (
  V Try.prog (Instr.alloc 82 true (.tuple #[])) w41 fun t7 w42 =>
  U Try.prog (Instr.storeAt 82 t7 t46) w42 fun _ w43 =>
  V Try.prog (Instr.fieldAt 82 t7 0) w43 fun t47 w44 =>
  V Try.prog (Instr.loadAt 3 t47) w44 fun t48 w45 =>
  V Try.prog (Instr.buildSlice 22 1 #[(0, t48)]) w45 fun t49 w46 =>
  R t49 w46) (
  V Try.prog (Instr.typeAssert t0 54 78 true) w41 fun t50 w47 =>
  V Try.prog (Instr.extract t50 1) w47 fun t51 w48 =>
  V Try.prog (Instr.extract t50 0) w48 fun t52 w49 =>
  ifD t51 (
  V Try.prog (Instr.alloc 78 true (.tuple #[])) w49 fun t8 w50 =>
  U Try.prog (Instr.storeAt 78 t8 t52) w50 fun _ w51 =>
  V Try.prog (Instr.fieldAt 78 t8 1) w51 fun t53 w52 =>
  V Try.prog (Instr.loadAt 3 t53) w52 fun t54 w53 =>
  V Try.prog (Instr.buildSlice 22 1 #[(0, t54)]) w53 fun t55 w54 =>
  R t55 w54) (
  V Try.prog (Instr.typeAssert t0 54 72 true) w49 fun t56 w55 =>
  V Try.prog (Instr.extract t56 1) w55 fun t57 w56 =>
  V Try.prog (Instr.extract t56 0) w56 fun t58 w57 =>
  ifD t57 (
  V Try.prog (Instr.alloc 72 true (.tuple #[])) w57 fun t9 w58 =>
  U Try.prog (Instr.storeAt 72 t9 t58) w58 fun _ w59 =>
  V Try.prog (Instr.fieldAt 72 t9 4) w59 fun t59 w60 =>
  V Try.prog (Instr.loadAt 22 t59) w60 fun t60 w61 =>
  callD Try.prog 29 #[t60] w61 fun t61 w62 =>
  R t61 w62) (
  V Try.prog (Instr.typeAssert t0 54 74 true) w57 fun t62 w63 =>
  V Try.prog (Instr.extract t62 1) w63 fun t63 w64 =>
  V Try.prog (Instr.extract t62 0) w64 fun t64 w65 =>
  ifD t63 (
  V Try.prog (Instr.alloc 74 true (.tuple #[])) w65 fun t10 w66 =>
  U Try.prog (Instr.storeAt 74 t10 t64) w66 fun _ w67 =>
  V Try.prog (Instr.fieldAt 74 t10 2) w67 fun t65 w68 =>
  V Try.prog (Instr.loadAt 22 t65) w68 fun t66 w69 =>
  callD Try.prog 29 #[t66] w69 fun t67 w70 =>
  R t67 w70) (
  V Try.prog (Instr.typeAssert t0 54 76 true) w65 fun t68 w71 =>
  V Try.prog (Instr.extract t68 1) w71 fun t69 w72 =>
  V Try.prog (Instr.extract t68 0) w72 fun t70 w73 =>
  ifD t69 (
  V Try.prog (Instr.alloc 76 true (.tuple #[])) w73 fun t11 w74 =>
  U Try.prog (Instr.storeAt 76 t11 t70) w74 fun _ w75 =>
  V Try.prog (Instr.fieldAt 76 t11 2) w75 fun t71 w76 =>
  V Try.prog (Instr.loadAt 22 t71) w76 fun t72 w77 =>
  callD Try.prog 29 #[t72] w77 fun t73 w78 =>
  R t73 w78) (
  V Try.prog (Instr.typeAssert t0 54 38 true) w73 fun t74 w79 =>
  V Try.prog (Instr.extract t74 1) w79 fun t75 w80 =>
  V Try.prog (Instr.extract t74 0) w80 fun t76 w81 =>
  ifD t75 (
  V Try.prog (Instr.alloc 38 true (.tuple #[])) w81 fun t12 w82 =>
  U Try.prog (Instr.storeAt 38 t12 t76) w82 fun _ w83 =>
  V Try.prog (Instr.fieldAt 38 t12 0) w83 fun t77 w84 =>
  V Try.prog (Instr.loadAt 3 t77) w84 fun t78 w85 =>
  V Try.prog (do eqGuard .neq 3 (Operand.tmp 78) (Operand.const (Value.int IntKind.i64 (-1))) t78 (Value.int IntKind.i64 (-1)); binOp .neq 3 t78 (Value.int IntKind.i64 (-1))) w85 fun t79 w86 =>
  ifD t79 (
  V Try.prog (Instr.fieldAt 38 t12 0) w86 fun t80 w87 =>
  V Try.prog (Instr.loadAt 3 t80) w87 fun t81 w88 =>
  V Try.prog (Instr.buildSlice 22 1 #[(0, t81)]) w88 fun t82 w89 =>
  R t82 w89) (
  R (Value.slice none 0 0) w86)) (
  R (Value.slice none 0 0) w81))))))))))
theorem F21_eq (t0 : Value) (w : World) (R : Value → World → Prop) : F21_den t0 w R = vc Try.prog F21_ann (Try.f21.body.getD .skip) (retE Try.prog Try.f21.results.toList R) (argEnv [t0]) w := by kernel_rfl
theorem F21_wp {t0 : Value} {w : World} {R : Value → World → Prop} (h : F21_den t0 w R) : callD Try.prog 21 #[t0] w R :=
  callD.of_calls (fn := Try.f21) (c := Try.f21.body.getD .skip) Try.func21 (by kernel_rfl) (by kernel_rfl) (calls_of_vc (args := [t0]) F21_ann mixed Try.func21 (by kernel_rfl) (by kernel_rfl) (F21_eq t0 w R ▸ h))

/-- taciturn/ir.Next -/
def F22_ann : Ann := (Ann.seq Ann.leaf (Ann.seq (Ann.seq Ann.leaf (Ann.block (Ann.seq Ann.leaf (Ann.cond (Ann.seq Ann.leaf (Ann.seq Ann.leaf Ann.leaf)) (Ann.seq Ann.leaf (Ann.cond (Ann.seq Ann.leaf (Ann.seq Ann.leaf Ann.leaf)) (Ann.seq Ann.leaf (Ann.cond (Ann.seq Ann.leaf (Ann.seq Ann.leaf (Ann.cond (Ann.seq Ann.leaf Ann.leaf) Ann.leaf))) (Ann.seq Ann.leaf (Ann.cond (Ann.seq Ann.leaf (Ann.seq Ann.leaf Ann.leaf)) Ann.leaf)))))))))) (Ann.seq Ann.leaf Ann.leaf)))
def F22_den (t0 : Value) (t1 : Value) (w : World) (R : Value → World → Prop) : Prop :=
  V Try.prog (do eqGuard .eql 54 (Operand.tmp 9) (Operand.const Value.nilIface) t0 Value.nilIface; binOp .eql 54 t0 Value.nilIface) w fun t10 w1 =>
  ifD t10 (
  R (Value.slice none 0 0) w1) (
  V Try.prog (Instr.typeAssert t0 54 85 true) w1 fun t11 w2 =>
  V Try.prog (Instr.extract t11 1) w2 fun t12 w3 =>
  V Try.prog (Instr.extract t11 0) w3 fun t13 w4 =>
  ifD t12 (
  V Try.prog (Instr.alloc 85 true (.tuple #[])) w4 fun t6 w5 =>
  U Try.prog (Instr.storeAt 85 t6 t13) w5 fun _ w6 =>
  V Try.prog (Instr.fieldAt 85 t6 0) w6 fun t14 w7 =>
  V Try.prog (Instr.loadAt 3 t14) w7 fun t15 w8 =>
  V Try.prog (Instr.buildSlice 22 1 #[(0, t15)]) w8 fun t16 w9 =>
  R t16 w9) (
  V Try.prog (Instr.typeAssert t0 54 82 true) w4 fun t17 w10 =>
  V Try.prog (Instr.extract t17 1) w10 fun t18 w11 =>
  V Try.prog (Instr.extract t17 0) w11 fun t19 w12 =>
  ifD t18 (
  V Try.prog (Instr.alloc 82 true (.tuple #[])) w12 fun t7 w13 =>
  U Try.prog (Instr.storeAt 82 t7 t19) w13 fun _ w14 =>
  V Try.prog (Instr.fieldAt 82 t7 1) w14 fun t20 w15 =>
  V Try.prog (Instr.loadAt 3 t20) w15 fun t21 w16 =>
  V Try.prog (binOp .add 3 t1 (Value.int IntKind.i64 1)) w16 fun t23 w17 =>
  V Try.prog (do eqGuard .neq 3 (Operand.tmp 21) (Operand.tmp 23) t21 t23; binOp .neq 3 t21 t23) w17 fun t24 w18 =>
  ifD t24 (
  V Try.prog (binOp .add 3 t1 (Value.int IntKind.i64 1)) w18 fun t26 w19 =>
  V Try.prog (Instr.fieldAt 82 t7 1) w19 fun t27 w20 =>
  V Try.prog (Instr.loadAt 3 t27) w20 fun t28 w21 =>
  V Try.prog (Instr.buildSlice 22 2 #[(0, t26), (1, t28)]) w21 fun t29 w22 =>
  R t29 w22) (
  V Try.prog (binOp .add 3 t1 (Value.int IntKind.i64 1)) w18 fun t34 w23 =>
  V Try.prog (Instr.buildSlice 22 1 #[(0, t34)]) w23 fun t35 w24 =>
  R t35 w24)) (
  V Try.prog (Instr.typeAssert t0 54 38 true) w12 fun t30 w25 =>
  V Try.prog (Instr.extract t30 1) w25 fun t31 w26 =>
  V Try.prog (Instr.extract t30 0) w26 fun t32 w27 =>
  ifD t31 (
  V Try.prog (Instr.alloc 38 true (.tuple #[])) w27 fun t8 w28 =>
  U Try.prog (Instr.storeAt 38 t8 t32) w28 fun _ w29 =>
  R (Value.slice none 0 0) w29) (
  V Try.prog (binOp .add 3 t1 (Value.int IntKind.i64 1)) w27 fun t34_1 w30 =>
  V Try.prog (Instr.buildSlice 22 1 #[(0, t34_1)]) w30 fun t35_1 w31 =>
  R t35_1 w31))))
theorem F22_eq (t0 : Value) (t1 : Value) (w : World) (R : Value → World → Prop) : F22_den t0 t1 w R = vc Try.prog F22_ann (Try.f22.body.getD .skip) (retE Try.prog Try.f22.results.toList R) (argEnv [t0, t1]) w := by kernel_rfl
theorem F22_wp {t0 : Value} {t1 : Value} {w : World} {R : Value → World → Prop} (h : F22_den t0 t1 w R) : callD Try.prog 22 #[t0, t1] w R :=
  callD.of_calls (fn := Try.f22) (c := Try.f22.body.getD .skip) Try.func22 (by kernel_rfl) (by kernel_rfl) (calls_of_vc (args := [t0, t1]) F22_ann mixed Try.func22 (by kernel_rfl) (by kernel_rfl) (F22_eq t0 t1 w R ▸ h))

/-- taciturn/ir.bare -/
def F23_ann : Ann := (Ann.seq Ann.leaf (Ann.seq (Ann.seq Ann.leaf (Ann.block (Ann.seq Ann.leaf (Ann.cond (Ann.seq Ann.leaf Ann.leaf) Ann.leaf)))) (Ann.seq Ann.leaf Ann.leaf)))
def F23_den (t0 : Value) (w : World) (R : Value → World → Prop) : Prop :=
  V Try.prog (Instr.typeAssert t0 54 27 true) w fun t4 w1 =>
  V Try.prog (Instr.extract t4 1) w1 fun t5 w2 =>
  V Try.prog (Instr.extract t4 0) w2 fun t6 w3 =>
  V Try.prog (Instr.typeAssert t0 54 34 true) w3 fun t7 w4 =>
  V Try.prog (Instr.extract t7 1) w4 fun t8 w5 =>
  V Try.prog (Instr.extract t7 0) w5 fun t9 w6 =>
  V Try.prog (Instr.typeAssert t0 54 36 true) w6 fun t10 w7 =>
  V Try.prog (Instr.extract t10 1) w7 fun t11 w8 =>
  V Try.prog (Instr.extract t10 0) w8 fun t12 w9 =>
  V Try.prog (Instr.typeAssert t0 54 30 true) w9 fun t13 w10 =>
  V Try.prog (Instr.extract t13 1) w10 fun t14 w11 =>
  V Try.prog (Instr.extract t13 0) w11 fun t15 w12 =>
  V Try.prog (Instr.typeAssert t0 54 68 true) w12 fun t16 w13 =>
  V Try.prog (Instr.extract t16 1) w13 fun t17 w14 =>
  V Try.prog (Instr.extract t16 0) w14 fun t18 w15 =>
  V Try.prog (Instr.typeAssert t0 54 70 true) w15 fun t19 w16 =>
  V Try.prog (Instr.extract t19 1) w16 fun t20 w17 =>
  V Try.prog (Instr.extract t19 0) w17 fun t21 w18 =>
  pickD t17 (Value.bool true) t20 fun t22 =>
  pickD t14 (Value.bool true) t22 fun t23 =>
  pickD t11 (Value.bool true) t23 fun t24 =>
  pickD t8 (Value.bool true) t24 fun t25 =>
  pickD t5 (Value.bool true) t25 fun t26 =>
  ifD t26 (
  R (Value.bool false) w18) (
  R (Value.bool true) w18)
theorem F23_eq (t0 : Value) (w : World) (R : Value → World → Prop) : F23_den t0 w R = vc Try.prog F23_ann (Try.f23.body.getD .skip) (retE Try.prog Try.f23.results.toList R) (argEnv [t0]) w := by kernel_rfl
theorem F23_wp {t0 : Value} {w : World} {R : Value → World → Prop} (h : F23_den t0 w R) : callD Try.prog 23 #[t0] w R :=
  callD.of_calls (fn := Try.f23) (c := Try.f23.body.getD .skip) Try.func23 (by kernel_rfl) (by kernel_rfl) (calls_of_vc (args := [t0]) F23_ann mixed Try.func23 (by kernel_rfl) (by kernel_rfl) (F23_eq t0 w R ▸ h))

/-- taciturn/live.ahead -/
def F24_ann : Ann := (Ann.seq Ann.leaf (Ann.seq Ann.leaf (Ann.join [6, 11, 12, 13, 14, 15, 16, 17] [] (Ann.seq Ann.leaf (Ann.seq Ann.leaf (Ann.cond Ann.leaf Ann.leaf))) (Ann.seq (Ann.seq Ann.leaf (Ann.block (Ann.loop [8, 21, 22, 23, 24, 25, 26, 27, 28] [21] (Ann.seq Ann.leaf (Ann.seq (Ann.cond Ann.leaf Ann.leaf) (Ann.seq (Ann.block (Ann.seq Ann.leaf Ann.leaf)) Ann.leaf)))))) (Ann.seq Ann.leaf Ann.leaf)))))
def F24_den (t0 : Value) (t1 : Value) (w : World) (R : Value → World → Prop) : Prop :=
  callD Try.prog 30 #[t1] w fun t10 w1 =>
  ∃ J1 : NP 0,
  (callD Try.prog 17 #[t0] w1 fun t12 w2 =>
  V Try.prog (binOp .geq 3 t12 (Value.int IntKind.i64 0)) w2 fun t14 w3 =>
  ifD t14 (
  V Try.prog (Instr.indexAt 47 t10 t12) w3 fun t17 w4 =>
  U Try.prog (Instr.storeAt 4 t17 (Value.bool false)) w4 fun _ w5 =>
  J1 w5) (
  J1 w3)) ∧
  ∀ w6 : World, J1 w6 → ∀ _f : Env,
  callD Try.prog 21 #[t0] w6 fun t19 w7 =>
  V Try.prog (Builtin.len_ #[22] 3 #[t19]) w7 fun t20 w8 =>
  ∃ (I2 : NP 1) (μ2 : NF 1), I2 (Value.int IntKind.i64 0) w8 ∧
  ∀ (t21 : Value), ∀ w9 : World, I2 t21 w9 → ∀ _f : Env,
  V Try.prog (binOp .lss 3 t21 t20) w9 fun t22 w10 =>
  ifD t22 (
  V Try.prog (Instr.indexAt 22 t19 t21) w10 fun t23 w11 =>
  V Try.prog (Instr.loadAt 3 t23) w11 fun t24 w12 =>
  V Try.prog (Instr.indexAt 47 t10 t24) w12 fun t27 w13 =>
  U Try.prog (Instr.storeAt 4 t27 (Value.bool true)) w13 fun _ w14 =>
  V Try.prog (binOp .add 3 t21 (Value.int IntKind.i64 1)) w14 fun t28 w15 =>
  I2 t28 w15 ∧ μ2 t28 w15 < μ2 t21 w9) (
  R t10 w10)
theorem F24_eq (t0 : Value) (t1 : Value) (w : World) (R : Value → World → Prop) : F24_den t0 t1 w R = vc Try.prog F24_ann (Try.f24.body.getD .skip) (retE Try.prog Try.f24.results.toList R) (argEnv [t0, t1]) w := by kernel_rfl
theorem F24_wp {t0 : Value} {t1 : Value} {w : World} {R : Value → World → Prop} (h : F24_den t0 t1 w R) : callD Try.prog 24 #[t0, t1] w R :=
  callD.of_calls (fn := Try.f24) (c := Try.f24.body.getD .skip) Try.func24 (by kernel_rfl) (by kernel_rfl) (calls_of_vc (args := [t0, t1]) F24_ann mixed Try.func24 (by kernel_rfl) (by kernel_rfl) (F24_eq t0 t1 w R ▸ h))

/-- taciturn/ir.Pure -/
def F25_ann : Ann := (Ann.seq Ann.leaf (Ann.seq (Ann.seq Ann.leaf (Ann.block (Ann.seq Ann.leaf (Ann.cond (Ann.seq Ann.leaf Ann.leaf) Ann.leaf)))) (Ann.seq Ann.leaf Ann.leaf)))
def F25_den (t0 : Value) (w : World) (R : Value → World → Prop) : Prop :=
  V Try.prog (Instr.typeAssert t0 54 27 true) w fun t4 w1 =>
  V Try.prog (Instr.extract t4 1) w1 fun t5 w2 =>
  V Try.prog (Instr.extract t4 0) w2 fun t6 w3 =>
  V Try.prog (Instr.typeAssert t0 54 34 true) w3 fun t7 w4 =>
  V Try.prog (Instr.extract t7 1) w4 fun t8 w5 =>
  V Try.prog (Instr.extract t7 0) w5 fun t9 w6 =>
  V Try.prog (Instr.typeAssert t0 54 36 true) w6 fun t10 w7 =>
  V Try.prog (Instr.extract t10 1) w7 fun t11 w8 =>
  V Try.prog (Instr.extract t10 0) w8 fun t12 w9 =>
  V Try.prog (Instr.typeAssert t0 54 30 true) w9 fun t13 w10 =>
  V Try.prog (Instr.extract t13 1) w10 fun t14 w11 =>
  V Try.prog (Instr.extract t13 0) w11 fun t15 w12 =>
  V Try.prog (Instr.typeAssert t0 54 68 true) w12 fun t16 w13 =>
  V Try.prog (Instr.extract t16 1) w13 fun t17 w14 =>
  V Try.prog (Instr.extract t16 0) w14 fun t18 w15 =>
  V Try.prog (Instr.typeAssert t0 54 32 true) w15 fun t19 w16 =>
  V Try.prog (Instr.extract t19 1) w16 fun t20 w17 =>
  V Try.prog (Instr.extract t19 0) w17 fun t21 w18 =>
  V Try.prog (Instr.typeAssert t0 54 85 true) w18 fun t22 w19 =>
  V Try.prog (Instr.extract t22 1) w19 fun t23 w20 =>
  V Try.prog (Instr.extract t22 0) w20 fun t24 w21 =>
  V Try.prog (Instr.typeAssert t0 54 82 true) w21 fun t25 w22 =>
  V Try.prog (Instr.extract t25 1) w22 fun t26 w23 =>
  V Try.prog (Instr.extract t25 0) w23 fun t27 w24 =>
  pickD t23 (Value.bool true) t26 fun t28 =>
  pickD t20 (Value.bool true) t28 fun t29 =>
  pickD t17 (Value.bool true) t29 fun t30 =>
  pickD t14 (Value.bool true) t30 fun t31 =>
  pickD t11 (Value.bool true) t31 fun t32 =>
  pickD t8 (Value.bool true) t32 fun t33 =>
  pickD t5 (Value.bool true) t33 fun t34 =>
  ifD t34 (
  R (Value.bool true) w24) (
  R (Value.bool false) w24)
theorem F25_eq (t0 : Value) (w : World) (R : Value → World → Prop) : F25_den t0 w R = vc Try.prog F25_ann (Try.f25.body.getD .skip) (retE Try.prog Try.f25.results.toList R) (argEnv [t0]) w := by kernel_rfl
theorem F25_wp {t0 : Value} {w : World} {R : Value → World → Prop} (h : F25_den t0 w R) : callD Try.prog 25 #[t0] w R :=
  callD.of_calls (fn := Try.f25) (c := Try.f25.body.getD .skip) Try.func25 (by kernel_rfl) (by kernel_rfl) (calls_of_vc (args := [t0]) F25_ann mixed Try.func25 (by kernel_rfl) (by kernel_rfl) (F25_eq t0 w R ▸ h))

/-- taciturn/ir.binary -/
def F26_ann : Ann := (Ann.seq Ann.leaf (Ann.seq Ann.leaf Ann.leaf))
def F26_den (t0 : Value) (w : World) (R : Value → World → Prop) : Prop :=
  V Try.prog (binOp .geq 3 t0 (Value.int IntKind.i64 6)) w fun t4 w1 =>
  gd t4 true (fun K => K t0 w1) w1 fun t6 w2 =>
  gd t4 true (fun K => V Try.prog (binOp .leq 3 t6 (Value.int IntKind.i64 14)) w2 K) w2 fun t7 w3 =>
  pickD t4 t7 (Value.bool false) fun t8 =>
  gd t8 false (fun K => K t0 w3) w3 fun t10 w5 =>
  gd t8 false (fun K => V Try.prog (binOp .geq 3 t10 (Value.int IntKind.i64 19)) w5 K) w5 fun t11 w6 =>
  gd t8 false (fun K => K t11 w6) w6 fun t12 w7 =>
  gd t12 true (fun K => K t0 w7) w7 fun t13 w8 =>
  gd t12 true (fun K => V Try.prog (binOp .leq 3 t13 (Value.int IntKind.i64 21)) w8 K) w8 fun t14 w9 =>
  gd t8 false (fun K => pickD t12 t14 (Value.bool false) fun v => K v w9) w9 fun t15 w10 =>
  pickD t8 (Value.bool true) t15 fun t16 =>
  R t16 w10
theorem F26_eq (t0 : Value) (w : World) (R : Value → World → Prop) : F26_den t0 w R = vc Try.prog F26_ann (Try.f26.body.getD .skip) (retE Try.prog Try.f26.results.toList R) (argEnv [t0]) w := by kernel_rfl
theorem F26_wp {t0 : Value} {w : World} {R : Value → World → Prop} (h : F26_den t0 w R) : callD Try.prog 26 #[t0] w R :=
  callD.of_calls (fn := Try.f26) (c := Try.f26.body.getD .skip) Try.func26 (by kernel_rfl) (by kernel_rfl) (calls_of_vc (args := [t0]) F26_ann mixed Try.func26 (by kernel_rfl) (by kernel_rfl) (F26_eq t0 w R ▸ h))

/-- taciturn/ir.unary -/
def F27_ann : Ann := (Ann.seq Ann.leaf (Ann.seq Ann.leaf Ann.leaf))
def F27_den (t0 : Value) (w : World) (R : Value → World → Prop) : Prop :=
  V Try.prog (do eqGuard .eql 3 (Operand.tmp 3) (Operand.const (Value.int IntKind.i64 15)) t0 (Value.int IntKind.i64 15); binOp .eql 3 t0 (Value.int IntKind.i64 15)) w fun t4 w1 =>
  gd t4 false (fun K => K t0 w1) w1 fun t6 w2 =>
  gd t4 false (fun K => V Try.prog (do eqGuard .eql 3 (Operand.tmp 6) (Operand.const (Value.int IntKind.i64 16)) t6 (Value.int IntKind.i64 16); binOp .eql 3 t6 (Value.int IntKind.i64 16)) w2 K) w2 fun t7 w3 =>
  pickD t4 (Value.bool true) t7 fun t8 =>
  gd t8 false (fun K => K t0 w3) w3 fun t10 w5 =>
  gd t8 false (fun K => V Try.prog (do eqGuard .eql 3 (Operand.tmp 10) (Operand.const (Value.int IntKind.i64 26)) t10 (Value.int IntKind.i64 26); binOp .eql 3 t10 (Value.int IntKind.i64 26)) w5 K) w5 fun t11 w6 =>
  pickD t8 (Value.bool true) t11 fun t12 =>
  R t12 w6
theorem F27_eq (t0 : Value) (w : World) (R : Value → World → Prop) : F27_den t0 w R = vc Try.prog F27_ann (Try.f27.body.getD .skip) (retE Try.prog Try.f27.results.toList R) (argEnv [t0]) w := by kernel_rfl
theorem F27_wp {t0 : Value} {w : World} {R : Value → World → Prop} (h : F27_den t0 w R) : callD Try.prog 27 #[t0] w R :=
  callD.of_calls (fn := Try.f27) (c := Try.f27.body.getD .skip) Try.func27 (by kernel_rfl) (by kernel_rfl) (calls_of_vc (args := [t0]) F27_ann mixed Try.func27 (by kernel_rfl) (by kernel_rfl) (F27_eq t0 w R ▸ h))

/-- taciturn/ir.serves -/
def F28_ann : Ann := (Ann.seq Ann.leaf (Ann.seq (Ann.seq Ann.leaf (Ann.block (Ann.join [4, 5, 6] [4] (Ann.seq Ann.leaf (Ann.cond Ann.leaf Ann.leaf)) (Ann.cond (Ann.seq Ann.leaf Ann.leaf) (Ann.join [7, 8, 9, 10] [7] (Ann.seq Ann.leaf (Ann.cond Ann.leaf (Ann.seq Ann.leaf (Ann.cond Ann.leaf Ann.leaf)))) (Ann.cond (Ann.seq Ann.leaf Ann.leaf) (Ann.join [11, 12, 13] [11] (Ann.seq Ann.leaf (Ann.cond Ann.leaf Ann.leaf)) (Ann.cond (Ann.seq Ann.leaf Ann.leaf) (Ann.seq (Ann.seq Ann.leaf (Ann.cond Ann.leaf Ann.leaf)) (Ann.cond (Ann.seq Ann.leaf Ann.leaf) Ann.leaf)))))))))) (Ann.seq Ann.leaf Ann.leaf)))
def F28_den (t0 : Value) (w : World) (R : Value → World → Prop) : Prop :=
  ∃ J1 : NP 1,
  (V Try.prog (do eqGuard .eql 3 (Operand.tmp 3) (Operand.const (Value.int IntKind.i64 27)) t0 (Value.int IntKind.i64 27); binOp .eql 3 t0 (Value.int IntKind.i64 27)) w fun t5 w1 =>
  ifD t5 (
  J1 t5 w1) (
  V Try.prog (do eqGuard .eql 3 (Operand.tmp 3) (Operand.const (Value.int IntKind.i64 28)) t0 (Value.int IntKind.i64 28); binOp .eql 3 t0 (Value.int IntKind.i64 28)) w1 fun t6 w2 =>
  J1 t6 w2)) ∧
  ∀ (t4 : Value), ∀ w3 : World, J1 t4 w3 → ∀ _f : Env,
  ifD t4 (
  R (Value.int IntKind.i64 1) w3) (
  ∃ J2 : NP 1,
  (V Try.prog (do eqGuard .eql 3 (Operand.tmp 3) (Operand.const (Value.int IntKind.i64 17)) t0 (Value.int IntKind.i64 17); binOp .eql 3 t0 (Value.int IntKind.i64 17)) w3 fun t8 w4 =>
  ifD t8 (
  J2 t8 w4) (
  V Try.prog (do eqGuard .eql 3 (Operand.tmp 3) (Operand.const (Value.int IntKind.i64 18)) t0 (Value.int IntKind.i64 18); binOp .eql 3 t0 (Value.int IntKind.i64 18)) w4 fun t9 w5 =>
  ifD t9 (
  J2 t9 w5) (
  V Try.prog (do eqGuard .eql 3 (Operand.tmp 3) (Operand.const (Value.int IntKind.i64 29)) t0 (Value.int IntKind.i64 29); binOp .eql 3 t0 (Value.int IntKind.i64 29)) w5 fun t10 w6 =>
  J2 t10 w6))) ∧
  ∀ (t7 : Value), ∀ w7 : World, J2 t7 w7 → ∀ _f : Env,
  ifD t7 (
  R (Value.int IntKind.i64 2) w7) (
  ∃ J3 : NP 1,
  (V Try.prog (do eqGuard .eql 3 (Operand.tmp 3) (Operand.const (Value.int IntKind.i64 30)) t0 (Value.int IntKind.i64 30); binOp .eql 3 t0 (Value.int IntKind.i64 30)) w7 fun t12 w8 =>
  ifD t12 (
  J3 t12 w8) (
  V Try.prog (do eqGuard .eql 3 (Operand.tmp 3) (Operand.const (Value.int IntKind.i64 36)) t0 (Value.int IntKind.i64 36); binOp .eql 3 t0 (Value.int IntKind.i64 36)) w8 fun t13 w9 =>
  J3 t13 w9)) ∧
  ∀ (t11 : Value), ∀ w10 : World, J3 t11 w10 → ∀ _f : Env,
  ifD t11 (
  R (Value.int IntKind.i64 3) w10) (
  V Try.prog (do eqGuard .eql 3 (Operand.tmp 3) (Operand.const (Value.int IntKind.i64 31)) t0 (Value.int IntKind.i64 31); binOp .eql 3 t0 (Value.int IntKind.i64 31)) w10 fun t15 w11 =>
  ifD t15 (
  ifD t15 (
  R (Value.int IntKind.i64 5) w11) (
  R (Value.int IntKind.i64 (-1)) w11)) (
  V Try.prog (do eqGuard .eql 3 (Operand.tmp 3) (Operand.const (Value.int IntKind.i64 32)) t0 (Value.int IntKind.i64 32); binOp .eql 3 t0 (Value.int IntKind.i64 32)) w11 fun t16 w12 =>
  ifD t16 (
  R (Value.int IntKind.i64 5) w12) (
  R (Value.int IntKind.i64 (-1)) w12)))))
theorem F28_eq (t0 : Value) (w : World) (R : Value → World → Prop) : F28_den t0 w R = vc Try.prog F28_ann (Try.f28.body.getD .skip) (retE Try.prog Try.f28.results.toList R) (argEnv [t0]) w := by kernel_rfl
theorem F28_wp {t0 : Value} {w : World} {R : Value → World → Prop} (h : F28_den t0 w R) : callD Try.prog 28 #[t0] w R :=
  callD.of_calls (fn := Try.f28) (c := Try.f28.body.getD .skip) Try.func28 (by kernel_rfl) (by kernel_rfl) (calls_of_vc (args := [t0]) F28_ann mixed Try.func28 (by kernel_rfl) (by kernel_rfl) (F28_eq t0 w R ▸ h))

/-- slices.Clone[[]int,int] -/
def F29_ann : Ann := (Ann.seq Ann.leaf (Ann.seq (Ann.seq Ann.leaf (Ann.cond (Ann.seq Ann.leaf Ann.leaf) Ann.leaf)) (Ann.seq Ann.leaf Ann.leaf)))
def F29_den (t0 : Value) (w : World) (R : Value → World → Prop) : Prop :=
  V Try.prog (do eqGuard .eql 22 (Operand.tmp 3) (Operand.const (Value.slice none 0 0)) t0 (Value.slice none 0 0); binOp .eql 22 t0 (Value.slice none 0 0)) w fun t4 w1 =>
  ifD t4 (
  R (Value.slice none 0 0) w1) (
  V Try.prog (Instr.buildSlice 22 0 #[]) w1 fun t5 w2 =>
  V Try.prog (Builtin.append_ #[22, 22] 22 #[t5, t0]) w2 fun t7 w3 =>
  R t7 w3)
theorem F29_eq (t0 : Value) (w : World) (R : Value → World → Prop) : F29_den t0 w R = vc Try.prog F29_ann (Try.f29.body.getD .skip) (retE Try.prog Try.f29.results.toList R) (argEnv [t0]) w := by kernel_rfl
theorem F29_wp {t0 : Value} {w : World} {R : Value → World → Prop} (h : F29_den t0 w R) : callD Try.prog 29 #[t0] w R :=
  callD.of_calls (fn := Try.f29) (c := Try.f29.body.getD .skip) Try.func29 (by kernel_rfl) (by kernel_rfl) (calls_of_vc (args := [t0]) F29_ann mixed Try.func29 (by kernel_rfl) (by kernel_rfl) (F29_eq t0 w R ▸ h))

/-- slices.Clone[[]bool,bool] -/
def F30_ann : Ann := (Ann.seq Ann.leaf (Ann.seq (Ann.seq Ann.leaf (Ann.cond (Ann.seq Ann.leaf Ann.leaf) Ann.leaf)) (Ann.seq Ann.leaf Ann.leaf)))
def F30_den (t0 : Value) (w : World) (R : Value → World → Prop) : Prop :=
  V Try.prog (do eqGuard .eql 47 (Operand.tmp 3) (Operand.const (Value.slice none 0 0)) t0 (Value.slice none 0 0); binOp .eql 47 t0 (Value.slice none 0 0)) w fun t4 w1 =>
  ifD t4 (
  R (Value.slice none 0 0) w1) (
  V Try.prog (Instr.buildSlice 47 0 #[]) w1 fun t5 w2 =>
  V Try.prog (Builtin.append_ #[47, 47] 47 #[t5, t0]) w2 fun t7 w3 =>
  R t7 w3)
theorem F30_eq (t0 : Value) (w : World) (R : Value → World → Prop) : F30_den t0 w R = vc Try.prog F30_ann (Try.f30.body.getD .skip) (retE Try.prog Try.f30.results.toList R) (argEnv [t0]) w := by kernel_rfl
theorem F30_wp {t0 : Value} {w : World} {R : Value → World → Prop} (h : F30_den t0 w R) : callD Try.prog 30 #[t0] w R :=
  callD.of_calls (fn := Try.f30) (c := Try.f30.body.getD .skip) Try.func30 (by kernel_rfl) (by kernel_rfl) (calls_of_vc (args := [t0]) F30_ann mixed Try.func30 (by kernel_rfl) (by kernel_rfl) (F30_eq t0 w R ▸ h))

end Go.Proofs.Ytendijaeihljeaa
