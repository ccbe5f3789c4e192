/- Each function's body, opened into a plain condition by program (vcgen.py); the kernel holds the one against the other. -/
import Derived.Test.YtbhnelajekgliaaLaws
import Derived.Test.YtbhnelajekgliaaProg
import Derived.KernelRfl
namespace Go.Proofs.Ytbhnelajekgliaa
open Go.Vc
theorem mixed : Try.prog.follows .mixedOrders = true := by kernel_rfl
/-- taciturn/taciturnlaw13.InterpSums -/
def F3_ann : Ann := (Ann.seq Ann.leaf (Ann.seq Ann.leaf (Ann.seq Ann.leaf (Ann.seq Ann.leaf (Ann.seq (Ann.seq Ann.leaf (Ann.block (Ann.loop [5, 6, 8, 9, 15, 16, 17, 18, 19, 20, 21, 22, 23, 24, 25, 26, 27, 28, 29, 30, 31, 32, 33, 34, 35, 36, 37, 38, 39, 40, 41, 42, 43, 44, 45, 46, 47, 48, 49, 50, 51, 52, 53, 54, 55, 56, 57, 58, 59, 60, 61] [5, 6, 8] (Ann.seq (Ann.seq Ann.leaf (Ann.cond Ann.leaf Ann.leaf)) (Ann.seq (Ann.block (Ann.seq Ann.leaf (Ann.seq (Ann.seq Ann.leaf (Ann.cond (Ann.seq Ann.leaf Ann.leaf) Ann.leaf)) (Ann.seq Ann.leaf (Ann.join [9, 39, 40, 41, 42, 43, 44, 45, 46, 47, 48, 49] [9] (Ann.seq Ann.leaf (Ann.cond Ann.leaf Ann.leaf)) (Ann.seq Ann.leaf Ann.leaf)))))) Ann.leaf))))) (Ann.join [5, 62, 63, 64, 65, 66, 67, 68] [5] (Ann.seq Ann.leaf (Ann.cond Ann.leaf Ann.leaf)) (Ann.seq Ann.leaf (Ann.seq Ann.leaf (Ann.seq (Ann.seq Ann.leaf (Ann.cond (Ann.seq Ann.leaf Ann.leaf) Ann.leaf)) (Ann.seq Ann.leaf (Ann.seq Ann.leaf Ann.leaf)))))))))))
def F3_den (t0 : Value) (t1 : Value) (w : World) (R : Value → World → Prop) : Prop :=
  V Try.prog (Instr.build 25 #[(0, (Value.int IntKind.i64 6)), (1, (Value.int IntKind.i64 7)), (2, (Value.int IntKind.i64 8)), (3, (Value.int IntKind.i64 9)), (4, (Value.int IntKind.i64 10)), (5, (Value.int IntKind.i64 11)), (6, (Value.int IntKind.i64 12)), (7, (Value.int IntKind.i64 13)), (8, (Value.int IntKind.i64 14)), (9, (Value.int IntKind.i64 20))]) w fun t14 w1 =>
  V Try.prog (Instr.alloc 25 true (.tuple #[])) w1 fun t7 w2 =>
  U Try.prog (Instr.storeAt 25 t7 t14) w2 fun _ w3 =>
  ∃ (I1 : NP 3) (μ1 : NF 3), I1 (Value.slice none 0 0) (Value.int IntKind.i32 0) (Value.int IntKind.i64 0) w3 ∧
  ∀ (t5 : Value) (t6 : Value) (t8 : Value), ∀ w4 : World, I1 t5 t6 t8 w4 → ∀ _f : Env,
  V Try.prog (Builtin.len_ #[22] 3 #[t0]) w4 fun t17 w5 =>
  V Try.prog (binOp .lss 3 t8 t17) w5 fun t18 w6 =>
  gd t18 true (fun K => K t8 w6) w6 fun t20 w7 =>
  gd t18 true (fun K => V Try.prog (binOp .lss 3 t20 (Value.int IntKind.i64 25)) w7 K) w7 fun t21 w8 =>
  pickD t18 t21 (Value.bool false) fun t22 =>
  ifD t22 (
  V Try.prog (Instr.indexAt 22 t0 t8) w8 fun t28 w10 =>
  V Try.prog (Instr.loadAt 21 t28) w10 fun t29 w11 =>
  V Try.prog (convert 21 3 t29) w11 fun t30 w12 =>
  V Try.prog (Instr.build 27 #[(0, (Value.int IntKind.i64 1)), (1, t30)]) w12 fun t31 w13 =>
  V Try.prog (Instr.buildSlice 24 1 #[(0, t31)]) w13 fun t32 w14 =>
  V Try.prog (Builtin.append_ #[24, 24] 24 #[t5, t32]) w14 fun t33 w15 =>
  V Try.prog (do eqGuard .eql 3 (Operand.tmp 34) (Operand.const (Value.int IntKind.i64 0)) t8 (Value.int IntKind.i64 0); binOp .eql 3 t8 (Value.int IntKind.i64 0)) w15 fun t35 w16 =>
  ifD t35 (
  V Try.prog (Instr.indexAt 22 t0 (Value.int IntKind.i64 0)) w16 fun t37 w17 =>
  V Try.prog (Instr.loadAt 21 t37) w17 fun t38 w18 =>
  V Try.prog (binOp .add 3 t8 (Value.int IntKind.i64 1)) w18 fun t24 w19 =>
  I1 t33 t38 t24 w19 ∧ μ1 t33 t38 t24 w19 < μ1 t5 t6 t8 w4) (
  ∃ J2 : NP 1,
  (V Try.prog (Builtin.len_ #[23] 3 #[t1]) w16 fun t41 w20 =>
  V Try.prog (binOp .lss 3 t8 t41) w20 fun t42 w21 =>
  ifD t42 (
  V Try.prog (Instr.indexAt 23 t1 t8) w21 fun t45 w22 =>
  V Try.prog (Instr.loadAt 3 t45) w22 fun t46 w23 =>
  callD Try.prog 4 #[t46, (Value.int IntKind.i64 10)] w23 fun t47 w24 =>
  V Try.prog (Instr.indexAt 25 t7 t47) w24 fun t48 w25 =>
  V Try.prog (Instr.loadAt 3 t48) w25 fun t49 w26 =>
  J2 t49 w26) (
  J2 (Value.int IntKind.i64 6) w21)) ∧
  ∀ (t9 : Value), ∀ w27 : World, J2 t9 w27 → ∀ _f : Env,
  V Try.prog (Instr.build 27 #[(0, t9)]) w27 fun t52 w28 =>
  V Try.prog (Instr.buildSlice 24 1 #[(0, t52)]) w28 fun t53 w29 =>
  V Try.prog (Builtin.append_ #[24, 24] 24 #[t33, t53]) w29 fun t54 w30 =>
  V Try.prog (Instr.indexAt 22 t0 t8) w30 fun t59 w31 =>
  V Try.prog (Instr.loadAt 21 t59) w31 fun t60 w32 =>
  callD Try.prog 5 #[t9, t6, t60] w32 fun t61 w33 =>
  V Try.prog (binOp .add 3 t8 (Value.int IntKind.i64 1)) w33 fun t24_1 w34 =>
  I1 t54 t61 t24_1 w34 ∧ μ1 t54 t61 t24_1 w34 < μ1 t5 t6 t8 w4)) (
  ∃ J3 : NP 1,
  (V Try.prog (Builtin.len_ #[22] 3 #[t0]) w8 fun t63 w35 =>
  V Try.prog (do eqGuard .eql 3 (Operand.tmp 63) (Operand.const (Value.int IntKind.i64 0)) t63 (Value.int IntKind.i64 0); binOp .eql 3 t63 (Value.int IntKind.i64 0)) w35 fun t64 w36 =>
  ifD t64 (
  V Try.prog (Instr.build 27 #[(0, (Value.int IntKind.i64 1))]) w36 fun t66 w37 =>
  V Try.prog (Instr.buildSlice 24 1 #[(0, t66)]) w37 fun t67 w38 =>
  V Try.prog (Builtin.append_ #[24, 24] 24 #[t5, t67]) w38 fun t68 w39 =>
  J3 t68 w39) (
  J3 t5 w36)) ∧
  ∀ (t5_1 : Value), ∀ w40 : World, J3 t5_1 w40 → ∀ _f : Env,
  V Try.prog (Instr.build 27 #[(0, (Value.int IntKind.i64 34))]) w40 fun t70 w41 =>
  V Try.prog (Instr.build 27 #[(0, (Value.int IntKind.i64 39))]) w41 fun t71 w42 =>
  V Try.prog (Instr.buildSlice 24 2 #[(0, t70), (1, t71)]) w42 fun t72 w43 =>
  V Try.prog (Builtin.append_ #[24, 24] 24 #[t5_1, t72]) w43 fun t73 w44 =>
  callD Try.prog 6 #[(Value.int IntKind.i64 200), t73] w44 fun t76 w45 =>
  V Try.prog (Instr.extract t76 0) w45 fun t77 w46 =>
  V Try.prog (Instr.extract t76 1) w46 fun t78 w47 =>
  callD Try.prog 7 #[] w47 fun t79 w48 =>
  V Try.prog (Op.unary UnOp.not t79) w48 fun t80 w49 =>
  gd t80 false (fun K => K t77 w49) w49 fun t82 w50 =>
  gd t80 false (fun K => V Try.prog (do eqGuard .eql 30 (Operand.tmp 82) (Operand.const (Value.pointer none)) t82 (Value.pointer none); binOp .eql 30 t82 (Value.pointer none)) w50 K) w50 fun t83 w51 =>
  pickD t80 (Value.bool true) t83 fun t84 =>
  gd t84 false (fun K => K t78 w51) w51 fun t86 w53 =>
  gd t84 false (fun K => V Try.prog (do eqGuard .eql 31 (Operand.tmp 86) (Operand.const (Value.pointer none)) t86 (Value.pointer none); binOp .eql 31 t86 (Value.pointer none)) w53 K) w53 fun t87 w54 =>
  pickD t84 (Value.bool true) t87 fun t88 =>
  ifD t88 (
  R (Value.bool false) w54) (
  callD Try.prog 8 #[t78, (Value.int IntKind.i64 0), (Value.int IntKind.i64 0)] w54 fun t91 w56 =>
  V Try.prog (Instr.extract t91 0) w56 fun t92 w57 =>
  V Try.prog (Instr.extract t91 1) w57 fun t93 w58 =>
  callD Try.prog 9 #[t77] w58 fun t95 w59 =>
  V Try.prog (do eqGuard .eql 3 (Operand.tmp 95) (Operand.const (Value.int IntKind.i64 36864)) t95 (Value.int IntKind.i64 36864); binOp .eql 3 t95 (Value.int IntKind.i64 36864)) w59 fun t96 w60 =>
  gd t96 true (fun K => K t93 w60) w60 fun t98 w61 =>
  pickD t96 t98 (Value.bool false) fun t99 =>
  gd t99 true (fun K => K t92 w61) w61 fun t101 w63 =>
  gd t99 true (fun K => K t6 w63) w63 fun t102 w64 =>
  gd t99 true (fun K => V Try.prog (do eqGuard .eql 21 (Operand.tmp 101) (Operand.tmp 102) t101 t102; binOp .eql 21 t101 t102) w64 K) w64 fun t103 w65 =>
  pickD t99 t103 (Value.bool false) fun t104 =>
  gd t104 true (fun K => K t77 w65) w65 fun t106 w67 =>
  gd t104 true (fun K => callD Try.prog 10 #[t106] w67 K) w67 fun t107 w68 =>
  gd t104 true (fun K => K t73 w68) w68 fun t108 w69 =>
  gd t104 true (fun K => V Try.prog (Builtin.len_ #[24] 3 #[t108]) w69 K) w69 fun t109 w70 =>
  gd t104 true (fun K => V Try.prog (binOp .sub 3 (Value.int IntKind.i64 200) t109) w70 K) w70 fun t110 w71 =>
  gd t104 true (fun K => V Try.prog (do eqGuard .eql 3 (Operand.tmp 107) (Operand.tmp 110) t107 t110; binOp .eql 3 t107 t110) w71 K) w71 fun t111 w72 =>
  pickD t104 t111 (Value.bool false) fun t112 =>
  R t112 w72))
theorem F3_eq (t0 : Value) (t1 : Value) (w : World) (R : Value → World → Prop) : F3_den t0 t1 w R = vc Try.prog F3_ann (Try.f3.body.getD .skip) (retE Try.prog Try.f3.results.toList R) (argEnv [t0, t1]) w := by kernel_rfl
theorem F3_wp {t0 : Value} {t1 : Value} {w : World} {R : Value → World → Prop} (h : F3_den t0 t1 w R) : callD Try.prog 3 #[t0, t1] w R :=
  callD.of_calls (fn := Try.f3) (c := Try.f3.body.getD .skip) Try.func3 (by kernel_rfl) (by kernel_rfl) (calls_of_vc (args := [t0, t1]) F3_ann mixed Try.func3 (by kernel_rfl) (by kernel_rfl) (F3_eq t0 t1 w R ▸ h))

/-- taciturn/taciturnhand.Pick -/
def F4_ann : Ann := (Ann.seq Ann.leaf (Ann.seq Ann.leaf (Ann.seq (Ann.seq Ann.leaf (Ann.cond Ann.leaf Ann.leaf)) (Ann.seq Ann.leaf Ann.leaf))))
def F4_den (t0 : Value) (t1 : Value) (w : World) (R : Value → World → Prop) : Prop :=
  V Try.prog (binOp .rem 3 t0 t1) w fun t7 w1 =>
  V Try.prog (binOp .lss 3 t7 (Value.int IntKind.i64 0)) w1 fun t9 w2 =>
  ifD t9 (
  V Try.prog (binOp .add 3 t7 t1) w2 fun t12 w3 =>
  R t12 w3) (
  R t7 w2)
theorem F4_eq (t0 : Value) (t1 : Value) (w : World) (R : Value → World → Prop) : F4_den t0 t1 w R = vc Try.prog F4_ann (Try.f4.body.getD .skip) (retE Try.prog Try.f4.results.toList R) (argEnv [t0, t1]) w := by kernel_rfl
theorem F4_wp {t0 : Value} {t1 : Value} {w : World} {R : Value → World → Prop} (h : F4_den t0 t1 w R) : callD Try.prog 4 #[t0, t1] w R :=
  callD.of_calls (fn := Try.f4) (c := Try.f4.body.getD .skip) Try.func4 (by kernel_rfl) (by kernel_rfl) (calls_of_vc (args := [t0, t1]) F4_ann mixed Try.func4 (by kernel_rfl) (by kernel_rfl) (F4_eq t0 t1 w R ▸ h))

/-- taciturn/taciturnref1.Do -/
def F5_ann : Ann := (Ann.seq Ann.leaf (Ann.seq (Ann.seq Ann.leaf (Ann.block (Ann.seq Ann.leaf (Ann.cond (Ann.seq Ann.leaf Ann.leaf) (Ann.seq Ann.leaf (Ann.cond (Ann.seq Ann.leaf Ann.leaf) (Ann.seq Ann.leaf (Ann.cond (Ann.seq Ann.leaf Ann.leaf) (Ann.seq Ann.leaf (Ann.cond (Ann.seq Ann.leaf Ann.leaf) (Ann.seq Ann.leaf (Ann.cond (Ann.seq Ann.leaf Ann.leaf) (Ann.seq Ann.leaf (Ann.cond (Ann.seq Ann.leaf Ann.leaf) (Ann.seq Ann.leaf (Ann.cond (Ann.seq Ann.leaf Ann.leaf) (Ann.seq Ann.leaf (Ann.cond (Ann.seq Ann.leaf Ann.leaf) (Ann.seq Ann.leaf (Ann.cond (Ann.seq Ann.leaf Ann.leaf) (Ann.seq Ann.leaf (Ann.cond (Ann.seq Ann.leaf Ann.leaf) (Ann.seq Ann.leaf (Ann.cond (Ann.seq Ann.leaf Ann.leaf) (Ann.seq Ann.leaf (Ann.cond (Ann.seq Ann.leaf Ann.leaf) (Ann.seq Ann.leaf (Ann.cond (Ann.seq (Ann.seq Ann.leaf (Ann.cond (Ann.seq Ann.leaf Ann.leaf) Ann.leaf)) (Ann.seq Ann.leaf Ann.leaf)) (Ann.seq Ann.leaf (Ann.cond (Ann.seq (Ann.seq Ann.leaf (Ann.cond (Ann.seq Ann.leaf Ann.leaf) Ann.leaf)) (Ann.seq Ann.leaf Ann.leaf)) Ann.leaf)))))))))))))))))))))))))))))) (Ann.seq Ann.leaf Ann.leaf)))
def F5_den (t0 : Value) (t1 : Value) (t2 : Value) (w : World) (R : Value → World → Prop) : Prop :=
  V Try.prog (do eqGuard .eql 3 (Operand.tmp 7) (Operand.const (Value.int IntKind.i64 6)) t0 (Value.int IntKind.i64 6); binOp .eql 3 t0 (Value.int IntKind.i64 6)) w fun t9 w1 =>
  ifD t9 (
  V Try.prog (binOp .add 21 t1 t2) w1 fun t12 w2 =>
  R t12 w2) (
  V Try.prog (do eqGuard .eql 3 (Operand.tmp 7) (Operand.const (Value.int IntKind.i64 7)) t0 (Value.int IntKind.i64 7); binOp .eql 3 t0 (Value.int IntKind.i64 7)) w1 fun t14 w3 =>
  ifD t14 (
  V Try.prog (binOp .sub 21 t1 t2) w3 fun t17 w4 =>
  R t17 w4) (
  V Try.prog (do eqGuard .eql 3 (Operand.tmp 7) (Operand.const (Value.int IntKind.i64 8)) t0 (Value.int IntKind.i64 8); binOp .eql 3 t0 (Value.int IntKind.i64 8)) w3 fun t19 w5 =>
  ifD t19 (
  V Try.prog (binOp .mul 21 t1 t2) w5 fun t22 w6 =>
  R t22 w6) (
  V Try.prog (do eqGuard .eql 3 (Operand.tmp 7) (Operand.const (Value.int IntKind.i64 9)) t0 (Value.int IntKind.i64 9); binOp .eql 3 t0 (Value.int IntKind.i64 9)) w5 fun t24 w7 =>
  ifD t24 (
  V Try.prog (binOp .and 21 t1 t2) w7 fun t27 w8 =>
  R t27 w8) (
  V Try.prog (do eqGuard .eql 3 (Operand.tmp 7) (Operand.const (Value.int IntKind.i64 10)) t0 (Value.int IntKind.i64 10); binOp .eql 3 t0 (Value.int IntKind.i64 10)) w7 fun t29 w9 =>
  ifD t29 (
  V Try.prog (binOp .or 21 t1 t2) w9 fun t32 w10 =>
  R t32 w10) (
  V Try.prog (do eqGuard .eql 3 (Operand.tmp 7) (Operand.const (Value.int IntKind.i64 11)) t0 (Value.int IntKind.i64 11); binOp .eql 3 t0 (Value.int IntKind.i64 11)) w9 fun t34 w11 =>
  ifD t34 (
  V Try.prog (binOp .xor 21 t1 t2) w11 fun t37 w12 =>
  R t37 w12) (
  V Try.prog (do eqGuard .eql 3 (Operand.tmp 7) (Operand.const (Value.int IntKind.i64 12)) t0 (Value.int IntKind.i64 12); binOp .eql 3 t0 (Value.int IntKind.i64 12)) w11 fun t39 w13 =>
  ifD t39 (
  V Try.prog (binOp .and 21 t2 (Value.int IntKind.i32 31)) w13 fun t42 w14 =>
  V Try.prog (convert 21 39 t42) w14 fun t43 w15 =>
  V Try.prog (binOp .shl 21 t1 t43) w15 fun t44 w16 =>
  R t44 w16) (
  V Try.prog (do eqGuard .eql 3 (Operand.tmp 7) (Operand.const (Value.int IntKind.i64 13)) t0 (Value.int IntKind.i64 13); binOp .eql 3 t0 (Value.int IntKind.i64 13)) w13 fun t46 w17 =>
  ifD t46 (
  V Try.prog (convert 21 40 t1) w17 fun t48 w18 =>
  V Try.prog (binOp .and 21 t2 (Value.int IntKind.i32 31)) w18 fun t50 w19 =>
  V Try.prog (convert 21 39 t50) w19 fun t51 w20 =>
  V Try.prog (binOp .shr 40 t48 t51) w20 fun t52 w21 =>
  V Try.prog (convert 40 21 t52) w21 fun t53 w22 =>
  R t53 w22) (
  V Try.prog (do eqGuard .eql 3 (Operand.tmp 7) (Operand.const (Value.int IntKind.i64 14)) t0 (Value.int IntKind.i64 14); binOp .eql 3 t0 (Value.int IntKind.i64 14)) w17 fun t55 w23 =>
  ifD t55 (
  V Try.prog (binOp .and 21 t2 (Value.int IntKind.i32 31)) w23 fun t58 w24 =>
  V Try.prog (convert 21 39 t58) w24 fun t59 w25 =>
  V Try.prog (binOp .shr 21 t1 t59) w25 fun t60 w26 =>
  R t60 w26) (
  V Try.prog (do eqGuard .eql 3 (Operand.tmp 7) (Operand.const (Value.int IntKind.i64 19)) t0 (Value.int IntKind.i64 19); binOp .eql 3 t0 (Value.int IntKind.i64 19)) w23 fun t62 w27 =>
  ifD t62 (
  V Try.prog (do eqGuard .eql 21 (Operand.tmp 63) (Operand.tmp 64) t1 t2; binOp .eql 21 t1 t2) w27 fun t65 w28 =>
  callD Try.prog 11 #[t65] w28 fun t66 w29 =>
  R t66 w29) (
  V Try.prog (do eqGuard .eql 3 (Operand.tmp 7) (Operand.const (Value.int IntKind.i64 20)) t0 (Value.int IntKind.i64 20); binOp .eql 3 t0 (Value.int IntKind.i64 20)) w27 fun t68 w30 =>
  ifD t68 (
  V Try.prog (binOp .lss 21 t1 t2) w30 fun t71 w31 =>
  callD Try.prog 11 #[t71] w31 fun t72 w32 =>
  R t72 w32) (
  V Try.prog (do eqGuard .eql 3 (Operand.tmp 7) (Operand.const (Value.int IntKind.i64 21)) t0 (Value.int IntKind.i64 21); binOp .eql 3 t0 (Value.int IntKind.i64 21)) w30 fun t74 w33 =>
  ifD t74 (
  V Try.prog (convert 21 40 t1) w33 fun t76 w34 =>
  V Try.prog (convert 21 40 t2) w34 fun t78 w35 =>
  V Try.prog (binOp .lss 40 t76 t78) w35 fun t79 w36 =>
  callD Try.prog 11 #[t79] w36 fun t80 w37 =>
  R t80 w37) (
  V Try.prog (do eqGuard .eql 3 (Operand.tmp 7) (Operand.const (Value.int IntKind.i64 17)) t0 (Value.int IntKind.i64 17); binOp .eql 3 t0 (Value.int IntKind.i64 17)) w33 fun t82 w38 =>
  ifD t82 (
  V Try.prog (do eqGuard .eql 21 (Operand.tmp 83) (Operand.const (Value.int IntKind.i32 0)) t2 (Value.int IntKind.i32 0); binOp .eql 21 t2 (Value.int IntKind.i32 0)) w38 fun t84 w39 =>
  ifD t84 (
  R (Value.int IntKind.i32 0) w39) (
  V Try.prog (convert 21 2 t1) w39 fun t86 w40 =>
  V Try.prog (convert 21 2 t2) w40 fun t88 w41 =>
  V Try.prog (binOp .quo 2 t86 t88) w41 fun t89 w42 =>
  V Try.prog (convert 2 21 t89) w42 fun t90 w43 =>
  R t90 w43)) (
  V Try.prog (do eqGuard .eql 3 (Operand.tmp 7) (Operand.const (Value.int IntKind.i64 18)) t0 (Value.int IntKind.i64 18); binOp .eql 3 t0 (Value.int IntKind.i64 18)) w38 fun t92 w44 =>
  ifD t92 (
  V Try.prog (do eqGuard .eql 21 (Operand.tmp 93) (Operand.const (Value.int IntKind.i32 0)) t2 (Value.int IntKind.i32 0); binOp .eql 21 t2 (Value.int IntKind.i32 0)) w44 fun t94 w45 =>
  ifD t94 (
  R (Value.int IntKind.i32 0) w45) (
  V Try.prog (convert 21 2 t1) w45 fun t96 w46 =>
  V Try.prog (convert 21 2 t2) w46 fun t98 w47 =>
  V Try.prog (binOp .rem 2 t96 t98) w47 fun t99 w48 =>
  V Try.prog (convert 2 21 t99) w48 fun t100 w49 =>
  R t100 w49)) (
  R (Value.int IntKind.i32 0) w44))))))))))))))
theorem F5_eq (t0 : Value) (t1 : Value) (t2 : Value) (w : World) (R : Value → World → Prop) : F5_den t0 t1 t2 w R = vc Try.prog F5_ann (Try.f5.body.getD .skip) (retE Try.prog Try.f5.results.toList R) (argEnv [t0, t1, t2]) w := by kernel_rfl
theorem F5_wp {t0 : Value} {t1 : Value} {t2 : Value} {w : World} {R : Value → World → Prop} (h : F5_den t0 t1 t2 w R) : callD Try.prog 5 #[t0, t1, t2] w R :=
  callD.of_calls (fn := Try.f5) (c := Try.f5.body.getD .skip) Try.func5 (by kernel_rfl) (by kernel_rfl) (calls_of_vc (args := [t0, t1, t2]) F5_ann mixed Try.func5 (by kernel_rfl) (by kernel_rfl) (F5_eq t0 t1 t2 w R ▸ h))

/-- taciturn/taciturnlaw13.run -/
def F6_ann : Ann := (Ann.seq Ann.leaf (Ann.seq Ann.leaf (Ann.seq (Ann.seq Ann.leaf (Ann.cond (Ann.seq Ann.leaf Ann.leaf) Ann.leaf)) (Ann.seq Ann.leaf (Ann.seq Ann.leaf (Ann.seq (Ann.seq Ann.leaf (Ann.cond (Ann.seq Ann.leaf Ann.leaf) Ann.leaf)) (Ann.seq Ann.leaf (Ann.seq Ann.leaf Ann.leaf))))))))
def F6_den (t0 : Value) (t1 : Value) (w : World) (R : Value → World → Prop) : Prop :=
  callD Try.prog 12 #[(Value.int IntKind.i64 200)] w fun t11 w1 =>
  V Try.prog (Instr.extract t11 0) w1 fun t12 w2 =>
  V Try.prog (Instr.extract t11 1) w2 fun t13 w3 =>
  V Try.prog (do eqGuard .neq 42 (Operand.tmp 14) (Operand.const (Value.int IntKind.i64 0)) t13 (Value.int IntKind.i64 0); binOp .neq 42 t13 (Value.int IntKind.i64 0)) w3 fun t15 w4 =>
  gd t15 false (fun K => K t12 w4) w4 fun t17 w5 =>
  gd t15 false (fun K => V Try.prog (do eqGuard .eql 31 (Operand.tmp 17) (Operand.const (Value.pointer none)) t17 (Value.pointer none); binOp .eql 31 t17 (Value.pointer none)) w5 K) w5 fun t18 w6 =>
  pickD t15 (Value.bool true) t18 fun t19 =>
  ifD t19 (
  R (.tuple #[(Value.pointer none), (Value.pointer none)]) w6) (
  V Try.prog (Instr.buildSlice 23 1 #[(0, (Value.int IntKind.i64 1))]) w6 fun t21 w8 =>
  V Try.prog (Instr.buildSlice 23 1 #[(0, (Value.int IntKind.i64 1))]) w8 fun t22 w9 =>
  V Try.prog (Instr.build 48 #[(2, t22), (3, t1)]) w9 fun t24 w10 =>
  V Try.prog (Instr.buildSlice 49 1 #[(0, t24)]) w10 fun t25 w11 =>
  V Try.prog (Instr.build 52 #[(0, (Value.string { data := #[97] })), (1, t21), (3, t25)]) w11 fun t26 w12 =>
  callD Try.prog 13 #[t12, t26] w12 fun t27 w13 =>
  callD Try.prog 14 #[t12, (Value.int IntKind.i64 0), t0] w13 fun t31 w14 =>
  V Try.prog (Instr.extract t31 0) w14 fun t32 w15 =>
  V Try.prog (Instr.extract t31 1) w15 fun t33 w16 =>
  V Try.prog (do eqGuard .neq 42 (Operand.tmp 34) (Operand.const (Value.int IntKind.i64 0)) t33 (Value.int IntKind.i64 0); binOp .neq 42 t33 (Value.int IntKind.i64 0)) w16 fun t35 w17 =>
  gd t35 false (fun K => K t32 w17) w17 fun t37 w18 =>
  gd t35 false (fun K => V Try.prog (do eqGuard .eql 30 (Operand.tmp 37) (Operand.const (Value.pointer none)) t37 (Value.pointer none); binOp .eql 30 t37 (Value.pointer none)) w18 K) w18 fun t38 w19 =>
  pickD t35 (Value.bool true) t38 fun t39 =>
  ifD t39 (
  R (.tuple #[(Value.pointer none), (Value.pointer none)]) w19) (
  callD Try.prog 15 #[t32] w19 fun t41 w21 =>
  R (.tuple #[t32, t12]) w21))
theorem F6_eq (t0 : Value) (t1 : Value) (w : World) (R : Value → World → Prop) : F6_den t0 t1 w R = vc Try.prog F6_ann (Try.f6.body.getD .skip) (retE Try.prog Try.f6.results.toList R) (argEnv [t0, t1]) w := by kernel_rfl
theorem F6_wp {t0 : Value} {t1 : Value} {w : World} {R : Value → World → Prop} (h : F6_den t0 t1 w R) : callD Try.prog 6 #[t0, t1] w R :=
  callD.of_calls (fn := Try.f6) (c := Try.f6.body.getD .skip) Try.func6 (by kernel_rfl) (by kernel_rfl) (calls_of_vc (args := [t0, t1]) F6_ann mixed Try.func6 (by kernel_rfl) (by kernel_rfl) (F6_eq t0 t1 w R ▸ h))

/-- (*taciturn/room.Room).Field -/
def F8_ann : Ann := (Ann.seq Ann.leaf (Ann.seq (Ann.seq Ann.leaf (Ann.cond (Ann.seq Ann.leaf Ann.leaf) Ann.leaf)) (Ann.seq Ann.leaf Ann.leaf)))
def F8_den (t0 : Value) (t1 : Value) (t2 : Value) (w : World) (R : Value → World → Prop) : Prop :=
  V Try.prog (binOp .lss 3 t1 (Value.int IntKind.i64 0)) w fun t9 w1 =>
  gd t9 false (fun K => K t1 w1) w1 fun t11 w2 =>
  gd t9 false (fun K => K t0 w2) w2 fun t12 w3 =>
  gd t9 false (fun K => (Go.Vc.Safe (t12) ∧ K (t12) w3)) w3 fun t13 w4 =>
  gd t9 false (fun K => V Try.prog (Instr.fieldAt 60 t13 2) w4 K) w4 fun t14 w5 =>
  gd t9 false (fun K => V Try.prog (Instr.loadAt 57 t14) w5 K) w5 fun t15 w6 =>
  gd t9 false (fun K => V Try.prog (Builtin.len_ #[57] 3 #[t15]) w6 K) w6 fun t16 w7 =>
  gd t9 false (fun K => V Try.prog (binOp .geq 3 t11 t16) w7 K) w7 fun t17 w8 =>
  pickD t9 (Value.bool true) t17 fun t18 =>
  gd t18 false (fun K => K t2 w8) w8 fun t20 w10 =>
  gd t18 false (fun K => V Try.prog (binOp .lss 3 t20 (Value.int IntKind.i64 0)) w10 K) w10 fun t21 w11 =>
  pickD t18 (Value.bool true) t21 fun t22 =>
  gd t22 false (fun K => K t2 w11) w11 fun t24 w13 =>
  gd t22 false (fun K => K t0 w13) w13 fun t25 w14 =>
  gd t22 false (fun K => (Go.Vc.Safe (t25) ∧ K (t25) w14)) w14 fun t26 w15 =>
  gd t22 false (fun K => V Try.prog (Instr.fieldAt 60 t26 2) w15 K) w15 fun t27 w16 =>
  gd t22 false (fun K => V Try.prog (Instr.loadAt 57 t27) w16 K) w16 fun t28 w17 =>
  gd t22 false (fun K => K t1 w17) w17 fun t29 w18 =>
  gd t22 false (fun K => V Try.prog (Instr.indexAt 57 t28 t29) w18 K) w18 fun t30 w19 =>
  gd t22 false (fun K => V Try.prog (Instr.loadAt 22 t30) w19 K) w19 fun t31 w20 =>
  gd t22 false (fun K => V Try.prog (Builtin.len_ #[22] 3 #[t31]) w20 K) w20 fun t32 w21 =>
  gd t22 false (fun K => V Try.prog (binOp .geq 3 t24 t32) w21 K) w21 fun t33 w22 =>
  pickD t22 (Value.bool true) t33 fun t34 =>
  ifD t34 (
  R (.tuple #[(Value.int IntKind.i32 0), (Value.bool false)]) w22) (
  Go.Vc.Safe (t0) ∧
  V Try.prog (Instr.fieldAt 60 t0 2) w22 fun t37 w25 =>
  V Try.prog (Instr.loadAt 57 t37) w25 fun t38 w26 =>
  V Try.prog (Instr.indexAt 57 t38 t1) w26 fun t40 w27 =>
  V Try.prog (Instr.loadAt 22 t40) w27 fun t41 w28 =>
  V Try.prog (Instr.indexAt 22 t41 t2) w28 fun t43 w29 =>
  V Try.prog (Instr.loadAt 21 t43) w29 fun t44 w30 =>
  R (.tuple #[t44, (Value.bool true)]) w30)
theorem F8_eq (t0 : Value) (t1 : Value) (t2 : Value) (w : World) (R : Value → World → Prop) : F8_den t0 t1 t2 w R = vc Try.prog F8_ann (Try.f8.body.getD .skip) (retE Try.prog Try.f8.results.toList R) (argEnv [t0, t1, t2]) w := by kernel_rfl
theorem F8_wp {t0 : Value} {t1 : Value} {t2 : Value} {w : World} {R : Value → World → Prop} (h : F8_den t0 t1 t2 w R) : callD Try.prog 8 #[t0, t1, t2] w R :=
  callD.of_calls (fn := Try.f8) (c := Try.f8.body.getD .skip) Try.func8 (by kernel_rfl) (by kernel_rfl) (calls_of_vc (args := [t0, t1, t2]) F8_ann mixed Try.func8 (by kernel_rfl) (by kernel_rfl) (F8_eq t0 t1 t2 w R ▸ h))

/-- (*taciturn/interp.Machine).Status -/
def F9_ann : Ann := (Ann.seq Ann.leaf (Ann.seq Ann.leaf Ann.leaf))
def F9_den (t0 : Value) (w : World) (R : Value → World → Prop) : Prop :=
  Go.Vc.Safe (t0) ∧
  V Try.prog (Instr.fieldAt 64 t0 4) w fun t5 w2 =>
  V Try.prog (Instr.loadAt 3 t5) w2 fun t6 w3 =>
  R t6 w3
theorem F9_eq (t0 : Value) (w : World) (R : Value → World → Prop) : F9_den t0 w R = vc Try.prog F9_ann (Try.f9.body.getD .skip) (retE Try.prog Try.f9.results.toList R) (argEnv [t0]) w := by kernel_rfl
theorem F9_wp {t0 : Value} {w : World} {R : Value → World → Prop} (h : F9_den t0 w R) : callD Try.prog 9 #[t0] w R :=
  callD.of_calls (fn := Try.f9) (c := Try.f9.body.getD .skip) Try.func9 (by kernel_rfl) (by kernel_rfl) (calls_of_vc (args := [t0]) F9_ann mixed Try.func9 (by kernel_rfl) (by kernel_rfl) (F9_eq t0 w R ▸ h))

/-- (*taciturn/interp.Machine).Fuel -/
def F10_ann : Ann := (Ann.seq Ann.leaf (Ann.seq Ann.leaf Ann.leaf))
def F10_den (t0 : Value) (w : World) (R : Value → World → Prop) : Prop :=
  Go.Vc.Safe (t0) ∧
  V Try.prog (Instr.fieldAt 64 t0 3) w fun t5 w2 =>
  V Try.prog (Instr.loadAt 3 t5) w2 fun t6 w3 =>
  R t6 w3
theorem F10_eq (t0 : Value) (w : World) (R : Value → World → Prop) : F10_den t0 w R = vc Try.prog F10_ann (Try.f10.body.getD .skip) (retE Try.prog Try.f10.results.toList R) (argEnv [t0]) w := by kernel_rfl
theorem F10_wp {t0 : Value} {w : World} {R : Value → World → Prop} (h : F10_den t0 w R) : callD Try.prog 10 #[t0] w R :=
  callD.of_calls (fn := Try.f10) (c := Try.f10.body.getD .skip) Try.func10 (by kernel_rfl) (by kernel_rfl) (calls_of_vc (args := [t0]) F10_ann mixed Try.func10 (by kernel_rfl) (by kernel_rfl) (F10_eq t0 w R ▸ h))

/-- taciturn/taciturnref1.yes -/
def F11_ann : Ann := (Ann.seq Ann.leaf (Ann.seq (Ann.seq Ann.leaf (Ann.cond (Ann.seq Ann.leaf Ann.leaf) Ann.leaf)) (Ann.seq Ann.leaf Ann.leaf)))
def F11_den (t0 : Value) (w : World) (R : Value → World → Prop) : Prop :=
  ifD t0 (
  R (Value.int IntKind.i32 1) w) (
  R (Value.int IntKind.i32 0) w)
theorem F11_eq (t0 : Value) (w : World) (R : Value → World → Prop) : F11_den t0 w R = vc Try.prog F11_ann (Try.f11.body.getD .skip) (retE Try.prog Try.f11.results.toList R) (argEnv [t0]) w := by kernel_rfl
theorem F11_wp {t0 : Value} {w : World} {R : Value → World → Prop} (h : F11_den t0 w R) : callD Try.prog 11 #[t0] w R :=
  callD.of_calls (fn := Try.f11) (c := Try.f11.body.getD .skip) Try.func11 (by kernel_rfl) (by kernel_rfl) (calls_of_vc (args := [t0]) F11_ann mixed Try.func11 (by kernel_rfl) (by kernel_rfl) (F11_eq t0 w R ▸ h))

/-- (*taciturn/interp.Machine).Run -/
def F15_ann : Ann := (Ann.seq Ann.leaf (Ann.seq (Ann.block (Ann.loop [3, 4, 5, 6, 7, 8, 9] [] (Ann.seq (Ann.seq Ann.leaf (Ann.cond Ann.leaf Ann.leaf)) (Ann.block Ann.leaf)))) (Ann.seq Ann.leaf Ann.leaf)))
def F15_den (t0 : Value) (w : World) (R : Value → World → Prop) : Prop :=
  ∃ (I1 : NP 0) (μ1 : NF 0), I1 w ∧
  ∀ w1 : World, I1 w1 → ∀ _f : Env,
  Go.Vc.Safe (t0) ∧
  V Try.prog (Instr.fieldAt 64 t0 4) w1 fun t5 w3 =>
  V Try.prog (Instr.loadAt 3 t5) w3 fun t6 w4 =>
  V Try.prog (do eqGuard .eql 3 (Operand.tmp 6) (Operand.const (Value.int IntKind.i64 0)) t6 (Value.int IntKind.i64 0); binOp .eql 3 t6 (Value.int IntKind.i64 0)) w4 fun t7 w5 =>
  ifD t7 (
  callD Try.prog 21 #[t0] w5 fun t9 w6 =>
  I1 w6 ∧ μ1 w6 < μ1 w1) (
  Go.Vc.Safe (t0) ∧
  V Try.prog (Instr.fieldAt 64 t0 4) w5 fun t12 w8 =>
  V Try.prog (Instr.loadAt 3 t12) w8 fun t13 w9 =>
  R t13 w9)
theorem F15_eq (t0 : Value) (w : World) (R : Value → World → Prop) : F15_den t0 w R = vc Try.prog F15_ann (Try.f15.body.getD .skip) (retE Try.prog Try.f15.results.toList R) (argEnv [t0]) w := by kernel_rfl
theorem F15_wp {t0 : Value} {w : World} {R : Value → World → Prop} (h : F15_den t0 w R) : callD Try.prog 15 #[t0] w R :=
  callD.of_calls (fn := Try.f15) (c := Try.f15.body.getD .skip) Try.func15 (by kernel_rfl) (by kernel_rfl) (calls_of_vc (args := [t0]) F15_ann mixed Try.func15 (by kernel_rfl) (by kernel_rfl) (F15_eq t0 w R ▸ h))

/-- (*taciturn/interp.Machine).Step -/
def F21_ann : Ann := (Ann.seq Ann.leaf (Ann.seq (Ann.seq Ann.leaf (Ann.cond (Ann.seq Ann.leaf Ann.leaf) Ann.leaf)) (Ann.seq (Ann.seq Ann.leaf (Ann.cond (Ann.seq Ann.leaf (Ann.seq Ann.leaf Ann.leaf)) Ann.leaf)) (Ann.seq Ann.leaf (Ann.seq Ann.leaf (Ann.seq (Ann.draw [0, 1, 2, 4, 8, 0, 32, 64, 128, 272, 512, 0, 4095] [0, 1, 2, 4, 8, 0, 32, 64, 128, 272, 512, 0, 3072] 0 12 4095 (.take 0 (.take 1 (.take 2 (.take 3 (.take 4 (.take 5 (.take 6 (.take 7 (.take 8 (.take 9 (.take 10 (.only 11 (.last 12)))))))))))))) (Ann.seq (Ann.draw [0, 1, 2, 4, 0, 16, 32, 64, 0, 256, 512, 1024, 2048, 0, 8192, 16384, 32768, 69632, 0, 262144, 655496] [0, 1, 2, 4, 0, 16, 32, 64, 0, 256, 512, 1024, 2048, 0, 8192, 16384, 32768, 69632, 0, 262144, 655496] 0 21 2097151 (.take 0 (.take 1 (.take 2 (.take 3 (.take 4 (.take 5 (.take 6 (.take 7 (.take 8 (.take 9 (.take 10 (.take 11 (.take 12 (.take 13 (.take 14 (.take 15 (.take 16 (.take 17 (.take 18 (.take 19 (.only 20 .done)))))))))))))))))))))) (Ann.seq (Ann.seq Ann.leaf (Ann.seq Ann.leaf (Ann.cond Ann.leaf Ann.leaf))) (Ann.seq Ann.leaf Ann.leaf)))))))))
def F21_den (t0 : Value) (w : World) (R : Value → World → Prop) : Prop :=
  Go.Vc.Safe (t0) ∧
  V Try.prog (Instr.fieldAt 64 t0 4) w fun t8 w2 =>
  V Try.prog (Instr.loadAt 3 t8) w2 fun t9 w3 =>
  V Try.prog (do eqGuard .neq 3 (Operand.tmp 9) (Operand.const (Value.int IntKind.i64 0)) t9 (Value.int IntKind.i64 0); binOp .neq 3 t9 (Value.int IntKind.i64 0)) w3 fun t10 w4 =>
  ifD t10 (
  Go.Vc.Safe (t0) ∧
  V Try.prog (Instr.fieldAt 64 t0 4) w4 fun t13 w6 =>
  V Try.prog (Instr.loadAt 3 t13) w6 fun t14 w7 =>
  R t14 w7) (
  Go.Vc.Safe (t0) ∧
  V Try.prog (Instr.fieldAt 64 t0 3) w4 fun t17 w9 =>
  V Try.prog (Instr.loadAt 3 t17) w9 fun t18 w10 =>
  V Try.prog (do eqGuard .eql 3 (Operand.tmp 18) (Operand.const (Value.int IntKind.i64 0)) t18 (Value.int IntKind.i64 0); binOp .eql 3 t18 (Value.int IntKind.i64 0)) w10 fun t19 w11 =>
  ifD t19 (
  callD Try.prog 27 #[t0, (Value.int IntKind.i64 28423)] w11 fun t21 w12 =>
  Go.Vc.Safe (t0) ∧
  V Try.prog (Instr.fieldAt 64 t0 4) w12 fun t24 w14 =>
  V Try.prog (Instr.loadAt 3 t24) w14 fun t25 w15 =>
  R t25 w15) (
  Go.Vc.Safe (t0) ∧
  V Try.prog (Instr.fieldAt 64 t0 3) w11 fun t28 w17 =>
  V Try.prog (Instr.loadAt 3 t28) w17 fun t29 w18 =>
  V Try.prog (binOp .sub 3 t29 (Value.int IntKind.i64 1)) w18 fun t30 w19 =>
  Go.Vc.Safe (t0) ∧
  V Try.prog (Instr.fieldAt 64 t0 3) w19 fun t32 w21 =>
  U Try.prog (Instr.storeAt 3 t32 t30) w21 fun _ w22 =>
  callD Try.prog 28 #[t0] w22 fun t34 w23 =>
  drawD w23 fun S8 w24 =>
  Go.Vc.Safe (t34) ∧
  yieldS Try.prog S8 (Instr.fieldAt 89 t34 3) fun t37 =>
  yieldS Try.prog S8 (Instr.fieldAt 48 t37 3) fun t38 =>
  yieldS Try.prog S8 (Instr.loadAt 24 t38) fun t39 =>
  Go.Vc.Safe (t34) ∧
  yieldS Try.prog S8 (Instr.fieldAt 89 t34 2) fun t42 =>
  yieldS Try.prog S8 (Instr.loadAt 3 t42) fun t43 =>
  yieldS Try.prog S8 (Instr.indexAt 24 t39 t43) fun t44 =>
  yieldS Try.prog S8 (Instr.loadAt 27 t44) fun t45 =>
  V Try.prog (Instr.alloc 27 true (.tuple #[])) w24 fun t4 w25 =>
  S8 w25 ∧
  U Try.prog (Instr.storeAt 27 t4 t45) w25 fun _ w26 =>
  drawD w26 fun S9 w27 =>
  Go.Vc.Safe (t0) ∧
  yieldS Try.prog S9 (Instr.fieldAt 64 t0 1) fun t48 =>
  yieldS Try.prog S9 (Instr.loadAt 61 t48) fun t49 =>
  Go.Vc.Safe (t34) ∧
  yieldS Try.prog S9 (Instr.fieldAt 89 t34 0) fun t52 =>
  yieldS Try.prog S9 (Instr.loadAt 3 t52) fun t53 =>
  Go.Vc.Safe (t34) ∧
  yieldS Try.prog S9 (Instr.fieldAt 89 t34 1) fun t56 =>
  yieldS Try.prog S9 (Instr.loadAt 3 t56) fun t57 =>
  yieldS Try.prog S9 (binOp .mul 3 (Value.int IntKind.i64 1000) t57) fun t58 =>
  Go.Vc.Safe (t34) ∧
  yieldS Try.prog S9 (Instr.fieldAt 89 t34 2) fun t61 =>
  yieldS Try.prog S9 (Instr.loadAt 3 t61) fun t62 =>
  yieldS Try.prog S9 (binOp .add 3 t58 t62) fun t63 =>
  yieldS Try.prog S9 (Instr.fieldAt 27 t4 0) fun t64 =>
  yieldS Try.prog S9 (Instr.loadAt 3 t64) fun t65 =>
  callD Try.prog 29 #[t49, (Value.int IntKind.i64 1), t53, t63, t65] w27 fun t66 w28 =>
  S9 w28 ∧
  V Try.prog (Instr.loadAt 27 t4) w28 fun t69 w29 =>
  callD Try.prog 30 #[t0, t34, t69] w29 fun t70 w30 =>
  V Try.prog (do eqGuard .neq 3 (Operand.tmp 71) (Operand.const (Value.int IntKind.i64 36864)) t70 (Value.int IntKind.i64 36864); binOp .neq 3 t70 (Value.int IntKind.i64 36864)) w30 fun t72 w31 =>
  ifD t72 (
  callD Try.prog 27 #[t0, t70] w31 fun t75 w32 =>
  Go.Vc.Safe (t0) ∧
  V Try.prog (Instr.fieldAt 64 t0 4) w32 fun t78 w34 =>
  V Try.prog (Instr.loadAt 3 t78) w34 fun t79 w35 =>
  R t79 w35) (
  Go.Vc.Safe (t0) ∧
  V Try.prog (Instr.fieldAt 64 t0 4) w31 fun t78_1 w37 =>
  V Try.prog (Instr.loadAt 3 t78_1) w37 fun t79_1 w38 =>
  R t79_1 w38)))
theorem F21_eq (t0 : Value) (w : World) (R : Value → World → Prop) : F21_den t0 w R = vc Try.prog F21_ann (Try.f21.body.getD .skip) (retE Try.prog Try.f21.results.toList R) (argEnv [t0]) w := by kernel_rfl
theorem F21_wp {t0 : Value} {w : World} {R : Value → World → Prop} (h : F21_den t0 w R) : callD Try.prog 21 #[t0] w R :=
  callD.of_calls (fn := Try.f21) (c := Try.f21.body.getD .skip) Try.func21 (by kernel_rfl) (by kernel_rfl) (calls_of_vc (args := [t0]) F21_ann mixed Try.func21 (by kernel_rfl) (by kernel_rfl) (F21_eq t0 w R ▸ h))

/-- (*taciturn/interp.Machine).end -/
def F27_ann : Ann := (Ann.seq Ann.leaf Ann.leaf)
def F27_den (t0 : Value) (t1 : Value) (w : World) (R : Value → World → Prop) : Prop :=
  Go.Vc.Safe (t0) ∧
  V Try.prog (Instr.fieldAt 64 t0 4) w fun t7 w2 =>
  U Try.prog (Instr.storeAt 3 t7 t1) w2 fun _ w3 =>
  Go.Vc.Safe (t0) ∧
  V Try.prog (Instr.fieldAt 64 t0 1) w3 fun t10 w5 =>
  V Try.prog (Instr.loadAt 61 t10) w5 fun t11 w6 =>
  callD Try.prog 29 #[t11, (Value.int IntKind.i64 5), t1, (Value.int IntKind.i64 0), (Value.int IntKind.i64 0)] w6 fun t13 w7 =>
  R (.tuple #[]) w7
theorem F27_eq (t0 : Value) (t1 : Value) (w : World) (R : Value → World → Prop) : F27_den t0 t1 w R = vc Try.prog F27_ann (Try.f27.body.getD .skip) (retE Try.prog Try.f27.results.toList R) (argEnv [t0, t1]) w := by kernel_rfl
theorem F27_wp {t0 : Value} {t1 : Value} {w : World} {R : Value → World → Prop} (h : F27_den t0 t1 w R) : callD Try.prog 27 #[t0, t1] w R :=
  callD.of_calls (fn := Try.f27) (c := Try.f27.body.getD .skip) Try.func27 (by kernel_rfl) (by kernel_rfl) (calls_of_vc (args := [t0, t1]) F27_ann mixed Try.func27 (by kernel_rfl) (by kernel_rfl) (F27_eq t0 t1 w R ▸ h))

/-- (*taciturn/interp.Machine).top -/
def F28_ann : Ann := (Ann.seq Ann.leaf (Ann.seq (Ann.draw [0, 1, 2, 4, 0, 16, 32, 64, 128, 256, 520, 1024, 4095] [0, 1, 2, 4, 0, 16, 32, 64, 128, 256, 520, 1024, 2048] 0 13 8191 (.take 0 (.take 1 (.take 2 (.take 3 (.take 4 (.take 5 (.take 6 (.take 7 (.take 8 (.take 9 (.take 10 (.take 11 (.take 12 .done)))))))))))))) Ann.leaf))
def F28_den (t0 : Value) (w : World) (R : Value → World → Prop) : Prop :=
  drawD w fun S1 w1 =>
  Go.Vc.Safe (t0) ∧
  yieldS Try.prog S1 (Instr.fieldAt 64 t0 2) fun t5 =>
  yieldS Try.prog S1 (Instr.loadAt 62 t5) fun t6 =>
  Go.Vc.Safe (t0) ∧
  yieldS Try.prog S1 (Instr.fieldAt 64 t0 2) fun t9 =>
  yieldS Try.prog S1 (Instr.loadAt 62 t9) fun t10 =>
  yieldS Try.prog S1 (Builtin.len_ #[62] 3 #[t10]) fun t11 =>
  yieldS Try.prog S1 (binOp .sub 3 t11 (Value.int IntKind.i64 1)) fun t12 =>
  yieldS Try.prog S1 (Instr.indexAt 62 t6 t12) fun t13 =>
  yieldS Try.prog S1 (Instr.loadAt 87 t13) fun t14 =>
  R t14 w1
theorem F28_eq (t0 : Value) (w : World) (R : Value → World → Prop) : F28_den t0 w R = vc Try.prog F28_ann (Try.f28.body.getD .skip) (retE Try.prog Try.f28.results.toList R) (argEnv [t0]) w := by kernel_rfl
theorem F28_wp {t0 : Value} {w : World} {R : Value → World → Prop} (h : F28_den t0 w R) : callD Try.prog 28 #[t0] w R :=
  callD.of_calls (fn := Try.f28) (c := Try.f28.body.getD .skip) Try.func28 (by kernel_rfl) (by kernel_rfl) (calls_of_vc (args := [t0]) F28_ann mixed Try.func28 (by kernel_rfl) (by kernel_rfl) (F28_eq t0 w R ▸ h))

/-- (*taciturn/leak.Trace).Add -/
def F29_ann : Ann := (Ann.seq Ann.leaf (Ann.seq (Ann.seq Ann.leaf (Ann.cond (Ann.seq Ann.leaf Ann.leaf) Ann.leaf)) (Ann.seq Ann.leaf (Ann.seq Ann.leaf Ann.leaf))))
def F29_den (t0 : Value) (t1 : Value) (t2 : Value) (t3 : Value) (t4 : Value) (w : World) (R : Value → World → Prop) : Prop :=
  Go.Vc.Safe (t0) ∧
  V Try.prog (Instr.fieldAt 84 t0 0) w fun t13 w2 =>
  V Try.prog (Instr.loadAt 82 t13) w2 fun t14 w3 =>
  V Try.prog (Builtin.len_ #[82] 3 #[t14]) w3 fun t15 w4 =>
  V Try.prog (binOp .geq 3 t15 (Value.int IntKind.i64 200000)) w4 fun t16 w5 =>
  ifD t16 (
  R (Value.bool false) w5) (
  Go.Vc.Safe (t0) ∧
  V Try.prog (Instr.fieldAt 84 t0 0) w5 fun t20 w7 =>
  V Try.prog (Instr.loadAt 82 t20) w7 fun t21 w8 =>
  V Try.prog (Instr.build 95 #[(0, t1), (1, t2), (2, t3), (3, t4)]) w8 fun t26 w9 =>
  V Try.prog (Instr.buildSlice 82 1 #[(0, t26)]) w9 fun t27 w10 =>
  V Try.prog (Builtin.append_ #[82, 82] 82 #[t21, t27]) w10 fun t28 w11 =>
  Go.Vc.Safe (t0) ∧
  V Try.prog (Instr.fieldAt 84 t0 0) w11 fun t30 w13 =>
  U Try.prog (Instr.storeAt 82 t30 t28) w13 fun _ w14 =>
  R (Value.bool true) w14)
theorem F29_eq (t0 : Value) (t1 : Value) (t2 : Value) (t3 : Value) (t4 : Value) (w : World) (R : Value → World → Prop) : F29_den t0 t1 t2 t3 t4 w R = vc Try.prog F29_ann (Try.f29.body.getD .skip) (retE Try.prog Try.f29.results.toList R) (argEnv [t0, t1, t2, t3, t4]) w := by kernel_rfl
theorem F29_wp {t0 : Value} {t1 : Value} {t2 : Value} {t3 : Value} {t4 : Value} {w : World} {R : Value → World → Prop} (h : F29_den t0 t1 t2 t3 t4 w R) : callD Try.prog 29 #[t0, t1, t2, t3, t4] w R :=
  callD.of_calls (fn := Try.f29) (c := Try.f29.body.getD .skip) Try.func29 (by kernel_rfl) (by kernel_rfl) (calls_of_vc (args := [t0, t1, t2, t3, t4]) F29_ann mixed Try.func29 (by kernel_rfl) (by kernel_rfl) (F29_eq t0 t1 t2 t3 t4 w R ▸ h))

/-- (*taciturn/interp.Machine).do -/
def F30_ann : Ann := (Ann.seq Ann.leaf (Ann.seq (Ann.seq Ann.leaf (Ann.block (Ann.seq Ann.leaf (Ann.cond (Ann.seq (Ann.draw [0, 0, 0, 4, 8, 16, 0, 64, 163, 511] [0, 0, 0, 4, 8, 16, 0, 64, 163, 256] 0 10 1023 (.take 0 (.take 1 (.take 2 (.take 3 (.take 4 (.take 5 (.take 6 (.take 7 (.only 8 (.take 9 .done))))))))))) Ann.leaf) (Ann.seq Ann.leaf (Ann.cond (Ann.seq (Ann.draw [0, 1, 2, 4, 0, 16, 32, 64, 0, 256, 648, 1024, 2048, 2048, 2048, 8191, 49151, 131071] [0, 1, 2, 4, 0, 16, 32, 64, 0, 256, 648, 1024, 2048, 2048, 2048, 4096, 8192, 16384] 0 18 262143 (.take 0 (.take 1 (.take 2 (.take 3 (.take 4 (.take 5 (.take 6 (.take 7 (.take 8 (.take 9 (.only 10 (.take 11 (.take 12 (.take 13 (.take 14 (.take 15 (.take 16 (.take 17 .done))))))))))))))))))) (Ann.seq (Ann.seq Ann.leaf (Ann.cond (Ann.seq Ann.leaf (Ann.seq Ann.leaf Ann.leaf)) Ann.leaf)) (Ann.seq Ann.leaf Ann.leaf))) (Ann.seq Ann.leaf (Ann.cond (Ann.seq Ann.leaf (Ann.seq Ann.leaf Ann.leaf)) Ann.leaf)))))))) (Ann.seq (Ann.seq Ann.leaf (Ann.seq Ann.leaf (Ann.cond (Ann.seq Ann.leaf Ann.leaf) Ann.leaf))) (Ann.seq Ann.leaf (Ann.seq Ann.leaf Ann.leaf)))))
def F30_den (t0 : Value) (t1 : Value) (t2 : Value) (w : World) (R : Value → World → Prop) : Prop :=
  V Try.prog (Instr.box 27 t2) w fun t5 w1 =>
  V Try.prog (Instr.fieldAt 27 t5 0) w1 fun t11 w2 =>
  V Try.prog (Instr.loadAt 3 t11) w2 fun t12 w3 =>
  V Try.prog (do eqGuard .eql 3 (Operand.tmp 12) (Operand.const (Value.int IntKind.i64 37)) t12 (Value.int IntKind.i64 37); binOp .eql 3 t12 (Value.int IntKind.i64 37)) w3 fun t14 w4 =>
  ifD t14 (
  drawD w4 fun S3 w5 =>
  Go.Vc.Safe (t1) ∧
  yieldS Try.prog S3 (Instr.fieldAt 89 t1 0) fun t19 =>
  yieldS Try.prog S3 (Instr.loadAt 3 t19) fun t20 =>
  yieldS Try.prog S3 (Instr.fieldAt 27 t5 1) fun t21 =>
  yieldS Try.prog S3 (Instr.loadAt 3 t21) fun t22 =>
  callD Try.prog 31 #[t0, t1, t20, t22] w5 fun t23 w6 =>
  S3 w6 ∧
  R t23 w6) (
  V Try.prog (do eqGuard .eql 3 (Operand.tmp 12) (Operand.const (Value.int IntKind.i64 38)) t12 (Value.int IntKind.i64 38); binOp .eql 3 t12 (Value.int IntKind.i64 38)) w4 fun t25 w7 =>
  ifD t25 (
  drawD w7 fun S5 w8 =>
  Go.Vc.Safe (t0) ∧
  yieldS Try.prog S5 (Instr.fieldAt 64 t0 0) fun t29 =>
  yieldS Try.prog S5 (Instr.loadAt 31 t29) fun t30 =>
  Go.Vc.Safe (t1) ∧
  yieldS Try.prog S5 (Instr.fieldAt 89 t1 0) fun t33 =>
  yieldS Try.prog S5 (Instr.loadAt 3 t33) fun t34 =>
  yieldS Try.prog S5 (Instr.fieldAt 27 t5 1) fun t35 =>
  yieldS Try.prog S5 (Instr.loadAt 3 t35) fun t36 =>
  callD Try.prog 32 #[t30, t34, t36] w8 fun t37 w9 =>
  S5 w9 ∧
  yieldS Try.prog S5 (Instr.extract t37 0) fun t38 =>
  yieldS Try.prog S5 (Instr.extract t37 1) fun t39 =>
  yieldS Try.prog S5 (Instr.extract t37 2) fun t40 =>
  V Try.prog (Op.unary UnOp.not t40) w9 fun t42 w10 =>
  ifD t42 (
  V Try.prog (Instr.fieldAt 27 t5 1) w10 fun t46 w11 =>
  V Try.prog (Instr.loadAt 3 t46) w11 fun t47 w12 =>
  callD Try.prog 34 #[t0, t1, t47] w12 fun t48 w13 =>
  V Try.prog (Instr.field 78 t48 2) w13 fun t49 w14 =>
  V Try.prog (Builtin.len_ #[23] 3 #[t49]) w14 fun t50 w15 =>
  callD Try.prog 33 #[t1, t50] w15 fun t51 w16 =>
  R (Value.int IntKind.i64 28424) w16) (
  callD Try.prog 31 #[t0, t1, t38, t39] w10 fun t56 w17 =>
  R t56 w17)) (
  V Try.prog (do eqGuard .eql 3 (Operand.tmp 12) (Operand.const (Value.int IntKind.i64 39)) t12 (Value.int IntKind.i64 39); binOp .eql 3 t12 (Value.int IntKind.i64 39)) w7 fun t58 w18 =>
  ifD t58 (
  callD Try.prog 35 #[t0, t1] w18 fun t61 w19 =>
  R (Value.int IntKind.i64 36864) w19) (
  V Try.prog (Instr.fieldAt 27 t5 0) w18 fun t62 w20 =>
  V Try.prog (Instr.loadAt 3 t62) w20 fun t63 w21 =>
  callD Try.prog 36 #[t63] w21 fun t64 w22 =>
  V Try.prog (binOp .geq 3 t64 (Value.int IntKind.i64 0)) w22 fun t66 w23 =>
  ifD t66 (
  V Try.prog (Instr.loadAt 27 t5) w23 fun t69 w24 =>
  callD Try.prog 37 #[t0, t1, t69, t64] w24 fun t71 w25 =>
  R t71 w25) (
  V Try.prog (Instr.loadAt 27 t5) w23 fun t75 w26 =>
  callD Try.prog 38 #[t0, t1, t75] w26 fun t76 w27 =>
  Go.Vc.Safe (t1) ∧
  V Try.prog (Instr.fieldAt 89 t1 2) w27 fun t78 w29 =>
  U Try.prog (Instr.storeAt 3 t78 t76) w29 fun _ w30 =>
  R (Value.int IntKind.i64 36864) w30))))
theorem F30_eq (t0 : Value) (t1 : Value) (t2 : Value) (w : World) (R : Value → World → Prop) : F30_den t0 t1 t2 w R = vc Try.prog F30_ann (Try.f30.body.getD .skip) (retE Try.prog Try.f30.results.toList R) (argEnv [t0, t1, t2]) w := by kernel_rfl
theorem F30_wp {t0 : Value} {t1 : Value} {t2 : Value} {w : World} {R : Value → World → Prop} (h : F30_den t0 t1 t2 w R) : callD Try.prog 30 #[t0, t1, t2] w R :=
  callD.of_calls (fn := Try.f30) (c := Try.f30.body.getD .skip) Try.func30 (by kernel_rfl) (by kernel_rfl) (calls_of_vc (args := [t0, t1, t2]) F30_ann mixed Try.func30 (by kernel_rfl) (by kernel_rfl) (F30_eq t0 t1 t2 w R ▸ h))

/-- (*taciturn/interp.frame).pop -/
def F33_ann : Ann := (Ann.seq Ann.leaf (Ann.seq Ann.leaf (Ann.seq Ann.leaf (Ann.seq Ann.leaf (Ann.seq Ann.leaf Ann.leaf)))))
def F33_den (t0 : Value) (t1 : Value) (w : World) (R : Value → World → Prop) : Prop :=
  Go.Vc.Safe (t0) ∧
  V Try.prog (Instr.fieldAt 89 t0 5) w fun t9 w2 =>
  V Try.prog (Instr.loadAt 22 t9) w2 fun t10 w3 =>
  V Try.prog (Builtin.len_ #[22] 3 #[t10]) w3 fun t11 w4 =>
  V Try.prog (binOp .sub 3 t11 t1) w4 fun t13 w5 =>
  Go.Vc.Safe (t0) ∧
  V Try.prog (Instr.fieldAt 89 t0 5) w5 fun t16 w7 =>
  V Try.prog (Instr.loadAt 22 t16) w7 fun t17 w8 =>
  V Try.prog (Instr.sliceAt 22 t17 (some t13) none none) w8 fun t19 w9 =>
  callD Try.prog 40 #[t19] w9 fun t20 w10 =>
  Go.Vc.Safe (t0) ∧
  V Try.prog (Instr.fieldAt 89 t0 5) w10 fun t24 w12 =>
  V Try.prog (Instr.loadAt 22 t24) w12 fun t25 w13 =>
  V Try.prog (Instr.sliceAt 22 t25 none (some t13) none) w13 fun t27 w14 =>
  Go.Vc.Safe (t0) ∧
  V Try.prog (Instr.fieldAt 89 t0 5) w14 fun t29 w16 =>
  U Try.prog (Instr.storeAt 22 t29 t27) w16 fun _ w17 =>
  R t20 w17
theorem F33_eq (t0 : Value) (t1 : Value) (w : World) (R : Value → World → Prop) : F33_den t0 t1 w R = vc Try.prog F33_ann (Try.f33.body.getD .skip) (retE Try.prog Try.f33.results.toList R) (argEnv [t0, t1]) w := by kernel_rfl
theorem F33_wp {t0 : Value} {t1 : Value} {w : World} {R : Value → World → Prop} (h : F33_den t0 t1 w R) : callD Try.prog 33 #[t0, t1] w R :=
  callD.of_calls (fn := Try.f33) (c := Try.f33.body.getD .skip) Try.func33 (by kernel_rfl) (by kernel_rfl) (calls_of_vc (args := [t0, t1]) F33_ann mixed Try.func33 (by kernel_rfl) (by kernel_rfl) (F33_eq t0 t1 w R ▸ h))

/-- (*taciturn/interp.Machine).ret -/
def F35_ann : Ann := (Ann.seq (Ann.draw [0, 0, 2, 4, 8, 0, 32, 64, 128, 256, 512, 1040, 4095, 8191, 12287] [0, 0, 2, 4, 8, 0, 32, 64, 128, 256, 512, 1040, 1, 4096, 10240] 0 14 16383 (.take 0 (.take 1 (.take 2 (.take 3 (.take 4 (.take 5 (.take 6 (.take 7 (.take 8 (.take 9 (.take 10 (.take 11 (.take 12 (.take 13 (.last 14)))))))))))))))) (Ann.seq (Ann.seq Ann.leaf (Ann.cond (Ann.seq Ann.leaf Ann.leaf) Ann.leaf)) (Ann.seq Ann.leaf (Ann.cond Ann.leaf Ann.leaf))))
def F35_den (t0 : Value) (t1 : Value) (w : World) (R : Value → World → Prop) : Prop :=
  drawD w fun S0 w1 =>
  Go.Vc.Safe (t0) ∧
  yieldS Try.prog S0 (Instr.fieldAt 64 t0 2) fun t7 =>
  yieldS Try.prog S0 (Instr.loadAt 62 t7) fun t8 =>
  Go.Vc.Safe (t0) ∧
  yieldS Try.prog S0 (Instr.fieldAt 64 t0 2) fun t11 =>
  yieldS Try.prog S0 (Instr.loadAt 62 t11) fun t12 =>
  yieldS Try.prog S0 (Builtin.len_ #[62] 3 #[t12]) fun t13 =>
  yieldS Try.prog S0 (binOp .sub 3 t13 (Value.int IntKind.i64 1)) fun t14 =>
  yieldS Try.prog S0 (Instr.sliceAt 62 t8 none (some t14) none) fun t15 =>
  Go.Vc.Safe (t0) ∧
  yieldS Try.prog S0 (Instr.fieldAt 64 t0 2) fun t17 =>
  U Try.prog (Instr.storeAt 62 t17 t15) w1 fun _ w2 =>
  Go.Vc.Safe (t0) ∧
  V Try.prog (Instr.fieldAt 64 t0 2) w2 fun t20 w4 =>
  V Try.prog (Instr.loadAt 62 t20) w4 fun t21 w5 =>
  V Try.prog (Builtin.len_ #[62] 3 #[t21]) w5 fun t22 w6 =>
  V Try.prog (do eqGuard .eql 3 (Operand.tmp 22) (Operand.const (Value.int IntKind.i64 0)) t22 (Value.int IntKind.i64 0); binOp .eql 3 t22 (Value.int IntKind.i64 0)) w6 fun t23 w7 =>
  ifD t23 (
  callD Try.prog 27 #[t0, (Value.int IntKind.i64 36864)] w7 fun t25 w8 =>
  R (.tuple #[]) w8) (
  Go.Vc.Safe (t1) ∧
  V Try.prog (Instr.fieldAt 89 t1 3) w7 fun t28 w10 =>
  V Try.prog (Instr.fieldAt 48 t28 1) w10 fun t29 w11 =>
  V Try.prog (Instr.loadAt 3 t29) w11 fun t30 w12 =>
  V Try.prog (do eqGuard .neq 3 (Operand.tmp 30) (Operand.const (Value.int IntKind.i64 0)) t30 (Value.int IntKind.i64 0); binOp .neq 3 t30 (Value.int IntKind.i64 0)) w12 fun t31 w13 =>
  ifD t31 (
  callD Try.prog 28 #[t0] w13 fun t33 w14 =>
  callD Try.prog 42 #[t1] w14 fun t35 w15 =>
  callD Try.prog 41 #[t33, t35] w15 fun t36 w16 =>
  R (.tuple #[]) w16) (
  R (.tuple #[]) w13))
theorem F35_eq (t0 : Value) (t1 : Value) (w : World) (R : Value → World → Prop) : F35_den t0 t1 w R = vc Try.prog F35_ann (Try.f35.body.getD .skip) (retE Try.prog Try.f35.results.toList R) (argEnv [t0, t1]) w := by kernel_rfl
theorem F35_wp {t0 : Value} {t1 : Value} {w : World} {R : Value → World → Prop} (h : F35_den t0 t1 w R) : callD Try.prog 35 #[t0, t1] w R :=
  callD.of_calls (fn := Try.f35) (c := Try.f35.body.getD .skip) Try.func35 (by kernel_rfl) (by kernel_rfl) (calls_of_vc (args := [t0, t1]) F35_ann mixed Try.func35 (by kernel_rfl) (by kernel_rfl) (F35_eq t0 t1 w R ▸ h))

/-- taciturn/room.Serves -/
def F36_ann : Ann := (Ann.seq Ann.leaf (Ann.seq (Ann.seq Ann.leaf (Ann.block (Ann.join [4, 5, 6] [4] (Ann.seq Ann.leaf (Ann.cond Ann.leaf Ann.leaf)) (Ann.cond (Ann.seq Ann.leaf Ann.leaf) (Ann.join [7, 8, 9, 10] [7] (Ann.seq Ann.leaf (Ann.cond Ann.leaf (Ann.seq Ann.leaf (Ann.cond Ann.leaf Ann.leaf)))) (Ann.cond (Ann.seq Ann.leaf Ann.leaf) (Ann.join [11, 12, 13] [11] (Ann.seq Ann.leaf (Ann.cond Ann.leaf Ann.leaf)) (Ann.cond (Ann.seq Ann.leaf Ann.leaf) (Ann.seq (Ann.seq Ann.leaf (Ann.cond Ann.leaf Ann.leaf)) (Ann.cond (Ann.seq Ann.leaf Ann.leaf) Ann.leaf)))))))))) (Ann.seq Ann.leaf Ann.leaf)))
def F36_den (t0 : Value) (w : World) (R : Value → World → Prop) : Prop :=
  ∃ J1 : NP 1,
  (V Try.prog (do eqGuard .eql 3 (Operand.tmp 3) (Operand.const (Value.int IntKind.i64 27)) t0 (Value.int IntKind.i64 27); binOp .eql 3 t0 (Value.int IntKind.i64 27)) w fun t5 w1 =>
  ifD t5 (
  J1 t5 w1) (
  V Try.prog (do eqGuard .eql 3 (Operand.tmp 3) (Operand.const (Value.int IntKind.i64 28)) t0 (Value.int IntKind.i64 28); binOp .eql 3 t0 (Value.int IntKind.i64 28)) w1 fun t6 w2 =>
  J1 t6 w2)) ∧
  ∀ (t4 : Value), ∀ w3 : World, J1 t4 w3 → ∀ _f : Env,
  ifD t4 (
  R (Value.int IntKind.i64 1) w3) (
  ∃ J2 : NP 1,
  (V Try.prog (do eqGuard .eql 3 (Operand.tmp 3) (Operand.const (Value.int IntKind.i64 17)) t0 (Value.int IntKind.i64 17); binOp .eql 3 t0 (Value.int IntKind.i64 17)) w3 fun t8 w4 =>
  ifD t8 (
  J2 t8 w4) (
  V Try.prog (do eqGuard .eql 3 (Operand.tmp 3) (Operand.const (Value.int IntKind.i64 18)) t0 (Value.int IntKind.i64 18); binOp .eql 3 t0 (Value.int IntKind.i64 18)) w4 fun t9 w5 =>
  ifD t9 (
  J2 t9 w5) (
  V Try.prog (do eqGuard .eql 3 (Operand.tmp 3) (Operand.const (Value.int IntKind.i64 29)) t0 (Value.int IntKind.i64 29); binOp .eql 3 t0 (Value.int IntKind.i64 29)) w5 fun t10 w6 =>
  J2 t10 w6))) ∧
  ∀ (t7 : Value), ∀ w7 : World, J2 t7 w7 → ∀ _f : Env,
  ifD t7 (
  R (Value.int IntKind.i64 2) w7) (
  ∃ J3 : NP 1,
  (V Try.prog (do eqGuard .eql 3 (Operand.tmp 3) (Operand.const (Value.int IntKind.i64 30)) t0 (Value.int IntKind.i64 30); binOp .eql 3 t0 (Value.int IntKind.i64 30)) w7 fun t12 w8 =>
  ifD t12 (
  J3 t12 w8) (
  V Try.prog (do eqGuard .eql 3 (Operand.tmp 3) (Operand.const (Value.int IntKind.i64 36)) t0 (Value.int IntKind.i64 36); binOp .eql 3 t0 (Value.int IntKind.i64 36)) w8 fun t13 w9 =>
  J3 t13 w9)) ∧
  ∀ (t11 : Value), ∀ w10 : World, J3 t11 w10 → ∀ _f : Env,
  ifD t11 (
  R (Value.int IntKind.i64 3) w10) (
  V Try.prog (do eqGuard .eql 3 (Operand.tmp 3) (Operand.const (Value.int IntKind.i64 31)) t0 (Value.int IntKind.i64 31); binOp .eql 3 t0 (Value.int IntKind.i64 31)) w10 fun t15 w11 =>
  ifD t15 (
  ifD t15 (
  R (Value.int IntKind.i64 5) w11) (
  R (Value.int IntKind.i64 (-1)) w11)) (
  V Try.prog (do eqGuard .eql 3 (Operand.tmp 3) (Operand.const (Value.int IntKind.i64 32)) t0 (Value.int IntKind.i64 32); binOp .eql 3 t0 (Value.int IntKind.i64 32)) w11 fun t16 w12 =>
  ifD t16 (
  R (Value.int IntKind.i64 5) w12) (
  R (Value.int IntKind.i64 (-1)) w12)))))
theorem F36_eq (t0 : Value) (w : World) (R : Value → World → Prop) : F36_den t0 w R = vc Try.prog F36_ann (Try.f36.body.getD .skip) (retE Try.prog Try.f36.results.toList R) (argEnv [t0]) w := by kernel_rfl
theorem F36_wp {t0 : Value} {w : World} {R : Value → World → Prop} (h : F36_den t0 w R) : callD Try.prog 36 #[t0] w R :=
  callD.of_calls (fn := Try.f36) (c := Try.f36.body.getD .skip) Try.func36 (by kernel_rfl) (by kernel_rfl) (calls_of_vc (args := [t0]) F36_ann mixed Try.func36 (by kernel_rfl) (by kernel_rfl) (F36_eq t0 w R ▸ h))

/-- (*taciturn/interp.Machine).plain -/
def F38_ann : Ann := (Ann.seq Ann.leaf (Ann.seq (Ann.seq Ann.leaf (Ann.block (Ann.seq Ann.leaf (Ann.cond (Ann.seq Ann.leaf Ann.leaf) (Ann.seq Ann.leaf (Ann.cond (Ann.seq Ann.leaf (Ann.cond (Ann.seq Ann.leaf Ann.leaf) Ann.leaf)) (Ann.seq Ann.leaf (Ann.cond Ann.leaf (Ann.seq Ann.leaf (Ann.cond (Ann.draw [0, 0, 2, 4, 8, 0, 32, 80, 128, 257] [0, 0, 2, 4, 8, 0, 32, 80, 128, 257] 0 10 1023 (.take 0 (.take 1 (.take 2 (.take 3 (.take 4 (.take 5 (.take 6 (.take 7 (.take 8 (.only 9 .done))))))))))) (Ann.seq Ann.leaf (Ann.cond (Ann.draw [0, 1, 2, 4, 0, 16, 0, 64, 255, 511] [0, 1, 2, 4, 0, 16, 0, 64, 40, 384] 0 9 511 (.take 0 (.take 1 (.take 2 (.take 3 (.take 4 (.take 5 (.take 6 (.only 7 (.take 8 (.last 9))))))))))) (Ann.seq Ann.leaf (Ann.cond Ann.leaf (Ann.seq Ann.leaf (Ann.cond (Ann.seq Ann.leaf (Ann.seq Ann.leaf Ann.leaf)) (Ann.seq Ann.leaf (Ann.cond Ann.leaf (Ann.seq Ann.leaf (Ann.cond Ann.leaf (Ann.seq Ann.leaf (Ann.cond (Ann.seq (Ann.draw [0, 1, 2, 4, 0, 16, 32, 64, 0, 256, 648, 1024, 2048, 2048, 8191, 32767] [0, 1, 2, 4, 0, 16, 32, 64, 0, 256, 648, 1024, 2048, 2048, 4096, 8192] 0 16 65535 (.take 0 (.take 1 (.take 2 (.take 3 (.take 4 (.take 5 (.take 6 (.take 7 (.take 8 (.take 9 (.only 10 (.take 11 (.take 12 (.take 13 (.take 14 (.take 15 .done))))))))))))))))) Ann.leaf) (Ann.seq Ann.leaf (Ann.cond (Ann.draw [0, 1, 2, 4, 0, 16, 32, 64, 0, 256, 0, 1024, 2696] [0, 1, 2, 4, 0, 16, 32, 64, 0, 256, 0, 1024, 2696] 0 13 8191 (.take 0 (.take 1 (.take 2 (.take 3 (.take 4 (.take 5 (.take 6 (.take 7 (.take 8 (.take 9 (.take 10 (.only 11 (.only 12 .done)))))))))))))) Ann.leaf)))))))))))))))))))))))) (Ann.seq Ann.leaf Ann.leaf)))
def F38_den (t0 : Value) (t1 : Value) (t2 : Value) (w : World) (R : Value → World → Prop) : Prop :=
  V Try.prog (Instr.box 27 t2) w fun t5 w1 =>
  V Try.prog (Instr.fieldAt 27 t5 0) w1 fun t10 w2 =>
  V Try.prog (Instr.loadAt 3 t10) w2 fun t11 w3 =>
  V Try.prog (do eqGuard .eql 3 (Operand.tmp 11) (Operand.const (Value.int IntKind.i64 23)) t11 (Value.int IntKind.i64 23); binOp .eql 3 t11 (Value.int IntKind.i64 23)) w3 fun t19 w4 =>
  ifD t19 (
  V Try.prog (Instr.fieldAt 27 t5 1) w4 fun t20 w5 =>
  V Try.prog (Instr.loadAt 3 t20) w5 fun t21 w6 =>
  R t21 w6) (
  V Try.prog (do eqGuard .eql 3 (Operand.tmp 11) (Operand.const (Value.int IntKind.i64 24)) t11 (Value.int IntKind.i64 24); binOp .eql 3 t11 (Value.int IntKind.i64 24)) w4 fun t23 w7 =>
  ifD t23 (
  callD Try.prog 42 #[t1] w7 fun t25 w8 =>
  V Try.prog (do eqGuard .neq 21 (Operand.tmp 25) (Operand.const (Value.int IntKind.i32 0)) t25 (Value.int IntKind.i32 0); binOp .neq 21 t25 (Value.int IntKind.i32 0)) w8 fun t26 w9 =>
  ifD t26 (
  V Try.prog (Instr.fieldAt 27 t5 1) w9 fun t27 w10 =>
  V Try.prog (Instr.loadAt 3 t27) w10 fun t28 w11 =>
  R t28 w11) (
  Go.Vc.Safe (t1) ∧
  V Try.prog (Instr.fieldAt 89 t1 2) w9 fun t120 w13 =>
  V Try.prog (Instr.loadAt 3 t120) w13 fun t121 w14 =>
  V Try.prog (binOp .add 3 t121 (Value.int IntKind.i64 1)) w14 fun t122 w15 =>
  R t122 w15)) (
  V Try.prog (do eqGuard .eql 3 (Operand.tmp 11) (Operand.const (Value.int IntKind.i64 1)) t11 (Value.int IntKind.i64 1); binOp .eql 3 t11 (Value.int IntKind.i64 1)) w7 fun t30 w16 =>
  ifD t30 (
  V Try.prog (Instr.fieldAt 27 t5 1) w16 fun t32 w17 =>
  V Try.prog (Instr.loadAt 3 t32) w17 fun t33 w18 =>
  V Try.prog (convert 3 21 t33) w18 fun t34 w19 =>
  callD Try.prog 41 #[t1, t34] w19 fun t35 w20 =>
  Go.Vc.Safe (t1) ∧
  V Try.prog (Instr.fieldAt 89 t1 2) w20 fun t120_1 w22 =>
  V Try.prog (Instr.loadAt 3 t120_1) w22 fun t121_1 w23 =>
  V Try.prog (binOp .add 3 t121_1 (Value.int IntKind.i64 1)) w23 fun t122_1 w24 =>
  R t122_1 w24) (
  V Try.prog (do eqGuard .eql 3 (Operand.tmp 11) (Operand.const (Value.int IntKind.i64 2)) t11 (Value.int IntKind.i64 2); binOp .eql 3 t11 (Value.int IntKind.i64 2)) w16 fun t37 w25 =>
  ifD t37 (
  drawD w25 fun S11 w26 =>
  Go.Vc.Safe (t1) ∧
  yieldS Try.prog S11 (Instr.fieldAt 89 t1 4) fun t41 =>
  yieldS Try.prog S11 (Instr.loadAt 22 t41) fun t42 =>
  yieldS Try.prog S11 (Instr.fieldAt 27 t5 1) fun t43 =>
  yieldS Try.prog S11 (Instr.loadAt 3 t43) fun t44 =>
  yieldS Try.prog S11 (Instr.indexAt 22 t42 t44) fun t45 =>
  yieldS Try.prog S11 (Instr.loadAt 21 t45) fun t46 =>
  callD Try.prog 41 #[t1, t46] w26 fun t47 w27 =>
  S11 w27 ∧
  Go.Vc.Safe (t1) ∧
  V Try.prog (Instr.fieldAt 89 t1 2) w27 fun t120_2 w29 =>
  V Try.prog (Instr.loadAt 3 t120_2) w29 fun t121_2 w30 =>
  V Try.prog (binOp .add 3 t121_2 (Value.int IntKind.i64 1)) w30 fun t122_2 w31 =>
  R t122_2 w31) (
  V Try.prog (do eqGuard .eql 3 (Operand.tmp 11) (Operand.const (Value.int IntKind.i64 3)) t11 (Value.int IntKind.i64 3); binOp .eql 3 t11 (Value.int IntKind.i64 3)) w25 fun t49 w32 =>
  ifD t49 (
  drawD w32 fun S13 w33 =>
  Go.Vc.Safe (t1) ∧
  yieldS Try.prog S13 (Instr.fieldAt 89 t1 4) fun t52 =>
  yieldS Try.prog S13 (Instr.loadAt 22 t52) fun t53 =>
  yieldS Try.prog S13 (Instr.fieldAt 27 t5 1) fun t54 =>
  yieldS Try.prog S13 (Instr.loadAt 3 t54) fun t55 =>
  callD Try.prog 42 #[t1] w33 fun t57 w34 =>
  S13 w34 ∧
  yieldS Try.prog S13 (Instr.indexAt 22 t53 t55) fun t58 =>
  U Try.prog (Instr.storeAt 21 t58 t57) w34 fun _ w35 =>
  Go.Vc.Safe (t1) ∧
  V Try.prog (Instr.fieldAt 89 t1 2) w35 fun t120_3 w37 =>
  V Try.prog (Instr.loadAt 3 t120_3) w37 fun t121_3 w38 =>
  V Try.prog (binOp .add 3 t121_3 (Value.int IntKind.i64 1)) w38 fun t122_3 w39 =>
  R t122_3 w39) (
  V Try.prog (do eqGuard .eql 3 (Operand.tmp 11) (Operand.const (Value.int IntKind.i64 4)) t11 (Value.int IntKind.i64 4); binOp .eql 3 t11 (Value.int IntKind.i64 4)) w32 fun t60 w40 =>
  ifD t60 (
  callD Try.prog 42 #[t1] w40 fun t62 w41 =>
  Go.Vc.Safe (t1) ∧
  V Try.prog (Instr.fieldAt 89 t1 2) w41 fun t120_4 w43 =>
  V Try.prog (Instr.loadAt 3 t120_4) w43 fun t121_4 w44 =>
  V Try.prog (binOp .add 3 t121_4 (Value.int IntKind.i64 1)) w44 fun t122_4 w45 =>
  R t122_4 w45) (
  V Try.prog (do eqGuard .eql 3 (Operand.tmp 11) (Operand.const (Value.int IntKind.i64 5)) t11 (Value.int IntKind.i64 5); binOp .eql 3 t11 (Value.int IntKind.i64 5)) w40 fun t64 w46 =>
  ifD t64 (
  callD Try.prog 42 #[t1] w46 fun t66 w47 =>
  callD Try.prog 41 #[t1, t66] w47 fun t69 w48 =>
  callD Try.prog 41 #[t1, t66] w48 fun t72 w49 =>
  Go.Vc.Safe (t1) ∧
  V Try.prog (Instr.fieldAt 89 t1 2) w49 fun t120_5 w51 =>
  V Try.prog (Instr.loadAt 3 t120_5) w51 fun t121_5 w52 =>
  V Try.prog (binOp .add 3 t121_5 (Value.int IntKind.i64 1)) w52 fun t122_5 w53 =>
  R t122_5 w53) (
  V Try.prog (do eqGuard .eql 3 (Operand.tmp 11) (Operand.const (Value.int IntKind.i64 25)) t11 (Value.int IntKind.i64 25); binOp .eql 3 t11 (Value.int IntKind.i64 25)) w46 fun t74 w54 =>
  ifD t74 (
  callD Try.prog 41 #[t1, (Value.int IntKind.i32 0)] w54 fun t76 w55 =>
  Go.Vc.Safe (t1) ∧
  V Try.prog (Instr.fieldAt 89 t1 2) w55 fun t120_6 w57 =>
  V Try.prog (Instr.loadAt 3 t120_6) w57 fun t121_6 w58 =>
  V Try.prog (binOp .add 3 t121_6 (Value.int IntKind.i64 1)) w58 fun t122_6 w59 =>
  R t122_6 w59) (
  V Try.prog (do eqGuard .eql 3 (Operand.tmp 11) (Operand.const (Value.int IntKind.i64 35)) t11 (Value.int IntKind.i64 35); binOp .eql 3 t11 (Value.int IntKind.i64 35)) w54 fun t78 w60 =>
  ifD t78 (
  V Try.prog (Instr.fieldAt 27 t5 1) w60 fun t80 w61 =>
  V Try.prog (Instr.loadAt 3 t80) w61 fun t81 w62 =>
  V Try.prog (convert 3 21 t81) w62 fun t82 w63 =>
  callD Try.prog 41 #[t1, t82] w63 fun t83 w64 =>
  Go.Vc.Safe (t1) ∧
  V Try.prog (Instr.fieldAt 89 t1 2) w64 fun t120_7 w66 =>
  V Try.prog (Instr.loadAt 3 t120_7) w66 fun t121_7 w67 =>
  V Try.prog (binOp .add 3 t121_7 (Value.int IntKind.i64 1)) w67 fun t122_7 w68 =>
  R t122_7 w68) (
  V Try.prog (do eqGuard .eql 3 (Operand.tmp 11) (Operand.const (Value.int IntKind.i64 33)) t11 (Value.int IntKind.i64 33); binOp .eql 3 t11 (Value.int IntKind.i64 33)) w60 fun t85 w69 =>
  ifD t85 (
  drawD w69 fun S25 w70 =>
  Go.Vc.Safe (t0) ∧
  yieldS Try.prog S25 (Instr.fieldAt 64 t0 0) fun t89 =>
  yieldS Try.prog S25 (Instr.loadAt 31 t89) fun t90 =>
  Go.Vc.Safe (t1) ∧
  yieldS Try.prog S25 (Instr.fieldAt 89 t1 0) fun t93 =>
  yieldS Try.prog S25 (Instr.loadAt 3 t93) fun t94 =>
  yieldS Try.prog S25 (Instr.fieldAt 27 t5 1) fun t95 =>
  yieldS Try.prog S25 (Instr.loadAt 3 t95) fun t96 =>
  callD Try.prog 8 #[t90, t94, t96] w70 fun t97 w71 =>
  S25 w71 ∧
  yieldS Try.prog S25 (Instr.extract t97 0) fun t98 =>
  yieldS Try.prog S25 (Instr.extract t97 1) fun t99 =>
  callD Try.prog 41 #[t1, t98] w71 fun t102 w72 =>
  Go.Vc.Safe (t1) ∧
  V Try.prog (Instr.fieldAt 89 t1 2) w72 fun t120_8 w74 =>
  V Try.prog (Instr.loadAt 3 t120_8) w74 fun t121_8 w75 =>
  V Try.prog (binOp .add 3 t121_8 (Value.int IntKind.i64 1)) w75 fun t122_8 w76 =>
  R t122_8 w76) (
  V Try.prog (do eqGuard .eql 3 (Operand.tmp 11) (Operand.const (Value.int IntKind.i64 34)) t11 (Value.int IntKind.i64 34); binOp .eql 3 t11 (Value.int IntKind.i64 34)) w69 fun t104 w77 =>
  ifD t104 (
  drawD w77 fun S28 w78 =>
  Go.Vc.Safe (t0) ∧
  yieldS Try.prog S28 (Instr.fieldAt 64 t0 0) fun t107 =>
  yieldS Try.prog S28 (Instr.loadAt 31 t107) fun t108 =>
  Go.Vc.Safe (t1) ∧
  yieldS Try.prog S28 (Instr.fieldAt 89 t1 0) fun t111 =>
  yieldS Try.prog S28 (Instr.loadAt 3 t111) fun t112 =>
  yieldS Try.prog S28 (Instr.fieldAt 27 t5 1) fun t113 =>
  yieldS Try.prog S28 (Instr.loadAt 3 t113) fun t114 =>
  callD Try.prog 42 #[t1] w78 fun t116 w79 =>
  S28 w79 ∧
  callD Try.prog 44 #[t108, t112, t114, t116] w79 fun t117 w80 =>
  S28 w80 ∧
  Go.Vc.Safe (t1) ∧
  V Try.prog (Instr.fieldAt 89 t1 2) w80 fun t120_9 w82 =>
  V Try.prog (Instr.loadAt 3 t120_9) w82 fun t121_9 w83 =>
  V Try.prog (binOp .add 3 t121_9 (Value.int IntKind.i64 1)) w83 fun t122_9 w84 =>
  R t122_9 w84) (
  V Try.prog (Instr.fieldAt 27 t5 0) w77 fun t14 w85 =>
  V Try.prog (Instr.loadAt 3 t14) w85 fun t15 w86 =>
  callD Try.prog 45 #[t1, t15] w86 fun t16 w87 =>
  callD Try.prog 41 #[t1, t16] w87 fun t17 w88 =>
  Go.Vc.Safe (t1) ∧
  V Try.prog (Instr.fieldAt 89 t1 2) w88 fun t120_10 w90 =>
  V Try.prog (Instr.loadAt 3 t120_10) w90 fun t121_10 w91 =>
  V Try.prog (binOp .add 3 t121_10 (Value.int IntKind.i64 1)) w91 fun t122_10 w92 =>
  R t122_10 w92)))))))))))
theorem F38_eq (t0 : Value) (t1 : Value) (t2 : Value) (w : World) (R : Value → World → Prop) : F38_den t0 t1 t2 w R = vc Try.prog F38_ann (Try.f38.body.getD .skip) (retE Try.prog Try.f38.results.toList R) (argEnv [t0, t1, t2]) w := by kernel_rfl
theorem F38_wp {t0 : Value} {t1 : Value} {t2 : Value} {w : World} {R : Value → World → Prop} (h : F38_den t0 t1 t2 w R) : callD Try.prog 38 #[t0, t1, t2] w R :=
  callD.of_calls (fn := Try.f38) (c := Try.f38.body.getD .skip) Try.func38 (by kernel_rfl) (by kernel_rfl) (calls_of_vc (args := [t0, t1, t2]) F38_ann mixed Try.func38 (by kernel_rfl) (by kernel_rfl) (F38_eq t0 t1 t2 w R ▸ h))

/-- slices.Clone[[]int32,int32] -/
def F40_ann : Ann := (Ann.seq Ann.leaf (Ann.seq (Ann.seq Ann.leaf (Ann.cond (Ann.seq Ann.leaf Ann.leaf) Ann.leaf)) (Ann.seq Ann.leaf Ann.leaf)))
def F40_den (t0 : Value) (w : World) (R : Value → World → Prop) : Prop :=
  V Try.prog (do eqGuard .eql 22 (Operand.tmp 3) (Operand.const (Value.slice none 0 0)) t0 (Value.slice none 0 0); binOp .eql 22 t0 (Value.slice none 0 0)) w fun t4 w1 =>
  ifD t4 (
  R (Value.slice none 0 0) w1) (
  V Try.prog (Instr.buildSlice 22 0 #[]) w1 fun t5 w2 =>
  V Try.prog (Builtin.append_ #[22, 22] 22 #[t5, t0]) w2 fun t7 w3 =>
  R t7 w3)
theorem F40_eq (t0 : Value) (w : World) (R : Value → World → Prop) : F40_den t0 w R = vc Try.prog F40_ann (Try.f40.body.getD .skip) (retE Try.prog Try.f40.results.toList R) (argEnv [t0]) w := by kernel_rfl
theorem F40_wp {t0 : Value} {w : World} {R : Value → World → Prop} (h : F40_den t0 w R) : callD Try.prog 40 #[t0] w R :=
  callD.of_calls (fn := Try.f40) (c := Try.f40.body.getD .skip) Try.func40 (by kernel_rfl) (by kernel_rfl) (calls_of_vc (args := [t0]) F40_ann mixed Try.func40 (by kernel_rfl) (by kernel_rfl) (F40_eq t0 w R ▸ h))

/-- (*taciturn/interp.frame).push -/
def F41_ann : Ann := Ann.leaf
def F41_den (t0 : Value) (t1 : Value) (w : World) (R : Value → World → Prop) : Prop :=
  Go.Vc.Safe (t0) ∧
  V Try.prog (Instr.fieldAt 89 t0 5) w fun t7 w2 =>
  V Try.prog (Instr.loadAt 22 t7) w2 fun t8 w3 =>
  V Try.prog (Instr.buildSlice 22 1 #[(0, t1)]) w3 fun t10 w4 =>
  V Try.prog (Builtin.append_ #[22, 22] 22 #[t8, t10]) w4 fun t11 w5 =>
  Go.Vc.Safe (t0) ∧
  V Try.prog (Instr.fieldAt 89 t0 5) w5 fun t13 w7 =>
  U Try.prog (Instr.storeAt 22 t13 t11) w7 fun _ w8 =>
  R (.tuple #[]) w8
theorem F41_eq (t0 : Value) (t1 : Value) (w : World) (R : Value → World → Prop) : F41_den t0 t1 w R = vc Try.prog F41_ann (Try.f41.body.getD .skip) (retE Try.prog Try.f41.results.toList R) (argEnv [t0, t1]) w := by kernel_rfl
theorem F41_wp {t0 : Value} {t1 : Value} {w : World} {R : Value → World → Prop} (h : F41_den t0 t1 w R) : callD Try.prog 41 #[t0, t1] w R :=
  callD.of_calls (fn := Try.f41) (c := Try.f41.body.getD .skip) Try.func41 (by kernel_rfl) (by kernel_rfl) (calls_of_vc (args := [t0, t1]) F41_ann mixed Try.func41 (by kernel_rfl) (by kernel_rfl) (F41_eq t0 t1 w R ▸ h))

/-- (*taciturn/interp.frame).one -/
def F42_ann : Ann := (Ann.seq Ann.leaf (Ann.seq Ann.leaf Ann.leaf))
def F42_den (t0 : Value) (w : World) (R : Value → World → Prop) : Prop :=
  callD Try.prog 33 #[t0, (Value.int IntKind.i64 1)] w fun t4 w1 =>
  V Try.prog (Instr.indexAt 22 t4 (Value.int IntKind.i64 0)) w1 fun t5 w2 =>
  V Try.prog (Instr.loadAt 21 t5) w2 fun t6 w3 =>
  R t6 w3
theorem F42_eq (t0 : Value) (w : World) (R : Value → World → Prop) : F42_den t0 w R = vc Try.prog F42_ann (Try.f42.body.getD .skip) (retE Try.prog Try.f42.results.toList R) (argEnv [t0]) w := by kernel_rfl
theorem F42_wp {t0 : Value} {w : World} {R : Value → World → Prop} (h : F42_den t0 w R) : callD Try.prog 42 #[t0] w R :=
  callD.of_calls (fn := Try.f42) (c := Try.f42.body.getD .skip) Try.func42 (by kernel_rfl) (by kernel_rfl) (calls_of_vc (args := [t0]) F42_ann mixed Try.func42 (by kernel_rfl) (by kernel_rfl) (F42_eq t0 w R ▸ h))

/-- (*taciturn/room.Room).SetField -/
def F44_ann : Ann := (Ann.seq Ann.leaf (Ann.seq (Ann.seq Ann.leaf (Ann.seq Ann.leaf (Ann.cond (Ann.seq Ann.leaf Ann.leaf) Ann.leaf))) (Ann.seq Ann.leaf (Ann.seq Ann.leaf Ann.leaf))))
def F44_den (t0 : Value) (t1 : Value) (t2 : Value) (t3 : Value) (w : World) (R : Value → World → Prop) : Prop :=
  callD Try.prog 8 #[t0, t1, t2] w fun t15 w1 =>
  V Try.prog (Instr.extract t15 0) w1 fun t16 w2 =>
  V Try.prog (Instr.extract t15 1) w2 fun t17 w3 =>
  V Try.prog (Op.unary UnOp.not t17) w3 fun t19 w4 =>
  ifD t19 (
  R (Value.bool false) w4) (
  Go.Vc.Safe (t0) ∧
  V Try.prog (Instr.fieldAt 60 t0 2) w4 fun t22 w6 =>
  V Try.prog (Instr.loadAt 57 t22) w6 fun t23 w7 =>
  V Try.prog (Instr.indexAt 57 t23 t1) w7 fun t25 w8 =>
  V Try.prog (Instr.loadAt 22 t25) w8 fun t26 w9 =>
  V Try.prog (Instr.indexAt 22 t26 t2) w9 fun t29 w10 =>
  U Try.prog (Instr.storeAt 21 t29 t3) w10 fun _ w11 =>
  R (Value.bool true) w11)
theorem F44_eq (t0 : Value) (t1 : Value) (t2 : Value) (t3 : Value) (w : World) (R : Value → World → Prop) : F44_den t0 t1 t2 t3 w R = vc Try.prog F44_ann (Try.f44.body.getD .skip) (retE Try.prog Try.f44.results.toList R) (argEnv [t0, t1, t2, t3]) w := by kernel_rfl
theorem F44_wp {t0 : Value} {t1 : Value} {t2 : Value} {t3 : Value} {w : World} {R : Value → World → Prop} (h : F44_den t0 t1 t2 t3 w R) : callD Try.prog 44 #[t0, t1, t2, t3] w R :=
  callD.of_calls (fn := Try.f44) (c := Try.f44.body.getD .skip) Try.func44 (by kernel_rfl) (by kernel_rfl) (calls_of_vc (args := [t0, t1, t2, t3]) F44_ann mixed Try.func44 (by kernel_rfl) (by kernel_rfl) (F44_eq t0 t1 t2 t3 w R ▸ h))

/-- (*taciturn/interp.frame).number -/
def F45_ann : Ann := (Ann.seq Ann.leaf (Ann.seq (Ann.seq Ann.leaf (Ann.block (Ann.seq Ann.leaf (Ann.cond (Ann.seq Ann.leaf Ann.leaf) (Ann.seq Ann.leaf (Ann.cond (Ann.seq Ann.leaf Ann.leaf) (Ann.seq Ann.leaf (Ann.cond (Ann.seq Ann.leaf Ann.leaf) (Ann.seq Ann.leaf (Ann.cond (Ann.seq Ann.leaf (Ann.seq (Ann.draw [0, 1, 2, 0, 8, 16, 0, 64, 128, 292, 1023] [0, 1, 2, 0, 8, 16, 0, 64, 128, 292, 512] 0 11 2047 (.take 0 (.take 1 (.take 2 (.take 3 (.take 4 (.take 5 (.take 6 (.take 7 (.take 8 (.only 9 (.take 10 .done)))))))))))) Ann.leaf)) Ann.leaf)))))))))) (Ann.seq Ann.leaf (Ann.seq (Ann.draw [0, 0, 2, 4, 0, 16, 32, 73, 255] [0, 0, 2, 4, 0, 16, 32, 73, 128] 0 9 511 (.take 0 (.take 1 (.take 2 (.take 3 (.take 4 (.take 5 (.take 6 (.only 7 (.take 8 .done)))))))))) Ann.leaf))))
def F45_den (t0 : Value) (t1 : Value) (w : World) (R : Value → World → Prop) : Prop :=
  V Try.prog (do eqGuard .eql 3 (Operand.tmp 7) (Operand.const (Value.int IntKind.i64 15)) t1 (Value.int IntKind.i64 15); binOp .eql 3 t1 (Value.int IntKind.i64 15)) w fun t9 w1 =>
  ifD t9 (
  callD Try.prog 42 #[t0] w1 fun t11 w2 =>
  callD Try.prog 58 #[t11] w2 fun t12 w3 =>
  R t12 w3) (
  V Try.prog (do eqGuard .eql 3 (Operand.tmp 7) (Operand.const (Value.int IntKind.i64 16)) t1 (Value.int IntKind.i64 16); binOp .eql 3 t1 (Value.int IntKind.i64 16)) w1 fun t14 w4 =>
  ifD t14 (
  callD Try.prog 42 #[t0] w4 fun t16 w5 =>
  callD Try.prog 59 #[t16] w5 fun t17 w6 =>
  R t17 w6) (
  V Try.prog (do eqGuard .eql 3 (Operand.tmp 7) (Operand.const (Value.int IntKind.i64 26)) t1 (Value.int IntKind.i64 26); binOp .eql 3 t1 (Value.int IntKind.i64 26)) w4 fun t19 w7 =>
  ifD t19 (
  callD Try.prog 42 #[t0] w7 fun t21 w8 =>
  callD Try.prog 60 #[t21, (Value.int IntKind.i32 0)] w8 fun t22 w9 =>
  R t22 w9) (
  V Try.prog (do eqGuard .eql 3 (Operand.tmp 7) (Operand.const (Value.int IntKind.i64 22)) t1 (Value.int IntKind.i64 22); binOp .eql 3 t1 (Value.int IntKind.i64 22)) w7 fun t24 w10 =>
  ifD t24 (
  callD Try.prog 33 #[t0, (Value.int IntKind.i64 3)] w10 fun t26 w11 =>
  drawD w11 fun S10 w12 =>
  yieldS Try.prog S10 (Instr.indexAt 22 t26 (Value.int IntKind.i64 0)) fun t28 =>
  yieldS Try.prog S10 (Instr.loadAt 21 t28) fun t29 =>
  yieldS Try.prog S10 (Instr.indexAt 22 t26 (Value.int IntKind.i64 1)) fun t31 =>
  yieldS Try.prog S10 (Instr.loadAt 21 t31) fun t32 =>
  yieldS Try.prog S10 (Instr.indexAt 22 t26 (Value.int IntKind.i64 2)) fun t34 =>
  yieldS Try.prog S10 (Instr.loadAt 21 t34) fun t35 =>
  callD Try.prog 61 #[t29, t32, t35] w12 fun t36 w13 =>
  S10 w13 ∧
  R t36 w13) (
  callD Try.prog 33 #[t0, (Value.int IntKind.i64 2)] w10 fun t38 w14 =>
  drawD w14 fun S12 w15 =>
  yieldS Try.prog S12 (Instr.indexAt 22 t38 (Value.int IntKind.i64 0)) fun t41 =>
  yieldS Try.prog S12 (Instr.loadAt 21 t41) fun t42 =>
  yieldS Try.prog S12 (Instr.indexAt 22 t38 (Value.int IntKind.i64 1)) fun t44 =>
  yieldS Try.prog S12 (Instr.loadAt 21 t44) fun t45 =>
  callD Try.prog 62 #[t1, t42, t45] w15 fun t46 w16 =>
  S12 w16 ∧
  R t46 w16))))
theorem F45_eq (t0 : Value) (t1 : Value) (w : World) (R : Value → World → Prop) : F45_den t0 t1 w R = vc Try.prog F45_ann (Try.f45.body.getD .skip) (retE Try.prog Try.f45.results.toList R) (argEnv [t0, t1]) w := by kernel_rfl
theorem F45_wp {t0 : Value} {t1 : Value} {w : World} {R : Value → World → Prop} (h : F45_den t0 t1 w R) : callD Try.prog 45 #[t0, t1] w R :=
  callD.of_calls (fn := Try.f45) (c := Try.f45.body.getD .skip) Try.func45 (by kernel_rfl) (by kernel_rfl) (calls_of_vc (args := [t0, t1]) F45_ann mixed Try.func45 (by kernel_rfl) (by kernel_rfl) (F45_eq t0 t1 w R ▸ h))

/-- taciturn/interp.binary -/
def F62_ann : Ann := (Ann.seq Ann.leaf (Ann.seq (Ann.seq Ann.leaf (Ann.block (Ann.seq Ann.leaf (Ann.cond (Ann.seq Ann.leaf Ann.leaf) (Ann.seq Ann.leaf (Ann.cond (Ann.seq Ann.leaf Ann.leaf) (Ann.seq Ann.leaf (Ann.cond (Ann.seq Ann.leaf Ann.leaf) (Ann.seq Ann.leaf (Ann.cond (Ann.seq Ann.leaf Ann.leaf) (Ann.seq Ann.leaf (Ann.cond (Ann.seq Ann.leaf Ann.leaf) (Ann.seq Ann.leaf (Ann.cond (Ann.seq Ann.leaf Ann.leaf) (Ann.seq Ann.leaf (Ann.cond (Ann.seq Ann.leaf Ann.leaf) (Ann.seq Ann.leaf (Ann.cond (Ann.seq Ann.leaf Ann.leaf) (Ann.seq Ann.leaf (Ann.cond (Ann.seq Ann.leaf Ann.leaf) (Ann.seq Ann.leaf (Ann.cond (Ann.seq Ann.leaf Ann.leaf) (Ann.seq Ann.leaf (Ann.cond (Ann.seq Ann.leaf Ann.leaf) Ann.leaf)))))))))))))))))))))))) (Ann.seq Ann.leaf Ann.leaf)))
def F62_den (t0 : Value) (t1 : Value) (t2 : Value) (w : World) (R : Value → World → Prop) : Prop :=
  V Try.prog (do eqGuard .eql 3 (Operand.tmp 7) (Operand.const (Value.int IntKind.i64 6)) t0 (Value.int IntKind.i64 6); binOp .eql 3 t0 (Value.int IntKind.i64 6)) w fun t9 w1 =>
  ifD t9 (
  callD Try.prog 77 #[t1, t2] w1 fun t12 w2 =>
  R t12 w2) (
  V Try.prog (do eqGuard .eql 3 (Operand.tmp 7) (Operand.const (Value.int IntKind.i64 7)) t0 (Value.int IntKind.i64 7); binOp .eql 3 t0 (Value.int IntKind.i64 7)) w1 fun t14 w3 =>
  ifD t14 (
  callD Try.prog 78 #[t1, t2] w3 fun t17 w4 =>
  R t17 w4) (
  V Try.prog (do eqGuard .eql 3 (Operand.tmp 7) (Operand.const (Value.int IntKind.i64 8)) t0 (Value.int IntKind.i64 8); binOp .eql 3 t0 (Value.int IntKind.i64 8)) w3 fun t19 w5 =>
  ifD t19 (
  callD Try.prog 79 #[t1, t2] w5 fun t22 w6 =>
  R t22 w6) (
  V Try.prog (do eqGuard .eql 3 (Operand.tmp 7) (Operand.const (Value.int IntKind.i64 9)) t0 (Value.int IntKind.i64 9); binOp .eql 3 t0 (Value.int IntKind.i64 9)) w5 fun t24 w7 =>
  ifD t24 (
  callD Try.prog 80 #[t1, t2] w7 fun t27 w8 =>
  R t27 w8) (
  V Try.prog (do eqGuard .eql 3 (Operand.tmp 7) (Operand.const (Value.int IntKind.i64 10)) t0 (Value.int IntKind.i64 10); binOp .eql 3 t0 (Value.int IntKind.i64 10)) w7 fun t29 w9 =>
  ifD t29 (
  callD Try.prog 81 #[t1, t2] w9 fun t32 w10 =>
  R t32 w10) (
  V Try.prog (do eqGuard .eql 3 (Operand.tmp 7) (Operand.const (Value.int IntKind.i64 11)) t0 (Value.int IntKind.i64 11); binOp .eql 3 t0 (Value.int IntKind.i64 11)) w9 fun t34 w11 =>
  ifD t34 (
  callD Try.prog 82 #[t1, t2] w11 fun t37 w12 =>
  R t37 w12) (
  V Try.prog (do eqGuard .eql 3 (Operand.tmp 7) (Operand.const (Value.int IntKind.i64 12)) t0 (Value.int IntKind.i64 12); binOp .eql 3 t0 (Value.int IntKind.i64 12)) w11 fun t39 w13 =>
  ifD t39 (
  callD Try.prog 83 #[t1, t2] w13 fun t42 w14 =>
  R t42 w14) (
  V Try.prog (do eqGuard .eql 3 (Operand.tmp 7) (Operand.const (Value.int IntKind.i64 13)) t0 (Value.int IntKind.i64 13); binOp .eql 3 t0 (Value.int IntKind.i64 13)) w13 fun t44 w15 =>
  ifD t44 (
  callD Try.prog 84 #[t1, t2] w15 fun t47 w16 =>
  R t47 w16) (
  V Try.prog (do eqGuard .eql 3 (Operand.tmp 7) (Operand.const (Value.int IntKind.i64 14)) t0 (Value.int IntKind.i64 14); binOp .eql 3 t0 (Value.int IntKind.i64 14)) w15 fun t49 w17 =>
  ifD t49 (
  callD Try.prog 85 #[t1, t2] w17 fun t52 w18 =>
  R t52 w18) (
  V Try.prog (do eqGuard .eql 3 (Operand.tmp 7) (Operand.const (Value.int IntKind.i64 19)) t0 (Value.int IntKind.i64 19); binOp .eql 3 t0 (Value.int IntKind.i64 19)) w17 fun t54 w19 =>
  ifD t54 (
  callD Try.prog 60 #[t1, t2] w19 fun t57 w20 =>
  R t57 w20) (
  V Try.prog (do eqGuard .eql 3 (Operand.tmp 7) (Operand.const (Value.int IntKind.i64 20)) t0 (Value.int IntKind.i64 20); binOp .eql 3 t0 (Value.int IntKind.i64 20)) w19 fun t59 w21 =>
  ifD t59 (
  callD Try.prog 86 #[t1, t2] w21 fun t62 w22 =>
  R t62 w22) (
  callD Try.prog 87 #[t1, t2] w21 fun t65 w23 =>
  R t65 w23)))))))))))
theorem F62_eq (t0 : Value) (t1 : Value) (t2 : Value) (w : World) (R : Value → World → Prop) : F62_den t0 t1 t2 w R = vc Try.prog F62_ann (Try.f62.body.getD .skip) (retE Try.prog Try.f62.results.toList R) (argEnv [t0, t1, t2]) w := by kernel_rfl
theorem F62_wp {t0 : Value} {t1 : Value} {t2 : Value} {w : World} {R : Value → World → Prop} (h : F62_den t0 t1 t2 w R) : callD Try.prog 62 #[t0, t1, t2] w R :=
  callD.of_calls (fn := Try.f62) (c := Try.f62.body.getD .skip) Try.func62 (by kernel_rfl) (by kernel_rfl) (calls_of_vc (args := [t0, t1, t2]) F62_ann mixed Try.func62 (by kernel_rfl) (by kernel_rfl) (F62_eq t0 t1 t2 w R ▸ h))

/-- taciturn/word.Add -/
def F77_ann : Ann := (Ann.seq Ann.leaf (Ann.seq Ann.leaf Ann.leaf))
def F77_den (t0 : Value) (t1 : Value) (w : World) (R : Value → World → Prop) : Prop :=
  V Try.prog (binOp .add 21 t0 t1) w fun t7 w1 =>
  R t7 w1
theorem F77_eq (t0 : Value) (t1 : Value) (w : World) (R : Value → World → Prop) : F77_den t0 t1 w R = vc Try.prog F77_ann (Try.f77.body.getD .skip) (retE Try.prog Try.f77.results.toList R) (argEnv [t0, t1]) w := by kernel_rfl
theorem F77_wp {t0 : Value} {t1 : Value} {w : World} {R : Value → World → Prop} (h : F77_den t0 t1 w R) : callD Try.prog 77 #[t0, t1] w R :=
  callD.of_calls (fn := Try.f77) (c := Try.f77.body.getD .skip) Try.func77 (by kernel_rfl) (by kernel_rfl) (calls_of_vc (args := [t0, t1]) F77_ann mixed Try.func77 (by kernel_rfl) (by kernel_rfl) (F77_eq t0 t1 w R ▸ h))

/-- taciturn/word.Sub -/
def F78_ann : Ann := (Ann.seq Ann.leaf (Ann.seq Ann.leaf Ann.leaf))
def F78_den (t0 : Value) (t1 : Value) (w : World) (R : Value → World → Prop) : Prop :=
  V Try.prog (binOp .sub 21 t0 t1) w fun t7 w1 =>
  R t7 w1
theorem F78_eq (t0 : Value) (t1 : Value) (w : World) (R : Value → World → Prop) : F78_den t0 t1 w R = vc Try.prog F78_ann (Try.f78.body.getD .skip) (retE Try.prog Try.f78.results.toList R) (argEnv [t0, t1]) w := by kernel_rfl
theorem F78_wp {t0 : Value} {t1 : Value} {w : World} {R : Value → World → Prop} (h : F78_den t0 t1 w R) : callD Try.prog 78 #[t0, t1] w R :=
  callD.of_calls (fn := Try.f78) (c := Try.f78.body.getD .skip) Try.func78 (by kernel_rfl) (by kernel_rfl) (calls_of_vc (args := [t0, t1]) F78_ann mixed Try.func78 (by kernel_rfl) (by kernel_rfl) (F78_eq t0 t1 w R ▸ h))

/-- taciturn/word.Mul -/
def F79_ann : Ann := (Ann.seq Ann.leaf (Ann.seq Ann.leaf Ann.leaf))
def F79_den (t0 : Value) (t1 : Value) (w : World) (R : Value → World → Prop) : Prop :=
  V Try.prog (binOp .mul 21 t0 t1) w fun t7 w1 =>
  R t7 w1
theorem F79_eq (t0 : Value) (t1 : Value) (w : World) (R : Value → World → Prop) : F79_den t0 t1 w R = vc Try.prog F79_ann (Try.f79.body.getD .skip) (retE Try.prog Try.f79.results.toList R) (argEnv [t0, t1]) w := by kernel_rfl
theorem F79_wp {t0 : Value} {t1 : Value} {w : World} {R : Value → World → Prop} (h : F79_den t0 t1 w R) : callD Try.prog 79 #[t0, t1] w R :=
  callD.of_calls (fn := Try.f79) (c := Try.f79.body.getD .skip) Try.func79 (by kernel_rfl) (by kernel_rfl) (calls_of_vc (args := [t0, t1]) F79_ann mixed Try.func79 (by kernel_rfl) (by kernel_rfl) (F79_eq t0 t1 w R ▸ h))

/-- taciturn/word.And -/
def F80_ann : Ann := (Ann.seq Ann.leaf (Ann.seq Ann.leaf Ann.leaf))
def F80_den (t0 : Value) (t1 : Value) (w : World) (R : Value → World → Prop) : Prop :=
  V Try.prog (binOp .and 21 t0 t1) w fun t7 w1 =>
  R t7 w1
theorem F80_eq (t0 : Value) (t1 : Value) (w : World) (R : Value → World → Prop) : F80_den t0 t1 w R = vc Try.prog F80_ann (Try.f80.body.getD .skip) (retE Try.prog Try.f80.results.toList R) (argEnv [t0, t1]) w := by kernel_rfl
theorem F80_wp {t0 : Value} {t1 : Value} {w : World} {R : Value → World → Prop} (h : F80_den t0 t1 w R) : callD Try.prog 80 #[t0, t1] w R :=
  callD.of_calls (fn := Try.f80) (c := Try.f80.body.getD .skip) Try.func80 (by kernel_rfl) (by kernel_rfl) (calls_of_vc (args := [t0, t1]) F80_ann mixed Try.func80 (by kernel_rfl) (by kernel_rfl) (F80_eq t0 t1 w R ▸ h))

/-- taciturn/word.Or -/
def F81_ann : Ann := (Ann.seq Ann.leaf (Ann.seq Ann.leaf Ann.leaf))
def F81_den (t0 : Value) (t1 : Value) (w : World) (R : Value → World → Prop) : Prop :=
  V Try.prog (binOp .or 21 t0 t1) w fun t7 w1 =>
  R t7 w1
theorem F81_eq (t0 : Value) (t1 : Value) (w : World) (R : Value → World → Prop) : F81_den t0 t1 w R = vc Try.prog F81_ann (Try.f81.body.getD .skip) (retE Try.prog Try.f81.results.toList R) (argEnv [t0, t1]) w := by kernel_rfl
theorem F81_wp {t0 : Value} {t1 : Value} {w : World} {R : Value → World → Prop} (h : F81_den t0 t1 w R) : callD Try.prog 81 #[t0, t1] w R :=
  callD.of_calls (fn := Try.f81) (c := Try.f81.body.getD .skip) Try.func81 (by kernel_rfl) (by kernel_rfl) (calls_of_vc (args := [t0, t1]) F81_ann mixed Try.func81 (by kernel_rfl) (by kernel_rfl) (F81_eq t0 t1 w R ▸ h))

/-- taciturn/word.Xor -/
def F82_ann : Ann := (Ann.seq Ann.leaf (Ann.seq Ann.leaf Ann.leaf))
def F82_den (t0 : Value) (t1 : Value) (w : World) (R : Value → World → Prop) : Prop :=
  V Try.prog (binOp .xor 21 t0 t1) w fun t7 w1 =>
  R t7 w1
theorem F82_eq (t0 : Value) (t1 : Value) (w : World) (R : Value → World → Prop) : F82_den t0 t1 w R = vc Try.prog F82_ann (Try.f82.body.getD .skip) (retE Try.prog Try.f82.results.toList R) (argEnv [t0, t1]) w := by kernel_rfl
theorem F82_wp {t0 : Value} {t1 : Value} {w : World} {R : Value → World → Prop} (h : F82_den t0 t1 w R) : callD Try.prog 82 #[t0, t1] w R :=
  callD.of_calls (fn := Try.f82) (c := Try.f82.body.getD .skip) Try.func82 (by kernel_rfl) (by kernel_rfl) (calls_of_vc (args := [t0, t1]) F82_ann mixed Try.func82 (by kernel_rfl) (by kernel_rfl) (F82_eq t0 t1 w R ▸ h))

/-- taciturn/word.Shl -/
def F83_ann : Ann := (Ann.seq Ann.leaf (Ann.seq Ann.leaf Ann.leaf))
def F83_den (t0 : Value) (t1 : Value) (w : World) (R : Value → World → Prop) : Prop :=
  V Try.prog (binOp .and 21 t1 (Value.int IntKind.i32 31)) w fun t7 w1 =>
  V Try.prog (binOp .shl 21 t0 t7) w1 fun t8 w2 =>
  R t8 w2
theorem F83_eq (t0 : Value) (t1 : Value) (w : World) (R : Value → World → Prop) : F83_den t0 t1 w R = vc Try.prog F83_ann (Try.f83.body.getD .skip) (retE Try.prog Try.f83.results.toList R) (argEnv [t0, t1]) w := by kernel_rfl
theorem F83_wp {t0 : Value} {t1 : Value} {w : World} {R : Value → World → Prop} (h : F83_den t0 t1 w R) : callD Try.prog 83 #[t0, t1] w R :=
  callD.of_calls (fn := Try.f83) (c := Try.f83.body.getD .skip) Try.func83 (by kernel_rfl) (by kernel_rfl) (calls_of_vc (args := [t0, t1]) F83_ann mixed Try.func83 (by kernel_rfl) (by kernel_rfl) (F83_eq t0 t1 w R ▸ h))

/-- taciturn/word.Shr -/
def F84_ann : Ann := (Ann.seq Ann.leaf (Ann.seq Ann.leaf Ann.leaf))
def F84_den (t0 : Value) (t1 : Value) (w : World) (R : Value → World → Prop) : Prop :=
  V Try.prog (convert 21 40 t0) w fun t6 w1 =>
  V Try.prog (binOp .and 21 t1 (Value.int IntKind.i32 31)) w1 fun t8 w2 =>
  V Try.prog (binOp .shr 40 t6 t8) w2 fun t9 w3 =>
  V Try.prog (convert 40 21 t9) w3 fun t10 w4 =>
  R t10 w4
theorem F84_eq (t0 : Value) (t1 : Value) (w : World) (R : Value → World → Prop) : F84_den t0 t1 w R = vc Try.prog F84_ann (Try.f84.body.getD .skip) (retE Try.prog Try.f84.results.toList R) (argEnv [t0, t1]) w := by kernel_rfl
theorem F84_wp {t0 : Value} {t1 : Value} {w : World} {R : Value → World → Prop} (h : F84_den t0 t1 w R) : callD Try.prog 84 #[t0, t1] w R :=
  callD.of_calls (fn := Try.f84) (c := Try.f84.body.getD .skip) Try.func84 (by kernel_rfl) (by kernel_rfl) (calls_of_vc (args := [t0, t1]) F84_ann mixed Try.func84 (by kernel_rfl) (by kernel_rfl) (F84_eq t0 t1 w R ▸ h))

/-- taciturn/word.Sar -/
def F85_ann : Ann := (Ann.seq Ann.leaf (Ann.seq Ann.leaf Ann.leaf))
def F85_den (t0 : Value) (t1 : Value) (w : World) (R : Value → World → Prop) : Prop :=
  V Try.prog (binOp .and 21 t1 (Value.int IntKind.i32 31)) w fun t7 w1 =>
  V Try.prog (binOp .shr 21 t0 t7) w1 fun t8 w2 =>
  R t8 w2
theorem F85_eq (t0 : Value) (t1 : Value) (w : World) (R : Value → World → Prop) : F85_den t0 t1 w R = vc Try.prog F85_ann (Try.f85.body.getD .skip) (retE Try.prog Try.f85.results.toList R) (argEnv [t0, t1]) w := by kernel_rfl
theorem F85_wp {t0 : Value} {t1 : Value} {w : World} {R : Value → World → Prop} (h : F85_den t0 t1 w R) : callD Try.prog 85 #[t0, t1] w R :=
  callD.of_calls (fn := Try.f85) (c := Try.f85.body.getD .skip) Try.func85 (by kernel_rfl) (by kernel_rfl) (calls_of_vc (args := [t0, t1]) F85_ann mixed Try.func85 (by kernel_rfl) (by kernel_rfl) (F85_eq t0 t1 w R ▸ h))

/-- taciturn/word.Lt -/
def F86_ann : Ann := (Ann.seq Ann.leaf (Ann.seq Ann.leaf (Ann.seq Ann.leaf Ann.leaf)))
def F86_den (t0 : Value) (t1 : Value) (w : World) (R : Value → World → Prop) : Prop :=
  V Try.prog (convert 21 2 t0) w fun t7 w1 =>
  V Try.prog (convert 21 2 t1) w1 fun t9 w2 =>
  V Try.prog (binOp .sub 2 t7 t9) w2 fun t10 w3 =>
  V Try.prog (convert 2 142 t10) w3 fun t12 w4 =>
  V Try.prog (binOp .shr 142 t12 (Value.int IntKind.u64 63)) w4 fun t13 w5 =>
  V Try.prog (convert 142 21 t13) w5 fun t14 w6 =>
  R t14 w6
theorem F86_eq (t0 : Value) (t1 : Value) (w : World) (R : Value → World → Prop) : F86_den t0 t1 w R = vc Try.prog F86_ann (Try.f86.body.getD .skip) (retE Try.prog Try.f86.results.toList R) (argEnv [t0, t1]) w := by kernel_rfl
theorem F86_wp {t0 : Value} {t1 : Value} {w : World} {R : Value → World → Prop} (h : F86_den t0 t1 w R) : callD Try.prog 86 #[t0, t1] w R :=
  callD.of_calls (fn := Try.f86) (c := Try.f86.body.getD .skip) Try.func86 (by kernel_rfl) (by kernel_rfl) (calls_of_vc (args := [t0, t1]) F86_ann mixed Try.func86 (by kernel_rfl) (by kernel_rfl) (F86_eq t0 t1 w R ▸ h))

end Go.Proofs.Ytbhnelajekgliaa
